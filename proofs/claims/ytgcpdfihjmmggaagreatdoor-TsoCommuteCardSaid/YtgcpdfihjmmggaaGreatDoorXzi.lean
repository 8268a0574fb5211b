import Derived.Test.YtgcpdfihjmmggaaGreatDoorXzh
namespace Go.Proofs.S25
open Go Go.AV
open Go.IntKind renaming i64 -> j6
open Go.AV.ex (ey)
noncomputable section
variable {p:ai} {b:Int} {s:ja} {a:Int} {l:List i5} {k:Nat} {m:i8} {t:i5} {i:aK} {x:Int} {n:Int} {id:Int}
structure Rch (l:List i5) (m:i8):Prop where
 own:∀ t∈l,∀ x∈t.ic,m.aa.getD x.toNat 0=t.id
 wait:∀ id∈kw m,∃ t∈l,t.id=id/\t.gH=1
 i7:∀ t∈l,8<=t.id ->∃ u∈l,8*(u.id+1)<=t.id/\t.id<8*(u.id+1)+u.i7
def Uq (l:List i5):Prop:=∀ t∈l,0<=t.id/\t.i7<=7/\∀ u∈l,u.id=t.id ->u=t
theorem apr (V:∀ j,j<l.length ->z5e p b l j):Uq l:=λt x=>by
 have⟨j,k,e⟩:=yq x
 have g:∀ i (h:i<l.length),l.getD i ao=l[i]:=λi h=>by rw[x7,xe h];rfl
 have F:=oo (mD.1 (V j k).1).2
 rw[g j k,e]at F
 refine⟨(tO F.id).1,F.i7.2,λu u y=>?_⟩
 have⟨i,f,m⟩:=yq u
 have R:=UP V
 have :i=j:=by
  rcases jp i j with h |h |h;have :=R j i h k;rw[g i f,g j k,e,m]at this;omega;exact h;have :=R i j h f;rw[g i f,g j k,e,m]at this;omega
 grind
theorem aus {L:List i5} {m k:i8} {t T:i5} (R:Rch l m) (U:Uq l) (K:t∈l) (f:T.id=t.id) (V:t.i7<=T.i7)
 (oT:∀ y∈T.ic,k.aa.getD y.toNat 0=t.id) (oO:∀ y:Nat,m.aa.getD y 0≠t.id ->m.aa.getD y 0≠ -1 ->k.aa.getD y 0=m.aa.getD y 0)
 (W:∀ id∈kw k,id≠t.id/\id∈kw m∨id=t.id/\T.gH=1)
 (a:∀ x∈L,x=T∨x∈l/\x.id≠t.id∨x.ic=[]/\8*(t.id+1)<=x.id/\x.id<8*(t.id+1)+T.i7) (b:T∈L) (c:∀ x∈l,x.id≠t.id ->x∈L):Rch L k:=by
 have Q:∀ x∈l,8<=x.id ->∃ u∈L,8*(u.id+1)<=x.id/\x.id<8*(u.id+1)+u.i7:=λx j H=>by
  have⟨u,E,h,i⟩:=R.i7 x j H;by_cases e:u.id=t.id;have :=(U t K).2.2 u E e;subst this;exact⟨T,b,by rw[f];omega,by rw[f];omega⟩;exact⟨u,c u E e,h,i⟩
 refine⟨λx j y J=>?_,λid N=>?_,λx j H=>?_⟩;rcases a x j with rfl | ⟨h,i⟩ | ⟨h,_⟩;grind;have :=R.own x h y J;have F:=(U x h).1;rw[oO _ (by rw[this];exact i) (by rw[this];omega)];exact this;grind;rcases W id N with⟨h,i⟩ | ⟨h,i⟩
 have⟨u,E,e,F⟩:=R.wait id i;exact⟨u,c u E (by rw[e];exact h),e,F⟩;exact⟨T,b,by rw[f,h],i⟩;rcases a x j with rfl | ⟨h,_⟩ | ⟨_,i,F⟩;grind;grind;exact⟨T,b,by rw[f];exact i,by rw[f];exact F⟩
theorem avm (e:iJ m x) (h:0<=id):bc m x id (-1) id=({m with aa:=m.aa.set x.toNat id},0)/\0<=x/\x<m.aa.length/\m.aa.getD x.toNat 0= -1:=by
 unfold iJ at e;rw[xa,xo,xo]at e;have⟨f,j⟩:=e;have i:=(kM f).2;unfold bc;grind
theorem zd (f:ca m) (e:0<=x/\x<n):bC m x n=0:=by grind[bC]
theorem auh (f:ca m) (e:0<=x/\x<m.aa.length) (i:0<=id) (h:m.aa.getD x.toNat 0=id):bc m x id id (-1)=({m with aa:=m.aa.set x.toNat (-1)},0):=by
 unfold bc;rw[x8 (by rw[zd f e];simp),x8 O,x8 (λq=>q h)]
theorem av2 (h:nt m id):id∈kw m:=by grind[nt,kw,List.mem_flatten.2,zcu.1]
theorem aqk (l:List Int) (x y:Nat) (v:Int) (e:x<l.length):(l.set x v).getD y 0=if x=y then v else l.getD y 0:=by
 split;grind;grind
structure aq4 (m:i8) (t:i5) (i:aK) (e:Ev):Prop where
 ok:(cY m t i e).2.2=0
 oT:∀ y∈(uk t i (cY m t i e).2.1).ic,(cY m t i e).1.aa.getD y.toNat 0=t.id
 oO:∀ y:Nat,m.aa.getD y 0≠t.id ->m.aa.getD y 0≠ -1 ->(cY m t i e).1.aa.getD y 0=m.aa.getD y 0
 W:∀ id∈kw (cY m t i e).1,id≠t.id/\id∈kw m∨id=t.id/\(uk t i (cY m t i e).2.1).gH=1
theorem au8 {v:Int} (h:ca m) (e:0<=x/\x<m.eA.length) (f: -2147483648<=v/\v<=2147483647):zr m x v=({m with eA:=m.eA.set x.toNat v},0):=by grind[zr,zd]
theorem auj {r:Int} (h:¬ (i.op=15∨i.op=16∨i.op=17∨i.op=18)):(uk t i r).ic=t.ic:=by
 unfold uk;rw[x8 O,x8 O,x8 O];split<;>rfl
structure atl (m:i8) (i:aK):Prop where
 o:i.op=15∨i.op=16∨i.op=17 ->0<=i.ii/\i.ii<m.aa.length
 n:i.op=18 ->0<=i.n/\i.n<m.aa.length
theorem aul (j:ec p m) (h:jh p i n=0):atl m i:=by
 have e:=(sN.1 j).2.2.2.1;have f:=(vO h).2.1;refine⟨λh=>?_,λh=>?_⟩;have k:jI p i.op=p.aP.length:=by unfold jI;rw[x8 O,x9 O]
 unfold ky at f;grind;unfold ky at f;grind
def apzq {α:Type} (l:List α):Option (Nat×α) ->List α
 |none=>l
 |some (i,v)=>l.set i v
structure MDo where
 v:Option (Nat×Int)
 o:Option (Nat×Int)
 q:Option (Nat×List Int)
 r:Option Int
 A:List Int
def sgR (l:List Int):Option Int ->List Int
 |none=>l
 |some x=>cU l x
def rdV (m:i8) (i:aK):Int:=m.eA.getD i.ii.toNat 0
def quV (m:i8) (i:aK):List Int:=m.a6.getD i.ii.toNat []
def mdo (m:i8) (t:i5) (i:aK):MDo where
 v:=if i.op=10 then some (i.ii.toNat,bp t i.b)else if i.op=11 then some (i.ii.toNat,(app 1 (rdV m i) (bp t i.b)).1)else if i.op=12/\rdV m i=bp t i.b then some (i.ii.toNat,bp t i.c)else none
 o:=if i.op=15∨(i.op=17/\m.aa.getD i.ii.toNat 0= -1)then some (i.ii.toNat,t.id)else if i.op=16 then some (i.ii.toNat,-1)else if i.op=18/\t.gH=0 then some (i.n.toNat,-1)else if i.op=18/\t.gH≠1 then some (i.n.toNat,t.id)else none
 q:=if i.op=18/\t.gH=0 then some (i.ii.toNat,quV m i++[t.id])else if i.op=19 then some (i.ii.toNat,(quV m i).drop 1)else if i.op=20 then some (i.ii.toNat,[])else none
 r:=if i.op=18/\t.gH=1 then some t.id else none
 A:=if i.op=19 then(quV m i).take 1 else if i.op=20 then quV m i else []
def nl (m:i8) (d:MDo):i8:=⟨apzq m.eA d.v,apzq m.aa d.o,apzq m.a6 d.q,d.A.foldl c9 (sgR m.lT d.r)⟩
def pi (m:i8) (t:i5) (i:aK):Int:=
 if i.op=8∨i.op=14∨i.op=10∨i.op=11 then rdV m i else if i.op=12 then(if rdV m i=bp t i.b then 1 else 0)else if i.op=17 then(if m.aa.getD i.ii.toNat 0= -1 then 1 else 0)else if i.op=21 then eU t else 0
theorem aCm {n c:Int} (hf:ca m) (hc:0<=c/\c<m.a6.length) (k:Nat) (hk:(min n ((m.a6.getD c.toNat []).length:Int)).toNat=k):zi m c n=(ud m c.toNat k,min n ((m.a6.getD c.toNat []).length:Int),0):=by
 unfold zi;rw[x8 (by rw[zd hf hc];simp),hk]
theorem aD7 (G:mA s.l5 i) (M:atl s.l5 i) (J:0<=t.id) (Z:∀ r∈t.aw,-2147483648<=r/\r<=2147483647) (hp:∀ y∈t.ic,0<=y) (Q:t.gH=0∨(t.gH=1∨t.gH=2)/\i.op=18) (k:bS t i=0)
 (H:∀ y∈t.ic,s.l5.aa.getD y.toNat 0=t.id) (N:t.id∈kw s.l5 ->t.gH=1) (U:z20 s t i) (h9:i.op≠9):cY s.l5 t i (m8 s t i)=(nl s.l5 (mdo s.l5 t i),pi s.l5 t i,0):=by
 have m:=G.form;have E:∀ j,-2147483648<=bp t j/\bp t j<=2147483647:=λj=>by
  unfold bp;rcases kb j.toNat t.aw.length with h |h;exact Z _ (oI h);rw[x7,y9 h];decide
 have n0:i.op≠18 ->t.id∉kw s.l5:=λh q=>by have :=N q;omega
 have K:∀ v,(i.op=8∨i.op=9∨i.op=10∨i.op=11∨i.op=12∨i.op=14) -> -2147483648<=v/\v<=2147483647 ->zr s.l5 i.ii v=({s.l5 with eA:=s.l5.eA.set i.ii.toNat v},0):=λv h Y=>au8 m (G.v h) Y;have rd:(i.op=8∨i.op=9∨i.op=10∨i.op=11∨i.op=12∨i.op=14) ->(fo s.l5 i.ii).1=rdV s.l5 i:=λh=>by
  unfold fo;rw[x8 (by rw[zd m (G.v h)];simp)];rfl
 have fr:∀ x:Int,0<=x/\x<s.l5.aa.length ->(iJ s.l5 x=true↔s.l5.aa.getD x.toNat 0= -1):=λx u=>by
  unfold iJ;rw[zd m u];simp
 have ic:∀ x,aQ t.ic x=true ->s.l5.aa.getD x.toNat 0=t.id:=λx h=>H x (zcu.1 h);rcases zbg G.ok.op with e |e |e |e |e |e |e |e |e |e |e |e |e |e |e;simp[cY,m8,bz,iP,nl,mdo,pi,apzq,sgR,e,rd (by omega)];omega;have :=K (bp t i.b) (by omega) (E _);simp[cY,m8,bz,iP,nl,mdo,pi,apzq,sgR,e,rd (by omega),this];have :=K (app 1 (rdV s.l5 i) (bp t i.b)).1 (by omega) (aoa _ _ _);simp[cY,m8,bz,iP,nl,mdo,pi,apzq,sgR,e,rd (by omega),this];have :=K (bp t i.c) (by omega) (E _);by_cases q:rdV s.l5 i=bp t i.b;simp[cY,m8,bz,iP,nl,mdo,pi,apzq,sgR,e,rd (by omega),this,q];simp[cY,m8,bz,iP,nl,mdo,pi,apzq,sgR,e,rd (by omega),q];simp[cY,m8,bz,iP,nl,mdo,pi,apzq,sgR,e];simp[cY,m8,bz,iP,nl,mdo,pi,apzq,sgR,e,rd (by omega)];have f:iJ s.l5 i.ii=true:=by simpa only[z20,e,reduceIte,Int.reduceEq]using U
 have⟨a,_⟩:=avm f J;simp[cY,m8,bz,iP,nl,mdo,pi,apzq,sgR,e,a];have R:aQ t.ic i.ii=true:=by
  unfold bS at k;rw[x8 (by omega),x9 (by omega),x8 (show ¬ i.op=18 by omega)]at k;cases u:aQ t.ic i.ii with
  |true=>rfl
  |false=>rw[u]at k;exact absurd k am
 have a:=auh m (M.o (by omega)) J (ic _ R);simp[cY,m8,bz,iP,nl,mdo,pi,apzq,sgR,e,a];have q:=fr i.ii (M.o (by omega));by_cases f:iJ s.l5 i.ii=true;have⟨a,_,_,b⟩:=avm f J;simp only[cY,m8,iP,ek,f,e,reduceIte,Int.reduceEq,ju,jv,jr,nl,mdo,pi,apzq,sgR,a,b,w6,wg,false_and,false_or,List.foldl_nil,Int.reduceNeg,and_self];have b:¬ s.l5.aa.getD i.ii.toNat 0= -1:=λh=>f (q.2 h);have f:iJ s.l5 i.ii=false:=by simpa using f
 have b':¬ s.l5.aa[i.ii.toNat]?.getD 0= -1:=by simpa using b
 simp[cY,m8,iP,ek,f,e,nl,mdo,pi,apzq,sgR,b'];have F:=G.ok.q (by omega);rcases Q with z | ⟨z,_⟩;have R:aQ t.ic i.n=true:=by
  unfold bS at k;rw[x8 (by omega),x9 (by omega),x9 e]at k;cases u:aQ t.ic i.n with
  |true=>rfl
  |false=>rw[u]at k;exact absurd k am
 have V:=auh m (M.n e) J (ic _ R);have hn:t.id∉kw s.l5:=λq=>by have :=N q;omega
 have X:=(aq5 (z47.1 m) (by decide:(-1:Int)<= -1) (show(bc s.l5 i.n t.id t.id (-1)).2=0 by rw[V])).1;rw[V]at X;have eq:aZ {s.l5 with aa:=s.l5.aa.set i.n.toNat (-1)} i.ii t.id=({s.l5 with aa:=s.l5.aa.set i.n.toNat (-1),a6:=s.l5.a6.set i.ii.toNat (quV s.l5 i++[t.id])},0):=by
  unfold aZ;rw[x8 (by rw[zd (z47.2 X) F];simp),x8 (by omega),x8 (λq=>hn (by have :=av2 q;exact this))];rfl
 simp[cY,m8,im,z,iP,e,V,eq,nl,mdo,pi,apzq,sgR];rcases z with z |z;have hs:aQ s.l5.lT t.id=true:=by simpa only[z20,e,z,reduceIte,Int.reduceEq]using U
 have :dD s.l5 t.id=({s.l5 with lT:=cU s.l5.lT t.id},0):=by unfold dD;rw[x8 (by simp[m]),x8 (by simp[hs])]
 simp[cY,m8,im,z,iP,e,this,nl,mdo,pi,apzq,sgR];have f:iJ s.l5 i.n=true:=by simpa only[z20,e,z,reduceIte,Int.reduceEq]using U
 have⟨a,_⟩:=avm f J;simp[cY,m8,im,z,iP,e,a,nl,mdo,pi,apzq,sgR];have F:=G.ok.q (by omega);have a:=aCm (n:=1) m F _ rfl;have d:(quV s.l5 i).drop (min 1 ((quV s.l5 i).length:Int)).toNat=(quV s.l5 i).drop 1/\(quV s.l5 i).take (min 1 ((quV s.l5 i).length:Int)).toNat=(quV s.l5 i).take 1:=by
  cases h:quV s.l5 i with
  |nil=>exact⟨rfl,rfl⟩
  |cons x l=>rw[show(min (1:Int) ((x::l).length:Int)).toNat=1 from co];exact⟨rfl,rfl⟩
 have d':(cY s.l5 t i (m8 s t i))=(ud s.l5 i.ii.toNat (min 1 ((quV s.l5 i).length:Int)).toNat,0,0):=by
  simp only[cY,m8,iP,e,reduceIte,Int.reduceEq,ju,jv,jr,a];rfl
 rw[d'];unfold ud;show(({eA:=_,aa:=_,a6:=s.l5.a6.set _ ((quV s.l5 i).drop _),lT:=((quV s.l5 i).take _).foldl c9 _}:i8),_)=_;rw[d.1,d.2];simp[nl,mdo,pi,apzq,sgR,e];have F:=G.ok.q (by omega);have a:=aCm (n:=z1z s.l5.a6) m F (quV s.l5 i).length (by
  have :=ady s.l5.a6 i.ii.toNat (by omega);unfold quV;omega)
 simp[cY,m8,bz,iP,e,a,ud,nl,mdo,pi,apzq,sgR,quV];simp[cY,m8,bz,iP,nl,mdo,pi,apzq,sgR,e];simp[cY,m8,bz,iP,nl,mdo,pi,apzq,sgR,e]
theorem axi:∀ (A l:List Int),jC l ->jC (A.foldl c9 l)/\∀ x,x∈A.foldl c9 l↔x∈A∨x∈l
 | [],l,h=>⟨h,λx=>ap⟩
 |a::A,l,h=>by
  have⟨f,e⟩:=axi A (c9 l a) (aiw l a)
  refine⟨f,λx=>?_⟩
  rw[List.foldl_cons,e x,zth h a x,xv]
  grind
theorem axo {l:List Int} (h:jC l) (r:Option Int):jC (sgR l r)/\∀ x,x∈sgR l r↔x∈l/\r≠some x:=by
 cases r with
 |none=>exact⟨h,λx=>by simp[sgR]⟩
 |some y=>exact⟨ahz l y,λx=>by simp[sgR,ac3];grind⟩
theorem aFl {l:List (List Int)} {c:Nat} {L:List Int} {x:Int} (h:x∈(l.set c L).flatten):x∈L∨x∈l.flatten:=by
 obtain⟨r,hr,h⟩:=List.mem_flatten.1 h;rcases List.mem_or_eq_of_mem_set hr with q |q;exact .inr (List.mem_flatten.2 ⟨r,q,h⟩);exact .inl (q ▸ h)
theorem aqv {x:Int} (h:x∈quV m i):x∈m.a6.flatten:=by
 unfold quV at h;rcases kb i.ii.toNat m.a6.length with q |q;rw[x7,xe q]at h;exact List.mem_flatten.2 ⟨_,wm q,h⟩;rw[x7,y9 q]at h;cases h
theorem av5 (G:mA s.l5 i) (M:atl s.l5 i) (h0:0<=t.id) (hr:∀ r∈t.aw,-2147483648<=r/\r<=2147483647) (hris:jC t.ic) (hp:∀ y∈t.ic,0<=y) (hph:t.gH=0∨(t.gH=1∨t.gH=2)/\i.op=18) (hob:bS t i=0)
 (H:∀ y∈t.ic,s.l5.aa.getD y.toNat 0=t.id) (N:t.id∈kw s.l5 ->t.gH=1) (he:z20 s t i) (h9:i.op≠9):aq4 s.l5 t i (m8 s t i):=by
 have E:=aD7 G M h0 hr hp hph hob H N he h9;have F:=z47.1 G.form;have hh:∀ x,(i.op=16/\x=i.ii∨i.op=18/\t.gH=0/\x=i.n) ->x∈t.ic:=λx h=>by
  rw[<- zcu];cases hx:aQ t.ic x with
  |true=>rfl
  |false=>
   unfold bS at hob;rw[x8 (by omega),x9 (by omega)]at hob;rcases h with⟨e,rfl⟩ | ⟨e,z,rfl⟩<;>simp[e,hx]at hob
 have C:∀ {j y:Int},y∈c9 t.ic j ->y∈t.ic∨y=j:=λ{j y} h=>(zth hris j y).1 h;have O:((mdo s.l5 t i).o=none/\(uk t i (pi s.l5 t i)).ic=t.ic)∨∃ j:Int,(0<=j/\j<s.l5.aa.length)/\((mdo s.l5 t i).o=some (j.toNat,t.id)/\s.l5.aa.getD j.toNat 0= -1/\(∀ y∈(uk t i (pi s.l5 t i)).ic,y∈t.ic∨y=j)∨(mdo s.l5 t i).o=some (j.toNat,-1)/\j∈t.ic/\∀ y∈(uk t i (pi s.l5 t i)).ic,y∈t.ic/\y≠j):=by
  by_cases e15:i.op=15;obtain⟨_,x,y,f⟩:=avm (by simpa [z20,e15]using he) h0;exact .inr ⟨_,⟨x,y⟩,.inl ⟨by simp[mdo,e15],f,λy hy=>C (by simpa [uk,e15]using hy)⟩⟩;by_cases e16:i.op=16;exact .inr ⟨_,M.o (by omega),.inr ⟨by simp[mdo,e16],hh _ (.inl ⟨e16,rfl⟩),λy hy=>ac3.1 (by simpa [uk,e16]using hy)⟩⟩;by_cases e17:i.op=17;by_cases f:s.l5.aa.getD i.ii.toNat 0= -1;exact .inr ⟨_,M.o (by omega),.inl ⟨by simp only[mdo];rw[x9 (.inr ⟨e17,f⟩)],f,λy hy=>C (by unfold pi at hy;rw[x9 f]at hy;simpa [uk,e17]using hy)⟩⟩;refine .inl ⟨by simp only[mdo];rw[x8 (λh=>f (h.resolve_left e15).2)];simp[e17],?_⟩;unfold pi;rw[x8 f];simp[uk,i4,e17];by_cases e18:i.op=18;by_cases z:t.gH=0;exact .inr ⟨_,M.n e18,.inr ⟨by simp[mdo,e18,z],hh _ (.inr ⟨e18,z,rfl⟩),λy hy=>ac3.1 (by simpa [uk,z2f,i4,e18,z]using hy)⟩⟩;by_cases z1:t.gH=1;exact .inl ⟨by simp[mdo,e18,z1],by simp[uk,z2f,i4,e18,z1]⟩;have z2:t.gH=2:=by omega
  obtain⟨_,x,y,f⟩:=avm (by simpa [z20,e18,z2]using he) h0;exact .inr ⟨_,⟨x,y⟩,.inl ⟨by simp[mdo,e18,z2],f,λy hy=>C (by simpa [uk,z2f,i4,e18,z2]using hy)⟩⟩;exact .inl ⟨by simp[mdo,e15,e16,e17,e18],auj (by omega)⟩
 have W:∀ x∈kw (nl s.l5 (mdo s.l5 t i)),x≠t.id/\x∈kw s.l5∨x=t.id/\i.op=18/\t.gH=0:=λx h=>by
  have h:=xx.1 h;have K:x∈kw s.l5∨x=t.id/\i.op=18/\t.gH=0:=by
   rcases h with h |h;rcases((axi _ _ (axo F.mO _).1).2 x).1 h with h |h;refine .inl (xx.2 (.inr (aqv (i:=i) ?_)));simp only[mdo]at h;split at h;exact List.mem_of_mem_take h;split at h;exact h;cases h;exact .inl (xx.2 (.inl (((axo F.mO _).2 x).1 h).1));cases hq:(mdo s.l5 t i).q with
   |none=>
    unfold nl at h;rw[hq]at h;exact .inl (xx.2 (.inr h))
   |some y=>
    unfold nl at h;rw[hq]at h;rcases aFl h with h |h;simp only[mdo]at hq;split at hq;cases hq;rcases xx.1 h with h |h;exact .inl (xx.2 (.inr (aqv h)));exact .inr ⟨by simpa using h,by assumption⟩;refine .inl (xx.2 (.inr (aqv (i:=i) ?_)));split at hq;cases hq;exact List.mem_of_mem_drop h;split at hq;cases hq;cases h;cases hq;exact .inl (xx.2 (.inr h))
  rcases K with K |K;refine .inl ⟨λe=>?_,K⟩;have z:=N (e ▸ K);have e18:i.op=18:=by omega
  rcases h with h |h;rcases((axi _ _ (axo F.mO _).1).2 x).1 h with h |h;simp[mdo,e18]at h;exact(((axo F.mO _).2 x).1 h).2 (by simp[mdo,e18,z,e]);have h:x∈s.l5.a6.flatten:=by simpa [nl,mdo,e18,z,apzq]using h
  have hs:aQ s.l5.lT t.id=true:=by simpa [z20,e18,z]using he
  exact(List.nodup_append.1 F.nd).2.2 _ (zcu.1 hs) _ h e.symm;exact .inr K
 refine⟨by rw[E],λy hy=>?_,λy n1 n2=>?_,λx h=>?_⟩;rw[E]at hy ⊢;show(apzq s.l5.aa _).getD _ _=_;rcases O with⟨o,h⟩ | ⟨j,x,⟨o,f,h⟩ | ⟨o,f,h⟩⟩
 rw[o];exact H y (h ▸ hy);rw[o];show(s.l5.aa.set _ _).getD _ _=_;rw[aqk _ _ _ _ (by omega)];split;rfl;rcases h y hy with q |q;exact H y q;simp_all;obtain⟨q,n⟩:=h y hy;have :=hp y q;rw[o];show(s.l5.aa.set _ _).getD _ _=_;rw[aqk _ _ _ _ (by omega),x8 (by omega)];exact H y q;rw[E];show(apzq s.l5.aa _).getD _ _=_;rcases O with⟨o,h⟩ | ⟨j,x,⟨o,f,h⟩ | ⟨o,f,h⟩⟩
 rw[o];rfl;rw[o];show(s.l5.aa.set _ _).getD _ _=_;rw[aqk _ _ _ _ (by omega),x8 λq=>n2 (by rw[<- q];exact f)];rw[o];show(s.l5.aa.set _ _).getD _ _=_;rw[aqk _ _ _ _ (by omega),x8 λq=>n1 (by rw[<- q];exact H j f)];rw[E]at h ⊢;rcases W x h with q | ⟨q,e,z⟩;exact .inl q;exact .inr ⟨q,by simp[uk,z2f,i4,e,z]⟩
def kept (t:i5):Int×Int×Int×Int×List Int:=(t.id,t.i7,t.io,t.gH,t.ic)
theorem atm (p:ai) (b:Int):∀ (k:Nat) (t:i5),kept (z4q p b k t)=kept t:=λk=>by
 have lo:∀ (t:i5) (i:aK),kept (aO t i).1=kept t:=λt i=>by
  unfold aO;repeat' split
  all_goals rfl
 have vs:∀ (t:i5) (i:aK),kept (oc b t i)=kept t:=λt i=>by
  unfold oc;repeat' split
  all_goals rfl
 induction k with
 |zero=>intro t;unfold z4q;repeat' split
        all_goals first |rfl |exact vs _ _
 |succ k ih=>intro t;unfold z4q;repeat' split
             all_goals first |rfl |exact vs _ _ |exact(ih _).trans (lo _ _) |exact lo _ _
theorem aup (t:i5) (i:aK) (r:Int):(uk t i r).i7=if i.op=21 then t.i7+1 else t.i7:=by
 unfold uk z2f;repeat' split
 all_goals first |rfl |omega
theorem aud {fn arg:Int} (h:(ba p b id fn arg).2=0):(ba p b id fn arg).1.id=id/\(ba p b id fn arg).1.ic=[]:=by
 unfold ba at h ⊢;split at h;omega;split at h;omega;split at h;omega;split at h;omega;rename_i j i f e;rw[x8 j,x8 i,x8 f,x8 e];have :=atm p b 256 (zhf id fn arg);exact⟨yt (·.1) this,yt (·.2.2.2.2) this⟩
theorem AC (h:k<l.length):l.getD k ao∈l:=dl
theorem aug {N x:i5} {n:Nat}:x∈gB l N n↔x=N∨x∈l:=by grind[gB,List.take_append_drop]
theorem avq (U:∀ x∈l,∀ y∈l,x.id=y.id ->x=y) {k:Nat} {T:i5} (E:k<l.length):(∀ x∈l.set k T,x=T∨x∈l/\x.id≠(l.getD k ao).id∨x∈l/\∃ j,j≠k/\j<l.length/\x=l.getD j ao)/\T∈l.set k T/\∀ x∈l,x.id≠(l.getD k ao).id ->x∈l.set k T:=by
 have g:∀ i (h:i<l.length),l.getD i ao=l[i]:=λi h=>by rw[x7,xe h];rfl
 refine⟨λx m=>?_, ?_,λx m u=>?_⟩;have⟨j,f,e⟩:=yq m;rw[yy]at f;rw[List.getElem_set]at e;split at e;exact .inl e.symm;rename_i q;exact .inr (.inr ⟨e ▸ wm f,j,λh=>q h.symm,f,by rw[g j f,e]⟩);exact List.mem_of_getElem? (i:=k) (by rw[List.getElem?_set_self E]);have⟨j,f,e⟩:=yq m;have :j≠k:=λq=>u (by subst q;rw[g j f,e]);exact List.mem_of_getElem? (i:=j) (by rw[k9 (λq=>this q.symm),xe f,e])
theorem aur (V:∀ j,j<l.length ->z5e p b l j) {k:Nat} {T:i5} (m:k<l.length):(∀ x∈l.set k T,x=T∨x∈l/\x.id≠(l.getD k ao).id)/\T∈l.set k T/\∀ x∈l,x.id≠(l.getD k ao).id ->x∈l.set k T:=by
 have U:=apr V;have⟨a,J,c⟩:=avq (T:=T) (λx f y u h=>(U y u).2.2 x f h) m;refine⟨λx f=>?_,J,c⟩;rcases a x f with h |h | ⟨h,j,E,i,e⟩;exact .inl h;exact .inr h;refine .inr ⟨h,λq=>E ?_⟩;have H:=zg0 V i;have F:=zg0 V m;rw[<- e,q,F]at H;omega
structure auy (p:ai) (b:Int) (s:ja) (a:Int) (S:ja):Prop where
 len:s.ab.length<=S.ab.length
 rch:Rch S.ab S.l5
 old:∀ x∈s.ab,x.id≠a ->x∈S.ab
 new:∀ x∈S.ab,x.id≠a ->x∈s.ab∨∀ u∈s.ab,u.id≠x.id
 it:∀ x∈S.ab,x.id=a ->∃ t∈s.ab,t.id=a/\x.io=t.io+1
theorem avk (hp:bI p) (hT:∀ j,dU (s.ab.getD j ao)) (hb:aV p b=0) (hv:bT p b s) (R:Rch s.ab s.l5) (hr:(bg p s a).2.2=true) (he:z20 s (cl p s a) (c5 p s a)) (h9:(i6 p (cl p s a)).op≠9):
 (da p b s a).2.2=0/\auy p b s a (da p b s a).1:=by
 obtain⟨v1,v2,v3⟩:=oP.1 hv;obtain⟨r1,r2,r3,r4⟩:=NG hr;obtain⟨f1,f2⟩:=nL r1;have U:=apr v3;have ht:cl p s a∈s.ab:=by rw[r2];exact AC f1
 have hid:(cl p s a).id=a:=by rw[r2];exact f2
 have htok:dU (cl p s a):=by rw[r2];exact hT _
 obtain⟨g1,g2,g3,g4,g5,g6⟩:=zhu hp htok v1 r4;have hvt:fq p b (cl p s a)=true:=by rw[r2];exact(v3 _ f1).1
 have Fb:=oo (mD.1 hvt).2;have P:jM p:=⟨hp,(l6 hb).1⟩;obtain⟨_,hat,_⟩:=sZ (mD.1 hvt).2 g5;have M:=aul v1 (vi P (g3.wf htok) hat);rw[r3,g2]at he;have N:(cl p s a).id∈kw s.l5 ->(cl p s a).gH=1:=λh=>by
  obtain⟨u,hu,e1,e2⟩:=R.wait _ h;have :=(U _ ht).2.2 u hu e1;rw[<- this];exact e2
 have E:=av5 (s:=s) g1 M (U _ ht).1 g3.aw g3.mO (λy hy=>(g3.ic y hy).1) (g3.ph.imp id λq=>⟨q.1,q.2.2.1⟩) g4 (R.own _ ht) N he h9;have eX:cW p s a=cY s.l5 (cl p s a) (i6 p (cl p s a)) (m8 s (cl p s a) (i6 p (cl p s a))):=by unfold cW bP;rw[r3,g2]
 have hk:(cY s.l5 (cl p s a) (i6 p (cl p s a)) (m8 s (cl p s a) (i6 p (cl p s a)))).2.1=(cW p s a).2.1:=by rw[eX]
 have ew:wr (cW p s a).2.1=(cW p s a).2.1:=by
  rw[<- hk,ajj g1.ok.op];exact akn g1.ok.op g1.form
 have e1:(cW p s a).2.2=0:=by rw[eX];exact E.ok
 have oT:=E.oT;have oO:=E.oO;have W:=E.W;rw[<- eX]at oT oO W;obtain⟨_,c1,c2⟩:=anu hp htok hvt g5 ew;have KP:kept (gY p b s a).1=kept (uk (cl p s a) (i6 p (cl p s a)) (cW p s a).2.1):=by
  unfold gY;rw[c2];exact atm p b 256 _
 obtain⟨d1,_,_,_,d5,_⟩:=Y2 (cl p s a) (i6 p (cl p s a)) (cW p s a).2.1;have T1:(gY p b s a).1.id=a:=(yt (·.1) KP).trans (d1.trans hid);have T2:(gY p b s a).1.i7=if(i6 p (cl p s a)).op=21 then(cl p s a).i7+1 else(cl p s a).i7:=(yt (·.2.1) KP).trans (aup _ _ _)
 have T3:(gY p b s a).1.io=(cl p s a).io+1:=(yt (·.2.2.1) KP).trans d5;have T4:(gY p b s a).1.gH=_:=yt (·.2.2.2.1) KP;have T5:(gY p b s a).1.ic=_:=yt (·.2.2.2.2) KP;have T4:(gY p b s a).1.gH=(uk (cl p s a) (i6 p (cl p s a)) (cW p s a).2.1).gH:=T4;have T5:(gY p b s a).1.ic=(uk (cl p s a) (i6 p (cl p s a)) (cW p s a).2.1).ic:=T5;have SP:(jg p b s a).2=0/\s.ab.length<=(jg p b s a).1.ab.length/\(∀ x∈s.ab,x∈(jg p b s a).1.ab)/\∀ x,x∈(jg p b s a).1.ab ->x∈s.ab∨(x.id=eU (cl p s a)/\x.ic=[]/\(i6 p (cl p s a)).op=21/\0<=(cl p s a).i7/\aS s.ab x.id<0/\eU (cl p s a)=8*((cl p s a).id+1)+(cl p s a).i7):=by
  unfold jg;by_cases hk:(bP p s a).kind=16;rw[x9 hk];have hk':(m8 s (cl p s a) (c5 p s a)).kind=16:=hk;obtain⟨o1,o2⟩:=z9s hk';have o2:(bP p s a).ii=eU (cl p s a):=o2;rw[o2];have o1':=o1;rw[r3]at o1';have n0:=ag8 hp htok hb v1 r4 o1';rw[<- r3]at n0;have cb:cA (cl p s a)=true:=by
   rw[r3,g2]at o1;have z:(cl p s a).gH=0:=by rcases g3.ph with q |q;exact q;omega
   unfold bS at g4;rw[x8 (by omega),x8 (by omega),x9 o1]at g4;cases hx:cA (cl p s a)with
   |true=>rfl
   |false=>rw[hx]at g4;exact absurd g4 (by decide)
  have ci:eU (cl p s a)=8*((cl p s a).id+1)+(cl p s a).i7:=by unfold eU;rw[x9 cb]
  have t0:=(U _ ht).1;unfold cA at cb;simp only[xi,xg,xh,xp]at cb;have fr:aS s.ab (eU (cl p s a))<0:=by
   refine Int.not_le.1 λh=>?_;obtain⟨q1,q2⟩:=nL h;obtain⟨u,hu,u1,u2⟩:=R.i7 _ (AC q1) (by rw[q2,ci];omega);rw[q2,ci]at u1 u2;have u3:=(U u hu).2.1;have :=(U _ ht).2.2 u hu (by omega);subst this;omega
  unfold eH;rw[x8 (by show ¬ 0<=aS s.ab _;omega),x8 (λh=>h n0)];refine⟨rfl,by show _<=(gB s.ab _ _).length;rw[z9q _ _ _ (uj _ _)];exact Nat.le_succ _,λx hx=>aug.2 (.inr hx),λx hx=>?_⟩;rcases aug.1 hx with h |h;obtain⟨n1,n2⟩:=aud n0;rw[h,n1];rw[r3,g2]at o1;exact .inr ⟨rfl,n2,o1,by omega,fr,ci⟩;exact .inl h;rw[x8 hk];exact⟨rfl,xm _,λx hx=>hx,λx hx=> .inl hx⟩
 obtain⟨S1,S0,S2,nid⟩:=SP;obtain⟨w1,w2,w3,w4⟩:=aue hp v3 S1;obtain⟨h1,h2⟩:=nL (w4 r1);have GO:da p b s a=({(jg p b s a).1 with ab:=(jg p b s a).1.ab.set (aS (jg p b s a).1.ab a).toNat (gY p b s a).1},bP p s a,0):=by
  have ld:da p b s a=
   if aV p b≠0 then(mt,aW,aV p b)else if bT p b s=false then(mt,aW,1)else if(bg p s a).2.2=false∨z20 s (cl p s a) (c5 p s a)=false then(mt,aW,19)else if(cW p s a).2.2≠0 then(mt,aW,30)
   else if(jg p b s a).2≠0 then(mt,aW,(jg p b s a).2)else if(gY p b s a).2≠0 then(mt,aW,(gY p b s a).2)else({(jg p b s a).1 with ab:=(jg p b s a).1.ab.set (aS (jg p b s a).1.ab a).toNat (gY p b s a).1},bP p s a,0):=rfl
  rw[ld,x8 (λh=>h hb),x8 (by simp[hv]),x8 (by rw[r3,g2,hr,he];simp),x8 (λh=>h e1),x8 (λh=>h S1),x8 (λh=>h c1)]
 obtain⟨m1,m2,m3⟩:=aur (T:=(gY p b s a).1) w3 h1;rw[h2]at m1 m3;have it:∀ x∈(jg p b s a).1.ab.set (aS (jg p b s a).1.ab a).toNat (gY p b s a).1,x=(gY p b s a).1∨x∈s.ab/\x.id≠a∨(x.ic=[]/\(8*((cl p s a).id+1)<=x.id/\x.id<8*((cl p s a).id+1)+(gY p b s a).1.i7)/\aS s.ab x.id<0):=λx hx=>by
  rcases m1 x hx with h | ⟨h,h'⟩;exact .inl h;rcases nid x h with q | ⟨q1,q2,q3,q4,q5,q6⟩;exact .inr (.inl ⟨q,h'⟩);refine .inr (.inr ⟨q2,⟨by omega, ?_⟩,q5⟩);rw[T2,x9 q3];omega
 rw[GO];refine⟨rfl,by show _<=((jg p b s a).1.ab.set _ _).length;rw[yy];exact S0, ?_,λx hx hn=>m3 x (S2 x hx) hn,λx hx hn=>?_,λx hx hn=>?_⟩;show Rch ((jg p b s a).1.ab.set _ _) (jg p b s a).1.l5;rw[w2];refine aus R U ht (T1.trans hid.symm) ?_ (λy hy=>oT y (by rw[<- T5];exact hy)) oO (λid hi=>(W id hi).imp_right λh=>⟨h.1,T4.trans h.2⟩) (λx hx=>?_) m2 (λx hx hn=>m3 x (S2 x hx) (by rw[<- hid];exact hn));rw[T2];split<;>omega;rw[hid];rcases it x hx with h |h | ⟨h1,h2,_⟩;exact .inl h;exact .inr (.inl h);rw[hid]at h2;exact .inr (.inr ⟨h1,h2⟩);rcases it x hx with h |h | ⟨_,_,h⟩;exact absurd (h ▸ T1) hn;exact .inl h.1;refine .inr λu hu e=>?_;obtain⟨j,hj,e'⟩:=yq hu;have :=zm2 (l:=s.ab) (id:=x.id) hj (by rw[x7,xe hj,<- e,<- e'];rfl);omega;rcases it x hx with h |h | ⟨_,_,h⟩;exact⟨_,ht,hid,by rw[h];exact T3⟩;exact absurd hn h.2;rw[hn]at h;omega
structure ul (p:ai) (b:Int) (s:ja):Prop where
 val:cQ p b s=true
 rch:Rch s.ab s.l5
 cnt:∀ k,k<s.ab.length ->(s.ae.getD k az).first+((s.ae.getD k az).bO.length:Int)<=(s.ab.getD k ao).io
structure aqx (s t:ja) (a:Int):Prop where
 len:s.ab.length<=t.ab.length
 fl:a<0 ->t.ab=s.ab
 own:∀ x∈s.ab,∀ y∈t.ab,x.id=y.id ->x.id=a ->y.io=x.io+1
 oth:∀ x∈s.ab,∀ y∈t.ab,x.id=y.id ->x.id≠a ->y=x
theorem aum (h:cQ p b s):bT p b (bN s)=true:=
 oP.2 ⟨(z12.1 h).1,rfl,(zm6 h:∀ j,j<s.ab.length ->z5e p b s.ab j)⟩
theorem au2 {T:i5} {u:bR} (h:zfu p t u) (e:T.id=t.id):zfu p T u=true:=by grind[nM.1,nM.2]
theorem au3 {r:Int} (hp:bI p) (hT:cw s) (I:ul p b s) (X:k<s.ab.length) (hb:cm p (s.ab.getD k ao)) (f:¬ ((zg p (s.ab.getD k ao)).op=15∨(zg p (s.ab.getD k ao)).op=16∨(zg p (s.ab.getD k ao)).op=17∨(zg p (s.ab.getD k ao)).op=18)/\(zg p (s.ab.getD k ao)).op≠21) (Z:wr r=r):
 (cd p b (s.ab.getD k ao) r).2=0/\ul p b {s with ab:=s.ab.set k (cd p b (s.ab.getD k ao) r).1}/\aqx s {s with ab:=s.ab.set k (cd p b (s.ab.getD k ao) r).1} (s.ab.getD k ao).id/\(cd p b (s.ab.getD k ao) r).1.id=(s.ab.getD k ao).id/\(cd p b (s.ab.getD k ao) r).1.io=(s.ab.getD k ao).io+1:=by
 have⟨Y,v2,v3⟩:=z12.1 I.val;have V:=zm6 I.val;have U:=apr V;have⟨g1,g2,g3,g4,g5,g6⟩:=zhu hp (hT.ok k) Y hb;rw[g2]at f;have J:=(V k X).1;have⟨d1,d2,d3⟩:=anu hp (hT.ok k) J g5 Z;have⟨E,R⟩:=ao5 J g5 Z;have KP:kept (cd p b (s.ab.getD k ao) r).1=kept (uk (s.ab.getD k ao) (i6 p (s.ab.getD k ao)) r):=by rw[d3];exact atm p b 256 _
 have T2:(cd p b (s.ab.getD k ao) r).1.i7=(s.ab.getD k ao).i7:=(yt (·.2.1) KP).trans ((aup _ _ _).trans (x8 f.2));have T5:(cd p b (s.ab.getD k ao) r).1.ic=(s.ab.getD k ao).ic:=(yt (·.2.2.2.2) KP).trans (auj f.1);have⟨Q,m2,m3⟩:=aur (T:=(cd p b (s.ab.getD k ao) r).1) V X;have K:=AC X;have ph:(s.ab.getD k ao).gH=0:=by rcases g3.ph with q |q;exact q;omega
 have N:(s.ab.getD k ao).id∉kw s.l5:=λh=>by
  have⟨u,hu,m,i⟩:=I.rch.wait _ h;have :=(U _ K).2.2 u hu m;rw[this]at i;omega
 refine⟨d2,⟨z12.2 ⟨Y,by show s.ae.length=(s.ab.set _ _).length;rw[yy];exact v2,λj e=>⟨auo V d1 E j e, ?_⟩⟩, ?_,λj e=>?_⟩,⟨by show _<=(s.ab.set _ _).length;rw[yy];exact xm _,λh=>?_,λx H y F m i=>?_,λx H y F m i=>?_⟩,E,R⟩;have e:j<s.ab.length:=by have :j<(s.ab.set _ _).length:=e;rwa [yy]at this
 exact au2 (v3 j e).2 (ao1 E j);exact aus I.rch U K E (by rw[T2];exact yr _) (λy F=>I.rch.own _ K y (by rw[<- T5];exact F)) (λ_ _ _=>rfl) (λid hi=> .inl ⟨λq=>N (q ▸ hi),hi⟩)
  (λx H=>(Q x H).imp_right λh=> .inl h) m2 m3
 have e:j<s.ab.length:=by have :j<(s.ab.set _ _).length:=e;rwa [yy]at this
 have h1:=I.cnt j e;show _<=((s.ab.set k _).getD j ao).io;by_cases q:k=j;subst q;rw[gS e,R];exact Int.le_trans h1 O;rw[gN q];exact h1;have :=(U _ K).1;omega;rcases Q y F with h |h;rw[(U _ K).2.2 x H i,h];exact R;exact absurd (m.symm.trans i) h.2;rcases Q y F with h |h;exact absurd (m.trans (by rw[h];exact E)) i;exact(U x H).2.2 y h.1 m.symm
theorem tsx (hp:bI p) (hT:cw s) (hb:aV p b=0) (I:ul p b s) (h:aQ (cL p s) a) {T:i5} {B:bR} {e:Ev} (eT:s.ab.getD (bb s a) ao=T) (eB:s.ae.getD (bb s a) az=B) (ee:(zf p s a).1=e):
 (0<=aS s.ab (aX a)/\bb s a<s.ab.length/\T.id=aX a)/\
 (a<0/\0<B.bO.length/\zr s.l5 (B.bO.getD 0 cc).var (B.bO.getD 0 cc).val=({s.l5 with eA:=s.l5.eA.set (B.bO.getD 0 cc).var.toNat (B.bO.getD 0 cc).val},0)/\zt p b s a=(⟨s.ab,{s.l5 with eA:=s.l5.eA.set (B.bO.getD 0 cc).var.toNat (B.bO.getD 0 cc).val},s.ae.set (bb s a) ⟨B.ay,B.first+1,B.bO.drop 1⟩⟩,e,0)∨
 ¬ a<0/\cm p T=true/\(((zg p T).op=8∨(zg p T).op=14)/\e.read=(fm s (bb s a) (zg p T).ii).1/\wr e.read=e.read/\zt p b s a=(⟨s.ab.set (bb s a) (cd p b T e.read).1,s.l5,s.ae⟩,e,0)∨
  (zg p T).op=9/\e.read=0/\(0<=(zg p T).ii/\(zg p T).ii<p.eA.length)/\(-2147483648<=bp T (zg p T).b/\bp T (zg p T).b<=2147483647)/\T.io<b/\zt p b s a=(⟨s.ab.set (bb s a) (cd p b T e.read).1,s.l5,s.ae.set (bb s a) ⟨B.ay,B.first,B.bO++[⟨(zg p T).ii,bp T (zg p T).b⟩]⟩⟩,e,0)∨
  (¬ (zg p T).op=8/\¬ (zg p T).op=14/\¬ (zg p T).op=9)/\cl p (bN s) a=T/\(bg p (bN s) a).2.2=true/\z20 (bN s) T (zg p T)=true/\(da p b (bN s) a).2.2=0/\auy p b (bN s) a (da p b (bN s) a).1/\e=bP p (bN s) a/\e=m8 (bN s) T (zg p T)/\zt p b s a=(rX (da p b (bN s) a).1 s.ae,e,0))):=by
 have hv:=I.val;obtain⟨v1,v2,v3⟩:=z12.1 hv;have hf:=(sN.1 v1).2.1;have hf':=z47.2 hf;obtain⟨h0,hl,hc⟩:=zs0 (rc hv) h;have GO:=alz hb hv h;rw[<- hl]at GO;obtain⟨f1,f2⟩:=nL h0;have f1:bb s a<s.ab.length:=f1;have f2:(s.ab.getD (bb s a) ao).id=aX a:=f2;obtain⟨b1,b2,b3⟩:=nM.1 (v3 _ f1).2;obtain⟨c1,c2⟩:=(z21 _).1 b1;have hcnt:=I.cnt _ f1;have dn1:dn p b s (aS s.ab (aX a)).toNat (zf p s a).1=dn p b s (bb s a) (zf p s a).1:=rfl;rw[dn1]at GO;subst eT eB ee;refine⟨⟨h0,f1,f2⟩,?_⟩;rcases hc with⟨hn,h1,h2,h3,h4⟩ | ⟨hn,h1,hc⟩
 have en:=c2 0 h1;unfold mv at en;simp only[xa,xd]at en;have vm:=(sN.1 v1).2.2.1;have hx:=b3 0 h1;have ew:=au8 (m:=s.l5) (x:=((s.ae.getD (bb s a) az).bO.getD 0 cc).var) (v:=((s.ae.getD (bb s a) az).bO.getD 0 cc).val) hf' (by omega) (by omega);refine .inl ⟨hn,h1,ew,?_⟩;rw[GO,x9 (by unfold fj;rw[h2];rfl)];unfold dn;dsimp only;rw[x9 h2,al4 b1 h1,h3,h4,ew];rfl;obtain⟨g1,g2,g3,g4,g5,g6⟩:=zhu hp (hT.ok _) v1 h1;have hvt:=(zm6 hv _ f1).1;refine .inr ⟨hn,h1,?_⟩;rcases hc with⟨h8,h2,h3⟩ | ⟨h9,h2,h3,h4,h5⟩ | ⟨⟨⟨h8,h14⟩,h9⟩,h2⟩
 have hr:wr (zf p s a).1.read=(zf p s a).1.read:=by rw[h3];exact ac8 hf' _
 have t1:=(anu hp (hT.ok _) hvt g5 hr).2.1;refine .inl ⟨h8,h3,hr,?_⟩;rw[GO,x9 (by unfold fj;rcases h2 with h2 |h2<;>rw[h2]<;>rfl)];unfold dn;dsimp only;rw[x8 (show ¬ (zf p s a).1.kind=4 by omega),x8 (show ¬ (zf p s a).1.kind=3 by omega),x8 (show ¬ _≠_ from λh=>h t1)];rfl;have hr:wr (zf p s a).1.read=(zf p s a).1.read:=by rw[h5];decide
 have t1:=(anu hp (hT.ok _) hvt g5 hr).2.1;have hob:=g1.v (by rw[<- g2];omega);rw[<- g2]at hob;have vm:=(sN.1 v1).2.2.1;have h8v:=hf.eA;have hrg:=ans (oo (mD.1 hvt).2) (zg p (s.ab.getD (bb s a) ao)).b.toNat;have st:=(sZ (mD.1 hvt).2 g5).2.2.2.2;have hb32:=(l6 hb).2;refine .inr (.inl ⟨h9,h5,⟨hob.1,by omega⟩,hrg,st,?_⟩);have ep:cq (s.ae.getD (bb s a) az) (zf p s a).1.ii (zf p s a).1.i4=(⟨(s.ae.getD (bb s a) az).ay,(s.ae.getD (bb s a) az).first,(s.ae.getD (bb s a) az).bO++[⟨(zg p (s.ab.getD (bb s a) ao)).ii,bp (s.ab.getD (bb s a) ao) (zg p (s.ab.getD (bb s a) ao)).b⟩]⟩,(s.ae.getD (bb s a) az).first+(s.ae.getD (bb s a) az).bO.length,0):=by
  unfold cq;rw[h3,h4,x8 (by rw[b1];decide),x8 (by omega),x8 (by unfold bp;omega),x8 (by omega)]
 rw[GO,x9 (by unfold fj;rw[h2];rfl)];unfold dn;dsimp only;rw[x8 (show ¬ (zf p s a).1.kind=4 by omega),x9 h2,ep,x8 (show ¬ (cd p b _ _).2≠0 from λh=>h t1)];rfl;have hs:=aum hv;have ha:=ak8 (rc hv) h;unfold ka at ha;rw[xa,x8 hn]at ha;have ha:fu p s (bb s a) (cX p (bN s))=true:=ha.2;have ea:aX a=a:=by unfold aX;rw[x8 hn]
 rw[ea]at f2;have hon:aQ (cX p (bN s)) (s.ab.getD (bb s a) ao).id=true:=by
  unfold fu at ha;dsimp only at ha;rw[x8 (by rw[h1];decide),x8 (by omega),x8 h14]at ha;split at ha;cases ha;rename_i q;simp only[Bool.not_eq_true,Bool.or_eq_false_iff,Bool.not_eq_false']at q;exact q.2
 rw[f2]at hon;obtain⟨o1,o2⟩:=(zro (agy hs)).1 hon;obtain⟨r1,r2,r3,r4⟩:=NG o1;have r2:cl p (bN s) a=s.ab.getD (bb s a) ao:=by rw[r2];show s.ab.getD (aS s.ab a).toNat ao=_;unfold bb;rw[ea]
 obtain⟨z1,z2⟩:=avk (s:=bN s) hp (λj=>hT.ok j) hb hs I.rch o1 o2 (by rw[r2,<- g2];exact h9);have eL:(bA p (bN s) a).1=bP p (bN s) a:=by
  unfold bA;rw[x8 (by rw[agy hs];decide),x8 (by rw[o1];decide)];rfl
 have eE:bP p (bN s) a=m8 (bN s) (s.ab.getD (bb s a) ao) (zg p (s.ab.getD (bb s a) ao)):=by unfold bP;rw[r3,r2]
 have k:=ajl (bN s) (s.ab.getD (bb s a) ao) (by rw[g2];exact g1.ok.op) h8 h14 h9;have eZ:(zf p s a).1=bP p (bN s) a:=by rw[h2,eL]
 rw[r3,r2]at o2;refine .inr (.inr ⟨⟨h8,h14,h9⟩,r2,o1,o2,z1,z2,eZ,by rw[eZ,eE],?_⟩);rw[<- eE]at k;rw[GO,x8 (by rw[eZ];unfold fj;simp[k])];unfold dH;rw[x8 (λh=>h z1),z139 z1,eZ]
theorem u4 (hp:bI p) (hT:cw s) (hb:aV p b=0) (I:ul p b s) (h:aQ (cL p s) a):(zt p b s a).2.2=0/\ul p b (zt p b s a).1/\aqx s (zt p b s a).1 a/\(zt p b s a).2.1=(zf p s a).1:=by
 have hv:=I.val;obtain⟨v1,v2,v3⟩:=z12.1 hv;have V:=zm6 hv;have U:=apr V;have hf:=(sN.1 v1).2.1;obtain⟨⟨h0,f1,f2⟩,hc⟩:=tsx hp hT hb I h rfl rfl rfl;have ht:=AC f1;obtain⟨b1,b2,b3⟩:=nM.1 (v3 _ f1).2;obtain⟨c1,c2⟩:=(z21 _).1 b1;have hcnt:=I.cnt _ f1;rcases hc with⟨hn,h1,ew,GO⟩ | ⟨hn,h1,hc⟩
 rw[GO];have wf:=ata hf (show(zr s.l5 _ _).2=0 by rw[ew]);rw[ew]at wf;obtain⟨w1,w2,w3,w4⟩:=wf;obtain⟨x1,x2,x3,x4,x5⟩:=sN.1 v1;refine⟨rfl,⟨z12.2 ⟨sN.2 ⟨x1,w1,w2.trans x3,w3.trans x4,w4.trans x5⟩,by show(s.ae.set _ _).length=_;rw[yy];exact v2,λj hj=>⟨V j hj, ?_⟩⟩,⟨I.rch.own,I.rch.wait,I.rch.i7⟩,λj hj=>?_⟩,⟨xm _,λ_=>rfl,λx hx y hy e1 e2=>?_,λx hx y hy e1 _=>(U x hx).2.2 y hy e1.symm⟩,rfl⟩;show zfu p _ ((s.ae.set _ _).getD j az)=true;by_cases q:bb s a=j;subst q;rw[gS (by omega)];refine nM.2 ⟨(z21 _).2 ⟨⟨c1.1,by show 0<=_+1;omega,by show _+1<=(32:Int);omega, ?_⟩,λi hi=>?_⟩,b2,λi hi=>?_⟩;show _+1+(((s.ae.getD (bb s a) az).bO.drop 1).length:Int)<=32;rw[wn];omega;have hi:i<((s.ae.getD (bb s a) az).bO.drop 1).length:=hi;rw[wn]at hi;show mv (((s.ae.getD (bb s a) az).bO.drop 1).getD i cc)=true;rw[x7,ww,<- x7];exact c2 _ (by omega);have hi:i<((s.ae.getD (bb s a) az).bO.drop 1).length:=hi;rw[wn]at hi;show(((s.ae.getD (bb s a) az).bO.drop 1).getD i cc).var<_;rw[x7,ww,<- x7];exact b3 _ (by omega);rw[gN q];exact(v3 j hj).2;show((s.ae.set _ _).getD j az).first+(((s.ae.set _ _).getD j az).bO.length:Int)<=_;by_cases q:bb s a=j;subst q;rw[gS (by omega)];show(s.ae.getD (bb s a) az).first+1+(((s.ae.getD (bb s a) az).bO.drop 1).length:Int)<=(s.ab.getD (bb s a) ao).io;rw[wn];omega;rw[gN q];exact I.cnt j hj;have :=(U x hx).1;omega;have ea:aX a=a:=by unfold aX;rw[x8 hn]
 rw[ea]at f2;rcases hc with⟨h8,h3,hr,GO⟩ | ⟨h9,h5,ho,hg,st,GO⟩ | ⟨⟨h8,h14,h9⟩,_,_,_,z1,z2,e1,_,GO⟩<;>rw[GO]
 obtain⟨t1,t2,t3,_⟩:=au3 hp hT I f1 h1 (by omega) hr;rw[f2]at t3;exact⟨rfl,t2,t3,rfl⟩;obtain⟨t1,t2,t3,t4,t5⟩:=au3 (r:=(zf p s a).1.read) hp hT I f1 h1 (by omega) (by rw[h5];decide);have hvt:=(V _ f1).1;have hb32:=(l6 hb).2;rw[f2]at t3;obtain⟨y1,y2,y3⟩:=z12.1 t2.val;refine⟨rfl,⟨z12.2 ⟨y1,by show(s.ae.set _ _).length=_;rw[yy];exact y2,λj hj=>⟨(y3 j hj).1, ?_⟩⟩,t2.rch,λj hj=>?_⟩,⟨t3.len,t3.fl,t3.own,t3.oth⟩,rfl⟩;show zfu p _ ((s.ae.set _ _).getD j az)=true;by_cases q:bb s a=j;subst q;rw[gS (l:=s.ae) (by omega)];have z:=(nM.1 (y3 _ hj).2).2.1;have at2:∀ {x:cD} {i},i<((s.ae.getD (bb s a) az).bO++[x]).length ->((s.ae.getD (bb s a) az).bO++[x]).getD i cc=x∨i<(s.ae.getD (bb s a) az).bO.length/\((s.ae.getD (bb s a) az).bO++[x]).getD i cc=(s.ae.getD (bb s a) az).bO.getD i cc:=λ{x i} hi=>by
  rw[xl,jw]at hi;rw[x7];rcases kb i (s.ae.getD (bb s a) az).bO.length with q |q;rw[ya q,<- x7];exact .inr ⟨q,rfl⟩;rw[y6 q,show i - _=0 by omega];exact .inl rfl
 refine nM.2 ⟨(z21 _).2 ⟨⟨c1.1,c1.2.1,c1.2.2.1, ?_⟩,λi hi=>?_⟩,z,λi hi=>?_⟩;show(s.ae.getD (bb s a) az).first+(((s.ae.getD (bb s a) az).bO++[_]:List cD).length:Int)<=32;rw[xl,jw];omega;show mv ((_++[_]:List cD).getD i cc)=true;rcases at2 hi with q | ⟨q,r⟩;rw[q];unfold mv;simp only[xa,xd];have :=hf.eA;have :=(sN.1 v1).2.2.1;omega;rw[r];exact c2 i q;show((_++[_]:List cD).getD i cc).var<_;rcases at2 hi with q | ⟨q,r⟩;rw[q];exact ho.2;rw[r];exact b3 i q;rw[gN (l:=s.ae) q];exact(y3 j hj).2;show((s.ae.set _ _).getD j az).first+(((s.ae.set _ _).getD j az).bO.length:Int)<=_;by_cases q:bb s a=j;subst q;rw[gS (l:=s.ae) (by omega)];show(s.ae.getD (bb s a) az).first+(((s.ae.getD (bb s a) az).bO++[_]:List cD).length:Int)<=((s.ab.set (bb s a) _).getD (bb s a) ao).io;rw[gS f1,t5,xl,jw];omega;rw[gN (l:=s.ae) q];exact t2.cnt j hj;have hs:=aum hv;have zv:=av7 (s:=bN s) hp (λj=>hT.ok j) z1;obtain⟨y1,y2,y3⟩:=oP.1 zv;have Un:=apr y3;have rel:aqx s (rX (da p b (bN s) a).1 s.ae) a:=by
  refine⟨z2.len,λh=>absurd h hn,λx hx y hy e1 e2=>?_,λx hx y hy e1 e2=>?_⟩;obtain⟨t,ht,t1,t2⟩:=z2.it y hy (by rw[<- e1,e2]);rw[(U t ht).2.2 x hx (by rw[e2,t1])];exact t2;rcases z2.new y hy (by rw[<- e1];exact e2)with q |q;exact(U x hx).2.2 y q e1.symm;exact absurd e1 (q x hx)
 have gb:∀ j,j<(da p b (bN s) a).1.ab.length ->(rX (da p b (bN s) a).1 s.ae).ae.getD j az=sC s.ae ((da p b (bN s) a).1.ab.getD j ao).id:=λj hj=>z9l _ _ _ (xm _) j hj;have ob:∀ j,j<(da p b (bN s) a).1.ab.length ->(sC s.ae ((da p b (bN s) a).1.ab.getD j ao).id=⟨((da p b (bN s) a).1.ab.getD j ao).id,0,[]⟩)∨∃ i,i<s.ab.length/\sC s.ae ((da p b (bN s) a).1.ab.getD j ao).id=s.ae.getD i az/\(s.ab.getD i ao).id=((da p b (bN s) a).1.ab.getD j ao).id:=λj hj=>by
  unfold sC;split;rename_i q;obtain⟨q1,q2⟩:=an7 _ _ _ (xm _) q;have q1:(db s.ae ((da p b (bN s) a).1.ab.getD j ao).id).toNat<s.ab.length:=by rw[<- v2];exact q1
  have q2:(s.ae.getD (db s.ae ((da p b (bN s) a).1.ab.getD j ao).id).toNat az).ay=_:=q2;exact .inr ⟨_,q1,rfl,(nM.1 (v3 _ q1).2).2.1.symm.trans q2⟩;exact .inl rfl
 refine⟨rfl,⟨z12.2 ⟨y1,xY _ _ _ (xm _),λj hj=>⟨y3 j hj, ?_⟩⟩,z2.rch,λj hj=>?_⟩,rel,rfl⟩;rw[gb j hj];have F:=oo (mD.1 (y3 j hj).1).2;rcases ob j hj with q | ⟨i,q1,q2,q3⟩;rw[q];refine nM.2 ⟨(z21 _).2 ⟨⟨(tO F.id).1,yr _,(by decide:(0:Int)<=32),(by decide:(0:Int)+((0:Nat):Int)<=32)⟩,λi hi=>absurd hi (jo _)⟩,rfl,λi hi=>absurd hi (jo _)⟩;rw[q2];exact au2 (v3 i q1).2 q3.symm;rw[gb j hj];have hy:(da p b (bN s) a).1.ab.getD j ao∈(da p b (bN s) a).1.ab:=AC hj;have F:=oo (mD.1 (y3 j hj).1).2;rcases ob j hj with q | ⟨i,q1,q2,q3⟩;rw[q];show(0:Int)+((0:Nat):Int)<=_;have :=F.io;show(0:Int)+((0:Nat):Int)<=((da p b (bN s) a).1.ab.getD j ao).io;omega;rw[q2];have h1:=I.cnt i q1;show _<=((da p b (bN s) a).1.ab.getD j ao).io;by_cases q:(s.ab.getD i ao).id=a;have :=rel.own _ (AC q1) _ hy q3 q;omega;have :=rel.oth _ (AC q1) _ hy q3 q;rw[this];exact h1
theorem av9 (h:(zt p b s a).2.2=0):aV p b=0/\cQ p b s=true/\aQ (cL p s) a=true:=by grind[zt,aV]
theorem ava (y:bI p) (h:(zp p b).2=0):ul p b (zp p b).1:=by
 have i:aV p b=0:=by
  grind[zp]
 have hs:(zj p b).2=0:=by unfold zj;rw[x8 (λh=>h i)]
 have⟨R,E⟩:=anl p b;have u:=avh y h;have⟨v1,v2,U⟩:=z12.1 u;have Q:zj p b=(⟨z1p p b p.ab.length,(m0 p).1,[]⟩,0):=by unfold zj;rw[x8 (λh=>h i)]
 have K:(zp p b).1.ab=z1p p b p.ab.length:=by
  have :=yt ja.ab R;rw[Q]at this;exact this.symm
 have em:(zp p b).1.l5=(m0 p).1:=by
  have :=yt ja.l5 R;rw[Q]at this;exact this.symm
 have V:=(l6 i).1;have P:jM p:=⟨y,V⟩;have fl:∀ n:Nat,(List.replicate n ([]:List Int)).flatten=[]:=λn=>by
  simp_all
 have al:kw (m0 p).1=[]:=by
  unfold m0 kw;grind
 have N:∀ x∈z1p p b p.ab.length,x.ic=[]/\x.id<8:=λx f=>by
  obtain⟨j,m,rfl⟩:=wv.1 f;have m:=yl.1 m;have⟨t1,t2⟩:=P.ab.2 j m;have Z:=P.ab.1.2;have hd:br (j:Int)=0:=by
   have :j=0∨j=1∨j=2∨j=3∨j=4∨j=5∨j=6∨j=7:=O;rcases this with rfl |rfl |rfl |rfl |rfl |rfl |rfl |rfl<;>decide
  have Y:(ba p b (j:Int) (p.ab.getD j dQ).fn (p.ab.getD j dQ).arg).2=0:=by
   unfold ba;rw[x8 (λh=>h i),x8 O,x8 O,x8 (λh=>h (oa.2 (oh.1 t2)))]
  have⟨X,n2⟩:=aud Y;exact⟨n2,by rw[X];omega⟩
 refine⟨u,⟨λt e x f=>?_,λid J=>?_,λt e Z=>?_⟩,λk H=>?_⟩;rw[K]at e;rw[(N t e).1]at f;cases f;rw[em,al]at J;cases J;rw[K]at e;have :=(N t e).2;omega;have⟨b1,b2,b3,b4⟩:=E.buf k H;have F:=(oo (mD.1 (U k H).1.1).2).io;rw[b2];show _+((0:Nat):Int)<=_;omega
end
end Go.Proofs.S25
