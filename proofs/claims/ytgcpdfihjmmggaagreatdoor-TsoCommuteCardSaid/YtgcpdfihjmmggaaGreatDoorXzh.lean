import Derived.Test.YtgcpdfihjmmggaaGreatDoorXzg
namespace Go.Proofs.S25
open Go Go.AV
open Go.IntKind renaming i64 -> j6
open Go.AV.ex (ey)
noncomputable section
variable {l:List Int} {p:ai} {m:i8} {b:Int} {id:Int} {s:ja} {a:Int} {t:i5} {i:aK} {r:Int}
theorem apl {s e:Int} (h:fy p b t):fy p b (cT t s e):=⟨h.id,h.fn,h.pc,h.aw,h.io,h.i7,h.deep,h.mO,h.ic,h.ph⟩
theorem ang (F:fy p b t) (hs:t.ip=2) (e:t.i9=0) (f:t.gH=0) (h:dv p t=false∨(i6 p t).op=7):cG p b t=true:=by grind[cG,lM,TG.2]
theorem amw (F:fy p b t) (hs:t.ip=3) (h:r6 p t):cG p b t=true:=by grind[cG,TG.2]
theorem ana (F:fy p b t) (hs:t.ip=1∨t.ip=4) (h:kN p b t):cG p b t=true:=by grind[cG,TG.2]
theorem aoh (h:bS t i≠0):t.gH=0/\(bS t i=27∨bS t i=28):=by
 unfold bS at h ⊢;omega
theorem anf (F:fy p b t) (u:1<=b) (hs:t.ip=1) (m:t.i9=0) (i:dv p t) (k:cM (i6 p t).op=true):cG p b (oc b t (i6 p t))=true:=by
 unfold oc;split;rename_i e;have⟨h,j⟩:=aoh e;refine amw (apl F) rfl ?_;unfold r6;show(t.gH==0&&(dv p t&&(if bS t (i6 p t)=26 then _ else if bS t (i6 p t)=29 then _ else bS t (i6 p t) !=0&&bS t (i6 p t)==bS t (i6 p t))))=true;rw[x8 O,x8 O,h,i];simp[e];rename_i e;have e:bS t (i6 p t)=0:=ye.1 e;split;rename_i f;refine ana (apl F) (.inr rfl) ?_;unfold kN;show((0:Int)==0&&(dv p t&&(cM (i6 p t).op&&(bS t (i6 p t)==0&&(((4:Int)==1&&decide (t.io<b)) || ((4:Int)==4&&decide (1<=t.io)))))))=true;grind;rename_i f;refine ana F (.inl hs) ?_;unfold kN;have :=F.io;have :t.io<b:=O;grind
theorem ans (F:fy p b t) (a:Nat): -2147483648<=t.aw.getD a 0/\t.aw.getD a 0<=2147483647:=by
 by_cases h:a<t.aw.length;exact F.aw _ (oI h);grind
theorem am2 (h:∀ r∈l,-2147483648<=r/\r<=2147483647) (a:Int) {v:Int} (f: -2147483648<=v/\v<=2147483647):∀ r∈jD l a v,-2147483648<=r/\r<=2147483647:=λr i=>by
 rcases List.mem_or_eq_of_mem_set i with e |e
 exact h r e
 rw[e];exact f
theorem apc (F:fy p b t) (f:t.gH=0) {l:List Int} {n:Int} (hl:∀ r∈l,-2147483648<=r/\r<=2147483647) (e:0<=n/\n<=((p.ef.getD t.fn.toNat bL).code.length:Int)):fy p b {t with aw:=l,pc:=n}:=
 ⟨F.id,F.fn,e,hl,F.io,F.i7,F.deep,F.mO,F.ic, .inl f⟩
theorem ao2 (x:jM p) (W:jJ p t) (F:fy p b t) (e:t.gH=0) (hs:t.ip=1) (f:t.i9=0) (j:dv p t) (H:cM (i6 p t).op=false):
 ((aO t (i6 p t)).2=true/\fy p b (aO t (i6 p t)).1/\(aO t (i6 p t)).1.gH=0/\(aO t (i6 p t)).1.ip=1/\(aO t (i6 p t)).1.i9=0)∨((aO t (i6 p t)).2=false/\cG p b (aO t (i6 p t)).1=true):=by
 have y:=vi x W j;have⟨E,K,k⟩:=vO y;have u:=(VG W j).1;have J:=F.pc;have i:0<=t.pc+1/\t.pc+1<=((p.ef.getD t.fn.toNat bL).code.length:Int):=O;unfold aO;split;rename_i h;exact .inl ⟨rfl,apc F e (am2 F.aw _ ((zj1 E).2.2.1 h)) i,e,hs,f⟩;split;exact .inl ⟨rfl,apc F e (am2 F.aw _ (ans F _)) i,e,hs,f⟩;split;split;exact .inl ⟨rfl,apc F e (am2 F.aw _ (aoa _ _ _)) i,e,hs,f⟩;exact .inl ⟨rfl,apc F e F.aw i,e,hs,f⟩;split;rename_i h;refine .inl ⟨rfl,apc F e F.aw ?_,e,hs,f⟩;split;exact i;exact k (.inr h);split;rename_i h;exact .inl ⟨rfl,apc F e F.aw (k (.inl h)),e,hs,f⟩;split;rename_i h;split;rename_i m;refine .inr ⟨rfl,amw (apl F) rfl ?_⟩;unfold r6;show(t.gH==0&&(dv p t&&(if(26:Int)=26 then(i6 p t).op==6&&dy t (i6 p t).b==0 else _)))=true;rw[x9 rfl,e,j,h,m];rfl;exact .inl ⟨rfl,apc F e F.aw i,e,hs,f⟩;split;rename_i h;exact .inr ⟨rfl,ang (apl F) rfl rfl e (.inr h)⟩;exact .inl ⟨rfl,apc F e F.aw i,e,hs,f⟩
theorem ant (u:jM p) (j:1<=b):∀ (k:Nat) (t:i5),jJ p t ->fy p b t ->t.ip=1 ->t.i9=0 ->cG p b (z4q p b k t)=true:=by
 have one:∀ (t:i5),fy p b t ->dv p t=false ->cG p b (cT t 2 0)=true:=λt F e=>by
  refine ang (apl F) rfl rfl ?_ (.inl e);rcases F.ph with h |h;exact h;rw[e]at h;exact absurd h.2.1 am
 have ph:∀ (t:i5),fy p b t ->cM (i6 p t).op=false ->t.gH=0:=λt F f=>by
  rcases F.ph with h |h;exact h;rw[h.2.2.1]at f;exact absurd f am
 intro k;induction k with
 |zero=>
  intro t W F hs i;cases e:dv p t with
  |false=>rw[z164 e];exact one t F e
  |true=>
   cases f:cM (i6 p t).op with
   |true=>rw[VD e f];exact anf F j hs i e f
   |false=>
    rw[s_0 e f];refine amw (apl F) rfl ?_;unfold r6;show(t.gH==0&&(dv p t&&(if(29:Int)=26 then _ else if(29:Int)=29 then !cM (i6 p t).op else _)))=true;rw[x8 am,x9 rfl,ph t F f,e,f];rfl
 |succ k m=>
  grind[z164,cM,i6,VD,s_s,ao2,zpl]
theorem ank (F:fy p b t) (i:aK) {r:Int} (e:wr r=r):∀ x∈(i4 t i r).aw,-2147483648<=x/\x<=2147483647:=by
 unfold i4;split;exact am2 F.aw _ (oa.1 e);exact F.aw
theorem ao9 (hp:jM p) (ht:dU t) (h:cG p b t) (hs:t.ip=1) (y:wr r=r):fy p b (uk t (i6 p t) r):=by
 have F:=oo h;have W:=F.wf ht;have⟨_,u,U,k,a1⟩:=sZ h hs;have hc:=vi hp W u;have⟨c1,j,_⟩:=vO hc;have a2:=(VG W u).1;have h4:=F.pc;have h5:=F.io;have R:=ank F (i6 p t) y;have i:0<=t.pc+1/\t.pc+1<=((p.ef.getD t.fn.toNat bL).code.length:Int):=O;have st:0<=t.io+1/\t.io+1<=b:=O;have p0:(i6 p t).op≠18 ->t.gH=0:=λh=>by
  rcases F.ph with q |q;exact q;exact absurd q.2.2.1 h
 have V:∀ (l:List Int) (v:Int),(0<=v/\v<p.aP.length) ->(∀ m∈l,0<=m/\m<(p.aP.length:Int)) ->jC l ->∀ m∈c9 l v,0<=m/\m<(p.aP.length:Int):=λl v U hl y m E=>by
  rcases(zth y v m).1 E with q |q;exact hl m q;rw[q];exact U
 have Q:∀ (l:List Int) (v:Int),(∀ m∈l,0<=m/\m<(p.aP.length:Int)) ->∀ m∈cU l v,0<=m/\m<(p.aP.length:Int):=λl v hl m E=>hl m (ac3.1 E).1;have K:(i6 p t).op=18 ->0<=(i6 p t).n/\(i6 p t).n<p.aP.length:=λh=>by
  unfold ky at j;simp only[h,beq_self_eq_true,wc,xg,xh]at j;omega
 have N:((i6 p t).op=15∨(i6 p t).op=16∨(i6 p t).op=17) ->0<=(i6 p t).ii/\(i6 p t).ii<p.aP.length:=λh=>by
  have e:jI p (i6 p t).op=p.aP.length:=by unfold jI;rw[x8 O,x9 h]
  unfold ky at j;rw[e]at j;simp only[xg,xy,xh]at j;omega
 unfold uk;split;rename_i f;have Y:=K f;unfold z2f;split;exact⟨F.id,F.fn,F.pc,R,st,F.i7,F.deep,ahz _ _,Q _ _ F.ic, .inr ⟨.inl rfl,u,f,λq=>(ac3.1 q).2 rfl⟩⟩;rename_i x;have x:t.gH≠0:=x;have X:(i6 p t).n∉t.ic:=by
  rcases F.ph with q |q;exact absurd q x;exact q.2.2.2
 split;exact⟨F.id,F.fn,F.pc,R,st,F.i7,F.deep,F.mO,F.ic, .inr ⟨.inr rfl,u,f,X⟩⟩;exact⟨F.id,F.fn,i,R,st,F.i7,F.deep,aiw _ _,V _ _ Y F.ic F.mO, .inl rfl⟩;rename_i f;have z:=p0 f;split;rename_i q;exact⟨F.id,F.fn,i,R,st,F.i7,F.deep,aiw _ _,V _ _ (N O) F.ic F.mO, .inl z⟩;split;exact⟨F.id,F.fn,i,R,st,F.i7,F.deep,ahz _ _,Q _ _ F.ic, .inl z⟩;split;rename_i J;have H:cA t=true:=by
  unfold bS at k;rw[x8 O,x8 O,x9 J]at k;cases Z:cA t with
  |true=>rfl
  |false=>rw[Z]at k;exact absurd k am
 unfold cA at H;simp only[xi,xg,xh,xp]at H;have hk:=F.i7;exact⟨F.id,F.fn,i,R,st,by show 0<=t.i7+1/\t.i7+1<=7;omega,λq=>absurd q H.1.1.2,F.mO,F.ic, .inl z⟩;exact⟨F.id,F.fn,i,R,st,F.i7,F.deep,F.mO,F.ic, .inl z⟩
theorem anu (f:bI p) (i:dU t) (h:fq p b t) (hs:t.ip=1) (m:wr r=r):fq p b (cd p b t r).1=true/\(cd p b t r).2=0/\(cd p b t r).1=b7 p b (uk t (i6 p t) r):=by
 have⟨a,c⟩:=mD.1 h;have⟨k,j,_⟩:=l6 a;have f:jM p:=⟨f,k⟩;have e:cd p b t r=(b7 p b (uk t (i6 p t) r),0):=by
  grind[cd]
 rw[e];have q:=Y2 t (i6 p t) r;refine⟨mD.2 ⟨a,ant f j 256 _ (zj7 f i c hs r) (ao9 f i c hs m) (by rw[q.2.2.2.2.2.1];exact hs) (by rw[q.2.2.1];exact(sZ c hs).1)⟩,rfl,rfl⟩
theorem ao5 (h:fq p b t) (hs:t.ip=1) (j:wr r=r):(cd p b t r).1.id=t.id/\(cd p b t r).1.io=t.io+1:=by
 have⟨a,c⟩:=mD.1 h;have e:cd p b t r=(b7 p b (uk t (i6 p t) r),0):=by
  grind[cd]
 rw[e];have q:=Y2 t (i6 p t) r;have st:∀ (k:Nat) (t:i5),(z4q p b k t).io=t.io:=λk=>by
  have lo:∀ (t:i5) (i:aK),(aO t i).1.io=t.io:=λt i=>by
   unfold aO;repeat' split
   all_goals rfl
  have f:∀ (t:i5) (i:aK),(oc b t i).io=t.io:=λt i=>by
   unfold oc;repeat' split
   all_goals rfl
  induction k with
  |zero=>intro t;unfold z4q;repeat' split
         all_goals first |rfl |exact f _ _
  |succ k ih=>intro t;unfold z4q;repeat' split
              all_goals first |rfl |exact f _ _ |exact(ih _).trans (lo _ _) |exact lo _ _
 exact⟨(zbh p b 256 _).trans q.1,(st 256 _).trans q.2.2.2.2.1⟩
def jg (p:ai) (b:Int) (s:ja) (a:Int):ja×Int:=if(bP p s a).kind=16 then eH p b {s with l5:=(cW p s a).1} (bP p s a).ii (c5 p s a).ii (bp (cl p s a) (c5 p s a).b)else({s with l5:=(cW p s a).1},0)
theorem anr (e:(da p b s a).2.2=0):
 aV p b=0/\bT p b s=true/\(bg p s a).2.2=true/\z20 s (cl p s a) (c5 p s a)=true/\(cW p s a).2.2=0/\(jg p b s a).2=0/\(gY p b s a).2=0/\
  da p b s a=({(jg p b s a).1 with ab:=(jg p b s a).1.ab.set (aS (jg p b s a).1.ab a).toNat (gY p b s a).1},bP p s a,0):=by
 have f:da p b s a=
  if aV p b≠0 then(mt,aW,aV p b)else if bT p b s=false then(mt,aW,1)else if(bg p s a).2.2=false∨z20 s (cl p s a) (c5 p s a)=false then(mt,aW,19)else if(cW p s a).2.2≠0 then(mt,aW,30)
  else if(jg p b s a).2≠0 then(mt,aW,(jg p b s a).2)else if(gY p b s a).2≠0 then(mt,aW,(gY p b s a).2)else({(jg p b s a).1 with ab:=(jg p b s a).1.ab.set (aS (jg p b s a).1.ab a).toNat (gY p b s a).1},bP p s a,0):=rfl
 rw[f]at e ⊢;split at e;grind;rename_i m;split at e;exact absurd e am;rename_i k;split at e;exact absurd e am;rename_i j;split at e;exact absurd e am;rename_i i;split at e;grind;rename_i h;split at e;grind;grind
structure Emp (t:ja):Prop where
 len:t.ae.length=t.ab.length
 buf:∀ j,j<t.ab.length ->(t.ae.getD j az).ay=(t.ab.getD j ao).id/\(t.ae.getD j az).bO=[]/\0<=(t.ae.getD j az).first/\((t.ae.getD j az).first=0∨(t.ae.getD j az).first<=(t.ab.getD j ao).io)
theorem anb {t:ja} (E:Emp t) (h:bT p b (bN t)):cQ p b t=true:=by
 have⟨m,_,f⟩:=oP.1 h;refine z12.2 ⟨m,E.len,λj e=>⟨f j e,nM.2 ?_⟩⟩;have⟨i,b2,b3,x⟩:=E.buf j e;have⟨a,c⟩:=mD.1 (f j e).1;have F:=oo c;have st:0<=(t.ab.getD j ao).io/\(t.ab.getD j ao).io<=b:=F.io;have id:0<=(t.ab.getD j ao).id/\_:=tO F.id;have u:=(l6 a).2;refine⟨(z21 _).2 ⟨⟨by rw[i];exact id.1,b3,O,by rw[b2];show _+((0:Nat):Int)<=_;omega⟩,λi k=>?_⟩,i,λi k=>?_⟩;grind;grind
theorem an7 (l:List bR) (id:Int):∀ n,n<=l.length ->0<=iF l id n ->(iF l id n).toNat<l.length/\(l.getD (iF l id n).toNat az).ay=id
 |0,_,h=>absurd h (by show ¬ (0:Int)<= -1;decide)
 |k+1,f,h=>by
  unfold iF at h ⊢
  split
  rename_i e
  exact⟨O,e⟩
  rename_i e
  rw[x8 e]at h
  exact an7 l id k O h
theorem anx (h:cm p t):t.ip=1/\fq p 32 t=true:=by grind[cm]
theorem alz (hs:aV p b=0) (e:cQ p b s) (f:aQ (cL p s) a):
 zt p b s a=if fj (zu p s a).1 then
  (if(dn p b s (aS s.ab (aX a)).toNat (zu p s a).1).2≠0 then(mt,aW,(dn p b s (aS s.ab (aX a)).toNat (zu p s a).1).2)else((dn p b s (aS s.ab (aX a)).toNat (zu p s a).1).1,(zu p s a).1,0))
 else dH p b s a:=by
 have⟨h,j,i⟩:=l6 hs;unfold zt;rw[x8 (by simp[h]),x8 O,x8 (by simp[e]),x8 (by simp[f])]
theorem aob (h:(cd p b t r).2=0):fq p b t=true/\t.ip=1/\wr r=r:=by grind[cd,mD.2]
theorem gS {α:Type} {l:List α} {k:Nat} {x d:α} (h:k<l.length):(l.set k x).getD k d=x:=dl
theorem gN {α:Type} {l:List α} {k j:Nat} {x d:α} (h:k≠j):(l.set k x).getD j d=l.getD j d:=dl
theorem aod {fn arg:Int} (h:(ba p b id fn arg).2=0):(ba p b id fn arg).1.id=id:=by
 unfold ba at h ⊢;split at h;omega;split at h;omega;split at h;omega;split at h;omega;rename_i j i f e;rw[x8 j,x8 i,x8 f,x8 e];exact zbh p b 256 _
theorem anv {t:ja} {k:Nat} (i:cQ p b t) (f:k<t.ab.length) (h:0<(t.ae.getD k az).bO.length):aQ (cL p t) (m6 (t.ab.getD k ao).id)=true:=by
 have e:=rc i;rw[zcu,<- zrz e,z59];refine List.mem_flatMap.2 ⟨k,yl.2 f,xx.2 (.inr ?_)⟩;rw[x9 (by rw[ab3 e f];exact wy h)];grind
theorem anl (p:ai) (b:Int):(zj p b).1=bN (zp p b).1/\Emp (zp p b).1:=by
 unfold zp;split;rename_i h;have e:zj p b=(mt,aV p b):=by unfold zj;rw[x9 h]
 rw[e];exact⟨rfl,rfl,λj f=>absurd f (jo _)⟩;rename_i h;have e:zj p b=(⟨z1p p b p.ab.length,(m0 p).1,[]⟩,0):=by unfold zj;rw[x8 h]
 rw[e];refine⟨rfl,xY _ _ _ (xm _),λj f=>?_⟩;have q:(rX ⟨z1p p b p.ab.length,(m0 p).1,[]⟩ []).ae.getD j az=sC [] ((z1p p b p.ab.length).getD j ao).id:=z9l _ _ _ (xm _) j f;rw[q];exact⟨rfl,rfl,yr _, .inl rfl⟩
theorem att (n:Nat):∀ (l:List (List Int)) (c:Nat),c<l.length ->l.flatten.Perm ((l.getD c []).take n++(l.set c ((l.getD c []).drop n)).flatten)
 |q::l,0,_=>by
  show(q++l.flatten).Perm (q.take n++(q.drop n++l.flatten))
  rw[<- wq,List.take_append_drop]
 |q::l,c+1,h=>by
  have e:=att n l c (by simpa using h)
  show(q++l.flatten).Perm ((l.getD c []).take n++(q++(l.set c ((l.getD c []).drop n)).flatten))
  refine(List.Perm.append_left q e).trans ?_
  rw[<- wq,<- wq]
  exact List.Perm.append_right _ List.perm_append_comm
theorem aso (v:Int):∀ (l:List (List Int)) (c:Nat),c<l.length ->(l.set c (l.getD c []++[v])).flatten.Perm (v::l.flatten)
 |q::l,0,_=>by
  show(q++[v]++l.flatten).Perm (v::(q++l.flatten))
  rw[wq]
  exact List.perm_middle
 |q::l,c+1,h=>by
  have e:=aso v l c (by simpa using h)
  exact(List.Perm.append_left q e).trans List.perm_middle
theorem ata {x v:Int} (F:jZ m) (h:(zr m x v).2=0):jZ (zr m x v).1/\(zr m x v).1.eA.length=m.eA.length/\(zr m x v).1.aa.length=m.aa.length/\(zr m x v).1.a6.length=m.a6.length:=by
 unfold zr at h ⊢;split at h;omega;rename_i q;split at h;omega;rename_i f;rw[x8 q,x8 f];refine⟨⟨by show(m.eA.set _ _).length<=8;rw[yy];exact F.eA,F.aa,F.a6,F.mO,λy i=>?_,F.own,F.pos,F.nd⟩,yy,rfl,rfl⟩;rcases List.mem_or_eq_of_mem_set i with e |e;exact F.uZ y e;rw[e];omega
theorem aq5 {i id f e:Int} (F:jZ m) (u: -1<=e) (h:(bc m i id f e).2=0):jZ (bc m i id f e).1/\(bc m i id f e).1.eA.length=m.eA.length/\(bc m i id f e).1.aa.length=m.aa.length/\(bc m i id f e).1.a6.length=m.a6.length:=by
 unfold bc at h ⊢;split at h;omega;rename_i q;split at h;omega;rename_i r;split at h;omega;rename_i k;rw[x8 q,x8 r,x8 k];refine⟨⟨F.eA,by show(m.aa.set _ _).length<=4;rw[yy];exact F.aa,F.a6,F.mO,F.uZ,λy s=>?_,F.pos,F.nd⟩,rfl,yy,rfl⟩;rcases List.mem_or_eq_of_mem_set s with j |j;exact F.own y j;omega
theorem au9 {i n:Int} (h:bC m i n=0):0<=i/\i<n:=by grind[bC]
theorem auu {c id:Int} (F:jZ m) (h:(aZ m c id).2=0):jZ (aZ m c id).1/\(aZ m c id).1.eA.length=m.eA.length/\(aZ m c id).1.aa.length=m.aa.length/\(aZ m c id).1.a6.length=m.a6.length:=by
 unfold aZ at h ⊢;split at h;omega;rename_i q;split at h;omega;rename_i q2;split at h;omega;rename_i e;rw[x8 q,x8 q2,x8 e];have j:=au9 (ye.1 q);have P:(kw {m with a6:=m.a6.set c.toNat (m.a6.getD c.toNat []++[id])}).Perm (id::kw m):=by
  exact(List.Perm.append_left _ (aso id m.a6 c.toNat O)).trans List.perm_middle
 have f:id∉kw m:=λhm=>e (by
  unfold nt;rw[xk,List.any_eq_true];rcases xx.1 hm with h1 |h1;exact .inr (zcu.2 h1);have⟨l,i,h3⟩:=List.mem_flatten.1 h1;exact .inl ⟨l,i,zcu.2 h3⟩)
 refine⟨⟨F.eA,F.aa,by show(m.a6.set _ _).length<=4;rw[yy];exact F.a6,F.mO,F.uZ,F.own,λy hy=>?_,P.nodup_iff.2 (List.nodup_cons.2 ⟨f,F.nd⟩)⟩,rfl,rfl,yy⟩;rcases xv.1 (P.mem_iff.1 hy)with h1 |h1;rw[h1];omega;exact F.pos y h1
theorem avp (h:jC l):l.Nodup:=List.Pairwise.imp (λh=>Int.ne_of_lt h) h
theorem avf (F:jZ m) (h:(dD m id).2=0):jZ (dD m id).1/\(dD m id).1.eA.length=m.eA.length/\(dD m id).1.aa.length=m.aa.length/\(dD m id).1.a6.length=m.a6.length:=by
 unfold dD at h ⊢;split at h;omega;rename_i q;split at h;omega;rename_i f;rw[x8 q,x8 f];have hs:(cU m.lT id).Sublist m.lT:=by
  have :(cU m.lT id).Sublist (bx m.lT):=List.filter_sublist;rwa [zmy F.mO]at this
 have e:(kw {m with lT:=cU m.lT id}).Sublist (kw m):=List.Sublist.append hs (List.Sublist.refl _);exact⟨⟨F.eA,F.aa,F.a6,ahz _ _,F.uZ,F.own,λy i=>F.pos y (e.subset i),List.Sublist.nodup e F.nd⟩,rfl,rfl,rfl⟩
theorem av1 {c n:Nat} (F:jZ m) (r:c<m.a6.length):jZ (ud m c n):=by
 have P:=att n m.a6 c r;have j:(kw m).Perm ((m.lT++(m.a6.getD c []).take n)++(m.a6.set c ((m.a6.getD c []).drop n)).flatten):=by
  rw[wq];exact List.Perm.append_left _ P
 have e:(ud m c n).lT=bx (m.lT++(m.a6.getD c []).take n):=zlz _ _ F.mO;have nd:=j.nodup_iff.1 F.nd;rw[List.nodup_append]at nd;have⟨s,n2,n3⟩:=nd;have i:kw (ud m c n)=bx (m.lT++(m.a6.getD c []).take n)++(m.a6.set c ((m.a6.getD c []).drop n)).flatten:=by
  unfold kw;rw[e];rfl
 refine⟨F.eA,F.aa,by show(m.a6.set _ _).length<=4;rw[yy];exact F.a6,by rw[e];exact ri _,F.uZ,F.own,λy f=>?_, ?_⟩;rw[i]at f;refine F.pos y (j.mem_iff.2 ?_);rcases xx.1 f with h |h;exact xx.2 (.inl (z59.1 h));grind;rw[i,List.nodup_append];exact⟨avp (ri _),n2,λx k y f=>n3 x (z59.1 k) y f⟩
theorem auc {c k:Int} (F:jZ m) (h:(zi m c k).2.2=0):jZ (zi m c k).1/\(zi m c k).1.eA.length=m.eA.length/\(zi m c k).1.aa.length=m.aa.length/\(zi m c k).1.a6.length=m.a6.length:=by
 unfold zi at h ⊢;split at h;grind;rename_i q;rw[x8 q];have e:=au9 (ye.1 q);exact⟨av1 F O,rfl,rfl,yy⟩
def aui (m n:i8):Prop:=n.eA.length=m.eA.length/\n.aa.length=m.aa.length/\n.a6.length=m.a6.length
theorem av4 {e:Ev} (F:jZ m) (R:0<=t.id) (h:(cY m t i e).2.2=0):jZ (cY m t i e).1/\aui m (cY m t i e).1:=by
 have z:jZ m/\aui m m:=⟨F,rfl,rfl,rfl⟩;unfold cY at h ⊢;split at h;rename_i q;rw[x9 q];exact ata F h;rename_i f;split at h;rename_i q;rw[x8 f,x9 q];exact ata F h;rename_i j;split at h;rename_i q;rw[x8 f,x8 j,x9 q];exact z;rename_i k;split at h;rename_i q;rw[x8 f,x8 j,x8 k,x9 q];split at h;rename_i x;rw[x9 x];exact z;rename_i x;rw[x8 x];exact aq5 F O h;rename_i u;split at h;rename_i q;rw[x8 f,x8 j,x8 k,x8 u,x9 q];exact aq5 F O h;rename_i y;split at h;rename_i q;rw[x8 f,x8 j,x8 k,x8 u,x8 y,x9 q];exact aq5 F O h;rename_i E;split at h;rename_i q;rw[x8 f,x8 j,x8 k,x8 u,x8 y,x8 E,x9 q];split at h;rename_i x;rw[x9 x];have⟨Q,N,K,J⟩:=aq5 F (by decide:(-1:Int)<= -1) x;have⟨p1,p2,p3,p4⟩:=auu Q h;exact⟨p1,p2.trans N,p3.trans K,p4.trans J⟩;rename_i x;exact absurd h x;rename_i H;split at h;rename_i q;rw[x8 f,x8 j,x8 k,x8 u,x8 y,x8 E,x8 H,x9 q];exact avf F h;rename_i q8;split at h;rename_i q;rw[x8 f,x8 j,x8 k,x8 u,x8 y,x8 E,x8 H,x8 q8,x9 q];exact auc F h;rename_i q9;split at h;rename_i q;rw[x8 f,x8 j,x8 k,x8 u,x8 y,x8 E,x8 H,x8 q8,x8 q9,x9 q];exact auc F h;rename_i q10;split at h;rename_i q;rw[x8 f,x8 j,x8 k,x8 u,x8 y,x8 E,x8 H,x8 q8,x8 q9,x8 q10,x9 q];exact z;rename_i q;rw[x8 f,x8 j,x8 k,x8 u,x8 y,x8 E,x8 H,x8 q8,x8 q9,x8 q10,x8 q];exact z
theorem sN:ec p m=true↔(zc p).1=0/\jZ m/\m.eA.length=p.eA.length/\m.aa.length=p.aP.length/\m.a6.length=p.kC.length:=by grind[ec,z47]
theorem auz {e:Ev} (x:ec p m) (u:0<=t.id) (h:(cY m t i e).2.2=0):ec p (cY m t i e).1=true:=by
 have⟨s,r,k,j,f⟩:=sN.1 x;have⟨H,F,E,y⟩:=av4 r u h;exact sN.2 ⟨s,H,F.trans k,E.trans j,y.trans f⟩
theorem au5 (id:Int):∀ (l:List i5) (j:Nat),j<gK l id ->(l.getD j ao).id<id
 | [],j,h=>absurd h (jo _)
 |t::l,j,h=>by
  unfold gK at h
  rw[List.takeWhile_cons]at h
  split at h
  rename_i q
  cases j with
  |zero=>exact w7 q
  |succ j=>exact au5 id l j (Nat.lt_of_succ_lt_succ h)
  exact absurd h (jo _)
theorem au0 (id:Int):∀ (l:List i5),gK l id<l.length ->id<=(l.getD (gK l id) ao).id
 | [],h=>absurd h (jo _)
 |t::l,h=>by
  unfold gK at h ⊢
  rw[List.takeWhile_cons]at h ⊢
  split at h
  rename_i q
  rw[x9 q]
  exact au0 id l (Nat.lt_of_succ_lt_succ h)
  rename_i q
  grind
theorem aun {fn arg:Int} (x:bI p) (h:(ba p b id fn arg).2=0):fq p b (ba p b id fn arg).1=true:=by
 unfold ba at h ⊢;split at h;omega;split at h;omega;split at h;omega;split at h;omega;rename_i i m k f;rw[x8 i,x8 m,x8 k,x8 f];have a:=ye.1 i;have⟨s,r,_⟩:=l6 a;have j:0<=br id:=O;have F:=tO j;have E:=oa.1 (ye.1 f);refine mD.2 ⟨a,ant ⟨x,s⟩ r 256 _ (zfj O ⟨O,O⟩) ⟨j,⟨?_, ?_⟩,⟨yr _,Int.natCast_nonneg _⟩,λr u=>?_,⟨yr _,by show(0:Int)<=b;omega⟩,⟨yr _,by show(0:Int)<=7;decide⟩,λ_=>rfl,List.Pairwise.nil,λm y=>absurd y (by simp[zhf]), .inl rfl⟩ rfl rfl⟩;show 0<=fn;omega;show fn<(p.ef.length:Int);omega;rcases xv.1 u with e |e;omega;grind
theorem auo {l:List i5} {k:Nat} {T:i5} (V:∀ j,j<l.length ->z5e p b l j) (i:fq p b T) (h:T.id=(l.getD k ao).id):∀ j,j<(l.set k T).length ->z5e p b (l.set k T) j:=λj f=>by
 have f:j<l.length:=by rw[yy]at f;exact f
 have ids:∀ j,((l.set k T).getD j ao).id=(l.getD j ao).id:=ao1 h
 refine⟨?_,by rw[ids,ids];exact(V j f).2⟩
 by_cases e:k=j
 grind
 rw[gN e];exact(V j f).1
theorem avl {l:List i5} {T:i5} (V:∀ j,j<l.length ->z5e p b l j) (u:fq p b T) (y:aS l T.id<0):∀ j,j<(gB l T (gK l T.id)).length ->z5e p b (gB l T (gK l T.id)) j:=λj x=>by
 have f:=uj l T.id
 rw[z9q _ _ _ f]at x
 have R:=UP V
 refine⟨?_,λh0=>?_⟩
 rw[z9r _ _ _ f]
 split
 exact(V j (by omega)).1
 split
 exact u
 exact(V (j - 1) (by omega)).1
 rw[z9r _ _ _ f,z9r _ _ _ f]
 by_cases h:j<gK l T.id
 rw[x9 (show j - 1<gK l T.id by omega),x9 h]
 exact R j (j - 1) (by omega) (by omega)
 by_cases m:j=gK l T.id
 rw[x9 (show j - 1<gK l T.id by omega),x8 h,x9 m]
 exact au5 _ _ _ (by omega)
 by_cases i:j - 1=gK l T.id
 rw[x8 (show ¬ j - 1<gK l T.id by omega),x9 i,x8 h,x8 m]
 have F:=au0 T.id l (by omega)
 have E:(l.getD (gK l T.id) ao).id≠T.id:=λe=>by
  have :=zm2 (l:=l) (k:=gK l T.id) (by omega) e
  omega
 rw[i];omega
 rw[x8 (show ¬ j - 1<gK l T.id by omega),x8 i,x8 h,x8 m]
 exact R (j - 1) (j - 1 - 1) (by omega) (by omega)
theorem aue (e:bI p) (V:∀ j,j<s.ab.length ->z5e p b s.ab j) (h:(jg p b s a).2=0):(jg p b s a).1.ae=s.ae/\(jg p b s a).1.l5=(cW p s a).1/\(∀ j,j<(jg p b s a).1.ab.length ->z5e p b (jg p b s a).1.ab j)/\(0<=aS s.ab a ->0<=aS (jg p b s a).1.ab a):=by grind[jg,eH,aod,zrc,uj,avl,aun]
theorem av7 (u:bI p) (M:∀ j,dU (s.ab.getD j ao)) (Q:(da p b s a).2.2=0):bT p b (da p b s a).1=true:=by
 have⟨s1,s2,s3,s4,s5,J,k,i⟩:=anr Q;have⟨H,F,E⟩:=oP.1 s2;have⟨r,m,r3,r4⟩:=NG s3;have⟨f1,Y⟩:=nL r;have e:gY p b s a=cd p b (s.ab.getD (aS s.ab a).toNat ao) (cW p s a).2.1:=by unfold gY;rw[m]
 rw[e]at k i;have⟨h,y,x⟩:=aob k;have⟨Z,_,_⟩:=anu u (M _) h y x;have⟨K,_⟩:=ao5 h y x;have⟨X,V,U,R⟩:=aue u E J;have⟨h1,N⟩:=nL (R r);have f:0<=(cl p s a).id:=by
  rw[m];exact(tO (oo (mD.1 h).2).id).1
 rw[i];refine oP.2 ⟨?_, ?_,auo U Z (by rw[N,K];exact Y)⟩;show ec p (jg p b s a).1.l5=true;rw[V];exact auz H f s5;show(jg p b s a).1.ae.length=0;rw[X];exact F
theorem avi (y:bI p) (h:(zj p b).2=0):bT p b (zj p b).1=true:=by
 have m:aV p b=0:=by
  grind[zj]
 have⟨k,K,J⟩:=l6 m;have P:jM p:=⟨y,k⟩;have e:zj p b=(⟨z1p p b p.ab.length,(m0 p).1,[]⟩,0):=by unfold zj;rw[x8 (λh=>h m)]
 have H:(m0 p).1=⟨p.eA.map (·.init),List.replicate p.aP.length (-1),List.replicate p.kC.length [],[]⟩:=by unfold m0;rw[x8 (λh=>h k)]
 have fl:∀ n:Nat,(List.replicate n ([]:List Int)).flatten=[]:=λn=>by
  simp_all
 have E:kw (⟨p.eA.map (·.init),List.replicate p.aP.length (-1),List.replicate p.kC.length [],[]⟩:i8)=[]:=by
  unfold kw;rw[fl];rfl
 have x:∀ j,j<p.ab.length ->(ba p b (j:Int) (p.ab.getD j dQ).fn (p.ab.getD j dQ).arg).2=0:=λj f=>by
  have⟨t1,t2⟩:=P.ab.2 j f;have Q:=P.ab.1.2;have N:br (j:Int)=0:=by
   have :j=0∨j=1∨j=2∨j=3∨j=4∨j=5∨j=6∨j=7:=O;rcases this with rfl |rfl |rfl |rfl |rfl |rfl |rfl |rfl<;>decide
  unfold ba;rw[x8 (λh=>h m),x8 O,x8 O,x8 (λh=>h (oa.2 (oh.1 t2)))]
 have u:∀ j,j<p.ab.length ->(z1p p b p.ab.length).getD j ao=(ba p b (j:Int) (p.ab.getD j dQ).fn (p.ab.getD j dQ).arg).1:=λj f=>by
  unfold z1p;grind
 rw[e];refine oP.2 ⟨?_,rfl,λj f=>?_⟩;show ec p (m0 p).1=true;rw[H];refine sN.2 ⟨k,⟨by show(p.eA.map _).length<=8;rw[yx];exact P.ac9.1.1,by show(List.replicate _ _).length<=4;rw[List.length_replicate];exact P.ac9.1.2.1,by show(List.replicate _ _).length<=4;rw[List.length_replicate];exact P.ac9.1.2.2.1,List.Pairwise.nil,λx i=>?_,λx i=>?_,λx i=>?_, ?_⟩,yx _,List.length_replicate,List.length_replicate⟩;obtain⟨v,F,rfl⟩:=wv.1 i;exact oh.1 (P.ac9.2 v F);rw[(List.mem_replicate.1 i).2];decide;rw[E]at i;cases i;rw[E];exact List.nodup_nil;have f:j<p.ab.length:=by have :j<(z1p p b p.ab.length).length:=f;rwa [pG]at this
 refine⟨?_,λhj0=>?_⟩;show fq p b ((z1p p b p.ab.length).getD j ao)=true;rw[u j f];exact aun y (x j f);show((z1p p b p.ab.length).getD (j - 1) ao).id<((z1p p b p.ab.length).getD j ao).id;rw[u j f,u (j - 1) O,aod (x j f),aod (x (j - 1) O)];omega
theorem avh (e:bI p) (h:(zp p b).2=0):cQ p b (zp p b).1=true:=by grind[zp,zj,anl,avi,anb]
end
end Go.Proofs.S25
