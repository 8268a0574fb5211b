import Derived.Test.YtgcpdfihjmmggaaGreatDoorXzh
namespace Go.Proofs.S25
open Go Go.AV
open Go.IntKind renaming i64 -> j6
open Go.AV.Shape (leaf)
noncomputable section
variable {p:ai} {b:Int} {s:ag} {a:Int} {l:List aB} {k:Nat} {m:Mem} {t:aB} {i:aK} {x:Int} {n:Int} {id:Int}
structure Rch (l:List aB) (m:Mem):Prop where
 own:∀ t∈l,∀ x∈t.held,m.aa.getD x.toNat 0=t.id
 wait:∀ id∈allI m,∃ t∈l,t.id=id/\t.phase=1
 kids:∀ t∈l,8<=t.id ->∃ u∈l,8*(u.id+1)<=t.id/\t.id<8*(u.id+1)+u.kids
def Uq (l:List aB):Prop:=∀ t∈l,0<=t.id/\t.kids<=7/\∀ u∈l,u.id=t.id ->u=t
theorem apr (V:∀ j,j<l.length ->kg p b l j):Uq l:=λt s=>by
 have⟨j,k,e⟩:=yq s
 have g:∀ i (h:i<l.length),l.getD i ao=l[i]:=λi h=>by rw[x7,xe h];rfl
 have F:=oo (mD.1 (V j k).1).2
 rw[g j k,e]at F
 refine⟨(tO F.id).1,F.kids.2,λu r u=>?_⟩
 have⟨i,f,m⟩:=yq r
 have R:=UP V
 have :i=j:=by
  rcases jp i j with h |h |h
  . have :=R j i h k;rw[g i f,g j k,e,m]at this;omega
  . exact h
  . have :=R i j h f;rw[g i f,g j k,e,m]at this;omega
 grind
theorem aus {L:List aB} {m k:Mem} {t T:aB} (R:Rch l m) (U:Uq l) (H:t∈l) (f:T.id=t.id) (M:t.kids<=T.kids)
 (oT:∀ y∈T.held,k.aa.getD y.toNat 0=t.id) (oO:∀ y:Nat,m.aa.getD y 0≠t.id ->m.aa.getD y 0≠ -1 ->k.aa.getD y 0=m.aa.getD y 0)
 (W:∀ id∈allI k,id≠t.id/\id∈allI m∨id=t.id/\T.phase=1)
 (a:∀ x∈L,x=T∨x∈l/\x.id≠t.id∨x.held=[]/\8*(t.id+1)<=x.id/\x.id<8*(t.id+1)+T.kids) (b:T∈L) (c:∀ x∈l,x.id≠t.id ->x∈L):Rch L k:=by
 have K:∀ x∈l,8<=x.id ->∃ u∈L,8*(u.id+1)<=x.id/\x.id<8*(u.id+1)+u.kids:=λx j E=>by
  have⟨u,r,h,i⟩:=R.kids x j E
  by_cases e:u.id=t.id
  . have :=(U t H).2.2 u r e
    subst this
    exact⟨T,b,by rw[f];omega,by rw[f];omega⟩
  . exact⟨u,c u r e,h,i⟩
 refine⟨λx j y F=>?_,λid J=>?_,λx j E=>?_⟩
 . rcases a x j with rfl | ⟨h,i⟩ | ⟨h,_⟩
   . grind
   . have :=R.own x h y F
     have s:=(U x h).1
     rw[oO _ (by rw[this];exact i) (by rw[this];omega)];exact this
   . grind
 . rcases W id J with⟨h,i⟩ | ⟨h,i⟩
   . have⟨u,r,e,s⟩:=R.wait id i
     exact⟨u,c u r (by rw[e];exact h),e,s⟩
   . exact⟨T,b,by rw[f,h],i⟩
 . rcases a x j with rfl | ⟨h,_⟩ | ⟨_,i,s⟩
   . grind
   . grind
   . exact⟨T,b,by rw[f];exact i,by rw[f];exact s⟩
theorem avm (e:iJ m x=true) (h:0<=id):bc m x id (-1) id=({m with aa:=m.aa.set x.toNat id},0)/\0<=x/\x<m.aa.length/\m.aa.getD x.toNat 0= -1:=by
 unfold iJ at e
 rw[xa,xo,xo]at e
 have⟨f,j⟩:=e
 have i:=(kM f).2
 unfold bc
 grind
theorem ar7 (f:ca m=true) (e:0<=x/\x<n):bC m x n=0:=by grind[bC]
theorem auh (f:ca m=true) (e:0<=x/\x<m.aa.length) (i:0<=id) (h:m.aa.getD x.toNat 0=id):bc m x id id (-1)=({m with aa:=m.aa.set x.toNat (-1)},0):=by
 unfold bc
 rw[x8 (by rw[ar7 f e];simp),x8 O,x8 (λq=>q h)]
theorem av2 (h:nt m id=true):id∈allI m:=by grind[nt,allI,List.mem_flatten.2,zcu.1]
theorem aqk (l:List Int) (x y:Nat) (v:Int) (e:x<l.length):(l.set x v).getD y 0=if x=y then v else l.getD y 0:=by
 split
 . grind
 . grind
structure aq4 (m:Mem) (t:aB) (i:aK) (e:Ev):Prop where
 ok:(cY m t i e).2.2=0
 oT:∀ y∈(uk t i (cY m t i e).2.1).held,(cY m t i e).1.aa.getD y.toNat 0=t.id
 oO:∀ y:Nat,m.aa.getD y 0≠t.id ->m.aa.getD y 0≠ -1 ->(cY m t i e).1.aa.getD y 0=m.aa.getD y 0
 W:∀ id∈allI (cY m t i e).1,id≠t.id/\id∈allI m∨id=t.id/\(uk t i (cY m t i e).2.1).phase=1
theorem auf {e:Ev} (h:(cY m t i e).2.2=0) (f:(cY m t i e).1.aa=m.aa) (k:∀ x∈allI (cY m t i e).1,x∈allI m) (s:∀ y∈(uk t i (cY m t i e).2.1).held,y∈t.held) (H:∀ y∈t.held,m.aa.getD y.toNat 0=t.id) (N:t.id∉allI m):aq4 m t i e:=
 ⟨h,λy r=>by rw[f];exact H y (s y r),λy _ _=>by rw[f],λid j=> .inl ⟨λe=>N (e ▸ k id j),k id j⟩⟩
theorem avb {c n:Nat} (F:jZ m) (f:c<m.a6.length) {x:Int} (h:x∈allI (ud m c n)):x∈allI m:=by
 have P:(allI m).Perm ((m.sig++(m.a6.getD c []).take n)++(m.a6.set c ((m.a6.getD c []).drop n)).flatten):=by
  rw[wq]
  exact List.Perm.append_left _ (att n m.a6 c f)
 have e:(ud m c n).sig=bx (m.sig++(m.a6.getD c []).take n):=zlz _ _ F.mO
 have i:allI (ud m c n)=bx (m.sig++(m.a6.getD c []).take n)++(m.a6.set c ((m.a6.getD c []).drop n)).flatten:=by
  unfold allI;rw[e];rfl
 rw[i]at h
 refine P.mem_iff.2 ?_
 rcases xx.1 h with h |h
 . exact xx.2 (.inl (z59.1 h))
 . grind
theorem au4 {c n:Int} (e:ca m=true) (h:0<=c/\c<m.a6.length):(zi m c n).2.2=0/\(zi m c n).1.aa=m.aa/\∀ x∈allI (zi m c n).1,x∈allI m:=by
 unfold zi
 rw[x8 (by rw[ar7 e h];simp)]
 exact⟨rfl,rfl,λx f=>avb (z47.1 e) O f⟩
theorem au8 {v:Int} (h:ca m=true) (e:0<=x/\x<m.vars.length) (f: -2147483648<=v/\v<=2147483647):zr m x v=({m with vars:=m.vars.set x.toNat v},0):=by grind[zr,ar7]
theorem auj {r:Int} (h:¬ (i.op=15∨i.op=16∨i.op=17∨i.op=18)):(uk t i r).held=t.held:=by
 unfold uk
 rw[x8 O,x8 O,x8 O]
 split<;>rfl
structure atl (m:Mem) (i:aK):Prop where
 o:i.op=15∨i.op=16∨i.op=17 ->0<=i.obj/\i.obj<m.aa.length
 n:i.op=18 ->0<=i.n/\i.n<m.aa.length
theorem aul (j:ec p m=true) (h:jh p i n=0):atl m i:=by
 have e:=(ap5.1 j).2.2.2.1
 have f:=(vO h).2.1
 refine⟨λh=>?_,λh=>?_⟩
 . have k:jI p i.op=p.aP.length:=by unfold jI;rw[x8 O,x9 O]
   unfold ky at f
   grind
 . unfold ky at f
   grind
theorem aru {l:List Int} (i:iJ m x=true) (k:0<=t.id) (H:∀ y∈t.held,m.aa.getD y.toNat 0=t.id) (hl:∀ y∈l,y∈t.held∨y=x):
 (bc m x t.id (-1) t.id).2=0/\(∀ y∈l,(bc m x t.id (-1) t.id).1.aa.getD y.toNat 0=t.id)/\(∀ y:Nat,m.aa.getD y 0≠t.id ->m.aa.getD y 0≠ -1 ->(bc m x t.id (-1) t.id).1.aa.getD y 0=m.aa.getD y 0)/\allI (bc m x t.id (-1) t.id).1=allI m:=by
 have⟨e,s,r,j⟩:=avm i k
 rw[e]
 refine⟨rfl,λy f=>?_,λy _ f=>?_,rfl⟩
 . show(m.aa.set x.toNat t.id).getD y.toNat 0=_
   rw[aqk _ _ _ _ O]
   split
   . rfl
   . rcases hl y f with h |h
     . exact H y h
     . omega
 . show(m.aa.set x.toNat t.id).getD y 0=_
   rw[aqk _ _ _ _ O,x8 (λq=>f (by rw[<- q];exact j))]
theorem au6 {l:List Int} (k:ca m=true) (i:0<=x/\x<m.aa.length) (r:0<=t.id) (f:x∈t.held) (j:∀ y∈t.held,0<=y) (H:∀ y∈t.held,m.aa.getD y.toNat 0=t.id) (hl:∀ y∈l,y∈t.held/\y≠x):
 (bc m x t.id t.id (-1)).2=0/\(∀ y∈l,(bc m x t.id t.id (-1)).1.aa.getD y.toNat 0=t.id)/\(∀ y:Nat,m.aa.getD y 0≠t.id ->m.aa.getD y 0≠ -1 ->(bc m x t.id t.id (-1)).1.aa.getD y 0=m.aa.getD y 0)/\allI (bc m x t.id t.id (-1)).1=allI m:=by
 rw[auh k i r (H x f)]
 refine⟨rfl,λy e=>?_,λy e _=>?_,rfl⟩
 . show(m.aa.set x.toNat (-1)).getD y.toNat 0=_
   have⟨h,s⟩:=hl y e
   have :=j y h
   rw[aqk _ _ _ _ O,x8 O]
   exact H y h
 . show(m.aa.set x.toNat (-1)).getD y 0=_
   rw[aqk _ _ _ _ O,x8 (λq=>e (by rw[<- q];exact H x f))]
theorem av5 (G:mA s.mem i) (M:atl s.mem i) (Y:0<=t.id) (hr:∀ r∈t.aw,-2147483648<=r/\r<=2147483647) (F:jC t.held) (hp:∀ y∈t.held,0<=y) (a5:t.phase=0∨(t.phase=1∨t.phase=2)/\i.op=18) (u:bS t i=0)
 (H:∀ y∈t.held,s.mem.aa.getD y.toNat 0=t.id) (N:t.id∈allI s.mem ->t.phase=1) (he:z20 s t i=true):aq4 s.mem t i (aR s t i):=by
 have V:=G.form
 have X:∀ j,-2147483648<=bp t j/\bp t j<=2147483647:=λj=>by
  unfold bp
  rcases kb j.toNat t.aw.length with h |h
  . exact hr _ (oI h)
  . rw[x7,y9 h];decide
 have Z:i.op≠18 ->t.id∉allI s.mem:=λh q=>by have :=N q;omega
 have same:∀ e:Ev,i.op≠17 ->i.op≠16 ->i.op≠15 ->i.op≠18 ->(cY s.mem t i e).2.2=0 ->(cY s.mem t i e).1.aa=s.mem.aa ->(∀ x∈allI (cY s.mem t i e).1,x∈allI s.mem) ->aq4 s.mem t i e:=λe Q U R K q1 q2 q3=>
  auf q1 q2 q3 (λy k=>by rw[auj (t:=t) (i:=i) (by omega)]at k;exact k) H (Z K)
 have w0:∀ v,(i.op=8∨i.op=9∨i.op=10∨i.op=11∨i.op=12∨i.op=14) -> -2147483648<=v/\v<=2147483647 ->zr s.mem i.obj v=({s.mem with vars:=s.mem.vars.set i.obj.toNat v},0):=λv h hv=>au8 V (G.v h) hv
 rcases zbg G.ok.op with e |e |e |e |e |e |e |e |e |e |e |e |e |e |e
 . have :cY s.mem t i (aR s t i)=(s.mem,(fo s.mem i.obj).1,0):=by simp only[cY,aR,bz,iP,e,reduceIte,Int.reduceEq,ju,jv,jr]
   refine same _ (by omega) (by omega) (by omega) (by omega) ?_ ?_ ?_<;>rw[this]
   exact λx h=>h
 . have :cY s.mem t i (aR s t i)=({s.mem with vars:=s.mem.vars.set i.obj.toNat (bp t i.b)},0,0):=by
    have :=w0 (bp t i.b) (by omega) (X _)
    simp only[cY,aR,bz,iP,e,reduceIte,Int.reduceEq,ju,jv,jr,this]
   refine same _ (by omega) (by omega) (by omega) (by omega) ?_ ?_ ?_<;>rw[this]
   exact λx h=>h
 . have :cY s.mem t i (aR s t i)=({s.mem with vars:=s.mem.vars.set i.obj.toNat (bp t i.b)},(fo s.mem i.obj).1,0):=by
    have :=w0 (bp t i.b) (by omega) (X _)
    simp only[cY,aR,bz,iP,e,reduceIte,Int.reduceEq,ju,jv,jr,this]
   refine same _ (by omega) (by omega) (by omega) (by omega) ?_ ?_ ?_<;>rw[this]
   exact λx h=>h
 . have :cY s.mem t i (aR s t i)=({s.mem with vars:=s.mem.vars.set i.obj.toNat (app 1 (fo s.mem i.obj).1 (bp t i.b)).1},(fo s.mem i.obj).1,0):=by
    have :=w0 (app 1 (fo s.mem i.obj).1 (bp t i.b)).1 (by omega) (aoa _ _ _)
    simp only[cY,aR,bz,iP,e,reduceIte,Int.reduceEq,ju,jv,jr,this]
   refine same _ (by omega) (by omega) (by omega) (by omega) ?_ ?_ ?_<;>rw[this]
   exact λx h=>h
 . by_cases q:(fo s.mem i.obj).1=bp t i.b
   . have :cY s.mem t i (aR s t i)=({s.mem with vars:=s.mem.vars.set i.obj.toNat (bp t i.c)},1,0):=by
      have :=w0 (bp t i.c) (by omega) (X _)
      simp only[cY,aR,bz,iP,e,q,reduceIte,Int.reduceEq,ju,jv,jr,this]
     refine same _ (by omega) (by omega) (by omega) (by omega) ?_ ?_ ?_<;>rw[this]
     exact λx h=>h
   . have :cY s.mem t i (aR s t i)=(s.mem,0,0):=by
      simp only[cY,aR,bz,iP,e,q,reduceIte,Int.reduceEq,ju,jv,jr]
     refine same _ (by omega) (by omega) (by omega) (by omega) ?_ ?_ ?_<;>rw[this]
     exact λx h=>h
 . have :cY s.mem t i (aR s t i)=(s.mem,0,0):=by simp only[cY,aR,bz,iP,e,reduceIte,Int.reduceEq,ju,jv,jr]
   refine same _ (by omega) (by omega) (by omega) (by omega) ?_ ?_ ?_<;>rw[this]
   exact λx h=>h
 . have :cY s.mem t i (aR s t i)=(s.mem,(fo s.mem i.obj).1,0):=by simp only[cY,aR,bz,iP,e,reduceIte,Int.reduceEq,ju,jv,jr]
   refine same _ (by omega) (by omega) (by omega) (by omega) ?_ ?_ ?_<;>rw[this]
   exact λx h=>h
 -- lock
 . have m:iJ s.mem i.obj=true:=by simpa only[z20,e,reduceIte,Int.reduceEq]using he
   have E:cY s.mem t i (aR s t i)=((bc s.mem i.obj t.id (-1) t.id).1,0,(bc s.mem i.obj t.id (-1) t.id).2):=by simp only[cY,aR,iP,e,reduceIte,Int.reduceEq,ju,jv,jr]
   have J:∀ y∈(uk t i 0).held,y∈t.held∨y=i.obj:=λy k=>by
    have :(uk t i 0).held=c9 t.held i.obj:=by simp only[uk,e,reduceIte,Int.reduceEq,ju,false_and,false_or]
    rw[this]at k;exact(zth F _ y).1 k
   have⟨Q,U,R,K⟩:=aru m Y H J
   refine⟨by rw[E];exact Q,by rw[E];exact U,by rw[E];exact R,λid f=>?_⟩
   rw[E]at f
   rw[show allI (bc s.mem i.obj t.id (-1) t.id).1=_ from K]at f
   exact .inl ⟨λq=>Z (by omega) (q ▸ f),f⟩
 -- unlock
 . have hh:i.obj∈t.held:=by
    unfold bS at u
    rw[x8 (by omega),x9 (by omega),x8 (show ¬ i.op=18 by omega)]at u
    rw[<- zcu]
    cases hx:aQ t.held i.obj with
    |true=>rfl
    |false=>rw[hx]at u;exact absurd u am
   have E:cY s.mem t i (aR s t i)=((bc s.mem i.obj t.id t.id (-1)).1,0,(bc s.mem i.obj t.id t.id (-1)).2):=by simp only[cY,aR,iP,e,reduceIte,Int.reduceEq,ju,jv,jr]
   have J:∀ y∈(uk t i 0).held,y∈t.held/\y≠i.obj:=λy k=>by
    have :(uk t i 0).held=cU t.held i.obj:=by simp only[uk,e,reduceIte,Int.reduceEq,ju,false_and,false_or]
    rw[this]at k;exact ac3.1 k
   have⟨Q,U,R,K⟩:=au6 V (M.o (by omega)) Y hh hp H J
   refine⟨by rw[E];exact Q,by rw[E];exact U,by rw[E];exact R,λid f=>?_⟩
   rw[E]at f
   rw[show allI (bc s.mem i.obj t.id t.id (-1)).1=_ from K]at f
   exact .inl ⟨λq=>Z (by omega) (q ▸ f),f⟩
 -- trylock
 . by_cases m:iJ s.mem i.obj=true
   . have E:cY s.mem t i (aR s t i)=((bc s.mem i.obj t.id (-1) t.id).1,1,(bc s.mem i.obj t.id (-1) t.id).2):=by simp only[cY,aR,iP,ek,m,e,reduceIte,Int.reduceEq,ju,jv,jr]
     have J:∀ y∈(uk t i 1).held,y∈t.held∨y=i.obj:=λy k=>by
      have :(uk t i 1).held=c9 t.held i.obj:=by simp[uk,e]
      rw[this]at k;exact(zth F _ y).1 k
     have⟨Q,U,R,K⟩:=aru m Y H J
     refine⟨by rw[E];exact Q,by rw[E];exact U,by rw[E];exact R,λid f=>?_⟩
     rw[E]at f
     rw[show allI (bc s.mem i.obj t.id (-1) t.id).1=_ from K]at f
     exact .inl ⟨λq=>Z (by omega) (q ▸ f),f⟩
   . have m:iJ s.mem i.obj=false:=by simpa using m
     have E:cY s.mem t i (aR s t i)=(s.mem,0,0):=by simp[cY,aR,iP,ek,m,e]
     refine auf (by rw[E]) (by rw[E]) (by rw[E];exact λx h=>h) (λy k=>?_) H (Z (by omega))
     rw[E]at k
     have :(uk t i 0).held=t.held:=by simp[uk,wrote,e]
     rw[this]at k;exact k
 -- wait
 . rcases a5 with z | ⟨z,_⟩
   . have hh:i.n∈t.held:=by
      unfold bS at u
      rw[x8 (by omega),x9 (by omega),x9 e]at u
      rw[<- zcu]
      cases hx:aQ t.held i.n with
      |true=>rfl
      |false=>rw[hx]at u;exact absurd u am
     have D:(uk t i 0).held=cU t.held i.n/\(uk t i 0).phase=1:=by
      unfold uk ja
      rw[x9 e,x9 (show(wrote t i 0).phase=0 from z)]
      exact⟨rfl,rfl⟩
     have J:∀ y∈(uk t i 0).held,y∈t.held/\y≠i.n:=λy k=>by rw[D.1]at k;exact ac3.1 k
     have⟨Q,U,R,K⟩:=au6 V (M.n e) Y hh hp H J
     have hq:=G.ok.q (by omega)
     have hn:t.id∉allI s.mem:=λq=>by have :=N q;omega
     have er:=auh V (M.n e) Y (H _ hh)
     have F2:=(aq5 (z47.1 V) (by decide:(-1:Int)<= -1) Q).1
     have E:cY s.mem t i (aR s t i)=({(bc s.mem i.n t.id t.id (-1)).1 with a6:=s.mem.a6.set i.obj.toNat (s.mem.a6.getD i.obj.toNat []++[t.id])},0,0):=by
      have eq:aZ (bc s.mem i.n t.id t.id (-1)).1 i.obj t.id=({(bc s.mem i.n t.id t.id (-1)).1 with a6:=s.mem.a6.set i.obj.toNat (s.mem.a6.getD i.obj.toNat []++[t.id])},0):=by
       unfold aZ
       rw[x8 (by rw[ar7 (z47.2 F2) (by rw[er];exact hq)];simp),x8 (by omega),x8 (λq=>hn (by have :=av2 q;rwa [K]at this)),er]
      simp only[cY,aR,im,z,iP,e,reduceIte,Int.reduceEq,ju,jv,jr,Q,eq]
     have oE:(cY s.mem t i (aR s t i)).1.aa=(bc s.mem i.n t.id t.id (-1)).1.aa:=by rw[E]
     refine⟨by rw[E],λy k=>by rw[oE];rw[E]at k;exact U y k,λy q1 q2=>by rw[oE];exact R y q1 q2,λid f=>?_⟩
     rw[E]at f ⊢
     have P:(s.mem.sig++(s.mem.a6.set i.obj.toNat (s.mem.a6.getD i.obj.toNat []++[t.id])).flatten).Perm (t.id::(s.mem.sig++s.mem.a6.flatten)):=
      (List.Perm.append_left _ (aso t.id s.mem.a6 i.obj.toNat (by omega))).trans List.perm_middle
     have f:id∈s.mem.sig++(s.mem.a6.set i.obj.toNat (s.mem.a6.getD i.obj.toNat []++[t.id])).flatten:=by rw[er]at f;exact f
     rcases xv.1 (P.mem_iff.1 f)with h |h
     . exact .inr ⟨h,D.2⟩
     . exact .inl ⟨λq=>hn (q ▸ h),h⟩
   . have z0:¬ t.phase=0:=by omega
     rcases z with z |z
     . have hs:aQ s.mem.sig t.id=true:=by simpa only[z20,e,z,reduceIte,Int.reduceEq]using he
       have E:cY s.mem t i (aR s t i)=({s.mem with sig:=cU s.mem.sig t.id},0,0):=by
        have :dD s.mem t.id=({s.mem with sig:=cU s.mem.sig t.id},0):=by unfold dD;rw[x8 (by simp[V]),x8 (by simp[hs])]
        simp only[cY,aR,im,z,iP,e,reduceIte,Int.reduceEq,ju,jv,jr,this]
       have J:(uk t i 0).held=t.held:=by
        unfold uk ja
        rw[x9 e,x8 (show ¬ (wrote t i 0).phase=0 from z0),x9 (show(wrote t i 0).phase=1 from z)];rfl
       refine⟨by rw[E],λy k=>?_,λy _ _=>by rw[E],λid f=> .inl ?_⟩
       . rw[E]at k ⊢
         rw[J]at k
         exact H y k
       . rw[E]at f
         have f:id∈cU s.mem.sig t.id++s.mem.a6.flatten:=f
         have nd:=(z47.1 V).nd
         unfold allI at nd ⊢
         rw[List.nodup_append]at nd
         rcases xx.1 f with h |h
         . have⟨h1,h2⟩:=ac3.1 h
           exact⟨h2,xx.2 (.inl h1)⟩
         . exact⟨λq=>nd.2.2 _ (zcu.1 hs) _ h q.symm,xx.2 (.inr h)⟩
     . have z1:¬ t.phase=1:=by omega
       have m:iJ s.mem i.n=true:=by simpa only[z20,e,z,reduceIte,Int.reduceEq]using he
       have E:cY s.mem t i (aR s t i)=((bc s.mem i.n t.id (-1) t.id).1,0,(bc s.mem i.n t.id (-1) t.id).2):=by
        simp only[cY,aR,im,z,iP,e,reduceIte,Int.reduceEq,ju,jv,jr]
       have J:∀ y∈(uk t i 0).held,y∈t.held∨y=i.n:=λy k=>by
        have :(uk t i 0).held=c9 t.held i.n:=by
         unfold uk ja
         rw[x9 e,x8 (show ¬ (wrote t i 0).phase=0 from z0),x8 (show ¬ (wrote t i 0).phase=1 from z1)];rfl
        rw[this]at k;exact(zth F _ y).1 k
       have⟨Q,U,R,K⟩:=aru m Y H J
       refine⟨by rw[E];exact Q,by rw[E];exact U,by rw[E];exact R,λid f=>?_⟩
       rw[E]at f
       rw[show allI (bc s.mem i.n t.id (-1) t.id).1=_ from K]at f
       exact .inl ⟨λq=>z1 (N (q ▸ f)),f⟩
 . have⟨k1,k2,k3⟩:=au4 (n:=1) V (G.ok.q (by omega))
   have :cY s.mem t i (aR s t i)=((zi s.mem i.obj 1).1,0,(zi s.mem i.obj 1).2.2):=by simp only[cY,aR,iP,e,reduceIte,Int.reduceEq,ju,jv,jr]
   exact same _ (by omega) (by omega) (by omega) (by omega) (by rw[this];exact k1) (by rw[this];exact k2) (by rw[this];exact k3)
 . have⟨k1,k2,k3⟩:=au4 (n:=jn s.mem.a6) V (G.ok.q (by omega))
   have :cY s.mem t i (aR s t i)=((zi s.mem i.obj (jn s.mem.a6)).1,0,(zi s.mem i.obj (jn s.mem.a6)).2.2):=by simp only[cY,aR,iP,e,reduceIte,Int.reduceEq,ju,jv,jr]
   exact same _ (by omega) (by omega) (by omega) (by omega) (by rw[this];exact k1) (by rw[this];exact k2) (by rw[this];exact k3)
 . have :cY s.mem t i (aR s t i)=(s.mem,eU t,0):=by simp only[cY,aR,iP,e,reduceIte,Int.reduceEq,ju,jv,jr]
   refine same _ (by omega) (by omega) (by omega) (by omega) ?_ ?_ ?_<;>rw[this]
   exact λx h=>h
 . have :cY s.mem t i (aR s t i)=(s.mem,0,0):=by simp only[cY,aR,iP,e,reduceIte,Int.reduceEq,ju,jv,jr]
   refine same _ (by omega) (by omega) (by omega) (by omega) ?_ ?_ ?_<;>rw[this]
   exact λx h=>h
def kept (t:aB):Int×Int×Int×Int×List Int:=(t.id,t.kids,t.steps,t.phase,t.held)
theorem atm (p:ai) (b:Int):∀ (k:Nat) (t:aB),kept (jq p b k t)=kept t:=λk=>by
 have lo:∀ (t:aB) (i:aK),kept (aO t i).1=kept t:=λt i=>by
  unfold aO;repeat' split
  all_goals rfl
 have vs:∀ (t:aB) (i:aK),kept (oc b t i)=kept t:=λt i=>by
  unfold oc;repeat' split
  all_goals rfl
 induction k with
 |zero=>intro t;unfold jq;repeat' split
        all_goals first |rfl |exact vs _ _
 |succ k ih=>intro t;unfold jq;repeat' split
             all_goals first |rfl |exact vs _ _ |exact(ih _).trans (lo _ _) |exact lo _ _
theorem aup (t:aB) (i:aK) (r:Int):(uk t i r).kids=if i.op=21 then t.kids+1 else t.kids:=by
 unfold uk ja
 repeat' split
 all_goals first |rfl |omega
theorem aud {fn arg:Int} (h:(ba p b id fn arg).2=0):(ba p b id fn arg).1.id=id/\(ba p b id fn arg).1.held=[]:=by
 unfold ba at h ⊢
 split at h
 . omega
 . split at h
   . omega
   . split at h
     . omega
     . split at h
       . omega
       . rename_i j i f e
         rw[x8 j,x8 i,x8 f,x8 e]
         have :=atm p b 256 (zhf id fn arg)
         exact⟨yt (·.1) this,yt (·.2.2.2.2) this⟩
theorem aow (h:k<l.length):l.getD k ao∈l:=dl
theorem aug {N x:aB} {n:Nat}:x∈gB l N n↔x=N∨x∈l:=by grind[gB,List.take_append_drop]
theorem avq (U:∀ x∈l,∀ y∈l,x.id=y.id ->x=y) {k:Nat} {T:aB} (s:k<l.length):(∀ x∈l.set k T,x=T∨x∈l/\x.id≠(l.getD k ao).id∨x∈l/\∃ j,j≠k/\j<l.length/\x=l.getD j ao)/\T∈l.set k T/\∀ x∈l,x.id≠(l.getD k ao).id ->x∈l.set k T:=by
 have g:∀ i (h:i<l.length),l.getD i ao=l[i]:=λi h=>by rw[x7,xe h];rfl
 refine⟨λx m=>?_, ?_,λx m r=>?_⟩
 . have⟨j,f,e⟩:=yq m
   rw[yy]at f
   rw[List.getElem_set]at e
   split at e
   . exact .inl e.symm
   . rename_i q
     exact .inr (.inr ⟨e ▸ wm f,j,λh=>q h.symm,f,by rw[g j f,e]⟩)
 . exact List.mem_of_getElem? (i:=k) (by rw[List.getElem?_set_self s])
 . have⟨j,f,e⟩:=yq m
   have :j≠k:=λq=>r (by subst q;rw[g j f,e])
   exact List.mem_of_getElem? (i:=j) (by rw[k9 (λq=>this q.symm),xe f,e])
theorem aur (V:∀ j,j<l.length ->kg p b l j) {k:Nat} {T:aB} (m:k<l.length):(∀ x∈l.set k T,x=T∨x∈l/\x.id≠(l.getD k ao).id)/\T∈l.set k T/\∀ x∈l,x.id≠(l.getD k ao).id ->x∈l.set k T:=by
 have U:=apr V
 have⟨a,F,c⟩:=avq (T:=T) (λx f y r h=>(U y r).2.2 x f h) m
 refine⟨λx f=>?_,F,c⟩
 rcases a x f with h |h | ⟨h,j,s,i,e⟩
 . exact .inl h
 . exact .inr h
 . refine .inr ⟨h,λq=>s ?_⟩
   have E:=zg0 V i
   have u:=zg0 V m
   rw[<- e,q,u]at E
   omega
structure auy (p:ai) (b:Int) (s:ag) (a:Int) (S:ag):Prop where
 len:s.ab.length<=S.ab.length
 rch:Rch S.ab S.mem
 old:∀ x∈s.ab,x.id≠a ->x∈S.ab
 new:∀ x∈S.ab,x.id≠a ->x∈s.ab∨∀ u∈s.ab,u.id≠x.id
 it:∀ x∈S.ab,x.id=a ->∃ t∈s.ab,t.id=a/\x.steps=t.steps+1
theorem avk (X:bI p) (hT:∀ j,dU (s.ab.getD j ao)) (hb:aV p b=0) (hv:bT p b s=true) (R:Rch s.ab s.mem) (hr:(bg p s a).2.2=true) (he:z20 s (cl p s a) (c5 p s a)=true):
 (da p b s a).2.2=0/\auy p b s a (da p b s a).1:=by
 have⟨v1,v2,v3⟩:=oP.1 hv
 have⟨r1,r2,r,r4⟩:=NG hr
 have⟨f1,f2⟩:=nL r1
 have U:=apr v3
 have H:cl p s a∈s.ab:=by rw[r2];exact aow f1
 have k:(cl p s a).id=a:=by rw[r2];exact f2
 have i:dU (cl p s a):=by rw[r2];exact hT _
 have⟨g1,g2,K,Z,g5,g6⟩:=zhu X i v1 r4
 have F:fq p b (cl p s a)=true:=by rw[r2];exact(v3 _ f1).1
 have Fb:=oo (mD.1 F).2
 have P:jM p:=⟨X,(l6 hb).1⟩
 have⟨_,a3,_⟩:=sZ (mD.1 F).2 g5
 have M:=aul v1 (vi P (K.wf i) a3)
 rw[r,g2]at he
 have N:(cl p s a).id∈allI s.mem ->(cl p s a).phase=1:=λh=>by
  have⟨u,J,e1,e2⟩:=R.wait _ h
  have :=(U _ H).2.2 u J e1
  rw[<- this];exact e2
 have E:=av5 (s:=s) g1 M (U _ H).1 K.aw K.mO (λy hy=>(K.held y hy).1) (K.ph.imp id λq=>⟨q.1,q.2.2.1⟩) Z (R.own _ H) N he
 have eX:cW p s a=cY s.mem (cl p s a) (aD p (cl p s a)) (aR s (cl p s a) (aD p (cl p s a))):=by unfold cW bP;rw[r,g2]
 have Y:(cY s.mem (cl p s a) (aD p (cl p s a)) (aR s (cl p s a) (aD p (cl p s a)))).2.1=(cW p s a).2.1:=by rw[eX]
 have ew:wr (cW p s a).2.1=(cW p s a).2.1:=by
  rw[<- Y,ajj g1.ok.op];exact akn g1.ok.op g1.form
 have e1:(cW p s a).2.2=0:=by rw[eX];exact E.ok
 have oT:=E.oT
 have oO:=E.oO
 have W:=E.W
 rw[<- eX]at oT oO W
 have⟨_,c1,c2⟩:=anu X i F g5 ew
 have KP:kept (gY p b s a).1=kept (uk (cl p s a) (aD p (cl p s a)) (cW p s a).2.1):=by
  unfold gY;rw[c2];exact atm p b 256 _
 have⟨d1,_,_,_,d5,_⟩:=Y2 (cl p s a) (aD p (cl p s a)) (cW p s a).2.1
 have T1:(gY p b s a).1.id=a:=(yt (·.1) KP).trans (d1.trans k)
 have T2:(gY p b s a).1.kids=if(aD p (cl p s a)).op=21 then(cl p s a).kids+1 else(cl p s a).kids:=(yt (·.2.1) KP).trans (aup _ _ _)
 have T3:(gY p b s a).1.steps=(cl p s a).steps+1:=(yt (·.2.2.1) KP).trans d5
 have T4:(gY p b s a).1.phase=_:=yt (·.2.2.2.1) KP
 have T5:(gY p b s a).1.held=_:=yt (·.2.2.2.2) KP
 have T4:(gY p b s a).1.phase=(uk (cl p s a) (aD p (cl p s a)) (cW p s a).2.1).phase:=T4
 have T5:(gY p b s a).1.held=(uk (cl p s a) (aD p (cl p s a)) (cW p s a).2.1).held:=T5
 -- the child
 have SP:(jg p b s a).2=0/\s.ab.length<=(jg p b s a).1.ab.length/\(∀ x∈s.ab,x∈(jg p b s a).1.ab)/\∀ x,x∈(jg p b s a).1.ab ->x∈s.ab∨(x.id=eU (cl p s a)/\x.held=[]/\(aD p (cl p s a)).op=21/\0<=(cl p s a).kids/\aS s.ab x.id<0/\eU (cl p s a)=8*((cl p s a).id+1)+(cl p s a).kids):=by
  unfold jg
  by_cases Y:(bP p s a).kind=16
  . rw[x9 Y]
    have a2:(aR s (cl p s a) (c5 p s a)).kind=16:=Y
    have⟨V,o2⟩:=z9s a2
    have o2:(bP p s a).obj=eU (cl p s a):=o2
    rw[o2]
    have Q:=V
    rw[r]at Q
    have n0:=ag8 X i hb v1 r4 Q
    rw[<- r]at n0
    have cb:cA (cl p s a)=true:=by
     rw[r,g2]at V
     have z:(cl p s a).phase=0:=by rcases K.ph with q |q;exact q;omega
     unfold bS at Z
     rw[x8 O,x8 O,x9 V]at Z
     cases f:cA (cl p s a)with
     |true=>rfl
     |false=>rw[f]at Z;exact absurd Z am
    have ci:eU (cl p s a)=8*((cl p s a).id+1)+(cl p s a).kids:=by unfold eU;rw[x9 cb]
    have t0:=(U _ H).1
    unfold cA at cb
    simp only[xi,xg,xh,xp]at cb
    have fr:aS s.ab (eU (cl p s a))<0:=by
     refine Int.not_le.1 λh=>?_
     have⟨q1,q2⟩:=nL h
     have⟨u,J,u1,u2⟩:=R.kids _ (aow q1) (by rw[q2,ci];omega)
     rw[q2,ci]at u1 u2
     have u3:=(U u J).2.1
     have :=(U _ H).2.2 u J O
     subst this
     omega
    unfold eH
    rw[x8 (by show ¬ 0<=aS s.ab _;omega),x8 (λh=>h n0)]
    refine⟨rfl,by show _<=(gB s.ab _ _).length;rw[z9q _ _ _ (uj _ _)];exact Nat.le_succ _,λx f=>aug.2 (.inr f),λx f=>?_⟩
    rcases aug.1 f with h |h
    . have⟨n1,n2⟩:=aud n0
      rw[h,n1]
      rw[r,g2]at V
      exact .inr ⟨rfl,n2,V,O,fr,ci⟩
    . exact .inl h
  . rw[x8 Y]
    exact⟨rfl,xm _,λx f=>f,λx f=> .inl f⟩
 have⟨S1,S0,S2,a1⟩:=SP
 have⟨w1,w2,w3,w4⟩:=aue X v3 S1
 have⟨h1,h2⟩:=nL (w4 r1)
 have GO:da p b s a=({(jg p b s a).1 with ab:=(jg p b s a).1.ab.set (aS (jg p b s a).1.ab a).toNat (gY p b s a).1},bP p s a,0):=by
  have ld:da p b s a=
   if aV p b≠0 then(aN,aW,aV p b)else if bT p b s=false then(aN,aW,1)else if(bg p s a).2.2=false∨z20 s (cl p s a) (c5 p s a)=false then(aN,aW,19)else if(cW p s a).2.2≠0 then(aN,aW,30)
   else if(jg p b s a).2≠0 then(aN,aW,(jg p b s a).2)else if(gY p b s a).2≠0 then(aN,aW,(gY p b s a).2)else({(jg p b s a).1 with ab:=(jg p b s a).1.ab.set (aS (jg p b s a).1.ab a).toNat (gY p b s a).1},bP p s a,0):=rfl
  rw[ld,x8 (λh=>h hb),x8 (by simp[hv]),x8 (by rw[r,g2,hr,he];simp),x8 (λh=>h e1),x8 (λh=>h S1),x8 (λh=>h c1)]
 have⟨m1,m2,m3⟩:=aur (T:=(gY p b s a).1) w3 h1
 rw[h2]at m1 m3
 have it:∀ x∈(jg p b s a).1.ab.set (aS (jg p b s a).1.ab a).toNat (gY p b s a).1,x=(gY p b s a).1∨x∈s.ab/\x.id≠a∨(x.held=[]/\(8*((cl p s a).id+1)<=x.id/\x.id<8*((cl p s a).id+1)+(gY p b s a).1.kids)/\aS s.ab x.id<0):=λx f=>by
  rcases m1 x f with h | ⟨h,h'⟩
  . exact .inl h
  . rcases a1 x h with q | ⟨q1,q2,q3,q4,q5,q6⟩
    . exact .inr (.inl ⟨q,h'⟩)
    . refine .inr (.inr ⟨q2,⟨O, ?_⟩,q5⟩)
      rw[T2,x9 q3];omega
 rw[GO]
 refine⟨rfl,by show _<=((jg p b s a).1.ab.set _ _).length;rw[yy];exact S0, ?_,λx f m=>m3 x (S2 x f) m,λx f m=>?_,λx f m=>?_⟩
 . show Rch ((jg p b s a).1.ab.set _ _) (jg p b s a).1.mem
   rw[w2]
   refine aus R U H (T1.trans k.symm) ?_ (λy hy=>oT y (by rw[<- T5];exact hy)) oO (λid hi=>(W id hi).imp_right λh=>⟨h.1,T4.trans h.2⟩) (λx f=>?_) m2 (λx f m=>m3 x (S2 x f) (by rw[<- k];exact m))
   . rw[T2];split<;>omega
   . rw[k]
     rcases it x f with h |h | ⟨h1,h2,_⟩
     . exact .inl h
     . exact .inr (.inl h)
     . rw[k]at h2;exact .inr (.inr ⟨h1,h2⟩)
 . rcases it x f with h |h | ⟨_,_,h⟩
   . exact absurd (h ▸ T1) m
   . exact .inl h.1
   . refine .inr λu J e=>?_
     have⟨j,hj,e'⟩:=yq J
     have :=zm2 (l:=s.ab) (id:=x.id) hj (by rw[x7,xe hj,<- e,<- e'];rfl)
     omega
 . rcases it x f with h |h | ⟨_,_,h⟩
   . exact⟨_,H,k,by rw[h];exact T3⟩
   . exact absurd m h.2
   . rw[m]at h;omega
structure ap8 (p:ai) (b:Int) (s:ag):Prop where
 val:cQ p b s=true
 rch:Rch s.ab s.mem
 cnt:∀ k,k<s.ab.length ->(s.ae.getD k az).first+((s.ae.getD k az).entries.length:Int)<=(s.ab.getD k ao).steps
structure aqx (s t:ag) (a:Int):Prop where
 len:s.ab.length<=t.ab.length
 fl:a<0 ->t.ab=s.ab
 own:∀ x∈s.ab,∀ y∈t.ab,x.id=y.id ->x.id=a ->y.steps=x.steps+1
 oth:∀ x∈s.ab,∀ y∈t.ab,x.id=y.id ->x.id≠a ->y=x
theorem aum (h:cQ p b s=true):bT p b (bN s)=true:=
 oP.2 ⟨(z12.1 h).1,rfl,(zm6 h:∀ j,j<s.ab.length ->kg p b s.ab j)⟩
theorem au2 {T:aB} {u:bR} (h:zfu p t u=true) (e:T.id=t.id):zfu p T u=true:=by grind[nM.1,nM.2]
theorem au3 {r:Int} (Z:bI p) (hT:cw s) (I:ap8 p b s) (R:k<s.ab.length) (hb:cm p (s.ab.getD k ao)=true) (f:¬ ((zg p (s.ab.getD k ao)).op=15∨(zg p (s.ab.getD k ao)).op=16∨(zg p (s.ab.getD k ao)).op=17∨(zg p (s.ab.getD k ao)).op=18)/\(zg p (s.ab.getD k ao)).op≠21) (Y:wr r=r):
 (cd p b (s.ab.getD k ao) r).2=0/\ap8 p b {s with ab:=s.ab.set k (cd p b (s.ab.getD k ao) r).1}/\aqx s {s with ab:=s.ab.set k (cd p b (s.ab.getD k ao) r).1} (s.ab.getD k ao).id/\(cd p b (s.ab.getD k ao) r).1.id=(s.ab.getD k ao).id/\(cd p b (s.ab.getD k ao) r).1.steps=(s.ab.getD k ao).steps+1:=by
 have⟨X,v2,v3⟩:=z12.1 I.val
 have V:=zm6 I.val
 have U:=apr V
 have⟨g1,g2,g3,g4,g5,g6⟩:=zhu Z (hT.ok k) X hb
 rw[g2]at f
 have J:=(V k R).1
 have⟨d1,d2,d3⟩:=anu Z (hT.ok k) J g5 Y
 have⟨E,Q⟩:=ao5 J g5 Y
 have KP:kept (cd p b (s.ab.getD k ao) r).1=kept (uk (s.ab.getD k ao) (aD p (s.ab.getD k ao)) r):=by rw[d3];exact atm p b 256 _
 have T2:(cd p b (s.ab.getD k ao) r).1.kids=(s.ab.getD k ao).kids:=(yt (·.2.1) KP).trans ((aup _ _ _).trans (x8 f.2))
 have T5:(cd p b (s.ab.getD k ao) r).1.held=(s.ab.getD k ao).held:=(yt (·.2.2.2.2) KP).trans (auj f.1)
 have⟨M,m2,m3⟩:=aur (T:=(cd p b (s.ab.getD k ao) r).1) V R
 have K:=aow R
 have ph:(s.ab.getD k ao).phase=0:=by rcases g3.ph with q |q;exact q;omega
 have N:(s.ab.getD k ao).id∉allI s.mem:=λh=>by
  have⟨u,hu,m,i⟩:=I.rch.wait _ h
  have :=(U _ K).2.2 u hu m
  rw[this]at i;omega
 refine⟨d2,⟨z12.2 ⟨X,by show s.ae.length=(s.ab.set _ _).length;rw[yy];exact v2,λj e=>⟨auo V d1 E j e, ?_⟩⟩, ?_,λj e=>?_⟩,⟨by show _<=(s.ab.set _ _).length;rw[yy];exact xm _,λh=>?_,λx H y F m i=>?_,λx H y F m i=>?_⟩,E,Q⟩
 . have e:j<s.ab.length:=by have :j<(s.ab.set _ _).length:=e;rwa [yy]at this
   exact au2 (v3 j e).2 (ao1 E j)
 . exact aus I.rch U K E (by rw[T2];exact yr _) (λy F=>I.rch.own _ K y (by rw[<- T5];exact F)) (λ_ _ _=>rfl) (λid hi=> .inl ⟨λq=>N (q ▸ hi),hi⟩)
    (λx H=>(M x H).imp_right λh=> .inl h) m2 m3
 . have e:j<s.ab.length:=by have :j<(s.ab.set _ _).length:=e;rwa [yy]at this
   have h1:=I.cnt j e
   show _<=((s.ab.set k _).getD j ao).steps
   by_cases q:k=j
   . subst q;rw[gS e,Q];exact Int.le_trans h1 O
   . rw[gN q];exact h1
 . have :=(U _ K).1;omega
 . rcases M y F with h |h
   . rw[(U _ K).2.2 x H i,h];exact Q
   . exact absurd (m.symm.trans i) h.2
 . rcases M y F with h |h
   . exact absurd (m.trans (by rw[h];exact E)) i
   . exact(U x H).2.2 y h.1 m.symm
theorem auq (hp:bI p) (hT:cw s) (hb:aV p b=0) (I:ap8 p b s) (h:aQ (cL p s) a=true):(zt p b s a).2.2=0/\ap8 p b (zt p b s a).1/\aqx s (zt p b s a).1 a/\(zt p b s a).2.1=(zf p s a).1:=by
 have hv:=I.val
 have⟨v1,v2,v3⟩:=z12.1 hv
 have V:=zm6 hv
 have U:=apr V
 have hf:=(ap5.1 v1).2.1
 have a3:=z47.2 hf
 have⟨h0,hl,hc⟩:=zs0 (afz hv) h
 have E:=alz hb hv h
 rw[<- hl]at E
 have⟨R,f2⟩:=nL h0
 have R:bb s a<s.ab.length:=R
 have f2:(s.ab.getD (bb s a) ao).id=aX a:=f2
 have ht:=aow R
 have⟨b1,b2,b3⟩:=nM.1 (v3 _ R).2
 have⟨c1,c2⟩:=(z21 _).1 b1
 have a9:=I.cnt _ R
 rcases hc with⟨hn,K,k,h3,h4⟩ | ⟨hn,K,hc⟩
 . -- a buffer is flushed
   have Y:fj (zf p s a).1=true:=by unfold fj;rw[k];rfl
   have en:mv ((s.ae.getD (bb s a) az).entries.getD 0 cc)=true:=c2 0 K
   unfold mv at en
   simp only[xa,xd]at en
   have vm:=(ap5.1 v1).2.2.1
   have u:=b3 0 K
   have ew:=au8 (m:=s.mem) (x:=((s.ae.getD (bb s a) az).entries.getD 0 cc).var) (v:=((s.ae.getD (bb s a) az).entries.getD 0 cc).val) a3 O O
   have ep:=al4 b1 K
   have eT:dn p b s (aS s.ab (aX a)).toNat (zf p s a).1=({s with ae:=s.ae.set (bb s a) ⟨(s.ae.getD (bb s a) az).ay,(s.ae.getD (bb s a) az).first+1,(s.ae.getD (bb s a) az).entries.drop 1⟩,mem:={s.mem with vars:=s.mem.vars.set ((s.ae.getD (bb s a) az).entries.getD 0 cc).var.toNat ((s.ae.getD (bb s a) az).entries.getD 0 cc).val}},0):=by
    show dn p b s (bb s a) _=_
    unfold dn
    dsimp only
    rw[x9 k,ep,h3,h4,ew,x8 (λh=>h rfl),x8 (λh=>h rfl)]
   rw[x9 Y,eT,x8 (λh=>h rfl)]at E
   rw[E]
   have wf:=ata hf (show(zr s.mem _ _).2=0 by rw[ew])
   rw[ew]at wf
   have⟨w1,w2,w3,w4⟩:=wf
   have⟨x1,x2,x3,x4,x5⟩:=ap5.1 v1
   refine⟨rfl,⟨z12.2 ⟨ap5.2 ⟨x1,w1,w2.trans x3,w3.trans x4,w4.trans x5⟩,by show(s.ae.set _ _).length=_;rw[yy];exact v2,λj e=>⟨V j e, ?_⟩⟩,⟨I.rch.own,I.rch.wait,I.rch.kids⟩,λj e=>?_⟩,⟨xm _,λ_=>rfl,λx u y N M Z=>?_,λx u y N M _=>(U x u).2.2 y N M.symm⟩,rfl⟩
   . show zfu p _ ((s.ae.set _ _).getD j az)=true
     by_cases q:bb s a=j
     . subst q
       rw[gS O]
       refine nM.2 ⟨(z21 _).2 ⟨⟨c1.1,by show 0<=_+1;omega,by show _+1<=(32:Int);omega, ?_⟩,λi f=>?_⟩,b2,λi f=>?_⟩
       . show _+1+(((s.ae.getD (bb s a) az).entries.drop 1).length:Int)<=32
         rw[wn];omega
       . have f:i<((s.ae.getD (bb s a) az).entries.drop 1).length:=f
         rw[wn]at f
         show mv (((s.ae.getD (bb s a) az).entries.drop 1).getD i cc)=true
         rw[x7,ww,<- x7]
         exact c2 _ O
       . have f:i<((s.ae.getD (bb s a) az).entries.drop 1).length:=f
         rw[wn]at f
         show(((s.ae.getD (bb s a) az).entries.drop 1).getD i cc).var<_
         rw[x7,ww,<- x7]
         exact b3 _ O
     . rw[gN q];exact(v3 j e).2
   . show((s.ae.set _ _).getD j az).first+(((s.ae.set _ _).getD j az).entries.length:Int)<=_
     by_cases q:bb s a=j
     . subst q
       rw[gS O]
       show(s.ae.getD (bb s a) az).first+1+(((s.ae.getD (bb s a) az).entries.drop 1).length:Int)<=(s.ab.getD (bb s a) ao).steps
       rw[wn];omega
     . rw[gN q];exact I.cnt j e
   . have :=(U x u).1;omega
 . have ea:aX a=a:=by unfold aX;rw[x8 hn]
   rw[ea]at f2
   have⟨g1,g2,g3,g4,g5,g6⟩:=zhu hp (hT.ok _) v1 K
   rcases hc with⟨h8,k,h3⟩ | ⟨h9,k,h3,h4,h5⟩ | ⟨⟨⟨h8,h14⟩,h9⟩,k⟩
   . -- a load
     have Y:fj (zf p s a).1=true:=by unfold fj;rcases k with k |k<;>rw[k]<;>rfl
     have⟨t1,t2,t3,_⟩:=au3 (r:=(zf p s a).1.read) hp hT I R K O (by rw[h3];exact ac8 a3 _)
     have eT:dn p b s (aS s.ab (aX a)).toNat (zf p s a).1=({s with ab:=s.ab.set (bb s a) (cd p b (s.ab.getD (bb s a) ao) (zf p s a).1.read).1},0):=by
      show dn p b s (bb s a) _=_
      unfold dn
      dsimp only
      rw[x8 O,x8 O,x8 (λh=>h t1)]
     rw[x9 Y,eT,x8 (λh=>h rfl)]at E
     rw[E]
     rw[f2]at t3
     exact⟨rfl,t2,t3,rfl⟩
   . -- a store
     have Y:fj (zf p s a).1=true:=by unfold fj;rw[k];rfl
     have⟨t1,t2,t3,t4,t5⟩:=au3 (r:=(zf p s a).1.read) hp hT I R K O (by rw[h5];decide)
     have a1:=(V _ R).1
     have st:(s.ab.getD (bb s a) ao).steps<b:=(sZ (mD.1 a1).2 g5).2.2.2.2
     have ad:=(l6 hb).2
     have a7:=g1.v (by rw[<- g2];omega)
     rw[<- g2]at a7
     have vm:=(ap5.1 v1).2.2.1
     have b4:=hf.vars
     have b0:=ans (oo (mD.1 a1).2) (zg p (s.ab.getD (bb s a) ao)).b.toNat
     have ep:cq (s.ae.getD (bb s a) az) (zf p s a).1.obj (zf p s a).1.wrote=(⟨(s.ae.getD (bb s a) az).ay,(s.ae.getD (bb s a) az).first,(s.ae.getD (bb s a) az).entries++[⟨(zf p s a).1.obj,(zf p s a).1.wrote⟩]⟩,(s.ae.getD (bb s a) az).first+(s.ae.getD (bb s a) az).entries.length,0):=by
      have M:¬ bQ (s.ae.getD (bb s a) az)=false:=by rw[b1];decide
      have Z:¬ ((zg p (s.ab.getD (bb s a) ao)).obj<0∨8<=(zg p (s.ab.getD (bb s a) ao)).obj):=O
      have e3:¬ (bp (s.ab.getD (bb s a) ao) (zg p (s.ab.getD (bb s a) ao)).b< -2147483648∨2147483647<bp (s.ab.getD (bb s a) ao) (zg p (s.ab.getD (bb s a) ao)).b):=by unfold bp;omega
      unfold cq
      rw[h3,h4,x8 M,x8 Z,x8 e3,x8 O]
     have eT:dn p b s (aS s.ab (aX a)).toNat (zf p s a).1=({s with ae:=s.ae.set (bb s a) ⟨(s.ae.getD (bb s a) az).ay,(s.ae.getD (bb s a) az).first,(s.ae.getD (bb s a) az).entries++[⟨(zf p s a).1.obj,(zf p s a).1.wrote⟩]⟩,ab:=s.ab.set (bb s a) (cd p b (s.ab.getD (bb s a) ao) (zf p s a).1.read).1},0):=by
      show dn p b s (bb s a) _=_
      unfold dn
      dsimp only
      rw[x8 O,x9 k,ep,x8 (λh=>h rfl),x8 (λh=>h t1)]
     rw[x9 Y,eT,x8 (λh=>h rfl)]at E
     rw[E]
     rw[f2]at t3
     have⟨y1,y2,X⟩:=z12.1 t2.val
     refine⟨rfl,⟨z12.2 ⟨y1,by show(s.ae.set _ _).length=_;rw[yy];exact y2,λj e=>⟨(X j e).1, ?_⟩⟩,t2.rch,λj e=>?_⟩,⟨t3.len,t3.fl,t3.own,t3.oth⟩,rfl⟩
     . show zfu p _ ((s.ae.set _ _).getD j az)=true
       by_cases q:bb s a=j
       . subst q
         rw[gS (l:=s.ae) O]
         have z:=(nM.1 (X _ e).2).2.1
         have a4:∀ i,((s.ae.getD (bb s a) az).entries++[(⟨(zf p s a).1.obj,(zf p s a).1.wrote⟩:cD)]).getD i cc=if i<(s.ae.getD (bb s a) az).entries.length then(s.ae.getD (bb s a) az).entries.getD i cc else if i=(s.ae.getD (bb s a) az).entries.length then⟨(zf p s a).1.obj,(zf p s a).1.wrote⟩else cc:=λi=>by
          rw[x7]
          split
          . rename_i q;rw[ya q,<- x7]
          . rename_i q
            rw[y6 O]
            split
            . rename_i H;rw[H,yz];rfl
            . rename_i H;rw[y9 (by show 1<=_;omega)];rfl
         refine nM.2 ⟨(z21 _).2 ⟨⟨c1.1,c1.2.1,c1.2.2.1, ?_⟩,λi f=>?_⟩,z,λi f=>?_⟩
         . show(s.ae.getD (bb s a) az).first+(((s.ae.getD (bb s a) az).entries++[_]:List cD).length:Int)<=32
           rw[xl,jw];omega
         . have f:i<(_++[_]:List cD).length:=f
           rw[xl,jw]at f
           show mv ((_++[_]:List cD).getD i cc)=true
           rw[a4]
           split
           . rename_i q;exact c2 i q
           . rw[x9 O]
             unfold mv
             simp only[xa,xd]
             rw[h3,h4]
             unfold bp
             omega
         . have f:i<(_++[_]:List cD).length:=f
           rw[xl,jw]at f
           show((_++[_]:List cD).getD i cc).var<_
           rw[a4]
           split
           . rename_i q;exact b3 i q
           . rw[x9 O]
             show(zf p s a).1.obj<_
             rw[h3];omega
       . rw[gN (l:=s.ae) q];exact(X j e).2
     . show((s.ae.set _ _).getD j az).first+(((s.ae.set _ _).getD j az).entries.length:Int)<=_
       by_cases q:bb s a=j
       . subst q
         rw[gS (l:=s.ae) O]
         show(s.ae.getD (bb s a) az).first+(((s.ae.getD (bb s a) az).entries++[_]:List cD).length:Int)<=((s.ab.set (bb s a) _).getD (bb s a) ao).steps
         rw[gS R,t5,xl,jw];omega
       . rw[gN (l:=s.ae) q];exact t2.cnt j e
   . -- the part without buffers
     have hs:=aum hv
     have Q:=ak8 (afz hv) h
     unfold ka at Q
     rw[xa,x8 hn]at Q
     have Q:fu p s (bb s a) (cX p (bN s))=true:=Q.2
     have a2:aQ (cX p (bN s)) (s.ab.getD (bb s a) ao).id=true:=by
      unfold fu at Q
      dsimp only at Q
      rw[x8 (by rw[K];decide),x8 O,x8 h14]at Q
      split at Q
      . cases Q
      . rename_i q
        cases u:aQ (cX p (bN s)) (s.ab.getD (bb s a) ao).id with
        |true=>rfl
        |false=>rw[u]at q;simp at q
     rw[f2]at a2
     have⟨o1,o2⟩:=(zro (agy hs)).1 a2
     have⟨z1,z2⟩:=avk (s:=bN s) hp (λj=>hT.ok j) hb hs I.rch o1 o2
     have zv:=av7 (s:=bN s) hp (λj=>hT.ok j) z1
     have ze:=z139 z1
     have⟨r1,r2,r3,r4⟩:=NG o1
     have eL:(bA p (bN s) a).1=bP p (bN s) a:=by
      unfold bA
      rw[x8 (by rw[agy hs];decide),x8 (by rw[o1];decide)];rfl
     have a5:cl p (bN s) a=s.ab.getD (bb s a) ao:=by rw[r2];show s.ab.getD (aS s.ab a).toNat ao=_;unfold bb;rw[ea]
     have Y:fj (zf p s a).1=false:=by
      have eE:bP p (bN s) a=aR (bN s) (s.ab.getD (bb s a) ao) (zg p (s.ab.getD (bb s a) ao)):=by unfold bP;rw[r3,a5]
      rw[<- g2]at g1
      have⟨k1,k2,k3,k4⟩:=ajl (bN s) (s.ab.getD (bb s a) ao) g1.ok.op h8 h14 h9
      rw[<- eE]at k1 k2 k3 k4
      rw[k,eL]
      unfold fj
      simp[k1,k2,k3,k4]
     rw[x8 (by rw[Y];decide)]at E
     unfold dH at E
     rw[x8 (λh=>h z1)]at E
     rw[E]
     have⟨y1,y2,X⟩:=oP.1 zv
     have Un:=apr X
     have rel:aqx s (rX (da p b (bN s) a).1 s.ae) a:=by
      refine⟨z2.len,λh=>absurd h hn,λx u y N M Z=>?_,λx u y N M Z=>?_⟩
      . have⟨t,ht,t1,t2⟩:=z2.it y N (by rw[<- M,Z])
        rw[(U t ht).2.2 x u (by rw[Z,t1])];exact t2
      . rcases z2.new y N (by rw[<- M];exact Z)with q |q
        . exact(U x u).2.2 y q M.symm
        . exact absurd M (q x u)
     have gb:∀ j,j<(da p b (bN s) a).1.ab.length ->(rX (da p b (bN s) a).1 s.ae).ae.getD j az=sC s.ae ((da p b (bN s) a).1.ab.getD j ao).id:=λj e=>z9l _ _ _ (xm _) j e
     have ob:∀ j,j<(da p b (bN s) a).1.ab.length ->(sC s.ae ((da p b (bN s) a).1.ab.getD j ao).id=⟨((da p b (bN s) a).1.ab.getD j ao).id,0,[]⟩)∨∃ i,i<s.ab.length/\sC s.ae ((da p b (bN s) a).1.ab.getD j ao).id=s.ae.getD i az/\(s.ab.getD i ao).id=((da p b (bN s) a).1.ab.getD j ao).id:=λj e=>by
      unfold sC
      split
      . rename_i q
        have⟨J,H⟩:=an7 _ _ _ (xm _) q
        have J:(db s.ae ((da p b (bN s) a).1.ab.getD j ao).id).toNat<s.ab.length:=by rw[<- v2];exact J
        have H:(s.ae.getD (db s.ae ((da p b (bN s) a).1.ab.getD j ao).id).toNat az).ay=_:=H
        exact .inr ⟨_,J,rfl,(nM.1 (v3 _ J).2).2.1.symm.trans H⟩
      . exact .inl rfl
     refine⟨rfl,⟨z12.2 ⟨y1,xY _ _ _ (xm _),λj e=>⟨X j e, ?_⟩⟩,z2.rch,λj e=>?_⟩,rel,ze.trans (by rw[k,eL])⟩
     . rw[gb j e]
       have F:=oo (mD.1 (X j e).1).2
       rcases ob j e with q | ⟨i,J,H,q3⟩
       . rw[q]
         refine nM.2 ⟨(z21 _).2 ⟨⟨(tO F.id).1,yr _,(by decide:(0:Int)<=32),(by decide:(0:Int)+((0:Nat):Int)<=32)⟩,λi f=>absurd f (jo _)⟩,rfl,λi f=>absurd f (jo _)⟩
       . rw[H];exact au2 (v3 i J).2 q3.symm
     . rw[gb j e]
       have N:(da p b (bN s) a).1.ab.getD j ao∈(da p b (bN s) a).1.ab:=aow e
       have F:=oo (mD.1 (X j e).1).2
       rcases ob j e with q | ⟨i,J,H,q3⟩
       . rw[q];show(0:Int)+((0:Nat):Int)<=_;have :=F.steps;show(0:Int)+((0:Nat):Int)<=((da p b (bN s) a).1.ab.getD j ao).steps;omega
       . rw[H]
         have K:=I.cnt i J
         show _<=((da p b (bN s) a).1.ab.getD j ao).steps
         by_cases q:(s.ab.getD i ao).id=a
         . have :=rel.own _ (aow J) _ N q3 q;omega
         . have :=rel.oth _ (aow J) _ N q3 q;rw[this];exact K
theorem av9 (h:(zt p b s a).2.2=0):aV p b=0/\cQ p b s=true/\aQ (cL p s) a=true:=by grind[zt,aV]
theorem ava (s:bI p) (h:(zp p b).2=0):ap8 p b (zp p b).1:=by
 have i:aV p b=0:=by
  grind[zp]
 have hs:(zj p b).2=0:=by unfold zj;rw[x8 (λh=>h i)]
 have⟨M,E⟩:=anl p b
 have r:=avh s h
 have⟨v1,Z,N⟩:=z12.1 r
 have K:zj p b=(⟨eD p b p.ab.length,(bf p).1,[]⟩,0):=by unfold zj;rw[x8 (λh=>h i)]
 have H:(zp p b).1.ab=eD p b p.ab.length:=by
  have :=yt ag.ab M
  rw[K]at this;exact this.symm
 have X:(zp p b).1.mem=(bf p).1:=by
  have :=yt ag.mem M
  rw[K]at this;exact this.symm
 have Q:=(l6 i).1
 have P:jM p:=⟨s,Q⟩
 have fl:∀ n:Nat,(List.replicate n ([]:List Int)).flatten=[]:=λn=>by
  simp_all
 have Y:allI (bf p).1=[]:=by
  unfold bf allI
  grind
 have J:∀ x∈eD p b p.ab.length,x.held=[]/\x.id<8:=λx f=>by
  obtain⟨j,m,rfl⟩:=wv.1 f
  have m:=yl.1 m
  have⟨t1,t2⟩:=P.ab.2 j m
  have V:=P.ab.1.2
  have hd:br (j:Int)=0:=by
   have :j=0∨j=1∨j=2∨j=3∨j=4∨j=5∨j=6∨j=7:=O
   rcases this with rfl |rfl |rfl |rfl |rfl |rfl |rfl |rfl<;>decide
  have U:(ba p b (j:Int) (p.ab.getD j dQ).fn (p.ab.getD j dQ).arg).2=0:=by
   unfold ba
   rw[x8 (λh=>h i),x8 O,x8 O,x8 (λh=>h (oa.2 (oh.1 t2)))]
  have⟨R,n2⟩:=aud U
  exact⟨n2,by rw[R];omega⟩
 refine⟨r,⟨λt e x f=>?_,λid y=>?_,λt e V=>?_⟩,λk u=>?_⟩
 . rw[H]at e;rw[(J t e).1]at f;cases f
 . rw[X,Y]at y;cases y
 . rw[H]at e;have :=(J t e).2;omega
 . have⟨b1,b2,b3,b4⟩:=E.buf k u
   have F:=(oo (mD.1 (N k u).1.1).2).steps
   rw[b2]
   show _+((0:Nat):Int)<=_
   omega
end
end Go.Proofs.S25
