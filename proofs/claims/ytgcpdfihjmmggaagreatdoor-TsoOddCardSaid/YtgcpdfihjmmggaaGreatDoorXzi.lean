import Derived.Test.YtgcpdfihjmmggaaGreatDoorXzh
import Derived.Laws.AppendOwn
import Derived.Test.YtgcpdfihjmmggaaGreatDoorXzd
import Derived.Test.YtgcpdfihjmmggaaGreatDoorXzg
import Derived.Test.YtgcpdfihjmmggaaGreatDoorXz
import Derived.Test.YtgcpdfihjmmggaaGreatDoorXzc
namespace Go.Proofs.S25
open Go Go.AV Go.RowKit
open Go.IntKind renaming i64 -> j6
open Go.AV.Shape (leaf)
noncomputable section
theorem ah0 (N:Nat->Prop) (m:Mem) (c id:Int):zzh N m c id=(eS Tryz.prog (GN N) (148:Nat) [AV.mc zm (aj m)] (AV.bool (ca m))/\((!ca m)=true->True/\1=(aZ m c id).snd/\vw m c id)/\((!ca m)=false->lq c/\lq c/\(yD c->↑m.a6.length<=(9223372036854775807:Int))/\lq c/\lq c/\lq c/\(uo m c=true->True/\11=(aZ m c id).snd/\vw m c id)/\(uo m c=false->(pw id=true->True/\2=(aZ m c id).snd/\vw m c id)/\(pw id=false->(c6 Tryz.prog (GN N) (101:Nat) [AV.mc zm (aj m)] (AV.mc zm (AV.agg [AV.own (0:Nat) m.vars.length,AV.own (1:Nat) m.aa.length,AV.own (2:Nat) m.a6.length,AV.own (3:Nat) m.sig.length])) [ar.row (3:TypeId) leaf m.vars.length λi=>AV.int j6 (m.vars.getD i (0:Int)),ar.row (3:TypeId) leaf m.aa.length λi=>AV.int j6 (m.aa.getD i (0:Int)),ar.row (29:TypeId) leaf m.a6.length λi=>fg N (m.a6.getD i []),ar.row (3:TypeId) leaf m.sig.length λi=>AV.int j6 (m.sig.getD i (0:Int))])/\(ca m=true/\bC m c ↑m.a6.length=0/\¬id<0)/\(RR c/\RR id)/\(RR m.vars.length/\RR m.aa.length/\RR m.a6.length/\RR m.sig.length)/\(RR m.vars.length/\∀ i:Nat,i<m.vars.length->RR (AV.int j6 (m.vars.getD i 0)))/\(RR m.aa.length/\∀ i:Nat,i<m.aa.length->RR (AV.int j6 (m.aa.getD i 0)))/\(RR m.a6.length/\∀ i:Nat,i<m.a6.length->fg N (m.a6.getD i [])=fN N m i)/\RR m.sig.length/\∀ i:Nat,i<m.sig.length->RR (AV.int j6 (m.sig.getD i 0)))))):=by kernel_rfl
section
variable (m:Mem) (c:Int) (id:Int)
def qtk:List (List Int):=m.a6.set c.toNat (m.a6.getD c.toNat []++[id])
def Z3:Nat:=(qtk m c id).length
def qtl:=Z3 m c id<=Z3 m c id
end
theorem acf (N:Nat->Prop) (m:Mem) (c id:Int):zsd N m c id=(eS Tryz.prog (GN N) (148:Nat) [AV.mc zm (AV.agg [a8 m.vars,a8 m.aa,aE (qtk m c id),a8 m.sig])] (AV.bool (ca (mr m c id)))/\m.vars.length<=m.vars.length/\m.aa.length<=m.aa.length/\qtl m c id/\m.sig.length<=m.sig.length/\((!ca (mr m c id))=true->True/\30=(aZ m c id).snd/\(aZ m c id).fst.vars.length=0/\(aZ m c id).fst.aa.length=0/\(aZ m c id).fst.a6.length=0/\(aZ m c id).fst.sig.length=0)/\((!ca (mr m c id))=false->m.vars.length<=m.vars.length/\m.aa.length<=m.aa.length/\qtl m c id/\m.sig.length<=m.sig.length/\m.vars.length<=m.vars.length/\m.aa.length<=m.aa.length/\qtl m c id/\m.sig.length<=m.sig.length/\True/\0=(aZ m c id).snd/\(m.vars.length=(aZ m c id).fst.vars.length/\∀ i:Nat,i<m.vars.length->AV.int j6 (m.vars.getD i 0)=AV.int j6 ((aZ m c id).fst.vars.getD i 0))/\(m.aa.length=(aZ m c id).fst.aa.length/\∀ i:Nat,i<m.aa.length->AV.int j6 (m.aa.getD i 0)=AV.int j6 ((aZ m c id).fst.aa.getD i 0))/\(Z3 m c id=(aZ m c id).fst.a6.length/\∀ i:Nat,i<Z3 m c id->a8 ((qtk m c id).getD i [])=a8 ((aZ m c id).fst.a6.getD i []))/\m.sig.length=(aZ m c id).fst.sig.length/\∀ i:Nat,i<m.sig.length->AV.int j6 (m.sig.getD i 0)=AV.int j6 ((aZ m c id).fst.sig.getD i 0))):=by kernel_rfl
theorem ajt:vY 4 uY= .seq (.region 8 gJ true) (vY 5 uY):=by kernel_rfl
theorem zuz (l:List (List Int)) (x:Int):∀ c,c<l.length ->(l.set c (l.getD c []++[x])).flatten.Perm (x::l.flatten):=by
 induction l with
 |nil=>intro c hc;exact absurd hc (jo _)
 |cons q l ih=>
  intro c hc
  cases c with
  |zero=>
   simp only[List.set_cons_zero,List.getD_cons_zero,List.flatten_cons,wq,List.singleton_append]
   exact List.perm_middle
  |succ c=>
   simp only[List.set_cons_succ,List.getD_cons_succ,List.flatten_cons]
   exact((ih c (by simpa using hc)).append_left q).trans List.perm_middle
theorem zzi (m:Mem) (c id:Int) (hc:c.toNat<m.a6.length):(allI (mr m c id)).Perm (id::allI m):=
 ((zuz m.a6 id c.toNat hc).append_left m.sig).trans List.perm_middle
theorem zse (m:Mem) (id:Int):nt m id=true↔id∈allI m:=by grind[nt,allI,aQ,List.mem_flatten]
theorem aja {m:Mem} {c id:Int} (hm:ca m=true) (hc:c.toNat<m.a6.length) (hid:0<=id):ca (mr m c id)=!nt m id:=by
 have M:=uE.1 hm
 have P:=zzi m c id hc
 rw[wk,xi,<- jy,zse,uE]
 constructor
 . intro E
   have :=P.nodup_iff.1 E.nd
   grind
 . intro h
   refine⟨M.vars,M.aa,by show(m.a6.set _ _).length<=4;rw[yy];exact M.a6,M.mO,M.uZ,M.own,λx hx=>?_,P.nodup_iff.2 (List.nodup_cons.2 ⟨h,M.nd⟩)⟩
   rcases xv.1 (P.mem_iff.1 hx)with rfl |h
   . exact hid
   . exact M.pos x h
theorem aic (N:Nat ->Prop) (m:Mem) (c id:Int) (hm:dk m):zzh N m c id:=by
 rw[ah0];try delta vw qj1 yD lq uo pw
 simp only[SB,af]
 have s3:=hm.a6
 have bad:∀ n:Int,aZ m c id=(du,n) ->n=(aZ m c id).2/\(aZ m c id).1.vars.length=0/\(aZ m c id).1.aa.length=0/\(aZ m c id).1.a6.length=0/\(aZ m c id).1.sig.length=0:=λn h=>by rw[h];exact⟨rfl,rfl,rfl,rfl,rfl⟩
 refine⟨more (lu m hm.wo),λh=>bad _ (by unfold aZ;rw[zhp h,x9 (by decide)]),λh=>⟨λ_=>by omega,λh1=>bad _ (by unfold aZ;rw[po h,x9 h1,x9 (by decide)]),λh1=>?_⟩⟩
 have h0:bC m c m.a6.length=0:=by rw[po h,x8 (by omega)]
 exact⟨λh2=>bad _ (by unfold aZ;rw[x8 (λe=>e h0),x9 h2]),λh2=>⟨aim N m hm,⟨h,h0,h2⟩,λ_ _=>rfl⟩⟩
theorem ajx (N:Nat ->Prop) (m:Mem) (c id:Int) (hm:dk m) (hf:ca m=true) (hi:bC m c m.a6.length=0) (hn:¬ id<0):zsd N m c id:=by
 rw[acf];try delta qtk Z3 qtl
 simp only[SB,af]
 have hc:=(kM hi).2
 have hf2:=aja hf (c:=c) (id:=id) (by omega) (by omega)
 have P:=(zzi m c id (by omega)).length_eq
 have s5:=hm.all
 refine⟨more (aaz (mr m c id) hm.vars hm.aa (by show(m.a6.set _ _).length<=_;rw[yy];exact hm.a6) hm.sig (λ_=>by rw[P];simp only[yp];omega)),λh=>?_,λh=>?_⟩
 . rw[hf2]at h
   have e:aZ m c id=(du,30):=by unfold aZ;rw[x8 (λe=>e hi),x8 hn,x9 (by simpa using h)]
   rw[e];exact⟨rfl,rfl,rfl,rfl,rfl⟩
 . rw[hf2]at h
   have e:aZ m c id=(mr m c id,0):=by unfold aZ;rw[x8 (λe=>e hi),x8 hn,x8 (by simpa using h)]
   rw[e];exact⟨rfl,⟨rfl,λ_ _=>rfl⟩,⟨rfl,λ_ _=>rfl⟩,⟨rfl,λ_ _=>rfl⟩,rfl,λ_ _=>rfl⟩
end
end Go.Proofs.S25
namespace Go.Proofs.S25
open Go Go.AV Go.RowKit
variable (N:Nat ->Prop) (m:Mem)
section
variable {N:Nat ->Prop} {m:Mem} {c id:Int} {W0:AV.Entry} {F0:Nat ->Prop} {a:Act} {w:World} {F:Nat ->Prop} {φ:Nat ->AV.Place} {env:List (Nat×AV)} {f f':Nat ->AV}
theorem JE {b:Nat} {x:ar} (h:AV.get (HQ m f') b=some x):∃ y,AV.get (HQ m f) b=some y/\x.isRow=y.isRow/\((x=y/\hlC y)∨(b=114690/\y= .row 29 .leaf m.a6.length f/\x= .row 29 .leaf m.a6.length f')):=by
 simp[HQ,AV.get]at h ⊢
 have hi:∀ l:List Int,hlC (bw l):=λl i hi j hj=>rfl
 cases e1:Nat.beq 8 b with
 |true=>
  simp only[e1]at h ⊢
  cases h
  exact⟨_,rfl,rfl, .inl ⟨rfl,λj hj=>match j,hj with
   |0,_ |1,_ |2,_ |3,_=>rfl
   |j+4,hj=>absurd hj (by show ¬ j+4<4;omega)⟩⟩
 |false=>
 simp[e1]at h ⊢
 cases e2:Nat.beq 114688 b with
 |true=>simp only[e2]at h ⊢;cases h;exact⟨_,rfl,rfl, .inl ⟨rfl,hi _⟩⟩
 |false=>
 simp[e2]at h ⊢
 cases e3:Nat.beq 114689 b with
 |true=>simp only[e3]at h ⊢;cases h;exact⟨_,rfl,rfl, .inl ⟨rfl,hi _⟩⟩
 |false=>
 simp[e3]at h ⊢
 cases e4:Nat.beq 114690 b with
 |true=>simp only[e4]at h ⊢;cases h;exact⟨_,rfl,rfl, .inr ⟨(xc e4).symm,rfl,rfl⟩⟩
 |false=>
 simp[e4]at h ⊢
 cases e5:Nat.beq 114691 b with
 |true=>simp only[e5]at h ⊢;cases h;exact⟨_,rfl,rfl, .inl ⟨rfl,hi _⟩⟩
 |false=>
 simp[e5]at h ⊢
 cases e6:Nat.beq 6 b with
 |true=>
  simp only[e6]at h ⊢
  cases h
  exact⟨_,rfl,rfl, .inl ⟨rfl,λj hj=>match j,hj with
   |0,_ |1,_ |2,_ |3,_=>rfl
   |j+4,hj=>absurd hj (by show ¬ j+4<4;omega)⟩⟩
 |false=>simp only[e6]at h;cases h
theorem zzj {B:Nat ->Prop} {w':World} {b n:Nat} {ty:TypeId} (hb:z24 w F φ B b (.row ty .leaf n f)) (hg:∀ g,(φ b).bV=some g ->w'.heap[g]? =w.heap[g]?) (hf:∀ j,j<n ->∀ v,au w F v (z6 .leaf (f j) 0) ->au w' F v (z6 .leaf (f' j) 0)):z24 w' F φ B b (.row ty .leaf n f'):=by
 obtain⟨h0,h0',h1⟩:=hb
 refine⟨h0,h0',h1.imp id ?_⟩
 rintro⟨g,cs,k1,k2,k3,k4,k5,k6,k7,k8⟩
 refine⟨g,cs,k1,k2,k3,(hg g k1).trans k4,k5,k6,k7,λi hi j hj=>?_⟩
 obtain rfl:j=0:=by have :j<1:=hj;omega
 exact hf i hi _ (k8 i hi 0 hj)
theorem Yb (h:Rel (kb N m 45) W0 F0 ⟨env,HQ m f⟩ a w F φ) (hf:∀ j,j<m.a6.length ->∀ v,au w F v (z6 .leaf (f j) 0) ->au w F v (z6 .leaf (f' j) 0)):Rel (kb N m 45) W0 F0 ⟨env,HQ m f'⟩ a w F φ:=by
 refine⟨h.env,λb x hx=>?_,λb b' x x' g h1 h2=>?_,h.ro,h.base,h.sub,h.new,h.eR,h.iC,h.aoi,λb p hb=>?_⟩
 . obtain⟨y,hy,_,e⟩:=JE (f:=f) hx
   have hb:=h.heap b y hy
   rcases e with⟨rfl,_⟩ | ⟨rfl,rfl,rfl⟩
   . exact hb
   . exact zzj hb (λ_ _=>rfl) hf
 . obtain⟨y,hy,_⟩:=JE (f:=f) h1
   obtain⟨y',hy',_⟩:=JE (f:=f) h2
   exact h.inj b b' y y' g hy hy'
 . obtain⟨a1,a2,a3⟩:=h.gV b p hb
   exact⟨a1,a2,λx hx=>by
    obtain⟨y,hy,e,_⟩:=JE (f:=f) hx
    rw[e];exact a3 y hy⟩
theorem acm {s:Nat} {v:Value} (ht:a.tmps.size=45) (hs:s<45):(a.put (some s) v).tmps[s]? =some v:=by simp[Act.put,ht,hs]
theorem aiq {s t:Nat} {v:Value} (e:t≠s):(a.put (some s) v).tmps[t]? =a.tmps[t]? :=by
 simp[Act.put];rw[ws (Ne.symm e)]
theorem agv (h:Rel (kb N m 45) W0 F0 ⟨env,HQ m (fN N m)⟩ a w F φ) (hL:∀ k,¬ W0.L k) (hA:∀ b,W0.A b=none) (hG:∀ g x,AV.get (GN N) g=some x ->au W0.w F0 (.pointer (some ⟨g,0,none⟩)) x) (hF0:∀ k,F0 k ->k<W0.w.heap.size)
 {g:Nat} {cs':Array Value} (hFg:F g) (hN:¬ F0 g) (hrow:∀ j,j<m.a6.length ->j≠c.toNat ->∀ u,au w F u (fN N m j) ->au (w.setRow g cs') F u (fN N m j)) {v':Value} {x:AV} (hv:au (w.setRow g cs') F v' x):
 Rel (kb N m 45) W0 F0 ⟨AV.put (WM env) 38 x,HQ m (fU N m c)⟩ (a.put (some 38) v') (w.setRow g cs') F φ:=by
 have hgB:W0.w.heap.size<=g:=by
  rcases h.new g hFg with h1 |h1 |h1
  . exact(hN h1).elim
  . exact h1
  . exact(hL g h1).elim
 have hblk:∀ b y gb,AV.get (HQ m (fN N m)) b=some y ->(φ b).bV=some gb ->(w.setRow g cs').heap[gb]? =w.heap[gb]? /\¬ F gb:=λb y gb hb hgb=>by
  have :=((h.heap b y hb).lt hgb).2.1
  exact⟨pC λe=>this (e ▸ hFg),this⟩
 refine⟨λs y hs=>?_,λb y hy=>?_,λb b' y y' gg h1 h2=>?_,λk hk=>by rw[setRow_size];exact h.ro k hk, ?_,h.sub,h.new,h.eR, ?_,λs y hs=>?_,λb p hb=>by rw[hA b]at hb;cases hb⟩
 . by_cases e:s=38
   . subst e
     simp only[zv,xq]at hs
     subst hs
     exact⟨v',acm h.iC (by decide), .stat hv⟩
   . simp only[zb _ _ _ _ e]at hs
     obtain⟨y0,hy0,e0⟩:=zsb hs
     obtain⟨v,h1,h2⟩:=h.env s y0 hy0
     refine⟨v,by rw[aiq e];exact h1, ?_⟩
     rcases e0 with⟨rfl,hl⟩ |rfl
     . exact zsa h2 hl
     . exact .eZ false (λh=>by cases h) λ_=> .inr rfl
 . obtain⟨y0,hy0,_,e⟩:=JE (f:=fN N m) hy
   have hb:=h.heap b y0 hy0
   rcases e with⟨rfl,hl⟩ | ⟨rfl,rfl,rfl⟩
   . exact z24.hl hb hl λgb hgb=>hblk b _ gb hy0 hgb
   . refine zzj hb (λgb hgb=>(hblk _ _ gb hy0 hgb).1) λj hj v hv=>?_
     unfold fU
     by_cases e:j=c.toNat
     . rw[x9 e];exact .any _ (hv.one rfl)
     . rw[x8 e];exact hrow j hj e v hv
 . obtain⟨z,hz,_⟩:=JE (f:=fN N m) h1
   obtain⟨z',hz',_⟩:=JE (f:=fN N m) h2
   exact h.inj b b' z z' gg hz hz'
 . exact h.base.trans (L':=λk=>k=g) ⟨rfl,rfl,rfl,by rw[setRow_size];exact xm _,λk _ hk=>pC hk⟩ λi hi hlt=>by subst hi;omega
 . show(a.tmps.setIfInBounds 38 v').size=45
   rw[Array.size_setIfInBounds];exact h.iC
 . exact(hG s y hs).keep (λk hk=>(pC λe:k=g=>hN (e ▸ hk)).trans (h.base.block k (hF0 k hk) (hL k))) h.sub
end
def g9 (id:Int) (i:Nat):AV:=List.getD (List.set (List.replicate 1 (AV.int .i64 0)) 0 (aq (AV.int .i64 id))) i AV.any
def fx (c id:Int):Nat ->Option AV
 |0 |3=>some (.ptr 8 [2])
 |1 |4=>some (.own 114690 m.a6.length)
 |2 |5=>some (.int .i64 c)
 |6 |11=>some (.bq 114690 c.toNat [])
 |7=>some (fN N m c.toNat)
 |8=>some (.int .i64 id)
 |9=>some (.seq .leaf 1 (g9 id))
 |10=>some (a8 (m.a6.getD c.toNat []++[id]))
 |_=>none
abbrev CCN:=eS Tryz.prog (GN N)
abbrev nY (f:Nat ->AV) (i:Nat) (l:List (Nat×AV)) (x:AV) (ps:List Prop) (need:List Operand):Prop:=OpF (kb N m 45) (CCN N) gJ (HQ m f) i (o8 i) l x ps need
section
variable (N:Nat ->Prop) (m:Mem) (c id:Int) (f:Nat ->AV)
theorem p0:nY N m f 0 [(8, .ptr 8 [])] (.ptr 8 [2]) [] [.tmp 8]:=⟨by kernel_rfl,by kernel_rfl,by kernel_rfl,by kernel_rfl,by kernel_rfl,λs=>by kernel_rfl,by kernel_rfl,by kernel_rfl⟩
theorem p1:nY N m f 1 [(28, .ptr 8 [2])] (.own 114690 m.a6.length) [] [.tmp 28]:=⟨by kernel_rfl,by kernel_rfl,by kernel_rfl,by kernel_rfl,by kernel_rfl,λs=>by kernel_rfl,by kernel_rfl,by kernel_rfl⟩
theorem p2:nY N m f 2 [(1, .int .i64 c)] (.int .i64 c) [] [.tmp 1]:=⟨by kernel_rfl,by kernel_rfl,by kernel_rfl,by kernel_rfl,by kernel_rfl,λs=>by kernel_rfl,by kernel_rfl,by kernel_rfl⟩
theorem p3:nY N m f 3 [(8, .ptr 8 [])] (.ptr 8 [2]) [] [.tmp 8]:=⟨by kernel_rfl,by kernel_rfl,by kernel_rfl,by kernel_rfl,by kernel_rfl,λs=>by kernel_rfl,by kernel_rfl,by kernel_rfl⟩
theorem p4:nY N m f 4 [(31, .ptr 8 [2])] (.own 114690 m.a6.length) [] [.tmp 31]:=⟨by kernel_rfl,by kernel_rfl,by kernel_rfl,by kernel_rfl,by kernel_rfl,λs=>by kernel_rfl,by kernel_rfl,by kernel_rfl⟩
theorem p5:nY N m f 5 [(1, .int .i64 c)] (.int .i64 c) [] [.tmp 1]:=⟨by kernel_rfl,by kernel_rfl,by kernel_rfl,by kernel_rfl,by kernel_rfl,λs=>by kernel_rfl,by kernel_rfl,by kernel_rfl⟩
theorem p6:nY N m f 6 [(32, .own 114690 m.a6.length),(33, .int .i64 c)] (.bq 114690 c.toNat []) [af c m.a6.length] [.tmp 32, .tmp 33]:=⟨by kernel_rfl,by kernel_rfl,by kernel_rfl,by kernel_rfl,by kernel_rfl,λs=>by kernel_rfl,by kernel_rfl,by kernel_rfl⟩
theorem p7:nY N m (fN N m) 7 [(34, .bq 114690 c.toNat [])] (fN N m c.toNat) [c.toNat<m.a6.length] [.tmp 34]:=⟨by kernel_rfl,by kernel_rfl,by kernel_rfl,by kernel_rfl,by kernel_rfl,λs=>by kernel_rfl,by kernel_rfl,by kernel_rfl⟩
theorem p8:nY N m f 8 [(2, .int .i64 id)] (.int .i64 id) [] [.tmp 2]:=⟨by kernel_rfl,by kernel_rfl,by kernel_rfl,by kernel_rfl,by kernel_rfl,λs=>by kernel_rfl,by kernel_rfl,by kernel_rfl⟩
theorem p9:nY N m f 9 [(36, .int .i64 id)] (.seq .leaf 1 (g9 id)) [1*Shape.leaf.size<=16777216] [.tmp 36]:=⟨by kernel_rfl,by kernel_rfl,by kernel_rfl,by kernel_rfl,by kernel_rfl,λs=>by kernel_rfl,by kernel_rfl,by kernel_rfl⟩
theorem p11:nY N m f 11 [(29, .own 114690 m.a6.length),(30, .int .i64 c)] (.bq 114690 c.toNat []) [af c m.a6.length] [.tmp 29, .tmp 30]:=⟨by kernel_rfl,by kernel_rfl,by kernel_rfl,by kernel_rfl,by kernel_rfl,λs=>by kernel_rfl,by kernel_rfl,by kernel_rfl⟩
theorem p10 (n:Nat) (g h:Nat ->AV):nY N m f 10 [(35, .bD .leaf n g),(37, .seq .leaf 1 h)] (.seq .leaf (n+1) λi=>if i<n then g i else h (i - n)) [0<1/\((n+1:Nat):Int)*(8:Nat)<=140737488355328/\n+1<=9223372036854775807] [.tmp 35, .tmp 37]:=
 ⟨by kernel_rfl,by kernel_rfl,by kernel_rfl,by kernel_rfl,by kernel_rfl,λs=>by kernel_rfl,by kernel_rfl,by kernel_rfl⟩
def f12 (j:Nat):AV:=if j=c.toNat then a8 (m.a6.getD c.toNat []++[id])else fU N m c j
def C8:List (Nat×AV):=[(38,a8 (m.a6.getD c.toNat []++[id])),(39, .bq 114690 c.toNat []),(8, .ptr 8 []),(6, .ptr 6 [])]
theorem p12:lh (kb N m 45) (CCN N) (λ_ _=>none) gJ.toList ⟨C8 m c id,HQ m (fU N m c)⟩ (o8 12)=some (⟨C8 m c id,AV.put (HQ m (fU N m c)) 114690 (.row 29 .leaf m.a6.length (f12 N m c id))⟩,[c.toNat<m.a6.length]):=by kernel_rfl
theorem sz8:gJ.size=13:=by kernel_rfl
end
def I8 (c id:Int) (W0:AV.Entry) (F0:Nat ->Prop) (D:Nat ->Bool) (a:Act) (w:World):Prop:=
 z85 gJ (λk=>D k=true)/\match D 12 with
 |true=>∃ F φ,Rel (kb N m 45) W0 F0 (S8 (mr m c id)) a w F φ
 |false=>∃ env F φ,Rel (kb N m 45) W0 F0 ⟨env,HQ m (bif D 10 then fU N m c else fN N m)⟩ a w F φ/\(∀ s x,AV.get (S7 N m c id).env s=some x ->AV.get env s=some x)/\
  ∀ i x,D i=true ->(D 10&&(Nat.beq i 7 || Nat.beq i 9))=false ->fx N m c id i=some x ->AV.get env (28+i)=some x
section
variable {N:Nat ->Prop} {m:Mem} {c id:Int} {W0:AV.Entry} {F0:Nat ->Prop} {a:Act} {w:World} {F:Nat ->Prop} {φ:Nat ->AV.Place} {env:List (Nat×AV)} {D:Nat ->Bool} {Q:Exit ->Act ->World ->Prop}
theorem ccE:dW (kb N m 45) (CCN N):=z9a (kb N m 45) (λ_ _ _ _ h=>h)
theorem zg4 {s:Nat} {x:AV} (h:AV.get (S7 N m c id).env s=some x):s<28:=by
 simp[S7,AV.get]at h
 grind[xc]
theorem akv {i:Nat} {o:Oper} (h:gJ[i]? =some o):o=o8 i:=by unfold o8;rw[h];rfl
theorem zn4 {i:Nat} {o:Oper} (hD:z85 gJ λk=>D k=true) (ho:gJ[i]? =some o) (hed:∀ e∈o.after.toList,Region.binds .any e=true ->D e.on=true):z85 gJ λk=>(D k || Nat.beq k i)=true:=by
 intro k o' hk ho' e he hb
 simp at hk ⊢
 rcases hk with hk |hk
 . exact .inl (hD k o' hk ho' e he hb)
 . simp_all
theorem Z7 {i k:Nat} (h:k≠i):Nat.beq k i=false:=by
 cases e:Nat.beq k i with
 |false=>rfl
 |true=>exact absurd (xc e) h
theorem qR {i:Nat} {o:Oper} (ho:o=o8 i) (h10:i≠10) (h12:i≠12) {l:List (Nat×AV)} {x:AV} {ps:List Prop} {need:List Operand} (hO:nY N m (bif D 10 then fU N m c else fN N m) i l x ps need) (hx:fx N m c id i=some x) (hps:∀ p∈ps,p) (hD:D 12=false) (hcl:z85 gJ λk=>(D k || Nat.beq k i)=true)
 (hI:I8 N m c id W0 F0 D a w) (hl:∀ s y,AV.get l s=some y ->AV.get (S7 N m c id).env s=some y∨∃ k,s=28+k/\D k=true/\(D 10&&(Nat.beq k 7 || Nat.beq k 9))=false/\fx N m c id k=some y):
 o.wp Tryz.prog a w (I8 N m c id W0 F0 λk=>D k || Nat.beq k i) Q:=by
 subst ho
 obtain⟨_,hI⟩:=hI
 rw[hD]at hI
 obtain⟨env,F,φ,hR,hb,hf⟩:=hI
 refine hO.go hps (Cq N m 45) ccE hR (λs y hs=>?_) λenv' a' w' F' φ' hR' h1 h2=>⟨hcl, ?_⟩
 . rcases hl s y hs with h | ⟨k,rfl,k1,k2,k3⟩
   . exact hb s y h
   . exact hf k y k1 k2 k3
 . have e10:(D 10 || Nat.beq 10 i)=D 10:=by rw[Z7 (Ne.symm h10),Bool.or_false]
   have C8:(D 12 || Nat.beq 12 i)=false:=by rw[Z7 (Ne.symm h12),Bool.or_false,hD]
   simp only[C8,e10]
   refine⟨env',F',φ',hR',λs y hs=>by rw[h2 s (by have :=zg4 hs;omega)];exact hb s y hs,λk y hk hk2 hk3=>?_⟩
   by_cases e:k=i
   . grind
   . simp_all
end
section
variable {N:Nat ->Prop} {m:Mem} {c id:Int} {W0:AV.Entry} {F0:Nat ->Prop} {a:Act} {w:World} {F:Nat ->Prop} {φ:Nat ->AV.Place} {env:List (Nat×AV)} {D:Nat ->Bool} {K:Act ->World ->Prop} {Q:Exit ->Act ->World ->Prop}
theorem room {P:Program} {t ty e tb:TypeId} {i:TypeInfo} (ht:P.underlying t=some (.slice e)) (hi:P.info? e=some i) {g n cap:Nat} {cur:Array Value} (hg:w.heap[g]? =some (.cells cur tb (0,0))) {ad:Addr} {c:Nat} {u:Value} (h1:i.size=1) (hu:w.cell? (ad.add 0)=some u) (ho:u.oneCell'=true) (hroom:n+1<=cap) (hfit:n+1<=cur.size):
 (Builtin.append_ #[t,t] ty #[.slice (some ⟨g,0,none⟩) n cap, .slice (some ad) 1 c]).run P w= .ok (.slice (some ⟨g,0,none⟩) (n+1) cap) (w.setRow g (cur.toList.take n++#[u].toList++cur.toList.drop (n+1)).toArray):=by
 have hf:=run_firstCells_some (P:=P) w i.size 1 ad 1 c [u] (by rw[h1];rfl) (λj v hj=>by
  match j,hj with
  |0,hj=>cases hj;exact hu)
 have hst:=run_storeCells_at (P:=P) g n tb [u] 0 cur w hg (by simpa using hfit) (λv hv=>by rw[jt.1 hv];exact ho)
 rw[h1]at hf
 simp[Builtin.append_,run_underlying ht,sizeOf,typeInfo,hi,Builtin.lenOf,hroom,hf,Addr.add_lit,hst,h1]
theorem zn5 {l:List Int} {v:Value} (h:au w F v (fg N l)):au w F v (.bD .leaf l.length λi=> .int .i64 (l.getD i 0))∨
 ∃ g cap cs ty,v= .slice (some ⟨g,0,none⟩) l.length cap/\l.length+1<=cap/\0<l.length/\F g/\N g/\w.heap[g]? =some (.cells cs ty (0,0))/\cap<=cs.size/\∀ i,i<l.length ->cs.getD i undef= .int .i64 (l.getD i 0)/\aM .i64 (l.getD i 0):=by
 unfold fg at h
 generalize hf:(λi=>AV.int .i64 (l.getD i 0))=f at h
 generalize hn:l.length=n at h ⊢
 cases h with
 |fJ=>subst hf;exact .inl (.ik _ _ _)
 |cz _ g o _ cap _ _ cs hF hN hb hn hc hr=>
  obtain⟨rfl,h0,cs',ty,hh,hcap⟩:=hb
  have hcap:cap<=cs'.size:=by have :cap*1<=cs'.size:=hcap;omega
  have hv:∀ i,i<n ->cs'.getD i undef= .int .i64 (l.getD i 0)/\aM .i64 (l.getD i 0):=λi hi=>by
   have h1:=hc i hi 0 (by decide)
   have h2:=hr i hi 0 (by decide)
   subst hf
   have h2:au w F (cs i 0) (.int .i64 (l.getD i 0)):=h2
   obtain⟨e1,e2⟩:=zbj h2
   have h3:w.cell? ⟨g,0+(i*1+0),none⟩=some (cs i 0):=h1
   rw[xw,jf,wd,nq hh (by omega)]at h3
   exact⟨(gk h3).trans e1,e2⟩
  by_cases hr':n+1<=cap
  . exact .inr ⟨g,cap,cs',ty,rfl,hr',h0,hF,hN,hh,hcap,hv⟩
  . obtain rfl:cap=n:=by omega
    exact .inl (.bD g 0 _ _ _ cs hF hc hr)
theorem afg {v:Value} {l:List Int} (h:au w F v (.seq .leaf (l.length+1) λi=>if i<l.length then .int .i64 (l.getD i 0)else g9 id (i - l.length))):au w F v (a8 (l++[id])):=by
 unfold a8
 rw[show(l++[id]).length=l.length+1 by simp]
 refine zjt h λi hi=>?_
 by_cases e:i<l.length
 . rw[x9 e,x7 (l:=l++[id]),ya e,<- x7]
   exact⟨rfl,rfl,λu hu=>hu⟩
 . obtain rfl:i=l.length:=by omega
   rw[x8 e,yz,x7 (l:=l++[id]),y6 (xm _),yz]
   exact⟨rfl,rfl,λu hu=>hu⟩
theorem ZG {C:bu} {H:List (Nat×ar)} (h:Rel C W0 F0 ⟨env,H⟩ a w F φ) {s:Nat} {v:Value} {y:AV} (hs:a.tmps[s]? =some v) (hy:aG w F φ v y):Rel C W0 F0 ⟨AV.put env s y,H⟩ a w F φ:=by
 refine⟨λt z ht=>?_,h.heap,h.inj,h.ro,h.base,h.sub,h.new,h.eR,h.iC,h.aoi,h.gV⟩
 by_cases e:t=s
 . subst e
   simp[zv]at ht
   grind
 . simp[zb _ _ _ _ e]at ht
   exact h.env t z ht
theorem aht {o:Oper} (ho:o=o8 10) (hM:jZ m) (hc:c.toNat<m.a6.length) (hq:(m.a6.getD c.toNat []).length<=1000000) (hid:aM .i64 id) (hNF:∀ k,N k ->¬ F0 k) (hL:∀ k,¬ W0.L k) (hA:∀ b,W0.A b=none) (hG:∀ g x,AV.get (GN N) g=some x ->au W0.w F0 (.pointer (some ⟨g,0,none⟩)) x) (hF0:∀ k,F0 k ->k<W0.w.heap.size)
 (hR:Rel (kb N m 45) W0 F0 ⟨env,HQ m (fN N m)⟩ a w F φ) (h35:AV.get env 35=some (fN N m c.toNat)) (h37:AV.get env 37=some (.seq .leaf 1 (g9 id)))
 (hK:∀ env' a' w' F' φ',Rel (kb N m 45) W0 F0 ⟨env',HQ m (fU N m c)⟩ a' w' F' φ' ->AV.get env' 38=some (a8 (m.a6.getD c.toNat []++[id])) ->(∀ s x,s≠35 ->s≠37 ->s≠38 ->AV.get env s=some x ->qU x=true ->AV.get env' s=some x) ->K a' w'):o.wp Tryz.prog a w K Q:=by
 subst ho
 obtain⟨v35,hv35,hr35⟩:=hR.env 35 _ h35
 have hr35:au w F v35 (fg N (m.a6.getD c.toNat [])):=hr35.kt rfl
 rcases zn5 hr35 with hfull | ⟨g,cap,cs,ty,rfl,hroom,h0,hFg,hNg,hh,hcap,hcells⟩
 . refine(p10 N m (fN N m) (m.a6.getD c.toNat []).length (λi=> .int .i64 ((m.a6.getD c.toNat []).getD i 0)) (g9 id)).go (λp hp=>?_) (Cq N m 45) ccE (ZG hR hv35 (.stat hfull)) (λs y hs=>?_) λenv' a' w' F' φ' hR' h1 h2=>?_
   . obtain rfl:=jt.1 hp
     exact⟨by decide,by omega,by omega⟩
   . simp only[AV.get]at hs
     split at hs
     . rename_i e
       have :=xc e
       subst this
       cases hs
       exact zv _ _ _
     . split at hs
       . rename_i e
         have :=xc e
         subst this
         cases hs
         rw[zb _ _ _ _ (by decide)];exact h37
       . cases hs
   . obtain⟨v,hv,hr⟩:=hR'.env 38 _ h1
     refine hK _ _ _ _ _ (ZG (Yb hR' λj hj v hv=>?_) hv (.stat (afg (hr.kt rfl)))) (zv _ _ _) λs x a1 a2 a3 hs hx=>?_
     . unfold fU
       by_cases e:j=c.toNat
       . rw[x9 e];exact .any _ (hv.one rfl)
       . rw[x8 e];exact hv
     . rw[zb _ _ _ _ a3,h2 s (by omega),zb _ _ _ _ a1];exact hs
 . obtain⟨v37,hv37,hr37⟩:=hR.env 37 _ h37
   obtain⟨ad,c2,rfl,hcell⟩:∃ ad c2,v37= .slice (some ad) 1 c2/\w.cell? (ad.add 0)=some (.int .i64 id):=by
    have hr37:=hr37.kt rfl
    generalize hgg:g9 id=gg at hr37
    cases hr37 with
    |seq g2 o2 _ c2 _ _ cs2 k1 k2 k3 k4=>
     subst hgg
     have k5:au w F (cs2 0 0) (.int .i64 id):=k4 0 (by decide) 0 (by decide)
     have k6:=k3 0 (by decide) 0 (by decide)
     rw[(zbj k5).1]at k6
     exact⟨_,_,rfl,k6⟩
   obtain⟨te,htl⟩:∃ te,aU (kb N m 45) 3=some te/\te.sh.size=1:=⟨_,rfl,rfl⟩
   obtain⟨dd,ie,z,hue,hie,hse,_⟩:=(Cq N m 45 _ _ htl.1).info
   have hrun:=room (w:=w) (P:=Tryz.prog) (ty:=(o8 10).type) (t:=29) Tryz.underlying29 hie hh (hse.trans htl.2) hcell rfl hroom (show(m.a6.getD c.toNat []).length+1<=cs.size by omega) (c:=c2)
   have fin:∀ {v':Value} {w':World},(Builtin.append_ #[29,29] (o8 10).type #[a.eval (.tmp 35),a.eval (.tmp 37)]).run Tryz.prog w= .ok v' w' ->K (a.put (some 38) v') w' ->(o8 10).wp Tryz.prog a w K Q:=by
    intro v' w' hrun hnx
    unfold Oper.wp
    have :(execOp a.eval (o8 10)).run Tryz.prog w= .ok (.value v') w':=by
     refine UU (C:=kb N m 45) (c:=⟨.builtin .append,#[.tmp 35, .tmp 37],#[29,29]⟩) (b:= .append) (by kernel_rfl) rfl ?_
     simp only[builtin,Sem.run_bind]
     have :(#[Operand.tmp 35, .tmp 37].map a.eval)=#[a.eval (.tmp 35),a.eval (.tmp 37)]:=by simp
     rw[this]
     show((Builtin.append_ #[29,29] (o8 10).type #[a.eval (.tmp 35),a.eval (.tmp 37)]).run Tryz.prog w).andThen _=_
     rw[hrun]
     rfl
    rw[this]
    have hd:(o8 10).dst=some 38:=by kernel_rfl
    show K (a.put (o8 10).dst v') w'
    rw[hd]
    exact hnx
   have ev:∀ {t:Nat} {v:Value},a.tmps[t]? =some v ->a.eval (.tmp t)=v:=λh=>by
    show a.tmps.getD _ undef=_
    rw[xb,h];rfl
   refine fin (by rw[ev hv35,ev hv37];exact hrun) ?_
   have hsp:=z7m (cur:=cs) (new:=#[Value.int .i64 id]) (off:=(m.a6.getD c.toNat []).length) (n:=1) rfl (by omega)
   have hss:=z68 (cur:=cs) (new:=#[Value.int .i64 id]) (off:=(m.a6.getD c.toNat []).length) (n:=1) rfl (by omega)
   generalize hcs':(cs.toList.take (m.a6.getD c.toNat []).length++#[Value.int .i64 id].toList++cs.toList.drop ((m.a6.getD c.toNat []).length+1)).toArray=cs' at hsp hss
   have hrow':=setRow_heap w g cs cs' ty (0,0) hh
   refine hK _ _ _ _ _ (agv (c:=c) (x:=a8 (m.a6.getD c.toNat []++[id])) hR hL hA hG hF0 hFg (hNF g hNg) (λj hj hne u hu=>?_) ?_) (zv _ _ _) λs x a1 a2 a3 hs hx=>?_
   . have hu:au w F u (fg N (m.a6.getD j [])):=hu
     show au _ F u (fg N (m.a6.getD j []))
     have hfst:=λh1=>zuv hM hne hj hc h1 h0
     unfold fg at hu ⊢
     generalize m.a6.getD j []=lj at hu hfst ⊢
     generalize hf:(λi=>AV.int .i64 (lj.getD i 0))=f at hu ⊢
     generalize hn:lj.length=n at hu ⊢ hfst
     cases hu with
     |fJ=>exact .fJ _ _ _
     |cz _ g2 o2 _ cap2 _ _ cs2 k1 k2 k3 k4 k5 k6=>
      subst hf
      have hne2:g2≠g:=λe=>by
       subst e
       obtain⟨rfl,hn0,_⟩:=k3
       have e1:=k5 0 hn0 0 (by decide)
       have e2:au w F (cs2 0 0) (.int .i64 (lj.getD 0 0)):=k6 0 hn0 0 (by decide)
       have e3:w.cell? ⟨g2,0,none⟩=some (cs2 0 0):=e1
       rw[nq hh (by omega),(hcells 0 h0).1,(zbj e2).1]at e3
       exact hfst hn0 (Value.int.inj (gk e3)).2.symm
      exact .cz N g2 o2 n cap2 .leaf (λi=> .int .i64 (lj.getD i 0)) cs2 k1 k2 (by rw[pC hne2];exact k3) k4 (λi hi j hj=>(World.cell?_of_block (pC hne2)).trans (k5 i hi j hj)) λi hi j hj=>zg3 (k6 i hi j hj) rfl
   . unfold a8
     rw[show(m.a6.getD c.toNat []++[id]).length=(m.a6.getD c.toNat []).length+1 by simp]
     refine .seq g 0 _ cap .leaf _ (λi _=>cs'.getD i undef) hFg hroom (λi hi j hj=>?_) λi hi j hj=>?_
     . obtain rfl:j=0:=by have :j<1:=hj;omega
       show World.cell? _ ⟨g,0+(i*1+0),none⟩=_
       rw[xw,jf,wd]
       exact nq hrow' (by omega)
     . rw[hsp i]
       show au _ F _ (.int .i64 ((m.a6.getD c.toNat []++[id]).getD i 0))
       by_cases e:i<(m.a6.getD c.toNat []).length
       . rw[x8 (by omega),(hcells i e).1,x7 (l:=_++[id]),ya e,<- x7]
         exact .int _ _ (hcells i e).2
       . obtain rfl:i=(m.a6.getD c.toNat []).length:=by omega
         rw[x9 (by omega),yz,x7 (l:=_++[id]),y6 (xm _),yz]
         exact .int _ _ hid
   . rw[zb _ _ _ _ a3];exact zsc hx hs
end
theorem rO {t s:Nat} {z y:AV} (h:AV.get [(t,z)] s=some y):s=t/\y=z:=by grind[AV.get,xc]
theorem zjw {t t' s:Nat} {z z' y:AV} (h:AV.get [(t,z),(t',z')] s=some y):(s=t/\y=z)∨s=t'/\y=z':=by grind[AV.get,xc]
theorem zv0 {w:World} {F:Nat ->Prop} {N:Nat ->Prop} {v:Value} {l:List Int} (h:au w F v (fg N l)):au w F v (a8 l):=by
 unfold fg at h
 unfold a8
 generalize l.length=n at h ⊢
 cases h with
 |fJ=>exact .cH _ _ _ _
 |cz _ g o _ cap _ _ cs hF _ _ hn hc hr=>exact .seq g o _ _ .leaf _ cs hF hn hc hr
theorem aav {C:bu} {W0:AV.Entry} {F0:Nat ->Prop} {env l:List (Nat×AV)} {H:List (Nat×ar)} {a:Act} {w:World} {F:Nat ->Prop} {φ:Nat ->AV.Place} (h:Rel C W0 F0 ⟨env,H⟩ a w F φ) (hl:∀ s x,AV.get l s=some x ->AV.get env s=some x):Rel C W0 F0 ⟨l,H⟩ a w F φ:=
 ⟨λs x hs=>h.env s x (hl s x hs),h.heap,h.inj,h.ro,h.base,h.sub,h.new,h.eR,h.iC,h.aoi,h.gV⟩
section
variable {N:Nat ->Prop} {m:Mem} {c id:Int} {W0:AV.Entry} {F0:Nat ->Prop} {a:Act} {w:World} {F:Nat ->Prop} {φ:Nat ->AV.Place} {D:Nat ->Bool} {Q:Exit ->Act ->World ->Prop}
theorem ain {s:Nat} {x:AV} (h:AV.get (S7 N m c id).env s=some x):qU x=true:=by
 simp[S7,AV.get]at h
 repeat' split at h
 all_goals (cases h;try rfl)
theorem adl {k:Nat} {y:AV} (h:fx N m c id k=some y) (h1:k≠7) (h2:k≠9) (h3:k≠10):qU y=true:=by
 unfold fx at h
 split at h
 all_goals first
  |cases h;rfl
  |cases h;done
  |exact absurd rfl h1
  |exact absurd rfl h2
  |exact absurd rfl h3
theorem aec {f f':Nat ->AV} (b:Nat):AV.get (AV.put (HQ m f) 114690 (.row 29 .leaf m.a6.length f')) b=AV.get (HQ m f') b:=by
 by_cases e:b=114690
 . subst e;rw[zv];rfl
 . rw[zb _ _ _ _ e]
   simp[HQ,AV.get,Z7 (Ne.symm e)]
theorem ajw (hM:jZ m) (hc0:0<=c) (hc:c.toNat<m.a6.length) (hq:(m.a6.getD c.toNat []).length<=1000000) (hid:aM .i64 id) (hNF:∀ k,N k ->¬ F0 k) (hL:∀ k,¬ W0.L k) (hA:∀ b,W0.A b=none) (hG:∀ g x,AV.get (GN N) g=some x ->au W0.w F0 (.pointer (some ⟨g,0,none⟩)) x) (hF0:∀ k,F0 k ->k<W0.w.heap.size)
 {i:Nat} {o:Oper} (ho:gJ[i]? =some o) (hDi:D i=false) (hed:∀ e∈o.after.toList,Region.binds .any e=true ->D e.on=true) (hI:I8 N m c id W0 F0 D a w):o.guard=none/\o.wp Tryz.prog a w (I8 N m c id W0 F0 λk=>D k || Nat.beq k i) Q:=by
 have hi:i<13:=by rw[<- sz8];exact(xj.1 ho).1
 have hcl:=zn4 hI.1 ho hed
 have an:=Gi hI.1 i o ho hed
 have no:∀ k,gJ[k]? =some (o8 k) ->((mg gJ.toList []).getD k 0).testBit i=true ->D k=false:=λk ho' hb=>by
  cases hk:D k with
  |false=>rfl
  |true=>
   have :=Gi hI.1 k _ ho' (hI.1 k _ hk ho') i hb
   rw[hDi]at this;cases this
 have eo:=akv ho
 have ok:∀ k,(Nat.beq k 7 || Nat.beq k 9)=false ->(D 10&&(Nat.beq k 7 || Nat.beq k 9))=false:=λk h=>by rw[h,Bool.and_false]
 have ix:∀ p∈[af c m.a6.length],p:=λp hp=>by rw[jt.1 hp];exact⟨hc0,by omega⟩
 have fN7:D 10=false ->(bif D 10 then fU N m c else fN N m)=fN N m:=λh=>by rw[h];rfl
 match i,hi with
 |0,_=>exact⟨by rw[eo];kernel_rfl,qR eo (by decide) (by decide) (p0 N m _) rfl (by simp) (no 12 (by kernel_rfl) (by kernel_rfl)) hcl hI λs y hs=>by obtain⟨rfl,rfl⟩:=rO hs;exact .inl rfl⟩
 |1,_=>exact⟨by rw[eo];kernel_rfl,qR eo (by decide) (by decide) (p1 N m _) rfl (by simp) (no 12 (by kernel_rfl) (by kernel_rfl)) hcl hI λs y hs=>by obtain⟨rfl,rfl⟩:=rO hs;exact .inr ⟨0,rfl,an 0 (by kernel_rfl),ok 0 rfl,rfl⟩⟩
 |2,_=>exact⟨by rw[eo];kernel_rfl,qR eo (by decide) (by decide) (p2 N m c _) rfl (by simp) (no 12 (by kernel_rfl) (by kernel_rfl)) hcl hI λs y hs=>by obtain⟨rfl,rfl⟩:=rO hs;exact .inl rfl⟩
 |3,_=>exact⟨by rw[eo];kernel_rfl,qR eo (by decide) (by decide) (p3 N m _) rfl (by simp) (no 12 (by kernel_rfl) (by kernel_rfl)) hcl hI λs y hs=>by obtain⟨rfl,rfl⟩:=rO hs;exact .inl rfl⟩
 |4,_=>exact⟨by rw[eo];kernel_rfl,qR eo (by decide) (by decide) (p4 N m _) rfl (by simp) (no 12 (by kernel_rfl) (by kernel_rfl)) hcl hI λs y hs=>by obtain⟨rfl,rfl⟩:=rO hs;exact .inr ⟨3,rfl,an 3 (by kernel_rfl),ok 3 rfl,rfl⟩⟩
 |5,_=>exact⟨by rw[eo];kernel_rfl,qR eo (by decide) (by decide) (p5 N m c _) rfl (by simp) (no 12 (by kernel_rfl) (by kernel_rfl)) hcl hI λs y hs=>by obtain⟨rfl,rfl⟩:=rO hs;exact .inl rfl⟩
 |6,_=>exact⟨by rw[eo];kernel_rfl,qR eo (by decide) (by decide) (p6 N m c _) rfl ix (no 12 (by kernel_rfl) (by kernel_rfl)) hcl hI λs y hs=>by
  rcases zjw hs with⟨rfl,rfl⟩ | ⟨rfl,rfl⟩
  . exact .inr ⟨4,rfl,an 4 (by kernel_rfl),ok 4 rfl,rfl⟩
  . exact .inr ⟨5,rfl,an 5 (by kernel_rfl),ok 5 rfl,rfl⟩⟩
 |7,_=>exact⟨by rw[eo];kernel_rfl,qR eo (by decide) (by decide) (by rw[fN7 (no 10 (by kernel_rfl) (by kernel_rfl))];exact p7 N m c) rfl (λp hp=>by rw[jt.1 hp];exact hc) (no 12 (by kernel_rfl) (by kernel_rfl)) hcl hI λs y hs=>by obtain⟨rfl,rfl⟩:=rO hs;exact .inr ⟨6,rfl,an 6 (by kernel_rfl),ok 6 rfl,rfl⟩⟩
 |8,_=>exact⟨by rw[eo];kernel_rfl,qR eo (by decide) (by decide) (p8 N m id _) rfl (by simp) (no 12 (by kernel_rfl) (by kernel_rfl)) hcl hI λs y hs=>by obtain⟨rfl,rfl⟩:=rO hs;exact .inl rfl⟩
 |9,_=>exact⟨by rw[eo];kernel_rfl,qR eo (by decide) (by decide) (p9 N m id _) rfl (λp hp=>by rw[jt.1 hp];decide) (no 12 (by kernel_rfl) (by kernel_rfl)) hcl hI λs y hs=>by obtain⟨rfl,rfl⟩:=rO hs;exact .inr ⟨8,rfl,an 8 (by kernel_rfl),ok 8 rfl,rfl⟩⟩
 |11,_=>exact⟨by rw[eo];kernel_rfl,qR eo (by decide) (by decide) (p11 N m c _) rfl ix (no 12 (by kernel_rfl) (by kernel_rfl)) hcl hI λs y hs=>by
  rcases zjw hs with⟨rfl,rfl⟩ | ⟨rfl,rfl⟩
  . exact .inr ⟨1,rfl,an 1 (by kernel_rfl),ok 1 rfl,rfl⟩
  . exact .inr ⟨2,rfl,an 2 (by kernel_rfl),ok 2 rfl,rfl⟩⟩
 |10,_=>
  refine⟨by rw[eo];kernel_rfl, ?_⟩
  have h12:=no 12 (by kernel_rfl) (by kernel_rfl)
  have hI:=hI.2
  rw[h12]at hI
  obtain⟨env,F,φ,hR,hb,hf⟩:=hI
  rw[fN7 hDi]at hR
  refine aht eo hM hc hq hid hNF hL hA hG hF0 hR (hf 7 _ (an 7 (by kernel_rfl)) (by rw[hDi];rfl) rfl) (hf 9 _ (an 9 (by kernel_rfl)) (by rw[hDi];rfl) rfl) λenv' a' w' F' φ' hR' h1 h2=>⟨hcl, ?_⟩
  have e:(D 12 || Nat.beq 12 10)=false:=by rw[h12];rfl
  have e2:(D 10 || Nat.beq 10 10)=true:=by rw[hDi];rfl
  simp only[e,e2]
  refine⟨env',F',φ',hR',λs y hs=>h2 s y (by have :=zg4 hs;omega) (by have :=zg4 hs;omega) (by have :=zg4 hs;omega) (hb s y hs) (ain hs),λk y hk hk2 hk3=>?_⟩
  by_cases e10:k=10
  . subst e10;cases hk3;exact h1
  . rw[Z7 e10,Bool.or_false]at hk
    have n7:k≠7:=λe=>by subst e;cases hk2
    have n9:k≠9:=λe=>by subst e;cases hk2
    exact h2 (28+k) y (by omega) (by omega) (by omega) (hf k y hk (by rw[hDi];rfl) hk3) (adl hk3 n7 n9 e10)
 |12,_=>
  refine⟨by rw[eo];kernel_rfl, ?_⟩
  have h10:=an 10 (by kernel_rfl)
  have hI:=hI.2
  rw[hDi]at hI
  obtain⟨env,F,φ,hR,hb,hf⟩:=hI
  simp only[h10,cond_true]at hR
  have hS:Rel (kb N m 45) W0 F0 ⟨C8 m c id,HQ m (fU N m c)⟩ a w F φ:=aav hR λs x hs=>by
   simp only[C8,AV.get]at hs
   repeat' split at hs
   . rename_i e;have :=xc e;subst this;cases hs;exact hf 10 _ h10 (by rw[h10];rfl) rfl
   . rename_i e;have :=xc e;subst this;cases hs;exact hf 11 _ (an 11 (by kernel_rfl)) (by rw[h10];rfl) rfl
   . rename_i e;have :=xc e;subst this;cases hs;exact hb 8 _ rfl
   . rename_i e;have :=xc e;subst this;cases hs;exact hb 6 _ rfl
   . cases hs
  rw[eo]
  have :=C0 (Q:=Q) (ops:=gJ) (K:=I8 N m c id W0 F0 λk=>D k || Nat.beq k 12) hS (Cq N m 45) ccE (p12 N m c id) (λp hp=>by rw[jt.1 hp];exact hc) λa' w' F' φ' hR'=>⟨hcl,by
   have e:(D 12 || Nat.beq 12 12)=true:=by rw[hDi];rfl
   simp only[e]
   refine⟨F',φ', ?_⟩
   have h1:Rel (kb N m 45) W0 F0 ⟨C8 m c id,HQ m (f12 N m c id)⟩ a' w' F' φ':=hR'.alike (λ_=>rfl) λb=>(aec b).symm
   have h2:=Yb (f':=λj=>a8 ((mr m c id).a6.getD j [])) h1 λj hj v hv=>by
    have hv:au w' F' v (f12 N m c id j):=by
     have :z6 .leaf (f12 N m c id j) 0=f12 N m c id j:=by
      unfold f12 fU
      split
      . rfl
      . rfl
     rw[this]at hv;exact hv
    show au _ _ _ (a8 ((m.a6.set c.toNat (m.a6.getD c.toNat []++[id])).getD j []))
    unfold f12 fU at hv
    by_cases ej:j=c.toNat
    . subst ej
      rw[x9 rfl]at hv
      rw[x7 (l:=m.a6.set _ _),List.getElem?_set_self hc]
      exact hv
    . rw[x8 ej,x8 ej]at hv
      rw[x7 (l:=m.a6.set _ _),List.getElem?_set_ne (Ne.symm ej),<- x7]
      exact zv0 hv
   have h3:=aav (l:=[(8, .ptr 8 []),(6, .ptr 6 [])]) h2 λs x hs=>by
    rcases zjw hs with⟨rfl,rfl⟩ | ⟨rfl,rfl⟩<;>rfl
   have el:HQ (mr m c id)=HQ m:=by unfold HQ aa8 mr;simp only[yy]
   unfold S8
   rw[el]
   exact h3⟩
  rw[x9 (by rw[Region.wanted];rfl)]at this
  exact this
theorem afi (hM:jZ m) (hc0:0<=c) (hc:c.toNat<m.a6.length) (hq:(m.a6.getD c.toNat []).length<=1000000) (hid:aM .i64 id) (hNF:∀ k,N k ->¬ F0 k) (hL:∀ k,¬ W0.L k) (hA:∀ b,W0.A b=none) (hG:∀ g x,AV.get (GN N) g=some x ->au W0.w F0 (.pointer (some ⟨g,0,none⟩)) x) (hF0:∀ k,F0 k ->k<W0.w.heap.size)
 (hR:Rel (kb N m 45) W0 F0 (S7 N m c id) a w F φ):(Code.region 8 gJ true).wp Tryz.prog (λe a' w'=>e= .normal/\∃ F φ,Rel (kb N m 45) W0 F0 (S8 (mr m c id)) a' w' F φ) a w:=by
 refine zux (I8 N m c id W0 F0) (by kernel_rfl) ⟨λk o hk=>(by cases hk), ?_⟩ (λD i o a w ho hDi hed hI=>ajw hM hc0 hc hq hid hNF hL hA hG hF0 ho hDi hed hI) λD a w hall hI=>⟨rfl, ?_⟩
 . exact⟨_,F,φ,hR.grown ⟨rfl,rfl,rfl,xm _,λ_ _=>rfl⟩ (λ_ hk=>hk) (λ_ hk=> .inl hk) hR.ro,λ_ _ h=>h,λi x h=>by cases h⟩
 . have h:=hI.2
   rw[hall 12 (by rw[sz8];decide)]at h
   exact h
end
theorem eqB:Tryz.f97.body=some uY:=by kernel_rfl
theorem ae2:wK:=λm c id hm=> .inl ⟨jH.of (fn:=Tryz.f97) Tryz.func97 (by kernel_rfl) (by kernel_rfl),λw F vs hro hgl hsz hr=>by
 obtain⟨N,hN⟩:∃ N:Nat ->Prop,N=λk=>¬ F k:=⟨_,rfl⟩
 have hglN:∀ g x,AV.get (GN N) g=some x ->au w F (.pointer (some ⟨g,0,none⟩)) x:=λg x hg=>by
  simp only[GN,AV.get]at hg
  split at hg
  . cases hg;exact .jS _ _ rfl λk=>by rw[hN];exact Classical.em (F k)
  . exact hgl g x hg
 have hid:aM .i64 id:=(zbj (hr 2 (show 2<3 by decide))).2
 have hR:=Rel.start (C:=kb N m 45) (fn:=Tryz.f97) (args:=[vM m, .int .i64 c, .int .i64 id]) (by kernel_rfl) (show 3<=45 by decide) hro hglN hsz hr
 have s3:=hm.a6
 have fin:∀ {a':Act} {w':World} {F':Nat ->Prop} {φ':Nat ->AV.Place},Rel (kb N m 45) (.of w) F (SR m c id) a' w' F' φ' ->bodyPost Tryz.prog Tryz.f97 (λen w'=>∃ v F',en= .returned v/\Below w.heap.size w w'/\(∀ k,F k ->F' k)/\(∀ k,F' k ->F k∨w.heap.size<=k)/\(∀ k,F' k ->k<w'.heap.size)/\dx w' F' v (.av [vM (aZ m c id).1, .int .i64 (aZ m c id).2])) .ret a' w':=λhR=>⟨hR.eR,zkg (V:=Yt N m c id 45 λ_=>[]) (fn:=Tryz.f97) (r:= .av [vM (aZ m c id).1, .int .i64 (aZ m c id).2]) (Cq N m 45) hR (by
  have e:(match znt (kb N m 45) (SR m c id) Tryz.f97.results.toList with |some (x,ps)=>ap0 ps (AV.wz [] [] x (.av [vM (aZ m c id).1, .int .i64 (aZ m c id).2])).P |none=>False)=(AV.wz [] [] (.av [vM (aZ m c id).1, .int .i64 (aZ m c id).2]) (.av [vM (aZ m c id).1, .int .i64 (aZ m c id).2])).P:=by kernel_rfl
  exact Eq.mpr e (le_refl _ _ _))⟩
 refine calls_of_wp Tryz.func97 eqB (zs9 (V:=Yt N m c id 45 λ_=>[]) (Cq N m 45) ccE (λ_=>rfl) 4 uY ⟨z87 0 [vM m, .int .i64 c, .int .i64 id],[]⟩ (pB (some (ca m=true/\bC m c m.a6.length=0/\¬ id<0,S7 N m c id)) none (some (True,SR m c id))) _ _ _ _ (aic N m c id hm) hR ?_)
 rintro e st' a' w' F' φ' h1 h2
 cases e with
 |normal=>
  obtain⟨⟨hfm,hins,hlt⟩,hle⟩:=h2
  obtain⟨φ2,hR2⟩:=h1.weaken hle
  have hc:=kM hins
  have hq:=hm.q c.toNat
  show(vY 4 uY).wp Tryz.prog _ a' w'
  rw[ajt]
  refine wp_seq (wp_mono (afi (uE.1 hfm) (by omega) (by omega) (by omega) hid (λk hk=>by rw[hN]at hk;exact hk) (λ_ h=>h) (λ_=>rfl) hglN hro hR2) ?_)
  rintro e a3 w3 ⟨rfl,F3,φ3,hR3⟩
  refine wp_mono (YL (V:=Yt N m c id 45 fzR) (Cq N m 45) ccE (vY 5 uY) (S8 (mr m c id)) (pB none none (some (True,SR m c id))) _ _ _ _ (ajx N m c id hm hfm hins hlt) hR3) ?_
  rintro e a4 w4 ⟨st4,F4,φ4,hR4,hq4⟩
  cases e with
  |ret=>
   obtain⟨φ5,hR5⟩:=hR4.weaken hq4.2
   exact fin hR5
  |_=>exact hq4.elim
 |ret=>
  obtain⟨φ2,hR2⟩:=h1.weaken h2.2
  exact fin hR2
 |_=>exact h2.elim⟩
end Go.Proofs.S25
namespace Go.Proofs.S25
open Go Go.AV
open Go.IntKind renaming i64 -> j6
open Go.AV.Shape (leaf)
noncomputable section
variable (p:ai) (s:ag)
theorem aw2:∀ l:List (List Int),l.flatten.length=(l.map λq=>q.length).sum
 | []=>rfl
 |q::l=>by rw[List.flatten_cons,xl,List.map_cons,List.sum_cons,aw2 l]
theorem awe {s:ag} (h:aH s=true) (hF:aln s) (hT:∀ i,alj (s.ab.getD i ao)):jr s/\s.ab.length<=300/\(s.mem.a6.length<=4 ->(allI s.mem).length<=300):=by
 unfold aH at h
 rw[xd]at h
 have ha:s.mem.a6.length<=4 ->(allI s.mem).length<=300:=λhq=>by
  unfold allI
  rw[xl,aw2]
  unfold c4 ct ck sl0 at h
  rw[show min s.mem.a6.length 50=s.mem.a6.length from by omega,jk]at h
  omega
 unfold c4 ct ck sl0 at h
 exact⟨⟨by omega,λj=>⟨(hT j).aw,(hT j).id.2,(hT j).pc.2,(hT j).held⟩,⟨by omega,by omega,by omega,by omega,λhq=>by have :=ha hq;omega⟩,by omega,hF.cf⟩,by omega,ha⟩
theorem aw6 {p:ai} {b:Int} {s:ag} (hp:bI p) (w:jr s) (hn:s.ab.length<=300) (ha:s.mem.a6.length<=4 ->(allI s.mem).length<=300) (hv:cQ p b s=true):mz s 32 1000:=by
 obtain⟨v1,v2,v3⟩:=z12.1 hv
 have M:jZ s.mem:=by
  unfold ec at v1
  simp only[xa]at v1
  grind [uE]
 have P:jM p:=⟨hp,zu2 v1⟩
 have A:=ha M.a6
 have he:∀ j,(s.ae.getD j az).entries.length<=32:=λj=>by
  by_cases hj:j<s.ae.length
  . have :=((z21 _).1 (nM.1 (v3 j (by omega)).2).1).1
    omega
  . rw[x7,y9 (by omega)];exact xt _
 refine⟨⟨w.ab,λj=>?_,⟨w.mem.vars,w.mem.aa,w.mem.a6,w.mem.sig,by omega⟩,w.ae,λj=>by have :=he j;omega⟩,by omega,by omega,he,λj=>?_⟩
 . by_cases hj:j<s.ab.length
   . exact(oo (mD.1 (v3 j hj).1.1).2).tok P (w.ok j)
   . rw[x7,y9 (by omega)];exact ou
 . by_cases hj:j<s.ab.length
   . exact(sG hv hj).1
   . rw[x7,y9 (by omega)];exact yr _
def oLk (b:Int) (s:ag) (a:Int):FuncId ->List AV ->Option AV
 |26,_ |36,_=>some (.av [dh (zf p s a).1, .bool (zf p s a).2])
 |21,_ |35,_=>some (.av [cx (zt p b s a).1,dh (zt p b s a).2.1, .int .i64 (zt p b s a).2.2])
 |22,_ |37,_=>some (a8 (cI p s))
 |27,_=>some (.bool true)
 |14,_=>some (.bool true)
 |9,_=>some (.bool (kn p))
 |10,_=>some (.bool (aH s))
 |11,_ |18,_=>some (.bool true)
 |_,_=>none
noncomputable def vLk (p:ai) (b:Int) (s:ag) (a:Int) (n:Nat):bm:={C:=di n λ_ _=>false,CC:=eS Tryz.prog GG,b9:=λ_ _=>oLk p b s a,inv:=λ_=>none}
theorem aeh {s:ag}:(cI p s).length<=1000000:=by
 unfold cI
 split
 . rename_i hv
   have q1:=z9m s.ae 0
   have q2:=zbd p s s.ab.length
   have h2:=(z12.1 hv).2.1
   have h3:=Yc hv
   unfold cL;rw[xl];omega
 . exact xt _
theorem akq (l:List Int) (h:l.length<=1000000):KN 27 [a8 l,a8 l] (.bool true):=by
 have :=adg l l h h
 rwa [beq_self_eq_true]at this
theorem ait (h:cw s):KN 14 [cx s,cx s] (.bool true):=by
 have :=ah8 s s h h
 rwa [wy rfl]at this
section
variable (p:ai) (s:ag) (a:Int)
def Pf:List AV:=AV.mc z7 (ah p)::uM s a
def Ho:=AV.av [AV.mc bF (bX (zf p s a).fst),AV.bool (zf p s a).snd]
end
section
variable (p:ai) (b:Int) (s:ag) (a:Int)
def Mc:List AV:=AV.mc z7 (ah p)::AV.int j6 b::uM s a
def qtb:=AV.mc aI (ze (zt p b s a).fst)
def EA:=AV.av [qtb p b s a,AV.mc bF (bX (qp p b s a)),AV.int j6 (qy p b s a)]
def Np:List AV:=[AV.mc z7 (ah p),AV.mc aI (ze s)]
def BX:=true&&((zf p s a).fst.aC==(zf p s a).fst.aC&&((zf p s a).fst.idx==(zf p s a).fst.idx&&((zf p s a).fst.kind==(zf p s a).fst.kind&&((zf p s a).fst.obj==(zf p s a).fst.obj&&((zf p s a).fst.mutex==(zf p s a).fst.mutex&&((zf p s a).fst.entry==(zf p s a).fst.entry&&((zf p s a).fst.ord==(zf p s a).fst.ord&&((zf p s a).fst.read==(zf p s a).fst.read&&((zf p s a).fst.wrote==(zf p s a).fst.wrote&&true)))))))))
def BT:=BX p s a=true
def qtc:=BT p s a->BT p s a
def Mq:=BX p s a&&(zf p s a).snd==(zf p s a).snd
def Kt:=Mq p s a=true
def qtd:=Kt p s a->Kt p s a
def Dn:=Mq p s a&&qy p b s a==qy p b s a
def J9:=Dn p b s a=true
def qte:=J9 p b s a->J9 p b s a
def AR:Int:=(qp p b s a).aC
def Cc:Int:=(qp p b s a).idx
def Rk:Int:=(qp p b s a).kind
def Rc:Int:=(qp p b s a).obj
def IA:Int:=(qp p b s a).mutex
def Px:Int:=(qp p b s a).entry
def GO:Int:=(qp p b s a).ord
def HN:Int:=(qp p b s a).read
def BK:Int:=(qp p b s a).wrote
def MU:=Dn p b s a&&(AR p b s a==AR p b s a&&(Cc p b s a==Cc p b s a&&(Rk p b s a==Rk p b s a&&(Rc p b s a==Rc p b s a&&(IA p b s a==IA p b s a&&(Px p b s a==Px p b s a&&(GO p b s a==GO p b s a&&(HN p b s a==HN p b s a&&(BK p b s a==BK p b s a&&true)))))))))
def qtf:=MU p b s a=true
def qtg:=qtf p b s a->qtf p b s a
end
theorem ahl (b:Int) (s:ag) (a:Int) (hp:bI p) (w:jr s) (hn:s.ab.length<=300) (hv:∀ b,cQ p b s=true ->mz s 32 1000) (hI:jY a):KN 18 [vP p, .int .i64 b,cx s, .int .i64 a] (.bool true):=by
 refine Kn (vLk p b s a 83) Tryz.func18 (KN 26 (Pf p s a) (Ho p s a)/\KN 36 (Pf p s a) (Ho p s a)/\KN 21 (Mc p b s a) (EA p b s a)/\KN 35 (Mc p b s a) (EA p b s a)/\KN 22 (Np p s) (a8 (cI p s))/\KN 37 (Np p s) (a8 (cI p s))/\KN 27 [a8 (cI p s),a8 (cI p s)] (AV.bool true)/\(RR true->RR true)/\(RR true->RR true)/\(RR true->RR true)/\qtc p s a/\qtc p s a/\qtc p s a/\qtd p s a/\qtd p s a/\qtd p s a/\qte p b s a/\qte p b s a/\qte p b s a/\qtg p b s a/\qtg p b s a/\(qtf p b s a->KN 14 [qtb p b s a,qtb p b s a] (AV.bool true))/\qtg p b s a/\(MU p b s a&&true)=true) ?_
 try delta uM Pf Ho Mc qtb qp qy EA Np BX BT qtc Mq Kt qtd Dn J9 qte AR Cc Rk Rc IA Px GO HN BK MU qtf qtg
 simp only[SB,af]
 have hs:gE p s:=⟨w,λb h=>(hv b h).sm⟩
 have q:∀ b,cQ p b s=true ->(allI s.mem).length<400000:=λb h=>by have :=(hv b h).all;omega
 have hw:cw (zt p b s a).1:=by
  by_cases h:cQ p b s=true
  . exact(zza hp (hv b h) (by omega) (by omega)).sm
  . unfold zt
    split
    . exact zft
    . split
      . exact zft
      . rw[x9 (by simpa using h)];exact zft
 exact⟨zqt p s a hp hs hI,zz9 p s a hp hs hI,zqu p b s a hp hs hI (by omega) λ_ _ _ h _ _=>abb p b s _ a hp (hv b h).sm ah4 (q b h) (by omega),zs4 p b s a hp hs ae2 hI (q b),abg p s hp hs,aap p s hp hs,akq _ (aeh p),λ_=>ait _ hw⟩
section
variable (p:ai)
def ew:=(!!kn p)=true->(!!kn p)=true
end
theorem aw8 (a:Int) (hp:alx p) (hn:NmP p) (hF:aln s) (hT:∀ i,alj (s.ab.getD i ao)) (hI:jY a):KN 5 [vP p,cx s, .int .i64 a] (.bool true):=by
 refine Kn (vLk p 0 s a 29) Tryz.func5 (KN 9 [AV.mc z7 (ah p)] (AV.bool (kn p))/\ew p/\((!!kn p)=true->KN 10 [AV.mc aI (ze s)] (AV.bool (aH s)))/\ew p/\ew p/\((!kn p||!aH s)=true->KN 11 [] (AV.bool true)/\RR true)/\((!kn p||!aH s)=false->KN 11 [] (AV.bool true)/\(RR true->RR true)/\(RR true->RR true)/\(RR true->RR true)/\(RR true->KN 18 (AV.mc z7 (ah p)::AV.int j6 (8:Int)::uM s a) (AV.bool true))/\(RR true->RR true)/\((true&&true)=true->(true&&true)=true)/\((true&&true)=true->(true&&true)=true)/\((true&&true)=true->(true&&true)=true)/\((true&&true)=true->KN 18 (AV.mc z7 (ah p)::AV.int j6 (1:Int)::uM s a) (AV.bool true))/\((true&&true)=true->(true&&true)=true)/\(true&&true&&true)=true)) ?_
 try delta ew uM
 simp only[SB,af]
 refine⟨agn p hp,λ_=>kSl s hF,λ_=>zqy,λh=>?_⟩
 have hP:=acx h.1 hn
 obtain⟨w,w1,w2⟩:=awe h.2 hF hT
 have K:=λb=>ahl p b s a hP w w1 (λb hv=>aw6 hP w w1 w2 hv) hI
 exact⟨zqy,λ_=>K 8,λ_=>K 1⟩
end
end Go.Proofs.S25
