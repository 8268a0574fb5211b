import Derived.Test.YtcfagpelpjdmaaaGreatDoorXzl
namespace Go.Proofs.S25
open Go Go.AV Go.RowKit
open Go.IntKind renaming i64 -> j6
open Go.AV.Shape (leaf)
noncomputable section
theorem aly (N:Nat->Prop) (m:Mem) (c id:Int):zzh N m c id=(aL Tryz.prog (GN N) (149:Nat) [AV.mc zm (ao m)] (AV.bool (cx m))/\((!cx m)=true->True/\1=(b9 m c id).snd/\Cc m c id)/\((!cx m)=false->mM c/\mM c/\(Br c->↑m.aa.length<=(9223372036854775807:Int))/\mM c/\mM c/\mM c/\(Al m c=true->True/\11=(b9 m c id).snd/\Cc m c id)/\(Al m c=false->(rY id=true->True/\2=(b9 m c id).snd/\Cc m c id)/\(rY id=false->(cd Tryz.prog (GN N) (148:Nat) [AV.mc zm (ao m)] (AV.mc zm (AV.agg [AV.own (0:Nat) m.vars.length,AV.own (1:Nat) m.ae.length,AV.own (2:Nat) m.aa.length,AV.own (3:Nat) m.sig.length])) [aw.row (3:TypeId) leaf m.vars.length λi=>co (m.vars.getD i (0:Int)),aw.row (3:TypeId) leaf m.ae.length λi=>co (m.ae.getD i (0:Int)),aw.row (31:TypeId) leaf m.aa.length λi=>gK N (m.aa.getD i []),aw.row (3:TypeId) leaf m.sig.length λi=>co (m.sig.getD i (0:Int))])/\(cx m=true/\bM m c ↑m.aa.length=0/\¬id<0)/\(RR c/\RR id)/\(RR m.vars.length/\RR m.ae.length/\RR m.aa.length/\RR m.sig.length)/\(RR m.vars.length/\∀ i:Nat,i<m.vars.length->RR (co (m.vars.getD i 0)))/\(RR m.ae.length/\∀ i:Nat,i<m.ae.length->RR (co (m.ae.getD i 0)))/\(RR m.aa.length/\∀ i:Nat,i<m.aa.length->gK N (m.aa.getD i [])=fN N m i)/\RR m.sig.length/\∀ i:Nat,i<m.sig.length->RR (co (m.sig.getD i 0)))))):=am
section
variable (m:Mem) (c:Int) (id:Int)
def qtk:List (List Int):=m.aa.set c.toNat (m.aa.getD c.toNat []++[id])
def qk0:Nat:=(qtk m c id).length
def qtl:=qk0 m c id<=qk0 m c id
end
theorem ajy (N:Nat->Prop) (m:Mem) (c id:Int):zsd N m c id=(aL Tryz.prog (GN N) (149:Nat) [AV.mc zm (AV.agg [ab m.vars,ab m.ae,aJ (qtk m c id),ab m.sig])] (AV.bool (cx (oc m c id)))/\m.vars.length<=m.vars.length/\m.ae.length<=m.ae.length/\qtl m c id/\m.sig.length<=m.sig.length/\((!cx (oc m c id))=true->True/\30=(b9 m c id).snd/\(b9 m c id).fst.vars.length=0/\(b9 m c id).fst.ae.length=0/\(b9 m c id).fst.aa.length=0/\(b9 m c id).fst.sig.length=0)/\((!cx (oc m c id))=false->m.vars.length<=m.vars.length/\m.ae.length<=m.ae.length/\qtl m c id/\m.sig.length<=m.sig.length/\m.vars.length<=m.vars.length/\m.ae.length<=m.ae.length/\qtl m c id/\m.sig.length<=m.sig.length/\True/\0=(b9 m c id).snd/\(m.vars.length=(b9 m c id).fst.vars.length/\∀ i:Nat,i<m.vars.length->co (m.vars.getD i 0)=co ((b9 m c id).fst.vars.getD i 0))/\(m.ae.length=(b9 m c id).fst.ae.length/\∀ i:Nat,i<m.ae.length->co (m.ae.getD i 0)=co ((b9 m c id).fst.ae.getD i 0))/\(qk0 m c id=(b9 m c id).fst.aa.length/\∀ i:Nat,i<qk0 m c id->ab ((qtk m c id).getD i [])=ab ((b9 m c id).fst.aa.getD i []))/\m.sig.length=(b9 m c id).fst.sig.length/\∀ i:Nat,i<m.sig.length->co (m.sig.getD i 0)=co ((b9 m c id).fst.sig.getD i 0))):=am
theorem alg:B8 4 zR= .seq (.region 8 iE true) (B8 5 zR):=am
theorem zuz (l:List (List Int)) (x:Int):∀ c,c<l.length ->(l.set c (l.getD c []++[x])).flatten.Perm (x::l.flatten):=by
 induction l with
 |nil=>intro c e;exact absurd e (wg _)
 |cons q l f=>
  intro c e;cases c with
  |zero=>
   simp only[List.set_cons_zero,List.getD_cons_zero,List.flatten_cons,ww,List.singleton_append];exact List.perm_middle
  |succ c=>
   simp only[List.set_cons_succ,List.getD_cons_succ,List.flatten_cons];exact((f c (by simpa using e)).append_left q).trans List.perm_middle
theorem zzi (m:Mem) (c id:Int) (e:c.toNat<m.aa.length):(allI (oc m c id)).Perm (id::allI m):=
 ((zuz m.aa id c.toNat e).append_left m.sig).trans List.perm_middle
theorem zse (m:Mem) (id:Int):oT m id=true↔id∈allI m:=by grind[oT,allI,aW,List.mem_flatten]
theorem akc {m:Mem} {c id:Int} (i:cx m=true) (j:c.toNat<m.aa.length) (e:0<=id):cx (oc m c id)=!oT m id:=by
 have M:=yT.1 i;have P:=zzi m c id j;rw[wq,xj,<- gk,zse,yT];constructor
 . intro E;have :=P.nodup_iff.1 E.nd;grind
 . intro h;refine⟨M.vars,M.ae,by show(m.aa.set _ _).length<=4;rw[wc];exact M.aa,M.ou,M.vU,M.own,λx f=>?_,P.nodup_iff.2 (List.nodup_cons.2 ⟨h,M.nd⟩)⟩;rcases xq.1 (P.mem_iff.1 f)with rfl |h
   . exact e
   . exact M.pos x h
theorem alm (N:Nat ->Prop) (m:Mem) (c id:Int) (f:dN m):zzh N m c id:=by
 rw[aly];try delta Cc qj1 Br mM Al rY
 simp only[SZ];have s3:=f.aa;have bad:∀ n:Int,b9 m c id=(eg,n) ->n=(b9 m c id).2/\(b9 m c id).1.vars.length=0/\(b9 m c id).1.ae.length=0/\(b9 m c id).1.aa.length=0/\(b9 m c id).1.sig.length=0:=λn h=>by rw[h];exact eq
 refine⟨more (mV m f),λh=>bad _ (by unfold b9;rw[zhp h,x9 ap]),λh=>⟨λ_=>ac,λh1=>bad _ (by unfold b9;rw[sb h,x9 h1,x9 ap]),λh1=>?_⟩⟩;have h0:bM m c m.aa.length=0:=by rw[sb h,x8 ac]
 exact⟨λh2=>bad _ (by unfold b9;rw[x8 (λe=>e h0),x9 h2]),λh2=>⟨an9 N m f,⟨h,h0,h2⟩,λ_ _=>rfl⟩⟩
theorem alr (N:Nat ->Prop) (m:Mem) (c id:Int) (f:dN m) (o:cx m=true) (j:bM m c m.aa.length=0) (k:¬ id<0):zsd N m c id:=by
 rw[ajy];try delta qtk qk0 qtl
 simp only[SZ];have r:=(ma j).2;have i:=akc o (c:=c) (id:=id) ac ac;have P:=(zzi m c id ac).length_eq;have s5:=f.all;refine⟨more (abu (oc m c id) f.vars f.ae (by show(m.aa.set _ _).length<=_;rw[wc];exact f.aa) f.sig (by rw[P];simp only[yz];omega)),λh=>?_,λh=>?_⟩
 . rw[i]at h;have e:b9 m c id=(eg,30):=by unfold b9;rw[x8 (λe=>e j),x8 k,x9 (by simpa using h)]
   rw[e];exact eq
 . rw[i]at h;have e:b9 m c id=(oc m c id,0):=by unfold b9;rw[x8 (λe=>e j),x8 k,x8 (by simpa using h)]
   rw[e];exact eq
end
end Go.Proofs.S25
namespace Go.Proofs.S25
open Go Go.AV Go.RowKit
variable (N:Nat ->Prop) (m:Mem)
section
variable {N:Nat ->Prop} {m:Mem} {c id:Int} {W0:AV.Entry} {F0:Nat ->Prop} {a:Act} {w:World} {F:Nat ->Prop} {φ:Nat ->AV.Place} {env:List (Nat×AV)} {f f':Nat ->AV}
theorem Fe {b:Nat} {x:aw} (h:AV.get (HQ m f') b=some x):∃ y,AV.get (HQ m f) b=some y/\x.isRow=y.isRow/\((x=y/\hlC y)∨(b=114690/\y= .row 31 .leaf m.aa.length f/\x= .row 31 .leaf m.aa.length f')):=by
 simp[HQ,AV.get]at h ⊢;have k:∀ l:List Int,hlC (bI l):=λl i k j e=>rfl;cases E:Nat.beq 8 b with
 |true=>
  simp only[E]at h ⊢;cases h;exact⟨_,rfl,rfl, .inl ⟨rfl,λj e=>match j,e with
   |0,_ |1,_ |2,_ |3,_=>rfl
   |j+4,e=>absurd e (by show ¬ j+4<4;omega)⟩⟩
 |false=>
 simp[E]at h ⊢;cases z:Nat.beq 114688 b with
 |true=>simp only[z]at h ⊢;cases h;exact⟨_,rfl,rfl, .inl ⟨rfl,k _⟩⟩
 |false=>
 simp[z]at h ⊢;cases u:Nat.beq 114689 b with
 |true=>simp only[u]at h ⊢;cases h;exact⟨_,rfl,rfl, .inl ⟨rfl,k _⟩⟩
 |false=>
 simp[u]at h ⊢;cases o:Nat.beq 114690 b with
 |true=>simp only[o]at h ⊢;cases h;exact⟨_,rfl,rfl, .inr ⟨(xc o).symm,rfl,rfl⟩⟩
 |false=>
 simp[o]at h ⊢;cases s:Nat.beq 114691 b with
 |true=>simp only[s]at h ⊢;cases h;exact⟨_,rfl,rfl, .inl ⟨rfl,k _⟩⟩
 |false=>
 simp[s]at h ⊢;cases r:Nat.beq 6 b with
 |true=>
  simp only[r]at h ⊢;cases h;exact⟨_,rfl,rfl, .inl ⟨rfl,λj e=>match j,e with
   |0,_ |1,_ |2,_ |3,_=>rfl
   |j+4,e=>absurd e (by show ¬ j+4<4;omega)⟩⟩
 |false=>simp only[r]at h;cases h
theorem zzj {B:Nat ->Prop} {w':World} {b n:Nat} {ty:TypeId} (J:z24 w F φ B b (.row ty .leaf n f)) (E:∀ g,(φ b).bY=some g ->w'.heap[g]? =w.heap[g]?) (H:∀ j,j<n ->∀ v,ay w F v (z6 .leaf (f j) 0) ->ay w' F v (z6 .leaf (f' j) 0)):z24 w' F φ B b (.row ty .leaf n f'):=by
 have⟨M,e,K⟩:=J;refine⟨M,e,K.imp id ?_⟩;rintro⟨g,N,h,z,y,x,u,s,r,o⟩;refine⟨g,N,h,z,y,(E g h).trans x,u,s,r,λi m j k=>?_⟩;obtain rfl:j=0:=by have :j<1:=k;omega
 exact H i m _ (o i m 0 k)
theorem adk (h:Rel (lr N m 45) W0 F0 ⟨env,HQ m f⟩ a w F φ) (u:∀ j,j<m.aa.length ->∀ v,ay w F v (z6 .leaf (f j) 0) ->ay w F v (z6 .leaf (f' j) 0)):Rel (lr N m 45) W0 F0 ⟨env,HQ m f'⟩ a w F φ:=by
 refine⟨h.env,λb x r=>?_,λb H x O g E z=>?_,h.ro,h.base,h.sub,h.new,h.cW,h.fW,h.bZ,λb p k=>?_⟩
 . have⟨y,i,_,e⟩:=Fe (f:=f) r;have k:=h.heap b y i;rcases e with⟨rfl,_⟩ | ⟨rfl,rfl,rfl⟩
   . exact k
   . exact zzj k (λ_ _=>rfl) u
 . have⟨y,i,_⟩:=Fe (f:=f) E;have⟨s,o,_⟩:=Fe (f:=f) z;exact h.inj b H y s g i o
 . have⟨M,K,J⟩:=h.gY b p k;exact⟨M,K,λx r=>by
    have⟨y,i,e,_⟩:=Fe (f:=f) r;rw[e];exact J y i⟩
theorem afg {s:Nat} {v:Value} (e:a.tmps.size=45) (hs:s<45):(a.put (some s) v).tmps[s]? =some v:=by simp[Act.put,e,hs]
theorem alj {s t:Nat} {v:Value} (e:t≠s):(a.put (some s) v).tmps[t]? =a.tmps[t]? :=by
 simp[Act.put];rw[wx (Ne.symm e)]
theorem aer (h:Rel (lr N m 45) W0 F0 ⟨env,HQ m (fN N m)⟩ a w F φ) (Z:∀ k,¬ W0.L k) (hA:∀ b,W0.A b=none) (hG:∀ g x,AV.get (GN N) g=some x ->ay W0.w F0 (.pointer (some ⟨g,0,none⟩)) x) (W:∀ k,F0 k ->k<W0.w.heap.size)
 {g:Nat} {E:Array Value} (O:F g) (Y:¬ F0 g) (M:∀ j,j<m.aa.length ->j≠c.toNat ->∀ u,ay w F u (fN N m j) ->ay (w.setRow g E) F u (fN N m j)) {Q:Value} {x:AV} (R:ay (w.setRow g E) F Q x):
 Rel (lr N m 45) W0 F0 ⟨AV.put (ZT env) 38 x,HQ m (fU N m c)⟩ (a.put (some 38) Q) (w.setRow g E) F φ:=by
 have a1:W0.w.heap.size<=g:=by
  rcases h.new g O with r |r |r
  . exact(Y r).elim
  . exact r
  . exact(Z g r).elim
 have H:∀ b y gb,AV.get (HQ m (fN N m)) b=some y ->(φ b).bY=some gb ->(w.setRow g E).heap[gb]? =w.heap[gb]? /\¬ F gb:=λb y gb J o=>by
  have :=((h.heap b y J).lt o).2.1;exact⟨tG λe=>this (e ▸ O),this⟩
 refine⟨λs y hs=>?_,λb y hy=>?_,λb b' y y' gg r X=>?_,λk K=>by rw[setRow_size];exact h.ro k K, ?_,h.sub,h.new,h.cW, ?_,λs y hs=>?_,λb p J=>by rw[hA b]at J;cases J⟩
 . by_cases e:s=38
   . subst e;simp only[zv,xr]at hs;subst hs;exact⟨Q,afg h.fW ap, .stat R⟩
   . simp only[zb _ _ _ _ e]at hs;have⟨U,i,e0⟩:=zsb hs;have⟨v,r,X⟩:=h.env s U i;refine⟨v,by rw[alj e];exact r, ?_⟩;rcases e0 with⟨rfl,hl⟩ |rfl
     . exact zsa X hl
     . exact .gD false (λh=>by cases h) λ_=> .inr rfl
 . have⟨U,i,_,e⟩:=Fe (f:=fN N m) hy;have J:=h.heap b U i;rcases e with⟨rfl,hl⟩ | ⟨rfl,rfl,rfl⟩
   . exact z24.hl J hl λgb o=>H b _ gb i o
   . refine zzj J (λgb o=>(H _ _ gb i o).1) λj hj v R=>?_;unfold fU;by_cases e:j=c.toNat
     . rw[x9 e];exact .any _ (R.one rfl)
     . rw[x8 e];exact M j hj e v R
 . have⟨z,hz,_⟩:=Fe (f:=fN N m) r;have⟨z',V,_⟩:=Fe (f:=fN N m) X;exact h.inj b b' z z' gg hz V
 . exact h.base.trans (L':=λk=>k=g) ⟨rfl,rfl,rfl,by rw[setRow_size];exact xm _,λk _ K=>tG K⟩ λi hi a0=>by subst hi;omega
 . show(a.tmps.setIfInBounds 38 Q).size=45;rw[Array.size_setIfInBounds];exact h.fW
 . exact(hG s y hs).keep (λk K=>(tG λe:k=g=>Y (e ▸ K)).trans (h.base.block k (W k K) (Z k))) h.sub
end
def g9 (id:Int) (i:Nat):AV:=List.getD (List.set (List.replicate 1 (co 0)) 0 (av (co id))) i AV.any
def fx (c id:Int):Nat ->Option AV
 |0 |3=>some (.ptr 8 [2])
 |1 |4=>some (.own 114690 m.aa.length)
 |2 |5=>some (co c)
 |6 |11=>some (.bB 114690 c.toNat [])
 |7=>some (fN N m c.toNat)
 |8=>some (co id)
 |9=>some (.seq .leaf 1 (g9 id))
 |10=>some (ab (m.aa.getD c.toNat []++[id]))
 |_=>none
abbrev CCN:=aL Tryz.prog (GN N)
abbrev ri (f:Nat ->AV) (i:Nat) (l:List (Nat×AV)) (x:AV) (ps:List Prop) (need:List Operand):Prop:=OpF (lr N m 45) (CCN N) iE (HQ m f) i (o8 i) l x ps need
section
variable (N:Nat ->Prop) (m:Mem) (c id:Int) (f:Nat ->AV)
theorem p0:ri N m f 0 [(8, .ptr 8 [])] (.ptr 8 [2]) [] [.tmp 8]:=⟨am,am,am,am,am,λs=>am,am,am⟩
theorem p1:ri N m f 1 [(28, .ptr 8 [2])] (.own 114690 m.aa.length) [] [.tmp 28]:=⟨am,am,am,am,am,λs=>am,am,am⟩
theorem p2:ri N m f 2 [(1,co c)] (co c) [] [.tmp 1]:=⟨am,am,am,am,am,λs=>am,am,am⟩
theorem p3:ri N m f 3 [(8, .ptr 8 [])] (.ptr 8 [2]) [] [.tmp 8]:=⟨am,am,am,am,am,λs=>am,am,am⟩
theorem p4:ri N m f 4 [(31, .ptr 8 [2])] (.own 114690 m.aa.length) [] [.tmp 31]:=⟨am,am,am,am,am,λs=>am,am,am⟩
theorem p5:ri N m f 5 [(1,co c)] (co c) [] [.tmp 1]:=⟨am,am,am,am,am,λs=>am,am,am⟩
theorem p6:ri N m f 6 [(32, .own 114690 m.aa.length),(33,co c)] (.bB 114690 c.toNat []) [ai c m.aa.length] [.tmp 32, .tmp 33]:=⟨am,am,am,am,am,λs=>am,am,am⟩
theorem p7:ri N m (fN N m) 7 [(34, .bB 114690 c.toNat [])] (fN N m c.toNat) [c.toNat<m.aa.length] [.tmp 34]:=⟨am,am,am,am,am,λs=>am,am,am⟩
theorem p8:ri N m f 8 [(2,co id)] (co id) [] [.tmp 2]:=⟨am,am,am,am,am,λs=>am,am,am⟩
theorem p9:ri N m f 9 [(36,co id)] (.seq .leaf 1 (g9 id)) [1*Shape.leaf.size<=16777216] [.tmp 36]:=⟨am,am,am,am,am,λs=>am,am,am⟩
theorem p11:ri N m f 11 [(29, .own 114690 m.aa.length),(30,co c)] (.bB 114690 c.toNat []) [ai c m.aa.length] [.tmp 29, .tmp 30]:=⟨am,am,am,am,am,λs=>am,am,am⟩
theorem p10 (n:Nat) (g h:Nat ->AV):ri N m f 10 [(35, .bN .leaf n g),(37, .seq .leaf 1 h)] (.seq .leaf (n+1) λi=>if i<n then g i else h (i - n)) [0<1/\((n+1:Nat):Int)*(8:Nat)<=140737488355328/\n+1<=9223372036854775807] [.tmp 35, .tmp 37]:=
 ⟨am,am,am,am,am,λs=>am,am,am⟩
def f12 (j:Nat):AV:=if j=c.toNat then ab (m.aa.getD c.toNat []++[id])else fU N m c j
def FY:List (Nat×AV):=[(38,ab (m.aa.getD c.toNat []++[id])),(39, .bB 114690 c.toNat []),(8, .ptr 8 []),(6, .ptr 6 [])]
theorem p12:mN (lr N m 45) (CCN N) (λ_ _=>none) iE.toList ⟨FY m c id,HQ m (fU N m c)⟩ (o8 12)=some (⟨FY m c id,AV.put (HQ m (fU N m c)) 114690 (.row 31 .leaf m.aa.length (f12 N m c id))⟩,[c.toNat<m.aa.length]):=am
theorem sz8:iE.size=13:=am
end
def I8 (c id:Int) (W0:AV.Entry) (F0:Nat ->Prop) (D:Nat ->Bool) (a:Act) (w:World):Prop:=
 z85 iE (λk=>D k=true)/\match D 12 with
 |true=>∃ F φ,Rel (lr N m 45) W0 F0 (S8 (oc m c id)) a w F φ
 |false=>∃ env F φ,Rel (lr N m 45) W0 F0 ⟨env,HQ m (bif D 10 then fU N m c else fN N m)⟩ a w F φ/\(∀ s x,AV.get (S7 N m c id).env s=some x ->AV.get env s=some x)/\
  ∀ i x,D i=true ->(D 10&&(Nat.beq i 7 || Nat.beq i 9))=false ->fx N m c id i=some x ->AV.get env (28+i)=some x
section
variable {N:Nat ->Prop} {m:Mem} {c id:Int} {W0:AV.Entry} {F0:Nat ->Prop} {a:Act} {w:World} {F:Nat ->Prop} {φ:Nat ->AV.Place} {env:List (Nat×AV)} {D:Nat ->Bool} {Q:Exit ->Act ->World ->Prop}
theorem ccE:cP (lr N m 45) (CCN N):=z9a (lr N m 45) (λ_ _ _ _ h=>h)
theorem zg4 {s:Nat} {x:AV} (h:AV.get (S7 N m c id).env s=some x):s<28:=by
 simp[S7,AV.get]at h;grind[xc]
theorem ale {i:Nat} {o:Oper} (h:iE[i]? =some o):o=o8 i:=by unfold o8;rw[h];rfl
theorem zn4 {i:Nat} {o:Oper} (u:z85 iE λk=>D k=true) (x:iE[i]? =some o) (m:∀ e∈o.after.toList,Region.binds .any e=true ->D e.on=true):z85 iE λk=>(D k || Nat.beq k i)=true:=by
 intro k j f h e r s;simp at f ⊢;rcases f with f |f
 . exact .inl (u k j f h e r s)
 . simp_all
theorem zhx {i k:Nat} (h:k≠i):Nat.beq k i=false:=by
 cases e:Nat.beq k i with
 |false=>rfl
 |true=>exact absurd (xc e) h
theorem tB {i:Nat} {o:Oper} (R:o=o8 i) (z:i≠10) (u:i≠12) {l:List (Nat×AV)} {x:AV} {H:List Prop} {f:List Operand} (U:ri N m (bif D 10 then fU N m c else fN N m) i l x H f) (V:fx N m c id i=some x) (j:∀ p∈H,p) (K:D 12=false) (r:z85 iE λk=>(D k || Nat.beq k i)=true)
 (hI:I8 N m c id W0 F0 D a w) (hl:∀ s y,AV.get l s=some y ->AV.get (S7 N m c id).env s=some y∨∃ k,s=28+k/\D k=true/\(D 10&&(Nat.beq k 7 || Nat.beq k 9))=false/\fx N m c id k=some y):
 o.wp Tryz.prog a w (I8 N m c id W0 F0 λk=>D k || Nat.beq k i) Q:=by
 subst R;have⟨_,hI⟩:=hI;rw[K]at hI;have⟨env,F,φ,hR,J,hf⟩:=hI;refine U.go j (NL N m 45) ccE hR (λs y hs=>?_) λenv' a' w' F' φ' hR' h1 h2=>⟨r, ?_⟩
 . rcases hl s y hs with h | ⟨k,rfl,O,k2,M⟩
   . exact J s y h
   . exact hf k y O k2 M
 . have E:(D 10 || Nat.beq 10 i)=D 10:=by rw[zhx (Ne.symm z),Bool.or_false]
   have FY:(D 12 || Nat.beq 12 i)=false:=by rw[zhx (Ne.symm u),Bool.or_false,K]
   simp only[FY,E];refine⟨env',F',φ',hR',λs y hs=>by rw[h2 s (by have :=zg4 hs;omega)];exact J s y hs,λk y hk hk2 hk3=>?_⟩;by_cases e:k=i
   . grind
   . simp_all
end
section
variable {N:Nat ->Prop} {m:Mem} {c id:Int} {W0:AV.Entry} {F0:Nat ->Prop} {a:Act} {w:World} {F:Nat ->Prop} {φ:Nat ->AV.Place} {env:List (Nat×AV)} {D:Nat ->Bool} {K:Act ->World ->Prop} {Q:Exit ->Act ->World ->Prop}
theorem room {P:Program} {t ty e tb:TypeId} {i:TypeInfo} (z:P.underlying t=some (.slice e)) (F:P.info? e=some i) {g n cap:Nat} {cur:Array Value} (H:w.heap[g]? =some (.cells cur tb (0,0))) {r:Addr} {c:Nat} {u:Value} (o:i.size=1) (y:w.cell? (r.add 0)=some u) (E:u.oneCell'=true) (f:n+1<=cap) (h:n+1<=cur.size):
 (Builtin.append_ #[t,t] ty #[.slice (some ⟨g,0,none⟩) n cap, .slice (some r) 1 c]).run P w= .ok (.slice (some ⟨g,0,none⟩) (n+1) cap) (w.setRow g (cur.toList.take n++#[u].toList++cur.toList.drop (n+1)).toArray):=by
 have s:=run_firstCells_some (P:=P) w i.size 1 r 1 c [u] (by rw[o];rfl) (λj v m=>by
  match j,m with
  |0,m=>cases m;exact y)
 have k:=run_storeCells_at (P:=P) g n tb [u] 0 cur w H (by simpa using h) (λv x=>by rw[xz.1 x];exact E);rw[o]at s;simp[Builtin.append_,run_underlying z,sizeOf,typeInfo,F,Builtin.lenOf,f,s,Addr.add_lit,k,o]
theorem zn5 {l:List Int} {v:Value} (h:ay w F v (gK N l)):ay w F v (.bN .leaf l.length λi=> .int .i64 (l.getD i 0))∨
 ∃ g cap k ty,v= .slice (some ⟨g,0,none⟩) l.length cap/\l.length+1<=cap/\0<l.length/\F g/\N g/\w.heap[g]? =some (.cells k ty (0,0))/\cap<=k.size/\∀ i,i<l.length ->k.getD i undef= .int .i64 (l.getD i 0)/\aU .i64 (l.getD i 0):=by
 unfold gK at h;generalize y:(λi=>AV.int .i64 (l.getD i 0))=f at h;generalize K:l.length=n at h ⊢;cases h with
 |im=>subst y;exact .inl (.jL _ _ _)
 |cM _ g o _ cap _ _ k E O M K z s=>
  obtain⟨rfl,R,j,ty,x,e⟩:=M;have e:cap<=j.size:=by have :cap*1<=j.size:=e;omega
  have J:∀ i,i<n ->j.getD i undef= .int .i64 (l.getD i 0)/\aU .i64 (l.getD i 0):=λi u=>by
   have Q:=z i u 0 ap;have r:=s i u 0 ap;subst y;have r:ay w F (k i 0) (.int .i64 (l.getD i 0)):=r;have⟨V,U⟩:=zbj r;have H:w.cell? ⟨g,0+(i*1+0),none⟩=some (k i 0):=Q;rw[xy,jj,wm,oW x ac]at H;exact⟨(gp H).trans V,U⟩
  by_cases m:n+1<=cap
  . exact .inr ⟨g,cap,j,ty,rfl,m,R,E,O,x,e,J⟩
  . obtain rfl:cap=n:=ac;exact .inl (.bN g 0 _ _ _ k E z s)
theorem aha {v:Value} {l:List Int} (h:ay w F v (.seq .leaf (l.length+1) λi=>if i<l.length then co (l.getD i 0)else g9 id (i - l.length))):ay w F v (ab (l++[id])):=by
 unfold ab;rw[show(_++[id]).length=l.length+1 by simp];refine zjt h λi j=>?_;by_cases e:i<l.length
 . rw[x9 e,x7 (l:=l++[id]),ye e,<- x7];exact⟨rfl,rfl,λu f=>f⟩
 . obtain rfl:i=l.length:=ac;rw[x8 e,w9,x7 (l:=l++[id]),y9 (xm _),w9];exact⟨rfl,rfl,λu f=>f⟩
theorem aau {C:bt} {H:List (Nat×aw)} (h:Rel C W0 F0 ⟨env,H⟩ a w F φ) {s:Nat} {v:Value} {y:AV} (hs:a.tmps[s]? =some v) (i:aO w F φ v y):Rel C W0 F0 ⟨AV.put env s y,H⟩ a w F φ:=by
 refine⟨λt z f=>?_,h.heap,h.inj,h.ro,h.base,h.sub,h.new,h.cW,h.fW,h.bZ,h.gY⟩;by_cases e:t=s
 . subst e;simp[zv]at f;grind
 . simp[zb _ _ _ _ e]at f;exact h.env t z f
theorem alf {o:Oper} (ho:o=o8 10) (hM:kW m) (hc:c.toNat<m.aa.length) (hq:(m.aa.getD c.toNat []).length<=1000000) (ch:aU .i64 id) (d2:∀ k,N k ->¬ F0 k) (hL:∀ k,¬ W0.L k) (hA:∀ b,W0.A b=none) (hG:∀ g x,AV.get (GN N) g=some x ->ay W0.w F0 (.pointer (some ⟨g,0,none⟩)) x) (d3:∀ k,F0 k ->k<W0.w.heap.size)
 (hR:Rel (lr N m 45) W0 F0 ⟨env,HQ m (fN N m)⟩ a w F φ) (d4:AV.get env 35=some (fN N m c.toNat)) (b1:AV.get env 37=some (.seq .leaf 1 (g9 id)))
 (hK:∀ R a' w' F' φ',Rel (lr N m 45) W0 F0 ⟨R,HQ m (fU N m c)⟩ a' w' F' φ' ->AV.get R 38=some (ab (m.aa.getD c.toNat []++[id])) ->(∀ s x,s≠35 ->s≠37 ->s≠38 ->AV.get env s=some x ->uf x=true ->AV.get R s=some x) ->K a' w'):o.wp Tryz.prog a w K Q:=by
 subst ho
 have⟨bd,W,M⟩:=hR.env 35 _ d4
 have M:ay w F bd (gK N (m.aa.getD c.toNat [])):=M.lA rfl
 rcases zn5 M with a4 | ⟨g,cap,cs,ty,rfl,J,h0,b0,d1,hh,d7,r⟩
 . refine(p10 N m (fN N m) (m.aa.getD c.toNat []).length (λi=> .int .i64 ((m.aa.getD c.toNat []).getD i 0)) (g9 id)).go (λp hp=>?_) (NL N m 45) ccE (aau hR W (.stat a4)) (λs y hs=>?_) λenv' a' w' F' φ' a9 h1 h2=>?_
   . obtain rfl:=xz.1 hp
     exact⟨ap,by omega,by omega⟩
   . simp only[AV.get]at hs
     split at hs
     . rename_i e
       have :=xc e
       subst this
       cases hs
       exact zv _ _ _
     . split at hs
       . rename_i e
         have :=xc e
         subst this
         cases hs
         rw[zb _ _ _ _ ap];exact b1
       . cases hs
   . have⟨v,hv,hr⟩:=a9.env 38 _ h1
     refine hK _ _ _ _ _ (aau (adk a9 λj V v hv=>?_) hv (.stat (aha (hr.lA rfl)))) (zv _ _ _) λs x a1 a2 a3 hs hx=>?_
     . unfold fU
       by_cases e:j=c.toNat
       . rw[x9 e];exact .any _ (hv.one rfl)
       . rw[x8 e];exact hv
     . rw[zb _ _ _ _ a3,h2 s (by omega),zb _ _ _ _ a1];exact hs
 . have⟨b6,a6,E⟩:=hR.env 37 _ b1
   obtain⟨ad,c2,rfl,a5⟩:∃ ad c2,b6= .slice (some ad) 1 c2/\w.cell? (ad.add 0)=some (.int .i64 id):=by
    have E:=E.lA rfl
    generalize d0:g9 id=gg at E
    cases E with
    |seq g2 o2 _ c2 _ _ U k1 k2 k3 k4=>
     subst d0
     have k5:ay w F (U 0 0) (.int .i64 id):=k4 0 ap 0 ap
     have k6:=k3 0 ap 0 ap
     rw[(zbj k5).1]at k6
     exact⟨_,_,rfl,k6⟩
   obtain⟨te,a7⟩:∃ te,aY (lr N m 45) 3=some te/\te.sh.size=1:=⟨_,rfl,rfl⟩
   have⟨dd,ie,z,d8,c3,bk,_⟩:=(NL N m 45 _ _ a7.1).info
   have H:=room (w:=w) (P:=Tryz.prog) (ty:=(o8 10).type) (t:=31) Tryz.underlying31 c3 hh (bk.trans a7.2) a5 rfl J (show(m.aa.getD c.toNat []).length+1<=cs.size by omega) (c:=c2)
   have d5:∀ {v':Value} {w':World},(Builtin.append_ #[31,31] (o8 10).type #[a.eval (.tmp 35),a.eval (.tmp 37)]).run Tryz.prog w= .ok v' w' ->K (a.put (some 38) v') w' ->(o8 10).wp Tryz.prog a w K Q:=by
    intro v' w' H c0
    unfold Oper.wp
    have :(execOp a.eval (o8 10)).run Tryz.prog w= .ok (.value v') w':=by
     refine YV (C:=lr N m 45) (c:=⟨.builtin .append,#[.tmp 35, .tmp 37],#[31,31]⟩) (b:= .append) am rfl ?_
     simp only[builtin,Sem.run_bind]
     have :(#[Operand.tmp 35, .tmp 37].map a.eval)=#[a.eval (.tmp 35),a.eval (.tmp 37)]:=by simp
     rw[this]
     show((Builtin.append_ #[31,31] (o8 10).type #[a.eval (.tmp 35),a.eval (.tmp 37)]).run Tryz.prog w).andThen _=_
     rw[H]
     rfl
    rw[this]
    have hd:(o8 10).dst=some 38:=am
    show K (a.put (o8 10).dst v') w'
    rw[hd]
    exact c0
   have ev:∀ {t:Nat} {v:Value},a.tmps[t]? =some v ->a.eval (.tmp t)=v:=λh=>by
    show a.tmps.getD _ undef=_
    rw[xb,h];rfl
   refine d5 (by rw[ev W,ev a6];exact H) ?_
   have a8:=z7m (cur:=cs) (new:=#[Value.int .i64 id]) (off:=(m.aa.getD c.toNat []).length) (n:=1) rfl (by omega)
   have bh:=z68 (cur:=cs) (new:=#[Value.int .i64 id]) (off:=(m.aa.getD c.toNat []).length) (n:=1) rfl (by omega)
   generalize d6:(cs.toList.take (m.aa.getD c.toNat []).length++#[Value.int .i64 id].toList++cs.toList.drop ((m.aa.getD c.toNat []).length+1)).toArray=b4 at a8 bh
   have Z:=setRow_heap w g cs b4 ty (0,0) hh
   refine hK _ _ _ _ _ (aer (c:=c) (x:=ab (m.aa.getD c.toNat []++[id])) hR hL hA hG d3 b0 (d2 g d1) (λj V c1 u Y=>?_) ?_) (zv _ _ _) λs x a1 a2 a3 hs hx=>?_
   . have Y:ay w F u (gK N (m.aa.getD j [])):=Y
     show ay _ F u (gK N (m.aa.getD j []))
     have O:=λh1=>zuv hM c1 V hc h1 h0
     unfold gK at Y ⊢
     generalize m.aa.getD j []=lj at Y O ⊢
     generalize hf:(λi=>AV.int .i64 (lj.getD i 0))=f at Y ⊢
     generalize hn:lj.length=n at Y ⊢ O
     cases Y with
     |im=>exact .im _ _ _
     |cM _ g2 o2 _ b5 _ _ U k1 k2 k3 k4 k5 k6=>
      subst hf
      have X:g2≠g:=λe=>by
       subst e
       obtain⟨rfl,a0,_⟩:=k3
       have e1:=k5 0 a0 0 ap
       have e2:ay w F (U 0 0) (.int .i64 (lj.getD 0 0)):=k6 0 a0 0 ap
       have e3:w.cell? ⟨g2,0,none⟩=some (U 0 0):=e1
       rw[oW hh (by omega),(r 0 h0).1,(zbj e2).1]at e3
       exact O a0 (Value.int.inj (gp e3)).2.symm
      exact .cM N g2 o2 n b5 .leaf (λi=> .int .i64 (lj.getD i 0)) U k1 k2 (by rw[tG X];exact k3) k4 (λi hi j V=>(World.cell?_of_block (tG X)).trans (k5 i hi j V)) λi hi j V=>zg3 (k6 i hi j V) rfl
   . unfold ab
     rw[show(m.aa.getD c.toNat []++[id]).length=(m.aa.getD c.toNat []).length+1 by simp]
     refine .seq g 0 _ cap .leaf _ (λi _=>b4.getD i undef) b0 J (λi hi j V=>?_) λi hi j V=>?_
     . obtain rfl:j=0:=by have :j<1:=V;omega
       show World.cell? _ ⟨g,0+(i*1+0),none⟩=_
       rw[xy,jj,wm]
       exact oW Z (by omega)
     . rw[a8 i]
       show ay _ F _ (.int .i64 ((m.aa.getD c.toNat []++[id]).getD i 0))
       by_cases e:i<(m.aa.getD c.toNat []).length
       . rw[x8 (by omega),(r i e).1,x7 (l:=_++[id]),ye e,<- x7]
         exact .int _ _ (r i e).2
       . obtain rfl:i=(m.aa.getD c.toNat []).length:=by omega
         rw[x9 (by omega),w9,x7 (l:=_++[id]),y9 (xm _),w9]
         exact .int _ _ ch
   . rw[zb _ _ _ _ a3];exact zsc hx hs
end
theorem uJ {t s:Nat} {z y:AV} (h:AV.get [(t,z)] s=some y):s=t/\y=z:=by grind[AV.get,xc]
theorem zjw {t f s:Nat} {z e y:AV} (h:AV.get [(t,z),(f,e)] s=some y):(s=t/\y=z)∨s=f/\y=e:=by grind[AV.get,xc]
theorem zv0 {w:World} {F:Nat ->Prop} {N:Nat ->Prop} {v:Value} {l:List Int} (h:ay w F v (gK N l)):ay w F v (ab l):=by
 unfold gK at h;unfold ab;generalize l.length=n at h ⊢;cases h with
 |im=>exact .db _ _ _ _
 |cM _ g o _ cap _ _ k j _ _ f i e=>exact .seq g o _ _ .leaf _ k j f i e
theorem adn {C:bt} {W0:AV.Entry} {F0:Nat ->Prop} {env l:List (Nat×AV)} {H:List (Nat×aw)} {a:Act} {w:World} {F:Nat ->Prop} {φ:Nat ->AV.Place} (h:Rel C W0 F0 ⟨env,H⟩ a w F φ) (hl:∀ s x,AV.get l s=some x ->AV.get env s=some x):Rel C W0 F0 ⟨l,H⟩ a w F φ:=
 ⟨λs x hs=>h.env s x (hl s x hs),h.heap,h.inj,h.ro,h.base,h.sub,h.new,h.cW,h.fW,h.bZ,h.gY⟩
section
variable {N:Nat ->Prop} {m:Mem} {c id:Int} {W0:AV.Entry} {F0:Nat ->Prop} {a:Act} {w:World} {F:Nat ->Prop} {φ:Nat ->AV.Place} {D:Nat ->Bool} {Q:Exit ->Act ->World ->Prop}
theorem aib {s:Nat} {x:AV} (h:AV.get (S7 N m c id).env s=some x):uf x=true:=by
 simp[S7,AV.get]at h;repeat' split at h
 all_goals (cases h;try rfl)
theorem am5 {k:Nat} {y:AV} (h:fx N m c id k=some y) (f:k≠7) (h2:k≠9) (e:k≠10):uf y=true:=by
 unfold fx at h;split at h;all_goals first
  |cases h;rfl
  |cases h;done
  |exact absurd rfl f
  |exact absurd rfl h2
  |exact absurd rfl e
theorem akv {f f':Nat ->AV} (b:Nat):AV.get (AV.put (HQ m f) 114690 (.row 31 .leaf m.aa.length f')) b=AV.get (HQ m f') b:=by
 by_cases e:b=114690
 . subst e;rw[zv];rfl
 . rw[zb _ _ _ _ e];simp[HQ,AV.get,zhx (Ne.symm e)]
theorem ao1 (hM:kW m) (W:0<=c) (R:c.toNat<m.aa.length) (hq:(m.aa.getD c.toNat []).length<=1000000) (V:aU .i64 id) (X:∀ k,N k ->¬ F0 k) (hL:∀ k,¬ W0.L k) (hA:∀ b,W0.A b=none) (hG:∀ g x,AV.get (GN N) g=some x ->ay W0.w F0 (.pointer (some ⟨g,0,none⟩)) x) (Y:∀ k,F0 k ->k<W0.w.heap.size)
 {i:Nat} {o:Oper} (O:iE[i]? =some o) (u:D i=false) (H:∀ e∈o.after.toList,Region.binds .any e=true ->D e.on=true) (r:I8 N m c id W0 F0 D a w):o.guard=none/\o.wp Tryz.prog a w (I8 N m c id W0 F0 λk=>D k || Nat.beq k i) Q:=by
 have hi:i<13:=by rw[<- sz8];exact(xi.1 O).1
 have f:=zn4 r.1 O H;have an:=Pg r.1 i o O H;have z:∀ k,iE[k]? =some (o8 k) ->((nJ iE.toList []).getD k 0).testBit i=true ->D k=false:=λk ho' hb=>by
  cases hk:D k with
  |false=>rfl
  |true=>
   have :=Pg r.1 k _ ho' (r.1 k _ hk ho') i hb;rw[u]at this;cases this
 have eo:=ale O;have ok:∀ k,(Nat.beq k 7 || Nat.beq k 9)=false ->(D 10&&(Nat.beq k 7 || Nat.beq k 9))=false:=λk h=>by rw[h,Bool.and_false]
 have ix:∀ p∈[ai c m.aa.length],p:=λp hp=>by rw[xz.1 hp];exact⟨W,ac⟩
 have M:D 10=false ->(bif D 10 then fU N m c else fN N m)=fN N m:=λh=>by rw[h];rfl
 match i,hi with
 |0,_=>exact⟨by rw[eo];kernel_rfl,tB eo ap ap (p0 N m _) rfl be (z 12 am am) f r λs y hs=>by obtain⟨rfl,rfl⟩:=uJ hs;exact .inl rfl⟩
 |1,_=>exact⟨by rw[eo];kernel_rfl,tB eo ap ap (p1 N m _) rfl be (z 12 am am) f r λs y hs=>by obtain⟨rfl,rfl⟩:=uJ hs;exact .inr ⟨0,rfl,an 0 am,ok 0 rfl,rfl⟩⟩
 |2,_=>exact⟨by rw[eo];kernel_rfl,tB eo ap ap (p2 N m c _) rfl be (z 12 am am) f r λs y hs=>by obtain⟨rfl,rfl⟩:=uJ hs;exact .inl rfl⟩
 |3,_=>exact⟨by rw[eo];kernel_rfl,tB eo ap ap (p3 N m _) rfl be (z 12 am am) f r λs y hs=>by obtain⟨rfl,rfl⟩:=uJ hs;exact .inl rfl⟩
 |4,_=>exact⟨by rw[eo];kernel_rfl,tB eo ap ap (p4 N m _) rfl be (z 12 am am) f r λs y hs=>by obtain⟨rfl,rfl⟩:=uJ hs;exact .inr ⟨3,rfl,an 3 am,ok 3 rfl,rfl⟩⟩
 |5,_=>exact⟨by rw[eo];kernel_rfl,tB eo ap ap (p5 N m c _) rfl be (z 12 am am) f r λs y hs=>by obtain⟨rfl,rfl⟩:=uJ hs;exact .inl rfl⟩
 |6,_=>exact⟨by rw[eo];kernel_rfl,tB eo ap ap (p6 N m c _) rfl ix (z 12 am am) f r λs y hs=>by
  rcases zjw hs with⟨rfl,rfl⟩ | ⟨rfl,rfl⟩
  . exact .inr ⟨4,rfl,an 4 am,ok 4 rfl,rfl⟩
  . exact .inr ⟨5,rfl,an 5 am,ok 5 rfl,rfl⟩⟩
 |7,_=>exact⟨by rw[eo];kernel_rfl,tB eo ap ap (by rw[M (z 10 am am)];exact p7 N m c) rfl (λp hp=>by rw[xz.1 hp];exact R) (z 12 am am) f r λs y hs=>by obtain⟨rfl,rfl⟩:=uJ hs;exact .inr ⟨6,rfl,an 6 am,ok 6 rfl,rfl⟩⟩
 |8,_=>exact⟨by rw[eo];kernel_rfl,tB eo ap ap (p8 N m id _) rfl be (z 12 am am) f r λs y hs=>by obtain⟨rfl,rfl⟩:=uJ hs;exact .inl rfl⟩
 |9,_=>exact⟨by rw[eo];kernel_rfl,tB eo ap ap (p9 N m id _) rfl (λp hp=>by rw[xz.1 hp];decide) (z 12 am am) f r λs y hs=>by obtain⟨rfl,rfl⟩:=uJ hs;exact .inr ⟨8,rfl,an 8 am,ok 8 rfl,rfl⟩⟩
 |11,_=>exact⟨by rw[eo];kernel_rfl,tB eo ap ap (p11 N m c _) rfl ix (z 12 am am) f r λs y hs=>by
  rcases zjw hs with⟨rfl,rfl⟩ | ⟨rfl,rfl⟩
  . exact .inr ⟨1,rfl,an 1 am,ok 1 rfl,rfl⟩
  . exact .inr ⟨2,rfl,an 2 am,ok 2 rfl,rfl⟩⟩
 |10,_=>
  refine⟨by rw[eo];kernel_rfl, ?_⟩;have h12:=z 12 am am;have r:=r.2;rw[h12]at r;have⟨env,F,φ,J,hb,hf⟩:=r;rw[M u]at J;refine alf eo hM R hq V X hL hA hG Y J (hf 7 _ (an 7 am) (by rw[u];rfl) rfl) (hf 9 _ (an 9 am) (by rw[u];rfl) rfl) λenv' a' w' F' φ' hR' h1 h2=>⟨f, ?_⟩;have e:(D 12 || Nat.beq 12 10)=false:=by rw[h12];rfl
  have e2:(D 10 || Nat.beq 10 10)=true:=by rw[u];rfl
  simp only[e,e2];refine⟨env',F',φ',hR',λs y hs=>h2 s y (by have :=zg4 hs;omega) (by have :=zg4 hs;omega) (by have :=zg4 hs;omega) (hb s y hs) (aib hs),λk y hk hk2 hk3=>?_⟩;by_cases e10:k=10
  . subst e10;cases hk3;exact h1
  . rw[zhx e10,Bool.or_false]at hk;have Z:k≠7:=λe=>by subst e;cases hk2
    have n9:k≠9:=λe=>by subst e;cases hk2
    exact h2 (28+k) y ac ac ac (hf k y hk (by rw[u];rfl) hk3) (am5 hk3 Z n9 e10)
 |12,_=>
  refine⟨by rw[eo];kernel_rfl, ?_⟩;have E:=an 10 am;have r:=r.2;rw[u]at r;have⟨env,F,φ,J,hb,hf⟩:=r;simp only[E,cond_true]at J;have hS:Rel (lr N m 45) W0 F0 ⟨FY m c id,HQ m (fU N m c)⟩ a w F φ:=adn J λs x hs=>by
   simp only[FY,AV.get]at hs;repeat' split at hs
   . rename_i e;have :=xc e;subst this;cases hs;exact hf 10 _ E (by rw[E];rfl) rfl
   . rename_i e;have :=xc e;subst this;cases hs;exact hf 11 _ (an 11 am) (by rw[E];rfl) rfl
   . rename_i e;have :=xc e;subst this;cases hs;exact hb 8 _ rfl
   . rename_i e;have :=xc e;subst this;cases hs;exact hb 6 _ rfl
   . cases hs
  rw[eo];have :=Vw (Q:=Q) (ops:=iE) (K:=I8 N m c id W0 F0 λk=>D k || Nat.beq k 12) hS (NL N m 45) ccE (p12 N m c id) (λp hp=>by rw[xz.1 hp];exact R) λa' w' F' φ' hR'=>⟨f,by
   have e:(D 12 || Nat.beq 12 12)=true:=by rw[u];rfl
   simp only[e];refine⟨F',φ', ?_⟩;have h1:Rel (lr N m 45) W0 F0 ⟨FY m c id,HQ m (f12 N m c id)⟩ a' w' F' φ':=hR'.alike (λ_=>rfl) λb=>(akv b).symm;have h2:=adk (f':=λj=>ab ((oc m c id).aa.getD j [])) h1 λj hj v hv=>by
    have hv:ay w' F' v (f12 N m c id j):=by
     have :z6 .leaf (f12 N m c id j) 0=f12 N m c id j:=by
      unfold f12 fU;split
      . rfl
      . rfl
     rw[this]at hv;exact hv
    show ay _ _ _ (ab ((m.aa.set c.toNat (m.aa.getD c.toNat []++[id])).getD j []));unfold f12 fU at hv;by_cases U:j=c.toNat
    . subst U;rw[x9 rfl]at hv;rw[x7 (l:=m.aa.set _ _),List.getElem?_set_self R];exact hv
    . rw[x8 U,x8 U]at hv;rw[x7 (l:=m.aa.set _ _),List.getElem?_set_ne (Ne.symm U),<- x7];exact zv0 hv
   have h3:=adn (l:=[(8, .ptr 8 []),(6, .ptr 6 [])]) h2 λs x hs=>by
    rcases zjw hs with⟨rfl,rfl⟩ | ⟨rfl,rfl⟩<;>rfl
   have el:HQ (oc m c id)=HQ m:=by unfold HQ acb oc;simp only[wc]
   unfold S8;rw[el];exact h3⟩
  rw[x9 (by rw[Region.wanted];rfl)]at this;exact this
theorem aid (R:kW m) (u:0<=c) (Q:c.toNat<m.aa.length) (M:(m.aa.getD c.toNat []).length<=1000000) (r:aU .i64 id) (y:∀ k,N k ->¬ F0 k) (U:∀ k,¬ W0.L k) (W:∀ b,W0.A b=none) (V:∀ g x,AV.get (GN N) g=some x ->ay W0.w F0 (.pointer (some ⟨g,0,none⟩)) x) (E:∀ k,F0 k ->k<W0.w.heap.size)
 (J:Rel (lr N m 45) W0 F0 (S7 N m c id) a w F φ):(Code.region 8 iE true).wp Tryz.prog (λe X K=>e= .normal/\∃ F φ,Rel (lr N m 45) W0 F0 (S8 (oc m c id)) X K F φ) a w:=by
 refine zux (I8 N m c id W0 F0) am ⟨λk o f=>(by cases f), ?_⟩ (λD i o a w O H s z=>ao1 R u Q M r y U W V E O H s z) λD a w j z=>⟨rfl, ?_⟩
 . exact⟨_,F,φ,J.grown ⟨rfl,rfl,rfl,xm _,λ_ _=>rfl⟩ (λ_ f=>f) (λ_ f=> .inl f) J.ro,λ_ _ h=>h,λi x h=>by cases h⟩
 . have h:=z.2;rw[j 12 (by rw[sz8];decide)]at h;exact h
end
theorem eqB:Tryz.f156.body=some zR:=am
theorem aog:Bp:=λm c id hm=> .inl ⟨iJ.of (fn:=Tryz.f156) Tryz.func156 am am,λw F vs hro hgl hsz hr=>by
 obtain⟨N,hN⟩:∃ N:Nat ->Prop,N=λk=>¬ F k:=⟨_,rfl⟩;have hglN:∀ g x,AV.get (GN N) g=some x ->ay w F (.pointer (some ⟨g,0,none⟩)) x:=λg x hg=>by
  simp only[GN,AV.get]at hg;split at hg
  . cases hg;exact .lh _ _ rfl λk=>by rw[hN];exact Classical.em (F k)
  . exact hgl g x hg
 have hid:aU .i64 id:=(zbj (hr 2 (show 2<3 by decide))).2;have hR:=Rel.start (C:=lr N m 45) (fn:=Tryz.f156) (args:=[vM m,co c,co id]) am (show 3<=45 by decide) hro hglN hsz hr;have s3:=hm.aa;have fin:∀ {a':Act} {w':World} {F':Nat ->Prop} {φ':Nat ->AV.Place},Rel (lr N m 45) (.of w) F (SR m c id) a' w' F' φ' ->bodyPost Tryz.prog Tryz.f156 (λen w'=>∃ v F',en= .returned v/\Below w.heap.size w w'/\(∀ k,F k ->F' k)/\(∀ k,F' k ->F k∨w.heap.size<=k)/\(∀ k,F' k ->k<w'.heap.size)/\dU w' F' v (.ax [vM (b9 m c id).1,co (b9 m c id).2])) .ret a' w':=λhR=>⟨hR.cW,zkg (V:=vEr N m c id 45 λ_=>[]) (fn:=Tryz.f156) (r:= .ax [vM (b9 m c id).1,co (b9 m c id).2]) (NL N m 45) hR (by
  have e:(match znt (lr N m 45) (SR m c id) Tryz.f156.results.toList with |some (x,ps)=>kv ps (AV.kJ [] [] x (.ax [vM (b9 m c id).1, .int .i64 (b9 m c id).2])).P |none=>False)=(AV.kJ [] [] (.ax [vM (b9 m c id).1, .int .i64 (b9 m c id).2]) (.ax [vM (b9 m c id).1, .int .i64 (b9 m c id).2])).P:=am;exact Eq.mpr e (le_refl _ _ _))⟩
 refine calls_of_wp Tryz.func156 eqB (zs9 (V:=vEr N m c id 45 λ_=>[]) (NL N m 45) ccE (λ_=>rfl) 4 zR ⟨z87 0 [vM m,co c,co id],[]⟩ (pW (some (cx m=true/\bM m c m.aa.length=0/\¬ id<0,S7 N m c id)) none (some (True,SR m c id))) _ _ _ _ (alm N m c id hm) hR ?_);rintro e st' a' w' F' φ' h1 h2;cases e with
 |normal=>
  have⟨⟨hfm,hins,hlt⟩,hle⟩:=h2;have⟨φ2,hR2⟩:=h1.weaken hle;have hc:=ma hins;have hq:=hm.q c.toNat;show(B8 4 zR).wp Tryz.prog _ a' w';rw[alg];refine wp_seq (wp_mono (aid (yT.1 hfm) ac ac ac hid (λk hk=>by rw[hN]at hk;exact hk) (λ_ h=>h) (λ_=>rfl) hglN hro hR2) ?_);rintro e a3 w3 ⟨rfl,F3,φ3,hR3⟩;refine wp_mono (z98 (V:=vEr N m c id 45 fzR) (NL N m 45) ccE (B8 5 zR) (S8 (oc m c id)) (pW none none (some (True,SR m c id))) _ _ _ _ (alr N m c id hm hfm hins hlt) hR3) ?_;rintro e a4 w4 ⟨st4,F4,φ4,hR4,hq4⟩;cases e with
  |ret=>
   have⟨φ5,hR5⟩:=hR4.weaken hq4.2;exact fin hR5
  |_=>exact hq4.elim
 |ret=>
  have⟨φ2,hR2⟩:=h1.weaken h2.2;exact fin hR2
 |_=>exact h2.elim⟩
end Go.Proofs.S25
