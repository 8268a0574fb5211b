import Derived.Test.YtcfagpelpjdmaaaGreatDoorXh
namespace Go.AV
open Go.RowKit
def inN (b:Nat):List Nat ->Bool
 | []=>false
 |k::l=>Nat.beq k b || inN b l
def z86:List Nat ->Bool
 | []=>true
 |k::l=>!inN k l&&z86 l
theorem z4m {b:Nat}:∀ {l:List Nat},inN b l=true↔b∈l
 | []=>by simp[inN]
 |k::l=>by
  simp only[inN,Bool.or_eq_true,z4m (l:=l),List.mem_cons]
  constructor
  . rintro(h |h)
    . exact .inl (Nat.eq_of_beq_eq_true h).symm
    . exact .inr h
  . rintro(rfl |h)
    . exact .inl (Nat.beq_refl b)
    . exact .inr h
def z2l (ks:List Nat):List (Nat×BoxC) ->List (Nat×BoxC)
 | []=>[]
 | (k,c)::l=>match inN k ks with |true=>(k,c)::z2l ks l |false=>z2l ks l
def z38 (ks:List Nat):List (Nat×BoxC) ->List (Nat×BoxC)
 | []=>[]
 | (k,c)::l=>match inN k ks with |true=>z38 ks l |false=>(k,c)::z38 ks l
theorem z4d {ks:List Nat} {b:Nat} {c:BoxC}:∀ {l:List (Nat×BoxC)},get (z2l ks l) b=some c ->get l b=some c/\b∈ks
 | [],h=>by simp[z2l,get]at h
 | (k,d)::l,h=>by
  simp only[z2l]at h
  split at h
  . rename_i hk
    simp only[get]at h ⊢
    split at h
    . rename_i e
      cases h
      exact⟨rfl,Nat.eq_of_beq_eq_true e ▸ z4m.1 hk⟩
    . exact z4d h
  . rename_i hk
    obtain⟨h1,h2⟩:=z4d h
    refine⟨?_,h2⟩
    simp only[get]
    split
    . rename_i e
      rw[Nat.eq_of_beq_eq_true e]at hk
      rw[z4m.2 h2]at hk;cases hk
    . exact h1
theorem z1e {ks:List Nat} {b:Nat} {c:BoxC}:∀ {l:List (Nat×BoxC)},get (z38 ks l) b=some c ->get l b=some c/\b∉ks
 | [],h=>by simp[z38,get]at h
 | (k,d)::l,h=>by
  simp only[z38]at h
  split at h
  . rename_i hk
    obtain⟨h1,h2⟩:=z1e h
    refine⟨?_,h2⟩
    simp only[get]
    split
    . rename_i e
      rw[Nat.eq_of_beq_eq_true e]at hk
      exact absurd (z4m.1 hk) h2
    . exact h1
  . rename_i hk
    simp only[get]at h ⊢
    split at h
    . rename_i e
      cases h
      refine⟨rfl,fun hm=>?_⟩
      rw[Nat.eq_of_beq_eq_true e,z4m.2 hm]at hk;cases hk
    . exact z1e h
mutual
def AV.boxes:AV ->List Nat
 | .own b _ | .ptr b _ | .optr b _ _ | .ownx b _ _ _=>[b]
 | .agg l | .tup l=>AV.boxesL l
 | .mc _ x=>x.boxes
 |_=>[]
def AV.boxesL:List AV ->List Nat
 | []=>[]
 |x::l=>x.boxes++AV.boxesL l
end
def nthN:List Nat ->Nat ->Option Nat
 | [],_=>none
 |k::_,0=>some k
 |_::l,i+1=>nthN l i
def nameL (ns:List Nat) (d i:Nat):Nat:=match nthN ns i with |some b=>b |none=>(d+1)*4096+(i - ns.length)
section
variable {C:Cfg} {W0:Entry} {F0:Nat ->Prop} {st st':St} {a:Act} {w:World} {F:Nat ->Prop} {φ:Nat ->Place} {CC:FuncId ->List AV ->AV ->Prop} {o:Oper} {orc:FuncId ->List AV ->Option AV}
 {Q:Exit ->Act ->World ->Prop}
theorem Rel.setHeap (h:Rel C W0 F0 st a w F φ) {H:List (Nat×BoxC)} (hok:∀ b c,get H b=some c ->z24 w F φ W0.B b c)
 (hinj:∀ b b' c c' g,get H b=some c ->get H b'=some c' ->(φ b).blk=some g ->(φ b').blk=some g ->b=b')
 (hanc:∀ b p c,W0.A b=some p ->get H b=some c ->c.isRow=false):Rel C W0 F0 {st with heap:=H} a w F φ:=
 ⟨h.env,hok,hinj,h.ro,h.base,h.sub,h.new,h.dfr,h.tsz,h.glob,fun b p hb=>⟨(h.anc b p hb).1,(h.anc b p hb).2.1,fun c hc=>hanc b p c hb hc⟩⟩
end
end Go.AV
namespace Go.AV
open Go.RowKit
def frzE (h:AV ->Option (AV×List Prop)):List (Nat×AV) ->List (Nat×AV)×List Prop
 | []=>([],[])
 | (k,x)::l=>match frzE h l with
  | (m,qs)=>match x.isStat with
   |true=>((k,x)::m,qs)
   |false=>match h x with
    |some (y,ps)=>((k,y)::m,ps++qs)
    |none=>((k,x)::m,qs)
def zv1 (h:List (Nat×BoxC)):List Nat ->Bool
 | []=>true
 |b::l=>(match get h b with |some c=>c.isRow |none=>false)&&zv1 h l
def frzH (h:AV ->Option (AV×List Prop)):List (Nat×BoxC) ->List (Nat×BoxC)×List Prop
 | []=>([],[])
 | (k, .cell tc sh x)::l=>match frzH h l with
  | (m,qs)=>match x.isStat with
   |true=>((k, .cell tc sh x)::m,qs)
   |false=>match h x with
    |some (y,ps)=>((k, .cell tc sh y)::m,ps++qs)
    |none=>((k, .cell tc sh x)::m,qs)
 | (k,c)::l=>match frzH h l with
  | (m,qs)=>((k,c)::m,qs)
def frzSt (C:Cfg) (ns:List Nat) (st:St):Option (St×List Prop):=
 match zv1 st.heap ns,frzE (frz (z2l ns st.heap)) st.env,frzH (frz (z2l ns st.heap)) (z38 ns st.heap)with
 |true,(env,ps),(hp,qs)=>some (⟨env,hp⟩,ps++qs)
 |false,_,_=>none
def z1db (h:List (Nat×BoxC)) (b:Nat):Bool:=match get h b with |some c=>c.isRow |none=>false
def zez (h:List (Nat×BoxC)):List Nat ->List Nat
 | []=>[]
 |b::l=>match z1db h b with
  |true=>b::zez h l
  |false=>zez h l
def frzT (C:Cfg) (ns:List Nat) (st:St):St×List Prop:=match frzSt C (zez st.heap ns) st with
 |some r=>r
 |none=>(st,[])
def z13u:Op ->List Operand
 | .buildSlice _ _ parts=>parts.toList.map (·.2)
 | .store _ _ x=>[x]
 | .call c=>c.args.toList
 |_=>[]
def znr (C:Cfg) (CC:FuncId ->List AV ->AV ->Prop) (orc:FuncId ->List AV ->Option AV) (st:St) (o:Oper):Option (St×List Prop):=
 match o.guard,z13u o.op with
 |none,x::l=>match z3i (ev C st) (x::l)with
  |some vs=>match frzSt C (AV.boxesL vs) st with
   |some (st1,ps)=>match z30 C CC orc [] st1 o with
    |some (st',qs)=>some (st',ps++qs)
    |none=>none
   |none=>none
  |none=>none
 |_,_=>none
section
variable {C:Cfg} {W0:Entry} {F0:Nat ->Prop} {st st':St} {a:Act} {w:World} {F:Nat ->Prop} {φ:Nat ->Place} {CC:FuncId ->List AV ->AV ->Prop} {o:Oper} {Q:Exit ->Act ->World ->Prop}
theorem zkc {h:AV ->Option (AV×List Prop)}:∀ {l m:List (Nat×AV)} {ps:List Prop} {s:Nat} {y:AV},frzE h l=(m,ps) ->(∀ p∈ps,p) ->get m s=some y ->
 ∃ x,get l s=some x/\(y=x∨∃ qs,h x=some (y,qs)/\∀ p∈qs,p)
 | [],m,ps,s,y,he,_,hm=>by
  simp only[frzE]at he
  cases he
  simp[get]at hm
 | (k,x)::l,m,ps,s,y,he,hps,hm=>by
  simp only[frzE]at he
  obtain⟨m',qs',hrec⟩:∃ m' qs',frzE h l=(m',qs'):=⟨_,_,rfl⟩
  rw[hrec]at he
  simp only at he
  have rest:∀ {z:AV},(∀ p∈qs',p) ->get ((k,z)::m') s=some y ->(Nat.beq k s=true/\y=z)∨∃ x',get l s=some x'/\Nat.beq k s=false/\(y=x'∨∃ qs,h x'=some (y,qs)/\∀ p∈qs,p):=by
   intro z hq hg
   simp only[get]at hg
   split at hg
   . grind
   . rename_i e
     obtain⟨x',h1,h2⟩:=zkc hrec hq hg
     exact .inr ⟨x',h1,e,h2⟩
  have fin:∀ {z:AV},(∀ p∈qs',p) ->get ((k,z)::m') s=some y ->(z=x∨∃ qs,h x=some (z,qs)/\∀ p∈qs,p) ->∃ x',get ((k,x)::l) s=some x'/\(y=x'∨∃ qs,h x'=some (y,qs)/\∀ p∈qs,p):=by
   intro z hq hg hz
   rcases rest hq hg with⟨e,rfl⟩ | ⟨x',h1,e,h2⟩
   . exact⟨x,by simp only[get,e],hz⟩
   . exact⟨x',by simp only[get,e];exact h1,h2⟩
  split at he
  . grind
  . split at he
    . rename_i y' ps' hf
      cases he
      exact fin (fun p hp=>hps p (List.mem_append.2 (.inr hp))) hm (.inr ⟨ps',hf,fun p hp=>hps p (List.mem_append.2 (.inl hp))⟩)
    grind
theorem zf1 {h:AV ->Option (AV×List Prop)}:∀ {l m:List (Nat×BoxC)} {ps:List Prop} {s:Nat} {c:BoxC},frzH h l=(m,ps) ->(∀ p∈ps,p) ->get m s=some c ->
 ∃ d,get l s=some d/\(c=d∨∃ tc sh x y qs,d= .cell tc sh x/\c= .cell tc sh y/\h x=some (y,qs)/\∀ p∈qs,p)
 | [],m,ps,s,c,he,_,hm=>by
  simp only[frzH]at he
  cases he
  simp[get]at hm
 | (k,d)::l,m,ps,s,c,he,hps,hm=>by
  obtain⟨m',qs',hrec⟩:∃ m' qs',frzH h l=(m',qs'):=⟨_,_,rfl⟩
  have fin:∀ {z:BoxC},(∀ p∈qs',p) ->get ((k,z)::m') s=some c ->(z=d∨∃ tc sh x y qs,d= .cell tc sh x/\z= .cell tc sh y/\h x=some (y,qs)/\∀ p∈qs,p) ->
   ∃ d',get ((k,d)::l) s=some d'/\(c=d'∨∃ tc sh x y qs,d'= .cell tc sh x/\c= .cell tc sh y/\h x=some (y,qs)/\∀ p∈qs,p):=by
   intro z hq hg hz
   simp only[get]at hg
   split at hg
   . rename_i e
     cases hg
     exact⟨d,by simp only[get,e],hz⟩
   . rename_i e
     obtain⟨d',h1,h2⟩:=zf1 hrec hq hg
     exact⟨d',by simp only[get,e];exact h1,h2⟩
  cases d with
  |row ty sh n f=>
   simp only[frzH,hrec]at he
   grind
  |cell tc sh x=>
   simp only[frzH,hrec]at he
   split at he
   . grind
   . split at he
     . rename_i y' ps' hf
       cases he
       exact fin (fun p hp=>hps p (List.mem_append.2 (.inr hp))) hm (.inr ⟨tc,sh,x,y',ps',rfl,rfl,hf,fun p hp=>hps p (List.mem_append.2 (.inl hp))⟩)
     grind
theorem Rel.frzSt (h:Rel C W0 F0 st a w F φ) {ns:List Nat} {st1:St} {ps:List Prop} (hs:Go.AV.frzSt C ns st=some (st1,ps)) (hps:∀ p∈ps,p):
 ∃ F',Rel C W0 F0 st1 a w F' φ:=by
 unfold Go.AV.frzSt at hs
 split at hs
 case h_2=>cases hs
 rename_i env ps' hp qs' hr he hhp
 cases hs
 have hpsE:∀ p∈ps',p:=fun p hq=>hps p (List.mem_append.2 (.inl hq))
 have hpsH:∀ p∈qs',p:=fun p hq=>hps p (List.mem_append.2 (.inr hq))
 have hsel:∀ b c,get (z2l ns st.heap) b=some c ->get st.heap b=some c/\b∈ns:=fun b c hb=>z4d hb
 have hR:Rel C W0 F0 {st with heap:=z2l ns st.heap} a w F φ:=h.setHeap (fun b c hb=>h.heap b c (hsel b c hb).1)
  (fun b b' c c' g h1 h2=>h.inj b b' c c' g (hsel b c h1).1 (hsel b' c' h2).1) fun b p c hb hc=>(h.anc b p hb).2.2 c (hsel b c hc).1
 have hsub:∀ k,F k ->Lent {st with heap:=z2l ns st.heap} F φ k:=fun k hk=> .inl hk
 have hlt:∀ k,Lent {st with heap:=z2l ns st.heap} F φ k ->F k∨∃ b c,b∈ns/\get st.heap b=some c/\(φ b).blk=some k:=fun k hk=>by
  rcases hk with hk | ⟨b,c,hb,hg⟩
  . exact .inl hk
  . exact .inr ⟨b,c,(hsel b c hb).2,(hsel b c hb).1,hg⟩
 have hval:∀ x y qs,frz (z2l ns st.heap) x=some (y,qs) ->(∀ p∈qs,p) ->(∀ v,Rep w F φ v x ->RepS w (Lent {st with heap:=z2l ns st.heap} F φ) v y)/\(∀ sh j v,Rep w F φ v (z6 sh x j) ->RepS w (Lent {st with heap:=z2l ns st.heap} F φ) v (z6 sh y j)):=by
  intro x y qs hf hq
  exact z5p hR x y qs hf hq
 have hdrop:∀ b c,get (z38 ns st.heap) b=some c ->z24 w (Lent {st with heap:=z2l ns st.heap} F φ) φ W0.B b c:=by
  intro b c hc
  obtain⟨h1,h2⟩:=z1e hc
  have hb:=h.heap b c h1
  refine hb.keep (fun _ _=>rfl) hsub (fun g hg=>⟨rfl,fun hF=>?_⟩) rfl fun _ _=>rfl
  rcases hlt g hF with k1 | ⟨b',c',k1,k2,k3⟩
  . exact(hb.lt hg).2.1 k1
  . exact h2 (h.inj b' b c' c g k2 h1 k3 hg ▸ k1)
 have hkey:∀ b c,get hp b=some c ->∃ d,get (z38 ns st.heap) b=some d/\(d.isRow=false ->c.isRow=false):=by
  intro b c hc
  obtain⟨d,h1,h2⟩:=zf1 hhp hpsH hc
  refine⟨d,h1,fun hd=>?_⟩
  rcases h2 with rfl | ⟨tc,sh,x,y,qs,rfl,rfl,_⟩
  . exact hd
  . rfl
 refine⟨Lent {st with heap:=z2l ns st.heap} F φ,fun s y hy=>?_,fun b c hc=>?_,fun b b' c c' g h1 h2=>?_,fun k hk=>?_,h.base,fun k hk=>hsub k (h.sub k hk),fun k hk=>?_,h.dfr,h.tsz,
  fun g x hg=>(h.glob g x hg).keep (fun _ _=>rfl) hsub,fun b p hb=>⟨(h.anc b p hb).1,(h.anc b p hb).2.1,fun c hc=>?_⟩⟩
 . obtain⟨x,hx,hyx⟩:=zkc he hpsE hy
   obtain⟨v,hv,hrep⟩:=h.env s x hx
   rcases hyx with rfl | ⟨qs,hf,hq⟩
   . exact⟨v,hv,hrep.keep (fun _ _=>rfl) hsub fun _ _=>rfl⟩
   . exact⟨v,hv, .stat ((hval x y qs hf hq).1 v hrep)⟩
 . obtain⟨d,h1,h2⟩:=zf1 hhp hpsH hc
   have hb:=hdrop b d h1
   rcases h2 with rfl | ⟨tc,sh,x,y,qs,rfl,rfl,hf,hq⟩
   . exact hb
   . obtain⟨h0,g,cs,k1,k2,k3,k4,k5,k6⟩:=hb
     obtain⟨_,g',cs',j1,_,_,j4,_,j6⟩:=h.heap b _ (z1e h1).1
     have e1:g'=g:=by rw[j1]at k1;injection k1
     subst e1
     have e2:cs'=cs:=by rw[j4]at k4;injection k4 with e;injection e
     subst e2
     exact⟨h0,g',cs',k1,k2,k3,k4,k5,fun j hj=> .stat ((hval x y qs hf hq).2 _ _ _ (j6 j hj))⟩
 . obtain⟨d,d1,_⟩:=hkey b c h1
   obtain⟨d',d2,_⟩:=hkey b' c' h2
   exact h.inj b b' d d' g (z1e d1).1 (z1e d2).1
 . rcases hlt k hk with k1 | ⟨b',c',k1,k2,k3⟩
   . exact h.ro k k1
   . exact((h.heap b' c' k2).lt k3).1
 . rcases hlt k hk with k1 | ⟨b',c',k1,k2,k3⟩
   . exact h.new k k1
   . exact .inr ((h.heap b' c' k2).lt k3).2.2
 . obtain⟨d,d1,d2⟩:=hkey b c hc
   exact d2 ((h.anc b p hb).2.2 d (z1e d1).1)
theorem Rel.frzT (h:Rel C W0 F0 st a w F φ) {ns:List Nat} (hps:∀ p∈(Go.AV.frzT C ns st).2,p):∃ F',Rel C W0 F0 (Go.AV.frzT C ns st).1 a w F' φ:=by
 unfold Go.AV.frzT at hps ⊢
 split at hps
 . rename_i r hr
   exact h.frzSt (st1:=r.1) (ps:=r.2) hr hps
 grind
theorem zik {orc:FuncId ->List AV ->Option AV} {ps:List Prop} {K:Act ->World ->Prop} (h:Rel C W0 F0 st a w F φ) (hT:z1d C) (hCC:CCOK C CC) (hs:znr C CC orc st o=some (st',ps)) (hps:∀ p∈ps,p)
 (hK:∀ a' w' F' φ',Rel C W0 F0 st' a' w' F' φ' ->K a' w'):o.guard=none/\o.wp C.P a w K Q:=by
 unfold znr at hs
 split at hs
 case h_2=>cases hs
 rename_i x l hg hx
 split at hs
 case h_2=>cases hs
 split at hs
 case h_2=>cases hs
 rename_i st1 ps1 h1
 split at hs
 case h_2=>cases hs
 rename_i st2 qs h2
 cases hs
 obtain⟨F',hR⟩:=h.frzSt h1 fun p hp=>hps p (List.mem_append.2 (.inl hp))
 have :=z4b (Q:=Q) (ops:=#[]) (K:=K) hR hT hCC h2 (fun p hp=>hps p (List.mem_append.2 (.inr hp))) hK
 rw[if_pos (by simp[Region.wanted,hg])]at this
 grind
end
def zzt (C:Cfg) (all:List Oper) (st:St) (o:Oper):Option (St×List Prop):=
 match o.guard,o.dst,z7y C o with
 |some g,some d,true=>match z8c C st all g,z30 C (fun _ _ _=>False) (fun _ _=>none) [] st {o with guard:=none}with
  |some q,some (st2,ps)=>match z1k C st {o with guard:=none},get st2.env d,get st2.heap d with
   |false,some (.own b n),some (.row _ sh n' f)=>match Nat.beq b d&&z1q st d with
    |true=>some ({st with env:=put st.env d (.when q (.seq sh n f))},impl q (ps++[n<=n']))
    |false=>none
   |_,_,_=>none
  |_,_=>none
 |_,_,_=>none
section
variable {C:Cfg} {W0:Entry} {F0:Nat ->Prop} {st st':St} {a:Act} {w:World} {F:Nat ->Prop} {φ:Nat ->Place} {CC:FuncId ->List AV ->AV ->Prop} {o:Oper} {Q:Exit ->Act ->World ->Prop}
theorem z6h {ks:List Nat} {b:Nat} {c:BoxC} (hk:inN b ks=true):∀ {l:List (Nat×BoxC)},get l b=some c ->get (z2l ks l) b=some c
 | [],h=>by simp[get]at h
 | (k,x)::l,h=>by
  simp only[get]at h
  split at h
  . rename_i e
    cases h
    have :=Nat.eq_of_beq_eq_true e
    subst this
    simp only[z2l,hk,get,e]
  . rename_i e
    simp only[z2l]
    split
    . simp only[get,e];exact z6h hk h
    . exact z6h hk h
theorem Rel.freezeAt {st2:St} {a2:Act} {d:Nat} {ty:TypeId} {sh:Shape} {n n':Nat} {f:Nat ->AV} (hR:Rel C W0 F0 st2 a2 w F φ) (he:get st2.env d=some (.own d n)) (hb:get st2.heap d=some (.row ty sh n' f)) (hn:n<=n')
 (h1:∀ s,s≠d ->get st.env s=get st2.env s) (h2:∀ b,b≠d ->get st.heap b=get st2.heap b) (h3:get st.heap d=none):
 ∃ F',Rel C W0 F0 {st with env:=put st.env d (.when true (.seq sh n f))} a2 w F' φ:=by
 have hsel:∀ b c,get (z2l [d] st2.heap) b=some c ->get st2.heap b=some c/\b∈[d]:=fun b c hb=>z4d hb
 have hR1:Rel C W0 F0 {st2 with heap:=z2l [d] st2.heap} a2 w F φ:=hR.setHeap (fun b c hb=>hR.heap b c (hsel b c hb).1)
  (fun b b' c c' g h1 h2=>hR.inj b b' c c' g (hsel b c h1).1 (hsel b' c' h2).1) fun b p c hb hc=>(hR.anc b p hb).2.2 c (hsel b c hc).1
 have hsd:get (z2l [d] st2.heap) d=some (.row ty sh n' f):=z6h (by simp[inN]) hb
 have hsub:∀ k,F k ->Lent {st2 with heap:=z2l [d] st2.heap} F φ k:=fun k hk=> .inl hk
 have hlt:∀ k,Lent {st2 with heap:=z2l [d] st2.heap} F φ k ->F k∨∃ c,get st2.heap d=some c/\(φ d).blk=some k:=fun k hk=>by
  rcases hk with hk | ⟨b,c,hb,hg⟩
  . exact .inl hk
  . have :=(hsel b c hb).2
    simp at this
    subst this
    exact .inr ⟨c,(hsel b c hb).1,hg⟩
 refine⟨Lent {st2 with heap:=z2l [d] st2.heap} F φ,fun s y hy=>?_,fun b c hc=>?_,fun b b' c c' g k1 k2=>?_,fun k hk=>?_,hR.base,fun k hk=>hsub k (hR.sub k hk),fun k hk=>?_,hR.dfr,hR.tsz,
  fun g x hg=>(hR.glob g x hg).keep (fun _ _=>rfl) hsub,fun b p hb'=>⟨(hR.anc b p hb').1,(hR.anc b p hb').2.1,fun c hc=>?_⟩⟩
 . by_cases e:s=d
   . subst e
     simp only[zv,Option.some.injEq]at hy
     subst hy
     obtain⟨v,hv,hrep⟩:=hR.env s _ he
     refine⟨v,hv, .whenT true (fun _=> .stat ?_) fun h=>by cases h⟩
     exact(z5p hR1 (.own s n) (.seq sh n f) [n<=n'] (by simp only[frz,hsd]) (fun p hp=>by rw[List.mem_singleton.1 hp];exact hn)).1 v hrep
   . simp only[zb _ _ _ _ e]at hy
     obtain⟨v,hv,hrep⟩:=hR.env s y (by rw[<- h1 s e];exact hy)
     exact⟨v,hv,hrep.keep (fun _ _=>rfl) hsub fun _ _=>rfl⟩
 . have hbd:b≠d:=fun e=>by subst e;simp only at hc;rw[h3]at hc;cases hc
   simp only at hc
   rw[h2 b hbd]at hc
   have hb':=hR.heap b c hc
   refine hb'.keep (fun _ _=>rfl) hsub (fun g hg=>⟨rfl,fun hF=>?_⟩) rfl fun _ _=>rfl
   rcases hlt g hF with k1 | ⟨c',k2,k3⟩
   . exact(hb'.lt hg).2.1 k1
   . exact hbd (hR.inj b d c c' g hc k2 hg k3)
 . have hbd:b≠d:=fun e=>by subst e;simp only at k1;rw[h3]at k1;cases k1
   have hbd':b'≠d:=fun e=>by subst e;simp only at k2;rw[h3]at k2;cases k2
   simp only at k1 k2
   rw[h2 b hbd]at k1
   rw[h2 b' hbd']at k2
   exact hR.inj b b' c c' g k1 k2
 . rcases hlt k hk with k1 | ⟨c',k2,k3⟩
   . exact hR.ro k k1
   . exact((hR.heap d c' k2).lt k3).1
 . rcases hlt k hk with k1 | ⟨c',k2,k3⟩
   . exact hR.new k k1
   . exact .inr ((hR.heap d c' k2).lt k3).2.2
 . have hbd:b≠d:=fun e=>by subst e;simp only at hc;rw[h3]at hc;cases hc
   simp only at hc
   rw[h2 b hbd]at hc
   exact(hR.anc b p hb').2.2 c hc
theorem zmp {st:St} {d:Nat} (h:z1q st d=true):get st.heap d=none:=by
 simp only[z1q,Bool.not_eq_true',Bool.or_eq_false_iff]at h
 cases hg:get st.heap d with
 |none=>rfl
 |some c=>exact((z2r hg h.2.1).2 rfl).elim
theorem zsp {ops:Array Oper} {ps:List Prop} {K:Act ->World ->Prop} (h:Rel C W0 F0 st a w F φ) (hT:z1d C) (hCC:CCOK C CC) (hs:zzt C ops.toList st o=some (st',ps)) (hps:∀ p∈ps,p)
 (hK:∀ a' w' F' φ',Rel C W0 F0 st' a' w' F' φ' ->K a' w'):if Region.wanted o (yielded ops a.tmps)then o.wp C.P a w K Q else K (a.put o.dst undef) w:=by
 unfold zzt at hs
 split at hs
 case h_2=>cases hs
 rename_i g d hg hdst hnew
 split at hs
 case h_2=>cases hs
 rename_i q st2 ps2 hq hstep
 split at hs
 case h_2=>cases hs
 rename_i b n ty sh n' f hgr he hb
 split at hs
 case h_2=>cases hs
 rename_i hbd
 cases hs
 simp only[Bool.and_eq_true]at hbd
 obtain⟨e1,e2⟩:=hbd
 have e1:=Nat.eq_of_beq_eq_true e1
 subst e1
 have hw:=zak h hq hg
 rw[hw]
 have hd:zsh C o.dst=true:=by
  unfold z30 at hstep
  grind
 cases q with
 |true=>
  have hps':=z92 hps rfl
  have hn:n<=n':=hps' _ (by simp)
  obtain⟨fr1,fr2⟩:=z2s hgr hstep
  have hwr:z1n C st {o with guard:=none}=[b]:=znl (S:=st) (o:={o with guard:=none}) hnew hdst
  rw[hwr]at fr2
  have :=z4b (Q:=Q) (ops:=#[]) (o:={o with guard:=none}) (K:=K) h hT (CC:=fun _ _ _=>False) ⟨fun _ _ _ hf=>hf.elim,hCC.2⟩ hstep (fun p hp=>hps' p (by simp[hp])) fun a' w' F' φ' hR=>by
   obtain⟨F2,hR2⟩:=hR.freezeAt he hb hn (fun s hs=>(fr1 s (by rw[hdst];simpa using fun e=>hs e.symm)).symm) (fun b' hb'=>(fr2 b' (by simpa using hb')).symm) (zmp e2)
   exact hK _ _ _ _ hR2
  simp only[if_true]
  exact this
 |false=>
  rw[hdst]
  exact hK _ _ _ _ (h.putV (zk7 hd hdst) (.whenT false (fun h=>by cases h) fun _=> .inl rfl))
end
def zzu (C:Cfg) (CC:FuncId ->List AV ->AV ->Prop) (orc:FuncId ->List AV ->Option AV) (all:List Oper) (st:St) (o:Oper):Option (St×List Prop):=
 match zey C orc st o with
 |some r=>some r
 |none=>match znr C CC orc st o with
  |some r=>some r
  |none=>zzt C all st o
def zce (C:Cfg) (CC:FuncId ->List AV ->AV ->Prop) (orc:Nat ->FuncId ->List AV ->Option AV) (all:List Oper):List Oper ->Nat ->St ->Option (St×List Prop)
 | [],_,st=>some (st,[])
 |o::rest,i,st=>match(match z30 C CC (orc i) all st o with |some r=>some r |none=>zzu C CC (orc i) all st o)with
  |some (st',ps)=>match zce C CC orc all rest (i+1) st' with
   |some (st'',qs)=>some (st'',ps++qs)
   |none=>none
  |none=>none
section
variable {C:Cfg} {W0:Entry} {F0:Nat ->Prop} {st st':St} {a:Act} {w:World} {F:Nat ->Prop} {φ:Nat ->Place} {CC:FuncId ->List AV ->AV ->Prop}
 {Q:Exit ->Act ->World ->Prop}
theorem zsq {ops:Array Oper} {orc:FuncId ->List AV ->Option AV} {o:Oper} {ps:List Prop} {K:Act ->World ->Prop} (h:Rel C W0 F0 st a w F φ) (hT:z1d C) (hCC:CCOK C CC) (hs:zzu C CC orc ops.toList st o=some (st',ps)) (hps:∀ p∈ps,p)
 (hK:∀ a' w' F' φ',Rel C W0 F0 st' a' w' F' φ' ->K a' w'):if Region.wanted o (yielded ops a.tmps)then o.wp C.P a w K Q else K (a.put o.dst undef) w:=by
 have fin:o.guard=none/\o.wp C.P a w K Q ->if Region.wanted o (yielded ops a.tmps)then o.wp C.P a w K Q else K (a.put o.dst undef) w:=fun e=>by
  rw[if_pos (by simp[Region.wanted,e.1])]
  exact e.2
 unfold zzu at hs
 split at hs
 . rename_i r hr
   cases hs
   exact fin (zih h hCC.2 hr hps hK)
 . split at hs
   . rename_i r hr
     cases hs
     exact fin (zik h hT hCC hr hps hK)
   . exact zsp h hT hCC hs hps hK
theorem za1 {ops:Array Oper} {orc:Nat ->FuncId ->List AV ->Option AV} (hT:z1d C) (hCC:CCOK C CC):∀ (rest:List Oper) (i:Nat) (st st':St) (ps:List Prop) (a:Act) (w:World) (F:Nat ->Prop) (φ:Nat ->Place),(∀ j,rest[j]? =ops[i+j]?) ->
 zce C CC orc ops.toList rest i st=some (st',ps) ->(∀ p∈ps,p) ->Rel C W0 F0 st a w F φ ->(∀ a' w' F' φ',Rel C W0 F0 st' a' w' F' φ' ->Q .normal a' w') ->wpOps C.P ops Q (List.range' i rest.length) a w
 | [],i,st,st',ps,a,w,F,φ,_,h,_,hR,hQ=>by
  simp only[zce,Option.some.injEq,Prod.mk.injEq]at h
  obtain⟨rfl,_⟩:=h
  exact hQ _ _ _ _ hR
 |o::rest,i,st,st',ps,a,w,F,φ,hj,h,hps,hR,hQ=>by
  simp only[zce]at h
  have ho:ops[i]? =some o:=by simpa using(hj 0).symm
  split at h
  case h_2=>cases h
  rename_i st1 ps1 h1
  split at h
  case h_2=>cases h
  rename_i st2 ps2 h2
  cases h
  have hK:∀ a' w' F' φ',Rel C W0 F0 st1 a' w' F' φ' ->wpOps C.P ops Q (List.range' (i+1) rest.length) a' w':=fun a' w' F' φ' hR'=>
   za1 hT hCC rest (i+1) st1 st' ps2 a' w' F' φ' (fun j=>by rw[show i+1+j=i+(j+1)from by omega,<- hj (j+1)];simp) h2 (fun p hp=>hps p (by simp[hp])) hR' hQ
  have hstep:if Region.wanted o (yielded ops a.tmps)then o.wp C.P a w (wpOps C.P ops Q (List.range' (i+1) rest.length)) Q else wpOps C.P ops Q (List.range' (i+1) rest.length) (a.put o.dst undef) w:=by
   split at h1
   . rename_i r hr
     cases h1
     exact z4b hR hT hCC hr (fun p hp=>hps p (by simp[hp])) hK
   . exact zsq hR hT hCC h1 (fun p hp=>hps p (by simp[hp])) hK
  rw[List.length_cons,List.range'_succ,wpOps,ho]
  show if _ then _ else _
  split
  . rename_i hw;rw[if_pos hw]at hstep;exact .inl hstep
  . rename_i hw;rw[if_neg hw]at hstep;exact hstep
end
end Go.AV
