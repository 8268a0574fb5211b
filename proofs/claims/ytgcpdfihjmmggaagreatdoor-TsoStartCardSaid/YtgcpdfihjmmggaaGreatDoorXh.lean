import Derived.Test.YtgcpdfihjmmggaaGreatDoorXg
import Derived.Test.YtgcpdfihjmmggaaGreatDoorXf
import Derived.Lib.AppendStr
import Derived.Deep.DeepAppendWide
namespace Go.AV
open Go.RowKit
section
variable {C : Cfg} {W0 : Entry} {F0 : Nat -> Prop} {st st' : St} {a : Act} {w : World} {F : Nat -> Prop} {φ : Nat -> Place} {CC : FuncId -> List AV -> AV -> Prop} {o : Oper} {orc : FuncId -> List AV -> Option AV}
  {Q : Exit -> Act -> World -> Prop}
theorem Rel.evF (h : Rel C W0 F0 st a w F φ) {fx : Operand} {f : FuncId} (h1 : Go.AV.ev C st fx = some (AV.clo f [])) : a.eval fx = .func (.func f) #[] #[] := by
  have hfv : ∃ cv : Array Value, a.eval fx = .func (.func f) #[] cv /\ cv.size = 0 := by
    have := h.ev h1
    generalize a.eval fx = v at this
    cases this with
    | stat hv => cases hv with | clo _ cv _ hs hc => exact ⟨cv, rfl, hs⟩
    | clo _ cv _ hs hc => exact ⟨cv, rfl, hs⟩
  obtain ⟨cv, hfv, hcv⟩ := hfv
  obtain rfl : cv = #[] := Array.eq_empty_of_size_eq_zero hcv
  exact hfv
theorem Rel.setHeap (h : Rel C W0 F0 st a w F φ) {H : List (Nat × BoxC)} (hok : ∀ b c, get H b = some c -> z1i w F φ W0.B b c)
    (hinj : ∀ b b' c c' g, get H b = some c -> get H b' = some c' -> (φ b).blk = some g -> (φ b').blk = some g -> b = b')
    (hanc : ∀ b p c, W0.A b = some p -> get H b = some c -> c.isRow = false) : Rel C W0 F0 { st with heap := H } a w F φ :=
  ⟨h.env, hok, hinj, h.ro, h.base, h.sub, h.new, h.dfr, h.tsz, h.glob, fun b p hb => ⟨(h.anc b p hb).1, (h.anc b p hb).2.1, fun c hc => hanc b p c hb hc⟩⟩
theorem Rel.lentBack (h : Rel C W0 F0 st a w F φ) {ns : List Nat} {hs : List BoxC} {os : List (Option BoxC)} {w' : World} {F' : Nat -> Prop} {φ' : Nat -> Place} (_ : z3u ns = true)
    (hns : ns.length = hs.length /\ ∀ (i b : Nat), ns[i]? = some b -> ∃ c, hs[i]? = some c /\ get st.heap b = some c)
    (hk : Kept (z3e (fun i => φ (ns.getD i 0)) ns.length) w w') (f1 : ∀ k, F k -> F' k) (f2 : ∀ k, F' k -> F k ∨ w.heap.size <= k ∨ z3e (fun i => φ (ns.getD i 0)) ns.length k) (f3 : ∀ k, F' k -> k < w'.heap.size)
    (hst : ∀ i tc sh x, hs[i]? = some (.cell tc sh x) -> φ' i = φ (ns.getD i 0)) :
    Rel C W0 F0 ⟨z6u (z5r ns hs os) st.env, z1c ns (z3o (z5r ns hs os) st.heap)⟩ a w' F' (fun b => if inN b ns then φ' (idxN ns b) else φ b) := by
  have lent : ∀ g, z3e (fun i => φ (ns.getD i 0)) ns.length g -> ∃ b c, b ∈ ns /\ get st.heap b = some c /\ (φ b).blk = some g := by
    rintro g ⟨i, hi, hg⟩
    obtain ⟨b, hb⟩ : ∃ b, ns[i]? = some b := ⟨_, List.getElem?_eq_getElem hi⟩
    obtain ⟨c, _, hc⟩ := hns.2 i b hb
    refine ⟨b, c, List.mem_of_getElem? hb, hc, ?_⟩
    simpa [List.getD_eq_getElem?_getD, hb] using hg
  have hkF : ∀ k, F k -> w'.heap[k]? = w.heap[k]? := fun k hF => hk.block k (h.ro k hF) fun hl => by
    obtain ⟨b, c, _, hc, hg⟩ := lent k hl
    exact ((h.heap b c hc).lt hg).2.1 hF
  have same : ∀ b, b ∉ z5r ns hs os -> (if inN b ns then φ' (idxN ns b) else φ b) = φ b := fun b hb => by
    cases hi : inN b ns with
    | false => simp
    | true =>
      have := z84 hi
      obtain ⟨tc, sh, x, c', h1, h2⟩ := zen this hb
      simp only [if_true]
      rw [hst _ _ sh x h1, List.getD_eq_getElem?_getD, this, Option.getD_some]
  have rep : ∀ v x, Rep w F φ v x -> (∀ b ∈ z5r ns hs os, x.names b = false) -> Rep w' F' (fun b => if inN b ns then φ' (idxN ns b) else φ b) v x := fun v x hr hx =>
    hr.keep hkF f1 fun b hb => same b fun hm => by rw [hx b hm] at hb; cases hb
  have hout : ∀ b, b ∉ ns -> (fun b => if inN b ns then φ' (idxN ns b) else φ b) b = φ b := fun b hb => by
    show (if inN b ns then φ' (idxN ns b) else φ b) = φ b
    cases hi : inN b ns with
    | false => simp
    | true => exact absurd (z2y.1 hi) hb
  refine ⟨fun s x hs' => ?_, fun b c hc => ?_, fun b b' c c' g h1 h2 h3 h4 => ?_, f3, h.base.trans hk ?_, fun k hk => f1 k (h.sub k hk), fun k hk' => ?_, h.dfr, h.tsz, fun g x hg => (h.glob g x hg).keep hkF f1, fun b p hb => ?_⟩
  . obtain ⟨y, hy, hx⟩ := z9h hs'
    obtain ⟨v, hv, hr⟩ := h.env s y hy
    rcases hx with ⟨rfl, hx⟩ | rfl
    . exact ⟨v, hv, rep v y hr hx⟩
    . exact ⟨v, hv, .whenT false (fun h => by cases h) fun _ => .inr rfl⟩
  . obtain ⟨h1, h2⟩ := zp hc
    obtain ⟨d, h3, h4⟩ := z2p h1
    have hb := h.heap b d h3
    have hB : ∀ g, (φ b).blk = some g -> w'.heap[g]? = w.heap[g]? /\ ¬ F' g := fun g hg => by
      obtain ⟨l1, l2, l3⟩ := hb.lt hg
      have hl : ¬ z3e (fun i => φ (ns.getD i 0)) ns.length g := fun hl => by
        obtain ⟨b', c', m1, m2, m3⟩ := lent g hl
        exact h2 (h.inj b' b c' d g m2 h3 m3 hg ▸ m1)
      exact ⟨hk.block g l1 hl, fun hF => by
        rcases f2 g hF with k1 | k1 | k1
        . exact l2 k1
        . omega
        . exact hl k1⟩
    cases d with
    | row ty sh n f =>
      obtain ⟨_, rfl⟩ := h4
      obtain ⟨b0, b1, b2⟩ := hb
      refine ⟨by rw [hout b h2]; exact b0, by rw [hout b h2]; exact b1, ?_⟩
      rw [hout b h2]
      rcases b2 with b2 | ⟨g, cs, b3, b4, b5, b6, b7, b8, b9, b10⟩
      . exact .inl b2
      . exact .inr ⟨g, cs, b3, b4, (hB g b3).2, (hB g b3).1.trans b6, b7, b8, b9, fun i hi j hj => (b10 i hi j hj).keep hkF f1⟩
    | cell tc sh x =>
      cases c with
      | row => exact h4.2.elim
      | cell tc' sh' y =>
        obtain ⟨_, rfl, rfl, h5⟩ := h4
        obtain ⟨b0, g, cs, b3, b4, b5, b6, b7, b8⟩ := hb
        refine ⟨by rw [hout b h2]; exact b0, g, cs, by rw [hout b h2]; exact b3, b4, (hB g b3).2, (hB g b3).1.trans b6, b7, fun j hj => ?_⟩
        rcases h5 j with ⟨h6, h7⟩ | h6
        . rw [h6]; exact rep _ _ (b8 j hj) h7
        . rw [h6]; exact .stat (.any _ (Rep.leaf1 sh' x j (b8 j hj)))
  . obtain ⟨k1, k2⟩ := zp h1
    obtain ⟨k3, k4⟩ := zp h2
    obtain ⟨d, k5, _⟩ := z2p k1
    obtain ⟨d', k6, _⟩ := z2p k3
    have h3 := (congrArg Place.blk (hout b k2)).symm.trans h3
    have h4 := (congrArg Place.blk (hout b' k4)).symm.trans h4
    exact h.inj b b' d d' g k5 k6 h3 h4
  . intro i hl hi
    obtain ⟨b, c, _, hc, hg⟩ := lent i hl
    rcases ((h.heap b c hc).lt hg).2.2 with k | k
    . omega
    . exact k
  . rcases f2 k hk' with k1 | k1 | k1
    . exact h.new k k1
    . exact .inr (h.bnew k1)
    . obtain ⟨b, c, _, hc, hg⟩ := lent k k1
      exact .inr ((h.heap b c hc).lt hg).2.2
  . obtain ⟨a1, a2, a3⟩ := h.anc b p hb
    refine ⟨a1, ?_, fun c hc => ?_⟩
    . cases hi : inN b ns with
      | false => simpa using a2
      | true =>
        have := z84 hi
        obtain ⟨c, h1, h2⟩ := hns.2 _ _ this
        have hrow := a3 c h2
        cases c with
        | row => cases hrow
        | cell tc sh x =>
          simp only [if_true]
          rw [hst _ _ sh x h1, List.getD_eq_getElem?_getD, this, Option.getD_some]
          exact a2
    . obtain ⟨h1, _⟩ := zp hc
      obtain ⟨d, h3, h4⟩ := z2p h1
      rw [h4.1]; exact a3 d h3
theorem zix {ps : List Prop} {K : Act -> World -> Prop} (h : Rel C W0 F0 st a w F φ) (hCCL : ∀ f as hs r os, C.CCL f as hs r os -> z1d C.P f /\ ziv C.P C.G f as hs r os) (hs : zg5 C st o = some (st', ps)) (hps : ∀ p ∈ ps, p)
    (hK : ∀ a' w' F' φ', Rel C W0 F0 st' a' w' F' φ' -> K a' w') : o.guard = none /\ o.wp C.P a w K Q := by
  unfold zg5 at hs
  split at hs
  case h_2 => cases hs
  rename_i c ho hg
  split at hs
  case h_2 => cases hs
  rename_i fx hcal
  split at hs
  case h_2 => cases hs
  rename_i f args h1 h2
  generalize zg4 st.heap 64 (AV.boxesL args) [] = ns at hs
  unfold zue at hs
  split at hs
  case h_2 => cases hs
  rename_i hs0 hcon
  split at hs
  case h_2 => cases hs
  rename_i r os _
  unfold zud at hs
  split at hs
  case h_2 => cases hs
  rename_i cs hrest
  split at hs
  case h_2 => cases hs
  rename_i st1 hc hst1
  cases hs
  refine ⟨hg, ?_⟩
  simp only [Bool.and_eq_true] at hc
  obtain ⟨⟨⟨⟨⟨⟨⟨⟨c1, c2⟩, c3⟩, c4⟩, c5⟩, c6⟩, c7⟩, c8⟩, c9⟩ := hc
  obtain ⟨hok, hcall⟩ := hCCL _ _ _ _ _ (hps _ (List.mem_singleton.2 rfl))
  have hns := z65 hcon
  have hrl := zem hrest
  obtain ⟨n1, n2⟩ := z42 h2 (fun x _ u hu => h.ev hu)
  have hfv := h.evF h1
  have hrun : (execOp a.eval o).run C.P w = .ok (.enter f (c.args.map a.eval)) w := by
    obtain ⟨callee, args', tys⟩ := c
    cases hcal
    simp only [execOp, ho, resolve, Sem.run_bind, hfv]
    simp only [Deferred.ofValue, Sem.run_pure, Result.andThen_ok, invoke, Array.empty_append, Array.append_empty]
    exact hok _ w
  unfold Oper.wp
  rw [hrun]
  show Calls C.P f _ w _
  have hφ : ∀ b, inN b ns = true -> (fun i => φ (ns.getD i 0)) (idxN ns b) = φ b := fun b hb => by
    show φ (ns.getD (idxN ns b) 0) = φ b
    rw [List.getD_eq_getElem?_getD, z84 hb, Option.getD_some]
  have hat : ∀ i : Nat, i < ns.length -> ∃ b c, ns[i]? = some b /\ hs0[i]? = some c /\ get st.heap b = some c := fun i hi => by
    obtain ⟨c, k1, k2⟩ := hns.2 i _ (List.getElem?_eq_getElem hi)
    exact ⟨_, c, List.getElem?_eq_getElem hi, k1, k2⟩
  refine (hcall w F (fun i => φ (ns.getD i 0)) _ h.ro h.glob (by rw [z3w]; simpa using n1) (fun j hj => ?_) (fun i c hi => ?_) (fun i i' g hi hi' e e' => ?_)).mono ?_
  . rw [z3w] at hj
    have := n2 j hj
    have h5 : Rep w F φ ((c.args.map a.eval).getD j undef) (args.getD j .any) := by simpa [Array.getD_eq_getD_getElem?, List.getD_eq_getElem?_getD] using this
    rw [z4p _ _ _ hj]
    exact zah (φ2 := fun i => φ (ns.getD i 0)) (n := idxN ns) (m := fun b => inN b ns) hφ (z55 (z36 c2 hj)) (z3i c1 hj) h5
  . obtain ⟨d, hd, rfl⟩ := z66 _ hi
    have hi' : i < ns.length := by rw [hns.1]; exact (List.getElem?_eq_some_iff.1 hd).1
    obtain ⟨b, c', k1, k2, k3⟩ := hat i hi'
    rw [hd] at k2
    cases k2
    have := zcy (φ2 := fun i => φ (ns.getD i 0)) (n := idxN ns) (m := fun b => inN b ns) hφ (i := b) (z2y.2 (List.mem_of_getElem? k1)) (z5b c4 hd) ((h.heap b d k3).base (base' := fun _ => True) fun _ _ => trivial)
    rwa [z64 c3 k1] at this
  . rw [z38, <- hns.1] at hi hi'
    obtain ⟨b, d, k1, k2, k3⟩ := hat i hi
    obtain ⟨b', d', k1', k2', k3'⟩ := hat i' hi'
    simp only [List.getD_eq_getElem?_getD, k1, k1', Option.getD_some] at e e'
    have := h.inj b b' d d' g k3 k3' e e'
    subst this
    rw [<- z64 c3 k1, <- z64 c3 k1']
  . rintro en w' ⟨v, F', φ', rfl, hk, f1, f2, f3, hv, hbox, hinj, hstay⟩
    rw [z38, <- hns.1] at hk f2
    rw [z38, <- hns.1] at hbox
    have hstay' : ∀ i tc sh x, hs0[i]? = some (.cell tc sh x) -> φ' i = φ (ns.getD i 0) := fun i tc sh x hi => hstay i tc sh (x.sub (idxN ns)) (zav (idxN ns) hi)
    have lent : ∀ g, z3e (fun i => φ (ns.getD i 0)) ns.length g -> ∃ b c, b ∈ ns /\ get st.heap b = some c /\ (φ b).blk = some g := by
      rintro g ⟨i, hi, hg⟩
      obtain ⟨b, c, k1, _, k3⟩ := hat i hi
      exact ⟨b, c, List.mem_of_getElem? k1, k3, by simpa [List.getD_eq_getElem?_getD, k1] using hg⟩
    have hBB : ∀ k, (w.heap.size <= k ∨ z3e (fun i => φ (ns.getD i 0)) ns.length k) -> W0.B k := fun k hk => by
      rcases hk with hk | hk
      . exact h.bnew hk
      . obtain ⟨b, c, _, k2, k3⟩ := lent k hk
        exact ((h.heap b c k2).lt k3).2.2
    have hA := h.lentBack (os := os) c3 hns hk f1 f2 f3 hstay'
    -- what is not lent lies apart from what comes back
    have apart : ∀ i c g b d, os[i]? = some (some c) -> (φ' i).blk = some g -> get (z1c ns (z3o (z5r ns hs0 os) st.heap)) b = some d -> (φ b).blk ≠ some g := fun i c g b d hi hg hb hbg => by
      obtain ⟨k1, k2⟩ := zp hb
      obtain ⟨d0, k3, _⟩ := z2p k1
      rcases ((hbox i c hi).lt hg).2.2 with k4 | k4
      . have := ((h.heap b d0 k3).lt hbg).1
        omega
      . obtain ⟨b', c', m1, m2, m3⟩ := lent g k4
        exact k2 (h.inj b' b c' d0 g m2 k3 m3 hbg ▸ m1)
    have hout : ∀ b d, get (z1c ns (z3o (z5r ns hs0 os) st.heap)) b = some d -> (if inN b ns then φ' (idxN ns b) else φ b) = φ b := fun b d hb => by
      cases hi : inN b ns with
      | false => simp
      | true => exact absurd (z2y.1 hi) (zp hb).2
    obtain ⟨φ2, k1, k2, k3⟩ := hA.addRows cs ((dstN o.dst + 1) * 4096) ns.length _ st1 _ φ' hst1 (fun j c hj => (hbox _ c (hrl.2 j c hj)).base hBB) (fun j j' g hj hj' e e' => by
        have := hinj _ _ _ _ g (hrl.2 j _ (List.getElem?_eq_getElem hj)) (hrl.2 j' _ (List.getElem?_eq_getElem hj')) e e'
        omega) (fun j g b c' hj hg hc' hb' => by
        rw [hout b c' hc'] at hb'
        exact apart _ _ g b c' (hrl.2 j _ (List.getElem?_eq_getElem hj)) hg hc' hb')
    -- the place of each box, as the caller calls it
    have free : ∀ (i b : Nat), ns[i]? = some b -> φ2 b = φ' i := fun i b hb => by
      rw [k3 b (zc4 c9 (List.mem_of_getElem? hb)), if_pos (z2y.2 (List.mem_of_getElem? hb)), z64 c3 hb]
    have nm : ∀ i, isAt os i = true -> φ2 (nameL ns (dstN o.dst) i) = φ' i := fun i hi => by
      obtain ⟨c', hc'⟩ := zh8 hi
      have hlt := (List.getElem?_eq_some_iff.1 hc').1
      simp only [nameL, zg6]
      split
      . rename_i b hb; exact free i b hb
      . rename_i hb
        have : ns.length <= i := by simpa using hb
        rw [k2 (i - ns.length) (by omega)]
        congr 1; omega
    have zdd : ∀ {os : List (Option BoxC)} {i : Nat} {c : BoxC}, os[i]? = some (some c) -> isAt os i = true := by
      intro os
      induction os with
      | nil => intro i c h; simp at h
      | cons o os ih =>
        intro i c h
        cases i with
        | zero => simp at h; subst h; rfl
        | succ i => exact ih (by simpa using h)
    have laid : ∀ (i b : Nat) (c' : BoxC), ns[i]? = some b -> os[i]? = some (some c') -> z1i w' F' φ2 W0.B b (c'.sub (nameL ns (dstN o.dst))) := fun i b c' hb hc' => by
      have := zcy nm (zdd hc') (z4g c6 hc') ((hbox i c' hc').base hBB)
      have e : nameL ns (dstN o.dst) i = b := by simp only [nameL, zg6, hb]
      rwa [e] at this
    have hC := k1.setHeap (H := layL (nameL ns (dstN o.dst)) ns os st1.heap) (fun b c hc => by
        rcases z6v hc with ⟨i, c', m1, m2, rfl⟩ | m1
        . exact laid i b c' m1 m2
        . exact k1.heap b c m1) (fun b b' c c' g m1 m2 m3 m4 => by
        have mixed : ∀ (i b b' : Nat) (c1 c2 : BoxC), ns[i]? = some b -> os[i]? = some (some c1) -> get st1.heap b' = some c2 -> (φ2 b).blk = some g -> (φ2 b').blk = some g -> b = b' := fun i b b' c1 c2 e1 e2 e3 e4 e5 => by
          rw [free i b e1] at e4
          rcases zaw hst1 e3 with ⟨e6, e7⟩ | ⟨j, e6, rfl, e7⟩
          . rw [k3 b' e7, hout b' c2 e6] at e5
            exact absurd e5 (apart i c1 g b' c2 e2 e4 e6)
          . rw [k2 j e6] at e5
            have := hinj _ _ _ _ g e2 (hrl.2 j _ e7) e4 e5
            have := (List.getElem?_eq_some_iff.1 e1).1
            omega
        rcases z6v m1 with ⟨i, c1, e1, e2, rfl⟩ | e1 <;> rcases z6v m2 with ⟨i', c2, e1', e2', rfl⟩ | e1'
        . rw [free i b e1] at m3
          rw [free i' b' e1'] at m4
          have := hinj _ _ _ _ g e2 e2' m3 m4
          subst this
          rw [e1] at e1'
          cases e1'
          rfl
        . exact mixed i b b' _ _ e1 e2 e1' m3 m4
        . exact (mixed i' b' b _ _ e1' e2' e1 m4 m3).symm
        . exact k1.inj b b' c c' g e1 e1' m3 m4) (fun b p c hb hc => by
        rcases z6v hc with ⟨i, c', m1, m2, rfl⟩ | m1
        . obtain ⟨d, m3, m4⟩ := hns.2 i b m1
          have m5 := z8t c7 m3 m2
          have m6 := (h.anc b p hb).2.2 d m4
          rw [m6] at m5
          cases c' with
          | cell => rfl
          | row => exact m5
        . exact (k1.anc b p hb).2.2 c m1)
    have hv' := zfw (φ := φ') nm c5 hv
    show K (a.put o.dst v) w'
    cases hd : o.dst with
    | none => rw [hd] at hK hC; exact hK _ _ _ _ hC
    | some d =>
      rw [hd] at hK hC hv'
      rw [hd] at c8
      exact hK _ _ _ _ (hC.putV (Nat.le_of_ble_eq_true c8) hv')
end
end Go.AV
namespace Go.AV
open Go.RowKit
def zeo (l : List UInt8) (i : Nat) : AV := .int .u8 ((l.getD i 0).toNat : Int)
def zg7 (C : Cfg) (st : St) (o : Oper) : Option (St × List Prop) :=
  match o.op, o.dst, o.guard with
  | .call c, some d, none => match c.callee, c.args.toList, c.argTypes.toList with
    | .builtin .append, [x, y], [t, t'] => match tyOf C t, tyOf C t', ev C st x, ev C st y with
      | some te, some te', some v, some (.str l) => match te.kind, te'.kind with
        | .slice el, .string => match C.P.info? el with
          | some ie => match ie.zero with
            | some (.int .u8 z) => match decide (z = 0) && Nat.beq ie.size 1 && Nat.beq ie.bytes 1 && Nat.blt d C.ntmps, v with
              | true, .nils => match z18 st d with
                | true => some ({ env := put st.env d (.own d l.length), heap := put st.heap d (.row el .leaf l.length (zeo l)) }, [(l.length : Int) <= 225179981368000])
                | false => none
              | true, .own b n => match get st.heap b with
                | some (.row ty sh n' f) => match Nat.beq ty el && sh.same .leaf with
                  | true => some ({ env := put (z5t b st.env) d (.own b (n + l.length)), heap := put (z4c b st.heap) b (.row el .leaf (n + l.length) fun i => if i < n then f i else zeo l (i - n)) }, [n = n' /\ ((n + l.length : Nat) : Int) <= 225179981368000])
                  | false => none
                | _ => none
              | _, _ => none
            | _ => none
          | none => none
        | _, _ => none
      | _, _, _, _ => none
    | _, _, _ => none
  | _, _, _ => none
section
variable {C : Cfg} {W0 : Entry} {F0 : Nat -> Prop} {st st' : St} {a : Act} {w : World} {F : Nat -> Prop} {φ : Nat -> Place} {o : Oper} {Q : Exit -> Act -> World -> Prop}
theorem z9i (w : World) (F : Nat -> Prop) (l : List UInt8) : ∀ i, i < l.length -> ∀ j, j < Shape.leaf.size -> ∃ u, (Lib.strCells ⟨l.toArray⟩)[i * Shape.leaf.size + j]? = some u /\ RepS w F u (z6 .leaf (zeo l i) j) := by
  intro i hi j hj
  have hj : j = 0 := by simp [Shape.size] at hj; exact hj
  subst hj
  refine ⟨.int .u8 ((l.getD i 0).toNat : Int), ?_, ?_⟩
  . simp [Lib.strCells, Shape.size, List.getD_eq_getElem?_getD, hi]
  . have h1 : (l.getD i 0).toNat < 256 := UInt8.toNat_lt _
    refine .int _ _ ?_
    show IntKind.u8.wrap _ = _
    generalize (l.getD i 0).toNat = k at h1
    have h2 : (k : Int) % 2 ^ 8 = (k : Int) := by omega
    simp only [IntKind.wrap, IntKind.bits, IntKind.signed, h2]
    rfl
theorem zc5 {P : Program} {w : World} {t u ty e : TypeId} {i : TypeInfo} (ht : P.underlying t = some (.slice e)) (hu : P.underlying u = some .string) (hi : P.info? e = some i) (hz : i.zero = some (.int .u8 0))
    (hsize : i.size = 1) (hby : i.bytes = 1) {v : Value} {n : Nat} {xs : List Value} (hown : w.ownsRow 0 e 1 v n xs) (s : ByteArray) (hb : n + s.size <= 225179981368000) :
    ∃ v' w', (Builtin.append_ #[t, u] ty #[v, .string s]).run P w = .ok v' w' /\ w'.ownsRow 0 e 1 v' (n + s.size) (xs ++ Lib.strCells s) /\ w.grownBy w' v.ownBlock /\
      (v'.ownBlock = v.ownBlock ∨ ∃ g, v'.ownBlock = some g /\ w.heap.size <= g) := by
  have h63 : n + s.size <= maxLen := by unfold maxLen; omega
  have hxl : xs.length = n := by simpa using hown.1
  have hlen : (xs ++ Lib.strCells s).length = (n + s.size) * 1 := by rw [List.length_append, hxl, Lib.strCells_length, Nat.mul_one]
  have grown : ∀ (old : Nat), old < n + s.size -> ∀ (row : Option Nat),
      (w.drew.alloc (.cells (xs.toArray ++ (Lib.strCells s).toArray ++ Builtin.zeroCells (Value.int .u8 0).cells (grownCap w (n + s.size) old e - (n + s.size))) e)).ownsRow 0 e 1
        (.slice (some ⟨w.heap.size, 0, none⟩) (n + s.size) (grownCap w (n + s.size) old e)) (n + s.size) (xs ++ Lib.strCells s) /\
      w.grownBy (w.drew.alloc (.cells (xs.toArray ++ (Lib.strCells s).toArray ++ Builtin.zeroCells (Value.int .u8 0).cells (grownCap w (n + s.size) old e - (n + s.size))) e)) row := by
    intro old ho row
    have hge := grownCap_ge w (n + s.size) old e
    have hcm : grownCap w (n + s.size) old e <= maxLen := grownCap_le_maxLen w (n + s.size) old e h63
    refine ⟨⟨hlen, .inr ⟨w.heap.size, _, _, rfl, Nat.zero_le _, heap_alloc_new w.drew _, hge, hcm, ?_, ?_⟩⟩, ⟨rfl, rfl, rfl, by simp, fun k hk _ => Below.heap_alloc w.drew _ k hk⟩⟩
    . have hz1 : (Value.int IntKind.u8 0).cells.size = 1 := rfl
      simp only [Array.size_append, List.size_toArray, size_zeroCells, hz1, hxl, Lib.strCells_length]
      omega
    . simp only [Array.toList_append, List.append_assoc]
      rw [<- List.append_assoc, <- hlen]
      exact List.take_left
  rcases hown.2 with ⟨rfl, rfl⟩ | ⟨g, cap, cur, rfl, hbg, hg, hnc, hcm, hcs, htake⟩
  . have hx : xs = [] := List.eq_nil_of_length_eq_zero hxl
    subst hx
    by_cases hm : s.size = 0
    . have hn : Lib.strCells s = [] := List.eq_nil_of_length_eq_zero (by rw [Lib.strCells_length]; exact hm)
      refine ⟨.slice none 0 0, w, ?_, by rw [hm, hn]; exact World.ownsRow_nil w 0 e 1, ⟨rfl, rfl, rfl, Nat.le_refl _, fun _ _ _ => rfl⟩, .inl rfl⟩
      have hf := Lib.run_firstCells_string (P := P) w 1 s
      rw [hm] at hf
      simp [Builtin.append_, run_underlying ht, run_underlying hu, sizeOf, typeInfo, hi, hsize, Builtin.lenOf, hm, hf]
    . have hr := run_append_nil_string (P := P) w t u ty e i (.int .u8 0) ht hu hi hz s (by omega) (by omega) (by rw [hby]; omega)
      have hgr := grown 0 (by omega) (Value.ownBlock (.slice none 0 0))
      simp only [Nat.zero_add, List.nil_append, Array.empty_append] at hgr ⊢
      have e1 : (s.data.map fun b => Value.int .u8 b.toNat) = (Lib.strCells s).toArray := by
        apply Array.ext'
        simp [Lib.strCells]
      rw [e1] at hr
      exact ⟨_, _, hr, hgr.1, hgr.2, .inr ⟨_, rfl, Nat.le_refl _⟩⟩
  . by_cases hroom : n + s.size <= cap
    . have hcs' : cur.size = cap := by simpa using hcs
      have hr := Lib.run_append_room_string (P := P) w t u ty e i ht hu hi hsize g n cap cur hg s hroom (by omega)
      refine ⟨_, _, hr, ⟨hlen, .inr ⟨g, cap, _, rfl, hbg, setRow_heap w g cur _ e _ hg, hroom, hcm, ?_, ?_⟩⟩, ⟨rfl, rfl, rfl, by simp, fun k _ hk => setRow_other w g k _ (fun e => hk (by simp [Value.ownBlock, e]))⟩, .inl rfl⟩
      . simp only [List.size_toArray, List.length_append, List.length_take, List.length_drop, Array.length_toList, Lib.strCells_length]
        omega
      . have ht' : cur.toList.take n = xs := by simpa using htake
        rw [ht', <- hlen]
        exact List.take_left
    . have holds : ∀ j u, xs[j]? = some u -> w.cell? ((⟨g, 0, none⟩ : Addr).add j) = some u := hown.cells (g := g) rfl
      have hr := Lib.run_append_grow_string (P := P) w t u ty e i (.int .u8 0) ht hu hi hz ⟨g, 0, none⟩ n cap xs (by rw [hsize]; simpa using hxl) holds s (by omega) (by omega) (by rw [hby]; exact growslice_fits_wide (by omega) (by omega))
      have hgr := grown cap (by omega) (Value.ownBlock (.slice (some ⟨g, 0, none⟩) n cap))
      exact ⟨_, _, hr, hgr.1, hgr.2, .inr ⟨_, rfl, Nat.le_refl _⟩⟩
theorem ziy {ps : List Prop} {K : Act -> World -> Prop} (h : Rel C W0 F0 st a w F φ) (hT : z12 C) (hs : zg7 C st o = some (st', ps)) (hps : ∀ p ∈ ps, p)
    (hK : ∀ a' w' F' φ', Rel C W0 F0 st' a' w' F' φ' -> K a' w') : o.guard = none /\ o.wp C.P a w K Q := by
  unfold zg7 at hs
  split at hs
  case h_2 => cases hs
  rename_i c d ho hdst hg
  split at hs
  case h_2 => cases hs
  rename_i x y t t' hc hargs htys
  split at hs
  case h_2 => cases hs
  rename_i te te' v l h1 h1' h2 h3
  split at hs
  case h_2 => cases hs
  rename_i el k1 k2
  split at hs
  case h_2 => cases hs
  rename_i ie hie
  split at hs
  case h_2 => cases hs
  rename_i z hz
  have ea : c.args = #[x, y] := by rw [<- Array.toArray_toList (xs := c.args), hargs]
  have et : c.argTypes = #[t, t'] := by rw [<- Array.toArray_toList (xs := c.argTypes), htys]
  have hu := z2m (hT _ _ h1) k1
  have hu' := z2x (hT _ _ h1') k2
  have hg' := hg
  have hV := h.ev h2
  obtain ⟨s, hsv, hsl⟩ : ∃ s : ByteArray, a.eval y = .string s /\ s.data.toList = l := by
    have := h.ev h3
    generalize a.eval y = u at this
    cases this with
    | stat h => cases h with | str s => exact ⟨s, rfl, rfl⟩
  subst hsl
  have hsize : s.size = s.data.toList.length := by rw [Array.length_toList]; rfl
  have fin : ∀ {v' : Value} {w' : World}, (Builtin.append_ #[t, t'] o.type #[a.eval x, .string s]).run C.P w = .ok v' w' -> K (a.put o.dst v') w' -> o.wp C.P a w K Q := by
    intro v' w' hrun hnx
    unfold Oper.wp
    have : (execOp a.eval o).run C.P w = .ok (.value v') w' := by
      refine z34 ho hc ?_
      rw [ea, et]
      simp only [builtin, Sem.run_bind]
      have : (#[x, y].map a.eval) = #[a.eval x, a.eval y] := by simp
      rw [this, hsv, hrun]
      rfl
    rw [this]
    exact hnx
  have grow2 : ∀ {w' : World}, w.grownBy w' none -> Below w.heap.size w w' := fun hg => (Below.refl _ _).grown hg (Nat.le_refl _) (by simp)
  have fresh8 : ∀ {v v' : Value}, True := fun {_ _} => trivial
  split at hs
  . -- nil
    rename_i hcond
    split at hs
    case h_2 => cases hs
    rename_i hfr
    cases hs
    simp only [Bool.and_eq_true, decide_eq_true_eq] at hcond
    obtain ⟨⟨⟨z0, z1⟩, z2⟩, hd⟩ := hcond
    subst z0
    have z1 := Nat.eq_of_beq_eq_true z1
    have z2 := Nat.eq_of_beq_eq_true z2
    have hd := Nat.le_of_ble_eq_true hd
    have o1 : (s.data.toList.length : Int) <= 225179981368000 := hps _ (by simp)
    have hVn : a.eval x = .slice none 0 0 := by
      generalize a.eval x = v at hV
      cases hV with | stat hV => cases hV; rfl
    obtain ⟨v', w', hrun, h4, h5, h6⟩ := zc5 (ty := o.type) hu hu' hie hz z1 z2 (World.ownsRow_nil w 0 el 1) s (by omega)
    rw [Nat.zero_add, List.nil_append, hsize] at h4
    have hblk : v'.ownBlock = none ∨ ∃ g, v'.ownBlock = some g /\ w.heap.size <= g := h6
    rw [<- hVn] at hrun
    refine ⟨hg, fin hrun ?_⟩
    have hb := grow2 h5
    have hR := h.grown hb (fun _ hk => hk) (fun k hk => .inl hk) fun k hk => Nat.lt_of_lt_of_le (h.ro k hk) hb.size
    obtain ⟨pl, p1, p2, p3, p4⟩ := z35 (F := F) (B := W0.B) (base := 0) (b := d) (f := zeo s.data.toList) (sh := .leaf) h4 (fun k hk => by
      rcases hblk with h6 | ⟨g, h6, h7⟩
      . rw [h6] at hk; cases hk
      . rw [h6] at hk; cases hk; exact h.bnew h7) (fun k hk hF => by
      rcases hblk with h6 | ⟨g, h6, h7⟩
      . rw [h6] at hk; cases hk
      . rw [h6] at hk; cases hk; have := h.ro _ hF; omega) (z9i w' F s.data.toList)
    obtain ⟨B1, B2⟩ := p4 (fun k => if k = d then pl else φ k) (by simp)
    rw [hdst]
    exact hK _ _ _ _ ((hR.addBox hfr rfl pl (fun b c' gg hb' hg' hp => by
      rw [p1] at hp
      rcases hblk with h6 | ⟨g, h6, h7⟩
      . rw [h6] at hp; cases hp
      . rw [h6] at hp; cases hp; have := ((h.heap b c' hb').lt hg').1; omega) B1).putV hd B2)
  . -- the call's own
    rename_i b n hcond
    split at hs
    case h_2 => cases hs
    rename_i ty sh n' f hb
    split at hs
    case h_2 => cases hs
    rename_i hcnd
    cases hs
    simp only [Bool.and_eq_true, decide_eq_true_eq] at hcond hcnd
    obtain ⟨⟨⟨z0, z1⟩, z2⟩, hd⟩ := hcond
    subst z0
    have z1 := Nat.eq_of_beq_eq_true z1
    have z2 := Nat.eq_of_beq_eq_true z2
    have hd := Nat.le_of_ble_eq_true hd
    have e1 := Nat.eq_of_beq_eq_true hcnd.1
    have es := Shape.same_eq _ _ hcnd.2
    subst e1 es
    obtain ⟨o0, o1⟩ : n = n' /\ ((n + s.data.toList.length : Nat) : Int) <= 225179981368000 := hps _ (by simp)
    subst o0
    obtain ⟨xs, hown, hob1, hxs⟩ := zbz (h.heap b _ hb) hV rfl
    obtain ⟨v', w', hrun, h4, h5, hblk⟩ := zc5 (ty := o.type) hu hu' hie hz z1 z2 hown s (by omega)
    refine ⟨hg, fin hrun ?_⟩
    rw [hsize] at h4
    have hFn : ∀ k, v'.ownBlock = some k -> ¬ F k := by
      intro k hk hF
      rcases hblk with h6 | ⟨g, h6, h7⟩
      . rw [h6] at hk; exact ((h.heap b _ hb).lt (hob1 k hk)).2.1 hF
      . rw [h6] at hk; cases hk; have := h.ro _ hF; omega
    have hkeep : ∀ k, F k -> w'.heap[k]? = w.heap[k]? := fun k hk => h5.block k (h.ro k hk) fun e => ((h.heap b _ hb).lt (hob1 k e.symm)).2.1 hk
    obtain ⟨pl, p1, p2, p3, p4⟩ := z35 (F := F) (B := W0.B) (base := 0) (b := b) (f := fun i => if i < n then f i else zeo s.data.toList (i - n)) (sh := .leaf) h4 (fun k hk => by
      rcases hblk with h6 | ⟨g, h6, h7⟩
      . rw [h6] at hk; exact ((h.heap b _ hb).lt (hob1 k hk)).2.2
      . rw [h6] at hk; cases hk; exact h.bnew h7) hFn (fun i hi j hj => by
      obtain ⟨uu, hu1, hu2⟩ := z60 hown.1 hxs (z9i w F s.data.toList) i hi j hj
      exact ⟨uu, hu1, hu2.keep hkeep fun _ hk => hk⟩)
    obtain ⟨B1, B2⟩ := p4 (fun k => if k = b then pl else φ k) (by simp)
    rw [hdst]
    exact hK _ _ _ _ ((h.growBox hb h5 rfl (fun gg hg => hob1 gg hg) pl (fun gg hg => by
      rw [p1] at hg
      rcases hblk with h6 | ⟨g, h6, h7⟩
      . rw [h6] at hg; exact .inl (hob1 gg hg)
      . rw [h6] at hg; cases hg; exact .inr h7) B1).putV hd B2)
  . cases hs
end
end Go.AV
namespace Go.AV
open Go.RowKit
mutual
def frzN (N : Nat -> Prop) (h : List (Nat × BoxC)) : AV -> Option (AV × List Prop)
  | .own b n => match get h b with
    | some (.row _ sh n' f) => some (.nseq N sh n f, [n <= n'])
    | _ => none
  | .agg l => match zjy N h l with | some (m, ps) => some (.agg m, ps) | none => none
  | .mc sh x => match frzN N h x with | some (y, ps) => some (.mc sh y, ps) | none => none
  | x => match x.isStat with | true => some (x, []) | false => none
def zjy (N : Nat -> Prop) (h : List (Nat × BoxC)) : List AV -> Option (List AV × List Prop)
  | [] => some ([], [])
  | x :: l => match frzN N h x, zjy N h l with
    | some (y, ps), some (m, qs) => some (y :: m, ps ++ qs)
    | _, _ => none
end
def keyN : Nat := 1099511627777
def fzOf (C : Cfg) (h : List (Nat × BoxC)) (x : AV) : Option (AV × List Prop) := match C.told with
  | true => match get C.G keyN with
    | some (.cov N) => frzN N h x
    | _ => frz h x
  | false => frz h x
def frzE (h : AV -> Option (AV × List Prop)) : List (Nat × AV) -> List (Nat × AV) × List Prop
  | [] => ([], [])
  | (k, x) :: l => match frzE h l with
    | (m, qs) => match x.isStat with
      | true => ((k, x) :: m, qs)
      | false => match h x with
        | some (y, ps) => ((k, y) :: m, ps ++ qs)
        | none => ((k, x) :: m, qs)
def zp2 (h : List (Nat × BoxC)) : List Nat -> Bool
  | [] => true
  | b :: l => (match get h b with | some c => c.isRow | none => false) && zp2 h l
def frzH (h : AV -> Option (AV × List Prop)) : List (Nat × BoxC) -> List (Nat × BoxC) × List Prop
  | [] => ([], [])
  | (k, .cell tc sh x) :: l => match frzH h l with
    | (m, qs) => match x.isStat with
      | true => ((k, .cell tc sh x) :: m, qs)
      | false => match h x with
        | some (y, ps) => ((k, .cell tc sh y) :: m, ps ++ qs)
        | none => ((k, .cell tc sh x) :: m, qs)
  | (k, c) :: l => match frzH h l with
    | (m, qs) => ((k, c) :: m, qs)
def frzSt (C : Cfg) (ns : List Nat) (st : St) : Option (St × List Prop) :=
  match zp2 st.heap ns, frzE (fzOf C (z1r ns st.heap)) st.env, frzH (fzOf C (z1r ns st.heap)) (z1c ns st.heap) with
  | true, (env, ps), (hp, qs) => some (⟨env, hp⟩, ps ++ qs)
  | false, _, _ => none
def zzp (h : List (Nat × BoxC)) (b : Nat) : Bool := match get h b with | some c => c.isRow | none => false
def zd5 (h : List (Nat × BoxC)) : List Nat -> List Nat
  | [] => []
  | b :: l => match zzp h b with
    | true => b :: zd5 h l
    | false => zd5 h l
def frzT (C : Cfg) (ns : List Nat) (st : St) : St × List Prop := match frzSt C (zd5 st.heap ns) st with
  | some r => r
  | none => (st, [])
def zuf : Op -> List Operand
  | .buildSlice _ _ parts => parts.toList.map (·.2)
  | .store _ _ x => [x]
  | .call c => c.args.toList
  | _ => []
def zjz (C : Cfg) (CC : FuncId -> List AV -> AV -> Prop) (orc : FuncId -> List AV -> Option AV) (st : St) (o : Oper) : Option (St × List Prop) :=
  match o.guard, zuf o.op with
  | none, x :: l => match z2e (ev C st) (x :: l) with
    | some vs => match frzSt C (AV.boxesL vs) st with
      | some (st1, ps) => match z1x C CC orc [] st1 o with
        | some (st', qs) => some (st', ps ++ qs)
        | none => none
      | none => none
    | none => none
  | _, _ => none
section
variable {C : Cfg} {W0 : Entry} {F0 : Nat -> Prop} {st st' : St} {a : Act} {w : World} {F : Nat -> Prop} {φ : Nat -> Place} {CC : FuncId -> List AV -> AV -> Prop} {o : Oper} {Q : Exit -> Act -> World -> Prop}
mutual
theorem zd6 {N : Nat -> Prop} (h : Rel C W0 F0 st a w F φ) (hN : ∀ k, F k ∨ N k) : ∀ (x : AV) (y : AV) (ps : List Prop), frzN N st.heap x = some (y, ps) -> (∀ p ∈ ps, p) ->
    (∀ v, Rep w F φ v x -> RepS w (Lent st F φ) v y) /\ (∀ sh j v, Rep w F φ v (z6 sh x j) -> RepS w (Lent st F φ) v (z6 sh y j))
  | .own b n, y, ps, hf, hps => by
    simp only [frzN] at hf
    split at hf
    case h_2 => cases hf
    rename_i ty sh n' f hb
    cases hf
    have hn : n <= n' := hps _ (by simp)
    have key : ∀ v, Rep w F φ v (.own b n) -> RepS w (Lent st F φ) v (.nseq N sh n f) := by
      intro v hv
      obtain ⟨hsh, _, hrow⟩ := h.heap b _ hb
      rcases hv.own_inv with ⟨g, hg, rfl, hc⟩ | ⟨hg, h0, rfl⟩
      . rcases hrow with ⟨h1, _⟩ | ⟨g', cs, hg', _, hF, hh, hsz, hnc, _, hrep⟩
        . rw [hg] at h1; cases h1
        . obtain rfl : g' = g := by rw [hg] at hg'; injection hg' with e; exact e.symm
          refine .nseq N g' 0 n _ sh f (fun i j => cs.getD (i * sh.size + j) undef) (.inr ⟨b, _, hb, hg⟩) ((hN g').resolve_left hF) ⟨cs, _, hh⟩ hc (fun i hi j hj => ?_) fun i hi j hj => ?_
          . have hmul : (i + 1) * sh.size <= (φ b).cap * sh.size := Nat.mul_le_mul_right _ (by omega)
            rw [Nat.add_mul] at hmul
            rw [Nat.zero_add]; exact z4j hh (by omega)
          . exact (hrep i (by omega) j hj).keep (fun _ _ => rfl) fun k hk => .inl hk
      . subst h0; exact .nseq0 _ _ _ _ _
    refine ⟨key, fun s j v hv => ?_⟩
    cases s with
    | leaf => simp only [z6, z10, AV.isOne] at hv ⊢; exact key v hv
    | agg ss => simp only [z6] at hv ⊢; exact .any _ (hv.one rfl)
    | arr m s => simp only [z6] at hv ⊢; exact .any _ (hv.one rfl)
  | .agg l, y, ps, hf, hps => by
    simp only [frzN] at hf
    split at hf
    case h_2 => cases hf
    rename_i m qs hm
    cases hf
    refine ⟨fun v hv => ?_, fun s j v hv => ?_⟩
    . cases hv with | stat hv => cases hv
    . cases s with
      | leaf => simp only [z6, z10, AV.isOne] at hv ⊢; exact .any _ (hv.one rfl)
      | agg ss => simp only [z6] at hv ⊢; exact zax h hN l m ps hm hps ss j v hv
      | arr m s => simp only [z6] at hv ⊢; exact .any _ (hv.one rfl)
  | .mc sh x, y, ps, hf, hps => by
    simp only [frzN] at hf
    split at hf
    case h_2 => cases hf
    rename_i z qs hz
    cases hf
    obtain ⟨_, k2⟩ := zd6 h hN x z ps hz hps
    refine ⟨fun v hv => ?_, fun s' j v hv => ?_⟩
    . obtain ⟨cs, rfl, hsz, hr⟩ := hv.mc_inv
      exact .mc cs sh z hsz fun j hj => k2 sh j _ (hr j hj)
    . cases s' with
      | leaf => simp only [z6, z10, AV.isOne] at hv ⊢; exact .any _ (hv.one rfl)
      | agg ss => simp only [z6] at hv ⊢; exact .any _ (hv.one rfl)
      | arr m s => simp only [z6] at hv ⊢; exact .any _ (hv.one rfl)
  | .any, y, ps, hf, hps | .int _ _, y, ps, hf, hps | .bool _, y, ps, hf, hps | .str _, y, ps, hf, hps | .nils, y, ps, hf, hps | .nilp, y, ps, hf, hps | .seq _ _ _, y, ps, hf, hps | .seqc _ _ _, y, ps, hf, hps
  | .nseq _ _ _ _, y, ps, hf, hps | .cov _, y, ps, hf, hps | .rptr _ _, y, ps, hf, hps | .arr _ _, y, ps, hf, hps | .st _, y, ps, hf, hps | .clo _ _, y, ps, hf, hps
  | .optr _ _ _, y, ps, hf, hps | .tup _, y, ps, hf, hps | .when _ _, y, ps, hf, hps | .ptr _ _, y, ps, hf, hps => by
    simp only [frzN] at hf
    split at hf
    case h_2 => cases hf
    rename_i hst
    cases hf
    exact ⟨fun v hv => (hv.toS hst).keep (fun _ _ => rfl) fun k hk => .inl hk, fun s j v hv => (hv.toS (z1w s _ j hst)).keep (fun _ _ => rfl) fun k hk => .inl hk⟩
theorem zax {N : Nat -> Prop} (h : Rel C W0 F0 st a w F φ) (hN : ∀ k, F k ∨ N k) : ∀ (l m : List AV) (ps : List Prop), zjy N st.heap l = some (m, ps) -> (∀ p ∈ ps, p) -> ∀ ss j v, Rep w F φ v (zf ss l j) -> RepS w (Lent st F φ) v (zf ss m j)
  | [], m, ps, hf, _, ss, j, v, hv => by
    simp [zjy] at hf; obtain ⟨rfl, rfl⟩ := hf
    cases ss <;> simp only [zf] at hv ⊢ <;> exact .any _ (hv.one rfl)
  | x :: l, m, ps, hf, hps, ss, j, v, hv => by
    simp only [zjy] at hf
    split at hf
    case h_2 => cases hf
    rename_i y ps1 m' ps2 h1 h2
    cases hf
    cases ss with
    | nil => simp only [zf] at hv ⊢; exact .any _ (hv.one rfl)
    | cons s ss =>
      simp only [zf] at hv ⊢
      split
      . rename_i hj
        rw [if_pos hj] at hv
        exact (zd6 h hN x y ps1 h1 fun p hp => hps p (by simp [hp])).2 s j v hv
      . rename_i hj
        rw [if_neg hj] at hv
        exact zax h hN l m' ps2 h2 (fun p hp => hps p (by simp [hp])) ss _ v hv
end
theorem zh9 {h : AV -> Option (AV × List Prop)} : ∀ {l m : List (Nat × AV)} {ps : List Prop} {s : Nat} {y : AV}, frzE h l = (m, ps) -> (∀ p ∈ ps, p) -> get m s = some y ->
    ∃ x, get l s = some x /\ (y = x ∨ ∃ qs, h x = some (y, qs) /\ ∀ p ∈ qs, p)
  | [], m, ps, s, y, he, _, hm => by
    simp only [frzE] at he
    cases he
    simp [get] at hm
  | (k, x) :: l, m, ps, s, y, he, hps, hm => by
    simp only [frzE] at he
    obtain ⟨m', qs', hrec⟩ : ∃ m' qs', frzE h l = (m', qs') := ⟨_, _, rfl⟩
    rw [hrec] at he
    simp only at he
    have rest : ∀ {z : AV}, (∀ p ∈ qs', p) -> get ((k, z) :: m') s = some y -> (Nat.beq k s = true /\ y = z) ∨ ∃ x', get l s = some x' /\ Nat.beq k s = false /\ (y = x' ∨ ∃ qs, h x' = some (y, qs) /\ ∀ p ∈ qs, p) := by
      intro z hq hg
      simp only [get] at hg
      split at hg
      . rename_i e; cases hg; exact .inl ⟨e, rfl⟩
      . rename_i e
        obtain ⟨x', h1, h2⟩ := zh9 hrec hq hg
        exact .inr ⟨x', h1, e, h2⟩
    have fin : ∀ {z : AV}, (∀ p ∈ qs', p) -> get ((k, z) :: m') s = some y -> (z = x ∨ ∃ qs, h x = some (z, qs) /\ ∀ p ∈ qs, p) -> ∃ x', get ((k, x) :: l) s = some x' /\ (y = x' ∨ ∃ qs, h x' = some (y, qs) /\ ∀ p ∈ qs, p) := by
      intro z hq hg hz
      rcases rest hq hg with ⟨e, rfl⟩ | ⟨x', h1, e, h2⟩
      . exact ⟨x, by simp only [get, e], hz⟩
      . exact ⟨x', by simp only [get, e]; exact h1, h2⟩
    split at he
    . cases he; exact fin hps hm (.inl rfl)
    . split at he
      . rename_i y' ps' hf
        cases he
        exact fin (fun p hp => hps p (List.mem_append.2 (.inr hp))) hm (.inr ⟨ps', hf, fun p hp => hps p (List.mem_append.2 (.inl hp))⟩)
      . cases he; exact fin hps hm (.inl rfl)
theorem zd7 {h : AV -> Option (AV × List Prop)} : ∀ {l m : List (Nat × BoxC)} {ps : List Prop} {s : Nat} {c : BoxC}, frzH h l = (m, ps) -> (∀ p ∈ ps, p) -> get m s = some c ->
    ∃ d, get l s = some d /\ (c = d ∨ ∃ tc sh x y qs, d = .cell tc sh x /\ c = .cell tc sh y /\ h x = some (y, qs) /\ ∀ p ∈ qs, p)
  | [], m, ps, s, c, he, _, hm => by
    simp only [frzH] at he
    cases he
    simp [get] at hm
  | (k, d) :: l, m, ps, s, c, he, hps, hm => by
    obtain ⟨m', qs', hrec⟩ : ∃ m' qs', frzH h l = (m', qs') := ⟨_, _, rfl⟩
    have fin : ∀ {z : BoxC}, (∀ p ∈ qs', p) -> get ((k, z) :: m') s = some c -> (z = d ∨ ∃ tc sh x y qs, d = .cell tc sh x /\ z = .cell tc sh y /\ h x = some (y, qs) /\ ∀ p ∈ qs, p) ->
        ∃ d', get ((k, d) :: l) s = some d' /\ (c = d' ∨ ∃ tc sh x y qs, d' = .cell tc sh x /\ c = .cell tc sh y /\ h x = some (y, qs) /\ ∀ p ∈ qs, p) := by
      intro z hq hg hz
      simp only [get] at hg
      split at hg
      . rename_i e
        cases hg
        exact ⟨d, by simp only [get, e], hz⟩
      . rename_i e
        obtain ⟨d', h1, h2⟩ := zd7 hrec hq hg
        exact ⟨d', by simp only [get, e]; exact h1, h2⟩
    cases d with
    | row ty sh n f =>
      simp only [frzH, hrec] at he
      cases he
      exact fin hps hm (.inl rfl)
    | cell tc sh x =>
      simp only [frzH, hrec] at he
      split at he
      . cases he; exact fin hps hm (.inl rfl)
      . split at he
        . rename_i y' ps' hf
          cases he
          exact fin (fun p hp => hps p (List.mem_append.2 (.inr hp))) hm (.inr ⟨tc, sh, x, y', ps', rfl, rfl, hf, fun p hp => hps p (List.mem_append.2 (.inl hp))⟩)
        . cases he; exact fin hps hm (.inl rfl)
theorem Rel.frzSt (h : Rel C W0 F0 st a w F φ) {ns : List Nat} {st1 : St} {ps : List Prop} (hs : Go.AV.frzSt C ns st = some (st1, ps)) (hps : ∀ p ∈ ps, p) :
    ∃ F', Rel C W0 F0 st1 a w F' φ := by
  unfold Go.AV.frzSt at hs
  split at hs
  case h_2 => cases hs
  rename_i env ps' hp qs' hr he hhp
  cases hs
  have hpsE : ∀ p ∈ ps', p := fun p hq => hps p (List.mem_append.2 (.inl hq))
  have hpsH : ∀ p ∈ qs', p := fun p hq => hps p (List.mem_append.2 (.inr hq))
  have hsel : ∀ b c, get (z1r ns st.heap) b = some c -> get st.heap b = some c /\ b ∈ ns := fun b c hb => z37 hb
  have hR : Rel C W0 F0 { st with heap := z1r ns st.heap } a w F φ := h.setHeap (fun b c hb => h.heap b c (hsel b c hb).1)
    (fun b b' c c' g h1 h2 => h.inj b b' c c' g (hsel b c h1).1 (hsel b' c' h2).1) fun b p c hb hc => (h.anc b p hb).2.2 c (hsel b c hc).1
  have hsub : ∀ k, F k -> Lent { st with heap := z1r ns st.heap } F φ k := fun k hk => .inl hk
  have hlt : ∀ k, Lent { st with heap := z1r ns st.heap } F φ k -> F k ∨ ∃ b c, b ∈ ns /\ get st.heap b = some c /\ (φ b).blk = some k := fun k hk => by
    rcases hk with hk | ⟨b, c, hb, hg⟩
    . exact .inl hk
    . exact .inr ⟨b, c, (hsel b c hb).2, (hsel b c hb).1, hg⟩
  have hval : ∀ x y qs, fzOf C (z1r ns st.heap) x = some (y, qs) -> (∀ p ∈ qs, p) -> (∀ v, Rep w F φ v x -> RepS w (Lent { st with heap := z1r ns st.heap } F φ) v y) /\ (∀ sh j v, Rep w F φ v (z6 sh x j) -> RepS w (Lent { st with heap := z1r ns st.heap } F φ) v (z6 sh y j)) := by
    intro x y qs hf hq
    unfold fzOf at hf
    split at hf
    . split at hf
      . rename_i N hN
        have hcov : ∀ k, F k ∨ N k := by
          have := h.glob _ _ hN
          cases this with | cov _ _ _ hN => exact hN
        exact zd6 hR hcov x y qs hf hq
      . exact z4k hR x y qs hf hq
    . exact z4k hR x y qs hf hq
  have hdrop : ∀ b c, get (z1c ns st.heap) b = some c -> z1i w (Lent { st with heap := z1r ns st.heap } F φ) φ W0.B b c := by
    intro b c hc
    obtain ⟨h1, h2⟩ := zp hc
    have hb := h.heap b c h1
    refine hb.keep (fun _ _ => rfl) hsub (fun g hg => ⟨rfl, fun hF => ?_⟩) rfl fun _ _ => rfl
    rcases hlt g hF with k1 | ⟨b', c', k1, k2, k3⟩
    . exact (hb.lt hg).2.1 k1
    . exact h2 (h.inj b' b c' c g k2 h1 k3 hg ▸ k1)
  have hkey : ∀ b c, get hp b = some c -> ∃ d, get (z1c ns st.heap) b = some d /\ (d.isRow = false -> c.isRow = false) := by
    intro b c hc
    obtain ⟨d, h1, h2⟩ := zd7 hhp hpsH hc
    refine ⟨d, h1, fun hd => ?_⟩
    rcases h2 with rfl | ⟨tc, sh, x, y, qs, rfl, rfl, _⟩
    . exact hd
    . rfl
  refine ⟨Lent { st with heap := z1r ns st.heap } F φ, fun s y hy => ?_, fun b c hc => ?_, fun b b' c c' g h1 h2 => ?_, fun k hk => ?_, h.base, fun k hk => hsub k (h.sub k hk), fun k hk => ?_, h.dfr, h.tsz,
    fun g x hg => (h.glob g x hg).keep (fun _ _ => rfl) hsub, fun b p hb => ⟨(h.anc b p hb).1, (h.anc b p hb).2.1, fun c hc => ?_⟩⟩
  . obtain ⟨x, hx, hyx⟩ := zh9 he hpsE hy
    obtain ⟨v, hv, hrep⟩ := h.env s x hx
    rcases hyx with rfl | ⟨qs, hf, hq⟩
    . exact ⟨v, hv, hrep.keep (fun _ _ => rfl) hsub fun _ _ => rfl⟩
    . exact ⟨v, hv, .stat ((hval x y qs hf hq).1 v hrep)⟩
  . obtain ⟨d, h1, h2⟩ := zd7 hhp hpsH hc
    have hb := hdrop b d h1
    rcases h2 with rfl | ⟨tc, sh, x, y, qs, rfl, rfl, hf, hq⟩
    . exact hb
    . obtain ⟨h0, g, cs, k1, k2, k3, k4, k5, k6⟩ := hb
      obtain ⟨_, g', cs', j1, _, _, j4, _, j6⟩ := h.heap b _ (zp h1).1
      have e1 : g' = g := by rw [j1] at k1; injection k1
      subst e1
      have e2 : cs' = cs := by rw [j4] at k4; injection k4 with e; injection e
      subst e2
      exact ⟨h0, g', cs', k1, k2, k3, k4, k5, fun j hj => .stat ((hval x y qs hf hq).2 _ _ _ (j6 j hj))⟩
  . obtain ⟨d, d1, _⟩ := hkey b c h1
    obtain ⟨d', d2, _⟩ := hkey b' c' h2
    exact h.inj b b' d d' g (zp d1).1 (zp d2).1
  . rcases hlt k hk with k1 | ⟨b', c', k1, k2, k3⟩
    . exact h.ro k k1
    . exact ((h.heap b' c' k2).lt k3).1
  . rcases hlt k hk with k1 | ⟨b', c', k1, k2, k3⟩
    . exact h.new k k1
    . exact .inr ((h.heap b' c' k2).lt k3).2.2
  . obtain ⟨d, d1, d2⟩ := hkey b c hc
    exact d2 ((h.anc b p hb).2.2 d (zp d1).1)
theorem Rel.frzT (h : Rel C W0 F0 st a w F φ) {ns : List Nat} (hps : ∀ p ∈ (Go.AV.frzT C ns st).2, p) : ∃ F', Rel C W0 F0 (Go.AV.frzT C ns st).1 a w F' φ := by
  unfold Go.AV.frzT at hps ⊢
  split at hps
  . rename_i r hr
    exact h.frzSt (st1 := r.1) (ps := r.2) hr hps
  . exact ⟨F, h⟩
theorem zg8 {orc : FuncId -> List AV -> Option AV} {ps : List Prop} {K : Act -> World -> Prop} (h : Rel C W0 F0 st a w F φ) (hT : z12 C) (hCC : CCOK C CC) (hs : zjz C CC orc st o = some (st', ps)) (hps : ∀ p ∈ ps, p)
    (hK : ∀ a' w' F' φ', Rel C W0 F0 st' a' w' F' φ' -> K a' w') : o.guard = none /\ o.wp C.P a w K Q := by
  unfold zjz at hs
  split at hs
  case h_2 => cases hs
  rename_i x l hg hx
  split at hs
  case h_2 => cases hs
  rename_i vs hv
  split at hs
  case h_2 => cases hs
  rename_i st1 ps1 h1
  split at hs
  case h_2 => cases hs
  rename_i st2 qs h2
  cases hs
  obtain ⟨F', hR⟩ := h.frzSt h1 fun p hp => hps p (List.mem_append.2 (.inl hp))
  have := z3j (Q := Q) (ops := #[]) (K := K) hR hT hCC h2 (fun p hp => hps p (List.mem_append.2 (.inr hp))) hK
  rw [if_pos (by simp [Region.wanted, hg])] at this
  exact ⟨hg, this⟩
end
def zrl (C : Cfg) (all : List Oper) (st : St) (o : Oper) : Option (St × List Prop) :=
  match o.guard, o.dst, z8q C o with
  | some g, some d, true => match z7e C st all g, z1x C (fun _ _ _ => False) (fun _ _ => none) [] st { o with guard := none } with
    | some q, some (st2, ps) => match z19 C st { o with guard := none }, get st2.env d, get st2.heap d with
      | false, some (.own b n), some (.row _ sh n' f) => match Nat.beq b d && z18 st d with
        | true => some ({ st with env := put st.env d (.when q (.seq sh n f)) }, impl q (ps ++ [n <= n']))
        | false => none
      | _, _, _ => none
    | _, _ => none
  | _, _, _ => none
section
variable {C : Cfg} {W0 : Entry} {F0 : Nat -> Prop} {st st' : St} {a : Act} {w : World} {F : Nat -> Prop} {φ : Nat -> Place} {CC : FuncId -> List AV -> AV -> Prop} {o : Oper} {Q : Exit -> Act -> World -> Prop}
theorem z5c {ks : List Nat} {b : Nat} {c : BoxC} (hk : inN b ks = true) : ∀ {l : List (Nat × BoxC)}, get l b = some c -> get (z1r ks l) b = some c
  | [], h => by simp [get] at h
  | (k, x) :: l, h => by
    simp only [get] at h
    split at h
    . rename_i e
      cases h
      have := Nat.eq_of_beq_eq_true e
      subst this
      simp only [z1r, hk, get, e]
    . rename_i e
      simp only [z1r]
      split
      . simp only [get, e]; exact z5c hk h
      . exact z5c hk h
theorem Rel.freezeAt {st2 : St} {a2 : Act} {d : Nat} {ty : TypeId} {sh : Shape} {n n' : Nat} {f : Nat -> AV} (hR : Rel C W0 F0 st2 a2 w F φ) (he : get st2.env d = some (.own d n)) (hb : get st2.heap d = some (.row ty sh n' f)) (hn : n <= n')
    (h1 : ∀ s, s ≠ d -> get st.env s = get st2.env s) (h2 : ∀ b, b ≠ d -> get st.heap b = get st2.heap b) (h3 : get st.heap d = none) :
    ∃ F', Rel C W0 F0 { st with env := put st.env d (.when true (.seq sh n f)) } a2 w F' φ := by
  have hsel : ∀ b c, get (z1r [d] st2.heap) b = some c -> get st2.heap b = some c /\ b ∈ [d] := fun b c hb => z37 hb
  have hR1 : Rel C W0 F0 { st2 with heap := z1r [d] st2.heap } a2 w F φ := hR.setHeap (fun b c hb => hR.heap b c (hsel b c hb).1)
    (fun b b' c c' g h1 h2 => hR.inj b b' c c' g (hsel b c h1).1 (hsel b' c' h2).1) fun b p c hb hc => (hR.anc b p hb).2.2 c (hsel b c hc).1
  have hsd : get (z1r [d] st2.heap) d = some (.row ty sh n' f) := z5c (by simp [inN]) hb
  have hsub : ∀ k, F k -> Lent { st2 with heap := z1r [d] st2.heap } F φ k := fun k hk => .inl hk
  have hlt : ∀ k, Lent { st2 with heap := z1r [d] st2.heap } F φ k -> F k ∨ ∃ c, get st2.heap d = some c /\ (φ d).blk = some k := fun k hk => by
    rcases hk with hk | ⟨b, c, hb, hg⟩
    . exact .inl hk
    . have := (hsel b c hb).2
      simp at this
      subst this
      exact .inr ⟨c, (hsel b c hb).1, hg⟩
  refine ⟨Lent { st2 with heap := z1r [d] st2.heap } F φ, fun s y hy => ?_, fun b c hc => ?_, fun b b' c c' g k1 k2 => ?_, fun k hk => ?_, hR.base, fun k hk => hsub k (hR.sub k hk), fun k hk => ?_, hR.dfr, hR.tsz,
    fun g x hg => (hR.glob g x hg).keep (fun _ _ => rfl) hsub, fun b p hb' => ⟨(hR.anc b p hb').1, (hR.anc b p hb').2.1, fun c hc => ?_⟩⟩
  . by_cases e : s = d
    . subst e
      simp only [zx, Option.some.injEq] at hy
      subst hy
      obtain ⟨v, hv, hrep⟩ := hR.env s _ he
      refine ⟨v, hv, .whenT true (fun _ => .stat ?_) fun h => by cases h⟩
      exact (z4k hR1 (.own s n) (.seq sh n f) [n <= n'] (by simp only [frz, hsd]) (fun p hp => by rw [List.mem_singleton.1 hp]; exact hn)).1 v hrep
    . simp only [zc _ _ _ _ e] at hy
      obtain ⟨v, hv, hrep⟩ := hR.env s y (by rw [<- h1 s e]; exact hy)
      exact ⟨v, hv, hrep.keep (fun _ _ => rfl) hsub fun _ _ => rfl⟩
  . have hbd : b ≠ d := fun e => by subst e; simp only at hc; rw [h3] at hc; cases hc
    simp only at hc
    rw [h2 b hbd] at hc
    have hb' := hR.heap b c hc
    refine hb'.keep (fun _ _ => rfl) hsub (fun g hg => ⟨rfl, fun hF => ?_⟩) rfl fun _ _ => rfl
    rcases hlt g hF with k1 | ⟨c', k2, k3⟩
    . exact (hb'.lt hg).2.1 k1
    . exact hbd (hR.inj b d c c' g hc k2 hg k3)
  . have hbd : b ≠ d := fun e => by subst e; simp only at k1; rw [h3] at k1; cases k1
    have hbd' : b' ≠ d := fun e => by subst e; simp only at k2; rw [h3] at k2; cases k2
    simp only at k1 k2
    rw [h2 b hbd] at k1
    rw [h2 b' hbd'] at k2
    exact hR.inj b b' c c' g k1 k2
  . rcases hlt k hk with k1 | ⟨c', k2, k3⟩
    . exact hR.ro k k1
    . exact ((hR.heap d c' k2).lt k3).1
  . rcases hlt k hk with k1 | ⟨c', k2, k3⟩
    . exact hR.new k k1
    . exact .inr ((hR.heap d c' k2).lt k3).2.2
  . have hbd : b ≠ d := fun e => by subst e; simp only at hc; rw [h3] at hc; cases hc
    simp only at hc
    rw [h2 b hbd] at hc
    exact (hR.anc b p hb').2.2 c hc
theorem ziz {st : St} {d : Nat} (h : z18 st d = true) : get st.heap d = none := by
  simp only [z18, Bool.not_eq_true', Bool.or_eq_false_iff] at h
  cases hg : get st.heap d with
  | none => rfl
  | some c => exact ((z1y hg h.2.1).2 rfl).elim
theorem znc {ops : Array Oper} {ps : List Prop} {K : Act -> World -> Prop} (h : Rel C W0 F0 st a w F φ) (hT : z12 C) (hCC : CCOK C CC) (hs : zrl C ops.toList st o = some (st', ps)) (hps : ∀ p ∈ ps, p)
    (hK : ∀ a' w' F' φ', Rel C W0 F0 st' a' w' F' φ' -> K a' w') : if Region.wanted o (yielded ops a.tmps) then o.wp C.P a w K Q else K (a.put o.dst undef) w := by
  unfold zrl at hs
  split at hs
  case h_2 => cases hs
  rename_i g d hg hdst hnew
  split at hs
  case h_2 => cases hs
  rename_i q st2 ps2 hq hstep
  split at hs
  case h_2 => cases hs
  rename_i b n ty sh n' f hgr he hb
  split at hs
  case h_2 => cases hs
  rename_i hbd
  cases hs
  simp only [Bool.and_eq_true] at hbd
  obtain ⟨e1, e2⟩ := hbd
  have e1 := Nat.eq_of_beq_eq_true e1
  subst e1
  have hw := z9b h hq hg
  rw [hw]
  have hd : zn4 C o.dst = true := by
    unfold z1x at hstep
    split at hstep
    . cases hstep
    . rename_i hh; exact hh
  cases q with
  | true =>
    have hps' := z81 hps rfl
    have hn : n <= n' := hps' _ (by simp)
    obtain ⟨fr1, fr2⟩ := z2n hgr hstep
    have hwr : z1a C st { o with guard := none } = [b] := zju (S := st) (o := { o with guard := none }) hnew hdst
    rw [hwr] at fr2
    have := z3j (Q := Q) (ops := #[]) (o := { o with guard := none }) (K := K) h hT (CC := fun _ _ _ => False) ⟨fun _ _ _ hf => hf.elim, hCC.2⟩ hstep (fun p hp => hps' p (by simp [hp])) fun a' w' F' φ' hR => by
      obtain ⟨F2, hR2⟩ := hR.freezeAt he hb hn (fun s hs => (fr1 s (by rw [hdst]; simpa using fun e => hs e.symm)).symm) (fun b' hb' => (fr2 b' (by simpa using hb')).symm) (ziz e2)
      exact hK _ _ _ _ hR2
    rw [if_pos (by simp [Region.wanted])] at this
    simp only [if_true]
    exact this
  | false =>
    simp only [Bool.false_eq_true, if_false]
    rw [hdst]
    exact hK _ _ _ _ (h.putV (zh4 hd hdst) (.whenT false (fun h => by cases h) fun _ => .inl rfl))
end
end Go.AV
