/- A call to which boxes are lent: what is known afterwards holds. -/
import Derived.Test.YtmlgkljbhidlhaaAvLent
namespace Go.AV
open Go.RowKit

section
variable {C : Cfg} {W0 : Entry} {F0 : Nat → Prop} {st st' : St} {a : Act} {w : World} {F : Nat → Prop} {φ : Nat → Place} {CC : FuncId → List AV → AV → Prop} {o : Oper} {orc : FuncId → List AV → Option AV}
  {Q : Exit → Act → World → Prop}

theorem Rel.evF (h : Rel C W0 F0 st a w F φ) {fx : Operand} {f : FuncId} (h1 : Go.AV.ev C st fx = some (AV.clo f [])) : a.eval fx = .func (.func f) #[] #[] := by
  have hfv : ∃ cv : Array Value, a.eval fx = .func (.func f) #[] cv ∧ cv.size = 0 := by
    have := h.ev h1
    generalize a.eval fx = v at this
    cases this with
    | stat hv => cases hv with | clo _ cv _ hs hc => exact ⟨cv, rfl, hs⟩
    | clo _ cv _ hs hc => exact ⟨cv, rfl, hs⟩
  obtain ⟨cv, hfv, hcv⟩ := hfv
  obtain rfl : cv = #[] := Array.eq_empty_of_size_eq_zero hcv
  exact hfv

/-- The boxes are others, each as it should be. -/
theorem Rel.setHeap (h : Rel C W0 F0 st a w F φ) {H : List (Nat × BoxC)} (hok : ∀ b c, get H b = some c → BoxOK w F φ W0.B b c)
    (hinj : ∀ b b' c c' g, get H b = some c → get H b' = some c' → (φ b).blk = some g → (φ b').blk = some g → b = b')
    (hanc : ∀ b p c, W0.A b = some p → get H b = some c → c.isRow = false) : Rel C W0 F0 { st with heap := H } a w F φ :=
  ⟨h.env, hok, hinj, h.ro, h.base, h.sub, h.new, h.dfr, h.tsz, h.glob, fun b p hb => ⟨(h.anc b p hb).1, (h.anc b p hb).2.1, fun c hc => hanc b p c hb hc⟩⟩

/-- After the call, without the boxes that were lent. -/
theorem Rel.lentBack (h : Rel C W0 F0 st a w F φ) {ns : List Nat} {hs : List BoxC} {os : List (Option BoxC)} {w' : World} {F' : Nat → Prop} {φ' : Nat → Place} (hnd : nodupN ns = true)
    (hns : ns.length = hs.length ∧ ∀ (i b : Nat), ns[i]? = some b → ∃ c, hs[i]? = some c ∧ get st.heap b = some c)
    (hk : Kept (LentTo (fun i => φ (ns.getD i 0)) ns.length) w w') (f1 : ∀ k, F k → F' k) (f2 : ∀ k, F' k → F k ∨ w.heap.size ≤ k ∨ LentTo (fun i => φ (ns.getD i 0)) ns.length k) (f3 : ∀ k, F' k → k < w'.heap.size)
    (hst : ∀ i tc sh x, hs[i]? = some (.cell tc sh x) → φ' i = φ (ns.getD i 0)) :
    Rel C W0 F0 ⟨killsEnv (goneN ns hs os) st.env, dropAll ns (killsHeap (goneN ns hs os) st.heap)⟩ a w' F' (fun b => if inN b ns then φ' (idxN ns b) else φ b) := by
  have lent : ∀ g, LentTo (fun i => φ (ns.getD i 0)) ns.length g → ∃ b c, b ∈ ns ∧ get st.heap b = some c ∧ (φ b).blk = some g := by
    rintro g ⟨i, hi, hg⟩
    obtain ⟨b, hb⟩ : ∃ b, ns[i]? = some b := ⟨_, List.getElem?_eq_getElem hi⟩
    obtain ⟨c, _, hc⟩ := hns.2 i b hb
    refine ⟨b, c, List.mem_of_getElem? hb, hc, ?_⟩
    simpa [List.getD_eq_getElem?_getD, hb] using hg
  have hkF : ∀ k, F k → w'.heap[k]? = w.heap[k]? := fun k hF => hk.block k (h.ro k hF) fun hl => by
    obtain ⟨b, c, _, hc, hg⟩ := lent k hl
    exact ((h.heap b c hc).lt hg).2.1 hF
  have same : ∀ b, b ∉ goneN ns hs os → (if inN b ns then φ' (idxN ns b) else φ b) = φ b := fun b hb => by
    cases hi : inN b ns with
    | false => simp
    | true =>
      have := idxN_get hi
      obtain ⟨tc, sh, x, c', h1, h2⟩ := goneN_not this hb
      simp only [if_true]
      rw [hst _ _ sh x h1, List.getD_eq_getElem?_getD, this, Option.getD_some]
  have rep : ∀ v x, Rep w F φ v x → (∀ b ∈ goneN ns hs os, x.names b = false) → Rep w' F' (fun b => if inN b ns then φ' (idxN ns b) else φ b) v x := fun v x hr hx =>
    hr.keep hkF f1 fun b hb => same b fun hm => by rw [hx b hm] at hb; cases hb
  have hout : ∀ b, b ∉ ns → (fun b => if inN b ns then φ' (idxN ns b) else φ b) b = φ b := fun b hb => by
    show (if inN b ns then φ' (idxN ns b) else φ b) = φ b
    cases hi : inN b ns with
    | false => simp
    | true => exact absurd (inN_iff.1 hi) hb
  refine ⟨fun s x hs' => ?_, fun b c hc => ?_, fun b b' c c' g h1 h2 h3 h4 => ?_, f3, h.base.trans hk ?_, fun k hk => f1 k (h.sub k hk), fun k hk' => ?_, h.dfr, h.tsz, fun g x hg => (h.glob g x hg).keep hkF f1, fun b p hb => ?_⟩
  · obtain ⟨y, hy, hx⟩ := killsEnv_get hs'
    obtain ⟨v, hv, hr⟩ := h.env s y hy
    rcases hx with ⟨rfl, hx⟩ | rfl
    · exact ⟨v, hv, rep v y hr hx⟩
    · exact ⟨v, hv, .whenT false (fun h => by cases h) fun _ => .inr rfl⟩
  · obtain ⟨h1, h2⟩ := get_dropAll hc
    obtain ⟨d, h3, h4⟩ := killsHeap_get h1
    have hb := h.heap b d h3
    have hB : ∀ g, (φ b).blk = some g → w'.heap[g]? = w.heap[g]? ∧ ¬ F' g := fun g hg => by
      obtain ⟨l1, l2, l3⟩ := hb.lt hg
      have hl : ¬ LentTo (fun i => φ (ns.getD i 0)) ns.length g := fun hl => by
        obtain ⟨b', c', m1, m2, m3⟩ := lent g hl
        exact h2 (h.inj b' b c' d g m2 h3 m3 hg ▸ m1)
      exact ⟨hk.block g l1 hl, fun hF => by
        rcases f2 g hF with k1 | k1 | k1
        · exact l2 k1
        · omega
        · exact hl k1⟩
    cases d with
    | row ty sh n f =>
      obtain ⟨_, rfl⟩ := h4
      obtain ⟨b0, b1, b2⟩ := hb
      refine ⟨by rw [hout b h2]; exact b0, by rw [hout b h2]; exact b1, ?_⟩
      rw [hout b h2]
      rcases b2 with b2 | ⟨g, cs, b3, b4, b5, b6, b7, b8, b9, b10⟩
      · exact .inl b2
      · exact .inr ⟨g, cs, b3, b4, (hB g b3).2, (hB g b3).1.trans b6, b7, b8, b9, fun i hi j hj => (b10 i hi j hj).keep hkF f1⟩
    | cell tc sh x =>
      cases c with
      | row => exact h4.2.elim
      | cell tc' sh' y =>
        obtain ⟨_, rfl, rfl, h5⟩ := h4
        obtain ⟨b0, g, cs, b3, b4, b5, b6, b7, b8⟩ := hb
        refine ⟨by rw [hout b h2]; exact b0, g, cs, by rw [hout b h2]; exact b3, b4, (hB g b3).2, (hB g b3).1.trans b6, b7, fun j hj => ?_⟩
        rcases h5 j with ⟨h6, h7⟩ | h6
        · rw [h6]; exact rep _ _ (b8 j hj) h7
        · rw [h6]; exact .stat (.any _ (Rep.leaf1 sh' x j (b8 j hj)))
  · obtain ⟨k1, k2⟩ := get_dropAll h1
    obtain ⟨k3, k4⟩ := get_dropAll h2
    obtain ⟨d, k5, _⟩ := killsHeap_get k1
    obtain ⟨d', k6, _⟩ := killsHeap_get k3
    have h3 := (congrArg Place.blk (hout b k2)).symm.trans h3
    have h4 := (congrArg Place.blk (hout b' k4)).symm.trans h4
    exact h.inj b b' d d' g k5 k6 h3 h4
  · intro i hl hi
    obtain ⟨b, c, _, hc, hg⟩ := lent i hl
    rcases ((h.heap b c hc).lt hg).2.2 with k | k
    · omega
    · exact k
  · rcases f2 k hk' with k1 | k1 | k1
    · exact h.new k k1
    · exact .inr (h.bnew k1)
    · obtain ⟨b, c, _, hc, hg⟩ := lent k k1
      exact .inr ((h.heap b c hc).lt hg).2.2
  · obtain ⟨a1, a2, a3⟩ := h.anc b p hb
    refine ⟨a1, ?_, fun c hc => ?_⟩
    · cases hi : inN b ns with
      | false => simpa using a2
      | true =>
        have := idxN_get hi
        obtain ⟨c, h1, h2⟩ := hns.2 _ _ this
        have hrow := a3 c h2
        cases c with
        | row => cases hrow
        | cell tc sh x =>
          simp only [if_true]
          rw [hst _ _ sh x h1, List.getD_eq_getElem?_getD, this, Option.getD_some]
          exact a2
    · obtain ⟨h1, _⟩ := get_dropAll hc
      obtain ⟨d, h3, h4⟩ := killsHeap_get h1
      rw [h4.1]; exact a3 d h3

theorem lent_sound {ps : List Prop} {K : Act → World → Prop} (h : Rel C W0 F0 st a w F φ) (hCCL : ∀ f as hs r os, C.CCL f as hs r os → CallOK C.P f ∧ RLent C.P C.G f as hs r os) (hs : absLent C st o = some (st', ps)) (hps : ∀ p ∈ ps, p)
    (hK : ∀ a' w' F' φ', Rel C W0 F0 st' a' w' F' φ' → K a' w') : o.guard = none ∧ o.wp C.P a w K Q := by
  unfold absLent at hs
  split at hs
  case h_2 => cases hs
  rename_i c ho hg
  split at hs
  case h_2 => cases hs
  rename_i fx hcal
  split at hs
  case h_2 => cases hs
  rename_i f args h1 h2
  generalize reach st.heap 64 (AV.boxesL args) [] = ns at hs
  unfold lentV at hs
  split at hs
  case h_2 => cases hs
  rename_i hs0 hcon
  split at hs
  case h_2 => cases hs
  rename_i r os _
  unfold lentW at hs
  split at hs
  case h_2 => cases hs
  rename_i cs hrest
  split at hs
  case h_2 => cases hs
  rename_i st1 hc hst1
  cases hs
  refine ⟨hg, ?_⟩
  simp only [Bool.and_eq_true] at hc
  obtain ⟨⟨⟨⟨⟨⟨⟨⟨c1, c2⟩, c3⟩, c4⟩, c5⟩, c6⟩, c7⟩, c8⟩, c9⟩ := hc
  obtain ⟨hok, hcall⟩ := hCCL _ _ _ _ _ (hps _ (List.mem_singleton.2 rfl))
  have hns := contents_get hcon
  have hrl := restL_get hrest
  obtain ⟨n1, n2⟩ := evList_rep h2 (fun x _ u hu => h.ev hu)
  have hfv := h.evF h1
  have hrun : (execOp a.eval o).run C.P w = .ok (.enter f (c.args.map a.eval)) w := by
    obtain ⟨callee, args', tys⟩ := c
    cases hcal
    simp only [execOp, ho, resolve, Sem.run_bind, hfv]
    simp only [Deferred.ofValue, Sem.run_pure, Result.andThen_ok, invoke, Array.empty_append, Array.append_empty]
    exact hok _ w
  unfold Oper.wp
  rw [hrun]
  show Calls C.P f _ w _
  have hφ : ∀ b, inN b ns = true → (fun i => φ (ns.getD i 0)) (idxN ns b) = φ b := fun b hb => by
    show φ (ns.getD (idxN ns b) 0) = φ b
    rw [List.getD_eq_getElem?_getD, idxN_get hb, Option.getD_some]
  have hat : ∀ i : Nat, i < ns.length → ∃ b c, ns[i]? = some b ∧ hs0[i]? = some c ∧ get st.heap b = some c := fun i hi => by
    obtain ⟨c, k1, k2⟩ := hns.2 i _ (List.getElem?_eq_getElem hi)
    exact ⟨_, c, List.getElem?_eq_getElem hi, k1, k2⟩
  refine (hcall w F (fun i => φ (ns.getD i 0)) _ h.ro h.glob (by rw [subL_len]; simpa using n1) (fun j hj => ?_) (fun i c hi => ?_) (fun i i' g hi hi' e e' => ?_)).mono ?_
  · rw [subL_len] at hj
    have := n2 j hj
    have h5 : Rep w F φ ((c.args.map a.eval).getD j undef) (args.getD j .any) := by simpa [Array.getD_eq_getD_getElem?, List.getD_eq_getElem?_getD] using this
    rw [subL_getD _ _ _ hj]
    exact sub_val (φ2 := fun i => φ (ns.getD i 0)) (n := idxN ns) (m := fun b => inN b ns) hφ (isVal_or (areVals_getD c2 hj)) (only0L_getD c1 hj) h5
  · obtain ⟨d, hd, rfl⟩ := subBoxes_get _ hi
    have hi' : i < ns.length := by rw [hns.1]; exact (List.getElem?_eq_some_iff.1 hd).1
    obtain ⟨b, c', k1, k2, k3⟩ := hat i hi'
    rw [hd] at k2
    cases k2
    have := box_sub (φ2 := fun i => φ (ns.getD i 0)) (n := idxN ns) (m := fun b => inN b ns) hφ (i := b) (inN_iff.2 (List.mem_of_getElem? k1)) (onlyAll_get c4 hd) ((h.heap b d k3).base (base' := fun _ => True) fun _ _ => trivial)
    rwa [idxN_at c3 k1] at this
  · rw [subBoxes_len, ← hns.1] at hi hi'
    obtain ⟨b, d, k1, k2, k3⟩ := hat i hi
    obtain ⟨b', d', k1', k2', k3'⟩ := hat i' hi'
    simp only [List.getD_eq_getElem?_getD, k1, k1', Option.getD_some] at e e'
    have := h.inj b b' d d' g k3 k3' e e'
    subst this
    rw [← idxN_at c3 k1, ← idxN_at c3 k1']
  · rintro en w' ⟨v, F', φ', rfl, hk, f1, f2, f3, hv, hbox, hinj, hstay⟩
    rw [subBoxes_len, ← hns.1] at hk f2
    rw [subBoxes_len, ← hns.1] at hbox
    have hstay' : ∀ i tc sh x, hs0[i]? = some (.cell tc sh x) → φ' i = φ (ns.getD i 0) := fun i tc sh x hi => hstay i tc sh (x.sub (idxN ns)) (subBoxes_at (idxN ns) hi)
    have lent : ∀ g, LentTo (fun i => φ (ns.getD i 0)) ns.length g → ∃ b c, b ∈ ns ∧ get st.heap b = some c ∧ (φ b).blk = some g := by
      rintro g ⟨i, hi, hg⟩
      obtain ⟨b, c, k1, _, k3⟩ := hat i hi
      exact ⟨b, c, List.mem_of_getElem? k1, k3, by simpa [List.getD_eq_getElem?_getD, k1] using hg⟩
    have hBB : ∀ k, (w.heap.size ≤ k ∨ LentTo (fun i => φ (ns.getD i 0)) ns.length k) → W0.B k := fun k hk => by
      rcases hk with hk | hk
      · exact h.bnew hk
      · obtain ⟨b, c, _, k2, k3⟩ := lent k hk
        exact ((h.heap b c k2).lt k3).2.2
    have hA := h.lentBack (os := os) c3 hns hk f1 f2 f3 hstay'
    -- what is not lent lies apart from what comes back
    have apart : ∀ i c g b d, os[i]? = some (some c) → (φ' i).blk = some g → get (dropAll ns (killsHeap (goneN ns hs0 os) st.heap)) b = some d → (φ b).blk ≠ some g := fun i c g b d hi hg hb hbg => by
      obtain ⟨k1, k2⟩ := get_dropAll hb
      obtain ⟨d0, k3, _⟩ := killsHeap_get k1
      rcases ((hbox i c hi).lt hg).2.2 with k4 | k4
      · have := ((h.heap b d0 k3).lt hbg).1
        omega
      · obtain ⟨b', c', m1, m2, m3⟩ := lent g k4
        exact k2 (h.inj b' b c' d0 g m2 k3 m3 hbg ▸ m1)
    have hout : ∀ b d, get (dropAll ns (killsHeap (goneN ns hs0 os) st.heap)) b = some d → (if inN b ns then φ' (idxN ns b) else φ b) = φ b := fun b d hb => by
      cases hi : inN b ns with
      | false => simp
      | true => exact absurd (inN_iff.1 hi) (get_dropAll hb).2
    obtain ⟨φ2, k1, k2, k3⟩ := hA.addRows cs ((dstN o.dst + 1) * 4096) ns.length _ st1 _ φ' hst1 (fun j c hj => (hbox _ c (hrl.2 j c hj)).base hBB) (fun j j' g hj hj' e e' => by
        have := hinj _ _ _ _ g (hrl.2 j _ (List.getElem?_eq_getElem hj)) (hrl.2 j' _ (List.getElem?_eq_getElem hj')) e e'
        omega) (fun j g b c' hj hg hc' hb' => by
        rw [hout b c' hc'] at hb'
        exact apart _ _ g b c' (hrl.2 j _ (List.getElem?_eq_getElem hj)) hg hc' hb')
    -- the place of each box, as the caller calls it
    have free : ∀ (i b : Nat), ns[i]? = some b → φ2 b = φ' i := fun i b hb => by
      rw [k3 b (apartN_get c9 (List.mem_of_getElem? hb)), if_pos (inN_iff.2 (List.mem_of_getElem? hb)), idxN_at c3 hb]
    have nm : ∀ i, isAt os i = true → φ2 (nameL ns (dstN o.dst) i) = φ' i := fun i hi => by
      obtain ⟨c', hc'⟩ := isAt_get hi
      have hlt := (List.getElem?_eq_some_iff.1 hc').1
      simp only [nameL, nthN_eq]
      split
      · rename_i b hb; exact free i b hb
      · rename_i hb
        have : ns.length ≤ i := by simpa using hb
        rw [k2 (i - ns.length) (by omega)]
        congr 1; omega
    have isAt_of : ∀ {os : List (Option BoxC)} {i : Nat} {c : BoxC}, os[i]? = some (some c) → isAt os i = true := by
      intro os
      induction os with
      | nil => intro i c h; simp at h
      | cons o os ih =>
        intro i c h
        cases i with
        | zero => simp at h; subst h; rfl
        | succ i => exact ih (by simpa using h)
    have laid : ∀ (i b : Nat) (c' : BoxC), ns[i]? = some b → os[i]? = some (some c') → BoxOK w' F' φ2 W0.B b (c'.sub (nameL ns (dstN o.dst))) := fun i b c' hb hc' => by
      have := box_sub nm (isAt_of hc') (onlyAllO_get c6 hc') ((hbox i c' hc').base hBB)
      have e : nameL ns (dstN o.dst) i = b := by simp only [nameL, nthN_eq, hb]
      rwa [e] at this
    have hC := k1.setHeap (H := layL (nameL ns (dstN o.dst)) ns os st1.heap) (fun b c hc => by
        rcases layL_get hc with ⟨i, c', m1, m2, rfl⟩ | m1
        · exact laid i b c' m1 m2
        · exact k1.heap b c m1) (fun b b' c c' g m1 m2 m3 m4 => by
        have mixed : ∀ (i b b' : Nat) (c1 c2 : BoxC), ns[i]? = some b → os[i]? = some (some c1) → get st1.heap b' = some c2 → (φ2 b).blk = some g → (φ2 b').blk = some g → b = b' := fun i b b' c1 c2 e1 e2 e3 e4 e5 => by
          rw [free i b e1] at e4
          rcases addRows_get hst1 e3 with ⟨e6, e7⟩ | ⟨j, e6, rfl, e7⟩
          · rw [k3 b' e7, hout b' c2 e6] at e5
            exact absurd e5 (apart i c1 g b' c2 e2 e4 e6)
          · rw [k2 j e6] at e5
            have := hinj _ _ _ _ g e2 (hrl.2 j _ e7) e4 e5
            have := (List.getElem?_eq_some_iff.1 e1).1
            omega
        rcases layL_get m1 with ⟨i, c1, e1, e2, rfl⟩ | e1 <;> rcases layL_get m2 with ⟨i', c2, e1', e2', rfl⟩ | e1'
        · rw [free i b e1] at m3
          rw [free i' b' e1'] at m4
          have := hinj _ _ _ _ g e2 e2' m3 m4
          subst this
          rw [e1] at e1'
          cases e1'
          rfl
        · exact mixed i b b' _ _ e1 e2 e1' m3 m4
        · exact (mixed i' b' b _ _ e1' e2' e1 m4 m3).symm
        · exact k1.inj b b' c c' g e1 e1' m3 m4) (fun b p c hb hc => by
        rcases layL_get hc with ⟨i, c', m1, m2, rfl⟩ | m1
        · obtain ⟨d, m3, m4⟩ := hns.2 i b m1
          have m5 := kindsL_get c7 m3 m2
          have m6 := (h.anc b p hb).2.2 d m4
          rw [m6] at m5
          cases c' with
          | cell => rfl
          | row => exact m5
        · exact (k1.anc b p hb).2.2 c m1)
    have hv' := sub_res (φ := φ') nm c5 hv
    show K (a.put o.dst v) w'
    cases hd : o.dst with
    | none => rw [hd] at hK hC; exact hK _ _ _ _ hC
    | some d =>
      rw [hd] at hK hC hv'
      rw [hd] at c8
      exact hK _ _ _ _ (hC.putV (Nat.le_of_ble_eq_true c8) hv')
end
end Go.AV
