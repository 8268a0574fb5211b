/- strings.Join and strings.Split: their contracts. -/
import Derived.Test.YtdbeklchoojpnaaDoorS52e
import Derived.Test.YtdbeklchoojpnaaDoorSh52
namespace Go.Proofs.S52
open Go Go.AV Go.RowKit Go.Proofs.Dec

theorem Known.glob {P : Program} {G : List (Nat × AV)} {f : FuncId} {args : List AV} {r : AV} (h : Known P [] f args r) : Known P G f args r := by
  rcases h with ⟨h1, h2⟩ | h
  · exact .inl ⟨h1, fun w F vs hro _ hs ha => h2 w F vs hro (fun _ _ hg => by cases hg) hs ha⟩
  · exact .inr h

theorem size32 : (ByteArray.mk #[32]).data.toList = [32] := rfl

theorem index_ne {c : UInt8} {l : List UInt8} (hc : ¬ c = 32) : Lib.index (c :: l) [32] = if Lib.index l [32] == -1 then -1 else Lib.index l [32] + 1 := by
  have : List.isPrefixOf [32] (c :: l) = false := by
    simp [List.isPrefixOf]
    exact fun e => hc e.symm
  rw [Lib.index, this]
  rfl
theorem split_eq : ∀ s : List UInt8, Lib.splitK [32] 0 (Lib.count s [32]) s = splitW s
  | [] => by
    rw [Lib.count_miss (show Lib.index [] [32] = -1 by decide)]
    rfl
  | c :: l => by
    by_cases hc : c = 32
    · subst hc
      have hi : Lib.index (32 :: l) [32] = ((0 : Nat) : Int) := by
        have : List.isPrefixOf [32] ((32 : UInt8) :: l) = true := by simp [List.isPrefixOf]
        rw [Lib.index, this]
        rfl
      rw [Lib.count_hit (by simp) hi]
      have ih := split_eq l
      simp only [List.length_cons, List.length_nil, Nat.zero_add, List.drop_succ_cons, List.drop_zero]
      rw [Nat.add_comm, Lib.splitK, hi]
      simp only [splitW]
      rw [if_neg (by decide)]
      simp [ih]
    · have hx := index_ne (l := l) hc
      have ih := split_eq l
      by_cases hm : Lib.index l [32] = -1
      · rw [hm] at hx
        have h1 : Lib.index (c :: l) [32] = -1 := by simpa using hx
        rw [Lib.count_miss h1]
        rw [Lib.count_miss hm] at ih
        simp only [Lib.splitK] at ih ⊢
        simp only [splitW, hc, if_false, ← ih]
      · obtain ⟨i, hi⟩ : ∃ i : Nat, Lib.index l [32] = i := ⟨(Lib.index l [32]).toNat, by have := Lib.index_ge l [32]; omega⟩
        have h1 : Lib.index (c :: l) [32] = ((i + 1 : Nat) : Int) := by
          rw [hx, if_neg (by rw [beq_iff_eq]; exact hm), hi]; omega
        rw [Lib.count_hit (by simp) h1]
        rw [Lib.count_hit (by simp) hi] at ih
        simp only [List.length_cons, List.length_nil, Nat.zero_add] at ih ⊢
        have hne : ¬ (Lib.index (c :: l) [32] == -1) = true := by rw [beq_iff_eq]; omega
        have hne2 : ¬ (Lib.index l [32] == -1) = true := by rw [beq_iff_eq]; omega
        have t1 : (Lib.index (c :: l) [32]).toNat = i + 1 := by omega
        have t2 : (Lib.index l [32]).toNat = i := by omega
        rw [Nat.add_comm, Lib.splitK, if_neg hne2, t2] at ih
        simp only [List.drop_succ_cons]
        rw [Nat.add_comm, Lib.splitK, if_neg hne, t1]
        simp only [splitW, hc, if_false, ← ih]
        simp
theorem splitW_pos : ∀ s, 1 ≤ (splitW s).length
  | [] => by simp [splitW]
  | c :: l => by
    unfold splitW
    split
    · simp
    · split <;> simp
theorem splitW_len : ∀ s, (splitW s).length ≤ s.length + 1
  | [] => by simp [splitW]
  | c :: l => by
    have := splitW_len l
    unfold splitW
    split
    · simpa using this
    · split
      · simp
      · rename_i h; rw [h] at this; simp at this ⊢; omega

theorem getElem_getD {α : Type} {l : List α} {j : Nat} (d : α) (h : j < l.length) : l[j] = l.getD j d := by
  simp [List.getD_eq_getElem?_getD, h]

theorem kSplit (m : Int) (s : List UInt8) (hs : s.length < 4294967281) : Known Tryd.prog [(0, .rptr .leaf (.int .i64 m))] 35 [.str s, .str [32]] (rowS (splitW s)) := by
  refine .inl ⟨CallOK.of (fn := Tryd.f35) rfl (by kernel_rfl) (by kernel_rfl), fun w F vs hro hg hsz ha => ?_⟩
  have h0 := ha 0 (by simp)
  have h1 := ha 1 (by simp)
  have hv : vs = #[vs.getD 0 undef, vs.getD 1 undef] := by
    apply Array.ext
    · simpa using hsz
    · intro i h1 h2
      simp at h2
      match i, h2 with
      | 0, _ => simp [Array.getD, h1]
      | 1, _ => simp [Array.getD, h1]
  generalize vs.getD 0 undef = a at h0 hv
  generalize vs.getD 1 undef = b at h1 hv
  subst hv
  simp at h0 h1
  cases h0 with | str s' =>
  generalize hb : ([32] : List UInt8) = sp at h1
  cases h1 with | str p =>
  have hg0 := hg 0 _ (by rfl)
  have hm : w.cell? ⟨0, 0, none⟩ = some (.int .i64 m) := by
    cases hg0 with
    | rptr g o sh x cs hF hc hr =>
      have k1 := hc 0 (by decide)
      have k2 := hr 0 (by decide)
      simp only [leafAt, asLeaf, AV.isOne] at k2
      generalize cs 0 = z at k1 k2
      cases k2 with | int _ _ _ => exact k1
  have h32 : p.data.toList = [32] := hb.symm
  have hp1 : p.size = 1 := by rw [Lib.size_eq, h32]; rfl
  refine (Tryd.strings_Split s' p m w (by rw [Lib.size_eq]; exact hs) hm (by omega)).mono ?_
  rintro e w' ⟨rfl, rfl⟩
  have hdat := Lib.splitB_data p 0 (Lib.countB s' p) s'
  have hcnt : Lib.countB s' p = Lib.count s'.data.toList [32] := by rw [← h32]
  rw [h32, hcnt, split_eq] at hdat
  rw [hcnt]
  generalize hx : Lib.splitB p 0 (Lib.count s'.data.toList [32]) s' = xs at hdat ⊢
  have hlen : xs.length = (splitW s'.data.toList).length := by rw [← hdat]; simp
  have hcl : Lib.count s'.data.toList [32] + 1 = xs.length := by
    have : ∀ k l, k = Lib.count l [32] → (splitW l).length = k + 1 := by
      intro k l
      induction l generalizing k with
      | nil => intro h; rw [h, Lib.count_miss (show Lib.index [] [32] = -1 by decide)]; rfl
      | cons c l ih =>
        intro h
        by_cases hc : c = 32
        · subst hc
          have hi : Lib.index (32 :: l) [32] = ((0 : Nat) : Int) := by
            have : List.isPrefixOf [32] ((32 : UInt8) :: l) = true := by simp [List.isPrefixOf]
            rw [Lib.index, this]
            rfl
          rw [Lib.count_hit (by simp) hi] at h
          simp only [splitW, if_true, List.length_cons, ih _ rfl]
          simp at h
          omega
        · have hx := index_ne (l := l) hc
          have e : (splitW (c :: l)).length = (splitW l).length := by
            have := splitW_pos l
            simp only [splitW, hc, if_false]
            split
            · rename_i h; rw [h] at this; simp at this
            · rename_i h; rw [h]; simp
          rw [e, ih _ rfl]
          by_cases hm : Lib.index l [32] = -1
          · rw [hm] at hx
            have h1 : Lib.index (c :: l) [32] = -1 := by simpa using hx
            rw [Lib.count_miss h1] at h
            rw [Lib.count_miss hm, h]
          · obtain ⟨i, hi⟩ : ∃ i : Nat, Lib.index l [32] = i := ⟨(Lib.index l [32]).toNat, by have := Lib.index_ge l [32]; omega⟩
            have h1 : Lib.index (c :: l) [32] = ((i + 1 : Nat) : Int) := by
              rw [hx, if_neg (by rw [beq_iff_eq]; exact hm), hi]; omega
            rw [Lib.count_hit (by simp) h1] at h
            rw [Lib.count_hit (by simp) hi, h]
            simp
    rw [hlen, this _ _ rfl]
  rw [hcl]
  refine ⟨_, fun k => F k ∨ k = w.heap.size, rfl, ?_, fun k hk => .inl hk, fun k hk => by rcases hk with h | h; exact .inl h; exact .inr (by omega), fun k hk => ?_, ?_⟩
  · exact (Below.refl _ w).alloc (Nat.le_refl _) _
  · rcases hk with h | rfl
    · have := hro k h; rw [World.size_alloc]; omega
    · rw [World.size_alloc]; omega
  · show RepS _ _ _ (.seq .leaf (splitW s'.data.toList).length _)
    rw [← hlen]
    refine .seq _ _ _ _ _ _ (fun i _ => .string (xs.getD i default)) (.inr rfl) (Nat.le_refl _) (fun i hi j hj => ?_) fun i hi j hj => ?_
    · simp only [Shape.size] at hj
      obtain rfl : j = 0 := by omega
      rw [show 0 + (i * Shape.leaf.size + 0) = i by simp [Shape.size], World.cell?_alloc_new]
      simp [hi]
    · simp only [Shape.size] at hj
      obtain rfl : j = 0 := by omega
      simp only [leafAt, asLeaf, AV.isOne]
      rw [← hdat]
      have e : (xs.map (·.data.toList)).getD i [] = (xs.getD i default).data.toList := by
        simp [List.getD_eq_getElem?_getD, hi]
      rw [e]
      exact .str _

theorem inter_len (sep : List UInt8) (b : Nat) : ∀ l : List (List UInt8), (∀ x ∈ l, x.length ≤ b) → (sep.intercalate l).length ≤ l.length * (sep.length + b)
  | [], _ => by simp [List.intercalate]
  | [x], h => by
    have := h x (by simp)
    simp [List.intercalate]
    omega
  | x :: y :: l, h => by
    have h1 := h x (by simp)
    have h2 := inter_len sep b (y :: l) fun z hz => h z (by simp [List.mem_cons] at hz ⊢; exact .inr hz)
    have e : (sep.intercalate (x :: y :: l)).length = x.length + sep.length + (sep.intercalate (y :: l)).length := by
      simp [List.intercalate, List.intersperse]
      omega
    rw [e]
    simp only [List.length_cons] at h2 ⊢
    rw [Nat.add_mul (l.length + 1) 1]
    omega
theorem kJoin (l : List (List UInt8)) (sep : List UInt8) (hl : l.length ≤ 140737488355328) (hj : (sep.intercalate l).length ≤ 140737488355328) : Known Tryd.prog [] 38 [rowS l, .str sep] (.str (sep.intercalate l)) := by
  refine .inl ⟨CallOK.of (fn := Tryd.f38) rfl (by kernel_rfl) (by kernel_rfl), fun w F vs hro hg hsz ha => ?_⟩
  have h0 := ha 0 (by simp)
  have h1 := ha 1 (by simp)
  have hv : vs = #[vs.getD 0 undef, vs.getD 1 undef] := by
    apply Array.ext
    · simpa using hsz
    · intro i h1 h2
      simp at h2
      match i, h2 with
      | 0, _ => simp [Array.getD, h1]
      | 1, _ => simp [Array.getD, h1]
  generalize vs.getD 0 undef = a at h0 hv
  generalize vs.getD 1 undef = b at h1 hv
  subst hv
  simp only [List.getD_cons_zero, List.getD_cons_succ] at h0 h1
  cases h1 with | str p =>
  have fin : ∀ (e : Ending) (w' : World), e = .returned (.string ⟨(Lib.join l p.data.toList).toArray⟩) → Below w.heap.size w w' → ∃ v F', e = .returned v ∧ Below w.heap.size w w' ∧ (∀ k, F k → F' k) ∧ (∀ k, F' k → F k ∨ w.heap.size ≤ k) ∧ (∀ k, F' k → k < w'.heap.size) ∧ RepR w' F' v (.str (p.data.toList.intercalate l)) := by
    rintro _ w' rfl hb
    refine ⟨_, F, rfl, hb, fun k hk => hk, fun k hk => .inl hk, fun k hk => Nat.lt_of_lt_of_le (hro k hk) hb.size, ?_⟩
    have := RepS.str (w := w') (F := F) ⟨(Lib.join l p.data.toList).toArray⟩
    simpa [RepR, Lib.join] using this
  unfold rowS at h0
  generalize hn : l.length = n at h0
  generalize hff : (fun i => AV.str (l.getD i [])) = f at h0
  cases h0 with
  | seq0 ad cap =>
    have hl0 : l = [] := List.eq_nil_of_length_eq_zero hn
    subst hl0
    refine (Tryd.strings_Join_none ad cap p w).mono ?_
    rintro e w' ⟨rfl, rfl⟩
    exact fin _ _ (by simp [Lib.join, List.intercalate]) (Below.refl _ _)
  | seq g o _ cap _ _ cs hF hcap hc hr =>
    subst hn
    have hcell : ∀ i, i < l.length → ∃ x : ByteArray, w.cell? ⟨g, o + i, none⟩ = some (.string x) ∧ x.data.toList = l.getD i [] := fun i hi => by
      have k1 := hc i hi 0 (by decide)
      have k2 := hr i hi 0 (by decide)
      rw [← hff] at k2
      simp only [leafAt, asLeaf, AV.isOne] at k2
      generalize hz : cs i 0 = z at k1 k2
      generalize hq : l.getD i [] = q at k2 ⊢
      cases k2 with
      | str x => exact ⟨x, by rw [← k1]; simp [Shape.size], rfl⟩
    let xs : List ByteArray := l.map fun q => ⟨q.toArray⟩
    have hxl : xs.length = l.length := by simp [xs]
    have hxm : xs.map (·.data.toList) = l := by
      simp only [xs, List.map_map]
      exact List.map_id'' (fun q => by simp) l
    have := Tryd.strings_Join g o cap xs p w (fun j x hx => by
      have hj : j < l.length := by rw [← hxl]; exact (List.getElem?_eq_some_iff.1 hx).1
      obtain ⟨y, h1, h2⟩ := hcell j hj
      rw [h1]
      congr 2
      have e : x = ⟨(l.getD j []).toArray⟩ := by
        simp [xs, hj] at hx
        rw [← hx]; simp [hj]
      rw [e, ← h2]) (hro g hF) (by rw [hxl]; exact hl) (by rw [hxl]; exact hcap) (by rw [hxm]; exact hj)
    rw [hxl, hxm] at this
    refine this.mono ?_
    rintro e w' ⟨rfl, hb⟩
    exact fin _ _ rfl hb
end Go.Proofs.S52
