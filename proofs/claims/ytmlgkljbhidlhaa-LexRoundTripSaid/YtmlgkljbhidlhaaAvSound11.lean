/- Copies and appends. -/
import Derived.Test.YtmlgkljbhidlhaaAvSound10
namespace Go.AV
open Go.RowKit

section
variable {C : Cfg} {W0 : Entry} {F0 : Nat → Prop} {st st' : St} {a : Act} {w : World} {F : Nat → Prop} {φ : Nat → Place} {e : Operand → Option AV} {dst : Option Nat} {orc : FuncId → List AV → Option AV} {CC : FuncId → List AV → AV → Prop} {r : Res} {o : Oper}
  {next : Act → World → Prop} {Q : Exit → Act → World → Prop}

/-- What an operand of copy or append reads as: rows of plain data. -/
def SrcIs (w : World) (F : Nat → Prop) (v : Value) (sh : Shape) (m : Nat) (g : Nat → AV) : Prop :=
  ∃ A c, v = .slice A m c ∧ (0 < m → ∃ b o, ∃ cs : Nat → Nat → Value, A = some ⟨b, o, none⟩ ∧ (∀ i, i < m → ∀ j, j < sh.size → w.cell? ⟨b, o + (i * sh.size + j), none⟩ = some (cs i j)) ∧
    (∀ i, i < m → ∀ j, j < sh.size → RepS w F (cs i j) (leafAt sh (g i) j)))

theorem src_seq {v : Value} {sh : Shape} {m : Nat} {g : Nat → AV} (h : Rep w F φ v (.seq sh m g) ∨ Rep w F φ v (.seqc sh m g)) : SrcIs w F v sh m g := by
  obtain ⟨A, c, hv, hc⟩ := Rep.seq_inv h
  exact ⟨A, c, hv, fun hm => by obtain ⟨_, b, o, cs, h1, _, h2, h3⟩ := hc hm; exact ⟨b, o, cs, h1, h2, h3⟩⟩
theorem src_nils {v : Value} {sh : Shape} {g : Nat → AV} (h : Rep w F φ v .nils) : SrcIs w F v sh 0 g := by
  cases h with
  | stat h => cases h; exact ⟨_, _, rfl, fun h => absurd h (by omega)⟩
theorem src_own (h : Rel C W0 F0 st a w F φ) {v : Value} {b m n' : Nat} {ty : TypeId} {sh : Shape} {g : Nat → AV} (hv : Rep w F φ v (.own b m)) (hb : get st.heap b = some (.row ty sh n' g)) (hm : m ≤ n') : SrcIs w F v sh m g := by
  obtain ⟨hsh, _, hrow⟩ := h.heap b _ hb
  rcases hv.own_inv with ⟨gb, hg, rfl, hc⟩ | ⟨hg, h0, rfl⟩
  · rcases hrow with ⟨h1, _⟩ | ⟨g', cs, hg', _, _, hh, hsz, hnc, _, hrep⟩
    · rw [hg] at h1; cases h1
    · obtain rfl : g' = gb := by rw [hg] at hg'; injection hg' with e; exact e.symm
      refine ⟨_, _, rfl, fun hm0 => ⟨g', 0, fun i j => cs.getD (i * sh.size + j) undef, rfl, fun i hi j hj => ?_, fun i hi j hj => hrep i (by omega) j hj⟩⟩
      have hmul : (i + 1) * sh.size ≤ (φ b).cap * sh.size := Nat.mul_le_mul_right _ (by omega)
      rw [Nat.add_mul] at hmul
      rw [Nat.zero_add]; exact cell_of hh (by omega)
  · subst h0; exact ⟨_, _, rfl, fun h => absurd h (by omega)⟩

/-- The cells of a source, in a list. -/
theorem src_news {v : Value} {sh : Shape} {m : Nat} {g : Nat → AV} (h : SrcIs w F v sh m g) (hpos : 0 < sh.size) : ∃ A c, ∃ news : List Value, v = .slice A m c ∧ news.length = m * sh.size ∧ (0 < m → ∃ ad, A = some ad ∧ ∀ j u, news[j]? = some u → w.cell? (ad.add j) = some u) ∧
    (∀ i, i < m → ∀ j, j < sh.size → ∃ u, news[i * sh.size + j]? = some u ∧ RepS w F u (leafAt sh (g i) j)) ∧ ∀ u ∈ news, u.oneCell' = true := by
  obtain ⟨A, c, hv, hc⟩ := h
  rcases Nat.eq_zero_or_pos m with h0 | h0
  · subst h0
    exact ⟨A, c, [], hv, by simp, fun h => absurd h (by omega), fun i hi => absurd hi (by omega), fun u hu => by simp at hu⟩
  · obtain ⟨b, o, cs, hA, h1, h2⟩ := hc h0
    have hix : ∀ i j, i < m → j < sh.size → i * sh.size + j < m * sh.size := by
      intro i j hi hj
      have hmul : (i + 1) * sh.size ≤ m * sh.size := Nat.mul_le_mul_right _ hi
      rw [Nat.add_mul] at hmul; omega
    have hdm : ∀ i j, j < sh.size → (i * sh.size + j) / sh.size = i ∧ (i * sh.size + j) % sh.size = j := by
      intro i j hj
      rw [Nat.mul_comm i, Nat.mul_add_div hpos, Nat.mul_add_mod, Nat.div_eq_of_lt hj, Nat.mod_eq_of_lt hj]
      exact ⟨rfl, rfl⟩
    have hget : ∀ q, q < m * sh.size → ((List.range (m * sh.size)).map fun q => cs (q / sh.size) (q % sh.size))[q]? = some (cs (q / sh.size) (q % sh.size)) := by
      intro q hq; simp [hq]
    refine ⟨A, c, (List.range (m * sh.size)).map fun q => cs (q / sh.size) (q % sh.size), hv, by simp, fun _ => ⟨_, hA, fun q u hu => ?_⟩, fun i hi j hj => ⟨_, hget _ (hix i j hi hj), ?_⟩, fun u hu => ?_⟩
    · have hq : q < m * sh.size := by have := (List.getElem?_eq_some_iff.1 hu).1; simpa using this
      rw [hget q hq] at hu
      cases hu
      rw [add_none]
      have := h1 (q / sh.size) ((Nat.div_lt_iff_lt_mul hpos).2 hq) (q % sh.size) (Nat.mod_lt _ hpos)
      rw [Nat.mul_comm, Nat.div_add_mod] at this
      exact this
    · obtain ⟨d1, d2⟩ := hdm i j hj
      rw [d1, d2]; exact h2 i hi j hj
    · simp only [List.mem_map, List.mem_range] at hu
      obtain ⟨q, hq, rfl⟩ := hu
      exact RepS.leaf1 sh _ _ (h2 (q / sh.size) ((Nat.div_lt_iff_lt_mul hpos).2 hq) (q % sh.size) (Nat.mod_lt _ hpos))

/-- A box is laid beside the others. -/
theorem Rel.addBox (h : Rel C W0 F0 st a w F φ) {d : Nat} {c : BoxC} (hf : freshBox st d = true) (hc : c.names d = false) (pl : Place)
    (hpl : ∀ b c' g, get st.heap b = some c' → (φ b).blk = some g → pl.blk ≠ some g)
    (hB : BoxOK w F (fun k => if k = d then pl else φ k) W0.B d c) :
    Rel C W0 F0 { st with heap := put st.heap d c } a w F (fun k => if k = d then pl else φ k) := by
  simp only [freshBox, Bool.not_eq_true', Bool.or_eq_false_iff] at hf
  obtain ⟨fe, fh, fl⟩ := hf
  refine ⟨fun s x hs => ?_, fun b c' hc' => ?_, ?_, h.ro, h.base, h.sub, h.new, h.dfr, h.tsz, h.glob, anc_put h.anc fl⟩
  · obtain ⟨v, hv, hr⟩ := h.env s x hs
    refine ⟨v, hv, hr.keep (fun _ _ => rfl) (fun _ hk => hk) fun b hb => update_other φ d pl fun e => ?_⟩
    subst e
    rw [namesEnv_get hs fe] at hb; cases hb
  · by_cases e : b = d
    · subst e
      rw [get_put_same] at hc'
      cases hc'
      exact hB
    · rw [get_put_other _ _ _ _ e] at hc'
      have hb := h.heap b c' hc'
      refine hb.keep (fun _ _ => rfl) (fun _ hk => hk) (fun g hg => ⟨rfl, (hb.lt hg).2.1⟩) (update_other φ d pl e) fun b' hb' => update_other φ d pl fun e => ?_
      subst e
      rw [(namesHeap_get hc' fh).1] at hb'; cases hb'
  · intro b b' c1 c2 g h1 h2 h3 h4
    by_cases e : b = d
    · by_cases e' : b' = d
      · omega
      · rw [get_put_other _ _ _ _ e'] at h2
        simp only [e, if_true] at h3
        simp only [e', if_false] at h4
        exact absurd h3 (hpl b' c2 g h2 h4)
    · rw [get_put_other _ _ _ _ e] at h1
      simp only [e, if_false] at h3
      by_cases e' : b' = d
      · simp only [e', if_true] at h4
        exact absurd h4 (hpl b c1 g h1 h3)
      · rw [get_put_other _ _ _ _ e'] at h2
        simp only [e', if_false] at h4
        exact h.inj b b' c1 c2 g h1 h2 h3 h4

theorem killEnv_get {b : Nat} : ∀ {l : List (Nat × AV)} {s : Nat} {x : AV}, get (killEnv b l) s = some x → ∃ y, get l s = some y ∧ ((y = x ∧ x.names b = false) ∨ x = .when false .any)
  | [], _, _, h => by simp [killEnv, get] at h
  | (k, v) :: l, s, x, h => by
    simp only [killEnv, get] at h ⊢
    split at h
    · refine ⟨v, rfl, ?_⟩
      cases h
      split
      · exact .inr rfl
      · rename_i hn; exact .inl ⟨rfl, hn⟩
    · exact killEnv_get h

mutual
theorem kill_leafAt {b : Nat} : ∀ (sh : Shape) (x : AV) (j : Nat), (leafAt sh (x.kill b) j = leafAt sh x j ∧ (leafAt sh x j).names b = false) ∨ leafAt sh (x.kill b) j = .any
  | .leaf, x, j => by
    simp only [leafAt]
    cases x with
    | own c n => simp only [AV.kill]; cases h : Nat.beq c b <;> simp [h, asLeaf, AV.isOne, AV.names]
    | ptr c n => simp only [AV.kill]; cases h : Nat.beq c b <;> simp [h, asLeaf, AV.isOne, AV.names]
    | optr c i n => simp only [AV.kill]; cases h : Nat.beq c b <;> simp [h, asLeaf, AV.isOne, AV.names]
    | clo f l => simp only [AV.kill]; cases h : AV.namesL b l <;> simp [h, asLeaf, AV.isOne, AV.names]
    | _ => simp [AV.kill, asLeaf, AV.isOne, AV.names]
  | .agg ss, x, j => by
    cases x with
    | agg xs => simp only [AV.kill, leafAt]; exact kill_leafsAt ss xs j
    | own c n => right; simp only [AV.kill]; cases h : Nat.beq c b <;> simp [leafAt]
    | ptr c n => right; simp only [AV.kill]; cases h : Nat.beq c b <;> simp [leafAt]
    | optr c i n => right; simp only [AV.kill]; cases h : Nat.beq c b <;> simp [leafAt]
    | clo f l => right; simp only [AV.kill]; cases h : AV.namesL b l <;> simp [leafAt]
    | _ => right; simp [AV.kill, leafAt]
  | .arr n s, x, j => by
    cases x with
    | arr m f => left; simp [AV.kill, leafAt, AV.names]
    | own c n => right; simp only [AV.kill]; cases h : Nat.beq c b <;> simp [leafAt]
    | ptr c n => right; simp only [AV.kill]; cases h : Nat.beq c b <;> simp [leafAt]
    | optr c i n => right; simp only [AV.kill]; cases h : Nat.beq c b <;> simp [leafAt]
    | clo f l => right; simp only [AV.kill]; cases h : AV.namesL b l <;> simp [leafAt]
    | _ => right; simp [AV.kill, leafAt]
theorem kill_leafsAt {b : Nat} : ∀ (ss : List Shape) (xs : List AV) (j : Nat), (leafsAt ss (AV.killL b xs) j = leafsAt ss xs j ∧ (leafsAt ss xs j).names b = false) ∨ leafsAt ss (AV.killL b xs) j = .any
  | s :: ss, x :: xs, j => by
    simp only [AV.killL, leafsAt]
    split
    · exact kill_leafAt s x j
    · exact kill_leafsAt ss xs _
  | [], _, _ => by right; cases ‹List AV› <;> simp [AV.killL, leafsAt]
  | _ :: _, [], _ => by right; simp [AV.killL, leafsAt]
end

theorem killHeap_get {b : Nat} : ∀ {l : List (Nat × BoxC)} {s : Nat} {c : BoxC}, get (killHeap b l) s = some c → ∃ d, get l s = some d ∧ c = d.kill b
  | [], _, _, h => by simp [killHeap, get] at h
  | (k, v) :: l, s, c, h => by
    simp only [killHeap, get] at h ⊢
    split at h
    · cases h; exact ⟨v, rfl, rfl⟩
    · exact killHeap_get h

theorem kill_isRow {b : Nat} {c : BoxC} : (c.kill b).isRow = c.isRow := by
  cases c with
  | cell tc sh x => simp only [BoxC.kill]; split <;> rfl
  | row => rfl

/-- A box is kept, but for what named b. -/
theorem BoxOK.keepKill {w w' : World} {F F' : Nat → Prop} {φ φ' : Nat → Place} {base : Nat → Prop} {b d : Nat} {c : BoxC} (h : BoxOK w F φ base b c) (hw : ∀ k, F k → w'.heap[k]? = w.heap[k]?) (hF : ∀ k, F k → F' k)
    (hg : ∀ g, (φ b).blk = some g → w'.heap[g]? = w.heap[g]? ∧ ¬ F' g) (hb : φ' b = φ b) (hφ : ∀ e, e ≠ d → φ' e = φ e) : BoxOK w' F' φ' base b (c.kill d) := by
  cases c with
  | cell tc sh x =>
    simp only [BoxC.kill]
    cases hn : x.names d with
    | false => exact h.keep hw hF hg hb fun e he => hφ e fun e' => by subst e'; simp only [BoxC.names] at he; rw [hn] at he; cases he
    | true =>
      obtain ⟨h0, g, cs, h1, h2, h3, h4, h5, h6⟩ := h
      refine ⟨by rw [hb]; exact h0, g, cs, by rw [hb]; exact h1, h2, (hg g h1).2, (hg g h1).1.trans h4, h5, fun j hj => ?_⟩
      rcases kill_leafAt (b := d) sh x j with ⟨k1, k2⟩ | k1
      · rw [k1]
        exact (h6 j hj).keep hw hF fun e he => hφ e fun e' => by subst e'; rw [k2] at he; cases he
      · rw [k1]
        exact .stat (.any _ (Rep.leaf1 sh x j (h6 j hj)))
  | row ty sh n f => exact h.keep hw hF hg hb fun e he => by simp [BoxC.names] at he

/-- A row has grown, wherever it lies now: the facts that named it are given up. -/
theorem Rel.growBox (h : Rel C W0 F0 st a w F φ) {b : Nat} {c c' : BoxC} {w' : World} {row : Option Nat} (hb : get st.heap b = some c) (hg : w.grownBy w' row)
    (hkd : c.isRow = true) (hrow : ∀ g, row = some g → (φ b).blk = some g) (pl : Place) (hpl : ∀ g, pl.blk = some g → (φ b).blk = some g ∨ w.heap.size ≤ g) (hB : BoxOK w' F (fun k => if k = b then pl else φ k) W0.B b c') :
    Rel C W0 F0 { env := killEnv b st.env, heap := put (killHeap b st.heap) b c' } a w' F (fun k => if k = b then pl else φ k) := by
  have hfar : ∀ k, k < w.heap.size → (∀ g, (φ b).blk = some g → k ≠ g) → w'.heap[k]? = w.heap[k]? := fun k hk hne => hg.block k hk fun e => hne k (hrow k e.symm) rfl
  have hk : ∀ k, F k → w'.heap[k]? = w.heap[k]? := fun k hk => hfar k (h.ro k hk) fun g hgb e => ((h.heap b c hb).lt hgb).2.1 (e ▸ hk)
  have hother : ∀ b' c1 g, b' ≠ b → get st.heap b' = some c1 → (φ b').blk = some g → w'.heap[g]? = w.heap[g]? := fun b' c1 g hne hb' hg' =>
    hfar g ((h.heap b' c1 hb').lt hg').1 fun g2 hg2 e => hne (h.inj b' b c1 c g hb' hb hg' (e ▸ hg2))
  refine ⟨fun s x hs => ?_, fun b' c1 hc1 => ?_, ?_, fun k hk => Nat.lt_of_lt_of_le (h.ro k hk) hg.size, ?_, h.sub, h.new, h.dfr, h.tsz, fun g x hgx => (h.glob g x hgx).keep hk fun _ hk => hk, fun b' p hp => ?_⟩
  · obtain ⟨y, hy, hyx⟩ := killEnv_get hs
    obtain ⟨v, hv, hr⟩ := h.env s y hy
    rcases hyx with ⟨rfl, hn⟩ | rfl
    · refine ⟨v, hv, hr.keep hk (fun _ hk => hk) fun d hd => update_other φ b pl fun e => ?_⟩
      subst e; rw [hn] at hd; cases hd
    · exact ⟨v, hv, .whenT false (fun h => by cases h) fun _ => .inr rfl⟩
  · by_cases e : b' = b
    · subst e
      rw [get_put_same] at hc1
      cases hc1
      exact hB
    · rw [get_put_other _ _ _ _ e] at hc1
      obtain ⟨c0, hc0, rfl⟩ := killHeap_get hc1
      have hb' := h.heap b' c0 hc0
      exact hb'.keepKill hk (fun _ hk => hk) (fun g hg' => ⟨hother b' c0 g e hc0 hg', (hb'.lt hg').2.1⟩) (update_other φ b pl e) fun d hd => update_other φ b pl hd
  · intro b1 b2 c1' c2' g h1' h2' h3 h4
    have new : ∀ b' c1 g, b' ≠ b → get st.heap b' = some c1 → (φ b').blk = some g → pl.blk ≠ some g := by
      intro b' c1 g hne hb' hg' hp
      rcases hpl g hp with h5 | h5
      · exact hne (h.inj b' b c1 c g hb' hb hg' h5)
      · have := ((h.heap b' c1 hb').lt hg').1; omega
    by_cases e : b1 = b
    · by_cases e' : b2 = b
      · omega
      · rw [get_put_other _ _ _ _ e'] at h2'
        obtain ⟨c2, h2, _⟩ := killHeap_get h2'
        simp only [e, if_true] at h3
        simp only [e', if_false] at h4
        exact absurd h3 (new b2 c2 g e' h2 h4)
    · rw [get_put_other _ _ _ _ e] at h1'
      obtain ⟨c1, h1, _⟩ := killHeap_get h1'
      simp only [e, if_false] at h3
      by_cases e' : b2 = b
      · simp only [e', if_true] at h4
        exact absurd h4 (new b1 c1 g e h1 h3)
      · rw [get_put_other _ _ _ _ e'] at h2'
        obtain ⟨c2, h2, _⟩ := killHeap_get h2'
        simp only [e', if_false] at h4
        exact h.inj b1 b2 c1 c2 g h1 h2 h3 h4
  · refine h.base.trans (L' := fun k => row = some k) ⟨hg.os, hg.tape, hg.output, hg.size, fun k hk hn => hg.block k hk fun e => hn e.symm⟩ fun i hi hlt => ?_
    exact (((h.heap b c hb).lt (hrow i hi)).2.2).resolve_left (by omega)
  · obtain ⟨a1, a2, a3⟩ := h.anc b' p hp
    have hne : b' ≠ b := fun e => by subst e; rw [a3 c hb] at hkd; cases hkd
    refine ⟨a1, by simp only [hne, if_false]; exact a2, fun c1 hc1 => ?_⟩
    rw [get_put_other _ _ _ _ hne] at hc1
    obtain ⟨c0, hc0, rfl⟩ := killHeap_get hc1
    rw [kill_isRow]; exact a3 c0 hc0

/-- An owned row, as a box. -/
theorem boxOK_of_own {φ : Nat → Place} {B : Nat → Prop} {base b n : Nat} {el : TypeId} {sh : Shape} {f : Nat → AV} {v : Value} {xs : List Value} (hown : w.ownsRow base el sh.size v n xs)
    (hbn : ∀ k, v.ownBlock = some k → B k) (hF : ∀ k, v.ownBlock = some k → ¬ F k) (hx : ∀ i, i < n → ∀ j, j < sh.size → ∃ u, xs[i * sh.size + j]? = some u ∧ RepS w F u (leafAt sh (f i) j)) :
    ∃ pl : Place, pl.blk = v.ownBlock ∧ pl.sh = sh ∧ pl.ty = el ∧ ∀ φ : Nat → Place, φ b = pl → BoxOK w F φ B b (.row el sh n f) ∧ Rep w F φ v (.own b n) := by
  rcases hown.2 with ⟨rfl, rfl⟩ | ⟨g, cap, cur, rfl, hbg, hg, hnc, hcm, hcs, htake⟩
  · exact ⟨⟨none, 0, sh, el⟩, rfl, rfl, rfl, fun φ hφ => ⟨⟨by rw [hφ], by rw [hφ], .inl ⟨by rw [hφ], rfl⟩⟩, .own0 b (by rw [hφ])⟩⟩
  · refine ⟨⟨some g, cap, sh, el⟩, rfl, rfl, rfl, fun φ hφ => ⟨⟨by rw [hφ], by rw [hφ], .inr ⟨g, cur, by rw [hφ], hbn g rfl, hF g rfl, hg, by rw [hφ]; exact hcs, by rw [hφ]; exact hnc, by rw [hφ]; exact hcm, fun i hi j hj => ?_⟩⟩, ?_⟩⟩
    · obtain ⟨u, hu, hr⟩ := hx i hi j hj
      rw [← htake] at hu
      have hmul : (i + 1) * sh.size ≤ n * sh.size := Nat.mul_le_mul_right _ hi
      rw [Nat.add_mul] at hmul
      rw [List.getElem?_take_of_lt (by omega), Array.getElem?_toList] at hu
      rw [Array.getD_eq_getD_getElem?, hu]
      exact hr
    · have := Rep.own (w := w) (F := F) (φ := φ) b g n (by rw [hφ]) (by rw [hφ]; exact hnc)
      rw [hφ] at this
      exact this

/-- A box as an owned row. -/
theorem own_of_box {B : Nat → Prop} {b n m : Nat} {el : TypeId} {sh : Shape} {f : Nat → AV} {v : Value} (hB : BoxOK w F φ B b (.row el sh n f)) (hv : Rep w F φ v (.own b m)) (hm : m = n) :
    ∃ xs, w.ownsRow 0 el sh.size v n xs ∧ (∀ k, v.ownBlock = some k → (φ b).blk = some k) ∧ ∀ i, i < n → ∀ j, j < sh.size → ∃ u, xs[i * sh.size + j]? = some u ∧ RepS w F u (leafAt sh (f i) j) := by
  subst hm
  obtain ⟨hsh, hty, hrow⟩ := hB
  rcases hv.own_inv with ⟨g, hg, rfl, hc⟩ | ⟨hg, h0, rfl⟩
  · rcases hrow with ⟨h1, _⟩ | ⟨g', cs, hg', hbase, _, hh, hsz, hnc, hmax, hrep⟩
    · rw [hg] at h1; cases h1
    · obtain rfl : g' = g := by rw [hg] at hg'; injection hg' with e; exact e.symm
      have hmul : m * sh.size ≤ (φ b).cap * sh.size := Nat.mul_le_mul_right _ hnc
      refine ⟨cs.toList.take (m * sh.size), ⟨by simp; omega, .inr ⟨g', _, cs, rfl, Nat.zero_le _, hh, hnc, hmax, hsz, rfl⟩⟩, fun k hk => by simp [Value.ownBlock] at hk; subst hk; exact hg, fun i hi j hj => ⟨_, ?_, hrep i hi j hj⟩⟩
      have hmul2 : (i + 1) * sh.size ≤ m * sh.size := Nat.mul_le_mul_right _ hi
      rw [Nat.add_mul] at hmul2
      rw [List.getElem?_take_of_lt (by omega), Array.getElem?_toList, Array.getD_eq_getD_getElem?, Array.getElem?_eq_getElem (by omega), Option.getD_some]
  · subst h0
    exact ⟨[], World.ownsRow_nil _ _ _ _, fun k hk => by simp [Value.ownBlock] at hk, fun i hi => absurd hi (by omega)⟩

theorem run_append_none {P : Program} (base : Nat) (t ty e : TypeId) (i : TypeInfo) (size : Nat) (ht : P.underlying t = some (.slice e)) (hi : P.info? e = some i)
    (v : Value) (n : Nat) (xs : List Value) (hown : w.ownsRow base e size v n xs) (c : Nat) : (Builtin.append_ #[t, t] ty #[v, .slice none 0 c]).run P w = .ok v w := by
  rcases hown.2 with ⟨rfl, rfl⟩ | ⟨g, cap, cur, rfl, _, _, hnc, _⟩
  · simp [Builtin.append_, run_underlying ht, sizeOf, typeInfo, hi, Builtin.lenOf, Builtin.firstCells]
  · simp [Builtin.append_, run_underlying ht, sizeOf, typeInfo, hi, Builtin.lenOf, Builtin.firstCells, hnc, storeCells]

/-- append onto a row of the call's own, from whatever source. -/
theorem append_any {el t ty : TypeId} {tl : TyE} (hT : TysOK C) (htl : tyOf C el = some tl) (hu : C.P.underlying t = some (.slice el)) {base n m : Nat} {v u : Value} {xs : List Value} {g : Nat → AV} {sh : Shape} (hsh : sh = tl.sh) (hown : w.ownsRow base el sh.size v n xs)
    (hs : SrcIs w F u sh m g) (h63 : n + m ≤ 9223372036854775807) (hbytes : ((n + m : Nat) : Int) * tl.bytes ≤ 140737488355328) (hbase : base ≤ w.heap.size) :
    ∃ v' w' news, (Builtin.append_ #[t, t] ty #[v, u]).run C.P w = .ok v' w' ∧ w'.ownsRow base el sh.size v' (n + m) (xs ++ news) ∧ w.grownBy w' v.ownBlock ∧ (v'.ownBlock = v.ownBlock ∨ v'.ownBlock = some w.heap.size) ∧
      (∀ i, i < m → ∀ j, j < sh.size → ∃ u, news[i * sh.size + j]? = some u ∧ RepS w F u (leafAt sh (g i) j)) := by
  subst hsh
  have Tl := hT _ _ htl
  obtain ⟨dd, ie, z, hue, hie, hse, hbe, hz, hzs, _, hzr⟩ := Tl.info
  obtain ⟨A, c, news, rfl, hl, hA, hn, h1⟩ := src_news hs Tl.pos
  have hb2 : (n + m) * tl.bytes ≤ 140737488355328 := by
    have : (((n + m) * tl.bytes : Nat) : Int) ≤ 140737488355328 := by rw [Int.natCast_mul]; exact hbytes
    omega
  rcases Nat.eq_zero_or_pos m with h0 | h0
  · subst h0
    have hn0 : news = [] := List.eq_nil_of_length_eq_zero (by simpa using hl)
    subst hn0
    cases A with
    | none => exact ⟨v, w, [], run_append_none base t ty el ie _ hu hie v n xs hown c, by simpa using hown, World.grownBy.refl w _, .inl rfl, hn⟩
    | some ad =>
      obtain ⟨v', w', hr, h2, h3, _, h5⟩ := run_append_own_at (P := C.P) w base t ty el ie z _ _ hu hie hz hse hbe hzs Tl.pos v n xs hown ad 0 c [] (by simp) (fun j u hj => by simp at hj) (by simp) (by unfold maxLen; omega) hb2 hbase
      exact ⟨v', w', [], hr, h2, h3, h5, hn⟩
  · obtain ⟨ad, rfl, hc⟩ := hA h0
    obtain ⟨v', w', hr, h2, h3, _, h5⟩ := run_append_own_at (P := C.P) w base t ty el ie z _ _ hu hie hz hse hbe hzs Tl.pos v n xs hown ad m c news hl hc h1 (by unfold maxLen; omega) hb2 hbase
    exact ⟨v', w', news, hr, h2, h3, h5, hn⟩

theorem append_elems {n m : Nat} {sh : Shape} {f g : Nat → AV} {xs news : List Value} (hl : xs.length = n * sh.size) (hx : ∀ i, i < n → ∀ j, j < sh.size → ∃ u, xs[i * sh.size + j]? = some u ∧ RepS w F u (leafAt sh (f i) j))
    (hn : ∀ i, i < m → ∀ j, j < sh.size → ∃ u, news[i * sh.size + j]? = some u ∧ RepS w F u (leafAt sh (g i) j)) :
    ∀ i, i < n + m → ∀ j, j < sh.size → ∃ u, (xs ++ news)[i * sh.size + j]? = some u ∧ RepS w F u (leafAt sh (if i < n then f i else g (i - n)) j) := by
  intro i hi j hj
  by_cases h : i < n
  · have hmul : (i + 1) * sh.size ≤ n * sh.size := Nat.mul_le_mul_right _ h
    rw [Nat.add_mul] at hmul
    rw [List.getElem?_append_left (by omega), if_pos h]
    exact hx i h j hj
  · have e : i * sh.size = n * sh.size + (i - n) * sh.size := by rw [← Nat.add_mul]; congr 1; omega
    rw [List.getElem?_append_right (by omega), if_neg h, hl, show i * sh.size + j - n * sh.size = (i - n) * sh.size + j from by omega]
    exact hn (i - n) (by omega) j hj

theorem wp_append {c : Call} (h : Rel C W0 F0 st a w F φ) (hT : TysOK C) (ho : o.op = .call c) (hc : c.callee = .builtin .append) (hr : absOp C st e o.dst orc CC (.call c) = some r)
    (hx : ∀ x ∈ c.args.toList, ∀ u, e x = some u → Rep w F φ (a.eval x) u) (hob : ∀ p ∈ r.obs, p) (hst : applyEff st o.dst r.eff = some st') (hn : Next C W0 F0 st' a o r.val next) : o.wp C.P a w next Q := by
  simp only [absOp, hc] at hr
  split at hr
  case h_2 => cases hr
  rename_i x y t t' d hargs htys hd
  split at hr
  case h_2 => cases hr
  rename_i te v u h1 htt h2 h3
  have := Nat.eq_of_beq_eq_true htt
  subst this
  split at hr
  case h_2 => cases hr
  rename_i el hkind
  split at hr
  case h_2 => cases hr
  rename_i tl htl
  split at hr
  case h_2 => cases hr
  rename_i su m g ps hsrc
  have ea : c.args = #[x, y] := by rw [← Array.toArray_toList (xs := c.args), hargs]
  have et : c.argTypes = #[t, t] := by rw [← Array.toArray_toList (xs := c.argTypes), htys]
  have T := hT _ _ h1
  have Tl := hT _ _ htl
  have hu := kind_slice T hkind
  have hV := hx x (by rw [hargs]; simp) v h2
  have hU := hx y (by rw [hargs]; simp) u h3
  have fin : ∀ {v' : Value} {w' : World}, (Builtin.append_ #[t, t] o.type #[a.eval x, a.eval y]).run C.P w = .ok v' w' → next (a.put o.dst v') w' → o.wp C.P a w next Q := by
    intro v' w' hrun hnx
    unfold Oper.wp
    have : (execOp a.eval o).run C.P w = .ok (.value v') w' := by
      refine call_builtin ho hc ?_
      rw [ea, et]
      simp only [builtin, Sem.run_bind]
      have : (#[x, y].map a.eval) = #[a.eval x, a.eval y] := by simp
      rw [this, hrun]
      rfl
    rw [this]
    exact hnx
  have grow2 : ∀ {w' : World}, w.grownBy w' none → Below w.heap.size w w' := fun hg => (Below.refl _ _).grown hg (Nat.le_refl _) (by simp)
  have hs : (∀ p ∈ ps, p) → SrcIs w F (a.eval y) su m g := by
    intro hps
    cases u <;> simp only [Option.some.injEq, Prod.mk.injEq, reduceCtorEq] at hsrc
    · obtain ⟨rfl, rfl, rfl, rfl⟩ := hsrc; exact src_nils hU
    · obtain ⟨rfl, rfl, rfl, rfl⟩ := hsrc; exact src_seq (.inl hU)
    · obtain ⟨rfl, rfl, rfl, rfl⟩ := hsrc; exact src_seq (.inr hU)
    · split at hsrc
      · rename_i hb
        simp only [Option.some.injEq, Prod.mk.injEq] at hsrc
        obtain ⟨rfl, rfl, rfl, rfl⟩ := hsrc
        exact src_own h hU hb (hps _ (by simp))
      · cases hsrc
  have VX : ∃ vx, vx = a.eval x := ⟨_, rfl⟩
  obtain ⟨vx, hvx⟩ := VX
  rw [← hvx] at hV
  have finNew : ∀ {v' : Value} {w' : World} {n : Nat} {f : Nat → AV} {xs : List Value}, (Builtin.append_ #[t, t] o.type #[a.eval x, a.eval y]).run C.P w = .ok v' w' → w'.ownsRow 0 el su.size v' n xs → w.grownBy w' none →
      (v'.ownBlock = none ∨ v'.ownBlock = some w.heap.size) → (∀ i, i < n → ∀ j, j < su.size → ∃ u, xs[i * su.size + j]? = some u ∧ RepS w F u (leafAt su (f i) j)) → applyEff st o.dst (.new (.row el su n f)) = some st' → r.val = .own d n → o.wp C.P a w next Q := by
    intro v' w' n f xs hrun h4 h5 h6 h7 hst hval
    refine fin hrun ?_
    have hb := grow2 h5
    have hR := h.grown hb (fun _ hk => hk) (fun k hk => .inl hk) fun k hk => Nat.lt_of_lt_of_le (h.ro k hk) hb.size
    have hkeep : ∀ k, F k → w'.heap[k]? = w.heap[k]? := fun k hk => hb.block k (h.ro k hk)
    obtain ⟨pl, p1, p2, p3, p4⟩ := boxOK_of_own (F := F) (B := W0.B) (base := 0) (b := d) (f := f) (φ := φ) h4 (fun k hk => by
      rcases h6 with h6 | h6
      · rw [h6] at hk; cases hk
      · rw [h6] at hk; cases hk; exact h.bnew (Nat.le_refl _)) (fun k hk hF => by
      rcases h6 with h6 | h6
      · rw [h6] at hk; cases hk
      · rw [h6] at hk; cases hk; have := h.ro _ hF; omega) (fun i hi j hj => by
        obtain ⟨uu, hu1, hu2⟩ := h7 i hi j hj
        exact ⟨uu, hu1, hu2.keep hkeep fun _ hk => hk⟩)
    rw [hd] at hst
    simp only [applyEff] at hst
    split at hst
    case h_2 => cases hst
    rename_i hfr
    cases hst
    simp only [Bool.and_eq_true, Bool.not_eq_true'] at hfr
    obtain ⟨B1, B2⟩ := p4 (fun k => if k = d then pl else φ k) (by simp)
    refine hn v' w' F _ (hR.addBox hfr.1 hfr.2 pl (fun b c' gg hb' hg' hp => ?_) B1) fun _ => by rw [hval]; exact B2
    rw [p1] at hp
    rcases h6 with h6 | h6
    · rw [h6] at hp; cases hp
    · rw [h6] at hp; cases hp; have := ((h.heap b c' hb').lt hg').1; omega
  split at hr
  · -- nil
    rename_i hcond
    simp only [Bool.and_eq_true] at hcond
    have es := Shape.same_eq _ _ hcond.1
    cases hr
    obtain ⟨o1, o2⟩ : (m : Int) * tl.bytes ≤ 140737488355328 ∧ m ≤ 9223372036854775807 := hob _ (by simp)
    have hVn : vx = .slice none 0 0 := by cases hV with | stat hV => cases hV; rfl
    obtain ⟨v', w', news, hrun, h4, h5, h6, h7⟩ := append_any (ty := o.type) hT htl hu es (World.ownsRow_nil w 0 el su.size) (hs fun p hp => hob p (by simp [hp])) (by omega) (by rw [Nat.zero_add]; exact o1) (Nat.zero_le _)
    rw [← hVn, hvx] at hrun
    rw [Nat.zero_add, List.nil_append] at h4
    exact finNew hrun h4 h5 h6 h7 hst rfl
  · -- full
    rename_i sh n f hcond
    simp only [Bool.and_eq_true] at hcond
    have es := Shape.same_eq _ _ hcond.1
    split at hr
    case h_2 => cases hr
    rename_i hsame
    have es2 := Shape.same_eq _ _ hsame
    subst es2
    cases hr
    obtain ⟨o0, o1, o2⟩ : 0 < m ∧ ((n + m : Nat) : Int) * tl.bytes ≤ 140737488355328 ∧ n + m ≤ 9223372036854775807 := hob _ (by simp)
    obtain ⟨dd, ie, z, hue, hie, hse, hbe, hz, hzs, _, hzr⟩ := Tl.info
    have hpos := Tl.pos
    obtain ⟨A2, c2, news, hUv, hl2, hA2, hn2, h12⟩ := src_news (hs fun p hp => hob p (by simp [hp])) (by rw [es]; exact hpos)
    obtain ⟨ad, rfl, hc2⟩ := hA2 o0
    obtain ⟨A1, c1, olds, hVv, hl1, hA1, hn1, h11⟩ := src_news (src_seq (.inr hV)) (by rw [es]; exact hpos)
    have hcap : c1 = n := by
      rw [hVv] at hV
      cases hV with
      | stat hV => cases hV <;> rfl
    subst hcap
    have hb2 : (c1 + m) * tl.bytes ≤ 140737488355328 := by
      have : (((c1 + m) * tl.bytes : Nat) : Int) ≤ 140737488355328 := by rw [Int.natCast_mul]; exact o1
      omega
    have hge := grownCap_ge w (c1 + m) c1 el
    have hcm : grownCap w (c1 + m) c1 el ≤ maxLen := grownCap_le_maxLen w (c1 + m) c1 el (by unfold maxLen; omega)
    have hsz1 : ie.size = sh.size := by rw [hse, es]
    have done : (Builtin.append_ #[t, t] o.type #[a.eval x, a.eval y]).run C.P w = .ok (.slice (some ⟨w.heap.size, 0, none⟩) (c1 + m) (grownCap w (c1 + m) c1 el)) (w.drew.alloc (.cells (olds.toArray ++ news.toArray ++ Builtin.zeroCells z.cells (grownCap w (c1 + m) c1 el - (c1 + m))) el)) := by
      have ex2 : a.eval x = .slice A1 c1 c1 := hvx.symm.trans hVv
      rw [hUv, ex2]
      cases A1 with
      | some b1 =>
        refine run_append_grow (P := C.P) w t o.type el ie z hu hie hz b1 c1 c1 olds (by rw [hl1, hsz1]) (fun j u hj => ?_) ad m c2 news (by rw [hl2, hsz1]) hc2 (by omega) (by omega) (growslice_fits (by omega) (by rw [hbe]; exact hb2))
        rcases Nat.eq_zero_or_pos c1 with h0 | h0
        · subst h0
          have : olds = [] := List.eq_nil_of_length_eq_zero (by simpa using hl1)
          subst this; simp at hj
        · obtain ⟨ad1, e1, hc1⟩ := hA1 h0
          cases e1
          exact hc1 j u hj
      | none =>
        have h0 : c1 = 0 := by
          rcases Nat.eq_zero_or_pos c1 with h0 | h0
          · exact h0
          · obtain ⟨ad1, e1, _⟩ := hA1 h0; cases e1
        subst h0
        have h0 : olds = [] := List.eq_nil_of_length_eq_zero (by simpa using hl1)
        subst h0
        have hb3 : m * ie.bytes ≤ 281474976710656 := by rw [hbe]; have h9 := hb2; rw [Nat.zero_add] at h9; exact Nat.le_trans h9 (by decide)
        have hm3 : (m : Int) ≤ 9223372036854775807 := by rw [Nat.zero_add] at o2; exact Int.ofNat_le.2 o2
        have := run_append_nil (P := C.P) w t o.type el ie z hu hie hz ad m c2 news (by rw [hl2, hsz1]) hc2 o0 hm3 hb3
        simpa using this
    have gr : w.grownBy (w.drew.alloc (.cells (olds.toArray ++ news.toArray ++ Builtin.zeroCells z.cells (grownCap w (c1 + m) c1 el - (c1 + m))) el)) none := ⟨rfl, rfl, rfl, by simp, fun k hk _ => Below.heap_alloc w.drew _ k hk⟩
    have els := append_elems hl1 hn1 hn2
    refine finNew done ?_ gr (.inr rfl) els hst rfl
    refine ⟨by rw [List.length_append, hl1, hl2, Nat.add_mul], .inr ⟨w.heap.size, _, _, rfl, Nat.zero_le _, heap_alloc_new w.drew _, hge, hcm, ?_, ?_⟩⟩
    · simp only [Array.size_append, List.size_toArray, size_zeroCells, hzs, hl1, hl2, ← es, ← Nat.add_mul]
      congr 1
      omega
    · simp only [Array.toList_append, List.append_assoc]
      have : (c1 + m) * sh.size = (olds ++ news).length := by rw [List.length_append, hl1, hl2, Nat.add_mul]
      rw [← List.append_assoc, this]
      exact List.take_left
  · -- the call's own
    rename_i b n hcond
    simp only [Bool.and_eq_true] at hcond
    have es := Shape.same_eq _ _ hcond.1
    split at hr
    case h_2 => cases hr
    rename_i ty sh n' f hb
    split at hr
    case h_2 => cases hr
    rename_i hcnd
    simp only [Bool.and_eq_true, Bool.not_eq_true'] at hcnd
    obtain ⟨⟨k1, k2⟩, k4⟩ := hcnd
    have e1 := Nat.eq_of_beq_eq_true k1
    have es2 := Shape.same_eq _ _ k2
    subst e1 es2
    cases hr
    obtain ⟨o0, o1, o2⟩ : n = n' ∧ ((n + m : Nat) : Int) * tl.bytes ≤ 140737488355328 ∧ n + m ≤ 9223372036854775807 := hob _ (by simp)
    subst o0
    obtain ⟨xs, hown, hob1, hxs⟩ := own_of_box (h.heap b _ hb) hV rfl
    obtain ⟨v', w', news, hrun, h4, h5, h6, h7⟩ := append_any (ty := o.type) hT htl hu es hown (hs fun p hp => hob p (by simp [hp])) o2 o1 (Nat.zero_le _)
    rw [hvx] at hrun
    refine fin hrun ?_
    simp only [applyEff, Option.some.injEq] at hst
    subst hst
    have hFn : ∀ k, v'.ownBlock = some k → ¬ F k := by
      intro k hk hF
      rcases h6 with h6 | h6
      · rw [h6] at hk; exact ((h.heap b _ hb).lt (hob1 k hk)).2.1 hF
      · rw [h6] at hk; cases hk; have := h.ro _ hF; omega
    have hkeep : ∀ k, F k → w'.heap[k]? = w.heap[k]? := fun k hk => h5.block k (h.ro k hk) fun e => ((h.heap b _ hb).lt (hob1 k e.symm)).2.1 hk
    obtain ⟨pl, p1, p2, p3, p4⟩ := boxOK_of_own (F := F) (B := W0.B) (base := 0) (b := b) (f := fun i => if i < n then f i else g (i - n)) (φ := φ) h4 (fun k hk => by
      rcases h6 with h6 | h6
      · rw [h6] at hk; exact ((h.heap b _ hb).lt (hob1 k hk)).2.2
      · rw [h6] at hk; cases hk; exact h.bnew (Nat.le_refl _)) hFn (fun i hi j hj => by
      obtain ⟨uu, hu1, hu2⟩ := append_elems hown.1 hxs h7 i hi j hj
      exact ⟨uu, hu1, hu2.keep hkeep fun _ hk => hk⟩)
    obtain ⟨B1, B2⟩ := p4 (fun k => if k = b then pl else φ k) (by simp)
    refine hn v' w' F _ (h.growBox hb h5 rfl (fun gg hg => hob1 gg hg) pl (fun gg hg => ?_) B1) fun _ => B2
    rw [p1] at hg
    rcases h6 with h6 | h6
    · rw [h6] at hg; exact .inl (hob1 gg hg)
    · rw [h6] at hg; cases hg; exact .inr (Nat.le_refl _)
  · cases hr
end
end Go.AV
