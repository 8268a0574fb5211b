/- Layer 24: rows of buffers as arguments. -/
import Derived.Test.YtihfplgdpbcieaaL24
import Derived.Test.YtihfplgdpbcieaaP24v
namespace Go.Proofs.S24
open Go Go.AV
def t45 : TyE := ⟨.leaf, .nils, 24, .slice 24, false⟩
theorem Known.sub {P : Program} {G : List (Nat × AV)} {f : FuncId} {args args' : List AV} {r : AV} (h : Known P G f args r) (hl : args'.length = args.length) (hs : ∀ (w : World) (F : Nat → Prop) (j : Nat) (v : Value), j < args.length → RepS w F v (args'.getD j .any) → RepS w F v (args.getD j .any)) : Known P G f args' r := by
  rcases h with ⟨h1, h2⟩ | h
  · exact .inl ⟨h1, fun w F vs hro hg hsz ha => h2 w F vs hro hg (by omega) fun j hj => hs w F j _ hj (ha j (by omega))⟩
  · exact .inr fun w F vs hsz ha => h w F vs (by omega) fun j hj => hs w F j _ hj (ha j (by omega))
theorem seq_sub {w : World} {F : Nat → Prop} {v : Value} {sh : Shape} {n : Nat} {f g : Nat → AV} (h : RepS w F v (.seq sh n f)) (hs : ∀ i, i < n → ∀ j, j < sh.size → ∀ u, RepS w F u (leafAt sh (f i) j) → RepS w F u (leafAt sh (g i) j)) : RepS w F v (.seq sh n g) := by
  generalize hx : AV.seq sh n f = x at h
  cases h with
  | seq0 a cap sh' f' => cases hx; exact .seq0 _ _ _ _
  | seq p o n' cap sh' f' cs hF hn hc hr => cases hx; exact .seq _ _ _ _ _ _ cs hF hn hc fun i hi j hj => hs i hi j hj _ (hr i hi j hj)
  | _ => cases hx
theorem mc_sub {w : World} {F : Nat → Prop} {v : Value} {sh : Shape} {x y : AV} (h : RepS w F v (.mc sh x)) (hs : ∀ j, j < sh.size → ∀ u, RepS w F u (leafAt sh x j) → RepS w F u (leafAt sh y j)) : RepS w F v (.mc sh y) := by
  cases h with | mc cs _ _ h1 h2 => exact .mc cs sh y h1 fun j hj => hs j hj _ (h2 j hj)
theorem has24x {n : Nat} {y : AV} (h : HasTy (cfg n) t24 y) : ∃ b : Buf, (∀ w F j v, j < 3 → RepS w F v (leafAt bufSh y j) → RepS w F v (leafAt bufSh (encB b) j)) ∧ b.entries.length ≤ maxLen := by
  obtain ⟨xs, rfl, hl, hx⟩ := has_struct (fs := [3, 3, 22]) rfl h
  match xs, hl with
  | [a, b, c], _ =>
    obtain ⟨v, hv⟩ := has_int rfl (hx 0 3 t3 rfl rfl)
    obtain ⟨w, hw⟩ := has_int rfl (hx 1 3 t3 rfl rfl)
    obtain ⟨l, hl, hs, hc⟩ := has22 (hx 2 22 t22 rfl rfl)
    obtain ⟨m, f, hseq, _⟩ := has_slice (tl := t30) rfl rfl (hx 2 22 t22 rfl rfl)
    simp at hv hw hc hs hseq
    subst hv hw hseq
    refine ⟨⟨v, w, l⟩, fun w F j u hj hu => ?_, hl⟩
    match j, hj with
    | 0, _ => exact hu
    | 1, _ => exact hu
    | 2, _ => exact le_repS rfl hc hu
theorem has45 {n : Nat} {y : AV} (h : HasTy (cfg n) t45 y) : ∃ l : List Buf, (∀ w F v, RepS w F v y → RepS w F v (rowB l)) ∧ l.length ≤ maxLen ∧ ∀ i, (l.getD i default).entries.length ≤ maxLen := by
  obtain ⟨m, f, rfl, hm, hf⟩ := has_slice (tl := t24) rfl rfl h
  have h' : ∀ i, ∃ b : Buf, i < m → (∀ w F j v, j < 3 → RepS w F v (leafAt bufSh (f i) j) → RepS w F v (leafAt bufSh (encB b) j)) ∧ b.entries.length ≤ maxLen := fun i => by
    by_cases hi : i < m
    · obtain ⟨c, hc⟩ := has24x (hf i hi); exact ⟨c, fun _ => hc⟩
    · exact ⟨default, fun h => absurd h hi⟩
  obtain ⟨g, hg⟩ := Classical.skolem.1 h'
  refine ⟨(List.range m).map g, fun w F v hv => ?_, by simp; exact hm, fun i => ?_⟩
  · unfold rowB
    rw [List.length_map, List.length_range]
    refine seq_sub hv fun i hi j hj u hu => ?_
    have : ((List.range m).map g).getD i default = g i := by simp [hi]
    rw [this]
    exact (hg i hi).1 w F j u hj hu
  · by_cases hi : i < m
    · have : ((List.range m).map g).getD i default = g i := by simp [hi]
      rw [this]; exact (hg i hi).2
    · rw [List.getD_eq_getElem?_getD, List.getElem?_eq_none (by simp; omega)]; simp [default, instInhabitedBuf.default]
end Go.Proofs.S24
