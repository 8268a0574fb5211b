/- Layer 24: BufferPuts. -/
import Derived.Test.YtihfplgdpbcieaaP24u
namespace Go.Proofs.S24
open Go Go.AV
theorem sm_few {l : List Buf} (h : fewB l = true) : SmL l := by
  obtain ⟨h1, h2⟩ := (few_iff l).1 h
  refine ⟨by omega, fun i => ?_⟩
  unfold Sm
  by_cases hi : i < l.length
  · have := h2 i hi; omega
  · rw [List.getD_eq_getElem?_getD, List.getElem?_eq_none (by omega)]; simp [default, instInhabitedBuf.default]
theorem sm_one {b : Buf} (h : Sm b) : SmL [b] := by
  refine ⟨by simp, fun i => ?_⟩
  cases i with
  | zero => exact h
  | succ i => simp [Sm, default, instInhabitedBuf.default]
theorem sm_put {l : List Buf} {b : Buf} (hl : SmL l) (hb : Sm b) : SmL (putB l b) := by
  refine ⟨by rw [put_len]; exact hl.1, fun i => ?_⟩
  by_cases h : (findB l b.thread).2 = true
  · by_cases hi : i < l.length
    · rw [put_get l b i hi h]
      split
      · exact hb
      · exact hl.2 i
    · unfold Sm
      rw [List.getD_eq_getElem?_getD, List.getElem?_eq_none (by rw [put_len]; omega)]; simp [default, instInhabitedBuf.default]
  · rw [put_not l b (by simpa using h)]; exact hl.2 i
theorem k24s (a b : List Buf) (ha : SmL a) (hb : SmL b) : Known Try.prog [] 24 [rowB a, rowB b] (.bool (decide (a = b))) := k24 a b ha.1 hb.1 ha.2 hb.2
theorem k24r (a : List Buf) (ha : SmL a) : Known Try.prog [] 24 [rowB a, rowB a] (.bool true) := by
  have := k24s a a ha ha
  rwa [decide_eq_true rfl] at this
theorem k30r (a : List Buf) (ha : SmL a) : Known Try.prog [] 30 [rowB a, rowB a] (.bool true) := by
  have := k30 a a ha ha
  rwa [decide_eq_true rfl] at this
def oneF (b : Buf) (i : Nat) : AV := ((List.replicate 1 (AV.agg [AV.int IntKind.i64 0, AV.int IntKind.i64 0, AV.nils])).set 0 (AV.agg [AV.int IntKind.i64 b.thread, AV.int IntKind.i64 b.first, AV.seq (Shape.agg [Shape.leaf, Shape.leaf]) b.entries.length fun i => encE (b.entries.getD i default)])).getD i AV.any
theorem le_one (b : Buf) : AV.le [] [] (.seq bufSh 1 (oneF b)) (rowB [b]) := ⟨rfl, rfl, fun i hi => by obtain rfl : i = 0 := (by omega); rfl⟩
theorem k28o (b : Buf) (hb : Sm b) : Known Try.prog [] 28 [.seq bufSh 1 (oneF b)] (rowB [b]) := (k28 [b] (sm_one hb)).weaken (args' := [.seq bufSh 1 (oneF b)]) rfl ⟨le_one b, trivial⟩
theorem k24o (b : Buf) (hb : Sm b) : Known Try.prog [] 24 [.seq bufSh 1 (oneF b), rowB [b]] (.bool true) := (k24r [b] (sm_one hb)).weaken (args' := [.seq bufSh 1 (oneF b), rowB [b]]) rfl ⟨le_one b, ⟨rfl, rfl, fun _ _ => rfl⟩, trivial⟩
theorem k7 (l : List Buf) (b : Buf) (o : List Buf) (hl : l.length ≤ 9223372036854775807) (hle : ∀ i, (l.getD i default).entries.length ≤ 9223372036854775807) (hb : b.entries.length ≤ 9223372036854775807) (ho : o.length ≤ 9223372036854775807) (hoe : ∀ i, (o.getD i default).entries.length ≤ 9223372036854775807) :
    Known Try.prog [] 7 [rowB l, vB b, rowB o] (.bool true) := by
  refine Known.of (V := { vP 105 (fun _ => none) with orc := orc7 l b ⟨fewB l, fewB o, (findB l b.thread).1, (findB l b.thread).2, putB l b, decide (l = o)⟩ }) (fn := Try.f7) rfl (by kernel_rfl) (cfgN_ok _ _ _ _) rfl ?_
  show g7 l b o ⟨fewB l, fewB o, (findB l b.thread).1, (findB l b.thread).2, putB l b, decide (l = o)⟩
  rw [e7]
  simp only [and_true, true_and, implies_true, Bool.or_eq_true, Bool.and_eq_true, Bool.or_eq_false_iff, Bool.not_eq_true', decide_eq_true_eq, decide_eq_false_iff_not, Bool.not_eq_false', imp_self, beq_iff_eq, beq_eq_false_iff_ne, bne_iff_ne, bne_eq_false_iff_eq, ne_eq, strip1_seq, bufSz, Nat.le_refl, Nat.one_mul]
  refine ⟨k21 l hl hle, fun _ => k21 o ho hoe, fun _ => by omega, fun _ => k8, fun h => ?_⟩
  have s1 := sm_few h.1.1
  have s2 := sm_few h.1.2
  have s3 : Sm b := by unfold Sm; omega
  refine ⟨k22 l _ s1, k23 l _ s1, fun _ => k25P l b s1 s3, fun _ => k26 l b s1 s3, fun _ => k24r _ (sm_put s1 s3), fun _ => k27P l s1, fun _ => k24r l s1, fun h => by simp at h, fun _ => ⟨k28 l s1, by decide, k28o b s3, ?_, ?_, k24r l s1, fun _ => by decide, fun _ => k24o b s3, fun h => by simp at h, fun _ => ⟨k30 l o s1 s2, k24s l o s1 s2, fun _ => k30r l s1, fun _ => k8⟩⟩⟩
  · exact twice (sm_put s1 s3) fun N => k25F N l b s1 s3
  · exact twice s1 fun N => k27F N l s1
end Go.Proofs.S24
