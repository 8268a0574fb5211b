/- strings.Builder's WriteByte, WriteString, Len: their contracts. -/
import Derived.Test.YtmlgkljbhidlhaaS09b
import Derived.KernelRfl
namespace Go.Proofs.S09
open Go Go.AV Go.Proofs.Dec
theorem strRow_app (l s : List UInt8) : ∀ i, i < l.length + s.length → (if i < l.length then strRow l i else strRow s (i - l.length)) = strRow (l ++ s) i := by
  intro i hi
  simp only [strRow]
  by_cases h : i < l.length
  · rw [if_pos h]; simp [List.getD_eq_getElem?_getD, List.getElem?_append_left h]
  · rw [if_neg h]; simp [List.getD_eq_getElem?_getD, List.getElem?_append_right (Nat.le_of_not_lt h)]
theorem strRow_one (c : Int) (hc : 0 ≤ c ∧ c ≤ 255) : strRow [c.toNat.toUInt8] 0 = .int .u8 c := by
  have : c.toNat % 256 = c.toNat := Nat.mod_eq_of_lt (by omega)
  simp only [strRow, List.getD_cons_zero, Nat.toUInt8_eq, UInt8.toNat_ofNat', this]
  congr 1; omega
theorem e22f (c : Int) : g22f c = (KnownL Try.prog [] (39 : Nat) [AV.ptr (0 : Nat) []] [BoxC.cell (51 : TypeId) (Shape.agg [Shape.leaf, Shape.leaf]) (AV.agg [AV.nilp, AV.nils])] (AV.tup []) [some (BoxC.cell (51 : TypeId) (Shape.agg [Shape.leaf, Shape.leaf]) (AV.agg [AV.ptr (0 : Nat) [], AV.nils]))] ∧ (1 : Nat) * Shape.size Shape.leaf ≤ (16777216 : Nat) ∧ ((↑(1 : Nat) : Int) * (↑(1 : Nat) : Int) ≤ (140737488355328 : Int) ∧ (1 : Nat) ≤ (9223372036854775807 : Nat)) ∧ (1 : Nat) ≤ (1 : Nat) ∧ (true = true ∧ True) ∧ ((51 : TypeId) = (51 : TypeId) ∧ Shape.agg [Shape.leaf, Shape.leaf] = Shape.agg [Shape.leaf, Shape.leaf] ∧ AV.ptr (1099511627776 : Nat) [] = AV.ptr (1099511627776 : Nat) [] ∧ ((14 : Nat) = (14 : Nat) ∧ (1 : Nat) = (1 : Nat)) ∧ True) ∧ ((5 : TypeId) = (5 : TypeId) ∧ Shape.leaf = Shape.leaf ∧ (1 : Nat) = List.length [Nat.toUInt8 (Int.toNat c)] ∧ ∀ (i : Nat), i < (1 : Nat) → List.getD (List.set (List.replicate (1 : Nat) (AV.int IntKind.u8 (0 : Int))) (0 : Nat) (strip1 (strip1 (AV.int IntKind.u8 c)))) i AV.any = strRow [Nat.toUInt8 (Int.toNat c)] i) ∧ True) := by kernel_rfl
theorem k22f (c : Int) (hc : 0 ≤ c ∧ c ≤ 255) : KnownL Try.prog [] 22 [.ptr 0 [], .int .u8 c] [bld .nilp .nils] .any [some (bld (.ptr 0 []) (.own 1 1)), some (brow [c.toNat.toUInt8])] := by
  refine KnownL.of (V := vB 17) (fn := Try.f22) rfl (by kernel_rfl) (cfgB_ok _) rfl ?_
  show g22f c
  rw [e22f]
  refine ⟨k39f, by decide, ⟨by decide, by decide⟩, by decide, ⟨rfl, trivial⟩, ⟨rfl, rfl, rfl, ⟨rfl, rfl⟩, trivial⟩, ⟨rfl, rfl, rfl, fun i hi => ?_⟩, trivial⟩
  obtain rfl : i = 0 := by omega
  exact (strRow_one c hc).symm
theorem e22u (l : List UInt8) (c : Int) : g22u l c = (KnownL Try.prog [] (39 : Nat) [AV.ptr (0 : Nat) []] [BoxC.cell (51 : TypeId) (Shape.agg [Shape.leaf, Shape.leaf]) (AV.agg [AV.ptr (0 : Nat) [], AV.own (1 : Nat) (List.length l)]), BoxC.row (5 : TypeId) Shape.leaf (List.length l) (strRow l)] (AV.tup []) [some (BoxC.cell (51 : TypeId) (Shape.agg [Shape.leaf, Shape.leaf]) (AV.agg [AV.ptr (0 : Nat) [], AV.own (1 : Nat) (List.length l)])), some (BoxC.row (5 : TypeId) Shape.leaf (List.length l) (strRow l))] ∧ (1 : Nat) * Shape.size Shape.leaf ≤ (16777216 : Nat) ∧ (List.length l = List.length l ∧ (↑(List.length l + (1 : Nat)) : Int) * (↑(1 : Nat) : Int) ≤ (140737488355328 : Int) ∧ List.length l + (1 : Nat) ≤ (9223372036854775807 : Nat)) ∧ (1 : Nat) ≤ (1 : Nat) ∧ (true = true ∧ True) ∧ ((51 : TypeId) = (51 : TypeId) ∧ Shape.agg [Shape.leaf, Shape.leaf] = Shape.agg [Shape.leaf, Shape.leaf] ∧ AV.ptr (1099511627776 : Nat) [] = AV.ptr (1099511627776 : Nat) [] ∧ ((1099511627777 : Nat) = (1099511627777 : Nat) ∧ List.length l + (1 : Nat) = List.length l + (1 : Nat)) ∧ True) ∧ ((5 : TypeId) = (5 : TypeId) ∧ Shape.leaf = Shape.leaf ∧ List.length l + (1 : Nat) = List.length (l ++ [Nat.toUInt8 (Int.toNat c)]) ∧ ∀ (i : Nat), i < List.length l + (1 : Nat) → (if i < List.length l then strRow l i else List.getD (List.set (List.replicate (1 : Nat) (AV.int IntKind.u8 (0 : Int))) (0 : Nat) (strip1 (strip1 (AV.int IntKind.u8 c)))) (i - List.length l) AV.any) = strRow (l ++ [Nat.toUInt8 (Int.toNat c)]) i) ∧ True) := by kernel_rfl
theorem k22u (l : List UInt8) (c : Int) (hc : 0 ≤ c ∧ c ≤ 255) (hl : l.length ≤ 1000000) : KnownL Try.prog [] 22 [.ptr 0 [], .int .u8 c] [bld (.ptr 0 []) (.own 1 l.length), brow l] .any [some (bld (.ptr 0 []) (.own 1 (l.length + 1))), some (brow (l ++ [c.toNat.toUInt8]))] := by
  refine KnownL.of (V := vB 17) (fn := Try.f22) rfl (by kernel_rfl) (cfgB_ok _) rfl ?_
  show g22u l c
  rw [e22u]
  refine ⟨k39u _ _, by decide, ⟨rfl, by omega, by omega⟩, by decide, ⟨rfl, trivial⟩, ⟨rfl, rfl, rfl, ⟨rfl, rfl⟩, trivial⟩, ⟨rfl, rfl, by simp, fun i hi => ?_⟩, trivial⟩
  rw [← strRow_app l [c.toNat.toUInt8] i (by simpa using hi)]
  split
  · rfl
  · obtain h : i - l.length = 0 := by omega
    rw [h]
    exact (strRow_one c hc).symm
theorem e23f (s : List UInt8) : g23f s = (KnownL Try.prog [] (39 : Nat) [AV.ptr (0 : Nat) []] [BoxC.cell (51 : TypeId) (Shape.agg [Shape.leaf, Shape.leaf]) (AV.agg [AV.nilp, AV.nils])] (AV.tup []) [some (BoxC.cell (51 : TypeId) (Shape.agg [Shape.leaf, Shape.leaf]) (AV.agg [AV.ptr (0 : Nat) [], AV.nils]))] ∧ (↑(List.length s) : Int) ≤ (225179981368000 : Int) ∧ (↑(List.length s) : Int) ≤ (9223372036854775807 : Int) ∧ (((IntKind.i64 = IntKind.i64 ∧ (↑(List.length s) : Int) = (↑(List.length s) : Int)) ∧ true = true ∧ True) ∧ True) ∧ ((51 : TypeId) = (51 : TypeId) ∧ Shape.agg [Shape.leaf, Shape.leaf] = Shape.agg [Shape.leaf, Shape.leaf] ∧ AV.ptr (1099511627776 : Nat) [] = AV.ptr (1099511627776 : Nat) [] ∧ ((14 : Nat) = (14 : Nat) ∧ List.length s = List.length s) ∧ True) ∧ ((5 : TypeId) = (5 : TypeId) ∧ Shape.leaf = Shape.leaf ∧ List.length s = List.length s ∧ ∀ (i : Nat), i < List.length s → strRow s i = strRow s i) ∧ True) := by kernel_rfl
theorem k23f (s : List UInt8) (hs : s.length ≤ 225179981368000) : KnownL Try.prog [] 23 [.ptr 0 [], .str s] [bld .nilp .nils] (.tup [.int .i64 s.length, .any]) [some (bld (.ptr 0 []) (.own 1 s.length)), some (brow s)] := by
  refine KnownL.of (V := vB 19) (fn := Try.f23) rfl (by kernel_rfl) (cfgB_ok _) rfl ?_
  show g23f s
  rw [e23f]
  exact ⟨k39f, by omega, by omega, ⟨⟨⟨rfl, rfl⟩, rfl, trivial⟩, trivial⟩, ⟨rfl, rfl, rfl, ⟨rfl, rfl⟩, trivial⟩, ⟨rfl, rfl, rfl, fun i hi => rfl⟩, trivial⟩
theorem e23u (l s : List UInt8) : g23u l s = (KnownL Try.prog [] (39 : Nat) [AV.ptr (0 : Nat) []] [BoxC.cell (51 : TypeId) (Shape.agg [Shape.leaf, Shape.leaf]) (AV.agg [AV.ptr (0 : Nat) [], AV.own (1 : Nat) (List.length l)]), BoxC.row (5 : TypeId) Shape.leaf (List.length l) (strRow l)] (AV.tup []) [some (BoxC.cell (51 : TypeId) (Shape.agg [Shape.leaf, Shape.leaf]) (AV.agg [AV.ptr (0 : Nat) [], AV.own (1 : Nat) (List.length l)])), some (BoxC.row (5 : TypeId) Shape.leaf (List.length l) (strRow l))] ∧ (List.length l = List.length l ∧ (↑(List.length l + List.length s) : Int) ≤ (225179981368000 : Int)) ∧ (↑(List.length s) : Int) ≤ (9223372036854775807 : Int) ∧ (((IntKind.i64 = IntKind.i64 ∧ (↑(List.length s) : Int) = (↑(List.length s) : Int)) ∧ true = true ∧ True) ∧ True) ∧ ((51 : TypeId) = (51 : TypeId) ∧ Shape.agg [Shape.leaf, Shape.leaf] = Shape.agg [Shape.leaf, Shape.leaf] ∧ AV.ptr (1099511627776 : Nat) [] = AV.ptr (1099511627776 : Nat) [] ∧ ((1099511627777 : Nat) = (1099511627777 : Nat) ∧ List.length l + List.length s = List.length l + List.length s) ∧ True) ∧ ((5 : TypeId) = (5 : TypeId) ∧ Shape.leaf = Shape.leaf ∧ List.length l + List.length s = List.length (l ++ s) ∧ ∀ (i : Nat), i < List.length l + List.length s → (if i < List.length l then strRow l i else strRow s (i - List.length l)) = strRow (l ++ s) i) ∧ True) := by kernel_rfl
theorem k23u (l s : List UInt8) (hs : l.length + s.length ≤ 225179981368000) : KnownL Try.prog [] 23 [.ptr 0 [], .str s] [bld (.ptr 0 []) (.own 1 l.length), brow l] (.tup [.int .i64 s.length, .any]) [some (bld (.ptr 0 []) (.own 1 (l.length + s.length))), some (brow (l ++ s))] := by
  refine KnownL.of (V := vB 19) (fn := Try.f23) rfl (by kernel_rfl) (cfgB_ok _) rfl ?_
  show g23u l s
  rw [e23u]
  exact ⟨k39u _ _, ⟨rfl, by omega⟩, by omega, ⟨⟨⟨rfl, rfl⟩, rfl, trivial⟩, trivial⟩, ⟨rfl, rfl, rfl, ⟨rfl, rfl⟩, trivial⟩, ⟨rfl, rfl, by simp, strRow_app l s⟩, trivial⟩
theorem e24 (l : List UInt8) : g24 l = ((↑(List.length l) : Int) ≤ (9223372036854775807 : Int) ∧ ((IntKind.i64 = IntKind.i64 ∧ (↑(List.length l) : Int) = (↑(List.length l) : Int)) ∧ True) ∧ ((51 : TypeId) = (51 : TypeId) ∧ Shape.agg [Shape.leaf, Shape.leaf] = Shape.agg [Shape.leaf, Shape.leaf] ∧ AV.ptr (1099511627776 : Nat) [] = AV.ptr (1099511627776 : Nat) [] ∧ ((1099511627777 : Nat) = (1099511627777 : Nat) ∧ List.length l = List.length l) ∧ True) ∧ ((5 : TypeId) = (5 : TypeId) ∧ Shape.leaf = Shape.leaf ∧ List.length l = List.length l ∧ ∀ (i : Nat), i < List.length l → strRow l i = strRow l i) ∧ True) := by kernel_rfl
theorem k24 (l : List UInt8) (hs : l.length ≤ 225179981368000) : KnownL Try.prog [] 24 [.ptr 0 []] [bld (.ptr 0 []) (.own 1 l.length), brow l] (.int .i64 l.length) [some (bld (.ptr 0 []) (.own 1 l.length)), some (brow l)] := by
  refine KnownL.of (V := vB 8) (fn := Try.f24) rfl (by kernel_rfl) (cfgB_ok _) rfl ?_
  show g24 l
  rw [e24]
  exact ⟨by omega, ⟨⟨rfl, rfl⟩, trivial⟩, ⟨rfl, rfl, rfl, ⟨rfl, rfl⟩, trivial⟩, ⟨rfl, rfl, rfl, fun i hi => rfl⟩, trivial⟩
end Go.Proofs.S09
