/- How often a byte occurs: a function that the model answers by itself. -/
import Derived.Test.YtmlgkljbhidlhaaAvExt
namespace Go.AV
open Go.RowKit

def cntI (l : List UInt8) (c : UInt8) : Int := l.foldl (fun n x => if x == c then n + 1 else n) 0
theorem loop_fold (f : Int → UInt8 → Int) (s : ByteArray) : ∀ (i j : Nat) (b : Int), j + i = s.size → (ByteArray.foldlM.loop (m := _root_.Id) (fun x y => pure (f x y)) s s.size (Nat.le_refl _) i j b).run = (s.data.toList.drop j).foldl f b
  | 0, j, b, h => by
    rw [ByteArray.foldlM.loop.eq_def, dif_neg (by omega)]
    have : s.data.toList.length = s.size := by simp
    rw [List.drop_eq_nil_of_le (by omega)]
    rfl
  | i + 1, j, b, h => by
    rw [ByteArray.foldlM.loop.eq_def, dif_pos (by omega)]
    have hl : s.data.toList.length = s.size := by simp
    have hj : j < s.data.toList.length := by omega
    have ih := loop_fold f s i (j + 1) (f b s[j]) (by omega)
    rw [List.drop_eq_getElem_cons hj, List.foldl_cons]
    exact ih
theorem fold_eq (f : Int → UInt8 → Int) (s : ByteArray) (b : Int) : s.foldl f b = s.data.toList.foldl f b := by
  unfold ByteArray.foldl ByteArray.foldlM
  simp only [Nat.le_refl, dif_pos, Nat.sub_zero]
  exact loop_fold f s s.size 0 b (by omega)
theorem cnt_rng (c : UInt8) : ∀ (l : List UInt8) (m : Int), m ≤ l.foldl (fun n x => if x == c then n + 1 else n) m ∧ l.foldl (fun n x => if x == c then n + 1 else n) m ≤ m + l.length
  | [], m => by simp
  | x :: l, m => by
    simp only [List.foldl_cons, List.length_cons]
    split
    · have := cnt_rng c l (m + 1); omega
    · have := cnt_rng c l m; omega
theorem ext_count {P : Program} {f : FuncId} {fn : Func} (l : List UInt8) (n : Int) (hf : P.funcs[f]? = some fn) (hn : (fn.name == "runtime.NumGoroutine") = false) (hb : fn.body.isNone = true)
    (h1 : Extern.findNext fn = none) (h2 : Extern.find fn = some Extern.BytealgCount.count) (hl : l.length ≤ 9223372036854775807) : RExt P f [.str l, .int .u8 n] (.int .i64 (cntI l n.toNat.toUInt8)) := by
  refine RExt.of hf hn hb h1 h2 fun w F vs hs hr => ?_
  obtain ⟨a, b, rfl, ha, hb'⟩ := two hs hr
  cases ha with
  | str s =>
  cases hb' with
  | int k n _ =>
  have hq := cnt_rng n.toNat.toUInt8 s.data.toList 0
  refine ⟨.int .i64 (cntI s.data.toList n.toNat.toUInt8), ?_, .int _ _ (inR_i64 (by unfold cntI; omega) (by unfold cntI; omega))⟩
  have e : Extern.BytealgCount.count #[.string s, .int .u8 n] = pure (goInt (s.foldl (fun (k : Int) x => if x == n.toNat.toUInt8 then k + 1 else k) (((0 : Nat) : Int)))) := rfl
  rw [e, fold_eq]
  rfl
end Go.AV
