/- Functions that the model answers by itself. -/
import Derived.Test.YtmlgkljbhidlhaaAvK
namespace Go.AV
open Go.RowKit

theorem RExt.of {P : Program} {f : FuncId} {fn : Func} {ex : Array Value → Sem Value} {args : List AV} {r : AV} (hf : P.funcs[f]? = some fn) (hn : (fn.name == "runtime.NumGoroutine") = false) (hb : fn.body.isNone = true)
    (h1 : Extern.findNext fn = none) (h2 : Extern.find fn = some ex)
    (he : ∀ (w : World) (F : Nat → Prop) (vs : Array Value), vs.size = args.length → (∀ j, j < args.length → RepS w F (vs.getD j undef) (args.getD j .any)) → ∃ v, (ex vs).run P w = .ok v w ∧ RepR w F v r) : RExt P f args r := by
  intro w F vs hs hr
  obtain ⟨v, hv, hr'⟩ := he w F vs hs hr
  refine ⟨v, ?_, hr'⟩
  simp only [callFunc, Sem.run_bind, run_program, Result.andThen_ok, hf, hn, hb, h1, h2, Bool.false_eq_true, if_false, if_true, run_mark, hv, Sem.run_pure]

/-- The place of a byte, or -1; how often it occurs. -/
def idxByte (l : List UInt8) (c : UInt8) : Int := match (List.range l.length).find? fun i => l.getD i 0 == c with
  | some i => (i : Int)
  | none => -1
def cntByte (l : List UInt8) (c : UInt8) : Nat := l.foldl (fun n x => if x == c then n + 1 else n) 0

theorem two {vs : Array Value} {x y : AV} {w : World} {F : Nat → Prop} (hs : vs.size = [x, y].length) (hr : ∀ j, j < [x, y].length → RepS w F (vs.getD j undef) ([x, y].getD j .any)) : ∃ a b, vs = #[a, b] ∧ RepS w F a x ∧ RepS w F b y := by
  match vs, hs, hr with
  | ⟨[a, b]⟩, _, hr => exact ⟨a, b, rfl, hr 0 (by simp), hr 1 (by simp)⟩
theorem byte_get (s : ByteArray) (i : Nat) : s[i]! = s.data.toList.getD i 0 := by
  by_cases h : i < s.size
  · have h' : i < s.data.toList.length := by simpa using h
    rw [getElem!_pos s i h, List.getD_eq_getElem?_getD, List.getElem?_eq_getElem h']
    rfl
  · have h' : ¬ i < s.data.toList.length := by simpa using h
    rw [getElem!_neg s i h, List.getD_eq_getElem?_getD, List.getElem?_eq_none (by omega)]
    rfl
theorem inR_i64 {n : Int} (h1 : -9223372036854775808 ≤ n) (h2 : n ≤ 9223372036854775807) : InR .i64 n := by
  show (if (true && decide (n % 18446744073709551616 ≥ 9223372036854775808)) = true then n % 18446744073709551616 - 18446744073709551616 else n % 18446744073709551616) = n
  rw [Bool.true_and]
  by_cases h : n % 18446744073709551616 ≥ 9223372036854775808
  · rw [decide_eq_true h, if_pos rfl]; omega
  · rw [decide_eq_false h, if_neg (by simp)]; omega
theorem idx_rng (l : List UInt8) (c : UInt8) : -1 ≤ idxByte l c ∧ idxByte l c ≤ l.length := by
  unfold idxByte
  split
  · rename_i i h
    have := List.mem_of_find?_eq_some h
    simp at this
    omega
  · omega
theorem ext_indexByte {P : Program} {f : FuncId} {fn : Func} (l : List UInt8) (n : Int) (hf : P.funcs[f]? = some fn) (hn : (fn.name == "runtime.NumGoroutine") = false) (hb : fn.body.isNone = true)
    (h1 : Extern.findNext fn = none) (h2 : Extern.find fn = some Extern.BytealgIndexByte.indexByte) (hl : l.length ≤ 9223372036854775807) : RExt P f [.str l, .int .u8 n] (.int .i64 (idxByte l n.toNat.toUInt8)) := by
  refine RExt.of hf hn hb h1 h2 fun w F vs hs hr => ?_
  obtain ⟨a, b, rfl, ha, hb'⟩ := two hs hr
  cases ha with
  | str s =>
  cases hb' with
  | int k n _ =>
  have hq := idx_rng s.data.toList n.toNat.toUInt8
  refine ⟨.int .i64 (idxByte s.data.toList n.toNat.toUInt8), ?_, .int _ _ (inR_i64 (by omega) (by omega))⟩
  have e : Extern.BytealgIndexByte.indexByte #[.string s, .int .u8 n] = (match (List.range s.size).find? (fun i => s[i]! == n.toNat.toUInt8) with | some i => pure (goInt i) | none => pure (goInt (-1))) := rfl
  have hsz : s.data.toList.length = s.size := by simp
  rw [e]
  simp only [byte_get, idxByte, hsz]
  generalize (List.range s.size).find? (fun i => s.data.toList.getD i 0 == n.toNat.toUInt8) = o
  cases o <;> rfl
end Go.AV
