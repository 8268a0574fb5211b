/- Layer 24: its data, what its functions answer, the types. -/
import Derived.Test.YtihfplgdpbcieaaAvD
import Derived.Test.YtihfplgdpbcieaaProg
import Derived.KernelRfl
namespace Go.Proofs.S24
open Go Go.AV

structure Entry where
  var : Int
  val : Int
  deriving Inhabited, DecidableEq

structure Buf where
  thread : Int
  first : Int
  entries : List Entry
  deriving Inhabited, DecidableEq

def entSh : Shape := .agg [.leaf, .leaf]
def bufSh : Shape := .agg [.leaf, .leaf, .leaf]
def encE (e : Entry) : AV := .agg [.int .i64 e.var, .int .i64 e.val]
def rowE (l : List Entry) : AV := .seq entSh l.length fun i => encE (l.getD i default)
def rowI (l : List Int) : AV := .seq .leaf l.length fun i => .int .i64 (l.getD i 0)
def encB (b : Buf) : AV := .agg [.int .i64 b.thread, .int .i64 b.first, rowE b.entries]
def vE (e : Entry) : AV := .mc entSh (encE e)
def vB (b : Buf) : AV := .mc bufSh (encB b)

def decE : AV → Entry
  | .agg [.int _ a, .int _ b] => ⟨a, b⟩
  | _ => default
def decRow : AV → List Entry
  | .seq _ n f | .seqc _ n f => (List.range n).map fun i => decE (f i)
  | _ => []
def decI : AV → Int
  | .int _ a => a
  | _ => 0
def decRowI : AV → List Int
  | .seq _ n f | .seqc _ n f => (List.range n).map fun i => decI (f i)
  | _ => []
@[simp] theorem decE_enc (e : Entry) : decE (encE e) = e := rfl
theorem map_getD {α : Type} (l : List α) (d : α) : (List.range l.length).map (fun i => l.getD i d) = l := by
  apply List.ext_getElem (by simp)
  intro i h1 h2
  simp at h1
  simp [h1]
@[simp] theorem decRow_row (l : List Entry) : decRow (rowE l) = l := map_getD l default
@[simp] theorem decRowI_row (l : List Int) : decRowI (rowI l) = l := map_getD l 0

def entryOK (e : Entry) : Bool := decide (0 ≤ e.var) && decide (e.var < 8) && decide (-2147483648 ≤ e.val) && decide (e.val ≤ 2147483647)
def validB (b : Buf) : Bool := decide (0 ≤ b.thread) && decide (0 ≤ b.first) && decide (b.first ≤ 32) && decide (b.first + b.entries.length ≤ 32) && b.entries.all entryOK

def pushB (b : Buf) (x v : Int) : Buf × Int × Int :=
  if !validB b then (⟨0, 0, []⟩, 0, 1)
  else if x < 0 ∨ 8 ≤ x then (⟨0, 0, []⟩, 0, 11)
  else if v < -2147483648 ∨ 2147483647 < v then (⟨0, 0, []⟩, 0, 2)
  else if b.first + b.entries.length = 32 then (⟨0, 0, []⟩, 0, 24)
  else (⟨b.thread, b.first, b.entries ++ [⟨x, v⟩]⟩, b.first + b.entries.length, 0)

def popB (b : Buf) : Buf × Entry × Int × Int :=
  if !validB b then (⟨0, 0, []⟩, ⟨0, 0⟩, 0, 1)
  else match b.entries with
    | [] => (⟨0, 0, []⟩, ⟨0, 0⟩, 0, 5)
    | e :: l => (⟨b.thread, b.first + 1, l⟩, e, b.first, 0)

def lookN (b : Buf) (x : Int) : Nat → Int × Int × Bool
  | 0 => (0, 0, false)
  | k + 1 => if (b.entries.getD k default).var = x then ((b.entries.getD k default).val, b.first + k, true) else lookN b x k
def lookupB (b : Buf) (x : Int) : Int × Int × Bool := if validB b then lookN b x b.entries.length else (0, 0, false)

def drainN (b : Buf) (vars : List Int) : Nat → List Int
  | 0 => vars
  | k + 1 => (drainN b vars k).set (b.entries.getD k default).var.toNat (b.entries.getD k default).val
def drainB (b : Buf) (vars : List Int) : List Int × Int :=
  if !validB b then ([], 1)
  else if b.entries.any (fun e => decide ((vars.length : Int) ≤ e.var)) then ([], 11)
  else (drainN b vars b.entries.length, 0)

def decB : AV → Buf
  | .agg [.int _ t, .int _ f, r] => ⟨t, f, decRow r⟩
  | _ => default
def decBs : AV → List Buf
  | .seq _ n f | .seqc _ n f => (List.range n).map fun i => decB (f i)
  | _ => []
def rowB (l : List Buf) : AV := .seq bufSh l.length fun i => encB (l.getD i default)
@[simp] theorem decB_enc (b : Buf) : decB (encB b) = b := by cases b; simp [decB, encB]
@[simp] theorem decBs_row (l : List Buf) : decBs (rowB l) = l := by
  simp only [decBs, rowB, decB_enc]; exact map_getD l default

def sp : FuncId → List AV → Option AV
  | 13, [.mc _ (.agg [.int _ t, .int _ f, r]), .mc _ (.agg [.int _ t', .int _ f', r'])] | 34, [.mc _ (.agg [.int _ t, .int _ f, r]), .mc _ (.agg [.int _ t', .int _ f', r'])] => some (.bool (decide ((⟨t, f, decRow r⟩ : Buf) = ⟨t', f', decRow r'⟩)))
  | 24, [x, y] => some (.bool (decide (decBs x = decBs y)))
  | 31, [.mc _ (.agg [.int _ t, .int _ f, r])] => some (vB ⟨t, f, decRow r⟩)
  | 10, [.mc _ (.agg [.int _ t, .int _ f, r]), .int _ x, .int _ v] => some (.tup [vB (pushB ⟨t, f, decRow r⟩ x v).1, .int .i64 (pushB ⟨t, f, decRow r⟩ x v).2.1, .int .i64 (pushB ⟨t, f, decRow r⟩ x v).2.2])
  | 12, [.mc _ (.agg [.int _ t, .int _ f, r])] => some (.tup [vB (popB ⟨t, f, decRow r⟩).1, vE (popB ⟨t, f, decRow r⟩).2.1, .int .i64 (popB ⟨t, f, decRow r⟩).2.2.1, .int .i64 (popB ⟨t, f, decRow r⟩).2.2.2])
  | 33, [.mc _ (.agg [.int _ a, .int _ b])] => some (.bool (entryOK ⟨a, b⟩))
  | 14, [.mc _ (.agg [.int _ t, .int _ f, r])] | 15, [.mc _ (.agg [.int _ t, .int _ f, r])] => some (.bool (validB ⟨t, f, decRow r⟩))
  | 9, [.mc _ (.agg [.int _ t, .int _ f, r]), .int _ x, .int _ v] => some (.tup [vB (pushB ⟨t, f, decRow r⟩ x v).1, .int .i64 (pushB ⟨t, f, decRow r⟩ x v).2.1, .int .i64 (pushB ⟨t, f, decRow r⟩ x v).2.2])
  | 11, [.mc _ (.agg [.int _ t, .int _ f, r])] => some (.tup [vB (popB ⟨t, f, decRow r⟩).1, vE (popB ⟨t, f, decRow r⟩).2.1, .int .i64 (popB ⟨t, f, decRow r⟩).2.2.1, .int .i64 (popB ⟨t, f, decRow r⟩).2.2.2])
  | 32, [.mc _ (.agg [.int _ t, .int _ f, r])] => some (vB ⟨t, f, decRow r⟩)
  | 16, [.mc _ (.agg [.int _ t, .int _ f, r]), .int _ x] | 17, [.mc _ (.agg [.int _ t, .int _ f, r]), .int _ x] => some (.tup [.int .i64 (lookupB ⟨t, f, decRow r⟩ x).1, .int .i64 (lookupB ⟨t, f, decRow r⟩ x).2.1, .bool (lookupB ⟨t, f, decRow r⟩ x).2.2])
  | 18, [.mc _ (.agg [.int _ t, .int _ f, r]), v] | 19, [.mc _ (.agg [.int _ t, .int _ f, r]), v] => some (.tup [rowI (drainB ⟨t, f, decRow r⟩ (decRowI v)).1, .int .i64 (drainB ⟨t, f, decRow r⟩ (decRowI v)).2])
  | 20, [a, b] => some (.bool (decRowI a == decRowI b))
  | 8, [] => some (.bool true)
  | _, _ => none

/-- The same, where a copy is the caller's own. -/
def spF : FuncId → List AV → Option AV
  | 31, [.mc _ (.agg [.int _ t, .int _ f, r])] => some (.mc bufSh (.agg [.int .i64 t, .int .i64 f, .own 0 (decRow r).length]))
  | f, l => sp f l
def fr : FuncId → List AV → Option (List BoxC)
  | 31, [.mc _ (.agg [.int _ _, .int _ _, r])] => some [.row 30 entSh (decRow r).length fun i => encE ((decRow r).getD i default)]
  | _, _ => none

def TT : List (Nat × TyE) := [
  (3, ⟨.leaf, .int .i64 0, 8, .int .i64, false⟩),
  (4, ⟨.leaf, .bool false, 1, .bool, false⟩),
  (22, ⟨.leaf, .nils, 24, .slice 30, false⟩),
  (24, ⟨bufSh, .agg [.int .i64 0, .int .i64 0, .nils], 40, .struct [3, 3, 22], false⟩),
  (26, ⟨.leaf, .int .i64 0, 8, .int .i64, false⟩),
  (30, ⟨entSh, .agg [.int .i64 0, .int .i64 0], 16, .struct [3, 3], true⟩),
  (37, ⟨.leaf, .nils, 24, .slice 3, false⟩),
  (45, ⟨.leaf, .nils, 24, .slice 24, false⟩)]

noncomputable def cfg (n : Nat) : Cfg := { P := Try.prog, T := TT, G := [], wraps := false, ntmps := n, fresh := fr, CCF := KnownF Try.prog [] }
theorem cfg_ok (n : Nat) : TysOK (cfg n) := tys_ok (by kernel_rfl)


noncomputable def vx (n : Nat) (inv : Nat → Option Inv) : VCtx := { C := cfg n, CC := Known Try.prog [], orc := fun _ _ => sp, inv := inv }

noncomputable def vxF (n : Nat) (inv : Nat → Option Inv) : VCtx := { C := cfg n, CC := Known Try.prog [], orc := fun _ _ => spF, inv := inv }

theorem inR64 {n : Int} (h1 : -9223372036854775808 ≤ n) (h2 : n ≤ 9223372036854775807) : InR .i64 n := by
  show (if (true && decide (n % 18446744073709551616 ≥ 9223372036854775808)) = true then n % 18446744073709551616 - 18446744073709551616 else n % 18446744073709551616) = n
  rw [Bool.true_and]
  by_cases h : n % 18446744073709551616 ≥ 9223372036854775808
  · rw [decide_eq_true h, if_pos rfl]; omega
  · rw [decide_eq_false h, if_neg (by simp)]; omega

theorem all_getD {α : Type} (l : List α) (p : α → Bool) (d : α) : l.all p = true ↔ ∀ i, i < l.length → p (l.getD i d) = true := by
  rw [List.all_eq_true]
  constructor
  · intro h i hi
    have : l.getD i d = l[i] := by simp [hi]
    rw [this]; exact h _ (List.getElem_mem hi)
  · intro h x hx
    obtain ⟨i, hi, rfl⟩ := List.mem_iff_getElem.1 hx
    have := h i hi
    simpa [hi] using this

theorem validB_iff (b : Buf) : validB b = true ↔ (0 ≤ b.thread ∧ 0 ≤ b.first ∧ b.first ≤ 32 ∧ b.first + b.entries.length ≤ 32) ∧ ∀ i, i < b.entries.length → entryOK (b.entries.getD i default) = true := by
  rw [← all_getD]
  simp [validB, and_assoc]

theorem f_eq {p : Bool} (h : p = true → False) : false = p := by cases p; rfl; exact (h rfl).elim
end Go.Proofs.S24
