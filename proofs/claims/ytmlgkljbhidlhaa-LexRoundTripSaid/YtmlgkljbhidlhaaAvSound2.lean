/- Operations that only look: each hands back a value that its reckoning names, and leaves the world alone. -/
import Derived.Test.YtmlgkljbhidlhaaAvSound1
namespace Go.AV
open Go.RowKit

section
variable {C : Cfg} {W0 : Entry} {F0 : Nat → Prop} {st : St} {a : Act} {w : World} {F : Nat → Prop} {φ : Nat → Place} {e : Operand → Option AV} {dst : Option Nat} {orc : FuncId → List AV → Option AV} {CC : FuncId → List AV → AV → Prop} {r : Res} {o : Oper}

def PureOK (C : Cfg) (o : Oper) (a : Act) (w : World) (F : Nat → Prop) (φ : Nat → Place) (r : Res) : Prop :=
  r.eff = .none ∧ ∃ v, (execOp a.eval o).run C.P w = .ok (.value v) w ∧ Rep w F φ v r.val

theorem pure_move {x : Operand} (ho : o.op = .move x ∨ o.op = .assign x) (hr : absOp C st e dst orc CC (.move x) = some r) (he : ∀ y, e x = some y → Rep w F φ (a.eval x) y) : PureOK C o a w F φ r := by
  simp only [absOp] at hr
  split at hr
  · rename_i v hv
    cases hr
    refine ⟨rfl, a.eval x, ?_, he v hv⟩
    rcases ho with ho | ho <;> simp [execOp, ho]
  · cases hr

theorem run_value {s : Sem Value} {v : Value} {P : Program} (h : s.run P w = .ok v w) : (do pure (Next.value (← s)) : Sem Next).run P w = .ok (.value v) w := by
  simp [h]

theorem Rep.ptr_inv {v : Value} {b : Nat} {p : List Nat} (h : Rep w F φ v (.ptr b p)) : ∃ g, (φ b).blk = some g ∧ pathOK p (φ b).sh ∧ v = .pointer (some ⟨g, pathOff p (φ b).sh, none⟩) := by
  cases h with
  | stat h => cases h
  | ptr _ g _ hb hp => exact ⟨g, hb, hp, rfl⟩
theorem Rep.optr_inv {v : Value} {b i : Nat} {p : List Nat} (h : Rep w F φ v (.optr b i p)) : ∃ g, (φ b).blk = some g ∧ pathOK p (φ b).sh ∧ v = .pointer (some ⟨g, i * (φ b).sh.size + pathOff p (φ b).sh, none⟩) := by
  cases h with
  | stat h => cases h
  | optr _ g _ _ hb hp => exact ⟨g, hb, hp, rfl⟩
theorem Rep.rptr_inv {v : Value} {sh : Shape} {x : AV} (h : Rep w F φ v (.rptr sh x)) : ∃ g o, ∃ cs : Nat → Value, F g ∧ v = .pointer (some ⟨g, o, none⟩) ∧ (∀ j, j < sh.size → w.cell? ⟨g, o + j, none⟩ = some (cs j)) ∧ (∀ j, j < sh.size → RepS w F (cs j) (leafAt sh x j)) := by
  cases h with
  | stat h => cases h with | rptr g o _ _ cs hF hc hr => exact ⟨g, o, cs, hF, rfl, hc, hr⟩
theorem Rep.int_inv {v : Value} {k : IntKind} {n : Int} (h : Rep w F φ v (.int k n)) : v = .int k n ∧ InR k n := by
  cases h with
  | stat h => cases h with | int _ _ h => exact ⟨rfl, h⟩
theorem Rep.bool_inv {v : Value} {b : Bool} (h : Rep w F φ v (.bool b)) : v = .bool b := by
  cases h with
  | stat h => cases h; rfl
theorem Rep.str_inv {v : Value} {l : List UInt8} (h : Rep w F φ v (.str l)) : ∃ s : ByteArray, v = .string s ∧ s.data.toList = l := by
  cases h with
  | stat h => cases h; exact ⟨_, rfl, rfl⟩
theorem Rep.own_inv {v : Value} {b n : Nat} (h : Rep w F φ v (.own b n)) : (∃ g, (φ b).blk = some g ∧ v = .slice (some ⟨g, 0, none⟩) n (φ b).cap ∧ n ≤ (φ b).cap) ∨ ((φ b).blk = none ∧ n = 0 ∧ v = .slice none 0 0) := by
  cases h with
  | stat h => cases h
  | own _ g _ hb hn => exact .inl ⟨g, hb, rfl, hn⟩
  | own0 _ hb => exact .inr ⟨hb, rfl, rfl⟩
theorem Rep.mc_inv {v : Value} {sh : Shape} {x : AV} (h : Rep w F φ v (.mc sh x)) : ∃ cs, v = .agg cs ∧ cs.size = sh.size ∧ ∀ j, j < sh.size → Rep w F φ (cs.getD j undef) (leafAt sh x j) := by
  cases h with
  | stat h => cases h with | mc cs _ _ hs hr => exact ⟨cs, rfl, hs, fun j hj => .stat (hr j hj)⟩
  | mc cs _ _ hs hr => exact ⟨cs, rfl, hs, hr⟩

/-- The cells of a box, and of the part at a path. -/
theorem Rel.cells (h : Rel C W0 F0 st a w F φ) {b : Nat} {tc : TypeId} {sh : Shape} {x : AV} (hb : get st.heap b = some (.cell tc sh x)) : (φ b).sh = sh ∧ ∃ g cs, (φ b).blk = some g ∧ W0.B g ∧ ¬ F g ∧
    w.heap[g]? = some (.cells cs tc (0, 0)) ∧ cs.size = sh.size ∧ ∀ j, j < sh.size → Rep w F φ (cs.getD j undef) (leafAt sh x j) := h.heap b _ hb

theorem cell_of {g : Nat} {cs : Array Value} {ty : TypeId} {fr : Nat × Nat} (hg : w.heap[g]? = some (.cells cs ty fr)) {j : Nat} (hj : j < cs.size) : w.cell? ⟨g, j, none⟩ = some (cs.getD j undef) := by
  simp [World.cell?, hg, hj]

theorem pure_load {t : TypeId} {x : Operand} (h : Rel C W0 F0 st a w F φ) (hT : TysOK C) (ho : o.op = .load t x) (hr : absOp C st e dst orc CC (.load t x) = some r) (he : ∀ y, e x = some y → Rep w F φ (a.eval x) y)
    (hob : ∀ p ∈ r.obs, p) : PureOK C o a w F φ r := by
  simp only [absOp] at hr
  split at hr
  case h_2 => cases hr
  rename_i te hte
  have T := hT t te hte
  have key : ∀ (g off : Nat) (f : Nat → Value) (y z : AV), a.eval x = .pointer (some ⟨g, off, none⟩) → (∀ j, j < te.sh.size → w.cell? ⟨g, off + j, none⟩ = some (f j)) → wrapV te.sh y = some z →
      (∀ j, j < te.sh.size → Rep w F φ (f j) (leafAt te.sh y j)) → ∃ v, (execOp a.eval o).run C.P w = .ok (.value v) w ∧ Rep w F φ v z := by
    intro g off f y z hx hc hz hf
    refine ⟨_, ?_, wrap_rep hz hf⟩
    simp only [execOp, ho]
    refine run_value ?_
    simp only [Instr.loadAt, Instr.sureAddr, hx, Sem.run_bind, Sem.run_pure, Result.andThen_ok, T.runLoad g off f hc]
  split at hr
  · rename_i b p hx
    split at hr
    case h_2 => cases hr
    rename_i sh y hb
    split at hr
    case h_2 => cases hr
    rename_i s z hs hz
    split at hr
    case h_2 => cases hr
    rename_i hsame
    split at hr
    case h_2 => cases hr
    rename_i u hu
    cases hr
    have es := Shape.same_eq _ _ hsame
    subst es
    obtain ⟨g, hg, hp, hv⟩ := (he _ hx).ptr_inv
    obtain ⟨hsh, g', cs, hg', _, _, hh, hsz, hrep⟩ := h.cells hb
    rw [hg] at hg'; cases hg'
    rw [hsh] at hp hv
    have hlt := pathOff_lt p sh te.sh hp hs
    refine ⟨rfl, key g (pathOff p sh) (fun j => cs.getD (pathOff p sh + j) undef) z u hv (fun j hj => cell_of hh (by omega)) hu fun j hj => ?_⟩
    exact (hrep _ (by omega)).strip (nav_leafAt p sh te.sh y z hp hs hz j hj)
  · rename_i b i p hx
    split at hr
    case h_2 => cases hr
    rename_i ty sh n f hb
    split at hr
    case h_2 => cases hr
    rename_i s z hs hz
    split at hr
    case h_2 => cases hr
    rename_i hsame
    split at hr
    case h_2 => cases hr
    rename_i u hu
    cases hr
    have es := Shape.same_eq _ _ hsame
    subst es
    have hin : i < n := hob _ (by simp)
    obtain ⟨g, hg, hp, hv⟩ := (he _ hx).optr_inv
    obtain ⟨hsh, _, hrow⟩ := h.heap b _ hb
    rcases hrow with ⟨h1, _⟩ | ⟨g', cs, hg', _, _, hh, hsz, hn, _, hrep⟩
    · rw [hg] at h1; cases h1
    rw [hg] at hg'; cases hg'
    rw [hsh] at hp hv
    have hlt := pathOff_lt p sh te.sh hp hs
    have hmul : (i + 1) * sh.size ≤ (φ b).cap * sh.size := Nat.mul_le_mul_right _ (by omega)
    rw [Nat.add_mul] at hmul
    refine ⟨rfl, key g (i * sh.size + pathOff p sh) (fun j => cs.getD (i * sh.size + (pathOff p sh + j)) undef) z u hv (fun j hj => ?_) hu fun j hj => ?_⟩
    · rw [Nat.add_assoc]; exact cell_of hh (by omega)
    · exact (Rep.stat (hrep i hin _ (by omega))).strip (nav_leafAt p sh te.sh (f i) z hp hs hz j hj)
  · rename_i sh y hx
    split at hr
    case h_2 => cases hr
    rename_i hsame
    split at hr
    case h_2 => cases hr
    rename_i u hu
    cases hr
    have es := Shape.same_eq _ _ hsame
    subst es
    obtain ⟨g, off, cs, _, hv, hc, hrep⟩ := (he _ hx).rptr_inv
    exact ⟨rfl, key g off cs y u hv hc hu fun j hj => .stat (hrep j hj)⟩
  · cases hr

theorem pure_nilCheck {x : Operand} (ho : o.op = .nilCheck x) (hr : absOp C st e dst orc CC (.nilCheck x) = some r) (he : ∀ y, e x = some y → Rep w F φ (a.eval x) y) : PureOK C o a w F φ r := by
  simp only [absOp] at hr
  split at hr
  · rename_i b p hx; cases hr
    have hv := he _ hx
    obtain ⟨g, _, _, h1⟩ := hv.ptr_inv
    refine ⟨rfl, _, ?_, hv⟩
    rw [h1] at hv ⊢; simp [execOp, ho, h1]
  · rename_i b i p hx; cases hr
    have hv := he _ hx
    obtain ⟨g, _, _, h1⟩ := hv.optr_inv
    refine ⟨rfl, _, ?_, hv⟩
    rw [h1] at hv ⊢; simp [execOp, ho, h1]
  · rename_i s y hx; cases hr
    have hv := he _ hx
    obtain ⟨g, o', cs, _, h1, _⟩ := hv.rptr_inv
    refine ⟨rfl, _, ?_, hv⟩
    rw [h1] at hv ⊢; simp [execOp, ho, h1]
  · rename_i f l hx; cases hr
    have hv := he _ hx
    have h1 : ∃ caps, a.eval x = .func (.func f) #[] caps := by
      generalize a.eval x = v at *
      cases hv with
      | stat h => cases h; exact ⟨_, rfl⟩
      | clo => exact ⟨_, rfl⟩
    obtain ⟨caps, h1⟩ := h1
    refine ⟨rfl, _, ?_, hv⟩
    rw [h1] at hv ⊢; simp [execOp, ho, h1]
  · cases hr

theorem inR_bits {k : IntKind} (n : Int) : InR k (k.wrap n) := by
  unfold InR
  cases k <;> simp only [IntKind.wrap, IntKind.signed, IntKind.bits] <;> simp <;> split <;> simp_all <;> omega
end
end Go.AV
