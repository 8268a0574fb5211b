/- New rows, lengths, least and greatest, copies. -/
import Derived.Test.YtmlgkljbhidlhaaAvSound8
namespace Go.AV
open Go.RowKit

section
variable {C : Cfg} {W0 : Entry} {F0 : Nat → Prop} {st st' : St} {a : Act} {w : World} {F : Nat → Prop} {φ : Nat → Place} {e : Operand → Option AV} {dst : Option Nat} {orc : FuncId → List AV → Option AV} {CC : FuncId → List AV → AV → Prop} {r : Res} {o : Oper}
  {next : Act → World → Prop} {Q : Exit → Act → World → Prop}

theorem getD_madeCells (z : Array Value) (n k : Nat) (hk : k < n) : (madeCells z n).getD k undef = z[k % z.size]! := by
  simp [madeCells, hk]

theorem made_get {z : Array Value} {n i j : Nat} (hi : i < n) (hj : j < z.size) : (madeCells z (n * z.size)).getD (i * z.size + j) undef = z.getD j undef := by
  have hmul : (i + 1) * z.size ≤ n * z.size := Nat.mul_le_mul_right _ hi
  rw [Nat.add_mul] at hmul
  rw [getD_madeCells _ _ _ (by omega), Nat.mul_comm i, Nat.mul_add_mod, Nat.mod_eq_of_lt hj]
  rw [getElem!_pos z j hj, Array.getD_eq_getD_getElem?, Array.getElem?_eq_getElem hj, Option.getD_some]

theorem wp_buildSlice' {t : TypeId} {len : Nat} {parts : Array (Nat × Operand)} (h : Rel C W0 F0 st a w F φ) (hT : TysOK C) (ho : o.op = .buildSlice t len parts) (hr : absOp C st e o.dst orc CC (.buildSlice t len parts) = some r)
    (hx : ∀ p ∈ parts.toList, ∀ u, e p.2 = some u → Rep w F φ (a.eval p.2) u) (hob : ∀ p ∈ r.obs, p) (hst : applyEff st o.dst r.eff = some st') (hn : Next C W0 F0 st' a o r.val next) : o.wp C.P a w next Q := by
  simp only [absOp] at hr
  split at hr
  case h_2 => cases hr
  rename_i te ps d h1 h2 hd
  split at hr
  case h_2 => cases hr
  rename_i el hkind
  split at hr
  case h_2 => cases hr
  rename_i tl htl
  split at hr
  case h_2 => cases hr
  rename_i ys hys hzst
  cases hr
  rw [hd] at hst
  have T := hT _ _ h1
  have Tl := hT _ _ htl
  have hu := kind_slice T hkind
  obtain ⟨dd, ie, z, hue, hie, hse, _, hz, hzs, _, hzr⟩ := Tl.info
  have hpos := Tl.pos
  have hsmall : len * tl.sh.size ≤ 16777216 := hob _ (by simp)
  obtain ⟨cells, f1, f2, f3⟩ := fill_elems (w := w) (F := F) (φ := φ) (a := a) (len := len) parts.toList ps (List.replicate len tl.zero) ys (madeCells z.cells (len * z.cells.size)) h2 hys hx (by rw [size_madeCells, hzs]) (by simp) (fun i hi j hj => by
    have := made_get (z := z.cells) hi (show j < z.cells.size by omega)
    rw [hzs] at this
    rw [hzs, this]
    have hg : (List.replicate len tl.zero).getD i .any = tl.zero := by simp [hi]
    rw [hg]
    exact (hzr j hj).rep)
  have hrun : (Instr.buildSlice t len (parts.map fun (i, x) => (i, a.eval x))).run C.P w = .ok (.slice (some ⟨w.heap.size, 0, none⟩) len len) (w.alloc (.cells cells el)) := by
    by_cases h0 : len * tl.sh.size = 0
    · have hlen : len = 0 := by
        rcases Nat.mul_eq_zero.1 h0 with h | h
        · exact h
        · omega
      subst hlen
      have hp : parts.toList = [] := by
        cases hpp : parts.toList with
        | nil => rfl
        | cons p l =>
          obtain ⟨i, x⟩ := p
          rw [hpp] at h2
          simp only [evParts] at h2
          split at h2
          · cases h2
            simp only [setElems] at hys
            split at hys
            · split at hys
              · rename_i hc
                simp [Nat.blt] at hc
              · cases hys
            · cases hys
          · cases h2
      have hp' : parts = #[] := by
        rw [← Array.toList_eq_nil_iff]; exact hp
      subst hp'
      have hc : cells = #[] := by
        apply Array.eq_empty_of_size_eq_zero
        simpa using f2
      subst hc
      simp [Instr.buildSlice, run_underlying hu, sizeOf, typeInfo, hie, Instr.fill, Go.newRow, Array.range_zero']
    · refine run_buildSlice w t el len _ cells ie z hu hie hz (by rw [hse]; omega) (by rw [hse]; exact h0) ?_
      rw [parts_map, hse]
      have : (Array.range (len * tl.sh.size)).map (z.cells[· % z.cells.size]!) = madeCells z.cells (len * z.cells.size) := by unfold madeCells; rw [hzs]
      rw [this]
      exact f1
  obtain ⟨φ', hR, hrep⟩ := h.newRow (t := el) (cap := len) hst f2 (Nat.le_refl _) (by unfold maxLen; have := Nat.le_mul_of_pos_right len hpos; omega) f3
  unfold Oper.wp
  have : (execOp a.eval o).run C.P w = .ok (.value (.slice (some ⟨w.heap.size, 0, none⟩) len len)) (w.alloc (.cells cells el)) := by
    simp only [execOp, ho, Sem.run_bind, hrun, Result.andThen_ok, Sem.run_pure]
  rw [this]
  exact hn _ _ _ _ hR fun _ => hrep

theorem wp_makeSlice {t : TypeId} {ln cp : Operand} (h : Rel C W0 F0 st a w F φ) (hT : TysOK C) (ho : o.op = .makeSlice t ln cp) (hr : absOp C st e o.dst orc CC (.makeSlice t ln cp) = some r)
    (hl : ∀ u, e ln = some u → Rep w F φ (a.eval ln) u) (hc : ∀ u, e cp = some u → Rep w F φ (a.eval cp) u) (hob : ∀ p ∈ r.obs, p) (hst : applyEff st o.dst r.eff = some st') (hn : Next C W0 F0 st' a o r.val next) : o.wp C.P a w next Q := by
  simp only [absOp] at hr
  split at hr
  case h_2 => cases hr
  rename_i te n c d h1 h2 h3 hd
  split at hr
  case h_2 => cases hr
  rename_i el hkind
  split at hr
  case h_2 => cases hr
  rename_i tl htl
  split at hr
  case h_2 => cases hr
  rename_i hzst
  cases hr
  rw [hd] at hst
  have T := hT _ _ h1
  have Tl := hT _ _ htl
  have hu := kind_slice T hkind
  obtain ⟨dd, ie, z, hue, hie, hse, hbe, hz, hzs, _, hzr⟩ := Tl.info
  obtain ⟨o1, o2, o3, o4⟩ : 0 ≤ n ∧ n ≤ c ∧ (tl.bytes : Int) * c ≤ 140737488355328 ∧ c ≤ 9223372036854775807 := hob _ (by simp)
  obtain ⟨kl, ekl⟩ := ix_spec h2 hl
  obtain ⟨kc, ekc⟩ := ix_spec h3 hc
  have hrun := run_make (P := C.P) w t el ie z hu hie hz kl kc n c o1 o2 (by rw [hbe]; omega) o4
  rw [hse, ← hzs] at hrun
  obtain ⟨φ', hR, hrep⟩ := h.newRow (t := el) (cap := c.toNat) (cs := madeCells z.cells (c.toNat * z.cells.size)) hst (by rw [size_madeCells, hzs]) (by omega) (by unfold maxLen; omega) (fun i hi j hj => by
    have := made_get (z := z.cells) (n := c.toNat) (i := i) (by omega) (show j < z.cells.size by omega)
    rw [hzs] at this
    rw [hzs, this]
    exact (hzr j hj).rep)
  unfold Oper.wp
  have : (execOp a.eval o).run C.P w = .ok (.value (.slice (some ⟨w.heap.size, 0, none⟩) n.toNat c.toNat)) (w.alloc (.cells (madeCells z.cells (c.toNat * z.cells.size)) el)) := by
    simp only [execOp, ho, ekl, ekc, Sem.run_bind, hrun, Result.andThen_ok, Sem.run_pure]
  rw [this]
  exact hn _ _ _ _ hR fun _ => hrep

theorem call_builtin {c : Call} {b : Builtin} (ho : o.op = .call c) (hc : c.callee = .builtin b) {V : Value} {w' : World}
    (hrun : (builtin b c.argTypes o.type (c.args.map fun | .const _ => true | _ => false) (c.args.map a.eval)).run C.P w = .ok (.value V) w') : (execOp a.eval o).run C.P w = .ok (.value V) w' := by
  obtain ⟨callee, args, tys⟩ := c
  cases hc
  simp only [execOp, ho, resolve, Sem.run_bind, Sem.run_pure, Result.andThen_ok, invoke]
  exact hrun

theorem inR_nat {n : Nat} (h : (n : Int) ≤ 9223372036854775807) : InR .i64 (n : Int) := by
  unfold InR; rw [IntKind.wrap_i64]; omega

theorem lenAV_spec {v : Value} {x : AV} {n : Nat} (h : lenAV x = some n) (hr : Rep w F φ v x) : ∃ A c, v = .slice A n c := by
  unfold lenAV at h
  split at h
  · cases h; obtain ⟨A, c, hv, _⟩ := Rep.seq_inv (.inl hr); exact ⟨A, c, hv⟩
  · cases h; obtain ⟨A, c, hv, _⟩ := Rep.seq_inv (.inr hr); exact ⟨A, c, hv⟩
  · cases h
    rcases hr.own_inv with ⟨g, _, hv, _⟩ | ⟨_, h0, hv⟩
    · exact ⟨_, _, hv⟩
    · subst h0; exact ⟨_, _, hv⟩
  · cases h
    cases hr with
    | stat h => cases h; exact ⟨_, _, rfl⟩
  · cases h

theorem pure_len {c : Call} (hT : TysOK C) (ho : o.op = .call c) (hc : c.callee = .builtin .len) (hr : absOp C st e dst orc CC (.call c) = some r) (hx : ∀ x ∈ c.args.toList, ∀ u, e x = some u → Rep w F φ (a.eval x) u)
    (hob : ∀ p ∈ r.obs, p) : PureOK C o a w F φ r := by
  simp only [absOp, hc] at hr
  split at hr
  case h_2 => cases hr
  rename_i x t hargs htys
  split at hr
  case h_2 => cases hr
  rename_i te v h1 h2
  have T := hT _ _ h1
  have hrep := hx x (by rw [hargs]; simp) v h2
  have ea : c.args = #[x] := by rw [← Array.toArray_toList (xs := c.args), hargs]
  have et : c.argTypes = #[t] := by rw [← Array.toArray_toList (xs := c.argTypes), htys]
  have run : ∀ n : Nat, (Builtin.len_ #[t] o.type #[a.eval x]).run C.P w = .ok (goInt n) w → (execOp a.eval o).run C.P w = .ok (.value (.int .i64 n)) w := by
    intro n hl
    refine call_builtin ho hc ?_
    rw [ea, et]
    simp only [builtin, Sem.run_bind]
    have : (#[x].map a.eval) = #[a.eval x] := by simp
    rw [this, hl]
    rfl
  split at hr
  · rename_i el hkind
    split at hr
    case h_2 => cases hr
    rename_i n hn
    cases hr
    have hu := kind_slice T hkind
    have hin : (n : Int) ≤ 9223372036854775807 := hob _ (by simp)
    obtain ⟨A, cp, hv⟩ := lenAV_spec hn hrep
    exact ⟨rfl, _, run n (by simp [Builtin.len_, run_underlying hu, hv]), .stat (.int _ _ (inR_nat hin))⟩
  · rename_i hkind
    split at hr
    case h_2 => cases hr
    rename_i l
    cases hr
    have hu := kind_string T hkind
    have hin : (l.length : Int) ≤ 9223372036854775807 := hob _ (by simp)
    obtain ⟨s, hv, rfl⟩ := hrep.str_inv
    have hs : s.data.toList.length = s.size := by rw [Array.length_toList]; rfl
    exact ⟨rfl, _, run _ (by simp only [Builtin.len_, run_underlying hu, hv, hs, Sem.run_bind, Sem.run_pure, Result.andThen_ok, List.getElem?_toArray, List.getElem?_cons_zero]), .stat (.int _ _ (inR_nat hin))⟩
  · rename_i n el hkind
    split at hr
    case h_2 => cases hr
    rename_i hn
    cases hr
    obtain ⟨hu, _⟩ := kind_arr T hkind
    have hin : (n : Int) ≤ 9223372036854775807 := by have := Nat.le_of_ble_eq_true hn; omega
    exact ⟨rfl, _, run n (by simp [Builtin.len_, run_underlying hu]), .stat (.int _ _ (inR_nat hin))⟩
  · cases hr

theorem pure_min {c : Call} (ho : o.op = .call c) (hc : c.callee = .builtin .min) (hr : absOp C st e dst orc CC (.call c) = some r) (hx : ∀ x ∈ c.args.toList, ∀ u, e x = some u → Rep w F φ (a.eval x) u) : PureOK C o a w F φ r := by
  simp only [absOp, hc] at hr
  split at hr
  case h_2 => cases hr
  rename_i x y hargs
  split at hr
  case h_2 => cases hr
  rename_i k m k' n h1 h2
  split at hr
  case h_2 => cases hr
  rename_i hk
  have := of_decide_eq_true hk
  subst this
  cases hr
  have ea : c.args = #[x, y] := by rw [← Array.toArray_toList (xs := c.args), hargs]
  obtain ⟨e1, i1⟩ := (hx x (by rw [hargs]; simp) _ h1).int_inv
  obtain ⟨e2, i2⟩ := (hx y (by rw [hargs]; simp) _ h2).int_inv
  refine ⟨rfl, .int k (if n < m then n else m), call_builtin ho hc ?_, ?_⟩
  · rw [ea]
    simp [builtin, Builtin.min_, e1, e2, Builtin.min2]
  · split
    · exact .stat (.int _ _ i2)
    · exact .stat (.int _ _ i1)

theorem pure_max {c : Call} (ho : o.op = .call c) (hc : c.callee = .builtin .max) (hr : absOp C st e dst orc CC (.call c) = some r) (hx : ∀ x ∈ c.args.toList, ∀ u, e x = some u → Rep w F φ (a.eval x) u) : PureOK C o a w F φ r := by
  simp only [absOp, hc] at hr
  split at hr
  case h_2 => cases hr
  rename_i x y hargs
  split at hr
  case h_2 => cases hr
  rename_i k m k' n h1 h2
  split at hr
  case h_2 => cases hr
  rename_i hk
  have := of_decide_eq_true hk
  subst this
  cases hr
  have ea : c.args = #[x, y] := by rw [← Array.toArray_toList (xs := c.args), hargs]
  obtain ⟨e1, i1⟩ := (hx x (by rw [hargs]; simp) _ h1).int_inv
  obtain ⟨e2, i2⟩ := (hx y (by rw [hargs]; simp) _ h2).int_inv
  refine ⟨rfl, .int k (if m < n then n else m), call_builtin ho hc ?_, ?_⟩
  · rw [ea]
    simp [builtin, Builtin.max_, e1, e2, Builtin.max2]
  · split
    · exact .stat (.int _ _ i2)
    · exact .stat (.int _ _ i1)
end
end Go.AV
