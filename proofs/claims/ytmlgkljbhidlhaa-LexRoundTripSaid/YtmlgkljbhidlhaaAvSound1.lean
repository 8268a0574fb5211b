/- Each operation's reckoning holds of the model: operands, types, loads, stores, new boxes. -/
import Derived.Test.YtmlgkljbhidlhaaAvTy
namespace Go.AV
open Go.RowKit

section
variable {C : Cfg} {W0 : Entry} {F0 : Nat → Prop} {st : St} {a : Act} {w : World} {F : Nat → Prop} {φ : Nat → Place}

theorem constAV_rep {v : Value} {x : AV} (h : constAV v = some x) : RepS w F v x := by
  unfold constAV at h
  split at h
  · split at h
    · rename_i e; cases h; exact .int _ _ (of_decide_eq_true (p := IntKind.wrap _ _ = _) e)
    · cases h
  · cases h; exact .bool _
  · cases h; exact .str _
  · cases h; exact .nils
  · cases h; exact .nilp
  · cases h; exact .any _ rfl
  · cases h; exact .any _ rfl
  · cases h; exact .any _ rfl
  · cases h

theorem Rel.ev (h : Rel C W0 F0 st a w F φ) {x : Operand} {y : AV} (he : ev C st x = some y) : Rep w F φ (a.eval x) y := by
  cases x with
  | tmp t =>
    simp only [AV.ev] at he
    obtain ⟨v, hv, hr⟩ := h.env t y he
    simp only [Act.eval, Array.getD_eq_getD_getElem?, hv, Option.getD_some]
    exact hr
  | const v => exact .stat (constAV_rep he)
  | global g => exact .stat (h.glob g y he)
  | func f =>
    simp only [AV.ev] at he; cases he
    exact .clo f #[] [] rfl fun j hj => by simp at hj

theorem Rep.strip1 {v : Value} : ∀ {x : AV}, Rep w F φ v x → (∀ p ∈ whenOb x, p) → Rep w F φ v (strip1 x)
  | .when q x, h, ho => by
    have hq : q = true := ho (q = true) (by simp [whenOb])
    cases h with
    | stat h => cases h
    | whenT _ h _ => exact h hq
  | .any, h, _ | .int _ _, h, _ | .bool _, h, _ | .str _, h, _ | .nils, h, _ | .nilp, h, _ | .seq _ _ _, h, _ | .seqc _ _ _, h, _ | .rptr _ _, h, _ | .own _ _, h, _ | .ptr _ _, h, _ | .optr _ _ _, h, _
  | .clo _ _, h, _ | .agg _, h, _ | .arr _ _, h, _ | .mc _ _, h, _ | .tup _, h, _ | .st _, h, _ => h

theorem operandObs_mem : ∀ {l : List Operand} {x : Operand} {y : AV}, x ∈ l → ev C st x = some y → ∀ p ∈ whenOb y, p ∈ operandObs C st l
  | [], _, _, h, _, _, _ => by cases h
  | z :: l, x, y, h, he, p, hp => by
    simp only [operandObs]
    rcases List.mem_cons.1 h with rfl | h
    · rw [he]; simp [hp]
    · have := operandObs_mem h he p hp
      split <;> simp [this]

theorem Rel.evS (h : Rel C W0 F0 st a w F φ) {l : List Operand} (ho : ∀ p ∈ operandObs C st l, p) {x : Operand} (hx : x ∈ l) {y : AV} (he : evS C st x = some y) : Rep w F φ (a.eval x) y := by
  unfold AV.evS at he
  split at he
  · rename_i z hz
    cases he
    exact (h.ev hz).strip1 fun p hp => ho p (operandObs_mem hx hz p hp)
  · cases he
end

section
variable {C : Cfg} {t : TypeId} {te : TyE} {w : World}

theorem TyOK.size (h : TyOK C t te) : (sizeOf t).run C.P w = .ok te.sh.size w := by
  obtain ⟨d, i, z, hd, hi, hs, _⟩ := h.info
  simp [sizeOf, typeInfo, hi, hs]

def descAgg : TypeDesc → Bool
  | .struct _ | .array _ _ => true
  | _ => false

theorem kindIs_agg {sh : Shape} {d : TypeDesc} {k : TyK} (h : kindIs C sh d k) : descAgg d = sh.isAgg := by
  cases k with
  | int k => obtain ⟨rfl, rfl⟩ := h; rfl
  | bool => obtain ⟨rfl, rfl⟩ := h; rfl
  | string => obtain ⟨rfl, rfl⟩ := h; rfl
  | slice e => obtain ⟨rfl, rfl⟩ := h; rfl
  | arr n e => obtain ⟨rfl, te, _, rfl⟩ := h; rfl
  | struct fs => obtain ⟨f, ss, rfl, rfl, _⟩ := h; rfl
  | other =>
    obtain ⟨rfl, h⟩ := h
    cases d <;> first | rfl | exact h.elim

theorem run_isAgg {P : Program} {t : TypeId} {d : TypeDesc} (hd : P.underlying t = some d) : (isAgg t).run P w = .ok (descAgg d) w := by
  simp only [isAgg, Sem.run_bind, run_underlying hd, Result.andThen_ok]
  cases d <;> rfl

theorem TyOK.agg (h : TyOK C t te) : (isAgg t).run C.P w = .ok te.sh.isAgg w := by
  obtain ⟨d, i, z, hd, hi, hs, hb, hz, hc, hk, _⟩ := h.info
  rw [run_isAgg hd, kindIs_agg hk]

/-- What stands in a slot behind a load of cells. -/
def loadVal (sh : Shape) (f : Nat → Value) : Value :=
  match sh.isAgg with
  | false => f 0
  | true => .agg ((List.range sh.size).map f).toArray

theorem add_none (g o j : Nat) : (⟨g, o, none⟩ : Addr).add j = ⟨g, o + j, none⟩ := by
  unfold Addr.add; split <;> simp_all

theorem TyOK.runLoad (h : TyOK C t te) (g o : Nat) (f : Nat → Value) (hc : ∀ j, j < te.sh.size → w.cell? ⟨g, o + j, none⟩ = some (f j)) :
    (loadVar t ⟨g, o, none⟩).run C.P w = .ok (loadVal te.sh f) w := by
  have hcell := run_loadCells (P := C.P) w ⟨g, o, none⟩ te.sh.size f (fun j hj => by rw [add_none]; exact hc j hj)
  have h0 : (Go.load ⟨g, o, none⟩).run C.P w = .ok (f 0) w := by
    have := hc 0 h.pos
    rw [Nat.add_zero] at this
    simp [run_load, this]
  simp only [loadVar, Sem.run_bind, h.agg, Result.andThen_ok]
  cases hs : te.sh.isAgg with
  | false => simp only [Bool.false_eq_true, if_false, h0, loadVal, hs]
  | true => simp only [if_true, Sem.run_bind, h.size, Result.andThen_ok, hcell, Sem.run_pure, loadVal, hs]

theorem wrap_rep {F : Nat → Prop} {φ : Nat → Place} {sh : Shape} {y z : AV} {f : Nat → Value} (hw : wrapV sh y = some z) (hr : ∀ j, j < sh.size → Rep w F φ (f j) (leafAt sh y j)) :
    Rep w F φ (loadVal sh f) z := by
  cases sh with
  | leaf =>
    simp only [wrapV] at hw
    split at hw
    · rename_i e
      cases hw
      have := hr 0 (by simp [Shape.size])
      simpa [leafAt, asLeaf, e, loadVal, Shape.isAgg] using this
    · cases hw
  | agg ss =>
    simp only [wrapV, Option.some.injEq] at hw
    subst hw
    exact .mc _ _ _ (by simp) fun j hj => by simpa [hj, Array.getD_eq_getD_getElem?] using hr j hj
  | arr n s =>
    simp only [wrapV, Option.some.injEq] at hw
    subst hw
    exact .mc _ _ _ (by simp) fun j hj => by simpa [hj, Array.getD_eq_getD_getElem?] using hr j hj

theorem one_cells {v : Value} (h : v.oneCell' = true) : v.cells = #[v] := by cases v <;> simp_all [Value.oneCell', Value.cells]

theorem unw_rep {F : Nat → Prop} {φ : Nat → Place} {sh : Shape} {x y : AV} {v : Value} (hu : unwV sh x = some y) (hr : Rep w F φ v x) :
    v.cells.size = sh.size ∧ ∀ j, j < sh.size → Rep w F φ (v.cells.getD j undef) (leafAt sh y j) := by
  unfold unwV at hu
  split at hu
  · split at hu
    · rename_i e
      cases hu
      rw [one_cells (hr.one e)]
      refine ⟨rfl, fun j hj => ?_⟩
      simp only [Shape.size] at hj
      obtain rfl : j = 0 := by omega
      simpa [leafAt, asLeaf, e] using hr
    · cases hu
  · split at hu
    · rename_i e
      cases hu
      rw [Shape.same_eq _ _ e]
      cases hr with
      | stat h =>
        cases h with
        | mc cs _ _ hs hc => exact ⟨hs, fun j hj => .stat (hc j hj)⟩
      | mc cs _ _ hs hc => exact ⟨hs, hc⟩
    · cases hu
  · cases hu

theorem cells_all_one {cs : Array Value} {n : Nat} (hs : cs.size = n) (h : ∀ j, j < n → (cs.getD j undef).oneCell' = true) : ∀ v ∈ cs.toList, v.oneCell' = true := by
  intro v hv
  obtain ⟨j, hj⟩ := List.mem_iff_getElem?.1 hv
  have hl := (List.getElem?_eq_some_iff.1 hj).1
  have := h j (by rw [← hs]; simpa using hl)
  rw [Array.getD_eq_getD_getElem?] at this
  rw [Array.getElem?_toList] at hj
  rw [hj] at this
  exact this

theorem TyOK.runStore (h : TyOK C t te) (g o : Nat) (cur : Array Value) (ty : TypeId) (v : Value) (hg : w.heap[g]? = some (.cells cur ty (0, 0))) (hl : o + te.sh.size ≤ cur.size) (hv : v.cells.size = te.sh.size)
    (h1 : ∀ j, j < te.sh.size → (v.cells.getD j undef).oneCell' = true) :
    (storeVar t ⟨g, o, none⟩ v).run C.P w = .ok () (w.setRow g (cur.toList.take o ++ v.cells.toList ++ cur.toList.drop (o + te.sh.size)).toArray) := by
  have hlen : v.cells.toList.length = te.sh.size := by simpa using hv
  simp only [storeVar, Sem.run_bind, h.size, Result.andThen_ok]
  simp only [hv, ne_eq, not_true_eq_false, if_false]
  have := run_storeCells_at (P := C.P) g o ty v.cells.toList 0 cur w hg (by rw [hlen]; omega) (cells_all_one hv h1)
  rw [Nat.add_zero, hlen] at this
  exact this
end
end Go.AV
