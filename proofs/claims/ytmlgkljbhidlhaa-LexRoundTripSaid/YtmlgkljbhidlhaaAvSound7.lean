/- Operations that write or make memory: stores, new boxes. -/
import Derived.Test.YtmlgkljbhidlhaaAvSound6
namespace Go.AV
open Go.RowKit

section
variable {C : Cfg} {W0 : Entry} {F0 : Nat → Prop} {st st' : St} {a : Act} {w : World} {F : Nat → Prop} {φ : Nat → Place} {e : Operand → Option AV} {dst : Option Nat} {orc : FuncId → List AV → Option AV} {CC : FuncId → List AV → AV → Prop} {r : Res} {o : Oper}
  {next : Act → World → Prop} {Q : Exit → Act → World → Prop}

/-- What follows an operation. -/
def Next (C : Cfg) (W0 : Entry) (F0 : Nat → Prop) (st' : St) (a : Act) (o : Oper) (x : AV) (next : Act → World → Prop) : Prop :=
  ∀ v w' F' φ', Rel C W0 F0 st' a w' F' φ' → (o.dst.isSome = true → Rep w' F' φ' v x) → next (a.put o.dst v) w'

theorem wp_of_pure (h : Rel C W0 F0 st a w F φ) (hp : PureOK C o a w F φ r) (hst : applyEff st o.dst r.eff = some st') (hn : Next C W0 F0 st' a o r.val next) : o.wp C.P a w next Q := by
  obtain ⟨he, v, hrun, hrep⟩ := hp
  rw [he] at hst
  simp only [applyEff, Option.some.injEq] at hst
  subst hst
  unfold Oper.wp
  rw [hrun]
  exact hn v w F φ h fun _ => hrep

theorem RepS.unstrip {v : Value} {x y : AV} (hs : Strip x y) (h : RepS w F v y) : RepS w F v x := by
  induction hs with
  | refl => exact h
  | st _ ih => exact .st (ih h)

theorem splice_get {cur new : Array Value} {off n : Nat} (hn : new.size = n) (hl : off + n ≤ cur.size) (j : Nat) :
    ((cur.toList.take off ++ new.toList ++ cur.toList.drop (off + n)).toArray).getD j undef = if off ≤ j ∧ j < off + n then new.getD (j - off) undef else cur.getD j undef := by
  have l1 : (cur.toList.take off).length = off := by simp; omega
  have l2 : new.toList.length = n := by simpa using hn
  rw [Array.getD_eq_getD_getElem?, List.getElem?_toArray]
  by_cases h1 : j < off
  · rw [List.append_assoc, List.getElem?_append_left (by omega), List.getElem?_take_of_lt h1, if_neg (by omega), Array.getD_eq_getD_getElem?, Array.getElem?_toList]
  · rw [List.append_assoc, List.getElem?_append_right (by omega), l1]
    by_cases h2 : j < off + n
    · rw [List.getElem?_append_left (by omega), if_pos (by omega), Array.getD_eq_getD_getElem?, Array.getElem?_toList]
    · rw [List.getElem?_append_right (by omega), l2, List.getElem?_drop, if_neg (by omega), Array.getD_eq_getD_getElem?, Array.getElem?_toList]
      congr 2
      omega
theorem splice_size {cur new : Array Value} {off n : Nat} (hn : new.size = n) (hl : off + n ≤ cur.size) : ((cur.toList.take off ++ new.toList ++ cur.toList.drop (off + n)).toArray).size = cur.size := by
  simp; omega

theorem set_rep {p : List Nat} {sh s : Shape} {x y x' : AV} {cs : Array Value} {V : Array Value} (hp : pathOK p sh) (hs : pathSh p sh = some s) (hx : setAt p sh x y = some x') (hold : ∀ j, j < sh.size → Rep w F φ (cs.getD j undef) (leafAt sh x j))
    (hnew : ∀ j, j < s.size → Rep w F φ (V.getD j undef) (leafAt s y j)) (j : Nat) (hj : j < sh.size) :
    Rep w F φ (if pathOff p sh ≤ j ∧ j < pathOff p sh + s.size then V.getD (j - pathOff p sh) undef else cs.getD j undef) (leafAt sh x' j) := by
  obtain ⟨h1, h2⟩ := setAt_leafAt p sh s x y x' hp hs hx j
  split
  · rename_i hin
    obtain ⟨z, hz, rfl, h3⟩ := h1 hin
    have hr := hnew (j - pathOff p sh) (by omega)
    rcases h3 with h3 | h3
    · rw [h3]; exact hr
    · exact .stat (.unstrip hz (hr.toS (stat_leafAt s y _ h3)))
  · rename_i hin
    rw [h2 hj hin]
    exact hold j hj

theorem set_repS {p : List Nat} {sh s : Shape} {x y x' : AV} {f : Nat → Value} {V : Array Value} (hp : pathOK p sh) (hs : pathSh p sh = some s) (hx : setAt p sh x y = some x') (hold : ∀ j, j < sh.size → RepS w F (f j) (leafAt sh x j))
    (hnew : ∀ j, j < s.size → RepS w F (V.getD j undef) (leafAt s y j)) (j : Nat) (hj : j < sh.size) :
    RepS w F (if pathOff p sh ≤ j ∧ j < pathOff p sh + s.size then V.getD (j - pathOff p sh) undef else f j) (leafAt sh x' j) := by
  obtain ⟨h1, h2⟩ := setAt_leafAt p sh s x y x' hp hs hx j
  split
  · rename_i hin
    obtain ⟨z, hz, rfl, h3⟩ := h1 hin
    exact .unstrip hz (hnew (j - pathOff p sh) (by omega))
  · rename_i hin
    rw [h2 hj hin]
    exact hold j hj

theorem setRow_keep {g : Nat} {cs : Array Value} {k : Nat} (hk : k ≠ g) : (w.setRow g cs).heap[k]? = w.heap[k]? := setRow_other w g k cs hk

theorem wp_store {t : TypeId} {x v : Operand} (h : Rel C W0 F0 st a w F φ) (hT : TysOK C) (ho : o.op = .store t x v) (hr : absOp C st e o.dst orc CC (.store t x v) = some r)
    (hx : ∀ u, e x = some u → Rep w F φ (a.eval x) u) (hv : ∀ u, e v = some u → Rep w F φ (a.eval v) u) (hob : ∀ p ∈ r.obs, p) (hst : applyEff st o.dst r.eff = some st') (hn : Next C W0 F0 st' a o r.val next) : o.wp C.P a w next Q := by
  simp only [absOp] at hr
  split at hr
  case h_2 => cases hr
  rename_i te u h1 h2 hd
  split at hr
  case h_2 => cases hr
  rename_i y hy
  have T := hT _ _ h1
  obtain ⟨hvs, hvr⟩ := unw_rep hy (hv _ h2)
  have hone : ∀ j, j < te.sh.size → ((a.eval v).cells.getD j undef).oneCell' = true := fun j hj => (hvr j hj).leaf1 te.sh y j
  have fin : ∀ {g off : Nat} {cs : Array Value} {ty : TypeId}, a.eval x = .pointer (some ⟨g, off, none⟩) → w.heap[g]? = some (.cells cs ty (0, 0)) → off + te.sh.size ≤ cs.size →
      Rel C W0 F0 st' a (w.setRow g (cs.toList.take off ++ (a.eval v).cells.toList ++ cs.toList.drop (off + te.sh.size)).toArray) F φ → o.wp C.P a w next Q := by
    intro g off cs ty hxv hg hl hR
    unfold Oper.wp
    have : (execOp a.eval o).run C.P w = .ok .skip (w.setRow g (cs.toList.take off ++ (a.eval v).cells.toList ++ cs.toList.drop (off + te.sh.size)).toArray) := by
      simp only [execOp, ho, Instr.storeAt, hxv, Instr.sureAddr, Sem.run_bind, Sem.run_pure, Result.andThen_ok, T.runStore g off cs ty (a.eval v) hg hl hvs hone]
    rw [this]
    exact hn undef _ F φ hR (by rw [hd]; simp)
  split at hr
  · rename_i b p hxe
    split at hr
    case h_2 => cases hr
    rename_i sh z hb
    split at hr
    case h_2 => cases hr
    rename_i s z' hs hz
    split at hr
    case h_2 => cases hr
    rename_i hsame
    cases hr
    have es := Shape.same_eq _ _ hsame
    subst es
    obtain ⟨g, hg, hp, hxv⟩ := (hx _ hxe).ptr_inv
    obtain ⟨hsh, g', cs, hg', hbase, hnF, hh, hsz, hrep⟩ := h.cells hb
    rw [hg] at hg'; cases hg'
    rw [hsh] at hp hxv
    have hlt := pathOff_lt p sh te.sh hp hs
    refine fin hxv hh (by omega) ?_
    simp only [applyEff, Option.some.injEq] at hst
    subst hst
    refine h.setBox hb hg rfl rfl rfl (by simp) (fun k hk => setRow_keep hk) rfl ⟨hsh, g, _, hg, hbase, hnF, setRow_heap w g cs _ _ _ hh, by rw [splice_size hvs (by omega)]; exact hsz, fun j hj => ?_⟩
    rw [splice_get hvs (by omega)]
    exact (set_rep hp hs hz hrep hvr j hj).keep (fun k hk => setRow_keep fun e => hnF (e ▸ hk)) (fun _ hk => hk) fun _ _ => rfl
  · rename_i b i p hxe
    split at hr
    case h_2 => cases hr
    rename_i ty sh n f hb
    split at hr
    case h_2 => cases hr
    rename_i s z' hs hz
    split at hr
    case h_2 => cases hr
    rename_i hsame
    cases hr
    simp only [Bool.and_eq_true] at hsame
    have es := Shape.same_eq _ _ hsame.1
    subst es
    have hin : i < n := hob _ (by simp)
    obtain ⟨g, hg, hp, hxv⟩ := (hx _ hxe).optr_inv
    obtain ⟨hsh, hty, hrow⟩ := h.heap b _ hb
    rcases hrow with ⟨h1, _⟩ | ⟨g', cs, hg', hbase, hnF, hh, hsz, hncap, hmax, hrep⟩
    · rw [hg] at h1; cases h1
    rw [hg] at hg'; cases hg'
    rw [hsh] at hp hxv
    have hlt := pathOff_lt p sh te.sh hp hs
    have hmul : (i + 1) * sh.size ≤ (φ b).cap * sh.size := Nat.mul_le_mul_right _ (by omega)
    rw [Nat.add_mul] at hmul
    refine fin hxv hh (by omega) ?_
    simp only [applyEff, Option.some.injEq] at hst
    subst hst
    refine h.setBox hb hg rfl rfl rfl (by simp) (fun k hk => setRow_keep hk) rfl ⟨hsh, hty, .inr ⟨g, _, hg, hbase, hnF, setRow_heap w g cs _ _ _ hh, by rw [splice_size hvs (by omega)]; exact hsz, hncap, hmax, fun k hk j hj => ?_⟩⟩
    rw [splice_get hvs (by omega)]
    refine RepS.keep (w := w) (F := F) ?_ (fun k hk => setRow_keep fun e => hnF (e ▸ hk)) (fun _ hk => hk)
    by_cases hki : k = i
    · subst hki
      rw [show (fun j => if j = k then z' else f j) k = z' from by simp]
      have h5 := set_repS (V := (a.eval v).cells) hp hs hz (fun j hj => hrep k hk j hj) (fun j hj => (hvr j hj).toS (stat_leafAt te.sh y j hsame.2)) j hj
      have e1 : (k * sh.size + pathOff p sh ≤ k * sh.size + j ∧ k * sh.size + j < k * sh.size + pathOff p sh + te.sh.size) ↔ (pathOff p sh ≤ j ∧ j < pathOff p sh + te.sh.size) := by omega
      have e2 : k * sh.size + j - (k * sh.size + pathOff p sh) = j - pathOff p sh := by omega
      simp only [e1, e2]
      exact h5
    · rw [show (fun j => if j = i then z' else f j) k = f k from by simp [hki], if_neg]
      · exact hrep k hk j hj
      · intro ⟨h5, h6⟩
        rcases Nat.lt_or_gt_of_ne hki with h7 | h7
        · have : (k + 1) * sh.size ≤ i * sh.size := Nat.mul_le_mul_right _ h7
          rw [Nat.add_mul] at this; omega
        · have : (i + 1) * sh.size ≤ k * sh.size := Nat.mul_le_mul_right _ h7
          rw [Nat.add_mul] at this; omega
  · cases hr

theorem cell_new (cs : Array Value) (t : TypeId) : (w.alloc (.cells cs t)).heap[w.heap.size]? = some (.cells cs t (0, 0)) := heap_alloc_new w _

/-- A new box of one tree. -/
theorem Rel.newCell (h : Rel C W0 F0 st a w F φ) {d : Nat} {sh : Shape} {x : AV} {cs : Array Value} {t : TypeId} (hst : applyEff st (some d) (.new (.cell t sh x)) = some st') (hs : cs.size = sh.size)
    (hr : ∀ j, j < sh.size → Rep w F φ (cs.getD j undef) (leafAt sh x j)) :
    ∃ φ', Rel C W0 F0 st' a (w.alloc (.cells cs t)) F φ' ∧ Rep (w.alloc (.cells cs t)) F φ' (.pointer (some ⟨w.heap.size, 0, none⟩)) (.ptr d []) := by
  simp only [applyEff] at hst
  split at hst
  case h_2 => cases hst
  rename_i hc
  cases hst
  simp only [Bool.and_eq_true, Bool.not_eq_true'] at hc
  have hk : ∀ k, F k → (w.alloc (.cells cs t)).heap[k]? = w.heap[k]? := fun k hk => Below.heap_alloc w _ k (h.ro k hk)
  refine ⟨fun k => if k = d then ⟨some w.heap.size, 0, sh, t⟩ else φ k, h.newBox hc.1 hc.2 _ _ rfl ⟨by simp, w.heap.size, cs, by simp, h.bnew (Nat.le_refl _), fun hF => ?_, cell_new cs t, hs, fun j hj => ?_⟩, ?_⟩
  · have := h.ro _ hF; omega
  · refine (hr j hj).keep hk (fun _ hk => hk) fun b hb => update_other φ d _ fun e => ?_
    subst e
    have := names_leafAt sh x j hb
    rw [show x.names b = false from hc.2] at this
    cases this
  · have := Rep.ptr (w := w.alloc (.cells cs t)) (F := F) (φ := fun k => if k = d then ⟨some w.heap.size, 0, sh, t⟩ else φ k) d w.heap.size [] (by simp) (by simp [pathOK])
    simpa [pathOff] using this

/-- A new row of the call's own. -/
theorem Rel.newRow (h : Rel C W0 F0 st a w F φ) {d : Nat} {sh : Shape} {n cap : Nat} {f : Nat → AV} {cs : Array Value} {t : TypeId} (hst : applyEff st (some d) (.new (.row t sh n f)) = some st') (hs : cs.size = cap * sh.size) (hn : n ≤ cap) (hm : cap ≤ maxLen)
    (hr : ∀ i, i < n → ∀ j, j < sh.size → RepS w F (cs.getD (i * sh.size + j) undef) (leafAt sh (f i) j)) :
    ∃ φ', Rel C W0 F0 st' a (w.alloc (.cells cs t)) F φ' ∧ Rep (w.alloc (.cells cs t)) F φ' (.slice (some ⟨w.heap.size, 0, none⟩) n cap) (.own d n) := by
  simp only [applyEff] at hst
  split at hst
  case h_2 => cases hst
  rename_i hc
  cases hst
  simp only [Bool.and_eq_true, Bool.not_eq_true'] at hc
  have hk : ∀ k, F k → (w.alloc (.cells cs t)).heap[k]? = w.heap[k]? := fun k hk => Below.heap_alloc w _ k (h.ro k hk)
  refine ⟨fun k => if k = d then ⟨some w.heap.size, cap, sh, t⟩ else φ k, h.newBox hc.1 hc.2 _ _ rfl ⟨by simp, by simp, .inr ⟨w.heap.size, cs, by simp, h.bnew (Nat.le_refl _), fun hF => ?_, cell_new cs t, by simpa using hs, by simpa using hn, by simpa using hm, fun i hi j hj => ?_⟩⟩, ?_⟩
  · have := h.ro _ hF; omega
  · exact (hr i hi j hj).keep hk (fun _ hk => hk)
  · have := Rep.own (w := w.alloc (.cells cs t)) (F := F) (φ := fun k => if k = d then ⟨some w.heap.size, cap, sh, t⟩ else φ k) d w.heap.size n (by simp) (by simpa using hn)
    simpa using this

theorem wp_alloc {t : TypeId} (h : Rel C W0 F0 st a w F φ) (hT : TysOK C) (ho : o.op = .alloc t) (hr : absOp C st e o.dst orc CC (.alloc t) = some r) (hst : applyEff st o.dst r.eff = some st') (hn : Next C W0 F0 st' a o r.val next) : o.wp C.P a w next Q := by
  simp only [absOp] at hr
  split at hr
  case h_2 => cases hr
  rename_i te d h1 hd
  cases hr
  rw [hd] at hst
  have T := hT _ _ h1
  obtain ⟨dd, i, z, hu, hi, hs, hb, hz, hc, hk, hzr⟩ := T.info
  obtain ⟨φ', hR, hrep⟩ := h.newCell (t := t) hst hc fun j hj => .stat (hzr j hj).rep
  unfold Oper.wp
  have : (execOp a.eval o).run C.P w = .ok (.value (.pointer (some ⟨w.heap.size, 0, none⟩))) (w.alloc (.cells z.cells t)) := by
    simp only [execOp, ho, Instr.alloc, newVar, Go.newRow, Sem.run_bind, zeroValue, typeInfo, run_program, Result.andThen_ok, hi, Sem.run_pure, hz, run_newObj]
    rfl
  rw [this]
  exact hn _ _ _ _ hR fun _ => hrep

theorem wp_box {t : TypeId} {x : Operand} (h : Rel C W0 F0 st a w F φ) (ho : o.op = .box t x) (hr : absOp C st e o.dst orc CC (.box t x) = some r) (hx : ∀ u, e x = some u → Rep w F φ (a.eval x) u) (hst : applyEff st o.dst r.eff = some st')
    (hn : Next C W0 F0 st' a o r.val next) : o.wp C.P a w next Q := by
  simp only [absOp] at hr
  split at hr
  case h_2 => cases hr
  rename_i te d v h1 hd h2
  split at hr
  case h_2 => cases hr
  rename_i y hy
  cases hr
  rw [hd] at hst
  obtain ⟨hs, hrr⟩ := unw_rep hy (hx _ h2)
  obtain ⟨φ', hR, hrep⟩ := h.newCell (t := t) hst hs hrr
  unfold Oper.wp
  have : (execOp a.eval o).run C.P w = .ok (.value (.pointer (some ⟨w.heap.size, 0, none⟩))) (w.alloc (.cells (a.eval x).cells t)) := by
    simp only [execOp, ho, Instr.box, newVar, Go.newRow, Sem.run_bind, Result.andThen_ok, Sem.run_pure, run_newObj]
    rfl
  rw [this]
  exact hn _ _ _ _ hR fun _ => hrep
end
end Go.AV
