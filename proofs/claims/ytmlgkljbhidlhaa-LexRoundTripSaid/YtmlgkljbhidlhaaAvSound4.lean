/- The remaining operations that only look. -/
import Derived.Test.YtmlgkljbhidlhaaAvSound3
namespace Go.AV
open Go.RowKit

section
variable {C : Cfg} {W0 : Entry} {F0 : Nat → Prop} {st : St} {a : Act} {w : World} {F : Nat → Prop} {φ : Nat → Place} {e : Operand → Option AV} {dst : Option Nat} {orc : FuncId → List AV → Option AV} {CC : FuncId → List AV → AV → Prop} {r : Res} {o : Oper}

theorem pure_shift {op : BinOp} {t t' : TypeId} {x y : Operand} {u v : AV} (ho : o.op = .binOp op t x y t') (hr : shiftAV op u v = some r)
    (hx : Rep w F φ (a.eval x) u) (hy : Rep w F φ (a.eval y) v) (hob : ∀ p ∈ r.obs, p) : PureOK C o a w F φ r := by
  unfold PureOK
  simp only [execOp, ho]
  unfold shiftAV at hr
  split at hr
  case h_2 => cases hr
  rename_i k m k' n
  obtain ⟨ex, _⟩ := hx.int_inv
  obtain ⟨ey, _⟩ := hy.int_inv
  rw [ex, ey]
  split at hr <;> first | cases hr | skip
  · have hb : 0 ≤ n ∧ n ≤ k.bits := hob _ (by simp)
    exact ⟨rfl, .int k (k.wrap (m * 2 ^ n.toNat)), by simp [eqGuard, binOp, shift_shl k k' m n hb.1 hb.2], .stat (.int _ _ (inR_bits _))⟩
  · have hb : 0 ≤ n ∧ n ≤ k.bits := hob _ (by simp)
    have hi : InR k (m / 2 ^ n.toNat) := hob _ (by simp)
    exact ⟨rfl, .int k (m / 2 ^ n.toNat), by simp [eqGuard, binOp, shift_shr k k' m n hb.1 hb.2], .stat (.int _ _ hi)⟩

theorem pure_binOp {op : BinOp} {t t' : TypeId} {x y : Operand} (hT : TysOK C) (ho : o.op = .binOp op t x y t') (hr : absOp C st e dst orc CC (.binOp op t x y t') = some r)
    (hx : ∀ u, e x = some u → Rep w F φ (a.eval x) u) (hy : ∀ u, e y = some u → Rep w F φ (a.eval y) u) (hob : ∀ p ∈ r.obs, p) : PureOK C o a w F φ r := by
  simp only [absOp] at hr
  split at hr
  · split at hr
    · rename_i h1 h2; exact pure_shift ho hr (hx _ h1) (hy _ h2) hob
    · cases hr
  · split at hr
    · rename_i h1 h2; exact pure_shift ho hr (hx _ h1) (hy _ h2) hob
    · cases hr
  · rename_i n1 n2
    split at hr
    · rename_i h1 h2 h3; exact pure_bin hT h1 ho ⟨n1, n2⟩ hr (hx _ h2) (hy _ h3) hob
    · cases hr

theorem pure_unOp {op : UnOp} {t : TypeId} {x : Operand} (ho : o.op = .unOp op t x) (hr : absOp C st e dst orc CC (.unOp op t x) = some r) (hx : ∀ u, e x = some u → Rep w F φ (a.eval x) u) (hob : ∀ p ∈ r.obs, p) :
    PureOK C o a w F φ r := by
  simp only [absOp] at hr
  split at hr
  · rename_i h1
    cases hr
    have := (hx _ h1).bool_inv
    exact ⟨rfl, .bool (!_), by simp [execOp, ho, Op.unary, this], repB _⟩
  · rename_i k n h1
    cases hr
    obtain ⟨this, _⟩ := (hx _ h1).int_inv
    exact ⟨arith_eff, .int k (k.wrap (0 - n)), by simp [execOp, ho, Op.unary, Op.intArith, this], arith_rep hob⟩
  · cases hr

theorem widen {k k' : IntKind} {n : Int} (hk : kindLe k k' = true) (h : InR k n) : k'.wrap n = n := by
  unfold InR at h
  cases k <;> cases k' <;> simp [kindLe] at hk <;> first | exact h | (simp only [IntKind.wrap, IntKind.signed, IntKind.bits] at h ⊢; simp at h ⊢; (repeat' split at h) <;> (repeat' split) <;> omega)

theorem kind_int {t : TypeId} {te : TyE} {k : IntKind} (T : TyOK C t te) (hk : te.kind = .int k) : C.P.underlying t = some (.int k) := by
  obtain ⟨d, i, z, hd, _, _, _, _, _, hki, _⟩ := T.info
  rw [hk] at hki
  rw [hd, hki.1]
theorem kind_string {t : TypeId} {te : TyE} (T : TyOK C t te) (hk : te.kind = .string) : C.P.underlying t = some .string := by
  obtain ⟨d, i, z, hd, _, _, _, _, _, hki, _⟩ := T.info
  rw [hk] at hki
  rw [hd, hki.1]
theorem kind_slice {t : TypeId} {te : TyE} {el : TypeId} (T : TyOK C t te) (hk : te.kind = .slice el) : C.P.underlying t = some (.slice el) := by
  obtain ⟨d, i, z, hd, _, _, _, _, _, hki, _⟩ := T.info
  rw [hk] at hki
  rw [hd, hki.1]
theorem kind_arr {t : TypeId} {te : TyE} {n : Nat} {el : TypeId} (T : TyOK C t te) (hk : te.kind = .arr n el) : C.P.underlying t = some (.array n el) ∧ ∃ tl, tyOf C el = some tl ∧ te.sh = .arr n tl.sh := by
  obtain ⟨d, i, z, hd, _, _, _, _, _, hki, _⟩ := T.info
  rw [hk] at hki
  exact ⟨by rw [hd, hki.1], hki.2⟩
theorem kind_struct {t : TypeId} {te : TyE} {fs : List TypeId} (T : TyOK C t te) (hk : te.kind = .struct fs) : ∃ (fields : Array Field) (ss : List Shape), C.P.underlying t = some (.struct fields) ∧ te.sh = .agg ss ∧ ss.length = fs.length ∧ fs = fields.toList.map (·.type) ∧
      ∀ i : Nat, ∀ f : Field, fields[i]? = some f → ∃ te, tyOf C f.type = some te ∧ ss[i]? = some te.sh ∧ f.offset = Shape.sizes (ss.take i) ∧ f.name ≠ "_" := by
  obtain ⟨d, i, z, hd, _, _, _, _, _, hki, _⟩ := T.info
  rw [hk] at hki
  obtain ⟨fields, ss, rfl, h⟩ := hki
  exact ⟨fields, ss, hd, h⟩

theorem pure_convert {s d : TypeId} {x : Operand} (hT : TysOK C) (ho : o.op = .convert s d x) (hr : absOp C st e dst orc CC (.convert s d x) = some r) (hx : ∀ u, e x = some u → Rep w F φ (a.eval x) u) : PureOK C o a w F φ r := by
  simp only [absOp] at hr
  split at hr
  · rename_i ts td k n h1 h2 h3
    obtain ⟨ev, hin⟩ := (hx _ h3).int_inv
    split at hr
    · rename_i k0 k' e1 e2
      have u1 := kind_int (hT _ _ h1) e1
      have u2 := kind_int (hT _ _ h2) e2
      have run : (execOp a.eval o).run C.P w = .ok (.value (.int k' (k'.wrap n))) w := by
        simp [execOp, ho, ev, convert, run_underlying u1, run_underlying u2, Conv.intToInt]
      split at hr
      · rename_i hw
        cases hr
        simp only [Bool.and_eq_true] at hw
        have hk0 := of_decide_eq_true hw.1
        subst hk0
        have := widen hw.2 hin
        exact ⟨rfl, _, run, by rw [this]; exact .stat (.int _ _ this)⟩
      · cases hr
        exact ⟨rfl, _, run, .stat (.int _ _ (inR_bits _))⟩
    · cases hr
  · rename_i ts td l h1 h2 h3
    obtain ⟨s', ev, rfl⟩ := (hx _ h3).str_inv
    split at hr
    · rename_i e1 e2
      cases hr
      have u1 := kind_string (hT _ _ h1) e1
      have u2 := kind_string (hT _ _ h2) e2
      exact ⟨rfl, .string s', by simp [execOp, ho, ev, convert, run_underlying u1, run_underlying u2], .stat (.str _)⟩
    · cases hr
  · cases hr

theorem evList_spec : ∀ {l : List Operand} {m : List AV}, evList e l = some m → (∀ x ∈ l, ∀ u, e x = some u → Rep w F φ (a.eval x) u) → l.length = m.length ∧ ∀ j, j < m.length → Rep w F φ ((l.map a.eval).getD j undef) (m.getD j .any)
  | [], m, h, _ => by simp [evList] at h; subst h; exact ⟨rfl, fun j hj => by simp at hj⟩
  | x :: l, m, h, hx => by
    simp only [evList] at h
    split at h
    · rename_i v vs h1 h2
      cases h
      obtain ⟨a1, a2⟩ := evList_spec h2 fun y hy => hx y (by simp [hy])
      refine ⟨by simp [a1], fun j hj => ?_⟩
      cases j with
      | zero => simpa using hx x (by simp) v h1
      | succ j => simpa using a2 j (by simpa using hj)
    · cases h

theorem pure_makeFunc {fn : Fn} {first caps : Array Operand} (ho : o.op = .makeFunc fn first caps) (hr : absOp C st e dst orc CC (.makeFunc fn first caps) = some r)
    (hx : ∀ x ∈ caps.toList, ∀ u, e x = some u → Rep w F φ (a.eval x) u) : PureOK C o a w F φ r := by
  cases fn <;> simp only [absOp] at hr <;> try cases hr
  rename_i f
  split at hr
  · rename_i l h1 h2
    cases hr
    obtain ⟨a1, a2⟩ := evList_spec h2 hx
    have hf : first = #[] := Array.eq_empty_of_size_eq_zero h1
    subst hf
    refine ⟨rfl, .func (.func f) #[] (caps.map a.eval), by simp [execOp, ho, Instr.makeFunc], .clo f _ l (by simpa using a1) fun j hj => ?_⟩
    have := a2 j hj
    simpa [Array.getD_eq_getD_getElem?, List.getD_eq_getElem?_getD] using this
  · cases hr

theorem pure_extract {x : Operand} {i : Nat} (ho : o.op = .extract x i) (hr : absOp C st e dst orc CC (.extract x i) = some r) (hx : ∀ u, e x = some u → Rep w F φ (a.eval x) u) : PureOK C o a w F φ r := by
  simp only [absOp] at hr
  split at hr
  · rename_i l h1
    split at hr
    · rename_i v h2
      cases hr
      have h3 := hx _ h1
      generalize hg : a.eval x = u at h3
      cases h3 with
      | stat h => cases h
      | tup vs _ hs hc =>
        have hi := (List.getElem?_eq_some_iff.1 h2).1
        have := hc i hi
        rw [List.getD_eq_getElem?_getD, h2] at this
        have h4 : vs[i]? = some (vs.getD i undef) := by simp [hs, hi]
        exact ⟨rfl, _, by simp only [execOp, ho, hg, Instr.extract, h4, Sem.run_bind, Sem.run_pure, Result.andThen_ok], this⟩
    · cases hr
  · cases hr

theorem pathOK_append {p : List Nat} {sh s : Shape} {i : Nat} (h : pathOK p sh) (hs : pathSh p sh = some s) : (pathOK [i] s → pathOK (p ++ [i]) sh) ∧ pathOff (p ++ [i]) sh = pathOff p sh + pathOff [i] s := by
  induction p generalizing sh with
  | nil => simp [pathSh] at hs; subst hs; simp [pathOff]
  | cons k p ih =>
    cases sh with
    | leaf => simp [pathOK] at h
    | agg ss =>
      simp only [List.cons_append, pathOK, pathSh, pathOff] at *
      cases hk : ss[k]? with
      | none => simp [hk] at h
      | some t =>
        simp only [hk] at h hs ⊢
        obtain ⟨a1, a2⟩ := ih h hs
        exact ⟨a1, by rw [a2]; omega⟩
    | arr n t =>
      simp only [List.cons_append, pathOK, pathSh, pathOff] at *
      obtain ⟨a1, a2⟩ := ih h.2 hs
      exact ⟨fun hp => ⟨h.1, a1 hp⟩, by rw [a2]; omega⟩

theorem boxSh_spec (h : Rel C W0 F0 st a w F φ) {b : Nat} {p : List Nat} {s : Shape} (hb : boxSh st b p = some s) : pathSh p (φ b).sh = some s := by
  unfold boxSh at hb
  split at hb
  · rename_i sh x hx
    rw [(h.cells hx).1]; exact hb
  · cases hb
theorem rowSh_spec (h : Rel C W0 F0 st a w F φ) {b : Nat} {p : List Nat} {s : Shape} (hb : rowSh st b p = some s) : pathSh p (φ b).sh = some s := by
  unfold rowSh at hb
  split at hb
  · rename_i ty sh n f hx
    rw [(h.heap b _ hx).1]; exact hb
  · cases hb

theorem pure_fieldAddr {t : TypeId} {x : Operand} {f : Nat} (h : Rel C W0 F0 st a w F φ) (hT : TysOK C) (ho : o.op = .fieldAddr t x f) (hr : absOp C st e dst orc CC (.fieldAddr t x f) = some r)
    (hx : ∀ u, e x = some u → Rep w F φ (a.eval x) u) : PureOK C o a w F φ r := by
  simp only [absOp] at hr
  split at hr
  case h_2 => cases hr
  rename_i te v h1 h2
  split at hr
  case h_2 => cases hr
  rename_i hf
  split at hr
  case h_2 => cases hr
  rename_i r' hr'
  cases hr
  have T := hT _ _ h1
  have hkind : ∃ fs, te.kind = .struct fs ∧ f < fs.length := by
    cases hk : te.kind <;> simp [hk, fieldCount, Nat.blt] at hf
    exact ⟨_, rfl, by omega⟩
  obtain ⟨fs, hk, hlt⟩ := hkind
  obtain ⟨fields, ss, hd, hsh, hlen, hfs, hfi⟩ := kind_struct T hk
  have hfl : f < fields.size := by rw [hfs] at hlt; simpa using hlt
  have hff : fields[f]? = some fields[f] := by simp [hfl]
  obtain ⟨tf, htf, hsf, hoff, _⟩ := hfi f _ hff
  have Tf := hT _ _ htf
  have run : ∀ g off, a.eval x = .pointer (some ⟨g, off, none⟩) → (execOp a.eval o).run C.P w = .ok (.value (.pointer (some ⟨g, off + Shape.sizes (ss.take f), none⟩))) w := by
    intro g off hv
    have hpos := Tf.pos
    simp only [execOp, ho]
    refine run_value ?_
    simp only [Instr.fieldAt, Sem.run_bind, run_underlying hd, Result.andThen_ok, hff, hv, Instr.sureAddr, Sem.run_pure, fieldPlace, Tf.size]
    rw [if_neg (by omega)]
    simp [hoff, add_none]
  have hp1 : pathOK [f] te.sh ∧ pathOff [f] te.sh = Shape.sizes (ss.take f) := by
    rw [hsh]; simp [pathOK, pathOff, hsf]
  unfold fieldAV at hr'
  have hrep := hx _ h2
  split at hr'
  · rename_i b p
    split at hr'
    case h_2 => cases hr'
    rename_i s hs
    split at hr'
    case h_2 => cases hr'
    rename_i hsame
    cases hr'
    have := Shape.same_eq _ _ hsame
    subst this
    obtain ⟨g, hg, hp, hv⟩ := hrep.ptr_inv
    obtain ⟨a1, a2⟩ := pathOK_append (i := f) hp (boxSh_spec h hs)
    refine ⟨rfl, _, run g _ hv, ?_⟩
    have := Rep.ptr (w := w) (F := F) (φ := φ) b g (p ++ [f]) hg (a1 hp1.1)
    rw [a2, hp1.2] at this
    exact this
  · rename_i b i p
    split at hr'
    case h_2 => cases hr'
    rename_i s hs
    split at hr'
    case h_2 => cases hr'
    rename_i hsame
    cases hr'
    have := Shape.same_eq _ _ hsame
    subst this
    obtain ⟨g, hg, hp, hv⟩ := hrep.optr_inv
    obtain ⟨a1, a2⟩ := pathOK_append (i := f) hp (rowSh_spec h hs)
    refine ⟨rfl, _, run g _ hv, ?_⟩
    have := Rep.optr (w := w) (F := F) (φ := φ) b g i (p ++ [f]) hg (a1 hp1.1)
    rw [a2, hp1.2, ← Nat.add_assoc] at this
    exact this
  · rename_i ss' xs
    split at hr'
    case h_2 => cases hr'
    rename_i hsame
    have := Shape.same_eq _ _ hsame
    rw [hsh] at this
    obtain rfl : ss' = ss := by injection this
    split at hr'
    case h_2 => cases hr'
    rename_i s y hs hy
    cases hr'
    obtain ⟨g, off, cs, hF, hv, hc, hrr⟩ := hrep.rptr_inv
    refine ⟨rfl, _, run g _ hv, .stat (.rptr g _ s y (fun j => cs (Shape.sizes (ss'.take f) + j)) hF (fun j hj => ?_) fun j hj => ?_)⟩
    · have := sizes_take_get hs
      rw [Nat.add_assoc]; exact hc _ (by simp only [Shape.size]; omega)
    · have h5 := sizes_take_get hs
      have h6 := hrr (Shape.sizes (ss'.take f) + j) (by simp only [Shape.size]; omega)
      simp only [leafAt] at h6
      rwa [leafsAt_get hs hy j hj] at h6
  · cases hr'
end
end Go.AV
