/- A part of an array of bytes as a string: two operations at once. -/
import Derived.Test.YtmlgkljbhidlhaaAvLentS
import Derived.Test.YtmlgkljbhidlhaaAvAppS
import Derived.Laws.BytesArg
namespace Go.AV
open Go.RowKit

def isU8 : AV → Bool
  | .int .u8 _ => true
  | _ => false
def u8Of : AV → UInt8
  | .int _ k => UInt8.ofNat k.toNat
  | _ => 0
/-- The bytes of a row from a place on. -/
def bytesAt (f : Nat → AV) (p n : Nat) : List UInt8 := (List.range n).map fun i => u8Of (f (p + i))

def absPair (C : Cfg) (st : St) (o1 o2 : Oper) : Option (St × List Prop) :=
  match o1.op, o1.dst, o1.guard, o2.op, o2.dst, o2.guard with
  | .slice t x (some lo) none none, some d1, none, .convert s d (.tmp d1'), some d2, none =>
    match tyOf C t, ev C st x, ev C st lo, tyOf C s, tyOf C d with
    | some te, some (.ptr b []), some (.int _ p), some ts, some td => match get st.heap b, te.kind, ts.kind, td.kind with
      | some (.cell _ (.arr n .leaf) (.arr _ f)), .arr n' el, .slice el', .string => match tyOf C el with
        | some tl => match tl.kind with
          | .int .u8 => match Nat.beq n n' && Nat.beq el el' && Nat.beq d1 d1' && Nat.blt d1 C.ntmps && Nat.blt d2 C.ntmps with
            | true => some ({ st with env := put (put st.env d1 .any) d2 (.str (bytesAt f p.toNat (n - p.toNat))) }, [0 ≤ p ∧ p ≤ (n : Int), ∀ i, i < n - p.toNat → isU8 (f (p.toNat + i)) = true])
            | false => none
          | _ => none
        | none => none
      | _, _, _, _ => none
    | _, _, _, _, _ => none
  | _, _, _, _, _, _ => none

/-- A call by a special contract. -/
def absSp (C : Cfg) (orc : FuncId → List AV → Option AV) (st : St) (o : Oper) : Option (St × List Prop) :=
  match absLent C st o with
  | some r => some r
  | none => match absFresh C orc st o with
    | some r => some r
    | none => absAppS C st o

/-- The operations in turn; two at once where one alone does not do. -/
def absOpsF (C : Cfg) (CC : FuncId → List AV → AV → Prop) (orc : Nat → FuncId → List AV → Option AV) (all : List Oper) : List Oper → Nat → St → Option (St × List Prop)
  | [], _, st => some (st, [])
  | o :: rest, i, st => match absStep C CC (orc i) all st o with
    | some (st', ps) => match absOpsF C CC orc all rest (i + 1) st' with
      | some (st'', qs) => some (st'', ps ++ qs)
      | none => none
    | none => match absSp C (orc i) st o with
    | some (st', ps) => match absOpsF C CC orc all rest (i + 1) st' with
      | some (st'', qs) => some (st'', ps ++ qs)
      | none => none
    | none => match rest with
      | [] => none
      | o2 :: rest2 => match absPair C st o o2 with
        | some (st', ps) => match absOpsF C CC orc all rest2 (i + 2) st' with
          | some (st'', qs) => some (st'', ps ++ qs)
          | none => none
        | none => none

section
variable {C : Cfg} {W0 : Entry} {F0 : Nat → Prop} {st st' : St} {a : Act} {w : World} {F : Nat → Prop} {φ : Nat → Place} {CC : FuncId → List AV → AV → Prop} {o1 o2 : Oper}
  {Q : Exit → Act → World → Prop}

theorem sp_sound {orc : FuncId → List AV → Option AV} {o : Oper} {ps : List Prop} {K : Act → World → Prop} (h : Rel C W0 F0 st a w F φ) (hT : TysOK C) (hCC : CCOK C CC) (hs : absSp C orc st o = some (st', ps)) (hps : ∀ p ∈ ps, p)
    (hK : ∀ a' w' F' φ', Rel C W0 F0 st' a' w' F' φ' → K a' w') : o.guard = none ∧ o.wp C.P a w K Q := by
  unfold absSp at hs
  split at hs
  · rename_i r hr
    cases hs
    exact lent_sound h hCC.2.2 hr hps hK
  · split at hs
    · rename_i r hr
      cases hs
      exact fresh_sound h hCC.2.1 hr hps hK
    · exact appS_sound h hT hs hps hK

theorem isU8_inv {x : AV} (h : isU8 x = true) : ∃ k, x = .int .u8 k := by
  unfold isU8 at h
  split at h
  · exact ⟨_, rfl⟩
  · cases h

theorem kind_arr' {t : TypeId} {te : TyE} {n : Nat} {e : TypeId} (T : TyOK C t te) (hk : te.kind = .arr n e) : C.P.underlying t = some (.array n e) := by
  obtain ⟨d, i, z, hu, _, _, _, _, _, hki, _⟩ := T.info
  rw [hk] at hki
  rw [hu, hki.1]
theorem kind_leaf {t : TypeId} {te : TyE} {k : IntKind} (T : TyOK C t te) (hk : te.kind = .int k) : te.sh = .leaf := by
  obtain ⟨d, i, z, hu, _, _, _, _, _, hki, _⟩ := T.info
  rw [hk] at hki
  exact hki.2
theorem pair_sound {ps : List Prop} {K : Act → World → Prop} (h : Rel C W0 F0 st a w F φ) (hT : TysOK C) (hs : absPair C st o1 o2 = some (st', ps)) (hps : ∀ p ∈ ps, p)
    (hK : ∀ a' w' F' φ', Rel C W0 F0 st' a' w' F' φ' → K a' w') :
    o1.guard = none ∧ o2.guard = none ∧ o1.wp C.P a w (fun a1 w1 => o2.wp C.P a1 w1 K Q) Q := by
  unfold absPair at hs
  split at hs
  case h_2 => cases hs
  rename_i t x lo d1 s d d1' d2 q1 q2 q3 q4 q5 q6
  split at hs
  case h_2 => cases hs
  rename_i te b kk p ts td h1 h2 h3 h4 h5
  split at hs
  case h_2 => cases hs
  rename_i n f0 f n' el el' hb k1 k2 k3
  split at hs
  case h_2 => cases hs
  rename_i tl h6
  split at hs
  case h_2 => cases hs
  rename_i k4
  split at hs
  case h_2 => cases hs
  rename_i hc
  cases hs
  simp only [Bool.and_eq_true] at hc
  obtain ⟨⟨⟨⟨c1, c2⟩, c3⟩, c4⟩, c5⟩ := hc
  have c1 := Nat.eq_of_beq_eq_true c1
  have c2 := Nat.eq_of_beq_eq_true c2
  have c3 := Nat.eq_of_beq_eq_true c3
  subst c1 c2 c3
  have l1 : d1 < C.ntmps := Nat.le_of_ble_eq_true c4
  have l2 : d2 < C.ntmps := Nat.le_of_ble_eq_true c5
  obtain ⟨b0, b1⟩ : 0 ≤ p ∧ p ≤ (n : Int) := hps _ (by simp)
  have hu8 : ∀ i, i < n - p.toNat → isU8 (f (p.toNat + i)) = true := hps _ (by simp)
  refine ⟨q3, q6, ?_⟩
  obtain ⟨g, hg, _, hx⟩ := (h.ev h2).ptr_inv
  obtain ⟨hlo, _⟩ := (h.ev h3).int_inv
  have hbox := h.heap b _ hb
  obtain ⟨hsh, g', cs, hg', _, _, hw, hsz, hrep⟩ := hbox
  rw [hg] at hg'
  cases hg'
  simp only [pathOff] at hx
  have hu := kind_arr' (hT _ _ h1) k1
  have hes : C.P.underlying el = some (.int .u8) := kind_int (hT _ _ h6) k4
  have hss : C.P.underlying s = some (.slice el) := kind_slice (hT _ _ h4) k2
  have hds : C.P.underlying d = some .string := kind_string (hT _ _ h5) k3
  have hls : tl.sh = .leaf := (kind_leaf (hT _ _ h6) k4)
  have hsize : ∀ w : World, (sizeOf el).run C.P w = .ok 1 w := fun w => by
    rw [(hT _ _ h6).size, hls]; rfl
  have r1 : (execOp a.eval o1).run C.P w = .ok (.value (.slice (some (if n = p.toNat then ⟨g, 0, none⟩ else (⟨g, 0, none⟩ : Addr).add (p.toNat * 1))) (n - p.toNat) (n - p.toNat))) w := by
    simp only [execOp, q1]
    refine run_value ?_
    simp only [Instr.sliceAt, Sem.run_bind, run_underlying hu, Result.andThen_ok, hx, Instr.sureAddr, Sem.run_pure, Option.map_none, Option.map_some, hlo,
      run_bounds (isSlice := false) (lo := some (.int kk p)) (hi := none) (l := p) (h := (n : Int)) (.inr ⟨kk, rfl⟩) (.inl ⟨rfl, rfl⟩) b0 b1 (Int.le_refl _), hsize, Int.toNat_natCast]
  have hoff : (if n = p.toNat then (⟨g, 0, none⟩ : Addr) else (⟨g, 0, none⟩ : Addr).add (p.toNat * 1)) = ⟨g, if n = p.toNat then 0 else p.toNat, none⟩ := by
    split
    · rfl
    · rw [add_none]; simp
  rw [hoff] at r1
  unfold Oper.wp
  rw [r1]
  have hR1 : Rel C W0 F0 { st with env := put st.env d1 .any } (a.put (some d1) (.slice (some ⟨g, if n = p.toNat then 0 else p.toNat, none⟩) (n - p.toNat) (n - p.toNat))) w F φ := h.putV l1 (.stat (.any _ rfl))
  rw [Oper.upon_value, q2]
  simp only [Shape.size, Nat.mul_one] at hsz
  have hcell : ∀ i, i < n - p.toNat → ∃ k, f (p.toNat + i) = .int .u8 k ∧ w.cell? ⟨g, p.toNat + i, none⟩ = some (.int .u8 k) := fun i hi => by
    obtain ⟨k, hk⟩ := isU8_inv (hu8 i hi)
    refine ⟨k, hk, ?_⟩
    have hr := hrep (p.toNat + i) (by simp only [Shape.size, Nat.mul_one]; omega)
    simp only [leafAt, Shape.size, Nat.div_one, hk, asLeaf, AV.isOne] at hr
    have hv := hr.strip (.st (.refl _))
    rw [cell_of hw (by omega), hv.int_inv.1]
  have hv1 : (a.put (some d1) (.slice (some ⟨g, if n = p.toNat then 0 else p.toNat, none⟩) (n - p.toNat) (n - p.toNat))).eval (.tmp d1) = .slice (some ⟨g, if n = p.toNat then 0 else p.toNat, none⟩) (n - p.toNat) (n - p.toNat) := by
    simp only [Act.put, Act.eval, Array.getD_eq_getD_getElem?]
    rw [Array.getElem?_setIfInBounds_self_of_lt (by rw [h.tsz]; exact l1)]
    rfl
  have r2 : (execOp (a.put (some d1) (.slice (some ⟨g, if n = p.toNat then 0 else p.toNat, none⟩) (n - p.toNat) (n - p.toNat))).eval o2).run C.P w = .ok (.value (.string ⟨(bytesAt f p.toNat (n - p.toNat)).toArray⟩)) w := by
    simp only [execOp, q4]
    refine run_value ?_
    rw [hv1]
    have := run_convert_bytes_arg (P := C.P) w s el hss hes g (if n = p.toNat then 0 else p.toNat) (n - p.toNat) (n - p.toNat) ((List.range (n - p.toNat)).map fun i => match f (p.toNat + i) with | .int _ k => k | _ => 0) (by simp) (fun i hi => by
      obtain ⟨k, hk, hc⟩ := hcell i hi
      rw [if_neg (by omega), hc]
      simp [hi, hk]) d hds
    rw [this]
    congr 2
    simp only [strOfNums, bytesAt, List.map_map]
    congr 2
    refine List.map_congr_left fun i hi => ?_
    simp only [List.mem_range] at hi
    obtain ⟨k, hk, _⟩ := hcell i hi
    simp only [Function.comp, hk, u8Of]
  rw [r2]
  rw [Oper.upon_value, q5]
  exact hK _ _ _ _ (hR1.putV l2 (.stat (by have := RepS.str (w := w) (F := F) ⟨(bytesAt f p.toNat (n - p.toNat)).toArray⟩; simpa using this)))

theorem ops_soundF {ops : Array Oper} {orc : Nat → FuncId → List AV → Option AV} : ∀ (rest : List Oper) (i : Nat) (st st' : St) (ps : List Prop) (a : Act) (w : World) (F : Nat → Prop) (φ : Nat → Place), TysOK C → CCOK C CC → (∀ j, rest[j]? = ops[i + j]?) →
    absOpsF C CC orc ops.toList rest i st = some (st', ps) → (∀ p ∈ ps, p) → Rel C W0 F0 st a w F φ → (∀ a' w' F' φ', Rel C W0 F0 st' a' w' F' φ' → Q .normal a' w') → wpOps C.P ops Q (List.range' i rest.length) a w
  | [], i, st, st', ps, a, w, F, φ, _, _, _, h, _, hR, hQ => by
    simp only [absOpsF, Option.some.injEq, Prod.mk.injEq] at h
    obtain ⟨rfl, _⟩ := h
    exact hQ _ _ _ _ hR
  | [o], i, st, st', ps, a, w, F, φ, hT, hCC, hj, h, hps, hR, hQ => by
    simp only [absOpsF] at h
    have ho : ops[i]? = some o := by simpa using (hj 0).symm
    simp only [List.length_cons, List.length_nil, List.range'_succ, List.range'_zero, wpOps, ho]
    split at h
    · rename_i st1 ps1 h1
      cases h
      have hstep := step_sound (Q := Q) (ops := ops) (K := fun a w => Q .normal a w) hR hT hCC h1 (fun p hp => hps p (by simp [hp])) hQ
      split
      · rename_i hw; rw [if_pos hw] at hstep; exact .inl hstep
      · rename_i hw; rw [if_neg hw] at hstep; exact hstep
    · split at h
      case h_2 => cases h
      rename_i st1 ps1 h1
      cases h
      obtain ⟨e1, e2⟩ := sp_sound (Q := Q) (K := fun a w => Q .normal a w) hR hT hCC h1 (fun p hp => hps p (by simp [hp])) hQ
      have w1 : ∀ m, Region.wanted o m = true := fun m => by simp [Region.wanted, e1]
      simp only [w1, if_true]
      exact .inl e2
  | o :: o2 :: rest2, i, st, st', ps, a, w, F, φ, hT, hCC, hj, h, hps, hR, hQ => by
    simp only [absOpsF] at h
    have ho : ops[i]? = some o := by simpa using (hj 0).symm
    have e : List.range' i (o :: o2 :: rest2).length = i :: List.range' (i + 1) (o2 :: rest2).length := by rw [List.length_cons, List.range'_succ]
    split at h
    · rename_i st1 ps1 h1
      split at h
      case h_2 => cases h
      rename_i st2 ps2 h2
      cases h
      rw [e, wpOps, ho]
      have hstep := step_sound (Q := Q) (ops := ops) (K := wpOps C.P ops Q (List.range' (i + 1) (o2 :: rest2).length)) hR hT hCC h1 (fun p hp => hps p (by simp [hp])) fun a' w' F' φ' hR' =>
        ops_soundF (o2 :: rest2) (i + 1) st1 st' ps2 a' w' F' φ' hT hCC (fun j => by rw [show i + 1 + j = i + (j + 1) from by omega, ← hj (j + 1)]; simp) h2 (fun p hp => hps p (by simp [hp])) hR' hQ
      show if _ then _ else _
      split
      · rename_i hw; rw [if_pos hw] at hstep; exact .inl hstep
      · rename_i hw; rw [if_neg hw] at hstep; exact hstep
    · split at h
      · rename_i st1 ps1 h1
        split at h
        case h_2 => cases h
        rename_i st2 ps2 h2
        cases h
        rw [e, wpOps, ho]
        obtain ⟨e1, e2⟩ := sp_sound (Q := Q) (K := wpOps C.P ops Q (List.range' (i + 1) (o2 :: rest2).length)) hR hT hCC h1 (fun p hp => hps p (by simp [hp])) fun a' w' F' φ' hR' =>
          ops_soundF (o2 :: rest2) (i + 1) st1 st' ps2 a' w' F' φ' hT hCC (fun j => by rw [show i + 1 + j = i + (j + 1) from by omega, ← hj (j + 1)]; simp) h2 (fun p hp => hps p (by simp [hp])) hR' hQ
        have w1 : ∀ m, Region.wanted o m = true := fun m => by simp [Region.wanted, e1]
        show if _ then _ else _
        rw [if_pos (w1 _)]
        exact .inl e2
      · split at h
        case h_2 => cases h
        rename_i st1 ps1 h1
        split at h
        case h_2 => cases h
        rename_i st2 ps2 h2
        cases h
        have ho2 : ops[i + 1]? = some o2 := by simpa using (hj 1).symm
        simp only [List.length_cons, List.range'_succ, wpOps, ho, ho2]
        obtain ⟨e1, e2, e3⟩ := pair_sound (Q := Q) (K := wpOps C.P ops Q (List.range' (i + 1 + 1) rest2.length)) hR hT h1 (fun p hp => hps p (by simp [hp])) fun a' w' F' φ' hR' =>
          ops_soundF rest2 (i + 2) st1 st' ps2 a' w' F' φ' hT hCC (fun j => by rw [show i + 2 + j = i + (j + 2) from by omega, ← hj (j + 2)]; simp) h2 (fun p hp => hps p (by simp [hp])) hR' hQ
        have w1 : ∀ m, Region.wanted o m = true := fun m => by simp [Region.wanted, e1]
        have w2 : ∀ m, Region.wanted o2 m = true := fun m => by simp [Region.wanted, e2]
        simp only [w1, w2, if_true]
        exact .inl (Oper.wp_mono (fun a1 w1 h1 => .inl h1) e3)
end
end Go.AV
