import Derived.Test.YtgcpdfihjmmggaaGreatDoorXh
import Derived.Laws.BytesArg
namespace Go.AV
open Go.RowKit
def isU8 : AV -> Bool
  | .int .u8 _ => true
  | _ => false
def u8Of : AV -> UInt8
  | .int _ k => UInt8.ofNat k.toNat
  | _ => 0
def zd8 (f : Nat -> AV) (p n : Nat) : List UInt8 := (List.range n).map fun i => u8Of (f (p + i))
def zd9 (C : Cfg) (st : St) (o1 o2 : Oper) : Option (St × List Prop) :=
  match o1.op, o1.dst, o1.guard, o2.op, o2.dst, o2.guard with
  | .slice t x (some lo) none none, some d1, none, .convert s d (.tmp d1'), some d2, none =>
    match tyOf C t, ev C st x, ev C st lo, tyOf C s, tyOf C d with
    | some te, some (.ptr b []), some (.int _ p), some ts, some td => match get st.heap b, te.kind, ts.kind, td.kind with
      | some (.cell _ (.arr n .leaf) (.arr _ f)), .arr n' el, .slice el', .string => match tyOf C el with
        | some tl => match tl.kind with
          | .int .u8 => match Nat.beq n n' && Nat.beq el el' && Nat.beq d1 d1' && Nat.blt d1 C.ntmps && Nat.blt d2 C.ntmps with
            | true => some ({ st with env := put (put st.env d1 .any) d2 (.str (zd8 f p.toNat (n - p.toNat))) }, [0 <= p /\ p <= (n : Int), ∀ i, i < n - p.toNat -> isU8 (f (p.toNat + i)) = true])
            | false => none
          | _ => none
        | none => none
      | _, _, _, _ => none
    | _, _, _, _, _ => none
  | _, _, _, _, _, _ => none
def zp3 (P : Program) (G : List (Nat × AV)) (f : FuncId) (args : List AV) (g : FuncId) : Prop :=
  z1d P f /\ z1d P g /\ ∀ (w : World) (F : Nat -> Prop) (vs : Array Value), (∀ k, F k -> k < w.heap.size) -> (∀ g x, get G g = some x -> RepS w F (.pointer (some ⟨g, 0, none⟩)) x) -> vs.size = args.length ->
    (∀ j, j < args.length -> RepS w F (vs.getD j undef) (args.getD j .any)) ->
    Calls P f vs w fun en w1 => ∃ v, en = .returned v /\ Calls P g #[v] w1 fun en2 w2 => ∃ v2, en2 = .returned v2 /\ Below w.heap.size w w2
def delO (d : Option Nat) (l : List (Nat × AV)) : List (Nat × AV) := match d with
  | some d => del l d
  | none => l
def zrm (C : Cfg) (st : St) (o1 o2 : Oper) : Option (St × List Prop) :=
  match o1.op, o1.dst, o1.guard, o2.op, o2.guard with
  | .call c1, some d1, none, .call c2, none => match c1.callee, c2.callee, c2.args.toList with
    | .value fx1, .value fx2, [.tmp d1'] => match ev C st fx1, z2e (ev C st) c1.args.toList, fx2 with
      | some (.clo f []), some args, .func g => match AV.areStat args && Nat.beq d1 d1' && Nat.blt d1 C.ntmps with
        | true => some ({ st with env := delO o2.dst (del st.env d1) }, [zp3 C.P C.G f args g])
        | false => none
      | _, _, _ => none
    | _, _, _ => none
  | _, _, _, _, _ => none
def zg9 (C : Cfg) (st : St) (o1 o2 : Oper) : Option (St × List Prop) :=
  match zd9 C st o1 o2 with
  | some r => some r
  | none => zrm C st o1 o2
def zj0 (C : Cfg) (CC : FuncId -> List AV -> AV -> Prop) (orc : FuncId -> List AV -> Option AV) (all : List Oper) (st : St) (o : Oper) : Option (St × List Prop) :=
  match zg5 C st o with
  | some r => some r
  | none => match zd4 C orc st o with
    | some r => some r
    | none => match zg7 C st o with
      | some r => some r
      | none => match zjz C CC orc st o with
        | some r => some r
        | none => zrl C all st o
def z67 (C : Cfg) (CC : FuncId -> List AV -> AV -> Prop) (orc : Nat -> FuncId -> List AV -> Option AV) (all : List Oper) : List Oper -> Nat -> St -> Option (St × List Prop)
  | [], _, st => some (st, [])
  | o :: rest, i, st => match z1x C CC (orc i) all st o with
    | some (st', ps) => match z67 C CC orc all rest (i + 1) st' with
      | some (st'', qs) => some (st'', ps ++ qs)
      | none => none
    | none => match zj0 C CC (orc i) all st o with
    | some (st', ps) => match z67 C CC orc all rest (i + 1) st' with
      | some (st'', qs) => some (st'', ps ++ qs)
      | none => none
    | none => match rest with
      | [] => none
      | o2 :: rest2 => match zg9 C st o o2 with
        | some (st', ps) => match z67 C CC orc all rest2 (i + 2) st' with
          | some (st'', qs) => some (st'', ps ++ qs)
          | none => none
        | none => none
section
variable {C : Cfg} {W0 : Entry} {F0 : Nat -> Prop} {st st' : St} {a : Act} {w : World} {F : Nat -> Prop} {φ : Nat -> Place} {CC : FuncId -> List AV -> AV -> Prop} {o1 o2 : Oper}
  {Q : Exit -> Act -> World -> Prop}
theorem zda {ops : Array Oper} {orc : FuncId -> List AV -> Option AV} {o : Oper} {ps : List Prop} {K : Act -> World -> Prop} (h : Rel C W0 F0 st a w F φ) (hT : z12 C) (hCC : CCOK C CC) (hs : zj0 C CC orc ops.toList st o = some (st', ps)) (hps : ∀ p ∈ ps, p)
    (hK : ∀ a' w' F' φ', Rel C W0 F0 st' a' w' F' φ' -> K a' w') : if Region.wanted o (yielded ops a.tmps) then o.wp C.P a w K Q else K (a.put o.dst undef) w := by
  have fin : o.guard = none /\ o.wp C.P a w K Q -> if Region.wanted o (yielded ops a.tmps) then o.wp C.P a w K Q else K (a.put o.dst undef) w := fun e => by
    rw [if_pos (by simp [Region.wanted, e.1])]
    exact e.2
  unfold zj0 at hs
  split at hs
  . rename_i r hr
    cases hs
    exact fin (zix h hCC.2.2.1 hr hps hK)
  . split at hs
    . rename_i r hr
      cases hs
      exact fin (zg3 h hCC.2.1 hr hps hK)
    . split at hs
      . rename_i r hr
        cases hs
        exact fin (ziy h hT hr hps hK)
      . split at hs
        . rename_i r hr
          cases hs
          exact fin (zg8 h hT hCC hr hps hK)
        . exact znc h hT hCC hs hps hK
theorem znd {x : AV} (h : isU8 x = true) : ∃ k, x = .int .u8 k := by
  unfold isU8 at h
  split at h
  . exact ⟨_, rfl⟩
  . cases h
theorem kind_arr' {t : TypeId} {te : TyE} {n : Nat} {e : TypeId} (T : TyOK C t te) (hk : te.kind = .arr n e) : C.P.underlying t = some (.array n e) := by
  obtain ⟨d, i, z, hu, _, _, _, _, _, hki, _⟩ := T.info
  rw [hk] at hki
  rw [hu, hki.1]
theorem zk0 {t : TypeId} {te : TyE} {k : IntKind} (T : TyOK C t te) (hk : te.kind = .int k) : te.sh = .leaf := by
  obtain ⟨d, i, z, hu, _, _, _, _, _, hki, _⟩ := T.info
  rw [hk] at hki
  exact hki.2
theorem zga {ps : List Prop} {K : Act -> World -> Prop} (h : Rel C W0 F0 st a w F φ) (hT : z12 C) (hs : zd9 C st o1 o2 = some (st', ps)) (hps : ∀ p ∈ ps, p)
    (hK : ∀ a' w' F' φ', Rel C W0 F0 st' a' w' F' φ' -> K a' w') :
    o1.guard = none /\ o2.guard = none /\ o1.wp C.P a w (fun a1 w1 => o2.wp C.P a1 w1 K Q) Q := by
  unfold zd9 at hs
  split at hs
  case h_2 => cases hs
  rename_i t x lo d1 s d d1' d2 q1 q2 q3 q4 q5 q6
  split at hs
  case h_2 => cases hs
  rename_i te b kk p ts td h1 h2 h3 h4 h5
  split at hs
  case h_2 => cases hs
  rename_i n f0 f n' el el' hb k1 k2 k3
  split at hs
  case h_2 => cases hs
  rename_i tl h6
  split at hs
  case h_2 => cases hs
  rename_i k4
  split at hs
  case h_2 => cases hs
  rename_i hc
  cases hs
  simp only [Bool.and_eq_true] at hc
  obtain ⟨⟨⟨⟨c1, c2⟩, c3⟩, c4⟩, c5⟩ := hc
  have c1 := Nat.eq_of_beq_eq_true c1
  have c2 := Nat.eq_of_beq_eq_true c2
  have c3 := Nat.eq_of_beq_eq_true c3
  subst c1 c2 c3
  have l1 : d1 < C.ntmps := Nat.le_of_ble_eq_true c4
  have l2 : d2 < C.ntmps := Nat.le_of_ble_eq_true c5
  obtain ⟨b0, b1⟩ : 0 <= p /\ p <= (n : Int) := hps _ (by simp)
  have hu8 : ∀ i, i < n - p.toNat -> isU8 (f (p.toNat + i)) = true := hps _ (by simp)
  refine ⟨q3, q6, ?_⟩
  obtain ⟨g, hg, _, hx⟩ := (h.ev h2).ptr_inv
  obtain ⟨hlo, _⟩ := (h.ev h3).int_inv
  have hbox := h.heap b _ hb
  obtain ⟨hsh, g', cs, hg', _, _, hw, hsz, hrep⟩ := hbox
  rw [hg] at hg'
  cases hg'
  simp only [zk] at hx
  have hu := kind_arr' (hT _ _ h1) k1
  have hes : C.P.underlying el = some (.int .u8) := zcu (hT _ _ h6) k4
  have hss : C.P.underlying s = some (.slice el) := z2m (hT _ _ h4) k2
  have hds : C.P.underlying d = some .string := z2x (hT _ _ h5) k3
  have hls : tl.sh = .leaf := (zk0 (hT _ _ h6) k4)
  have hsize : ∀ w : World, (sizeOf el).run C.P w = .ok 1 w := fun w => by
    rw [(hT _ _ h6).size, hls]; rfl
  have r1 : (execOp a.eval o1).run C.P w = .ok (.value (.slice (some (if n = p.toNat then ⟨g, 0, none⟩ else (⟨g, 0, none⟩ : Addr).add (p.toNat * 1))) (n - p.toNat) (n - p.toNat))) w := by
    simp only [execOp, q1]
    refine z1j ?_
    simp only [Instr.sliceAt, Sem.run_bind, run_underlying hu, Result.andThen_ok, hx, Instr.sureAddr, Sem.run_pure, Option.map_none, Option.map_some, hlo,
      z8m (isSlice := false) (lo := some (.int kk p)) (hi := none) (l := p) (h := (n : Int)) (.inr ⟨kk, rfl⟩) (.inl ⟨rfl, rfl⟩) b0 b1 (Int.le_refl _), hsize, Int.toNat_natCast]
  have hoff : (if n = p.toNat then (⟨g, 0, none⟩ : Addr) else (⟨g, 0, none⟩ : Addr).add (p.toNat * 1)) = ⟨g, if n = p.toNat then 0 else p.toNat, none⟩ := by
    split
    . rfl
    . rw [z4d]; simp
  rw [hoff] at r1
  unfold Oper.wp
  rw [r1]
  have hR1 : Rel C W0 F0 { st with env := put st.env d1 .any } (a.put (some d1) (.slice (some ⟨g, if n = p.toNat then 0 else p.toNat, none⟩) (n - p.toNat) (n - p.toNat))) w F φ := h.putV l1 (.stat (.any _ rfl))
  rw [Oper.upon_value, q2]
  simp only [Shape.size, Nat.mul_one] at hsz
  have hcell : ∀ i, i < n - p.toNat -> ∃ k, f (p.toNat + i) = .int .u8 k /\ w.cell? ⟨g, p.toNat + i, none⟩ = some (.int .u8 k) := fun i hi => by
    obtain ⟨k, hk⟩ := znd (hu8 i hi)
    refine ⟨k, hk, ?_⟩
    have hr := hrep (p.toNat + i) (by simp only [Shape.size, Nat.mul_one]; omega)
    simp only [z6, Shape.size, Nat.div_one, hk, z10, AV.isOne] at hr
    have hv := hr.strip (.st (.refl _))
    rw [z4j hw (by omega), hv.int_inv.1]
  have hv1 : (a.put (some d1) (.slice (some ⟨g, if n = p.toNat then 0 else p.toNat, none⟩) (n - p.toNat) (n - p.toNat))).eval (.tmp d1) = .slice (some ⟨g, if n = p.toNat then 0 else p.toNat, none⟩) (n - p.toNat) (n - p.toNat) := by
    simp only [Act.put, Act.eval, Array.getD_eq_getD_getElem?]
    rw [Array.getElem?_setIfInBounds_self_of_lt (by rw [h.tsz]; exact l1)]
    rfl
  have r2 : (execOp (a.put (some d1) (.slice (some ⟨g, if n = p.toNat then 0 else p.toNat, none⟩) (n - p.toNat) (n - p.toNat))).eval o2).run C.P w = .ok (.value (.string ⟨(zd8 f p.toNat (n - p.toNat)).toArray⟩)) w := by
    simp only [execOp, q4]
    refine z1j ?_
    rw [hv1]
    have := run_convert_bytes_arg (P := C.P) w s el hss hes g (if n = p.toNat then 0 else p.toNat) (n - p.toNat) (n - p.toNat) ((List.range (n - p.toNat)).map fun i => match f (p.toNat + i) with | .int _ k => k | _ => 0) (by simp) (fun i hi => by
      obtain ⟨k, hk, hc⟩ := hcell i hi
      rw [if_neg (by omega), hc]
      simp [hi, hk]) d hds
    rw [this]
    congr 2
    simp only [strOfNums, zd8, List.map_map]
    congr 2
    refine List.map_congr_left fun i hi => ?_
    simp only [List.mem_range] at hi
    obtain ⟨k, hk, _⟩ := hcell i hi
    simp only [Function.comp, hk, u8Of]
  rw [r2]
  rw [Oper.upon_value, q5]
  exact hK _ _ _ _ (hR1.putV l2 (.stat (by have := RepS.str (w := w) (F := F) ⟨(zd8 f p.toNat (n - p.toNat)).toArray⟩; simpa using this)))
theorem Rel.putO (h : Rel C W0 F0 st a w F φ) (d : Option Nat) (v : Value) : Rel C W0 F0 { st with env := delO d st.env } (a.put d v) w F φ := by
  cases d with
  | none => exact h
  | some d => exact h.putU d v
theorem zne {ps : List Prop} {K : Act -> World -> Prop} (h : Rel C W0 F0 st a w F φ) (hs : zrm C st o1 o2 = some (st', ps)) (hps : ∀ p ∈ ps, p)
    (hK : ∀ a' w' F' φ', Rel C W0 F0 st' a' w' F' φ' -> K a' w') :
    o1.guard = none /\ o2.guard = none /\ o1.wp C.P a w (fun a1 w1 => o2.wp C.P a1 w1 K Q) Q := by
  unfold zrm at hs
  split at hs
  case h_2 => cases hs
  rename_i c1 d1 c2 q1 q2 q3 q4 q5
  split at hs
  case h_2 => cases hs
  rename_i fx1 fx2 d1' k1 k2 k3
  split at hs
  case h_2 => cases hs
  rename_i f args g h1 h2
  split at hs
  case h_2 => cases hs
  rename_i hc
  cases hs
  simp only [Bool.and_eq_true] at hc
  obtain ⟨⟨hst, c1'⟩, hd⟩ := hc
  have hd := Nat.le_of_ble_eq_true hd
  have c1' := Nat.eq_of_beq_eq_true c1'
  subst c1'
  refine ⟨q3, q5, ?_⟩
  obtain ⟨hok, hok2, hcall⟩ : zp3 C.P C.G f args g := hps _ (by simp)
  obtain ⟨n1, n2⟩ := z42 h2 (fun x _ u hu => h.ev hu)
  have hfv : ∃ cv : Array Value, a.eval fx1 = .func (.func f) #[] cv /\ cv.size = 0 := by
    have := h.ev h1
    generalize a.eval fx1 = v at this
    cases this with
    | stat hv => cases hv with | clo _ cv _ hs hc => exact ⟨cv, rfl, hs⟩
    | clo _ cv _ hs hc => exact ⟨cv, rfl, hs⟩
  obtain ⟨cv, hfv, hcv⟩ := hfv
  obtain rfl : cv = #[] := Array.eq_empty_of_size_eq_zero hcv
  have hrun : (execOp a.eval o1).run C.P w = .ok (.enter f (c1.args.map a.eval)) w := by
    obtain ⟨callee, args', tys⟩ := c1
    cases k1
    simp only [execOp, q1, resolve, Sem.run_bind, hfv]
    simp only [Deferred.ofValue, Sem.run_pure, Result.andThen_ok, invoke, Array.empty_append, Array.append_empty]
    exact hok _ w
  unfold Oper.wp
  rw [hrun]
  show Calls C.P f _ w _
  refine (hcall w F _ h.ro h.glob (by simpa using n1) fun j hj => ?_).mono ?_
  . have := n2 j hj
    have h5 : Rep w F φ ((c1.args.map a.eval).getD j undef) (args.getD j .any) := by simpa [Array.getD_eq_getD_getElem?, List.getD_eq_getElem?_getD] using this
    exact h5.toS (z1g hst j)
  . rintro en w1 ⟨v, rfl, hc2⟩
    show o2.wp C.P (a.put o1.dst v) w1 K Q
    rw [q2]
    have hd1 : (a.put (some d1) v).eval (.tmp d1) = v := by
      have hsz : d1 < a.tmps.size := by rw [h.tsz]; exact hd
      simp [Act.eval, Act.put, Array.getD_eq_getD_getElem?, hsz]
    have hargs : c2.args.map (a.put (some d1) v).eval = #[v] := by
      have : c2.args = #[.tmp d1] := by apply Array.ext'; simpa using k3
      rw [this]
      simp [hd1]
    have hrun2 : ∀ b : Act, (execOp b.eval o2).run C.P w1 = .ok (.enter g (c2.args.map b.eval)) w1 := by
      intro b
      obtain ⟨callee, args', tys⟩ := c2
      cases k2
      simp only [execOp, q4, resolve, Sem.run_bind, Act.eval]
      simp only [Deferred.ofValue, Sem.run_pure, Result.andThen_ok, invoke, Array.empty_append, Array.append_empty]
      exact hok2 _ w1
    unfold Oper.wp
    rw [hrun2, hargs]
    show Calls C.P g _ w1 _
    refine hc2.mono ?_
    rintro en2 w2 ⟨v2, rfl, hb⟩
    have hR := h.grown hb (fun _ hk => hk) (fun _ hk => .inl hk) fun k hk => Nat.lt_of_lt_of_le (h.ro k hk) hb.size
    exact hK _ _ _ _ ((hR.putU d1 v).putO o2.dst v2)
theorem zj1 {ps : List Prop} {K : Act -> World -> Prop} (h : Rel C W0 F0 st a w F φ) (hT : z12 C) (hs : zg9 C st o1 o2 = some (st', ps)) (hps : ∀ p ∈ ps, p)
    (hK : ∀ a' w' F' φ', Rel C W0 F0 st' a' w' F' φ' -> K a' w') :
    o1.guard = none /\ o2.guard = none /\ o1.wp C.P a w (fun a1 w1 => o2.wp C.P a1 w1 K Q) Q := by
  unfold zg9 at hs
  split at hs
  . rename_i r hr
    cases hs
    exact zga h hT hr hps hK
  . exact zne h hs hps hK
theorem z4r {ops : Array Oper} {orc : Nat -> FuncId -> List AV -> Option AV} : ∀ (rest : List Oper) (i : Nat) (st st' : St) (ps : List Prop) (a : Act) (w : World) (F : Nat -> Prop) (φ : Nat -> Place), z12 C -> CCOK C CC -> (∀ j, rest[j]? = ops[i + j]?) ->
    z67 C CC orc ops.toList rest i st = some (st', ps) -> (∀ p ∈ ps, p) -> Rel C W0 F0 st a w F φ -> (∀ a' w' F' φ', Rel C W0 F0 st' a' w' F' φ' -> Q .normal a' w') -> wpOps C.P ops Q (List.range' i rest.length) a w
  | [], i, st, st', ps, a, w, F, φ, _, _, _, h, _, hR, hQ => by
    simp only [z67, Option.some.injEq, Prod.mk.injEq] at h
    obtain ⟨rfl, _⟩ := h
    exact hQ _ _ _ _ hR
  | [o], i, st, st', ps, a, w, F, φ, hT, hCC, hj, h, hps, hR, hQ => by
    simp only [z67] at h
    have ho : ops[i]? = some o := by simpa using (hj 0).symm
    simp only [List.length_cons, List.length_nil, List.range'_succ, List.range'_zero, wpOps, ho]
    split at h
    . rename_i st1 ps1 h1
      cases h
      have hstep := z3j (Q := Q) (ops := ops) (K := fun a w => Q .normal a w) hR hT hCC h1 (fun p hp => hps p (by simp [hp])) hQ
      split
      . rename_i hw; rw [if_pos hw] at hstep; exact .inl hstep
      . rename_i hw; rw [if_neg hw] at hstep; exact hstep
    . split at h
      case h_2 => cases h
      rename_i st1 ps1 h1
      cases h
      have hstep := zda (Q := Q) (ops := ops) (K := fun a w => Q .normal a w) hR hT hCC h1 (fun p hp => hps p (by simp [hp])) hQ
      split
      . rename_i hw; rw [if_pos hw] at hstep; exact .inl hstep
      . rename_i hw; rw [if_neg hw] at hstep; exact hstep
  | o :: o2 :: rest2, i, st, st', ps, a, w, F, φ, hT, hCC, hj, h, hps, hR, hQ => by
    simp only [z67] at h
    have ho : ops[i]? = some o := by simpa using (hj 0).symm
    have e : List.range' i (o :: o2 :: rest2).length = i :: List.range' (i + 1) (o2 :: rest2).length := by rw [List.length_cons, List.range'_succ]
    split at h
    . rename_i st1 ps1 h1
      split at h
      case h_2 => cases h
      rename_i st2 ps2 h2
      cases h
      rw [e, wpOps, ho]
      have hstep := z3j (Q := Q) (ops := ops) (K := wpOps C.P ops Q (List.range' (i + 1) (o2 :: rest2).length)) hR hT hCC h1 (fun p hp => hps p (by simp [hp])) fun a' w' F' φ' hR' =>
        z4r (o2 :: rest2) (i + 1) st1 st' ps2 a' w' F' φ' hT hCC (fun j => by rw [show i + 1 + j = i + (j + 1) from by omega, <- hj (j + 1)]; simp) h2 (fun p hp => hps p (by simp [hp])) hR' hQ
      show if _ then _ else _
      split
      . rename_i hw; rw [if_pos hw] at hstep; exact .inl hstep
      . rename_i hw; rw [if_neg hw] at hstep; exact hstep
    . split at h
      . rename_i st1 ps1 h1
        split at h
        case h_2 => cases h
        rename_i st2 ps2 h2
        cases h
        rw [e, wpOps, ho]
        have hstep := zda (Q := Q) (ops := ops) (K := wpOps C.P ops Q (List.range' (i + 1) (o2 :: rest2).length)) hR hT hCC h1 (fun p hp => hps p (by simp [hp])) fun a' w' F' φ' hR' =>
          z4r (o2 :: rest2) (i + 1) st1 st' ps2 a' w' F' φ' hT hCC (fun j => by rw [show i + 1 + j = i + (j + 1) from by omega, <- hj (j + 1)]; simp) h2 (fun p hp => hps p (by simp [hp])) hR' hQ
        show if _ then _ else _
        split
        . rename_i hw; rw [if_pos hw] at hstep; exact .inl hstep
        . rename_i hw; rw [if_neg hw] at hstep; exact hstep
      . split at h
        case h_2 => cases h
        rename_i st1 ps1 h1
        split at h
        case h_2 => cases h
        rename_i st2 ps2 h2
        cases h
        have ho2 : ops[i + 1]? = some o2 := by simpa using (hj 1).symm
        simp only [List.length_cons, List.range'_succ, wpOps, ho, ho2]
        obtain ⟨e1, e2, e3⟩ := zj1 (Q := Q) (K := wpOps C.P ops Q (List.range' (i + 1 + 1) rest2.length)) hR hT h1 (fun p hp => hps p (by simp [hp])) fun a' w' F' φ' hR' =>
          z4r rest2 (i + 2) st1 st' ps2 a' w' F' φ' hT hCC (fun j => by rw [show i + 2 + j = i + (j + 2) from by omega, <- hj (j + 2)]; simp) h2 (fun p hp => hps p (by simp [hp])) hR' hQ
        have w1 : ∀ m, Region.wanted o m = true := fun m => by simp [Region.wanted, e1]
        have w2 : ∀ m, Region.wanted o2 m = true := fun m => by simp [Region.wanted, e2]
        simp only [w1, w2, if_true]
        exact .inl (Oper.wp_mono (fun a1 w1 h1 => .inl h1) e3)
end
end Go.AV
namespace Go.AV
open Go.RowKit
def zk1 (C : Cfg) (st : St) (o1 o2 : Oper) : Option (Value × St) :=
  match o1.op, o1.dst, o1.guard, o2.op, o2.guard with
  | .makeInterface t x, some d, none, .panic (.tmp d'), none => match tyOf C t, ev C st x with
    | some te, some (.mc (.agg [.leaf, .leaf]) (.agg [.int k a, .int k' b])) => match te.kind, Nat.beq d d' && Nat.blt d C.ntmps with
      | .struct _, true => some (.iface t (.agg #[.int k a, .int k' b]), { st with env := del st.env d })
      | _, _ => none
    | _, _ => none
  | _, _, _, _, _ => none
def panW (C : Cfg) (st : St) (f : FuncId) (args : List AV) (ns : List Nat) : Option (Bool × Value × St × Prop) :=
  match z6t st.heap ns with
  | some hs => match C.pan f (AV.subL (idxN ns) args) (z2o (idxN ns) hs) with
    | some (p, v) => match AV.only0L (fun b => inN b ns) args && z5u args && z3u ns && z7m (fun b => inN b ns) hs with
      | true => some (p, v, ⟨z6u ns st.env, z1c ns (z3o ns st.heap)⟩, C.CCP f (AV.subL (idxN ns) args) (z2o (idxN ns) hs) p v)
      | false => none
    | none => none
  | none => none
def zrn (C : Cfg) (st : St) (o : Oper) : Option (Bool × Value × St × Prop) :=
  match o.op, o.guard with
  | .call c, none => match c.callee with
    | .value fx => match ev C st fx, z2e (ev C st) c.args.toList with
      | some (.clo f []), some args => panW C st f args (zg4 st.heap 64 (AV.boxesL args) [])
      | _, _ => none
    | _ => none
  | _, _ => none
def zep : List Prop -> Prop -> Prop
  | [], Q => Q
  | p :: l, Q => p /\ zep l Q
theorem z8u : ∀ {l : List Prop} {Q : Prop}, zep l Q -> (∀ p ∈ l, p) /\ Q
  | [], _, h => ⟨fun p hp => by simp at hp, h⟩
  | x :: l, Q, h => by
    obtain ⟨h1, h2⟩ := z8u h.2
    exact ⟨fun p hp => by rcases List.mem_cons.1 hp with rfl | hp; exact h.1; exact h1 p hp, h2⟩
def z4h (C : Cfg) (CC : FuncId -> List AV -> AV -> Prop) (orc : Nat -> FuncId -> List AV -> Option AV) (all : List Oper) : List Oper -> Nat -> St -> (Exit -> St -> Prop) -> Prop
  | [], _, st, Q => Q .normal st
  | o :: rest, i, st, Q => match zrn C st o with
    | some (p, v, st1, ob) => (p = true -> ob /\ Q (.panic [⟨v, false, false⟩]) st1) /\ (p = false -> match z1x C CC (orc i) all st o with
      | some (st', ps) => zep ps (z4h C CC orc all rest (i + 1) st' Q)
      | none => match zj0 C CC (orc i) all st o with
        | some (st', ps) => zep ps (z4h C CC orc all rest (i + 1) st' Q)
        | none => False)
    | none => match z1x C CC (orc i) all st o with
      | some (st', ps) => zep ps (z4h C CC orc all rest (i + 1) st' Q)
      | none => match zj0 C CC (orc i) all st o with
        | some (st', ps) => zep ps (z4h C CC orc all rest (i + 1) st' Q)
        | none => match rest with
          | o2 :: _ => match zk1 C st o o2 with
            | some (v, st1) => Q (.panic [⟨v, false, false⟩]) st1
            | none => False
          | [] => False
def zp4 (C : Cfg) : List Oper -> Bool
  | [] => false
  | o :: l => (match o.op with
    | .call c => match c.callee with
      | .value (.func f) => C.mayPan f
      | _ => false
    | _ => false) || zp4 C l
section
variable {C : Cfg} {W0 : Entry} {F0 : Nat -> Prop} {st st' : St} {a : Act} {w : World} {F : Nat -> Prop} {φ : Nat -> Place} {CC : FuncId -> List AV -> AV -> Prop} {o o2 : Oper}
  {Q : Exit -> Act -> World -> Prop}
theorem zk2 {p : Bool} {v : Value} {st1 : St} {ob : Prop} {K : Act -> World -> Prop} (h : Rel C W0 F0 st a w F φ) (hCCP : ∀ f as hs p v, C.CCP f as hs p v -> p = true -> z1d C.P f /\ RPan C.P C.G f as hs v) (hs : zrn C st o = some (p, v, st1, ob)) (hp : p = true) (hob : ob)
    (hQ : ∀ w' F' φ', Rel C W0 F0 st1 a w' F' φ' -> Q (.panic [⟨v, false, false⟩]) a w') : o.guard = none /\ o.wp C.P a w K Q := by
  unfold zrn at hs
  split at hs
  case h_2 => cases hs
  rename_i c ho hg
  split at hs
  case h_2 => cases hs
  rename_i fx hcal
  split at hs
  case h_2 => cases hs
  rename_i f args h1 h2
  generalize zg4 st.heap 64 (AV.boxesL args) [] = ns at hs
  unfold panW at hs
  split at hs
  case h_2 => cases hs
  rename_i hs0 hcon
  split at hs
  case h_2 => cases hs
  rename_i p' v' _
  split at hs
  case h_2 => cases hs
  rename_i hc
  cases hs
  refine ⟨hg, ?_⟩
  simp only [Bool.and_eq_true] at hc
  obtain ⟨⟨⟨c1, c2⟩, c3⟩, c4⟩ := hc
  obtain ⟨hok, hcall⟩ := hCCP _ _ _ _ _ hob hp
  have hns := z65 hcon
  obtain ⟨n1, n2⟩ := z42 h2 (fun x _ u hu => h.ev hu)
  have hfv := h.evF h1
  have hrun : (execOp a.eval o).run C.P w = .ok (.enter f (c.args.map a.eval)) w := by
    obtain ⟨callee, args', tys⟩ := c
    cases hcal
    simp only [execOp, ho, resolve, Sem.run_bind, hfv]
    simp only [Deferred.ofValue, Sem.run_pure, Result.andThen_ok, invoke, Array.empty_append, Array.append_empty]
    exact hok _ w
  unfold Oper.wp
  rw [hrun]
  show Calls C.P f _ w _
  have hφ : ∀ b, inN b ns = true -> (fun i => φ (ns.getD i 0)) (idxN ns b) = φ b := fun b hb => by
    show φ (ns.getD (idxN ns b) 0) = φ b
    rw [List.getD_eq_getElem?_getD, z84 hb, Option.getD_some]
  have hat : ∀ i : Nat, i < ns.length -> ∃ b c, ns[i]? = some b /\ hs0[i]? = some c /\ get st.heap b = some c := fun i hi => by
    obtain ⟨c, k1, k2⟩ := hns.2 i _ (List.getElem?_eq_getElem hi)
    exact ⟨_, c, List.getElem?_eq_getElem hi, k1, k2⟩
  refine (hcall w F (fun i => φ (ns.getD i 0)) _ h.ro h.glob (by rw [z3w]; simpa using n1) (fun j hj => ?_) (fun i c hi => ?_) (fun i i' g hi hi' e e' => ?_)).mono ?_
  . rw [z3w] at hj
    have := n2 j hj
    have h5 : Rep w F φ ((c.args.map a.eval).getD j undef) (args.getD j .any) := by simpa [Array.getD_eq_getD_getElem?, List.getD_eq_getElem?_getD] using this
    rw [z4p _ _ _ hj]
    exact zah (φ2 := fun i => φ (ns.getD i 0)) (n := idxN ns) (m := fun b => inN b ns) hφ (z55 (z36 c2 hj)) (z3i c1 hj) h5
  . obtain ⟨d, hd, rfl⟩ := z66 _ hi
    have hi' : i < ns.length := by rw [hns.1]; exact (List.getElem?_eq_some_iff.1 hd).1
    obtain ⟨b, c', k1, k2, k3⟩ := hat i hi'
    rw [hd] at k2
    cases k2
    have := zcy (φ2 := fun i => φ (ns.getD i 0)) (n := idxN ns) (m := fun b => inN b ns) hφ (i := b) (z2y.2 (List.mem_of_getElem? k1)) (z5b c4 hd) ((h.heap b d k3).base (base' := fun _ => True) fun _ _ => trivial)
    rwa [z64 c3 k1] at this
  . rw [z38, <- hns.1] at hi hi'
    obtain ⟨b, d, k1, k2, k3⟩ := hat i hi
    obtain ⟨b', d', k1', k2', k3'⟩ := hat i' hi'
    simp only [List.getD_eq_getElem?_getD, k1, k1', Option.getD_some] at e e'
    have := h.inj b b' d d' g k3 k3' e e'
    subst this
    rw [<- z64 c3 k1, <- z64 c3 k1']
  . rintro en w' ⟨F', rfl, hk, f1, f2, f3⟩
    rw [z38, <- hns.1] at hk f2
    have hg0 : z5r ns hs0 [] = ns := by cases ns <;> cases hs0 <;> rfl
    have := h.lentBack (os := []) (φ' := fun i => φ (ns.getD i 0)) c3 hns hk f1 f2 f3 fun _ _ _ _ _ => rfl
    rw [hg0] at this
    exact hQ w' F' _ this
theorem znf {v : Value} {k k' : IntKind} {x y : Int} (h : Rep w F φ v (.mc (.agg [.leaf, .leaf]) (.agg [.int k x, .int k' y]))) : v = .agg #[.int k x, .int k' y] := by
  obtain ⟨cs, rfl, hs, hr⟩ := h.mc_inv
  have h2 : cs.size = 2 := hs
  have e0 := (show Rep w F φ (cs.getD 0 undef) (.int k x) from hr 0 (by decide)).int_inv.1
  have e1 := (show Rep w F φ (cs.getD 1 undef) (.int k' y) from hr 1 (by decide)).int_inv.1
  congr 1
  apply Array.ext (by simpa using h2)
  intro i hi1 hi2
  match i with
  | 0 => simpa [Array.getD_eq_getD_getElem?, hi1] using e0
  | 1 => simpa [Array.getD_eq_getD_getElem?, hi1] using e1
  | i + 2 => simp at hi2; omega
theorem zgb {v : Value} {st1 : St} (h : Rel C W0 F0 st a w F φ) (hT : z12 C) (hs : zk1 C st o o2 = some (v, st1)) :
    o.guard = none /\ o2.guard = none /\ ∀ (K : Act -> World -> Prop), (∀ a', Rel C W0 F0 st1 a' w F φ -> Q (.panic [⟨v, false, false⟩]) a' w) -> o.wp C.P a w (fun a1 w1 => o2.wp C.P a1 w1 K Q) Q := by
  unfold zk1 at hs
  split at hs
  case h_2 => cases hs
  rename_i t x d d' h1 h2 h3 h4 h5
  split at hs
  case h_2 => cases hs
  rename_i te k a0 k' b0 h6 h7
  split at hs
  case h_2 => cases hs
  rename_i fs h8 hc
  cases hs
  simp only [Bool.and_eq_true] at hc
  have e := Nat.eq_of_beq_eq_true hc.1
  subst e
  refine ⟨h3, h5, fun K hQ => ?_⟩
  have hx := znf (h.ev h7)
  obtain ⟨dd, i, z, hu, _, _, _, _, _, hki, _⟩ := (hT _ _ h6).info
  rw [h8] at hki
  obtain ⟨fields, ss, rfl, _⟩ := hki
  have r1 : (execOp a.eval o).run C.P w = .ok (.value (.iface t (.agg #[.int k a0, .int k' b0]))) w := by
    simp only [execOp, h1]
    refine z1j ?_
    rw [hx]
    simp only [Instr.makeInterface, Sem.run_bind, run_underlying hu, Result.andThen_ok]
    rfl
  unfold Oper.wp
  rw [r1, Oper.upon_value, h2]
  have hv1 : (a.put (some d) (.iface t (.agg #[.int k a0, .int k' b0]))).eval (.tmp d) = .iface t (.agg #[.int k a0, .int k' b0]) := by
    simp only [Act.put, Act.eval, Array.getD_eq_getD_getElem?]
    rw [Array.getElem?_setIfInBounds_self_of_lt (by rw [h.tsz]; exact Nat.le_of_ble_eq_true hc.2)]
    rfl
  have r2 : (execOp (a.put (some d) (.iface t (.agg #[.int k a0, .int k' b0]))).eval o2).run C.P w = .halt (.panic (.iface t (.agg #[.int k a0, .int k' b0]))) w := by
    simp only [execOp, h4]
    rw [hv1]
    rfl
  rw [r2, Oper.upon_panic]
  exact hQ _ (h.putU d _)
theorem z5d {ops : Array Oper} {orc : FuncId -> List AV -> Option AV} {K : Act -> World -> Prop} (h : Rel C W0 F0 st a w F φ) (hT : z12 C) (hCC : CCOK C CC) {N : St -> Prop}
    (hs : match z1x C CC orc ops.toList st o with | some (st', ps) => zep ps (N st') | none => match zj0 C CC orc ops.toList st o with | some (st', ps) => zep ps (N st') | none => False)
    (hK : ∀ st' a' w' F' φ', N st' -> Rel C W0 F0 st' a' w' F' φ' -> K a' w') : if Region.wanted o (yielded ops a.tmps) then o.wp C.P a w K Q else K (a.put o.dst undef) w := by
  split at hs
  . rename_i st' ps h1
    obtain ⟨h2, h3⟩ := z8u hs
    exact z3j h hT hCC h1 h2 fun a' w' F' φ' hR => hK st' a' w' F' φ' h3 hR
  . split at hs
    case h_2 => exact hs.elim
    rename_i st' ps h1
    obtain ⟨h2, h3⟩ := z8u hs
    exact zda (Q := Q) h hT hCC h1 h2 fun a' w' F' φ' hR => hK st' a' w' F' φ' h3 hR
theorem z68 {ops : Array Oper} {orc : Nat -> FuncId -> List AV -> Option AV} {QS : Exit -> St -> Prop} : ∀ (rest : List Oper) (i : Nat) (st : St) (a : Act) (w : World) (F : Nat -> Prop) (φ : Nat -> Place), z12 C -> CCOK C CC -> (∀ j, rest[j]? = ops[i + j]?) ->
    z4h C CC orc ops.toList rest i st QS -> Rel C W0 F0 st a w F φ -> (∀ e st' a' w' F' φ', QS e st' -> Rel C W0 F0 st' a' w' F' φ' -> Q e a' w') -> wpOps C.P ops Q (List.range' i rest.length) a w
  | [], i, st, a, w, F, φ, _, _, _, h, hR, hQ => hQ _ _ _ _ _ _ h hR
  | o :: rest, i, st, a, w, F, φ, hT, hCC, hj, h, hR, hQ => by
    have ho : ops[i]? = some o := by simpa using (hj 0).symm
    simp only [List.length_cons, List.range'_succ, wpOps, ho]
    have go : ∀ st' a' w' F' φ', z4h C CC orc ops.toList rest (i + 1) st' QS -> Rel C W0 F0 st' a' w' F' φ' -> wpOps C.P ops Q (List.range' (i + 1) rest.length) a' w' := fun st' a' w' F' φ' h' hR' =>
      z68 rest (i + 1) st' a' w' F' φ' hT hCC (fun j => by rw [show i + 1 + j = i + (j + 1) from by omega, <- hj (j + 1)]; simp) h' hR' hQ
    simp only [z4h] at h
    split at h
    . rename_i p v st1 ob hp
      obtain ⟨h1, h2⟩ := h
      cases hpv : p with
      | true =>
        obtain ⟨h3, h4⟩ := h1 hpv
        obtain ⟨e1, e2⟩ := zk2 (Q := Q) (K := wpOps C.P ops Q (List.range' (i + 1) rest.length)) hR hCC.2.2.2 hp hpv h3 fun w' F' φ' hR' => hQ _ _ _ _ _ _ h4 hR'
        rw [if_pos (by simp [Region.wanted, e1])]
        exact .inl e2
      | false =>
        have hstep := z5d (Q := Q) (ops := ops) (K := wpOps C.P ops Q (List.range' (i + 1) rest.length)) hR hT hCC (N := fun st' => z4h C CC orc ops.toList rest (i + 1) st' QS) (h2 hpv) go
        split
        . rename_i hw; rw [if_pos hw] at hstep; exact .inl hstep
        . rename_i hw; rw [if_neg hw] at hstep; exact hstep
    . split at h
      . rename_i st' ps hst
        have hstep := z5d (Q := Q) (ops := ops) (K := wpOps C.P ops Q (List.range' (i + 1) rest.length)) (orc := orc i) (o := o) hR hT hCC (N := fun st' => z4h C CC orc ops.toList rest (i + 1) st' QS) (by rw [hst]; exact h) go
        split
        . rename_i hw; rw [if_pos hw] at hstep; exact .inl hstep
        . rename_i hw; rw [if_neg hw] at hstep; exact hstep
      . rename_i hst
        split at h
        . rename_i st' ps hsp
          have hstep := z5d (Q := Q) (ops := ops) (K := wpOps C.P ops Q (List.range' (i + 1) rest.length)) (orc := orc i) (o := o) hR hT hCC (N := fun st' => z4h C CC orc ops.toList rest (i + 1) st' QS) (by rw [hst, hsp]; exact h) go
          split
          . rename_i hw; rw [if_pos hw] at hstep; exact .inl hstep
          . rename_i hw; rw [if_neg hw] at hstep; exact hstep
        . split at h
          . rename_i o2 rest2
            split at h
            case h_2 => exact h.elim
            rename_i v st1 hth
            obtain ⟨e1, e2, e3⟩ := zgb (Q := Q) hR hT hth
            have ho2 : ops[i + 1]? = some o2 := by simpa using (hj 1).symm
            have w1 : ∀ m, Region.wanted o m = true := fun m => by simp [Region.wanted, e1]
            have w2 : ∀ m, Region.wanted o2 m = true := fun m => by simp [Region.wanted, e2]
            rw [if_pos (w1 _)]
            refine .inl ?_
            have := e3 (wpOps C.P ops Q (List.range' (i + 1 + 1) rest2.length)) fun a' hR' => hQ _ _ _ _ _ _ h hR'
            refine Oper.wp_mono (fun a1 w1' h1 => ?_) this
            simp only [List.length_cons, List.range'_succ, wpOps, ho2]
            rw [if_pos (w2 _)]
            exact .inl h1
          . exact h.elim
end
end Go.AV
