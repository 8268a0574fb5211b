/- A region whose order is open: where what conflicts is ordered, every order comes to what the text's own order comes to. -/
import Derived.Test.YtmlgkljbhidlhaaAvLocal
import Derived.Orders
namespace Go.AV
open Go.RowKit

/- Lists without shadowed entries. -/
def dedup {α : Type} : List (Nat × α) → List (Nat × α)
  | [] => []
  | (k, v) :: l => (k, v) :: del (dedup l) k

theorem mem_del {α : Type} : ∀ {l : List (Nat × α)} {s : Nat} {p : Nat × α}, p ∈ del l s → p ∈ l ∧ p.1 ≠ s
  | [], _, _, h => by simp [del] at h
  | (k, v) :: l, s, p, h => by
    simp only [del] at h
    split at h
    · obtain ⟨h1, h2⟩ := mem_del h; exact ⟨by simp [h1], h2⟩
    · rename_i hk
      rcases List.mem_cons.1 h with rfl | h
      · exact ⟨by simp, fun e => by subst e; simp at hk⟩
      · obtain ⟨h1, h2⟩ := mem_del h; exact ⟨by simp [h1], h2⟩

theorem get_dedup {α : Type} : ∀ (l : List (Nat × α)) (s : Nat), get (dedup l) s = get l s
  | [], _ => rfl
  | (k, v) :: l, s => by
    simp only [dedup, get]
    split
    · rfl
    · rename_i hk
      rw [get_del_other _ _ _ (fun e => by subst e; simp at hk), get_dedup l s]

theorem dedup_mem {α : Type} : ∀ {l : List (Nat × α)} {s : Nat} {v : α}, (s, v) ∈ dedup l → get l s = some v
  | [], _, _, h => by simp [dedup] at h
  | (k, u) :: l, s, v, h => by
    simp only [dedup] at h
    rcases List.mem_cons.1 h with h | h
    · cases h; simp [get]
    · obtain ⟨h1, h2⟩ := mem_del h
      have : Nat.beq k s = false := by
        cases e : Nat.beq k s with
        | false => rfl
        | true => exact absurd (Nat.eq_of_beq_eq_true e).symm h2
      simp only [get, this]
      exact dedup_mem h1

theorem namesEnv_of {b : Nat} : ∀ {l : List (Nat × AV)}, (∀ p ∈ l, p.2.names b = false) → namesEnv b l = false
  | [], _ => rfl
  | (k, x) :: l, h => by simp only [namesEnv, Bool.or_eq_false_iff]; exact ⟨h (k, x) (by simp), namesEnv_of fun p hp => h p (by simp [hp])⟩
theorem namesHeap_of {b : Nat} : ∀ {l : List (Nat × BoxC)}, (∀ p ∈ l, p.2.names b = false ∧ p.1 ≠ b) → namesHeap b l = false
  | [], _ => rfl
  | (k, x) :: l, h => by
    simp only [namesHeap, Bool.or_eq_false_iff]
    obtain ⟨h1, h2⟩ := h (k, x) (by simp)
    refine ⟨⟨?_, h1⟩, namesHeap_of fun p hp => h p (by simp [hp])⟩
    cases e : Nat.beq k b with
    | false => rfl
    | true => exact absurd (Nat.eq_of_beq_eq_true e) h2

/- Slots and boxes that an operation reads. -/
def usesTmp (s : Nat) : List Operand → Bool
  | [] => false
  | .tmp t :: l => Nat.beq t s || usesTmp s l
  | _ :: l => usesTmp s l
def rdSlot (all : List Oper) (o : Oper) (s : Nat) : Bool :=
  usesTmp s o.op.operands.toList || (match o.guard with
    | none => false
    | some g => match all[g.1]? with
      | some o' => match o'.dst with | some d => Nat.beq d s | none => false
      | none => false)
def rdBoxL (C : Cfg) (st : St) (b : Nat) : List Operand → Bool
  | [] => false
  | x :: l => (match ev C st x with | some v => v.names b | none => false) || rdBoxL C st b l
def rdBox (C : Cfg) (st : St) (o : Oper) (b : Nat) : Bool := rdBoxL C st b o.op.operands.toList

theorem usesTmp_mem {s : Nat} : ∀ {l : List Operand}, Operand.tmp s ∈ l → usesTmp s l = true
  | [], h => by cases h
  | x :: l, h => by
    rcases List.mem_cons.1 h with rfl | h2
    · simp [usesTmp]
    · have := usesTmp_mem h2
      cases x <;> simp [usesTmp, this]
theorem rdBoxL_mem {C : Cfg} {st : St} {b : Nat} : ∀ {l : List Operand} {x : Operand} {v : AV}, x ∈ l → ev C st x = some v → v.names b = true → rdBoxL C st b l = true
  | [], _, _, h, _, _ => by cases h
  | y :: l, x, v, h, he, hb => by
    simp only [rdBoxL, Bool.or_eq_true]
    rcases List.mem_cons.1 h with rfl | h
    · left; rw [he]; exact hb
    · right; exact rdBoxL_mem h he hb

section
variable {C : Cfg} {CC : FuncId → List AV → AV → Prop} {orc : FuncId → List AV → Option AV} {all : List Oper} {st st' st2 : St} {o : Oper} {ps : List Prop}

theorem names_strip1 {b : Nat} {x : AV} (h : (strip1 x).names b = true) : x.names b = true := by
  cases x <;> simp_all [strip1, AV.names]

/-- Two states alike in what an operation reads. -/
structure Alike2 (C : Cfg) (all : List Oper) (o : Oper) (st st2 : St) : Prop where
  slot : ∀ s, rdSlot all o s = true → get st.env s = get st2.env s
  box : ∀ b, rdBox C st o b = true → get st.heap b = get st2.heap b

theorem Alike2.ev (h : Alike2 C all o st st2) {x : Operand} (hx : x ∈ o.op.operands.toList) : AV.ev C st x = AV.ev C st2 x := by
  cases x with
  | tmp t => exact h.slot t (by simp only [rdSlot, Bool.or_eq_true]; exact .inl (usesTmp_mem hx))
  | _ => rfl
theorem Alike2.evS (h : Alike2 C all o st st2) {x : Operand} (hx : x ∈ o.op.operands.toList) : AV.evS C st x = AV.evS C st2 x := by
  unfold AV.evS; rw [h.ev hx]

theorem Alike2.obs (h : Alike2 C all o st st2) : ∀ {l : List Operand}, (∀ x ∈ l, x ∈ o.op.operands.toList) → operandObs C st l = operandObs C st2 l
  | [], _ => rfl
  | x :: l, hl => by
    simp only [operandObs]
    rw [h.ev (hl x (by simp)), h.obs fun y hy => hl y (by simp [hy])]

theorem absPlain_local (h : Alike2 C all o st st2) : absPlain C CC orc st o = absPlain C CC orc st2 o := by
  cases hop : o.op with
  | pick c x y =>
    have hc := h.evS (x := c) (by rw [hop]; simp [Op.operands])
    have hx := h.evS (x := x) (by rw [hop]; simp [Op.operands])
    have hy := h.evS (x := y) (by rw [hop]; simp [Op.operands])
    have hc' := h.ev (x := c) (by rw [hop]; simp [Op.operands])
    have hx' := h.ev (x := x) (by rw [hop]; simp [Op.operands])
    have hy' := h.ev (x := y) (by rw [hop]; simp [Op.operands])
    simp only [absPlain, hop, pickObs]
    rw [hc, hx, hy, hc', hx', hy']
  | _ =>
    have h1 := absOp_local (C := C) (st := st) (st2 := st2) (e := evS C st) (e2 := evS C st2) (dst := o.dst) (orc := orc) (CC := CC) (op := o.op) (fun x hx => h.evS hx) (fun x hx v hv b hb => by
      have hv2 : evS C st x = some v := by rw [h.evS hx]; exact hv
      unfold evS at hv2
      split at hv2
      · rename_i u hu
        cases hv2
        exact h.box b (rdBoxL_mem hx hu (names_strip1 hb))
      · cases hv2)
    have h2 := h.obs (l := o.op.operands.toList) fun x hx => hx
    rw [hop] at h1 h2
    simp only [absPlain, hop]
    rw [h1, h2]

/-- The facts that an operation leaves, slot by slot and box by box. -/
theorem absStep_frame (hno : growing C st o = false) (h : absStep C CC orc all st o = some (st', ps)) : (∀ s, o.dst ≠ some s → get st'.env s = get st.env s) ∧ (∀ b, b ∉ wrBox C st o → get st'.heap b = get st.heap b) := by
  have key : ∀ {r : Res} {st1 : St}, absPlain C CC orc st o = some r → applyEff st o.dst r.eff = some st1 → st1.env = st.env ∧ ∀ b, b ∉ wrBox C st o → get st1.heap b = get st.heap b := by
    intro r st1 hr hst
    have heff : (r.eff = .none ∧ wrBox C st o = []) ∨ (∃ c d, r.eff = .new c ∧ o.dst = some d ∧ wrBox C st o = [d]) ∨ (∃ b c, r.eff = .upd b c ∧ wrBox C st o = [b]) := by
      unfold absPlain at hr
      split at hr
      · rename_i hop
        repeat' split at hr
        all_goals first | (cases hr; done) | (cases hr; exact .inl ⟨rfl, by simp [wrBox, hop]⟩)
      · split at hr
        · rename_i r' hr'
          have he := absOp_eff hno hr'
          cases hr
          exact he
        · cases hr
    rcases heff with ⟨he, _⟩ | ⟨c, d, he, hd, hw⟩ | ⟨b, c, he, hw⟩
    · rw [he] at hst; simp only [applyEff, Option.some.injEq] at hst; subst hst; exact ⟨rfl, fun _ _ => rfl⟩
    · rw [he, hd] at hst
      simp only [applyEff] at hst
      split at hst
      · cases hst; exact ⟨rfl, fun b hb => by rw [hw] at hb; exact get_put_other _ _ _ _ (by simpa using hb)⟩
      · cases hst
    · rw [he] at hst; simp only [applyEff, Option.some.injEq] at hst; subst hst
      exact ⟨rfl, fun b' hb => by rw [hw] at hb; exact get_put_other _ _ _ _ (by simpa using hb)⟩
  have hput : ∀ {s1 : St} {v : AV}, (∀ s, o.dst ≠ some s → get (putDst s1 o.dst v).env s = get s1.env s) ∧ (putDst s1 o.dst v).heap = s1.heap := by
    intro s1 v
    cases hd : o.dst with
    | none => exact ⟨fun _ _ => rfl, rfl⟩
    | some d => exact ⟨fun s hs => get_put_other _ _ _ _ (fun e => hs (by rw [e])), rfl⟩
  unfold absStep at h
  split at h
  · cases h
  split at h
  · split at h
    case h_2 => cases h
    rename_i r hr
    split at h
    case h_2 => cases h
    rename_i st1 hst
    cases h
    obtain ⟨k1, k2⟩ := key hr hst
    exact ⟨fun s hs => by rw [hput.1 s hs, k1], fun b hb => by rw [hput.2]; exact k2 b hb⟩
  · split at h
    case h_2 => cases h
    split at h
    case h_2 => cases h
    split at h
    case h_2 => cases h
    cases h
    exact ⟨fun s hs => hput.1 s hs, fun b hb => by rw [hput.2]⟩
end

/- The ancestors of each operation, as bits. -/
def maskOf (acc : List Nat) (l : List Edge) : Nat :=
  match l with
  | [] => 0
  | e :: l => match Region.binds .any e with
    | true => (2 ^ e.on ||| acc.getD e.on 0) ||| maskOf acc l
    | false => maskOf acc l
def masks : List Oper → List Nat → List Nat
  | [], acc => acc
  | o :: l, acc => masks l (acc ++ [maskOf acc o.after.toList])

def statesOf (C : Cfg) (CC : FuncId → List AV → AV → Prop) (orc : Nat → FuncId → List AV → Option AV) (all : List Oper) : List Oper → Nat → St → List (Oper × St × St)
  | [], _, _ => []
  | o :: rest, i, st => match absStep C CC (orc i) all st o with
    | some (st', _) => (o, st, st') :: statesOf C CC orc all rest (i + 1) st'
    | none => []

def memN (b : Nat) : List Nat → Bool
  | [] => false
  | x :: l => Nat.beq x b || memN b l

/-- Two operations of a region conflict: one writes what the other reads or writes. -/
def conflict (C : Cfg) (all : List Oper) (x y : Oper × St × St) : Bool :=
  (match x.1.dst with | some d => rdSlot all y.1 d || (match y.1.dst with | some d' => Nat.beq d d' | none => false) | none => false) ||
  ((match y.1.dst with | some d => rdSlot all x.1 d | none => false) ||
  ((wrBox C x.2.1 x.1).any (fun b => rdBox C y.2.1 y.1 b || memN b (wrBox C y.2.1 y.1)) ||
  (wrBox C y.2.1 y.1).any (fun b => rdBox C x.2.1 x.1 b)))

def isNew : Op → Bool
  | .alloc _ | .box _ _ | .buildSlice _ _ _ | .makeSlice _ _ _ => true
  | .call c => match c.callee with | .builtin .append => true | _ => false
  | _ => false

/-- What an operation wrote names box d. -/
def wroteName (C : Cfg) (x : Oper × St × St) (d : Nat) : Bool :=
  (match x.1.dst with | some s => (match get x.2.2.env s with | some v => v.names d | none => false) | none => false) ||
  ((wrBox C x.2.1 x.1).any (fun b => match get x.2.2.heap b with | some c => c.names d | none => false) || memN d (wrBox C x.2.1 x.1))

def allBelow : Nat → (Nat → Bool) → Bool
  | 0, _ => true
  | n + 1, p => p n && allBelow n p

theorem allBelow_spec {p : Nat → Bool} : ∀ {n : Nat}, allBelow n p = true → ∀ i, i < n → p i = true
  | 0, _, i, hi => by omega
  | n + 1, h, i, hi => by
    simp only [allBelow, Bool.and_eq_true] at h
    by_cases e : i = n
    · subst e; exact h.1
    · exact allBelow_spec h.2 i (by omega)

/- An order in which the operations may come up, in each mode of the draw. -/
def predMask (md : Region.Mode) : List Edge → Nat
  | [] => 0
  | e :: l => match Region.binds md e with
    | true => 2 ^ e.on ||| predMask md l
    | false => predMask md l
def predMasks (md : Region.Mode) : Nat → List Oper → List (Nat × Nat)
  | _, [] => []
  | j, o :: l => (j, predMask md o.after.toList) :: predMasks md (j + 1) l
def findReady (listed : Nat) : List (Nat × Nat) → Option Nat
  | [] => none
  | (j, m) :: l => match !listed.testBit j && Nat.beq (m &&& listed) m with
    | true => some j
    | false => findReady listed l
def kahn (ps : List (Nat × Nat)) : Nat → Nat → List Nat
  | 0, _ => []
  | n + 1, listed => match findReady listed ps with
    | some j => j :: kahn ps n (listed ||| 2 ^ j)
    | none => []
def posOf (j : Nat) : List Nat → Nat
  | [] => 0
  | x :: l => match Nat.beq x j with
    | true => 0
    | false => posOf j l + 1
def edgesAre (md : Region.Mode) (rk : Nat → Nat) (n : Nat) : Nat → List Oper → Bool
  | _, [] => true
  | j, o :: l => o.after.toList.all (fun e => !Region.binds md e || (Nat.blt (rk e.on) (rk j) && Nat.blt e.on n)) && edgesAre md rk n (j + 1) l
def edgesOK (md : Region.Mode) (ops : List Oper) : Bool :=
  edgesAre md id ops.length 0 ops || (match kahn (predMasks md 0 ops) ops.length 0 with | ord => edgesAre md (fun j => posOf j ord) ops.length 0 ops)

theorem edgesAre_spec {md : Region.Mode} {rk : Nat → Nat} {n : Nat} : ∀ {l : List Oper} {j : Nat}, edgesAre md rk n j l = true → ∀ (k : Nat) (o : Oper), l[k]? = some o → ∀ e ∈ o.after.toList, Region.binds md e = true → rk e.on < rk (j + k) ∧ e.on < n
  | [], _, _, k, o, h, _, _, _ => by simp at h
  | o :: l, j, h, k, o', hk, e, he, hb => by
    simp only [edgesAre, Bool.and_eq_true] at h
    cases k with
    | zero =>
      simp at hk; subst hk
      have := List.all_eq_true.1 h.1 e he
      simp only [hb, Bool.not_true, Bool.false_or, Bool.and_eq_true, Nat.blt] at this
      exact ⟨Nat.le_of_ble_eq_true this.1, Nat.le_of_ble_eq_true this.2⟩
    | succ k =>
      have := edgesAre_spec h.2 k o' (by simpa using hk) e he hb
      rw [show j + (k + 1) = j + 1 + k from by omega]
      exact this

theorem edgesOK_spec {md : Region.Mode} {ops : List Oper} (h : edgesOK md ops = true) : ∃ rk : Nat → Nat, ∀ (k : Nat) (o : Oper), ops[k]? = some o → ∀ e ∈ o.after.toList, Region.binds md e = true → rk e.on < rk k ∧ e.on < ops.length := by
  simp only [edgesOK, Bool.or_eq_true] at h
  rcases h with h | h
  · refine ⟨id, fun k o hk e he hb => ?_⟩
    have := edgesAre_spec h k o hk e he hb
    rw [Nat.zero_add] at this
    exact this
  · refine ⟨fun j => posOf j (kahn (predMasks md 0 ops) ops.length 0), fun k o hk e he hb => ?_⟩
    have := edgesAre_spec h k o hk e he hb
    rw [Nat.zero_add] at this
    exact this

def orderAt (C : Cfg) (ops : List Oper) (st : St) (L : List (Oper × St × St)) (M : List Nat) (j : Nat) (y : Oper × St × St) : Bool :=
  !growing C y.2.1 y.1 &&
      (allBelow j (fun i => match L[i]? with | none => false | some x => !conflict C ops x y || (M.getD j 0).testBit i) &&
      (!isNew y.1.op || (match y.1.dst with
        | none => false
        | some d => freshBox st d && allBelow ops.length (fun k => match L[k]? with | none => false | some z => !wroteName C z d || (Nat.beq k j || (M.getD k 0).testBit j)))))

def orderOK (C : Cfg) (CC : FuncId → List AV → AV → Prop) (orc : Nat → FuncId → List AV → Option AV) (ops : List Oper) (st : St) : Bool :=
  match statesOf C CC orc ops ops 0 st, masks ops [] with
  | L, M => (edgesOK .any ops && (edgesOK .text ops && edgesOK .gc ops)) && allBelow ops.length fun j => match L[j]? with
    | none => false
    | some y => orderAt C ops st L M j y

/-- A region's reckoning, state by state, and what the order's check says. -/
structure Tr (C : Cfg) (CC : FuncId → List AV → AV → Prop) (orc : Nat → FuncId → List AV → Option AV) (ops : Array Oper) (st st' : St) (σ : Nat → St) : Prop where
  s0 : σ 0 = st
  sn : σ ops.size = st'
  step : ∀ (i : Nat) (o : Oper), ops[i]? = some o → ∃ qs : List Prop, absStep C CC (orc i) ops.toList (σ i) o = some (σ (i + 1), qs) ∧ ∀ p ∈ qs, p
  noapp : ∀ (i : Nat) (o : Oper), ops[i]? = some o → growing C (σ i) o = false
  edge : ∀ md, ∃ rk : Nat → Nat, ∀ (i : Nat) (o : Oper), ops[i]? = some o → ∀ e ∈ o.after.toList, Region.binds md e = true → rk e.on < rk i ∧ e.on < ops.size
  conf : ∀ (i j : Nat) (x y : Oper), i < j → ops[i]? = some x → ops[j]? = some y → conflict C ops.toList (x, σ i, σ (i + 1)) (y, σ j, σ (j + 1)) = true → ((masks ops.toList []).getD j 0).testBit i = true
  new : ∀ (j : Nat) (y : Oper), ops[j]? = some y → isNew y.op = true → ∃ d, y.dst = some d ∧ freshBox st d = true ∧ ∀ (k : Nat) (z : Oper), ops[k]? = some z → wroteName C (z, σ k, σ (k + 1)) d = true → k = j ∨ ((masks ops.toList []).getD k 0).testBit j = true

theorem states_trace {C : Cfg} {CC : FuncId → List AV → AV → Prop} {orc : Nat → FuncId → List AV → Option AV} {all : List Oper} : ∀ (rest : List Oper) (i : Nat) (st st' : St) (ps : List Prop), absOps C CC orc all rest i st = some (st', ps) →
    ∃ σ : Nat → St, σ 0 = st ∧ σ rest.length = st' ∧ ∀ (k : Nat) (o : Oper), rest[k]? = some o → (∃ qs : List Prop, absStep C CC (orc (i + k)) all (σ k) o = some (σ (k + 1), qs) ∧ ∀ p ∈ qs, p ∈ ps) ∧ (statesOf C CC orc all rest i st)[k]? = some (o, σ k, σ (k + 1))
  | [], i, st, st', ps, h => by
    simp only [absOps, Option.some.injEq, Prod.mk.injEq] at h
    obtain ⟨rfl, _⟩ := h
    exact ⟨fun _ => st, rfl, rfl, fun k o hk => by simp at hk⟩
  | o :: rest, i, st, st', ps, h => by
    simp only [absOps] at h
    split at h
    case h_2 => cases h
    rename_i st1 ps1 h1
    split at h
    case h_2 => cases h
    rename_i st2 ps2 h2
    cases h
    obtain ⟨σ, e0, en, hσ⟩ := states_trace rest (i + 1) st1 st' ps2 h2
    refine ⟨fun k => match k with | 0 => st | k + 1 => σ k, rfl, by simpa using en, fun k o' hk => ?_⟩
    cases k with
    | zero =>
      simp at hk; subst hk
      refine ⟨⟨ps1, by simp only [Nat.add_zero, e0]; exact h1, fun p hp => by simp [hp]⟩, ?_⟩
      simp only [statesOf, h1, List.getElem?_cons_zero, e0]
    | succ k =>
      obtain ⟨⟨qs, a1, a2⟩, a3⟩ := hσ k o' (by simpa using hk)
      refine ⟨⟨qs, by rw [show i + (k + 1) = i + 1 + k from by omega]; exact a1, fun p hp => by simp [a2 p hp]⟩, ?_⟩
      simp only [statesOf, h1, List.getElem?_cons_succ]
      exact a3

theorem tr_of {C : Cfg} {CC : FuncId → List AV → AV → Prop} {orc : Nat → FuncId → List AV → Option AV} {ops : Array Oper} {st st' : St} {ps : List Prop} (h : absOps C CC orc ops.toList ops.toList 0 st = some (st', ps)) (hps : ∀ p ∈ ps, p) (hok : orderOK C CC orc ops.toList st = true) :
    ∃ σ, Tr C CC orc ops st st' σ := by
  obtain ⟨σ, e0, en, hσ⟩ := states_trace ops.toList 0 st st' ps h
  have hσ' : ∀ (k : Nat) (o : Oper), ops[k]? = some o → (statesOf C CC orc ops.toList ops.toList 0 st)[k]? = some (o, σ k, σ (k + 1)) := fun k o hk => (hσ k o (by simpa using hk)).2
  simp only [orderOK, Bool.and_eq_true] at hok
  obtain ⟨hedge, hok⟩ := hok
  have hj0 : ∀ (j : Nat) (o : Oper), ops[j]? = some o → orderAt C ops.toList st (statesOf C CC orc ops.toList ops.toList 0 st) (masks ops.toList []) j (o, σ j, σ (j + 1)) = true := by
    intro j o hj
    have hlt : j < ops.toList.length := by have := (Array.getElem?_eq_some_iff.1 hj).1; simpa using this
    have := allBelow_spec hok j hlt
    rw [hσ' j o hj] at this
    exact this
  have hj := fun (j : Nat) (o : Oper) (h : ops[j]? = some o) => by
    have := hj0 j o h
    simp only [orderAt, Bool.and_eq_true, Bool.not_eq_true'] at this
    exact this
  refine ⟨σ, e0, by simpa using en, fun i o hi => ?_, fun i o hi => (hj i o hi).1, fun md => ?_, fun i j x y hij hi hj' hc => ?_, fun j y hj' hn => ?_⟩
  · obtain ⟨⟨qs, a1, a2⟩, _⟩ := hσ i o (by simpa using hi)
    exact ⟨qs, by rw [Nat.zero_add] at a1; exact a1, fun p hp => hps p (a2 p hp)⟩
  · have : edgesOK md ops.toList = true := by cases md <;> first | exact hedge.1 | exact hedge.2.1 | exact hedge.2.2
    obtain ⟨rk, hrk⟩ := edgesOK_spec this
    exact ⟨rk, fun i o hi e he hb => by simpa using hrk i o (by simpa using hi) e he hb⟩
  · have := allBelow_spec (hj j y hj').2.1 i hij
    rw [hσ' i x hi] at this
    simp only [hc, Bool.not_true, Bool.false_or] at this
    exact this
  · have := (hj j y hj').2.2
    rw [hn] at this
    simp only [Bool.not_true, Bool.false_or] at this
    split at this
    · cases this
    · rename_i d hd
      simp only [Bool.and_eq_true] at this
      refine ⟨d, hd, this.1, fun k z hk hw => ?_⟩
      have h2 := allBelow_spec this.2 k (by have := (Array.getElem?_eq_some_iff.1 hk).1; simpa using this)
      rw [hσ' k z hk] at h2
      simp only [hw, Bool.not_true, Bool.false_or, Bool.or_eq_true] at h2
      rcases h2 with h2 | h2
      · exact .inl (Nat.eq_of_beq_eq_true h2)
      · exact .inr h2

theorem masks_spec : ∀ (l : List Oper) (acc : List Nat), (masks l acc).length = acc.length + l.length ∧ (masks l acc).take acc.length = acc ∧ ∀ (k : Nat) (o : Oper), l[k]? = some o → (masks l acc).getD (acc.length + k) 0 = maskOf ((masks l acc).take (acc.length + k)) o.after.toList
  | [], acc => by simp [masks]
  | o :: l, acc => by
    obtain ⟨h1, h2, h3⟩ := masks_spec l (acc ++ [maskOf acc o.after.toList])
    simp only [masks]
    rw [List.length_append, List.length_singleton] at h1 h2 h3
    have hacc : (masks l (acc ++ [maskOf acc o.after.toList])).take acc.length = acc := by
      have := congrArg (List.take acc.length) h2
      rw [List.take_take, show min acc.length (acc.length + 1) = acc.length from by omega] at this
      rw [this]; simp
    refine ⟨by rw [h1, List.length_cons]; omega, hacc, fun k o' hk => ?_⟩
    cases k with
    | zero =>
      simp at hk; subst hk
      rw [Nat.add_zero, hacc]
      have : ((masks l (acc ++ [maskOf acc o.after.toList])).take (acc.length + 1)).getD acc.length 0 = maskOf acc o.after.toList := by rw [h2]; simp
      rw [List.getD_eq_getElem?_getD, List.getElem?_take_of_lt (by omega), ← List.getD_eq_getElem?_getD] at this
      exact this
    | succ k =>
      have := h3 k o' (by simpa using hk)
      rw [show acc.length + (k + 1) = acc.length + 1 + k from by omega]
      exact this

theorem maskOf_testBit {acc : List Nat} {i : Nat} : ∀ {l : List Edge}, (maskOf acc l).testBit i = true → ∃ e ∈ l, Region.binds .any e = true ∧ (i = e.on ∨ (acc.getD e.on 0).testBit i = true)
  | [], h => by simp [maskOf] at h
  | e :: l, h => by
    simp only [maskOf] at h
    split at h
    · rename_i hb
      rw [Nat.testBit_or, Nat.testBit_or, Bool.or_eq_true, Bool.or_eq_true] at h
      rcases h with (h | h) | h
      · rw [Nat.testBit_two_pow] at h
        exact ⟨e, by simp, hb, .inl (by simpa using (of_decide_eq_true h).symm)⟩
      · exact ⟨e, by simp, hb, .inr h⟩
      · obtain ⟨e', h1, h2⟩ := maskOf_testBit h
        exact ⟨e', by simp [h1], h2⟩
    · obtain ⟨e', h1, h2⟩ := maskOf_testBit h
      exact ⟨e', by simp [h1], h2⟩

/-- What is closed under the edges holds all ancestors. -/
theorem anc_closed {ops : Array Oper} {D : Nat → Prop} (hD : ∀ (k : Nat) (o : Oper), D k → ops[k]? = some o → ∀ e ∈ o.after.toList, Region.binds .any e = true → D e.on) :
    ∀ (j : Nat) (o : Oper), ops[j]? = some o → (∀ e ∈ o.after.toList, Region.binds .any e = true → D e.on) → ∀ i, ((masks ops.toList []).getD j 0).testBit i = true → D i := by
  intro j
  induction j using Nat.strongRecOn with
  | _ j ih =>
    intro o ho hed i hi
    obtain ⟨_, _, h3⟩ := masks_spec ops.toList []
    have := h3 j o (by simpa using ho)
    simp only [List.length_nil, Nat.zero_add] at this
    rw [this] at hi
    obtain ⟨e, he, hb, h4⟩ := maskOf_testBit hi
    have hde := hed e he hb
    rcases h4 with rfl | h4
    · exact hde
    · by_cases hlt : e.on < j
      · have hj := (Array.getElem?_eq_some_iff.1 ho).1
        have ho' : ops[e.on]? = some ops[e.on] := by simp [show e.on < ops.size by omega]
        rw [List.getD_eq_getElem?_getD, List.getElem?_take_of_lt hlt, ← List.getD_eq_getElem?_getD] at h4
        exact ih e.on hlt _ ho' (fun e' he' hb' => hD e.on _ hde ho' e' he' hb') i h4
      · rw [List.getD_eq_getElem?_getD, List.getElem?_take, if_neg hlt] at h4
        simp at h4
end Go.AV
