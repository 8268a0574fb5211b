/- A region whose order is open: where what conflicts is ordered, every order comes to what the text's own order comes to. -/
import Derived.Test.YtihfplgdpbcieaaAvB
import Derived.Orders
import Derived.Laws.BytesArg
namespace Go.AV
open Go.RowKit

/- Lists without shadowed entries. -/
def dedup {α : Type} : List (Nat × α) → List (Nat × α)
  | [] => []
  | (k, v) :: l => (k, v) :: del (dedup l) k

theorem mem_del {α : Type} : ∀ {l : List (Nat × α)} {s : Nat} {p : Nat × α}, p ∈ del l s → p ∈ l ∧ p.1 ≠ s
  | [], _, _, h => by simp [del] at h
  | (k, v) :: l, s, p, h => by
    simp only [del] at h
    split at h
    · obtain ⟨h1, h2⟩ := mem_del h; exact ⟨by simp [h1], h2⟩
    · rename_i hk
      rcases List.mem_cons.1 h with rfl | h
      · exact ⟨by simp, fun e => by subst e; simp at hk⟩
      · obtain ⟨h1, h2⟩ := mem_del h; exact ⟨by simp [h1], h2⟩

theorem get_dedup {α : Type} : ∀ (l : List (Nat × α)) (s : Nat), get (dedup l) s = get l s
  | [], _ => rfl
  | (k, v) :: l, s => by
    simp only [dedup, get]
    split
    · rfl
    · rename_i hk
      rw [get_del_other _ _ _ (fun e => by subst e; simp at hk), get_dedup l s]

theorem dedup_mem {α : Type} : ∀ {l : List (Nat × α)} {s : Nat} {v : α}, (s, v) ∈ dedup l → get l s = some v
  | [], _, _, h => by simp [dedup] at h
  | (k, u) :: l, s, v, h => by
    simp only [dedup] at h
    rcases List.mem_cons.1 h with h | h
    · cases h; simp [get]
    · obtain ⟨h1, h2⟩ := mem_del h
      have : Nat.beq k s = false := by
        cases e : Nat.beq k s with
        | false => rfl
        | true => exact absurd (Nat.eq_of_beq_eq_true e).symm h2
      simp only [get, this]
      exact dedup_mem h1

theorem namesEnv_of {b : Nat} : ∀ {l : List (Nat × AV)}, (∀ p ∈ l, p.2.names b = false) → namesEnv b l = false
  | [], _ => rfl
  | (k, x) :: l, h => by simp only [namesEnv, Bool.or_eq_false_iff]; exact ⟨h (k, x) (by simp), namesEnv_of fun p hp => h p (by simp [hp])⟩
theorem namesHeap_of {b : Nat} : ∀ {l : List (Nat × BoxC)}, (∀ p ∈ l, p.2.names b = false ∧ p.1 ≠ b) → namesHeap b l = false
  | [], _ => rfl
  | (k, x) :: l, h => by
    simp only [namesHeap, Bool.or_eq_false_iff]
    obtain ⟨h1, h2⟩ := h (k, x) (by simp)
    refine ⟨⟨?_, h1⟩, namesHeap_of fun p hp => h p (by simp [hp])⟩
    cases e : Nat.beq k b with
    | false => rfl
    | true => exact absurd (Nat.eq_of_beq_eq_true e) h2

/- Slots and boxes that an operation reads. -/
def usesTmp (s : Nat) : List Operand → Bool
  | [] => false
  | .tmp t :: l => Nat.beq t s || usesTmp s l
  | _ :: l => usesTmp s l
def rdSlot (all : List Oper) (o : Oper) (s : Nat) : Bool :=
  usesTmp s o.op.operands.toList || (match o.guard with
    | none => false
    | some g => match all[g.1]? with
      | some o' => match o'.dst with | some d => Nat.beq d s | none => false
      | none => false)
def rdBoxL (C : Cfg) (st : St) (b : Nat) : List Operand → Bool
  | [] => false
  | x :: l => (match ev C st x with | some v => v.names b | none => false) || rdBoxL C st b l
def rdBox (C : Cfg) (st : St) (o : Oper) (b : Nat) : Bool := rdBoxL C st b o.op.operands.toList

theorem usesTmp_mem {s : Nat} : ∀ {l : List Operand}, Operand.tmp s ∈ l → usesTmp s l = true
  | [], h => by cases h
  | x :: l, h => by
    rcases List.mem_cons.1 h with rfl | h2
    · simp [usesTmp]
    · have := usesTmp_mem h2
      cases x <;> simp [usesTmp, this]
theorem rdBoxL_mem {C : Cfg} {st : St} {b : Nat} : ∀ {l : List Operand} {x : Operand} {v : AV}, x ∈ l → ev C st x = some v → v.names b = true → rdBoxL C st b l = true
  | [], _, _, h, _, _ => by cases h
  | y :: l, x, v, h, he, hb => by
    simp only [rdBoxL, Bool.or_eq_true]
    rcases List.mem_cons.1 h with rfl | h
    · left; rw [he]; exact hb
    · right; exact rdBoxL_mem h he hb

section
variable {C : Cfg} {CC : FuncId → List AV → AV → Prop} {orc : FuncId → List AV → Option AV} {all : List Oper} {st st' st2 : St} {o : Oper} {ps : List Prop}

theorem names_strip1 {b : Nat} {x : AV} (h : (strip1 x).names b = true) : x.names b = true := by
  cases x <;> simp_all [strip1, AV.names]

/-- Two states alike in what an operation reads. -/
structure Alike2 (C : Cfg) (all : List Oper) (o : Oper) (st st2 : St) : Prop where
  slot : ∀ s, rdSlot all o s = true → get st.env s = get st2.env s
  box : ∀ b, rdBox C st o b = true → get st.heap b = get st2.heap b

theorem Alike2.ev (h : Alike2 C all o st st2) {x : Operand} (hx : x ∈ o.op.operands.toList) : AV.ev C st x = AV.ev C st2 x := by
  cases x with
  | tmp t => exact h.slot t (by simp only [rdSlot, Bool.or_eq_true]; exact .inl (usesTmp_mem hx))
  | _ => rfl
theorem Alike2.evS (h : Alike2 C all o st st2) {x : Operand} (hx : x ∈ o.op.operands.toList) : AV.evS C st x = AV.evS C st2 x := by
  unfold AV.evS; rw [h.ev hx]

theorem Alike2.obs (h : Alike2 C all o st st2) : ∀ {l : List Operand}, (∀ x ∈ l, x ∈ o.op.operands.toList) → operandObs C st l = operandObs C st2 l
  | [], _ => rfl
  | x :: l, hl => by
    simp only [operandObs]
    rw [h.ev (hl x (by simp)), h.obs fun y hy => hl y (by simp [hy])]

theorem absPlain_local (h : Alike2 C all o st st2) : absPlain C CC orc st o = absPlain C CC orc st2 o := by
  cases hop : o.op with
  | pick c x y =>
    have hc := h.evS (x := c) (by rw [hop]; simp [Op.operands])
    have hx := h.evS (x := x) (by rw [hop]; simp [Op.operands])
    have hy := h.evS (x := y) (by rw [hop]; simp [Op.operands])
    have hc' := h.ev (x := c) (by rw [hop]; simp [Op.operands])
    have hx' := h.ev (x := x) (by rw [hop]; simp [Op.operands])
    have hy' := h.ev (x := y) (by rw [hop]; simp [Op.operands])
    simp only [absPlain, hop, pickObs]
    rw [hc, hx, hy, hc', hx', hy']
  | _ =>
    have h1 := absOp_local (C := C) (st := st) (st2 := st2) (e := evS C st) (e2 := evS C st2) (dst := o.dst) (orc := orc) (CC := CC) (op := o.op) (fun x hx => h.evS hx) (fun x hx v hv b hb => by
      have hv2 : evS C st x = some v := by rw [h.evS hx]; exact hv
      unfold evS at hv2
      split at hv2
      · rename_i u hu
        cases hv2
        exact h.box b (rdBoxL_mem hx hu (names_strip1 hb))
      · cases hv2)
    have h2 := h.obs (l := o.op.operands.toList) fun x hx => hx
    rw [hop] at h1 h2
    simp only [absPlain, hop]
    rw [h1, h2]

/-- The facts that an operation leaves, slot by slot and box by box. -/
theorem absStep_frame (hno : growing C st o = false) (h : absStep C CC orc all st o = some (st', ps)) : (∀ s, o.dst ≠ some s → get st'.env s = get st.env s) ∧ (∀ b, b ∉ wrBox C st o → get st'.heap b = get st.heap b) := by
  have key : ∀ {r : Res} {st1 : St}, absPlain C CC orc st o = some r → applyEff st o.dst r.eff = some st1 → st1.env = st.env ∧ ∀ b, b ∉ wrBox C st o → get st1.heap b = get st.heap b := by
    intro r st1 hr hst
    have heff : (r.eff = .none ∧ wrBox C st o = []) ∨ (∃ c d, r.eff = .new c ∧ o.dst = some d ∧ wrBox C st o = [d]) ∨ (∃ b c, r.eff = .upd b c ∧ wrBox C st o = [b]) := by
      unfold absPlain at hr
      split at hr
      · rename_i hop
        repeat' split at hr
        all_goals first | (cases hr; done) | (cases hr; exact .inl ⟨rfl, by simp [wrBox, hop]⟩)
      · split at hr
        · rename_i r' hr'
          have he := absOp_eff hno hr'
          cases hr
          exact he
        · cases hr
    rcases heff with ⟨he, _⟩ | ⟨c, d, he, hd, hw⟩ | ⟨b, c, he, hw⟩
    · rw [he] at hst; simp only [applyEff, Option.some.injEq] at hst; subst hst; exact ⟨rfl, fun _ _ => rfl⟩
    · rw [he, hd] at hst
      simp only [applyEff] at hst
      split at hst
      · cases hst; exact ⟨rfl, fun b hb => by rw [hw] at hb; exact get_put_other _ _ _ _ (by simpa using hb)⟩
      · cases hst
    · rw [he] at hst; simp only [applyEff, Option.some.injEq] at hst; subst hst
      exact ⟨rfl, fun b' hb => by rw [hw] at hb; exact get_put_other _ _ _ _ (by simpa using hb)⟩
  have hput : ∀ {s1 : St} {v : AV}, (∀ s, o.dst ≠ some s → get (putDst s1 o.dst v).env s = get s1.env s) ∧ (putDst s1 o.dst v).heap = s1.heap := by
    intro s1 v
    cases hd : o.dst with
    | none => exact ⟨fun _ _ => rfl, rfl⟩
    | some d => exact ⟨fun s hs => get_put_other _ _ _ _ (fun e => hs (by rw [e])), rfl⟩
  unfold absStep at h
  split at h
  · cases h
  split at h
  · split at h
    case h_2 => cases h
    rename_i r hr
    split at h
    case h_2 => cases h
    rename_i st1 hst
    cases h
    obtain ⟨k1, k2⟩ := key hr hst
    exact ⟨fun s hs => by rw [hput.1 s hs, k1], fun b hb => by rw [hput.2]; exact k2 b hb⟩
  · split at h
    case h_2 => cases h
    split at h
    case h_2 => cases h
    split at h
    case h_2 => cases h
    cases h
    exact ⟨fun s hs => hput.1 s hs, fun b hb => by rw [hput.2]⟩
end

/- The ancestors of each operation, as bits. -/
def maskOf (acc : List Nat) (l : List Edge) : Nat :=
  match l with
  | [] => 0
  | e :: l => match Region.binds .any e with
    | true => (2 ^ e.on ||| acc.getD e.on 0) ||| maskOf acc l
    | false => maskOf acc l
def masks : List Oper → List Nat → List Nat
  | [], acc => acc
  | o :: l, acc => masks l (acc ++ [maskOf acc o.after.toList])

def statesOf (C : Cfg) (CC : FuncId → List AV → AV → Prop) (orc : Nat → FuncId → List AV → Option AV) (all : List Oper) : List Oper → Nat → St → List (Oper × St × St)
  | [], _, _ => []
  | o :: rest, i, st => match absStep C CC (orc i) all st o with
    | some (st', _) => (o, st, st') :: statesOf C CC orc all rest (i + 1) st'
    | none => []

def memN (b : Nat) : List Nat → Bool
  | [] => false
  | x :: l => Nat.beq x b || memN b l

/-- Two operations of a region conflict: one writes what the other reads or writes. -/
def conflict (C : Cfg) (all : List Oper) (x y : Oper × St × St) : Bool :=
  (match x.1.dst with | some d => rdSlot all y.1 d || (match y.1.dst with | some d' => Nat.beq d d' | none => false) | none => false) ||
  ((match y.1.dst with | some d => rdSlot all x.1 d | none => false) ||
  ((wrBox C x.2.1 x.1).any (fun b => rdBox C y.2.1 y.1 b || memN b (wrBox C y.2.1 y.1)) ||
  (wrBox C y.2.1 y.1).any (fun b => rdBox C x.2.1 x.1 b)))

def isNew : Op → Bool
  | .alloc _ | .box _ _ | .buildSlice _ _ _ | .makeSlice _ _ _ => true
  | .call c => match c.callee with | .builtin .append => true | _ => false
  | _ => false

/-- What an operation wrote names box d. -/
def wroteName (C : Cfg) (x : Oper × St × St) (d : Nat) : Bool :=
  (match x.1.dst with | some s => (match get x.2.2.env s with | some v => v.names d | none => false) | none => false) ||
  ((wrBox C x.2.1 x.1).any (fun b => match get x.2.2.heap b with | some c => c.names d | none => false) || memN d (wrBox C x.2.1 x.1))

def allBelow : Nat → (Nat → Bool) → Bool
  | 0, _ => true
  | n + 1, p => p n && allBelow n p

theorem allBelow_spec {p : Nat → Bool} : ∀ {n : Nat}, allBelow n p = true → ∀ i, i < n → p i = true
  | 0, _, i, hi => by omega
  | n + 1, h, i, hi => by
    simp only [allBelow, Bool.and_eq_true] at h
    by_cases e : i = n
    · subst e; exact h.1
    · exact allBelow_spec h.2 i (by omega)

/- An order in which the operations may come up, in each mode of the draw. -/
def predMask (md : Region.Mode) : List Edge → Nat
  | [] => 0
  | e :: l => match Region.binds md e with
    | true => 2 ^ e.on ||| predMask md l
    | false => predMask md l
def predMasks (md : Region.Mode) : Nat → List Oper → List (Nat × Nat)
  | _, [] => []
  | j, o :: l => (j, predMask md o.after.toList) :: predMasks md (j + 1) l
def findReady (listed : Nat) : List (Nat × Nat) → Option Nat
  | [] => none
  | (j, m) :: l => match !listed.testBit j && Nat.beq (m &&& listed) m with
    | true => some j
    | false => findReady listed l
def kahn (ps : List (Nat × Nat)) : Nat → Nat → List Nat
  | 0, _ => []
  | n + 1, listed => match findReady listed ps with
    | some j => j :: kahn ps n (listed ||| 2 ^ j)
    | none => []
def posOf (j : Nat) : List Nat → Nat
  | [] => 0
  | x :: l => match Nat.beq x j with
    | true => 0
    | false => posOf j l + 1
def edgesAre (md : Region.Mode) (rk : Nat → Nat) (n : Nat) : Nat → List Oper → Bool
  | _, [] => true
  | j, o :: l => o.after.toList.all (fun e => !Region.binds md e || (Nat.blt (rk e.on) (rk j) && Nat.blt e.on n)) && edgesAre md rk n (j + 1) l
def edgesOK (md : Region.Mode) (ops : List Oper) : Bool :=
  edgesAre md id ops.length 0 ops || (match kahn (predMasks md 0 ops) ops.length 0 with | ord => edgesAre md (fun j => posOf j ord) ops.length 0 ops)

theorem edgesAre_spec {md : Region.Mode} {rk : Nat → Nat} {n : Nat} : ∀ {l : List Oper} {j : Nat}, edgesAre md rk n j l = true → ∀ (k : Nat) (o : Oper), l[k]? = some o → ∀ e ∈ o.after.toList, Region.binds md e = true → rk e.on < rk (j + k) ∧ e.on < n
  | [], _, _, k, o, h, _, _, _ => by simp at h
  | o :: l, j, h, k, o', hk, e, he, hb => by
    simp only [edgesAre, Bool.and_eq_true] at h
    cases k with
    | zero =>
      simp at hk; subst hk
      have := List.all_eq_true.1 h.1 e he
      simp only [hb, Bool.not_true, Bool.false_or, Bool.and_eq_true, Nat.blt] at this
      exact ⟨Nat.le_of_ble_eq_true this.1, Nat.le_of_ble_eq_true this.2⟩
    | succ k =>
      have := edgesAre_spec h.2 k o' (by simpa using hk) e he hb
      rw [show j + (k + 1) = j + 1 + k from by omega]
      exact this

theorem edgesOK_spec {md : Region.Mode} {ops : List Oper} (h : edgesOK md ops = true) : ∃ rk : Nat → Nat, ∀ (k : Nat) (o : Oper), ops[k]? = some o → ∀ e ∈ o.after.toList, Region.binds md e = true → rk e.on < rk k ∧ e.on < ops.length := by
  simp only [edgesOK, Bool.or_eq_true] at h
  rcases h with h | h
  · refine ⟨id, fun k o hk e he hb => ?_⟩
    have := edgesAre_spec h k o hk e he hb
    rw [Nat.zero_add] at this
    exact this
  · refine ⟨fun j => posOf j (kahn (predMasks md 0 ops) ops.length 0), fun k o hk e he hb => ?_⟩
    have := edgesAre_spec h k o hk e he hb
    rw [Nat.zero_add] at this
    exact this

/-- An append that may move its row comes behind all that stand ahead of it, and ahead of all others. -/
def clash (C : Cfg) (ops : List Oper) (x y : Oper × St × St) : Bool := conflict C ops x y || (growing C x.2.1 x.1 || growing C y.2.1 y.1)
def orderAt (C : Cfg) (ops : List Oper) (st : St) (L : List (Oper × St × St)) (M : List Nat) (j : Nat) (y : Oper × St × St) : Bool :=
  allBelow j (fun i => match L[i]? with | none => false | some x => !clash C ops x y || (M.getD j 0).testBit i) &&
      ((!isNew y.1.op || growing C y.2.1 y.1) || (match y.1.dst with
        | none => false
        | some d => (freshBox st d && allBelow j (fun i => match L[i]? with | none => false | some x => !growing C x.2.1 x.1)) && allBelow ops.length (fun k => match L[k]? with | none => false | some z => !wroteName C z d || (Nat.beq k j || (M.getD k 0).testBit j))))

def orderOK (C : Cfg) (CC : FuncId → List AV → AV → Prop) (orc : Nat → FuncId → List AV → Option AV) (ops : List Oper) (st : St) : Bool :=
  match statesOf C CC orc ops ops 0 st, masks ops [] with
  | L, M => (edgesOK .any ops && (edgesOK .text ops && edgesOK .gc ops)) && allBelow ops.length fun j => match L[j]? with
    | none => false
    | some y => orderAt C ops st L M j y

/-- A region's reckoning, state by state, and what the order's check says. -/
structure Tr (C : Cfg) (CC : FuncId → List AV → AV → Prop) (orc : Nat → FuncId → List AV → Option AV) (ops : Array Oper) (st st' : St) (σ : Nat → St) : Prop where
  s0 : σ 0 = st
  sn : σ ops.size = st'
  step : ∀ (i : Nat) (o : Oper), ops[i]? = some o → ∃ qs : List Prop, absStep C CC (orc i) ops.toList (σ i) o = some (σ (i + 1), qs) ∧ ∀ p ∈ qs, p
  edge : ∀ md, ∃ rk : Nat → Nat, ∀ (i : Nat) (o : Oper), ops[i]? = some o → ∀ e ∈ o.after.toList, Region.binds md e = true → rk e.on < rk i ∧ e.on < ops.size
  conf : ∀ (i j : Nat) (x y : Oper), i < j → ops[i]? = some x → ops[j]? = some y → clash C ops.toList (x, σ i, σ (i + 1)) (y, σ j, σ (j + 1)) = true → ((masks ops.toList []).getD j 0).testBit i = true
  new : ∀ (j : Nat) (y : Oper), ops[j]? = some y → isNew y.op = true → growing C (σ j) y = false → ∃ d, y.dst = some d ∧ freshBox st d = true ∧ (∀ (i : Nat) (x : Oper), i < j → ops[i]? = some x → growing C (σ i) x = false) ∧ ∀ (k : Nat) (z : Oper), ops[k]? = some z → wroteName C (z, σ k, σ (k + 1)) d = true → k = j ∨ ((masks ops.toList []).getD k 0).testBit j = true

theorem states_trace {C : Cfg} {CC : FuncId → List AV → AV → Prop} {orc : Nat → FuncId → List AV → Option AV} {all : List Oper} : ∀ (rest : List Oper) (i : Nat) (st st' : St) (ps : List Prop), absOps C CC orc all rest i st = some (st', ps) →
    ∃ σ : Nat → St, σ 0 = st ∧ σ rest.length = st' ∧ ∀ (k : Nat) (o : Oper), rest[k]? = some o → (∃ qs : List Prop, absStep C CC (orc (i + k)) all (σ k) o = some (σ (k + 1), qs) ∧ ∀ p ∈ qs, p ∈ ps) ∧ (statesOf C CC orc all rest i st)[k]? = some (o, σ k, σ (k + 1))
  | [], i, st, st', ps, h => by
    simp only [absOps, Option.some.injEq, Prod.mk.injEq] at h
    obtain ⟨rfl, _⟩ := h
    exact ⟨fun _ => st, rfl, rfl, fun k o hk => by simp at hk⟩
  | o :: rest, i, st, st', ps, h => by
    simp only [absOps] at h
    split at h
    case h_2 => cases h
    rename_i st1 ps1 h1
    split at h
    case h_2 => cases h
    rename_i st2 ps2 h2
    cases h
    obtain ⟨σ, e0, en, hσ⟩ := states_trace rest (i + 1) st1 st' ps2 h2
    refine ⟨fun k => match k with | 0 => st | k + 1 => σ k, rfl, by simpa using en, fun k o' hk => ?_⟩
    cases k with
    | zero =>
      simp at hk; subst hk
      refine ⟨⟨ps1, by simp only [Nat.add_zero, e0]; exact h1, fun p hp => by simp [hp]⟩, ?_⟩
      simp only [statesOf, h1, List.getElem?_cons_zero, e0]
    | succ k =>
      obtain ⟨⟨qs, a1, a2⟩, a3⟩ := hσ k o' (by simpa using hk)
      refine ⟨⟨qs, by rw [show i + (k + 1) = i + 1 + k from by omega]; exact a1, fun p hp => by simp [a2 p hp]⟩, ?_⟩
      simp only [statesOf, h1, List.getElem?_cons_succ]
      exact a3

theorem tr_of {C : Cfg} {CC : FuncId → List AV → AV → Prop} {orc : Nat → FuncId → List AV → Option AV} {ops : Array Oper} {st st' : St} {ps : List Prop} (h : absOps C CC orc ops.toList ops.toList 0 st = some (st', ps)) (hps : ∀ p ∈ ps, p) (hok : orderOK C CC orc ops.toList st = true) :
    ∃ σ, Tr C CC orc ops st st' σ := by
  obtain ⟨σ, e0, en, hσ⟩ := states_trace ops.toList 0 st st' ps h
  have hσ' : ∀ (k : Nat) (o : Oper), ops[k]? = some o → (statesOf C CC orc ops.toList ops.toList 0 st)[k]? = some (o, σ k, σ (k + 1)) := fun k o hk => (hσ k o (by simpa using hk)).2
  simp only [orderOK, Bool.and_eq_true] at hok
  obtain ⟨hedge, hok⟩ := hok
  have hj0 : ∀ (j : Nat) (o : Oper), ops[j]? = some o → orderAt C ops.toList st (statesOf C CC orc ops.toList ops.toList 0 st) (masks ops.toList []) j (o, σ j, σ (j + 1)) = true := by
    intro j o hj
    have hlt : j < ops.toList.length := by have := (Array.getElem?_eq_some_iff.1 hj).1; simpa using this
    have := allBelow_spec hok j hlt
    rw [hσ' j o hj] at this
    exact this
  have hj := fun (j : Nat) (o : Oper) (h : ops[j]? = some o) => by
    have := hj0 j o h
    simp only [orderAt, Bool.and_eq_true] at this
    exact this
  refine ⟨σ, e0, by simpa using en, fun i o hi => ?_, fun md => ?_, fun i j x y hij hi hj' hc => ?_, fun j y hj' hn hg => ?_⟩
  · obtain ⟨⟨qs, a1, a2⟩, _⟩ := hσ i o (by simpa using hi)
    exact ⟨qs, by rw [Nat.zero_add] at a1; exact a1, fun p hp => hps p (a2 p hp)⟩
  · have : edgesOK md ops.toList = true := by cases md <;> first | exact hedge.1 | exact hedge.2.1 | exact hedge.2.2
    obtain ⟨rk, hrk⟩ := edgesOK_spec this
    exact ⟨rk, fun i o hi e he hb => by simpa using hrk i o (by simpa using hi) e he hb⟩
  · have := allBelow_spec (hj j y hj').1 i hij
    rw [hσ' i x hi] at this
    simp only [hc, Bool.not_true, Bool.false_or] at this
    exact this
  · have := (hj j y hj').2
    rw [hn, hg] at this
    simp only [Bool.not_true, Bool.false_or] at this
    split at this
    · cases this
    · rename_i d hd
      simp only [Bool.and_eq_true] at this
      refine ⟨d, hd, this.1.1, fun i x hi hx => ?_, fun k z hk hw => ?_⟩
      · have h2 := allBelow_spec this.1.2 i hi
        rw [hσ' i x hx] at h2
        simpa using h2
      have h2 := allBelow_spec this.2 k (by have := (Array.getElem?_eq_some_iff.1 hk).1; simpa using this)
      rw [hσ' k z hk] at h2
      simp only [hw, Bool.not_true, Bool.false_or, Bool.or_eq_true] at h2
      rcases h2 with h2 | h2
      · exact .inl (Nat.eq_of_beq_eq_true h2)
      · exact .inr h2

theorem masks_spec : ∀ (l : List Oper) (acc : List Nat), (masks l acc).length = acc.length + l.length ∧ (masks l acc).take acc.length = acc ∧ ∀ (k : Nat) (o : Oper), l[k]? = some o → (masks l acc).getD (acc.length + k) 0 = maskOf ((masks l acc).take (acc.length + k)) o.after.toList
  | [], acc => by simp [masks]
  | o :: l, acc => by
    obtain ⟨h1, h2, h3⟩ := masks_spec l (acc ++ [maskOf acc o.after.toList])
    simp only [masks]
    rw [List.length_append, List.length_singleton] at h1 h2 h3
    have hacc : (masks l (acc ++ [maskOf acc o.after.toList])).take acc.length = acc := by
      have := congrArg (List.take acc.length) h2
      rw [List.take_take, show min acc.length (acc.length + 1) = acc.length from by omega] at this
      rw [this]; simp
    refine ⟨by rw [h1, List.length_cons]; omega, hacc, fun k o' hk => ?_⟩
    cases k with
    | zero =>
      simp at hk; subst hk
      rw [Nat.add_zero, hacc]
      have : ((masks l (acc ++ [maskOf acc o.after.toList])).take (acc.length + 1)).getD acc.length 0 = maskOf acc o.after.toList := by rw [h2]; simp
      rw [List.getD_eq_getElem?_getD, List.getElem?_take_of_lt (by omega), ← List.getD_eq_getElem?_getD] at this
      exact this
    | succ k =>
      have := h3 k o' (by simpa using hk)
      rw [show acc.length + (k + 1) = acc.length + 1 + k from by omega]
      exact this

theorem maskOf_testBit {acc : List Nat} {i : Nat} : ∀ {l : List Edge}, (maskOf acc l).testBit i = true → ∃ e ∈ l, Region.binds .any e = true ∧ (i = e.on ∨ (acc.getD e.on 0).testBit i = true)
  | [], h => by simp [maskOf] at h
  | e :: l, h => by
    simp only [maskOf] at h
    split at h
    · rename_i hb
      rw [Nat.testBit_or, Nat.testBit_or, Bool.or_eq_true, Bool.or_eq_true] at h
      rcases h with (h | h) | h
      · rw [Nat.testBit_two_pow] at h
        exact ⟨e, by simp, hb, .inl (by simpa using (of_decide_eq_true h).symm)⟩
      · exact ⟨e, by simp, hb, .inr h⟩
      · obtain ⟨e', h1, h2⟩ := maskOf_testBit h
        exact ⟨e', by simp [h1], h2⟩
    · obtain ⟨e', h1, h2⟩ := maskOf_testBit h
      exact ⟨e', by simp [h1], h2⟩

/-- What is closed under the edges holds all ancestors. -/
theorem anc_closed {ops : Array Oper} {D : Nat → Prop} (hD : ∀ (k : Nat) (o : Oper), D k → ops[k]? = some o → ∀ e ∈ o.after.toList, Region.binds .any e = true → D e.on) :
    ∀ (j : Nat) (o : Oper), ops[j]? = some o → (∀ e ∈ o.after.toList, Region.binds .any e = true → D e.on) → ∀ i, ((masks ops.toList []).getD j 0).testBit i = true → D i := by
  intro j
  induction j using Nat.strongRecOn with
  | _ j ih =>
    intro o ho hed i hi
    obtain ⟨_, _, h3⟩ := masks_spec ops.toList []
    have := h3 j o (by simpa using ho)
    simp only [List.length_nil, Nat.zero_add] at this
    rw [this] at hi
    obtain ⟨e, he, hb, h4⟩ := maskOf_testBit hi
    have hde := hed e he hb
    rcases h4 with rfl | h4
    · exact hde
    · by_cases hlt : e.on < j
      · have hj := (Array.getElem?_eq_some_iff.1 ho).1
        have ho' : ops[e.on]? = some ops[e.on] := by simp [show e.on < ops.size by omega]
        rw [List.getD_eq_getElem?_getD, List.getElem?_take_of_lt hlt, ← List.getD_eq_getElem?_getD] at h4
        exact ih e.on hlt _ ho' (fun e' he' hb' => hD e.on _ hde ho' e' he' hb') i h4
      · rw [List.getD_eq_getElem?_getD, List.getElem?_take, if_neg hlt] at h4
        simp at h4
end Go.AV
/- Every order of a checked region comes to what the text's order comes to. -/
namespace Go.AV
open Go.RowKit

section
variable {C : Cfg} {W0 : Entry} {F0 : Nat → Prop} {CC : FuncId → List AV → AV → Prop} {orc : Nat → FuncId → List AV → Option AV} {ops : Array Oper} {st st' : St} {σ : Nat → St} {Q : Exit → Act → World → Prop}

/-- Between two states nothing has written the slot. -/
theorem Tr.slotSame (T : Tr C CC orc ops st st' σ) {s i : Nat} : ∀ m, i ≤ m → m ≤ ops.size → (∀ (k : Nat) (o : Oper), i ≤ k → k < m → ops[k]? = some o → ¬ (o.dst = some s ∨ growing C (σ k) o = true)) → get (σ m).env s = get (σ i).env s
  | 0, h, _, _ => by have e : i = 0 := by omega
                     subst e; rfl
  | m + 1, h, hm, hw => by
    by_cases e : i = m + 1
    · subst e; rfl
    · have ho : ops[m]? = some ops[m] := by simp [show m < ops.size by omega]
      obtain ⟨qs, h1, _⟩ := T.step m _ ho
      have hn := hw m _ (by omega) (by omega) ho
      rw [(absStep_frame (by simpa using fun e => hn (.inr e)) h1).1 s fun e => hn (.inl e)]
      exact T.slotSame m (by omega) (by omega) fun k o h1 h2 h3 => hw k o h1 (by omega) h3
theorem Tr.boxSame (T : Tr C CC orc ops st st' σ) {b i : Nat} : ∀ m, i ≤ m → m ≤ ops.size → (∀ (k : Nat) (o : Oper), i ≤ k → k < m → ops[k]? = some o → ¬ (b ∈ wrBox C (σ k) o ∨ growing C (σ k) o = true)) → get (σ m).heap b = get (σ i).heap b
  | 0, h, _, _ => by have e : i = 0 := by omega
                     subst e; rfl
  | m + 1, h, hm, hw => by
    by_cases e : i = m + 1
    · subst e; rfl
    · have ho : ops[m]? = some ops[m] := by simp [show m < ops.size by omega]
      obtain ⟨qs, h1, _⟩ := T.step m _ ho
      have hn := hw m _ (by omega) (by omega) ho
      rw [(absStep_frame (by simpa using fun e => hn (.inr e)) h1).2 b fun e => hn (.inl e)]
      exact T.boxSame m (by omega) (by omega) fun k o h1 h2 h3 => hw k o h1 (by omega) h3

/-- What has come up so far, and the facts that stand. -/
structure Vers (C : Cfg) (ops : Array Oper) (σ : Nat → St) (D : Nat → Prop) (S : St) : Prop where
  slot : ∀ s, ∃ m, m ≤ ops.size ∧ (∀ (k : Nat) (o : Oper), ops[k]? = some o → (o.dst = some s ∨ growing C (σ k) o = true) → (D k ↔ k < m)) ∧ get S.env s = get (σ m).env s
  box : ∀ b, ∃ m, m ≤ ops.size ∧ (∀ (k : Nat) (o : Oper), ops[k]? = some o → (b ∈ wrBox C (σ k) o ∨ growing C (σ k) o = true) → (D k ↔ k < m)) ∧ get S.heap b = get (σ m).heap b

theorem memN_mem {b : Nat} : ∀ {l : List Nat}, b ∈ l → memN b l = true
  | [], h => by cases h
  | x :: l, h => by
    rcases List.mem_cons.1 h with rfl | h2
    · simp [memN]
    · simp [memN, memN_mem h2]

theorem conf_slot_rw {x y : Oper × St × St} {all : List Oper} {s : Nat} (h1 : x.1.dst = some s) (h2 : rdSlot all y.1 s = true) : conflict C all x y = true := by
  simp [conflict, h1, h2]
theorem conf_slot_ww {x y : Oper × St × St} {all : List Oper} {s : Nat} (h1 : x.1.dst = some s) (h2 : y.1.dst = some s) : conflict C all x y = true := by
  simp [conflict, h1, h2]
theorem conf_slot_wr {x y : Oper × St × St} {all : List Oper} {s : Nat} (h1 : rdSlot all x.1 s = true) (h2 : y.1.dst = some s) : conflict C all x y = true := by
  simp [conflict, h1, h2]
theorem conf_box_rw {x y : Oper × St × St} {all : List Oper} {b : Nat} (h1 : b ∈ wrBox C x.2.1 x.1) (h2 : rdBox C y.2.1 y.1 b = true) : conflict C all x y = true := by
  simp only [conflict, Bool.or_eq_true, List.any_eq_true]
  exact .inr (.inr (.inl ⟨b, h1, .inl h2⟩))
theorem conf_box_ww {x y : Oper × St × St} {all : List Oper} {b : Nat} (h1 : b ∈ wrBox C x.2.1 x.1) (h2 : b ∈ wrBox C y.2.1 y.1) : conflict C all x y = true := by
  simp only [conflict, Bool.or_eq_true, List.any_eq_true]
  exact .inr (.inr (.inl ⟨b, h1, .inr (memN_mem h2)⟩))
theorem conf_box_wr {x y : Oper × St × St} {all : List Oper} {b : Nat} (h1 : rdBox C x.2.1 x.1 b = true) (h2 : b ∈ wrBox C y.2.1 y.1) : conflict C all x y = true := by
  simp only [conflict, Bool.or_eq_true, List.any_eq_true]
  exact .inr (.inr (.inr ⟨b, h2, h1⟩))

theorem clash_of {x y : Oper × St × St} {all : List Oper} (h : conflict C all x y = true) : clash C all x y = true := by simp [clash, h]
theorem clash_l {x y : Oper × St × St} {all : List Oper} (h : growing C x.2.1 x.1 = true) : clash C all x y = true := by simp [clash, h]
theorem clash_r {x y : Oper × St × St} {all : List Oper} (h : growing C y.2.1 y.1 = true) : clash C all x y = true := by simp [clash, h]
/-- A set of operations that is closed under the edges. -/
def Closed (ops : Array Oper) (D : Nat → Prop) : Prop := ∀ (k : Nat) (o : Oper), D k → ops[k]? = some o → ∀ e ∈ o.after.toList, Region.binds .any e = true → D e.on

section
variable {D : Nat → Prop} {S : St} {j : Nat} {y : Oper}

/-- In what the next operation reads the facts are those of its own place in the text. -/
theorem Vers.reads (T : Tr C CC orc ops st st' σ) (V : Vers C ops σ D S) (hD : Closed ops D) (hy : ops[j]? = some y) (hnot : ¬ D j) (hanc : ∀ i, ((masks ops.toList []).getD j 0).testBit i = true → D i) :
    Alike2 C ops.toList y (σ j) S := by
  have hjn : j < ops.size := (Array.getElem?_eq_some_iff.1 hy).1
  have after : ∀ (k : Nat) (o : Oper), j < k → ops[k]? = some o → clash C ops.toList (y, σ j, σ (j + 1)) (o, σ k, σ (k + 1)) = true → ¬ D k := by
    intro k o hk ho hc hDk
    exact hnot (anc_closed hD k o ho (fun e he hb => hD k o hDk ho e he hb) j (T.conf j k y o hk hy ho hc))
  have before : ∀ (k : Nat) (o : Oper), k < j → ops[k]? = some o → clash C ops.toList (o, σ k, σ (k + 1)) (y, σ j, σ (j + 1)) = true → D k := fun k o hk ho hc => hanc k (T.conf k j o y hk ho hy hc)
  refine ⟨fun s hs => ?_, fun b hb => ?_⟩
  · obtain ⟨m, hm, hw, he⟩ := V.slot s
    rw [he]
    by_cases hmj : m ≤ j
    · refine (T.slotSame j hmj (by omega) fun k o h1 h2 ho hd => ?_)
      have := before k o h2 ho (hd.elim (fun hd => clash_of (conf_slot_rw hd hs)) fun hg => clash_l hg)
      have := (hw k o ho hd).1 this
      omega
    · refine (T.slotSame m (by omega) hm fun k o h1 h2 ho hd => ?_).symm
      have hDk := (hw k o ho hd).2 h2
      rcases Nat.eq_or_lt_of_le h1 with h3 | h3
      · subst h3; exact hnot hDk
      · exact after k o h3 ho (hd.elim (fun hd => clash_of (conf_slot_wr hs hd)) fun hg => clash_r hg) hDk
  · obtain ⟨m, hm, hw, he⟩ := V.box b
    rw [he]
    by_cases hmj : m ≤ j
    · refine (T.boxSame j hmj (by omega) fun k o h1 h2 ho hd => ?_)
      have := before k o h2 ho (hd.elim (fun hd => clash_of (conf_box_rw hd hb)) fun hg => clash_l hg)
      have := (hw k o ho hd).1 this
      omega
    · refine (T.boxSame m (by omega) hm fun k o h1 h2 ho hd => ?_).symm
      have hDk := (hw k o ho hd).2 h2
      rcases Nat.eq_or_lt_of_le h1 with h3 | h3
      · subst h3; exact hnot hDk
      · exact after k o h3 ho (hd.elim (fun hd => clash_of (conf_box_wr hb hd)) fun hg => clash_r hg) hDk

theorem wrBox_new {o : Oper} {S : St} {d : Nat} (hn : isNew o.op = true) (hd : o.dst = some d) : wrBox C S o = [d] := by
  cases hop : o.op with
  | call c =>
    obtain ⟨callee, args, tys⟩ := c
    cases callee with
    | builtin b => cases b <;> simp [isNew, hop] at hn <;> simp [wrBox, hop, hd]
    | _ => simp [isNew, hop] at hn
  | _ => simp [isNew, hop] at hn <;> simp [wrBox, hop, hd]

/-- A box that is still to be made is named nowhere. -/
theorem Vers.fresh (T : Tr C CC orc ops st st' σ) (V : Vers C ops σ D S) (hD : Closed ops D) (hy : ops[j]? = some y) (hnot : ¬ D j) (hn : isNew y.op = true) (hgr : growing C (σ j) y = false) {d : Nat} (hd : y.dst = some d) :
    (∀ s x, get S.env s = some x → x.names d = false) ∧ (∀ b c, get S.heap b = some c → c.names d = false ∧ b ≠ d) ∧ (!Nat.blt d 1099511627776) = false := by
  obtain ⟨d', hd', hf, hng, hw⟩ := T.new j y hy hn hgr
  rw [hd] at hd'; cases hd'
  simp only [freshBox, Bool.not_eq_true', Bool.or_eq_false_iff] at hf
  have notby : ∀ (k : Nat) (z : Oper), ops[k]? = some z → D k → wroteName C (z, σ k, σ (k + 1)) d = true → False := by
    intro k z hk hDk hwn
    rcases hw k z hk hwn with h1 | h1
    · subst h1; exact hnot hDk
    · exact hnot (anc_closed hD k z hk (fun e he hb => hD k z hDk hk e he hb) j h1)
  have hst := T.s0
  have nog : ∀ (k : Nat) (z : Oper), ops[k]? = some z → D k → growing C (σ k) z = false := by
    intro k z hk hDk
    cases hg : growing C (σ k) z with
    | false => rfl
    | true =>
      rcases Nat.lt_trichotomy k j with h1 | h1 | h1
      · rw [hng k z h1 hk] at hg; cases hg
      · subst h1; exact (hnot hDk).elim
      · exact (hnot (anc_closed hD k z hk (fun e he hb => hD k z hDk hk e he hb) j (T.conf j k y z h1 hy hk (clash_r hg)))).elim
  -- the last writer below m
  have lastSlot : ∀ (s m : Nat), m ≤ ops.size → (∀ (k : Nat) (o : Oper), ops[k]? = some o → (o.dst = some s ∨ growing C (σ k) o = true) → (D k ↔ k < m)) → ∀ x, get (σ m).env s = some x → x.names d = false := by
    intro s m
    induction m with
    | zero => intro _ _ x hx; rw [hst] at hx; exact namesEnv_get hx hf.1
    | succ m ih =>
      intro hm hwr x hx
      have ho : ops[m]? = some ops[m] := by simp [show m < ops.size by omega]
      by_cases hds : (ops[m]).dst = some s
      · cases hnm : x.names d with
        | false => rfl
        | true =>
          have hDm := (hwr m _ ho (.inl hds)).2 (by omega)
          exact (notby m _ ho hDm (by simp [wroteName, hds, hx, hnm])).elim
      · obtain ⟨qs, h1, _⟩ := T.step m _ ho
        have hgm : growing C (σ m) ops[m] = false := by
          cases hg : growing C (σ m) ops[m] with
          | false => rfl
          | true => rw [nog m _ ho ((hwr m _ ho (.inr hg)).2 (by omega))] at hg; cases hg
        rw [(absStep_frame hgm h1).1 s hds] at hx
        refine ih (by omega) (fun k o hk hdk => ?_) x hx
        have := hwr k o hk hdk
        have hkm : k ≠ m := fun e => by subst e; rw [ho] at hk; cases hk; exact hdk.elim hds fun hg => by rw [hgm] at hg; cases hg
        exact this.trans ⟨fun h => by omega, fun h => by omega⟩
  have lastBox : ∀ (b m : Nat), m ≤ ops.size → (∀ (k : Nat) (o : Oper), ops[k]? = some o → (b ∈ wrBox C (σ k) o ∨ growing C (σ k) o = true) → (D k ↔ k < m)) → ∀ c, get (σ m).heap b = some c → c.names d = false ∧ b ≠ d := by
    intro b m
    induction m with
    | zero => intro _ _ c hc; rw [hst] at hc; exact namesHeap_get hc hf.2.1
    | succ m ih =>
      intro hm hwr c hc
      have ho : ops[m]? = some ops[m] := by simp [show m < ops.size by omega]
      by_cases hds : b ∈ wrBox C (σ m) ops[m]
      · have hDm := (hwr m _ ho (.inl hds)).2 (by omega)
        refine ⟨?_, fun e => ?_⟩
        · cases hnm : c.names d with
          | false => rfl
          | true =>
            refine (notby m _ ho hDm ?_).elim
            simp only [wroteName, Bool.or_eq_true, List.any_eq_true]
            exact .inr (.inl ⟨b, hds, by rw [hc]; exact hnm⟩)
        · subst e
          refine (notby m _ ho hDm ?_).elim
          simp only [wroteName, Bool.or_eq_true]
          exact .inr (.inr (memN_mem hds))
      · obtain ⟨qs, h1, _⟩ := T.step m _ ho
        have hgm : growing C (σ m) ops[m] = false := by
          cases hg : growing C (σ m) ops[m] with
          | false => rfl
          | true => rw [nog m _ ho ((hwr m _ ho (.inr hg)).2 (by omega))] at hg; cases hg
        rw [(absStep_frame hgm h1).2 b hds] at hc
        refine ih (by omega) (fun k o hk hdk => ?_) c hc
        have := hwr k o hk hdk
        have hkm : k ≠ m := fun e => by subst e; rw [ho] at hk; cases hk; exact hdk.elim hds fun hg => by rw [hgm] at hg; cases hg
        exact this.trans ⟨fun h => by omega, fun h => by omega⟩
  refine ⟨fun s x hx => ?_, fun b c hc => ?_, hf.2.2⟩
  · obtain ⟨m, hm, hwr, he⟩ := V.slot s
    rw [he] at hx
    exact lastSlot s m hm hwr x hx
  · obtain ⟨m, hm, hwr, he⟩ := V.box b
    rw [he] at hc
    exact lastBox b m hm hwr c hc
end

theorem absOp_new {e : Operand → Option AV} {dst : Option Nat} {o1 : FuncId → List AV → Option AV} {op : Op} {r : Res} {c : BoxC} {st : St} (h : absOp C st e dst o1 CC op = some r) (hr : r.eff = .new c) : isNew op = true := by
  cases op with
  | alloc => rfl
  | box => rfl
  | buildSlice => rfl
  | makeSlice => rfl
  | binOp op t x y t' =>
    simp only [absOp] at h
    repeat' split at h
    all_goals first | (cases h; done) | (rw [shiftAV_eff h] at hr; cases hr) | (rw [binAV_eff h] at hr; cases hr)
  | unOp op t x =>
    simp only [absOp] at h
    repeat' split at h
    all_goals first | (cases h; done) | (cases h; cases hr; done) | (cases h; rw [arith_eff'] at hr; cases hr)
  | makeFunc fn f caps =>
    cases fn <;> simp only [absOp] at h <;> (repeat' split at h) <;> first | (cases h; done) | (cases h; cases hr; done)
  | call c' =>
    obtain ⟨callee, args, tys⟩ := c'
    cases callee with
    | invoke x m => simp [absOp] at h
    | value fx =>
      simp only [absOp] at h
      repeat' split at h
      all_goals first | (cases h; done) | (cases h; cases hr; done)
    | builtin b =>
      cases b with
      | append => rfl
      | _ =>
        simp only [absOp] at h
        repeat' split at h
        all_goals first | (cases h; done) | (cases h; cases hr; done)
  | _ =>
    simp only [absOp] at h
    repeat' split at h
    all_goals first | (cases h; done) | (cases h; cases hr; done)

theorem wrBox_local {all : List Oper} {o : Oper} {s1 s2 : St} (h : Alike2 C all o s1 s2) : wrBox C s1 o = wrBox C s2 o := by
  unfold wrBox
  cases hop : o.op with
  | store t x v => simp only []; rw [h.evS (x := x) (by rw [hop]; simp [Op.operands])]
  | call c =>
    simp only []
    cases hc : c.callee with
    | builtin b =>
      cases b with
      | copy =>
        simp only []
        cases ha : c.args.toList with
        | nil => rfl
        | cons x l => simp only []; rw [h.evS (x := x) (by rw [hop]; simp only [Op.operands, Call.operands, Array.toList_append, List.mem_append]; right; rw [ha]; simp)]
      | _ => rfl
    | _ => rfl
  | _ => rfl

theorem growing_local {all : List Oper} {o : Oper} {s1 s2 : St} (h : Alike2 C all o s1 s2) : growing C s1 o = growing C s2 o := by
  unfold growing
  cases hop : o.op with
  | call c =>
    simp only []
    cases hc : c.callee with
    | builtin b =>
      cases b with
      | append =>
        simp only []
        cases ha : c.args.toList with
        | nil => rfl
        | cons x l => simp only []; rw [h.evS (x := x) (by rw [hop]; simp only [Op.operands, Call.operands, Array.toList_append, List.mem_append]; right; rw [ha]; simp)]
      | _ => rfl
    | _ => rfl
  | _ => rfl

theorem guard_local {all : List Oper} {o : Oper} {s1 s2 : St} (h : Alike2 C all o s1 s2) {g : Nat × Bool} (hg : o.guard = some g) : guardAV C s1 all g = guardAV C s2 all g := by
  unfold guardAV
  cases ho : all[g.1]? with
  | none => rfl
  | some o' =>
    simp only []
    cases hd : o'.dst with
    | none => rfl
    | some d =>
      simp only []
      rw [h.slot d (by simp [rdSlot, hg, ho, hd])]

theorem absPlain_eff {o1 : FuncId → List AV → Option AV} {o : Oper} {s1 : St} {r : Res} (hno : growing C s1 o = false) (hr : absPlain C CC o1 s1 o = some r) :
    (r.eff = .none ∧ wrBox C s1 o = []) ∨ (∃ c d, r.eff = .new c ∧ o.dst = some d ∧ wrBox C s1 o = [d]) ∨ (∃ b c, r.eff = .upd b c ∧ wrBox C s1 o = [b]) := by
  unfold absPlain at hr
  split at hr
  · rename_i hop
    repeat' split at hr
    all_goals first | (cases hr; done) | (cases hr; exact .inl ⟨rfl, by simp [wrBox, hop]⟩)
  · split at hr
    · rename_i r' hr'
      have he := absOp_eff hno hr'
      cases hr
      exact he
    · cases hr

/-- The same operation at a state that is alike in what it reads. -/
theorem absStep_local {o1 : FuncId → List AV → Option AV} {all : List Oper} {o : Oper} {s1 s1' s2 : St} {ps : List Prop} (h : Alike2 C all o s1 s2) (hno : growing C s1 o = false) (hs : absStep C CC o1 all s1 o = some (s1', ps))
    (hf : isNew o.op = true → ∀ d, o.dst = some d → freshBox s2 d = true) :
    ∃ s2', absStep C CC o1 all s2 o = some (s2', ps) ∧ (∀ s, o.dst = some s → get s2'.env s = get s1'.env s) ∧ (∀ b, b ∈ wrBox C s1 o → get s2'.heap b = get s1'.heap b) := by
  have hput : ∀ {a b : St} {v : AV} {s : Nat}, o.dst = some s → get (putDst a o.dst v).env s = get (putDst b o.dst v).env s := by
    intro a b v s hd
    rw [hd]
    simp only [putDst, get_put_same]
  unfold absStep at hs ⊢
  split at hs
  · cases hs
  rename_i hd
  cases hg : o.guard with
  | none =>
    simp only [hg] at hs ⊢
    split at hs
    case h_2 => cases hs
    rename_i r hr
    rw [absPlain_local h] at hr
    rw [hr]
    simp only []
    split at hs
    case h_2 => cases hs
    rename_i st1 hst
    cases hs
    have heff := absPlain_eff (growing_local h ▸ hno) hr
    rw [← wrBox_local h] at heff
    rcases heff with ⟨he, hw⟩ | ⟨c, d, he, hdd, hw⟩ | ⟨b, c, he, hw⟩
    · rw [he] at hst ⊢
      simp only [applyEff, Option.some.injEq] at hst ⊢
      subst hst
      exact ⟨_, rfl, fun s hs => hput hs, fun b hb => by rw [hw] at hb; cases hb⟩
    · have hnew : isNew o.op = true := by
        unfold absPlain at hr
        split at hr
        · repeat' split at hr
          all_goals first | (cases hr; done) | (cases hr; cases he)
        · split at hr
          · rename_i r' hr'
            refine absOp_new hr' (c := c) ?_
            cases hr
            exact he
          · cases hr
      rw [he, hdd] at hst ⊢
      simp only [applyEff] at hst ⊢
      split at hst
      case h_2 => cases hst
      rename_i hc
      cases hst
      simp only [Bool.and_eq_true] at hc
      rw [hf hnew d hdd, hc.2]
      simp only [Bool.and_self]
      refine ⟨_, rfl, fun s hs => ?_, fun b hb => ?_⟩
      · cases hs; simp only [putDst, get_put_same]
      · rw [hw] at hb
        obtain rfl : b = d := by simpa using hb
        simp only [putDst, get_put_same]
    · rw [he] at hst ⊢
      simp only [applyEff, Option.some.injEq] at hst ⊢
      subst hst
      refine ⟨_, rfl, fun s hs => hput hs, fun b' hb => ?_⟩
      rw [hw] at hb
      obtain rfl : b' = b := by simpa using hb
      cases o.dst <;> simp only [putDst, get_put_same]
  | some g =>
    simp only [hg] at hs ⊢
    rw [guard_local h hg] at hs
    split at hs
    case h_2 => cases hs
    rename_i q hq
    rw [absPlain_local h] at hs
    split at hs
    case h_2 => cases hs
    rename_i r hr
    split at hs
    case h_2 => cases hs
    rename_i he
    cases hs
    refine ⟨_, rfl, fun s hs => hput hs, fun b hb => ?_⟩
    have heff := absPlain_eff (growing_local h ▸ hno) hr
    rw [← wrBox_local h] at heff
    rcases heff with ⟨_, hw⟩ | ⟨c, d, he2, _⟩ | ⟨b, c, he2, _⟩
    · rw [hw] at hb; cases hb
    · rw [he2] at he; cases he
    · rw [he2] at he; cases he

/-- Facts that are looked up alike. -/
theorem Rel.alike {a : Act} {w : World} {F : Nat → Prop} {φ : Nat → Place} {S S' : St} (h : Rel C W0 F0 S a w F φ) (he : ∀ s, get S'.env s = get S.env s) (hh : ∀ b, get S'.heap b = get S.heap b) : Rel C W0 F0 S' a w F φ :=
  ⟨fun s x hs => h.env s x (by rw [← he]; exact hs), fun b c hc => h.heap b c (by rw [← hh]; exact hc), fun b b' c c' g h1 h2 => h.inj b b' c c' g (by rw [← hh]; exact h1) (by rw [← hh]; exact h2), h.ro, h.base, h.sub, h.new, h.dfr, h.tsz, h.glob, fun b p hp => ⟨(h.anc b p hp).1, (h.anc b p hp).2.1, fun c hc => (h.anc b p hp).2.2 c (by rw [← hh]; exact hc)⟩⟩

theorem draw_step (T : Tr C CC orc ops st st' σ) {D : Nat → Prop} {S : St} (V : Vers C ops σ D S) (hD : Closed ops D) {j : Nat} {y : Oper} (hy : ops[j]? = some y) (hnot : ¬ D j) (hedge : ∀ e ∈ y.after.toList, Region.binds .any e = true → D e.on) :
    ∃ S0 S' qs, (∀ s, get S0.env s = get S.env s) ∧ (∀ b, get S0.heap b = get S.heap b) ∧ absStep C CC (orc j) ops.toList S0 y = some (S', qs) ∧ (∀ p ∈ qs, p) ∧ Vers C ops σ (fun k => D k ∨ k = j) S' ∧ Closed ops (fun k => D k ∨ k = j) := by
  have hjn : j < ops.size := (Array.getElem?_eq_some_iff.1 hy).1
  have hanc := anc_closed hD j y hy hedge
  have hal := V.reads T hD hy hnot hanc
  have hal2 : Alike2 C ops.toList y (σ j) ⟨dedup S.env, dedup S.heap⟩ := ⟨fun s hs => by rw [get_dedup]; exact hal.slot s hs, fun b hb => by rw [get_dedup]; exact hal.box b hb⟩
  obtain ⟨qs, hstep, hqs⟩ := T.step j y hy
  have after : ∀ (k : Nat) (o : Oper), j < k → ops[k]? = some o → clash C ops.toList (y, σ j, σ (j + 1)) (o, σ k, σ (k + 1)) = true → ¬ D k := by
    intro k o hk ho hc hDk
    exact hnot (anc_closed hD k o ho (fun e he hb => hD k o hDk ho e he hb) j (T.conf j k y o hk hy ho hc))
  have before : ∀ (k : Nat) (o : Oper), k < j → ops[k]? = some o → clash C ops.toList (o, σ k, σ (k + 1)) (y, σ j, σ (j + 1)) = true → D k := fun k o hk ho hc => hanc k (T.conf k j o y hk ho hy hc)
  have hcl : Closed ops (fun k => D k ∨ k = j) := by
    intro k o hk ho e he hb
    rcases hk with hk | hk
    · exact .inl (hD k o hk ho e he hb)
    · subst hk; rw [hy] at ho; cases ho; exact .inl (hedge e he hb)
  cases hno : growing C (σ j) y with
  | true =>
    have hall : ∀ (k : Nat) (o : Oper), ops[k]? = some o → (D k ↔ k < j) := fun k o ho => by
      rcases Nat.lt_trichotomy k j with h1 | h1 | h1
      · exact ⟨fun _ => h1, fun _ => before k o h1 ho (clash_r hno)⟩
      · subst h1; exact ⟨fun h => (hnot h).elim, fun h => by omega⟩
      · exact ⟨fun h => (after k o h1 ho (clash_l hno) h).elim, fun h => by omega⟩
    have e1 : ∀ s, get (σ j).env s = get S.env s := fun s => by
      obtain ⟨m, hm, hw, he⟩ := V.slot s
      rw [he]
      by_cases hmj : m ≤ j
      · exact T.slotSame j hmj (by omega) fun k o h1 h2 ho hd => by
          have := (hw k o ho hd).1 ((hall k o ho).2 h2); omega
      · exact (T.slotSame m (by omega) hm fun k o h1 h2 ho hd => by
          have := (hall k o ho).1 ((hw k o ho hd).2 h2); omega).symm
    have e2 : ∀ b, get (σ j).heap b = get S.heap b := fun b => by
      obtain ⟨m, hm, hw, he⟩ := V.box b
      rw [he]
      by_cases hmj : m ≤ j
      · exact T.boxSame j hmj (by omega) fun k o h1 h2 ho hd => by
          have := (hw k o ho hd).1 ((hall k o ho).2 h2); omega
      · exact (T.boxSame m (by omega) hm fun k o h1 h2 ho hd => by
          have := (hall k o ho).1 ((hw k o ho hd).2 h2); omega).symm
    have hD1 : ∀ (k : Nat) (o : Oper), ops[k]? = some o → ((D k ∨ k = j) ↔ k < j + 1) := fun k o ho => by
      rw [hall k o ho]; omega
    exact ⟨σ j, σ (j + 1), qs, e1, e2, hstep, hqs, ⟨fun s => ⟨j + 1, by omega, fun k o ho _ => hD1 k o ho, rfl⟩, fun b => ⟨j + 1, by omega, fun k o ho _ => hD1 k o ho, rfl⟩⟩, hcl⟩
  | false =>
  obtain ⟨S', hS', hs1, hs2⟩ := absStep_local hal2 hno hstep fun hn d hd => by
    obtain ⟨f1, f2, f3⟩ := V.fresh T hD hy hnot hn hno hd
    simp only [freshBox, Bool.not_eq_true', Bool.or_eq_false_iff]
    exact ⟨namesEnv_of fun p hp => f1 p.1 p.2 (dedup_mem hp), namesHeap_of fun p hp => f2 p.1 p.2 (dedup_mem hp), f3⟩
  obtain ⟨fr1, fr2⟩ := absStep_frame (growing_local hal2 ▸ hno) hS'
  rw [← wrBox_local hal2] at fr2
  refine ⟨⟨dedup S.env, dedup S.heap⟩, S', qs, fun s => get_dedup _ _, fun b => get_dedup _ _, hS', hqs, ⟨fun s => ?_, fun b => ?_⟩, hcl⟩
  · by_cases hd : y.dst = some s
    · refine ⟨j + 1, by omega, fun k o ho hk => ?_, hs1 s hd⟩
      rcases Nat.lt_trichotomy k j with h1 | h1 | h1
      · exact ⟨fun _ => by omega, fun _ => .inl (before k o h1 ho (hk.elim (fun hk => clash_of (conf_slot_ww hk hd)) fun hg => clash_l hg))⟩
      · exact ⟨fun _ => by omega, fun _ => .inr h1⟩
      · refine ⟨fun h => ?_, fun h => by omega⟩
        rcases h with h | h
        · exact (after k o h1 ho (hk.elim (fun hk => clash_of (conf_slot_ww hd hk)) fun hg => clash_r hg) h).elim
        · omega
    · obtain ⟨m, hm, hw, he⟩ := V.slot s
      refine ⟨m, hm, fun k o ho hk => ?_, by rw [fr1 s hd, get_dedup]; exact he⟩
      have hkj : k ≠ j := fun e => by subst e; rw [hy] at ho; cases ho; exact hk.elim hd fun hg => by rw [hno] at hg; cases hg
      rw [← hw k o ho hk]
      exact ⟨fun h => h.resolve_right hkj, fun h => .inl h⟩
  · by_cases hd : b ∈ wrBox C (σ j) y
    · refine ⟨j + 1, by omega, fun k o ho hk => ?_, hs2 b hd⟩
      rcases Nat.lt_trichotomy k j with h1 | h1 | h1
      · exact ⟨fun _ => by omega, fun _ => .inl (before k o h1 ho (hk.elim (fun hk => clash_of (conf_box_ww hk hd)) fun hg => clash_l hg))⟩
      · exact ⟨fun _ => by omega, fun _ => .inr h1⟩
      · refine ⟨fun h => ?_, fun h => by omega⟩
        rcases h with h | h
        · exact (after k o h1 ho (hk.elim (fun hk => clash_of (conf_box_ww hd hk)) fun hg => clash_r hg) h).elim
        · omega
    · obtain ⟨m, hm, hw, he⟩ := V.box b
      refine ⟨m, hm, fun k o ho hk => ?_, by rw [fr2 b hd, get_dedup]; exact he⟩
      have hkj : k ≠ j := fun e => by subst e; rw [hy] at ho; cases ho; exact hk.elim hd fun hg => by rw [hno] at hg; cases hg
      rw [← hw k o ho hk]
      exact ⟨fun h => h.resolve_right hkj, fun h => .inl h⟩

theorem draw_any (T : Tr C CC orc ops st st' σ) (hT : TysOK C) (hCC : CCOK C CC) {md : Region.Mode} (hQ : ∀ a' w' F' φ', Rel C W0 F0 st' a' w' F' φ' → Q .normal a' w') :
    ∀ (fuel : Nat) (U : List Nat) (listed : Array Bool) (a : Act) (w : World) (S : St) (F : Nat → Prop) (φ : Nat → Place), U.length = fuel → U.Nodup → listed.size = ops.size → (∀ k, k < ops.size → (listed.getD k true = false ↔ k ∈ U)) →
      Vers C ops σ (fun k => listed.getD k false = true) S → Closed ops (fun k => listed.getD k false = true) → Rel C W0 F0 S a w F φ → wpAny C.P md ops Q fuel listed a w := by
  have ready : ∀ (listed : Array Bool) (i : Nat), listed.size = ops.size → (i ∈ Region.ready md ops listed ↔ ∃ o, ops[i]? = some o ∧ listed.getD i true = false ∧ ∀ e ∈ o.after.toList, Region.binds md e = true → listed.getD e.on false = true) := by
    intro listed i hsz
    simp only [Region.ready, List.mem_filter, List.mem_range, Bool.and_eq_true, Bool.not_eq_true']
    constructor
    · rintro ⟨h1, h2, h3⟩
      have ho : ops[i]? = some ops[i] := by simp [h1]
      rw [ho] at h3
      simp only [Option.map_some, Option.getD_some, Array.all_eq_true_iff_forall_mem] at h3
      exact ⟨_, ho, h2, fun e he hb => by
        have := h3 e (by simpa using he)
        simpa [hb] using this⟩
    · rintro ⟨o, ho, h2, h3⟩
      refine ⟨(Array.getElem?_eq_some_iff.1 ho).1, h2, ?_⟩
      rw [ho]
      simp only [Option.map_some, Option.getD_some, Array.all_eq_true_iff_forall_mem]
      intro e he
      by_cases hb : Region.binds md e = true
      · simp [h3 e (by simpa using he) hb]
      · simp [hb]
  have anyB : ∀ e : Edge, Region.binds .any e = true → Region.binds md e = true := by
    intro e he
    obtain ⟨on, g⟩ := e
    cases g <;> simp_all [Region.binds]
  have getDs : ∀ (listed : Array Bool) (k : Nat), k < listed.size → listed.getD k true = listed.getD k false := by
    intro l k hk
    simp [Array.getD_eq_getD_getElem?, hk]
  -- nothing is left to come up: all has
  have stop : ∀ (listed : Array Bool), listed.size = ops.size → Region.ready md ops listed = [] → ∀ k, k < ops.size → listed.getD k false = true := by
    intro listed hsz hr
    obtain ⟨rk, hrk⟩ := T.edge md
    suffices h : ∀ (r k : Nat), rk k = r → k < ops.size → listed.getD k false = true from fun k => h _ k rfl
    intro r
    induction r using Nat.strongRecOn with
    | _ r ih =>
      intro k hkr hk
      cases hl : listed.getD k false with
      | true => rfl
      | false =>
        have ho : ops[k]? = some ops[k] := by simp [hk]
        have : k ∈ Region.ready md ops listed := (ready listed k hsz).2 ⟨_, ho, by rw [getDs _ _ (by omega)]; exact hl, fun e he hb => by
          obtain ⟨h1, h2⟩ := hrk k _ ho e he hb
          exact ih (rk e.on) (by omega) e.on rfl h2⟩
        rw [hr] at this; cases this
  have fin : ∀ (listed : Array Bool) (a : Act) (w : World) (S : St) (F : Nat → Prop) (φ : Nat → Place), listed.size = ops.size → Region.ready md ops listed = [] → Vers C ops σ (fun k => listed.getD k false = true) S → Rel C W0 F0 S a w F φ → Q .normal a w := by
    intro listed a w S F φ hsz hr V hR
    have hall := stop listed hsz hr
    refine hQ a w F φ (hR.alike (fun s => ?_) fun b => ?_)
    · obtain ⟨m, hm, hw, he⟩ := V.slot s
      rw [he, ← T.sn]
      exact T.slotSame ops.size hm (Nat.le_refl _) fun k o h1 h2 ho hd => by
        have := (hw k o ho hd).1 (hall k h2); omega
    · obtain ⟨m, hm, hw, he⟩ := V.box b
      rw [he, ← T.sn]
      exact T.boxSame ops.size hm (Nat.le_refl _) fun k o h1 h2 ho hd => by
        have := (hw k o ho hd).1 (hall k h2); omega
  intro fuel
  induction fuel with
  | zero =>
    intro U listed a w S F φ hU _ hsz hl V hD hR
    have hU0 : U = [] := List.eq_nil_of_length_eq_zero hU
    subst hU0
    have hr : Region.ready md ops listed = [] := by
      cases hrr : Region.ready md ops listed with
      | nil => rfl
      | cons i l =>
        obtain ⟨o, ho, h2, _⟩ := (ready listed i hsz).1 (by rw [hrr]; simp)
        have := (hl i (Array.getElem?_eq_some_iff.1 ho).1).1 h2
        cases this
    exact ⟨hr, fin listed a w S F φ hsz hr V hR⟩
  | succ fuel ih =>
    intro U listed a w S F φ hU hnd hsz hl V hD hR
    refine ⟨fun hr => fin listed a w S F φ hsz hr V hR, fun i hi => ?_⟩
    obtain ⟨o, ho, h2, h3⟩ := (ready listed i hsz).1 hi
    have hin : i < ops.size := (Array.getElem?_eq_some_iff.1 ho).1
    have hnot : ¬ (listed.getD i false = true) := by rw [← getDs _ _ (by omega), h2]; simp
    obtain ⟨S0, S', qs, g1, g2, hS', hqs, V', hD'⟩ := draw_step T V hD ho hnot fun e he hb => h3 e he (anyB e hb)
    have hlist : ∀ k, ((listed.setIfInBounds i true).getD k false = true) ↔ (listed.getD k false = true ∨ k = i) := by
      intro k
      simp only [Array.getD_eq_getD_getElem?, Array.getElem?_setIfInBounds]
      by_cases hk : i = k
      · subst hk; simp [show i < listed.size by omega]
      · simp [hk, Ne.symm hk]
    have iU : i ∈ U := (hl i hin).1 h2
    have hnext := ih (U.erase i) (listed.setIfInBounds i true)
    have hK : ∀ a' w' F' φ', Rel C W0 F0 S' a' w' F' φ' → wpAny C.P md ops Q fuel (listed.setIfInBounds i true) a' w' := by
      intro a' w' F' φ' hR'
      refine hnext a' w' S' F' φ' (by rw [List.length_erase_of_mem iU, hU]; rfl) (hnd.erase i) (by simpa using hsz) (fun k hk => ?_) ?_ ?_ hR'
      · rw [hnd.mem_erase_iff, ← hl k hk]
        simp only [Array.getD_eq_getD_getElem?, Array.getElem?_setIfInBounds]
        by_cases hki : i = k
        · subst hki; simp [show i < listed.size by omega]
        · simp [hki, Ne.symm hki]
      · have : (fun k => (listed.setIfInBounds i true).getD k false = true) = (fun k => listed.getD k false = true ∨ k = i) := funext fun k => propext (hlist k)
        rw [this]; exact V'
      · have : (fun k => (listed.setIfInBounds i true).getD k false = true) = (fun k => listed.getD k false = true ∨ k = i) := funext fun k => propext (hlist k)
        rw [this]; exact hD'
    have hR2 : Rel C W0 F0 S0 a w F φ := hR.alike g1 g2
    have hstep := step_sound (Q := Q) (ops := ops) (K := wpAny C.P md ops Q fuel (listed.setIfInBounds i true)) hR2 hT hCC hS' hqs hK
    unfold wpOp
    rw [ho]
    simp only []
    split
    · rename_i hw; rw [if_pos hw] at hstep; exact .inl hstep
    · rename_i hw; rw [if_neg hw] at hstep; exact hstep

/-- A REGION WHOSE ORDER IS OPEN. -/
theorem draw_sound {ps : List Prop} {a : Act} {w : World} {F : Nat → Prop} {φ : Nat → Place} {id : Nat} (hT : TysOK C) (hCC : CCOK C CC) (h : absOps C CC orc ops.toList ops.toList 0 st = some (st', ps)) (hps : ∀ p ∈ ps, p) (hok : orderOK C CC orc ops.toList st = true)
    (hR : Rel C W0 F0 st a w F φ) (hQ : ∀ a' w' F' φ', Rel C W0 F0 st' a' w' F' φ' → Q .normal a' w') : (Code.region id ops true).wp C.P Q a w := by
  obtain ⟨σ, T⟩ := tr_of h hps hok
  have key : ∀ md, wpAny C.P md ops Q ops.size (Array.replicate ops.size false) a { w with drawn := w.drawn + 1 } := by
    intro md
    have hno : ∀ k, ¬ ((Array.replicate ops.size false).getD k false = true) := by
      intro k
      simp only [Array.getD_eq_getD_getElem?, Array.getElem?_replicate]
      split <;> simp
    refine draw_any T hT hCC hQ ops.size (List.range ops.size) _ a _ st F φ (by simp) List.nodup_range (by simp) (fun k hk => ?_) ⟨fun s => ⟨0, Nat.zero_le _, fun k o _ _ => ⟨fun h => absurd h (hno k), fun h => by omega⟩, by rw [T.s0]⟩, fun b => ⟨0, Nat.zero_le _, fun k o _ _ => ⟨fun h => absurd h (hno k), fun h => by omega⟩, by rw [T.s0]⟩⟩
      (fun k o hk => absurd hk (hno k)) ?_
    · simp [Array.getD_eq_getD_getElem?, hk]
    · exact hR.grown ⟨rfl, rfl, rfl, Nat.le_refl _, fun _ _ => rfl⟩ (fun _ hk => hk) (fun _ hk => .inl hk) hR.ro
  refine wp_region_draw fun t => ?_
  unfold Region.schedule
  split
  · exact wpAny_sound _ _ _ _ _ (key .any)
  · exact wpAny_sound _ _ _ _ _ (key _)
end
end Go.AV
/- Rows of the call's own that go into another row: from there on they are read only. -/
namespace Go.AV
open Go.RowKit

/- What the call's own rows read as where new rows are told from old ones: rows in blocks of N. -/
mutual
def frzN (N : Nat → Prop) (h : List (Nat × BoxC)) : AV → Option (AV × List Prop)
  | .own b n => match get h b with
    | some (.row _ sh n' f) => some (.nseq N sh n f, [n ≤ n'])
    | _ => none
  | .agg l => match frzNs N h l with | some (m, ps) => some (.agg m, ps) | none => none
  | .mc sh x => match frzN N h x with | some (y, ps) => some (.mc sh y, ps) | none => none
  | x => match x.isStat with | true => some (x, []) | false => none
def frzNs (N : Nat → Prop) (h : List (Nat × BoxC)) : List AV → Option (List AV × List Prop)
  | [] => some ([], [])
  | x :: l => match frzN N h x, frzNs N h l with
    | some (y, ps), some (m, qs) => some (y :: m, ps ++ qs)
    | _, _ => none
end
/-- The place of what says that each block is read only or new. -/
def keyN : Nat := 1099511627777
def fzOf (C : Cfg) (h : List (Nat × BoxC)) (x : AV) : Option (AV × List Prop) := match C.told with
  | true => match get C.G keyN with
    | some (.cov N) => frzN N h x
    | _ => frz h x
  | false => frz h x

def frzE (h : AV → Option (AV × List Prop)) : List (Nat × AV) → List (Nat × AV) × List Prop
  | [] => ([], [])
  | (k, x) :: l => match frzE h l with
    | (m, qs) => match x.isStat with
      | true => ((k, x) :: m, qs)
      | false => match h x with
        | some (y, ps) => ((k, y) :: m, ps ++ qs)
        | none => ((k, x) :: m, qs)
def rowsAt (h : List (Nat × BoxC)) : List Nat → Bool
  | [] => true
  | b :: l => (match get h b with | some c => c.isRow | none => false) && rowsAt h l
def frzSt (C : Cfg) (ns : List Nat) (st : St) : Option (St × List Prop) :=
  match rowsAt st.heap ns, frzE (fzOf C (selAll ns st.heap)) st.env with
  | true, (env, ps) => some (⟨env, dropAll ns st.heap⟩, ps)
  | false, _ => none
/-- What goes into a row. -/
def frzOps : Op → List Operand
  | .buildSlice _ _ parts => parts.toList.map (·.2)
  | .store _ _ x => [x]
  | .call c => c.args.toList
  | _ => []
def absFrz (C : Cfg) (CC : FuncId → List AV → AV → Prop) (orc : FuncId → List AV → Option AV) (st : St) (o : Oper) : Option (St × List Prop) :=
  match o.guard, frzOps o.op with
  | none, x :: l => match evList (ev C st) (x :: l) with
    | some vs => match frzSt C (AV.boxesL vs) st with
      | some (st1, ps) => match absStep C CC orc [] st1 o with
        | some (st', qs) => some (st', ps ++ qs)
        | none => none
      | none => none
    | none => none
  | _, _ => none

section
variable {C : Cfg} {W0 : Entry} {F0 : Nat → Prop} {st st' : St} {a : Act} {w : World} {F : Nat → Prop} {φ : Nat → Place} {CC : FuncId → List AV → AV → Prop} {o : Oper} {Q : Exit → Act → World → Prop}

mutual
theorem frzN_rep {N : Nat → Prop} (h : Rel C W0 F0 st a w F φ) (hN : ∀ k, F k ∨ N k) : ∀ (x : AV) (y : AV) (ps : List Prop), frzN N st.heap x = some (y, ps) → (∀ p ∈ ps, p) →
    (∀ v, Rep w F φ v x → RepS w (Lent st F φ) v y) ∧ (∀ sh j v, Rep w F φ v (leafAt sh x j) → RepS w (Lent st F φ) v (leafAt sh y j))
  | .own b n, y, ps, hf, hps => by
    simp only [frzN] at hf
    split at hf
    case h_2 => cases hf
    rename_i ty sh n' f hb
    cases hf
    have hn : n ≤ n' := hps _ (by simp)
    have key : ∀ v, Rep w F φ v (.own b n) → RepS w (Lent st F φ) v (.nseq N sh n f) := by
      intro v hv
      obtain ⟨hsh, _, hrow⟩ := h.heap b _ hb
      rcases hv.own_inv with ⟨g, hg, rfl, hc⟩ | ⟨hg, h0, rfl⟩
      · rcases hrow with ⟨h1, _⟩ | ⟨g', cs, hg', _, hF, hh, hsz, hnc, _, hrep⟩
        · rw [hg] at h1; cases h1
        · obtain rfl : g' = g := by rw [hg] at hg'; injection hg' with e; exact e.symm
          refine .nseq N g' 0 n _ sh f (fun i j => cs.getD (i * sh.size + j) undef) (.inr ⟨b, _, hb, hg⟩) ((hN g').resolve_left hF) ⟨cs, _, hh⟩ hc (fun i hi j hj => ?_) fun i hi j hj => ?_
          · have hmul : (i + 1) * sh.size ≤ (φ b).cap * sh.size := Nat.mul_le_mul_right _ (by omega)
            rw [Nat.add_mul] at hmul
            rw [Nat.zero_add]; exact cell_of hh (by omega)
          · exact (hrep i (by omega) j hj).keep (fun _ _ => rfl) fun k hk => .inl hk
      · subst h0; exact .nseq0 _ _ _ _ _
    refine ⟨key, fun s j v hv => ?_⟩
    cases s with
    | leaf => simp only [leafAt, asLeaf, AV.isOne] at hv ⊢; exact key v hv
    | agg ss => simp only [leafAt] at hv ⊢; exact .any _ (hv.one rfl)
    | arr m s => simp only [leafAt] at hv ⊢; exact .any _ (hv.one rfl)
  | .agg l, y, ps, hf, hps => by
    simp only [frzN] at hf
    split at hf
    case h_2 => cases hf
    rename_i m qs hm
    cases hf
    refine ⟨fun v hv => ?_, fun s j v hv => ?_⟩
    · cases hv with | stat hv => cases hv
    · cases s with
      | leaf => simp only [leafAt, asLeaf, AV.isOne] at hv ⊢; exact .any _ (hv.one rfl)
      | agg ss => simp only [leafAt] at hv ⊢; exact frzNs_leafs h hN l m ps hm hps ss j v hv
      | arr m s => simp only [leafAt] at hv ⊢; exact .any _ (hv.one rfl)
  | .mc sh x, y, ps, hf, hps => by
    simp only [frzN] at hf
    split at hf
    case h_2 => cases hf
    rename_i z qs hz
    cases hf
    obtain ⟨_, k2⟩ := frzN_rep h hN x z ps hz hps
    refine ⟨fun v hv => ?_, fun s' j v hv => ?_⟩
    · obtain ⟨cs, rfl, hsz, hr⟩ := hv.mc_inv
      exact .mc cs sh z hsz fun j hj => k2 sh j _ (hr j hj)
    · cases s' with
      | leaf => simp only [leafAt, asLeaf, AV.isOne] at hv ⊢; exact .any _ (hv.one rfl)
      | agg ss => simp only [leafAt] at hv ⊢; exact .any _ (hv.one rfl)
      | arr m s => simp only [leafAt] at hv ⊢; exact .any _ (hv.one rfl)
  | .any, y, ps, hf, hps | .int _ _, y, ps, hf, hps | .bool _, y, ps, hf, hps | .str _, y, ps, hf, hps | .nils, y, ps, hf, hps | .nilp, y, ps, hf, hps | .seq _ _ _, y, ps, hf, hps | .seqc _ _ _, y, ps, hf, hps
  | .nseq _ _ _ _, y, ps, hf, hps | .cov _, y, ps, hf, hps | .rptr _ _, y, ps, hf, hps | .arr _ _, y, ps, hf, hps | .st _, y, ps, hf, hps | .clo _ _, y, ps, hf, hps
  | .optr _ _ _, y, ps, hf, hps | .tup _, y, ps, hf, hps | .when _ _, y, ps, hf, hps | .ptr _ _, y, ps, hf, hps => by
    simp only [frzN] at hf
    split at hf
    case h_2 => cases hf
    rename_i hst
    cases hf
    exact ⟨fun v hv => (hv.toS hst).keep (fun _ _ => rfl) fun k hk => .inl hk, fun s j v hv => (hv.toS (stat_leafAt s _ j hst)).keep (fun _ _ => rfl) fun k hk => .inl hk⟩
theorem frzNs_leafs {N : Nat → Prop} (h : Rel C W0 F0 st a w F φ) (hN : ∀ k, F k ∨ N k) : ∀ (l m : List AV) (ps : List Prop), frzNs N st.heap l = some (m, ps) → (∀ p ∈ ps, p) → ∀ ss j v, Rep w F φ v (leafsAt ss l j) → RepS w (Lent st F φ) v (leafsAt ss m j)
  | [], m, ps, hf, _, ss, j, v, hv => by
    simp [frzNs] at hf; obtain ⟨rfl, rfl⟩ := hf
    cases ss <;> simp only [leafsAt] at hv ⊢ <;> exact .any _ (hv.one rfl)
  | x :: l, m, ps, hf, hps, ss, j, v, hv => by
    simp only [frzNs] at hf
    split at hf
    case h_2 => cases hf
    rename_i y ps1 m' ps2 h1 h2
    cases hf
    cases ss with
    | nil => simp only [leafsAt] at hv ⊢; exact .any _ (hv.one rfl)
    | cons s ss =>
      simp only [leafsAt] at hv ⊢
      split
      · rename_i hj
        rw [if_pos hj] at hv
        exact (frzN_rep h hN x y ps1 h1 fun p hp => hps p (by simp [hp])).2 s j v hv
      · rename_i hj
        rw [if_neg hj] at hv
        exact frzNs_leafs h hN l m' ps2 h2 (fun p hp => hps p (by simp [hp])) ss _ v hv
end

theorem frzE_get {h : AV → Option (AV × List Prop)} : ∀ {l m : List (Nat × AV)} {ps : List Prop} {s : Nat} {y : AV}, frzE h l = (m, ps) → (∀ p ∈ ps, p) → get m s = some y →
    ∃ x, get l s = some x ∧ (y = x ∨ ∃ qs, h x = some (y, qs) ∧ ∀ p ∈ qs, p)
  | [], m, ps, s, y, he, _, hm => by
    simp only [frzE] at he
    cases he
    simp [get] at hm
  | (k, x) :: l, m, ps, s, y, he, hps, hm => by
    simp only [frzE] at he
    obtain ⟨m', qs', hrec⟩ : ∃ m' qs', frzE h l = (m', qs') := ⟨_, _, rfl⟩
    rw [hrec] at he
    simp only at he
    have rest : ∀ {z : AV}, (∀ p ∈ qs', p) → get ((k, z) :: m') s = some y → (Nat.beq k s = true ∧ y = z) ∨ ∃ x', get l s = some x' ∧ Nat.beq k s = false ∧ (y = x' ∨ ∃ qs, h x' = some (y, qs) ∧ ∀ p ∈ qs, p) := by
      intro z hq hg
      simp only [get] at hg
      split at hg
      · rename_i e; cases hg; exact .inl ⟨e, rfl⟩
      · rename_i e
        obtain ⟨x', h1, h2⟩ := frzE_get hrec hq hg
        exact .inr ⟨x', h1, e, h2⟩
    have fin : ∀ {z : AV}, (∀ p ∈ qs', p) → get ((k, z) :: m') s = some y → (z = x ∨ ∃ qs, h x = some (z, qs) ∧ ∀ p ∈ qs, p) → ∃ x', get ((k, x) :: l) s = some x' ∧ (y = x' ∨ ∃ qs, h x' = some (y, qs) ∧ ∀ p ∈ qs, p) := by
      intro z hq hg hz
      rcases rest hq hg with ⟨e, rfl⟩ | ⟨x', h1, e, h2⟩
      · exact ⟨x, by simp only [get, e], hz⟩
      · exact ⟨x', by simp only [get, e]; exact h1, h2⟩
    split at he
    · cases he; exact fin hps hm (.inl rfl)
    · split at he
      · rename_i y' ps' hf
        cases he
        exact fin (fun p hp => hps p (List.mem_append.2 (.inr hp))) hm (.inr ⟨ps', hf, fun p hp => hps p (List.mem_append.2 (.inl hp))⟩)
      · cases he; exact fin hps hm (.inl rfl)

theorem Rel.frzSt (h : Rel C W0 F0 st a w F φ) {ns : List Nat} {st1 : St} {ps : List Prop} (hs : Go.AV.frzSt C ns st = some (st1, ps)) (hps : ∀ p ∈ ps, p) :
    ∃ F', Rel C W0 F0 st1 a w F' φ := by
  unfold Go.AV.frzSt at hs
  split at hs
  case h_2 => cases hs
  rename_i env ps' hr he
  cases hs
  have hsel : ∀ b c, get (selAll ns st.heap) b = some c → get st.heap b = some c ∧ b ∈ ns := fun b c hb => get_selAll hb
  have hR : Rel C W0 F0 { st with heap := selAll ns st.heap } a w F φ := h.setHeap (fun b c hb => h.heap b c (hsel b c hb).1)
    (fun b b' c c' g h1 h2 => h.inj b b' c c' g (hsel b c h1).1 (hsel b' c' h2).1) fun b p c hb hc => (h.anc b p hb).2.2 c (hsel b c hc).1
  have hsub : ∀ k, F k → Lent { st with heap := selAll ns st.heap } F φ k := fun k hk => .inl hk
  have hlt : ∀ k, Lent { st with heap := selAll ns st.heap } F φ k → F k ∨ ∃ b c, b ∈ ns ∧ get st.heap b = some c ∧ (φ b).blk = some k := fun k hk => by
    rcases hk with hk | ⟨b, c, hb, hg⟩
    · exact .inl hk
    · exact .inr ⟨b, c, (hsel b c hb).2, (hsel b c hb).1, hg⟩
  refine ⟨Lent { st with heap := selAll ns st.heap } F φ, fun s y hy => ?_, fun b c hc => ?_, fun b b' c c' g h1 h2 => h.inj b b' c c' g (get_dropAll h1).1 (get_dropAll h2).1, fun k hk => ?_, h.base, fun k hk => hsub k (h.sub k hk), fun k hk => ?_, h.dfr, h.tsz,
    fun g x hg => (h.glob g x hg).keep (fun _ _ => rfl) hsub, fun b p hb => ⟨(h.anc b p hb).1, (h.anc b p hb).2.1, fun c hc => (h.anc b p hb).2.2 c (get_dropAll hc).1⟩⟩
  · obtain ⟨x, hx, hyx⟩ := frzE_get he hps hy
    obtain ⟨v, hv, hrep⟩ := h.env s x hx
    rcases hyx with rfl | ⟨qs, hf, hq⟩
    · exact ⟨v, hv, hrep.keep (fun _ _ => rfl) hsub fun _ _ => rfl⟩
    · unfold fzOf at hf
      split at hf
      · split at hf
        · rename_i N hN
          have hcov : ∀ k, F k ∨ N k := by
            have := h.glob _ _ hN
            cases this with | cov _ _ _ hN => exact hN
          exact ⟨v, hv, .stat ((frzN_rep hR hcov x y qs hf hq).1 v hrep)⟩
        · exact ⟨v, hv, .stat ((frz_rep hR x y qs hf hq).1 v hrep)⟩
      · exact ⟨v, hv, .stat ((frz_rep hR x y qs hf hq).1 v hrep)⟩
  · obtain ⟨h1, h2⟩ := get_dropAll hc
    have hb := h.heap b c h1
    refine hb.keep (fun _ _ => rfl) hsub (fun g hg => ⟨rfl, fun hF => ?_⟩) rfl fun _ _ => rfl
    rcases hlt g hF with k1 | ⟨b', c', k1, k2, k3⟩
    · exact (hb.lt hg).2.1 k1
    · exact h2 (h.inj b' b c' c g k2 h1 k3 hg ▸ k1)
  · rcases hlt k hk with k1 | ⟨b', c', k1, k2, k3⟩
    · exact h.ro k k1
    · exact ((h.heap b' c' k2).lt k3).1
  · rcases hlt k hk with k1 | ⟨b', c', k1, k2, k3⟩
    · exact h.new k k1
    · exact .inr ((h.heap b' c' k2).lt k3).2.2

theorem frzOp_sound {orc : FuncId → List AV → Option AV} {ps : List Prop} {K : Act → World → Prop} (h : Rel C W0 F0 st a w F φ) (hT : TysOK C) (hCC : CCOK C CC) (hs : absFrz C CC orc st o = some (st', ps)) (hps : ∀ p ∈ ps, p)
    (hK : ∀ a' w' F' φ', Rel C W0 F0 st' a' w' F' φ' → K a' w') : o.guard = none ∧ o.wp C.P a w K Q := by
  unfold absFrz at hs
  split at hs
  case h_2 => cases hs
  rename_i x l hg hx
  split at hs
  case h_2 => cases hs
  rename_i vs hv
  split at hs
  case h_2 => cases hs
  rename_i st1 ps1 h1
  split at hs
  case h_2 => cases hs
  rename_i st2 qs h2
  cases hs
  obtain ⟨F', hR⟩ := h.frzSt h1 fun p hp => hps p (List.mem_append.2 (.inl hp))
  have := step_sound (Q := Q) (ops := #[]) (K := K) hR hT hCC h2 (fun p hp => hps p (List.mem_append.2 (.inr hp))) hK
  rw [if_pos (by simp [Region.wanted, hg])] at this
  exact ⟨hg, this⟩

theorem absPlain_ung {C : Cfg} {CC : FuncId → List AV → AV → Prop} {orc : FuncId → List AV → Option AV} {st : St} {o : Oper} : absPlain C CC orc st { o with guard := none } = absPlain C CC orc st o := rfl
end

/-- A guarded row of plain data: it is made when the guard says yes, and only read from there on. -/
def absGB (C : Cfg) (all : List Oper) (st : St) (o : Oper) : Option (St × List Prop) :=
  match o.guard, o.dst, isNew o.op with
  | some g, some d, true => match guardAV C st all g, absStep C (fun _ _ _ => False) (fun _ _ => none) [] st { o with guard := none } with
    | some q, some (st2, ps) => match growing C st { o with guard := none }, get st2.env d, get st2.heap d with
      | false, some (.own b n), some (.row _ sh n' f) => match Nat.beq b d && freshBox st d with
        | true => some ({ st with env := put st.env d (.when q (.seq sh n f)) }, impl q (ps ++ [n ≤ n']))
        | false => none
      | _, _, _ => none
    | _, _ => none
  | _, _, _ => none

section
variable {C : Cfg} {W0 : Entry} {F0 : Nat → Prop} {st st' : St} {a : Act} {w : World} {F : Nat → Prop} {φ : Nat → Place} {CC : FuncId → List AV → AV → Prop} {o : Oper} {Q : Exit → Act → World → Prop}

theorem get_selAll_in {ks : List Nat} {b : Nat} {c : BoxC} (hk : inN b ks = true) : ∀ {l : List (Nat × BoxC)}, get l b = some c → get (selAll ks l) b = some c
  | [], h => by simp [get] at h
  | (k, x) :: l, h => by
    simp only [get] at h
    split at h
    · rename_i e
      cases h
      have := Nat.eq_of_beq_eq_true e
      subst this
      simp only [selAll, hk, get, e]
    · rename_i e
      simp only [selAll]
      split
      · simp only [get, e]; exact get_selAll_in hk h
      · exact get_selAll_in hk h
theorem Rel.freezeAt {st2 : St} {a2 : Act} {d : Nat} {ty : TypeId} {sh : Shape} {n n' : Nat} {f : Nat → AV} (hR : Rel C W0 F0 st2 a2 w F φ) (he : get st2.env d = some (.own d n)) (hb : get st2.heap d = some (.row ty sh n' f)) (hn : n ≤ n')
    (h1 : ∀ s, s ≠ d → get st.env s = get st2.env s) (h2 : ∀ b, b ≠ d → get st.heap b = get st2.heap b) (h3 : get st.heap d = none) :
    ∃ F', Rel C W0 F0 { st with env := put st.env d (.when true (.seq sh n f)) } a2 w F' φ := by
  have hsel : ∀ b c, get (selAll [d] st2.heap) b = some c → get st2.heap b = some c ∧ b ∈ [d] := fun b c hb => get_selAll hb
  have hR1 : Rel C W0 F0 { st2 with heap := selAll [d] st2.heap } a2 w F φ := hR.setHeap (fun b c hb => hR.heap b c (hsel b c hb).1)
    (fun b b' c c' g h1 h2 => hR.inj b b' c c' g (hsel b c h1).1 (hsel b' c' h2).1) fun b p c hb hc => (hR.anc b p hb).2.2 c (hsel b c hc).1
  have hsd : get (selAll [d] st2.heap) d = some (.row ty sh n' f) := get_selAll_in (by simp [inN]) hb
  have hsub : ∀ k, F k → Lent { st2 with heap := selAll [d] st2.heap } F φ k := fun k hk => .inl hk
  have hlt : ∀ k, Lent { st2 with heap := selAll [d] st2.heap } F φ k → F k ∨ ∃ c, get st2.heap d = some c ∧ (φ d).blk = some k := fun k hk => by
    rcases hk with hk | ⟨b, c, hb, hg⟩
    · exact .inl hk
    · have := (hsel b c hb).2
      simp at this
      subst this
      exact .inr ⟨c, (hsel b c hb).1, hg⟩
  refine ⟨Lent { st2 with heap := selAll [d] st2.heap } F φ, fun s y hy => ?_, fun b c hc => ?_, fun b b' c c' g k1 k2 => ?_, fun k hk => ?_, hR.base, fun k hk => hsub k (hR.sub k hk), fun k hk => ?_, hR.dfr, hR.tsz,
    fun g x hg => (hR.glob g x hg).keep (fun _ _ => rfl) hsub, fun b p hb' => ⟨(hR.anc b p hb').1, (hR.anc b p hb').2.1, fun c hc => ?_⟩⟩
  · by_cases e : s = d
    · subst e
      simp only [get_put_same, Option.some.injEq] at hy
      subst hy
      obtain ⟨v, hv, hrep⟩ := hR.env s _ he
      refine ⟨v, hv, .whenT true (fun _ => .stat ?_) fun h => by cases h⟩
      exact (frz_rep hR1 (.own s n) (.seq sh n f) [n ≤ n'] (by simp only [frz, hsd]) (fun p hp => by rw [List.mem_singleton.1 hp]; exact hn)).1 v hrep
    · simp only [get_put_other _ _ _ _ e] at hy
      obtain ⟨v, hv, hrep⟩ := hR.env s y (by rw [← h1 s e]; exact hy)
      exact ⟨v, hv, hrep.keep (fun _ _ => rfl) hsub fun _ _ => rfl⟩
  · have hbd : b ≠ d := fun e => by subst e; simp only at hc; rw [h3] at hc; cases hc
    simp only at hc
    rw [h2 b hbd] at hc
    have hb' := hR.heap b c hc
    refine hb'.keep (fun _ _ => rfl) hsub (fun g hg => ⟨rfl, fun hF => ?_⟩) rfl fun _ _ => rfl
    rcases hlt g hF with k1 | ⟨c', k2, k3⟩
    · exact (hb'.lt hg).2.1 k1
    · exact hbd (hR.inj b d c c' g hc k2 hg k3)
  · have hbd : b ≠ d := fun e => by subst e; simp only at k1; rw [h3] at k1; cases k1
    have hbd' : b' ≠ d := fun e => by subst e; simp only at k2; rw [h3] at k2; cases k2
    simp only at k1 k2
    rw [h2 b hbd] at k1
    rw [h2 b' hbd'] at k2
    exact hR.inj b b' c c' g k1 k2
  · rcases hlt k hk with k1 | ⟨c', k2, k3⟩
    · exact hR.ro k k1
    · exact ((hR.heap d c' k2).lt k3).1
  · rcases hlt k hk with k1 | ⟨c', k2, k3⟩
    · exact hR.new k k1
    · exact .inr ((hR.heap d c' k2).lt k3).2.2
  · have hbd : b ≠ d := fun e => by subst e; simp only at hc; rw [h3] at hc; cases hc
    simp only at hc
    rw [h2 b hbd] at hc
    exact (hR.anc b p hb').2.2 c hc

theorem fresh_none {st : St} {d : Nat} (h : freshBox st d = true) : get st.heap d = none := by
  simp only [freshBox, Bool.not_eq_true', Bool.or_eq_false_iff] at h
  cases hg : get st.heap d with
  | none => rfl
  | some c => exact ((namesHeap_get hg h.2.1).2 rfl).elim

theorem gb_sound {ops : Array Oper} {ps : List Prop} {K : Act → World → Prop} (h : Rel C W0 F0 st a w F φ) (hT : TysOK C) (hCC : CCOK C CC) (hs : absGB C ops.toList st o = some (st', ps)) (hps : ∀ p ∈ ps, p)
    (hK : ∀ a' w' F' φ', Rel C W0 F0 st' a' w' F' φ' → K a' w') : if Region.wanted o (yielded ops a.tmps) then o.wp C.P a w K Q else K (a.put o.dst undef) w := by
  unfold absGB at hs
  split at hs
  case h_2 => cases hs
  rename_i g d hg hdst hnew
  split at hs
  case h_2 => cases hs
  rename_i q st2 ps2 hq hstep
  split at hs
  case h_2 => cases hs
  rename_i b n ty sh n' f hgr he hb
  split at hs
  case h_2 => cases hs
  rename_i hbd
  cases hs
  simp only [Bool.and_eq_true] at hbd
  obtain ⟨e1, e2⟩ := hbd
  have e1 := Nat.eq_of_beq_eq_true e1
  subst e1
  have hw := wanted_guard h hq hg
  rw [hw]
  have hd : dstOK C o.dst = true := by
    unfold absStep at hstep
    split at hstep
    · cases hstep
    · rename_i hh; exact hh
  cases q with
  | true =>
    have hps' := impl_mem hps rfl
    have hn : n ≤ n' := hps' _ (by simp)
    obtain ⟨fr1, fr2⟩ := absStep_frame hgr hstep
    have hwr : wrBox C st { o with guard := none } = [b] := wrBox_new (S := st) (o := { o with guard := none }) hnew hdst
    rw [hwr] at fr2
    have := step_sound (Q := Q) (ops := #[]) (o := { o with guard := none }) (K := K) h hT (CC := fun _ _ _ => False) ⟨fun _ _ _ hf => hf.elim, hCC.2⟩ hstep (fun p hp => hps' p (by simp [hp])) fun a' w' F' φ' hR => by
      obtain ⟨F2, hR2⟩ := hR.freezeAt he hb hn (fun s hs => (fr1 s (by rw [hdst]; simpa using fun e => hs e.symm)).symm) (fun b' hb' => (fr2 b' (by simpa using hb')).symm) (fresh_none e2)
      exact hK _ _ _ _ hR2
    rw [if_pos (by simp [Region.wanted])] at this
    simp only [if_true]
    exact this
  | false =>
    simp only [Bool.false_eq_true, if_false]
    rw [hdst]
    exact hK _ _ _ _ (h.putV (dst_lt hd hdst) (.whenT false (fun h => by cases h) fun _ => .inl rfl))
end
end Go.AV
/- A part of an array of bytes as a string: two operations at once. -/
namespace Go.AV
open Go.RowKit

def isU8 : AV → Bool
  | .int .u8 _ => true
  | _ => false
def u8Of : AV → UInt8
  | .int _ k => UInt8.ofNat k.toNat
  | _ => 0
/-- The bytes of a row from a place on. -/
def bytesAt (f : Nat → AV) (p n : Nat) : List UInt8 := (List.range n).map fun i => u8Of (f (p + i))

def absPairA (C : Cfg) (st : St) (o1 o2 : Oper) : Option (St × List Prop) :=
  match o1.op, o1.dst, o1.guard, o2.op, o2.dst, o2.guard with
  | .slice t x (some lo) none none, some d1, none, .convert s d (.tmp d1'), some d2, none =>
    match tyOf C t, ev C st x, ev C st lo, tyOf C s, tyOf C d with
    | some te, some (.ptr b []), some (.int _ p), some ts, some td => match get st.heap b, te.kind, ts.kind, td.kind with
      | some (.cell _ (.arr n .leaf) (.arr _ f)), .arr n' el, .slice el', .string => match tyOf C el with
        | some tl => match tl.kind with
          | .int .u8 => match Nat.beq n n' && Nat.beq el el' && Nat.beq d1 d1' && Nat.blt d1 C.ntmps && Nat.blt d2 C.ntmps with
            | true => some ({ st with env := put (put st.env d1 .any) d2 (.str (bytesAt f p.toNat (n - p.toNat))) }, [0 ≤ p ∧ p ≤ (n : Int), ∀ i, i < n - p.toNat → isU8 (f (p.toNat + i)) = true])
            | false => none
          | _ => none
        | none => none
      | _, _, _, _ => none
    | _, _, _, _, _ => none
  | _, _, _, _, _, _ => none

/-- g, called on what f answers to these: it returns, and all memory that was there is as it was. -/
def RTwice (P : Program) (G : List (Nat × AV)) (f : FuncId) (args : List AV) (g : FuncId) : Prop :=
  CallOK P f ∧ CallOK P g ∧ ∀ (w : World) (F : Nat → Prop) (vs : Array Value), (∀ k, F k → k < w.heap.size) → (∀ g x, get G g = some x → RepS w F (.pointer (some ⟨g, 0, none⟩)) x) → vs.size = args.length →
    (∀ j, j < args.length → RepS w F (vs.getD j undef) (args.getD j .any)) →
    Calls P f vs w fun en w1 => ∃ v, en = .returned v ∧ Calls P g #[v] w1 fun en2 w2 => ∃ v2, en2 = .returned v2 ∧ Below w.heap.size w w2
def delO (d : Option Nat) (l : List (Nat × AV)) : List (Nat × AV) := match d with
  | some d => del l d
  | none => l
def absTw (C : Cfg) (st : St) (o1 o2 : Oper) : Option (St × List Prop) :=
  match o1.op, o1.dst, o1.guard, o2.op, o2.guard with
  | .call c1, some d1, none, .call c2, none => match c1.callee, c2.callee, c2.args.toList with
    | .value fx1, .value fx2, [.tmp d1'] => match ev C st fx1, evList (ev C st) c1.args.toList, fx2 with
      | some (.clo f []), some args, .func g => match AV.areStat args && Nat.beq d1 d1' && Nat.blt d1 C.ntmps with
        | true => some ({ st with env := delO o2.dst (del st.env d1) }, [RTwice C.P C.G f args g])
        | false => none
      | _, _, _ => none
    | _, _, _ => none
  | _, _, _, _, _ => none
def absPair (C : Cfg) (st : St) (o1 o2 : Oper) : Option (St × List Prop) :=
  match absPairA C st o1 o2 with
  | some r => some r
  | none => absTw C st o1 o2

/-- A call by a special contract. -/
def absSp (C : Cfg) (CC : FuncId → List AV → AV → Prop) (orc : FuncId → List AV → Option AV) (all : List Oper) (st : St) (o : Oper) : Option (St × List Prop) :=
  match absLent C st o with
  | some r => some r
  | none => match absFresh C orc st o with
    | some r => some r
    | none => match absAppS C st o with
      | some r => some r
      | none => match absFrz C CC orc st o with
        | some r => some r
        | none => absGB C all st o

/-- The operations in turn; two at once where one alone does not do. -/
def absOpsF (C : Cfg) (CC : FuncId → List AV → AV → Prop) (orc : Nat → FuncId → List AV → Option AV) (all : List Oper) : List Oper → Nat → St → Option (St × List Prop)
  | [], _, st => some (st, [])
  | o :: rest, i, st => match absStep C CC (orc i) all st o with
    | some (st', ps) => match absOpsF C CC orc all rest (i + 1) st' with
      | some (st'', qs) => some (st'', ps ++ qs)
      | none => none
    | none => match absSp C CC (orc i) all st o with
    | some (st', ps) => match absOpsF C CC orc all rest (i + 1) st' with
      | some (st'', qs) => some (st'', ps ++ qs)
      | none => none
    | none => match rest with
      | [] => none
      | o2 :: rest2 => match absPair C st o o2 with
        | some (st', ps) => match absOpsF C CC orc all rest2 (i + 2) st' with
          | some (st'', qs) => some (st'', ps ++ qs)
          | none => none
        | none => none

section
variable {C : Cfg} {W0 : Entry} {F0 : Nat → Prop} {st st' : St} {a : Act} {w : World} {F : Nat → Prop} {φ : Nat → Place} {CC : FuncId → List AV → AV → Prop} {o1 o2 : Oper}
  {Q : Exit → Act → World → Prop}

theorem sp_sound {ops : Array Oper} {orc : FuncId → List AV → Option AV} {o : Oper} {ps : List Prop} {K : Act → World → Prop} (h : Rel C W0 F0 st a w F φ) (hT : TysOK C) (hCC : CCOK C CC) (hs : absSp C CC orc ops.toList st o = some (st', ps)) (hps : ∀ p ∈ ps, p)
    (hK : ∀ a' w' F' φ', Rel C W0 F0 st' a' w' F' φ' → K a' w') : if Region.wanted o (yielded ops a.tmps) then o.wp C.P a w K Q else K (a.put o.dst undef) w := by
  have fin : o.guard = none ∧ o.wp C.P a w K Q → if Region.wanted o (yielded ops a.tmps) then o.wp C.P a w K Q else K (a.put o.dst undef) w := fun e => by
    rw [if_pos (by simp [Region.wanted, e.1])]
    exact e.2
  unfold absSp at hs
  split at hs
  · rename_i r hr
    cases hs
    exact fin (lent_sound h hCC.2.2.1 hr hps hK)
  · split at hs
    · rename_i r hr
      cases hs
      exact fin (fresh_sound h hCC.2.1 hr hps hK)
    · split at hs
      · rename_i r hr
        cases hs
        exact fin (appS_sound h hT hr hps hK)
      · split at hs
        · rename_i r hr
          cases hs
          exact fin (frzOp_sound h hT hCC hr hps hK)
        · exact gb_sound h hT hCC hs hps hK

theorem isU8_inv {x : AV} (h : isU8 x = true) : ∃ k, x = .int .u8 k := by
  unfold isU8 at h
  split at h
  · exact ⟨_, rfl⟩
  · cases h

theorem kind_arr' {t : TypeId} {te : TyE} {n : Nat} {e : TypeId} (T : TyOK C t te) (hk : te.kind = .arr n e) : C.P.underlying t = some (.array n e) := by
  obtain ⟨d, i, z, hu, _, _, _, _, _, hki, _⟩ := T.info
  rw [hk] at hki
  rw [hu, hki.1]
theorem kind_leaf {t : TypeId} {te : TyE} {k : IntKind} (T : TyOK C t te) (hk : te.kind = .int k) : te.sh = .leaf := by
  obtain ⟨d, i, z, hu, _, _, _, _, _, hki, _⟩ := T.info
  rw [hk] at hki
  exact hki.2
theorem pairA_sound {ps : List Prop} {K : Act → World → Prop} (h : Rel C W0 F0 st a w F φ) (hT : TysOK C) (hs : absPairA C st o1 o2 = some (st', ps)) (hps : ∀ p ∈ ps, p)
    (hK : ∀ a' w' F' φ', Rel C W0 F0 st' a' w' F' φ' → K a' w') :
    o1.guard = none ∧ o2.guard = none ∧ o1.wp C.P a w (fun a1 w1 => o2.wp C.P a1 w1 K Q) Q := by
  unfold absPairA at hs
  split at hs
  case h_2 => cases hs
  rename_i t x lo d1 s d d1' d2 q1 q2 q3 q4 q5 q6
  split at hs
  case h_2 => cases hs
  rename_i te b kk p ts td h1 h2 h3 h4 h5
  split at hs
  case h_2 => cases hs
  rename_i n f0 f n' el el' hb k1 k2 k3
  split at hs
  case h_2 => cases hs
  rename_i tl h6
  split at hs
  case h_2 => cases hs
  rename_i k4
  split at hs
  case h_2 => cases hs
  rename_i hc
  cases hs
  simp only [Bool.and_eq_true] at hc
  obtain ⟨⟨⟨⟨c1, c2⟩, c3⟩, c4⟩, c5⟩ := hc
  have c1 := Nat.eq_of_beq_eq_true c1
  have c2 := Nat.eq_of_beq_eq_true c2
  have c3 := Nat.eq_of_beq_eq_true c3
  subst c1 c2 c3
  have l1 : d1 < C.ntmps := Nat.le_of_ble_eq_true c4
  have l2 : d2 < C.ntmps := Nat.le_of_ble_eq_true c5
  obtain ⟨b0, b1⟩ : 0 ≤ p ∧ p ≤ (n : Int) := hps _ (by simp)
  have hu8 : ∀ i, i < n - p.toNat → isU8 (f (p.toNat + i)) = true := hps _ (by simp)
  refine ⟨q3, q6, ?_⟩
  obtain ⟨g, hg, _, hx⟩ := (h.ev h2).ptr_inv
  obtain ⟨hlo, _⟩ := (h.ev h3).int_inv
  have hbox := h.heap b _ hb
  obtain ⟨hsh, g', cs, hg', _, _, hw, hsz, hrep⟩ := hbox
  rw [hg] at hg'
  cases hg'
  simp only [pathOff] at hx
  have hu := kind_arr' (hT _ _ h1) k1
  have hes : C.P.underlying el = some (.int .u8) := kind_int (hT _ _ h6) k4
  have hss : C.P.underlying s = some (.slice el) := kind_slice (hT _ _ h4) k2
  have hds : C.P.underlying d = some .string := kind_string (hT _ _ h5) k3
  have hls : tl.sh = .leaf := (kind_leaf (hT _ _ h6) k4)
  have hsize : ∀ w : World, (sizeOf el).run C.P w = .ok 1 w := fun w => by
    rw [(hT _ _ h6).size, hls]; rfl
  have r1 : (execOp a.eval o1).run C.P w = .ok (.value (.slice (some (if n = p.toNat then ⟨g, 0, none⟩ else (⟨g, 0, none⟩ : Addr).add (p.toNat * 1))) (n - p.toNat) (n - p.toNat))) w := by
    simp only [execOp, q1]
    refine run_value ?_
    simp only [Instr.sliceAt, Sem.run_bind, run_underlying hu, Result.andThen_ok, hx, Instr.sureAddr, Sem.run_pure, Option.map_none, Option.map_some, hlo,
      run_bounds (isSlice := false) (lo := some (.int kk p)) (hi := none) (l := p) (h := (n : Int)) (.inr ⟨kk, rfl⟩) (.inl ⟨rfl, rfl⟩) b0 b1 (Int.le_refl _), hsize, Int.toNat_natCast]
  have hoff : (if n = p.toNat then (⟨g, 0, none⟩ : Addr) else (⟨g, 0, none⟩ : Addr).add (p.toNat * 1)) = ⟨g, if n = p.toNat then 0 else p.toNat, none⟩ := by
    split
    · rfl
    · rw [add_none]; simp
  rw [hoff] at r1
  unfold Oper.wp
  rw [r1]
  have hR1 : Rel C W0 F0 { st with env := put st.env d1 .any } (a.put (some d1) (.slice (some ⟨g, if n = p.toNat then 0 else p.toNat, none⟩) (n - p.toNat) (n - p.toNat))) w F φ := h.putV l1 (.stat (.any _ rfl))
  rw [Oper.upon_value, q2]
  simp only [Shape.size, Nat.mul_one] at hsz
  have hcell : ∀ i, i < n - p.toNat → ∃ k, f (p.toNat + i) = .int .u8 k ∧ w.cell? ⟨g, p.toNat + i, none⟩ = some (.int .u8 k) := fun i hi => by
    obtain ⟨k, hk⟩ := isU8_inv (hu8 i hi)
    refine ⟨k, hk, ?_⟩
    have hr := hrep (p.toNat + i) (by simp only [Shape.size, Nat.mul_one]; omega)
    simp only [leafAt, Shape.size, Nat.div_one, hk, asLeaf, AV.isOne] at hr
    have hv := hr.strip (.st (.refl _))
    rw [cell_of hw (by omega), hv.int_inv.1]
  have hv1 : (a.put (some d1) (.slice (some ⟨g, if n = p.toNat then 0 else p.toNat, none⟩) (n - p.toNat) (n - p.toNat))).eval (.tmp d1) = .slice (some ⟨g, if n = p.toNat then 0 else p.toNat, none⟩) (n - p.toNat) (n - p.toNat) := by
    simp only [Act.put, Act.eval, Array.getD_eq_getD_getElem?]
    rw [Array.getElem?_setIfInBounds_self_of_lt (by rw [h.tsz]; exact l1)]
    rfl
  have r2 : (execOp (a.put (some d1) (.slice (some ⟨g, if n = p.toNat then 0 else p.toNat, none⟩) (n - p.toNat) (n - p.toNat))).eval o2).run C.P w = .ok (.value (.string ⟨(bytesAt f p.toNat (n - p.toNat)).toArray⟩)) w := by
    simp only [execOp, q4]
    refine run_value ?_
    rw [hv1]
    have := run_convert_bytes_arg (P := C.P) w s el hss hes g (if n = p.toNat then 0 else p.toNat) (n - p.toNat) (n - p.toNat) ((List.range (n - p.toNat)).map fun i => match f (p.toNat + i) with | .int _ k => k | _ => 0) (by simp) (fun i hi => by
      obtain ⟨k, hk, hc⟩ := hcell i hi
      rw [if_neg (by omega), hc]
      simp [hi, hk]) d hds
    rw [this]
    congr 2
    simp only [strOfNums, bytesAt, List.map_map]
    congr 2
    refine List.map_congr_left fun i hi => ?_
    simp only [List.mem_range] at hi
    obtain ⟨k, hk, _⟩ := hcell i hi
    simp only [Function.comp, hk, u8Of]
  rw [r2]
  rw [Oper.upon_value, q5]
  exact hK _ _ _ _ (hR1.putV l2 (.stat (by have := RepS.str (w := w) (F := F) ⟨(bytesAt f p.toNat (n - p.toNat)).toArray⟩; simpa using this)))

theorem Rel.putO (h : Rel C W0 F0 st a w F φ) (d : Option Nat) (v : Value) : Rel C W0 F0 { st with env := delO d st.env } (a.put d v) w F φ := by
  cases d with
  | none => exact h
  | some d => exact h.putU d v

theorem tw_sound {ps : List Prop} {K : Act → World → Prop} (h : Rel C W0 F0 st a w F φ) (hs : absTw C st o1 o2 = some (st', ps)) (hps : ∀ p ∈ ps, p)
    (hK : ∀ a' w' F' φ', Rel C W0 F0 st' a' w' F' φ' → K a' w') :
    o1.guard = none ∧ o2.guard = none ∧ o1.wp C.P a w (fun a1 w1 => o2.wp C.P a1 w1 K Q) Q := by
  unfold absTw at hs
  split at hs
  case h_2 => cases hs
  rename_i c1 d1 c2 q1 q2 q3 q4 q5
  split at hs
  case h_2 => cases hs
  rename_i fx1 fx2 d1' k1 k2 k3
  split at hs
  case h_2 => cases hs
  rename_i f args g h1 h2
  split at hs
  case h_2 => cases hs
  rename_i hc
  cases hs
  simp only [Bool.and_eq_true] at hc
  obtain ⟨⟨hst, c1'⟩, hd⟩ := hc
  have hd := Nat.le_of_ble_eq_true hd
  have c1' := Nat.eq_of_beq_eq_true c1'
  subst c1'
  refine ⟨q3, q5, ?_⟩
  obtain ⟨hok, hok2, hcall⟩ : RTwice C.P C.G f args g := hps _ (by simp)
  obtain ⟨n1, n2⟩ := evList_rep h2 (fun x _ u hu => h.ev hu)
  have hfv : ∃ cv : Array Value, a.eval fx1 = .func (.func f) #[] cv ∧ cv.size = 0 := by
    have := h.ev h1
    generalize a.eval fx1 = v at this
    cases this with
    | stat hv => cases hv with | clo _ cv _ hs hc => exact ⟨cv, rfl, hs⟩
    | clo _ cv _ hs hc => exact ⟨cv, rfl, hs⟩
  obtain ⟨cv, hfv, hcv⟩ := hfv
  obtain rfl : cv = #[] := Array.eq_empty_of_size_eq_zero hcv
  have hrun : (execOp a.eval o1).run C.P w = .ok (.enter f (c1.args.map a.eval)) w := by
    obtain ⟨callee, args', tys⟩ := c1
    cases k1
    simp only [execOp, q1, resolve, Sem.run_bind, hfv]
    simp only [Deferred.ofValue, Sem.run_pure, Result.andThen_ok, invoke, Array.empty_append, Array.append_empty]
    exact hok _ w
  unfold Oper.wp
  rw [hrun]
  show Calls C.P f _ w _
  refine (hcall w F _ h.ro h.glob (by simpa using n1) fun j hj => ?_).mono ?_
  · have := n2 j hj
    have h5 : Rep w F φ ((c1.args.map a.eval).getD j undef) (args.getD j .any) := by simpa [Array.getD_eq_getD_getElem?, List.getD_eq_getElem?_getD] using this
    exact h5.toS (areStat_getD hst j)
  · rintro en w1 ⟨v, rfl, hc2⟩
    show o2.wp C.P (a.put o1.dst v) w1 K Q
    rw [q2]
    have hd1 : (a.put (some d1) v).eval (.tmp d1) = v := by
      have hsz : d1 < a.tmps.size := by rw [h.tsz]; exact hd
      simp [Act.eval, Act.put, Array.getD_eq_getD_getElem?, hsz]
    have hargs : c2.args.map (a.put (some d1) v).eval = #[v] := by
      have : c2.args = #[.tmp d1] := by apply Array.ext'; simpa using k3
      rw [this]
      simp [hd1]
    have hrun2 : ∀ b : Act, (execOp b.eval o2).run C.P w1 = .ok (.enter g (c2.args.map b.eval)) w1 := by
      intro b
      obtain ⟨callee, args', tys⟩ := c2
      cases k2
      simp only [execOp, q4, resolve, Sem.run_bind, Act.eval]
      simp only [Deferred.ofValue, Sem.run_pure, Result.andThen_ok, invoke, Array.empty_append, Array.append_empty]
      exact hok2 _ w1
    unfold Oper.wp
    rw [hrun2, hargs]
    show Calls C.P g _ w1 _
    refine hc2.mono ?_
    rintro en2 w2 ⟨v2, rfl, hb⟩
    have hR := h.grown hb (fun _ hk => hk) (fun _ hk => .inl hk) fun k hk => Nat.lt_of_lt_of_le (h.ro k hk) hb.size
    exact hK _ _ _ _ ((hR.putU d1 v).putO o2.dst v2)

theorem pair_sound {ps : List Prop} {K : Act → World → Prop} (h : Rel C W0 F0 st a w F φ) (hT : TysOK C) (hs : absPair C st o1 o2 = some (st', ps)) (hps : ∀ p ∈ ps, p)
    (hK : ∀ a' w' F' φ', Rel C W0 F0 st' a' w' F' φ' → K a' w') :
    o1.guard = none ∧ o2.guard = none ∧ o1.wp C.P a w (fun a1 w1 => o2.wp C.P a1 w1 K Q) Q := by
  unfold absPair at hs
  split at hs
  · rename_i r hr
    cases hs
    exact pairA_sound h hT hr hps hK
  · exact tw_sound h hs hps hK

theorem ops_soundF {ops : Array Oper} {orc : Nat → FuncId → List AV → Option AV} : ∀ (rest : List Oper) (i : Nat) (st st' : St) (ps : List Prop) (a : Act) (w : World) (F : Nat → Prop) (φ : Nat → Place), TysOK C → CCOK C CC → (∀ j, rest[j]? = ops[i + j]?) →
    absOpsF C CC orc ops.toList rest i st = some (st', ps) → (∀ p ∈ ps, p) → Rel C W0 F0 st a w F φ → (∀ a' w' F' φ', Rel C W0 F0 st' a' w' F' φ' → Q .normal a' w') → wpOps C.P ops Q (List.range' i rest.length) a w
  | [], i, st, st', ps, a, w, F, φ, _, _, _, h, _, hR, hQ => by
    simp only [absOpsF, Option.some.injEq, Prod.mk.injEq] at h
    obtain ⟨rfl, _⟩ := h
    exact hQ _ _ _ _ hR
  | [o], i, st, st', ps, a, w, F, φ, hT, hCC, hj, h, hps, hR, hQ => by
    simp only [absOpsF] at h
    have ho : ops[i]? = some o := by simpa using (hj 0).symm
    simp only [List.length_cons, List.length_nil, List.range'_succ, List.range'_zero, wpOps, ho]
    split at h
    · rename_i st1 ps1 h1
      cases h
      have hstep := step_sound (Q := Q) (ops := ops) (K := fun a w => Q .normal a w) hR hT hCC h1 (fun p hp => hps p (by simp [hp])) hQ
      split
      · rename_i hw; rw [if_pos hw] at hstep; exact .inl hstep
      · rename_i hw; rw [if_neg hw] at hstep; exact hstep
    · split at h
      case h_2 => cases h
      rename_i st1 ps1 h1
      cases h
      have hstep := sp_sound (Q := Q) (ops := ops) (K := fun a w => Q .normal a w) hR hT hCC h1 (fun p hp => hps p (by simp [hp])) hQ
      split
      · rename_i hw; rw [if_pos hw] at hstep; exact .inl hstep
      · rename_i hw; rw [if_neg hw] at hstep; exact hstep
  | o :: o2 :: rest2, i, st, st', ps, a, w, F, φ, hT, hCC, hj, h, hps, hR, hQ => by
    simp only [absOpsF] at h
    have ho : ops[i]? = some o := by simpa using (hj 0).symm
    have e : List.range' i (o :: o2 :: rest2).length = i :: List.range' (i + 1) (o2 :: rest2).length := by rw [List.length_cons, List.range'_succ]
    split at h
    · rename_i st1 ps1 h1
      split at h
      case h_2 => cases h
      rename_i st2 ps2 h2
      cases h
      rw [e, wpOps, ho]
      have hstep := step_sound (Q := Q) (ops := ops) (K := wpOps C.P ops Q (List.range' (i + 1) (o2 :: rest2).length)) hR hT hCC h1 (fun p hp => hps p (by simp [hp])) fun a' w' F' φ' hR' =>
        ops_soundF (o2 :: rest2) (i + 1) st1 st' ps2 a' w' F' φ' hT hCC (fun j => by rw [show i + 1 + j = i + (j + 1) from by omega, ← hj (j + 1)]; simp) h2 (fun p hp => hps p (by simp [hp])) hR' hQ
      show if _ then _ else _
      split
      · rename_i hw; rw [if_pos hw] at hstep; exact .inl hstep
      · rename_i hw; rw [if_neg hw] at hstep; exact hstep
    · split at h
      · rename_i st1 ps1 h1
        split at h
        case h_2 => cases h
        rename_i st2 ps2 h2
        cases h
        rw [e, wpOps, ho]
        have hstep := sp_sound (Q := Q) (ops := ops) (K := wpOps C.P ops Q (List.range' (i + 1) (o2 :: rest2).length)) hR hT hCC h1 (fun p hp => hps p (by simp [hp])) fun a' w' F' φ' hR' =>
          ops_soundF (o2 :: rest2) (i + 1) st1 st' ps2 a' w' F' φ' hT hCC (fun j => by rw [show i + 1 + j = i + (j + 1) from by omega, ← hj (j + 1)]; simp) h2 (fun p hp => hps p (by simp [hp])) hR' hQ
        show if _ then _ else _
        split
        · rename_i hw; rw [if_pos hw] at hstep; exact .inl hstep
        · rename_i hw; rw [if_neg hw] at hstep; exact hstep
      · split at h
        case h_2 => cases h
        rename_i st1 ps1 h1
        split at h
        case h_2 => cases h
        rename_i st2 ps2 h2
        cases h
        have ho2 : ops[i + 1]? = some o2 := by simpa using (hj 1).symm
        simp only [List.length_cons, List.range'_succ, wpOps, ho, ho2]
        obtain ⟨e1, e2, e3⟩ := pair_sound (Q := Q) (K := wpOps C.P ops Q (List.range' (i + 1 + 1) rest2.length)) hR hT h1 (fun p hp => hps p (by simp [hp])) fun a' w' F' φ' hR' =>
          ops_soundF rest2 (i + 2) st1 st' ps2 a' w' F' φ' hT hCC (fun j => by rw [show i + 2 + j = i + (j + 2) from by omega, ← hj (j + 2)]; simp) h2 (fun p hp => hps p (by simp [hp])) hR' hQ
        have w1 : ∀ m, Region.wanted o m = true := fun m => by simp [Region.wanted, e1]
        have w2 : ∀ m, Region.wanted o2 m = true := fun m => by simp [Region.wanted, e2]
        simp only [w1, w2, if_true]
        exact .inl (Oper.wp_mono (fun a1 w1 h1 => .inl h1) e3)
end
end Go.AV
/- Operations in turn, of which some may panic. -/
namespace Go.AV
open Go.RowKit

/-- An interface is made of a struct of two numbers, and thrown. -/
def throwV (C : Cfg) (st : St) (o1 o2 : Oper) : Option (Value × St) :=
  match o1.op, o1.dst, o1.guard, o2.op, o2.guard with
  | .makeInterface t x, some d, none, .panic (.tmp d'), none => match tyOf C t, ev C st x with
    | some te, some (.mc (.agg [.leaf, .leaf]) (.agg [.int k a, .int k' b])) => match te.kind, Nat.beq d d' && Nat.blt d C.ntmps with
      | .struct _, true => some (.iface t (.agg #[.int k a, .int k' b]), { st with env := del st.env d })
      | _, _ => none
    | _, _ => none
  | _, _, _, _, _ => none
def panW (C : Cfg) (st : St) (f : FuncId) (args : List AV) (ns : List Nat) : Option (Bool × Value × St × Prop) :=
  match contents st.heap ns with
  | some hs => match C.pan f (AV.subL (idxN ns) args) (subBoxes (idxN ns) hs) with
    | some (p, v) => match AV.only0L (fun b => inN b ns) args && areVals args && nodupN ns && onlyAll (fun b => inN b ns) hs with
      | true => some (p, v, ⟨killsEnv ns st.env, dropAll ns (killsHeap ns st.heap)⟩, C.CCP f (AV.subL (idxN ns) args) (subBoxes (idxN ns) hs) p v)
      | false => none
    | none => none
  | none => none
def panOf (C : Cfg) (st : St) (o : Oper) : Option (Bool × Value × St × Prop) :=
  match o.op, o.guard with
  | .call c, none => match c.callee with
    | .value fx => match ev C st fx, evList (ev C st) c.args.toList with
      | some (.clo f []), some args => panW C st f args (reach st.heap 64 (AV.boxesL args) [])
      | _, _ => none
    | _ => none
  | _, _ => none
def conjL : List Prop → Prop → Prop
  | [], Q => Q
  | p :: l, Q => p ∧ conjL l Q
theorem conjL_spec : ∀ {l : List Prop} {Q : Prop}, conjL l Q → (∀ p ∈ l, p) ∧ Q
  | [], _, h => ⟨fun p hp => by simp at hp, h⟩
  | x :: l, Q, h => by
    obtain ⟨h1, h2⟩ := conjL_spec h.2
    exact ⟨fun p hp => by rcases List.mem_cons.1 hp with rfl | hp; exact h.1; exact h1 p hp, h2⟩
def panOps (C : Cfg) (CC : FuncId → List AV → AV → Prop) (orc : Nat → FuncId → List AV → Option AV) (all : List Oper) : List Oper → Nat → St → (Exit → St → Prop) → Prop
  | [], _, st, Q => Q .normal st
  | o :: rest, i, st, Q => match panOf C st o with
    | some (p, v, st1, ob) => (p = true → ob ∧ Q (.panic [⟨v, false, false⟩]) st1) ∧ (p = false → match absStep C CC (orc i) all st o with
      | some (st', ps) => conjL ps (panOps C CC orc all rest (i + 1) st' Q)
      | none => match absSp C CC (orc i) all st o with
        | some (st', ps) => conjL ps (panOps C CC orc all rest (i + 1) st' Q)
        | none => False)
    | none => match absStep C CC (orc i) all st o with
      | some (st', ps) => conjL ps (panOps C CC orc all rest (i + 1) st' Q)
      | none => match absSp C CC (orc i) all st o with
        | some (st', ps) => conjL ps (panOps C CC orc all rest (i + 1) st' Q)
        | none => match rest with
          | o2 :: _ => match throwV C st o o2 with
            | some (v, st1) => Q (.panic [⟨v, false, false⟩]) st1
            | none => False
          | [] => False

/-- One of the operations may panic. -/
def hasPan (C : Cfg) : List Oper → Bool
  | [] => false
  | o :: l => (match o.op with
    | .call c => match c.callee with
      | .value (.func f) => C.mayPan f
      | _ => false
    | _ => false) || hasPan C l

section
variable {C : Cfg} {W0 : Entry} {F0 : Nat → Prop} {st st' : St} {a : Act} {w : World} {F : Nat → Prop} {φ : Nat → Place} {CC : FuncId → List AV → AV → Prop} {o o2 : Oper}
  {Q : Exit → Act → World → Prop}

theorem pan_sound {p : Bool} {v : Value} {st1 : St} {ob : Prop} {K : Act → World → Prop} (h : Rel C W0 F0 st a w F φ) (hCCP : ∀ f as hs p v, C.CCP f as hs p v → p = true → CallOK C.P f ∧ RPan C.P C.G f as hs v) (hs : panOf C st o = some (p, v, st1, ob)) (hp : p = true) (hob : ob)
    (hQ : ∀ w' F' φ', Rel C W0 F0 st1 a w' F' φ' → Q (.panic [⟨v, false, false⟩]) a w') : o.guard = none ∧ o.wp C.P a w K Q := by
  unfold panOf at hs
  split at hs
  case h_2 => cases hs
  rename_i c ho hg
  split at hs
  case h_2 => cases hs
  rename_i fx hcal
  split at hs
  case h_2 => cases hs
  rename_i f args h1 h2
  generalize reach st.heap 64 (AV.boxesL args) [] = ns at hs
  unfold panW at hs
  split at hs
  case h_2 => cases hs
  rename_i hs0 hcon
  split at hs
  case h_2 => cases hs
  rename_i p' v' _
  split at hs
  case h_2 => cases hs
  rename_i hc
  cases hs
  refine ⟨hg, ?_⟩
  simp only [Bool.and_eq_true] at hc
  obtain ⟨⟨⟨c1, c2⟩, c3⟩, c4⟩ := hc
  obtain ⟨hok, hcall⟩ := hCCP _ _ _ _ _ hob hp
  have hns := contents_get hcon
  obtain ⟨n1, n2⟩ := evList_rep h2 (fun x _ u hu => h.ev hu)
  have hfv := h.evF h1
  have hrun : (execOp a.eval o).run C.P w = .ok (.enter f (c.args.map a.eval)) w := by
    obtain ⟨callee, args', tys⟩ := c
    cases hcal
    simp only [execOp, ho, resolve, Sem.run_bind, hfv]
    simp only [Deferred.ofValue, Sem.run_pure, Result.andThen_ok, invoke, Array.empty_append, Array.append_empty]
    exact hok _ w
  unfold Oper.wp
  rw [hrun]
  show Calls C.P f _ w _
  have hφ : ∀ b, inN b ns = true → (fun i => φ (ns.getD i 0)) (idxN ns b) = φ b := fun b hb => by
    show φ (ns.getD (idxN ns b) 0) = φ b
    rw [List.getD_eq_getElem?_getD, idxN_get hb, Option.getD_some]
  have hat : ∀ i : Nat, i < ns.length → ∃ b c, ns[i]? = some b ∧ hs0[i]? = some c ∧ get st.heap b = some c := fun i hi => by
    obtain ⟨c, k1, k2⟩ := hns.2 i _ (List.getElem?_eq_getElem hi)
    exact ⟨_, c, List.getElem?_eq_getElem hi, k1, k2⟩
  refine (hcall w F (fun i => φ (ns.getD i 0)) _ h.ro h.glob (by rw [subL_len]; simpa using n1) (fun j hj => ?_) (fun i c hi => ?_) (fun i i' g hi hi' e e' => ?_)).mono ?_
  · rw [subL_len] at hj
    have := n2 j hj
    have h5 : Rep w F φ ((c.args.map a.eval).getD j undef) (args.getD j .any) := by simpa [Array.getD_eq_getD_getElem?, List.getD_eq_getElem?_getD] using this
    rw [subL_getD _ _ _ hj]
    exact sub_val (φ2 := fun i => φ (ns.getD i 0)) (n := idxN ns) (m := fun b => inN b ns) hφ (isVal_or (areVals_getD c2 hj)) (only0L_getD c1 hj) h5
  · obtain ⟨d, hd, rfl⟩ := subBoxes_get _ hi
    have hi' : i < ns.length := by rw [hns.1]; exact (List.getElem?_eq_some_iff.1 hd).1
    obtain ⟨b, c', k1, k2, k3⟩ := hat i hi'
    rw [hd] at k2
    cases k2
    have := box_sub (φ2 := fun i => φ (ns.getD i 0)) (n := idxN ns) (m := fun b => inN b ns) hφ (i := b) (inN_iff.2 (List.mem_of_getElem? k1)) (onlyAll_get c4 hd) ((h.heap b d k3).base (base' := fun _ => True) fun _ _ => trivial)
    rwa [idxN_at c3 k1] at this
  · rw [subBoxes_len, ← hns.1] at hi hi'
    obtain ⟨b, d, k1, k2, k3⟩ := hat i hi
    obtain ⟨b', d', k1', k2', k3'⟩ := hat i' hi'
    simp only [List.getD_eq_getElem?_getD, k1, k1', Option.getD_some] at e e'
    have := h.inj b b' d d' g k3 k3' e e'
    subst this
    rw [← idxN_at c3 k1, ← idxN_at c3 k1']
  · rintro en w' ⟨F', rfl, hk, f1, f2, f3⟩
    rw [subBoxes_len, ← hns.1] at hk f2
    have hg0 : goneN ns hs0 [] = ns := by cases ns <;> cases hs0 <;> rfl
    have := h.lentBack (os := []) (φ' := fun i => φ (ns.getD i 0)) c3 hns hk f1 f2 f3 fun _ _ _ _ _ => rfl
    rw [hg0] at this
    exact hQ w' F' _ this

theorem two_ints {v : Value} {k k' : IntKind} {x y : Int} (h : Rep w F φ v (.mc (.agg [.leaf, .leaf]) (.agg [.int k x, .int k' y]))) : v = .agg #[.int k x, .int k' y] := by
  obtain ⟨cs, rfl, hs, hr⟩ := h.mc_inv
  have h2 : cs.size = 2 := hs
  have e0 := (show Rep w F φ (cs.getD 0 undef) (.int k x) from hr 0 (by decide)).int_inv.1
  have e1 := (show Rep w F φ (cs.getD 1 undef) (.int k' y) from hr 1 (by decide)).int_inv.1
  congr 1
  apply Array.ext (by simpa using h2)
  intro i hi1 hi2
  match i with
  | 0 => simpa [Array.getD_eq_getD_getElem?, hi1] using e0
  | 1 => simpa [Array.getD_eq_getD_getElem?, hi1] using e1
  | i + 2 => simp at hi2; omega
theorem throw_sound {v : Value} {st1 : St} (h : Rel C W0 F0 st a w F φ) (hT : TysOK C) (hs : throwV C st o o2 = some (v, st1)) :
    o.guard = none ∧ o2.guard = none ∧ ∀ (K : Act → World → Prop), (∀ a', Rel C W0 F0 st1 a' w F φ → Q (.panic [⟨v, false, false⟩]) a' w) → o.wp C.P a w (fun a1 w1 => o2.wp C.P a1 w1 K Q) Q := by
  unfold throwV at hs
  split at hs
  case h_2 => cases hs
  rename_i t x d d' h1 h2 h3 h4 h5
  split at hs
  case h_2 => cases hs
  rename_i te k a0 k' b0 h6 h7
  split at hs
  case h_2 => cases hs
  rename_i fs h8 hc
  cases hs
  simp only [Bool.and_eq_true] at hc
  have e := Nat.eq_of_beq_eq_true hc.1
  subst e
  refine ⟨h3, h5, fun K hQ => ?_⟩
  have hx := two_ints (h.ev h7)
  obtain ⟨dd, i, z, hu, _, _, _, _, _, hki, _⟩ := (hT _ _ h6).info
  rw [h8] at hki
  obtain ⟨fields, ss, rfl, _⟩ := hki
  have r1 : (execOp a.eval o).run C.P w = .ok (.value (.iface t (.agg #[.int k a0, .int k' b0]))) w := by
    simp only [execOp, h1]
    refine run_value ?_
    rw [hx]
    simp only [Instr.makeInterface, Sem.run_bind, run_underlying hu, Result.andThen_ok]
    rfl
  unfold Oper.wp
  rw [r1, Oper.upon_value, h2]
  have hv1 : (a.put (some d) (.iface t (.agg #[.int k a0, .int k' b0]))).eval (.tmp d) = .iface t (.agg #[.int k a0, .int k' b0]) := by
    simp only [Act.put, Act.eval, Array.getD_eq_getD_getElem?]
    rw [Array.getElem?_setIfInBounds_self_of_lt (by rw [h.tsz]; exact Nat.le_of_ble_eq_true hc.2)]
    rfl
  have r2 : (execOp (a.put (some d) (.iface t (.agg #[.int k a0, .int k' b0]))).eval o2).run C.P w = .halt (.panic (.iface t (.agg #[.int k a0, .int k' b0]))) w := by
    simp only [execOp, h4]
    rw [hv1]
    rfl
  rw [r2, Oper.upon_panic]
  exact hQ _ (h.putU d _)

theorem stepAll_sound {ops : Array Oper} {orc : FuncId → List AV → Option AV} {K : Act → World → Prop} (h : Rel C W0 F0 st a w F φ) (hT : TysOK C) (hCC : CCOK C CC) {N : St → Prop}
    (hs : match absStep C CC orc ops.toList st o with | some (st', ps) => conjL ps (N st') | none => match absSp C CC orc ops.toList st o with | some (st', ps) => conjL ps (N st') | none => False)
    (hK : ∀ st' a' w' F' φ', N st' → Rel C W0 F0 st' a' w' F' φ' → K a' w') : if Region.wanted o (yielded ops a.tmps) then o.wp C.P a w K Q else K (a.put o.dst undef) w := by
  split at hs
  · rename_i st' ps h1
    obtain ⟨h2, h3⟩ := conjL_spec hs
    exact step_sound h hT hCC h1 h2 fun a' w' F' φ' hR => hK st' a' w' F' φ' h3 hR
  · split at hs
    case h_2 => exact hs.elim
    rename_i st' ps h1
    obtain ⟨h2, h3⟩ := conjL_spec hs
    exact sp_sound (Q := Q) h hT hCC h1 h2 fun a' w' F' φ' hR => hK st' a' w' F' φ' h3 hR

theorem panOps_sound {ops : Array Oper} {orc : Nat → FuncId → List AV → Option AV} {QS : Exit → St → Prop} : ∀ (rest : List Oper) (i : Nat) (st : St) (a : Act) (w : World) (F : Nat → Prop) (φ : Nat → Place), TysOK C → CCOK C CC → (∀ j, rest[j]? = ops[i + j]?) →
    panOps C CC orc ops.toList rest i st QS → Rel C W0 F0 st a w F φ → (∀ e st' a' w' F' φ', QS e st' → Rel C W0 F0 st' a' w' F' φ' → Q e a' w') → wpOps C.P ops Q (List.range' i rest.length) a w
  | [], i, st, a, w, F, φ, _, _, _, h, hR, hQ => hQ _ _ _ _ _ _ h hR
  | o :: rest, i, st, a, w, F, φ, hT, hCC, hj, h, hR, hQ => by
    have ho : ops[i]? = some o := by simpa using (hj 0).symm
    simp only [List.length_cons, List.range'_succ, wpOps, ho]
    have go : ∀ st' a' w' F' φ', panOps C CC orc ops.toList rest (i + 1) st' QS → Rel C W0 F0 st' a' w' F' φ' → wpOps C.P ops Q (List.range' (i + 1) rest.length) a' w' := fun st' a' w' F' φ' h' hR' =>
      panOps_sound rest (i + 1) st' a' w' F' φ' hT hCC (fun j => by rw [show i + 1 + j = i + (j + 1) from by omega, ← hj (j + 1)]; simp) h' hR' hQ
    simp only [panOps] at h
    split at h
    · rename_i p v st1 ob hp
      obtain ⟨h1, h2⟩ := h
      cases hpv : p with
      | true =>
        obtain ⟨h3, h4⟩ := h1 hpv
        obtain ⟨e1, e2⟩ := pan_sound (Q := Q) (K := wpOps C.P ops Q (List.range' (i + 1) rest.length)) hR hCC.2.2.2 hp hpv h3 fun w' F' φ' hR' => hQ _ _ _ _ _ _ h4 hR'
        rw [if_pos (by simp [Region.wanted, e1])]
        exact .inl e2
      | false =>
        have hstep := stepAll_sound (Q := Q) (ops := ops) (K := wpOps C.P ops Q (List.range' (i + 1) rest.length)) hR hT hCC (N := fun st' => panOps C CC orc ops.toList rest (i + 1) st' QS) (h2 hpv) go
        split
        · rename_i hw; rw [if_pos hw] at hstep; exact .inl hstep
        · rename_i hw; rw [if_neg hw] at hstep; exact hstep
    · split at h
      · rename_i st' ps hst
        have hstep := stepAll_sound (Q := Q) (ops := ops) (K := wpOps C.P ops Q (List.range' (i + 1) rest.length)) (orc := orc i) (o := o) hR hT hCC (N := fun st' => panOps C CC orc ops.toList rest (i + 1) st' QS) (by rw [hst]; exact h) go
        split
        · rename_i hw; rw [if_pos hw] at hstep; exact .inl hstep
        · rename_i hw; rw [if_neg hw] at hstep; exact hstep
      · rename_i hst
        split at h
        · rename_i st' ps hsp
          have hstep := stepAll_sound (Q := Q) (ops := ops) (K := wpOps C.P ops Q (List.range' (i + 1) rest.length)) (orc := orc i) (o := o) hR hT hCC (N := fun st' => panOps C CC orc ops.toList rest (i + 1) st' QS) (by rw [hst, hsp]; exact h) go
          split
          · rename_i hw; rw [if_pos hw] at hstep; exact .inl hstep
          · rename_i hw; rw [if_neg hw] at hstep; exact hstep
        · split at h
          · rename_i o2 rest2
            split at h
            case h_2 => exact h.elim
            rename_i v st1 hth
            obtain ⟨e1, e2, e3⟩ := throw_sound (Q := Q) hR hT hth
            have ho2 : ops[i + 1]? = some o2 := by simpa using (hj 1).symm
            have w1 : ∀ m, Region.wanted o m = true := fun m => by simp [Region.wanted, e1]
            have w2 : ∀ m, Region.wanted o2 m = true := fun m => by simp [Region.wanted, e2]
            rw [if_pos (w1 _)]
            refine .inl ?_
            have := e3 (wpOps C.P ops Q (List.range' (i + 1 + 1) rest2.length)) fun a' hR' => hQ _ _ _ _ _ _ h hR'
            refine Oper.wp_mono (fun a1 w1' h1 => ?_) this
            simp only [List.length_cons, List.range'_succ, wpOps, ho2]
            rw [if_pos (w2 _)]
            exact .inl h1
          · exact h.elim
end
end Go.AV
