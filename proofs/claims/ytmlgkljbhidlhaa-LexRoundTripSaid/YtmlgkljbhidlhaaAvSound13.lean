/- Every operation; steps; a region in the order of its text. -/
import Derived.Test.YtmlgkljbhidlhaaAvSound12
import Derived.Test.YtmlgkljbhidlhaaAvSub
namespace Go.AV
open Go.RowKit

section
variable {C : Cfg} {W0 : Entry} {F0 : Nat → Prop} {st st' : St} {a : Act} {w : World} {F : Nat → Prop} {φ : Nat → Place} {e : Operand → Option AV} {dst : Option Nat} {orc : FuncId → List AV → Option AV} {CC : FuncId → List AV → AV → Prop} {r : Res} {o : Oper}
  {next : Act → World → Prop} {Q : Exit → Act → World → Prop}

/-- What the contracts give. -/
def CCOK (C : Cfg) (CC : FuncId → List AV → AV → Prop) : Prop := (∀ f as r, CC f as r → (CallOK C.P f ∧ RCalls C.P C.G f as r) ∨ RExt C.P f as r) ∧ (∀ f as r cs, C.CCF f as r cs → CallOK C.P f ∧ RFresh C.P C.G f as r cs) ∧ ∀ f as hs r os, C.CCL f as hs r os → CallOK C.P f ∧ RLent C.P C.G f as hs r os

theorem wp_op (h : Rel C W0 F0 st a w F φ) (hT : TysOK C) (hCC : CCOK C CC) (hr : absOp C st e o.dst orc CC o.op = some r) (he : ∀ x ∈ o.op.operands.toList, ∀ u, e x = some u → Rep w F φ (a.eval x) u)
    (hob : ∀ p ∈ r.obs, p) (hst : applyEff st o.dst r.eff = some st') (hn : Next C W0 F0 st' a o r.val next) : o.wp C.P a w next Q := by
  cases hop : o.op with
  | move x => rw [hop] at hr he; exact wp_of_pure h (pure_move (.inl hop) hr (he x (by simp [Op.operands]))) hst hn
  | assign x => rw [hop] at hr he; exact wp_of_pure h (pure_move (st := st) (dst := o.dst) (orc := orc) (CC := CC) (.inr hop) hr (he x (by simp [Op.operands]))) hst hn
  | pick c x y => rw [hop] at hr; simp [absOp] at hr
  | alloc t => rw [hop] at hr; exact wp_alloc h hT hop hr hst hn
  | box t x => rw [hop] at hr he; exact wp_box h hop hr (he x (by simp [Op.operands])) hst hn
  | build t parts =>
    rw [hop] at hr he
    exact wp_of_pure h (pure_build hT hop hr fun p hp u hu => he p.2 (by simp only [Op.operands, List.mem_map]; exact ⟨p, hp, rfl⟩) u hu) hst hn
  | buildSlice t len parts =>
    rw [hop] at hr he
    exact wp_buildSlice' h hT hop hr (fun p hp u hu => he p.2 (by simp only [Op.operands, List.mem_map]; exact ⟨p, hp, rfl⟩) u hu) hob hst hn
  | insert t m k v => rw [hop] at hr; simp [absOp] at hr
  | load t x => rw [hop] at hr he; exact wp_of_pure h (pure_load h hT hop hr (he x (by simp [Op.operands])) hob) hst hn
  | store t x v => rw [hop] at hr he; exact wp_store h hT hop hr (he x (by simp [Op.operands])) (he v (by simp [Op.operands])) hob hst hn
  | ready g => rw [hop] at hr; simp [absOp] at hr
  | waits g => rw [hop] at hr; simp [absOp] at hr
  | nilCheck x => rw [hop] at hr he; exact wp_of_pure h (pure_nilCheck hop hr (he x (by simp [Op.operands]))) hst hn
  | binOp op t x y t' => rw [hop] at hr he; exact wp_of_pure h (pure_binOp hT hop hr (he x (by simp [Op.operands])) (he y (by simp [Op.operands])) hob) hst hn
  | unOp op t x => rw [hop] at hr he; exact wp_of_pure h (pure_unOp hop hr (he x (by simp [Op.operands])) hob) hst hn
  | convert s d x => rw [hop] at hr he; exact wp_of_pure h (pure_convert hT hop hr (he x (by simp [Op.operands]))) hst hn
  | sliceToArrayPointer d x => rw [hop] at hr; simp [absOp] at hr
  | makeInterface t x => rw [hop] at hr; simp [absOp] at hr
  | makeFunc fn first caps => rw [hop] at hr he; exact wp_of_pure h (pure_makeFunc hop hr fun x hx => he x (by simp [Op.operands]; exact .inr (by simpa using hx))) hst hn
  | makeMap t r' => rw [hop] at hr; simp [absOp] at hr
  | makeChan t s => rw [hop] at hr; simp [absOp] at hr
  | makeSlice t l c => rw [hop] at hr he; exact wp_makeSlice h hT hop hr (he l (by simp [Op.operands])) (he c (by simp [Op.operands])) hob hst hn
  | slice t x lo hi mx =>
    rw [hop] at hr he
    exact wp_of_pure h (pure_slice h hT hop hr (he x (by simp [Op.operands])) (fun y hy => he y (by cases lo <;> simp_all [Op.operands])) (fun y hy => he y (by cases hi <;> simp_all [Op.operands])) (fun y hy => he y (by cases mx <;> simp_all [Op.operands])) hob) hst hn
  | fieldAddr t x f => rw [hop] at hr he; exact wp_of_pure h (pure_fieldAddr h hT hop hr (he x (by simp [Op.operands]))) hst hn
  | field t x f => rw [hop] at hr he; exact wp_of_pure h (pure_field hT hop hr (he x (by simp [Op.operands]))) hst hn
  | indexAddr t x ix => rw [hop] at hr he; exact wp_of_pure h (pure_indexAddr h hT hop hr (he x (by simp [Op.operands])) (he ix (by simp [Op.operands])) hob) hst hn
  | index t x ix => rw [hop] at hr he; exact wp_of_pure h (pure_index hT hop hr (he x (by simp [Op.operands])) (he ix (by simp [Op.operands])) hob) hst hn
  | lookup t x ix ok => rw [hop] at hr; simp [absOp] at hr
  | mapUpdate t m k v => rw [hop] at hr; simp [absOp] at hr
  | mapEntry t m k => rw [hop] at hr; simp [absOp] at hr
  | entryStore t m s v => rw [hop] at hr; simp [absOp] at hr
  | range t x => rw [hop] at hr; simp [absOp] at hr
  | next it s => rw [hop] at hr; simp [absOp] at hr
  | entry it => rw [hop] at hr; simp [absOp] at hr
  | typeAssert x t s ok => rw [hop] at hr; simp [absOp] at hr
  | extract x i => rw [hop] at hr he; exact wp_of_pure h (pure_extract hop hr (he x (by simp [Op.operands]))) hst hn
  | call c =>
    rw [hop] at hr he
    have hargs : ∀ x ∈ c.args.toList, ∀ u, e x = some u → Rep w F φ (a.eval x) u := fun x hx => he x (by simp only [Op.operands, Call.operands, Array.toList_append, List.mem_append]; exact .inr hx)
    cases hc : c.callee with
    | value fx => exact wp_callFn h hop hc hr (he fx (by simp [Op.operands, Call.operands, hc])) hargs hob hCC.1 hst hn
    | invoke x m => simp [absOp, hc] at hr
    | builtin b =>
      cases b with
      | len => exact wp_of_pure h (pure_len hT hop hc hr hargs hob) hst hn
      | min => exact wp_of_pure h (pure_min hop hc hr hargs) hst hn
      | max => exact wp_of_pure h (pure_max hop hc hr hargs) hst hn
      | append => exact wp_append h hT hop hc hr hargs hob hst hn
      | copy => exact wp_copy h hT hop hc hr hargs hob hst hn
      | _ => simp [absOp, hc] at hr
  | go c => rw [hop] at hr; simp [absOp] at hr
  | defer c => rw [hop] at hr; simp [absOp] at hr
  | panic x => rw [hop] at hr; simp [absOp] at hr
  | send c x => rw [hop] at hr; simp [absOp] at hr
  | recv t c ok => rw [hop] at hr; simp [absOp] at hr
  | select cs b => rw [hop] at hr; simp [absOp] at hr

theorem impl_mem {q : Bool} : ∀ {l : List Prop}, (∀ p ∈ impl q l, p) → q = true → ∀ p ∈ l, p
  | [], _, _, p, hp => by cases hp
  | x :: l, h, hq, p, hp => by
    rcases List.mem_cons.1 hp with rfl | hp
    · exact h (q = true → p) (by simp [impl]) hq
    · exact impl_mem (fun y hy => h y (by simp [impl, hy])) hq p hp

/-- An operation whose guard says yes, or that has none. -/
theorem wp_plain (h : Rel C W0 F0 st a w F φ) (hT : TysOK C) (hCC : CCOK C CC) (hr : absPlain C CC orc st o = some r) (hob : ∀ p ∈ r.obs, p) (hst : applyEff st o.dst r.eff = some st') (hn : Next C W0 F0 st' a o r.val next) : o.wp C.P a w next Q := by
  unfold absPlain at hr
  split at hr
  · rename_i c x y hop
    split at hr
    case h_2 => cases hr
    rename_i p u v h1 h2 h3
    split at hr
    case h_2 => cases hr
    rename_i z hz
    cases hr
    simp only [applyEff, Option.some.injEq] at hst
    subst hst
    have hop' : ∀ {z : Operand} {zz : AV}, evS C st z = some zz → (∀ q ∈ (match ev C st z with | some v => whenOb v | none => []), q) → Rep w F φ (a.eval z) zz := by
      intro z zz hz hq
      unfold evS at hz
      split at hz
      · rename_i v hv
        cases hz
        rw [hv] at hq
        exact (h.ev hv).strip1 hq
      · cases hz
    simp only [pickObs, List.mem_append] at hob
    obtain ⟨V, hrun, hrep⟩ := pure_pick hop (hop' h1 (fun q hq => hob q (.inl (.inl hq)))) (fun hp => hop' h2 (impl_mem (fun q hq => hob q (.inl (.inr hq))) hp)) (fun hp => hop' h3 (impl_mem (fun q hq => hob q (.inr hq)) (by rw [hp]; rfl))) hz
    unfold Oper.wp
    rw [hrun]
    exact hn V w F φ h fun _ => hrep
  · rename_i op hne
    split at hr
    case h_2 => cases hr
    rename_i r' hr'
    cases hr
    exact wp_op h hT hCC hr' (fun x hx u hu => h.evS (fun p hp => hob p (by simp [hp])) hx hu) (fun p hp => hob p (by simp [hp])) hst hn

theorem put_none (v : Value) : a.put none v = a := rfl

theorem wanted_guard {ops : Array Oper} (h : Rel C W0 F0 st a w F φ) {g : Nat × Bool} {q : Bool} (hg : guardAV C st ops.toList g = some q) (ho : o.guard = some g) : Region.wanted o (yielded ops a.tmps) = q := by
  obtain ⟨j, want⟩ := g
  unfold guardAV at hg
  split at hg
  case h_2 => cases hg
  rename_i o' hj
  split at hg
  case h_2 => cases hg
  rename_i d hd
  have hj' : ops[j]? = some o' := by simpa using hj
  simp only [Region.wanted, ho]
  split at hg
  · rename_i p hp
    cases hg
    obtain ⟨v, hv, hr⟩ := h.env d _ hp
    have := hr.bool_inv
    subst this
    simp only [yielded, hj', Option.bind_some, hd, hv]
    cases want <;> cases p <;> rfl
  · rename_i q' p hp
    cases hg
    obtain ⟨v, hv, hr⟩ := h.env d _ hp
    simp only [yielded, hj', Option.bind_some, hd, hv]
    cases hr with
    | stat hr => cases hr
    | whenT _ h1 h2 =>
      cases hq : q' with
      | true =>
        have := (h1 hq).bool_inv
        subst this
        cases want <;> cases p <;> rfl
      | false =>
        rcases h2 hq with rfl | h3
        · simp [undef]
        · cases h3
  · cases hg

theorem dst_lt (h : dstOK C o.dst = true) {d : Nat} (hd : o.dst = some d) : d < C.ntmps := by
  rw [hd] at h
  simp [dstOK, Nat.blt] at h
  omega

/-- One operation, as it comes up. -/
theorem step_sound {ops : Array Oper} {ps : List Prop} {K : Act → World → Prop} (h : Rel C W0 F0 st a w F φ) (hT : TysOK C) (hCC : CCOK C CC) (hs : absStep C CC orc ops.toList st o = some (st', ps)) (hps : ∀ p ∈ ps, p)
    (hK : ∀ a' w' F' φ', Rel C W0 F0 st' a' w' F' φ' → K a' w') : if Region.wanted o (yielded ops a.tmps) then o.wp C.P a w K Q else K (a.put o.dst undef) w := by
  unfold absStep at hs
  split at hs
  · cases hs
  rename_i hd
  split at hs
  · rename_i hg
    have hw : Region.wanted o (yielded ops a.tmps) = true := by simp [Region.wanted, hg]
    rw [if_pos hw]
    split at hs
    case h_2 => cases hs
    rename_i r hr
    split at hs
    case h_2 => cases hs
    rename_i st1 hst
    cases hs
    refine wp_plain h hT hCC hr hps hst ?_
    intro v w' F' φ' hR hrep
    cases hdd : o.dst with
    | none => rw [put_none]; rw [hdd] at hK; exact hK _ _ _ _ hR
    | some d =>
      rw [hdd] at hK
      exact hK _ _ _ _ (hR.putV (dst_lt hd hdd) (hrep (by rw [hdd]; rfl)))
  · rename_i g hg
    split at hs
    case h_2 => cases hs
    rename_i q hq
    have hw := wanted_guard h hq hg
    split at hs
    case h_2 => cases hs
    rename_i r hr
    split at hs
    case h_2 => cases hs
    rename_i heff
    cases hs
    have he : r.eff = .none := by
      unfold effIsNone at heff
      split at heff
      · assumption
      · cases heff
    rw [hw]
    cases hqv : q with
    | true =>
      subst hqv
      simp only [if_true]
      refine wp_plain h hT hCC hr (impl_mem hps rfl) (st' := st) (by rw [he]; rfl) ?_
      intro v w' F' φ' hR hrep
      cases hdd : o.dst with
      | none => rw [put_none]; rw [hdd] at hK; exact hK _ _ _ _ hR
      | some d =>
        rw [hdd] at hK
        exact hK _ _ _ _ (hR.putV (dst_lt hd hdd) (.whenT true (fun _ => hrep (by rw [hdd]; rfl)) fun h => by cases h))
    | false =>
      subst hqv
      simp only [Bool.false_eq_true, if_false]
      cases hdd : o.dst with
      | none => rw [put_none]; rw [hdd] at hK; exact hK _ _ _ _ h
      | some d =>
        rw [hdd] at hK
        exact hK _ _ _ _ (h.putV (dst_lt hd hdd) (.whenT false (fun h => by cases h) fun _ => .inl rfl))

theorem ops_sound {ops : Array Oper} {orc : Nat → FuncId → List AV → Option AV} : ∀ (rest : List Oper) (i : Nat) (st st' : St) (ps : List Prop) (a : Act) (w : World) (F : Nat → Prop) (φ : Nat → Place), TysOK C → CCOK C CC → (∀ j, rest[j]? = ops[i + j]?) →
    absOps C CC orc ops.toList rest i st = some (st', ps) → (∀ p ∈ ps, p) → Rel C W0 F0 st a w F φ → (∀ a' w' F' φ', Rel C W0 F0 st' a' w' F' φ' → Q .normal a' w') → wpOps C.P ops Q (List.range' i rest.length) a w
  | [], i, st, st', ps, a, w, F, φ, _, _, _, h, _, hR, hQ => by
    simp only [absOps, Option.some.injEq, Prod.mk.injEq] at h
    obtain ⟨rfl, _⟩ := h
    exact hQ _ _ _ _ hR
  | o :: rest, i, st, st', ps, a, w, F, φ, hT, hCC, hj, h, hps, hR, hQ => by
    simp only [absOps] at h
    split at h
    case h_2 => cases h
    rename_i st1 ps1 h1
    split at h
    case h_2 => cases h
    rename_i st2 ps2 h2
    cases h
    have ho : ops[i]? = some o := by simpa using (hj 0).symm
    simp only [List.length_cons, List.range'_succ, wpOps, ho]
    have hstep := step_sound (Q := Q) (ops := ops) (K := wpOps C.P ops Q (List.range' (i + 1) rest.length)) hR hT hCC h1 (fun p hp => hps p (by simp [hp])) fun a' w' F' φ' hR' =>
      ops_sound rest (i + 1) st1 st' ps2 a' w' F' φ' hT hCC (fun j => by rw [show i + 1 + j = i + (j + 1) from by omega, ← hj (j + 1)]; simp) h2 (fun p hp => hps p (by simp [hp])) hR' hQ
    split
    · rename_i hw; rw [if_pos hw] at hstep; exact .inl hstep
    · rename_i hw; rw [if_neg hw] at hstep; exact hstep
end
end Go.AV
