/- Every order of a checked region comes to what the text's order comes to. -/
import Derived.Test.YtmlgkljbhidlhaaAvDraw
namespace Go.AV
open Go.RowKit

section
variable {C : Cfg} {W0 : Entry} {F0 : Nat → Prop} {CC : FuncId → List AV → AV → Prop} {orc : Nat → FuncId → List AV → Option AV} {ops : Array Oper} {st st' : St} {σ : Nat → St} {Q : Exit → Act → World → Prop}

/-- Between two states nothing has written the slot. -/
theorem Tr.slotSame (T : Tr C CC orc ops st st' σ) {s i : Nat} : ∀ m, i ≤ m → m ≤ ops.size → (∀ (k : Nat) (o : Oper), i ≤ k → k < m → ops[k]? = some o → o.dst ≠ some s) → get (σ m).env s = get (σ i).env s
  | 0, h, _, _ => by have e : i = 0 := by omega
                     subst e; rfl
  | m + 1, h, hm, hw => by
    by_cases e : i = m + 1
    · subst e; rfl
    · have ho : ops[m]? = some ops[m] := by simp [show m < ops.size by omega]
      obtain ⟨qs, h1, _⟩ := T.step m _ ho
      rw [(absStep_frame (T.noapp m _ ho) h1).1 s (hw m _ (by omega) (by omega) ho)]
      exact T.slotSame m (by omega) (by omega) fun k o h1 h2 h3 => hw k o h1 (by omega) h3
theorem Tr.boxSame (T : Tr C CC orc ops st st' σ) {b i : Nat} : ∀ m, i ≤ m → m ≤ ops.size → (∀ (k : Nat) (o : Oper), i ≤ k → k < m → ops[k]? = some o → b ∉ wrBox C (σ k) o) → get (σ m).heap b = get (σ i).heap b
  | 0, h, _, _ => by have e : i = 0 := by omega
                     subst e; rfl
  | m + 1, h, hm, hw => by
    by_cases e : i = m + 1
    · subst e; rfl
    · have ho : ops[m]? = some ops[m] := by simp [show m < ops.size by omega]
      obtain ⟨qs, h1, _⟩ := T.step m _ ho
      rw [(absStep_frame (T.noapp m _ ho) h1).2 b (hw m _ (by omega) (by omega) ho)]
      exact T.boxSame m (by omega) (by omega) fun k o h1 h2 h3 => hw k o h1 (by omega) h3

/-- What has come up so far, and the facts that stand. -/
structure Vers (C : Cfg) (ops : Array Oper) (σ : Nat → St) (D : Nat → Prop) (S : St) : Prop where
  slot : ∀ s, ∃ m, m ≤ ops.size ∧ (∀ (k : Nat) (o : Oper), ops[k]? = some o → o.dst = some s → (D k ↔ k < m)) ∧ get S.env s = get (σ m).env s
  box : ∀ b, ∃ m, m ≤ ops.size ∧ (∀ (k : Nat) (o : Oper), ops[k]? = some o → b ∈ wrBox C (σ k) o → (D k ↔ k < m)) ∧ get S.heap b = get (σ m).heap b

theorem memN_mem {b : Nat} : ∀ {l : List Nat}, b ∈ l → memN b l = true
  | [], h => by cases h
  | x :: l, h => by
    rcases List.mem_cons.1 h with rfl | h2
    · simp [memN]
    · simp [memN, memN_mem h2]

theorem conf_slot_rw {x y : Oper × St × St} {all : List Oper} {s : Nat} (h1 : x.1.dst = some s) (h2 : rdSlot all y.1 s = true) : conflict C all x y = true := by
  simp [conflict, h1, h2]
theorem conf_slot_ww {x y : Oper × St × St} {all : List Oper} {s : Nat} (h1 : x.1.dst = some s) (h2 : y.1.dst = some s) : conflict C all x y = true := by
  simp [conflict, h1, h2]
theorem conf_slot_wr {x y : Oper × St × St} {all : List Oper} {s : Nat} (h1 : rdSlot all x.1 s = true) (h2 : y.1.dst = some s) : conflict C all x y = true := by
  simp [conflict, h1, h2]
theorem conf_box_rw {x y : Oper × St × St} {all : List Oper} {b : Nat} (h1 : b ∈ wrBox C x.2.1 x.1) (h2 : rdBox C y.2.1 y.1 b = true) : conflict C all x y = true := by
  simp only [conflict, Bool.or_eq_true, List.any_eq_true]
  exact .inr (.inr (.inl ⟨b, h1, .inl h2⟩))
theorem conf_box_ww {x y : Oper × St × St} {all : List Oper} {b : Nat} (h1 : b ∈ wrBox C x.2.1 x.1) (h2 : b ∈ wrBox C y.2.1 y.1) : conflict C all x y = true := by
  simp only [conflict, Bool.or_eq_true, List.any_eq_true]
  exact .inr (.inr (.inl ⟨b, h1, .inr (memN_mem h2)⟩))
theorem conf_box_wr {x y : Oper × St × St} {all : List Oper} {b : Nat} (h1 : rdBox C x.2.1 x.1 b = true) (h2 : b ∈ wrBox C y.2.1 y.1) : conflict C all x y = true := by
  simp only [conflict, Bool.or_eq_true, List.any_eq_true]
  exact .inr (.inr (.inr ⟨b, h2, h1⟩))

/-- A set of operations that is closed under the edges. -/
def Closed (ops : Array Oper) (D : Nat → Prop) : Prop := ∀ (k : Nat) (o : Oper), D k → ops[k]? = some o → ∀ e ∈ o.after.toList, Region.binds .any e = true → D e.on

section
variable {D : Nat → Prop} {S : St} {j : Nat} {y : Oper}

/-- In what the next operation reads the facts are those of its own place in the text. -/
theorem Vers.reads (T : Tr C CC orc ops st st' σ) (V : Vers C ops σ D S) (hD : Closed ops D) (hy : ops[j]? = some y) (hnot : ¬ D j) (hanc : ∀ i, ((masks ops.toList []).getD j 0).testBit i = true → D i) :
    Alike2 C ops.toList y (σ j) S := by
  have hjn : j < ops.size := (Array.getElem?_eq_some_iff.1 hy).1
  have after : ∀ (k : Nat) (o : Oper), j < k → ops[k]? = some o → conflict C ops.toList (y, σ j, σ (j + 1)) (o, σ k, σ (k + 1)) = true → ¬ D k := by
    intro k o hk ho hc hDk
    exact hnot (anc_closed hD k o ho (fun e he hb => hD k o hDk ho e he hb) j (T.conf j k y o hk hy ho hc))
  have before : ∀ (k : Nat) (o : Oper), k < j → ops[k]? = some o → conflict C ops.toList (o, σ k, σ (k + 1)) (y, σ j, σ (j + 1)) = true → D k := fun k o hk ho hc => hanc k (T.conf k j o y hk ho hy hc)
  refine ⟨fun s hs => ?_, fun b hb => ?_⟩
  · obtain ⟨m, hm, hw, he⟩ := V.slot s
    rw [he]
    by_cases hmj : m ≤ j
    · refine (T.slotSame j hmj (by omega) fun k o h1 h2 ho hd => ?_)
      have := before k o h2 ho (conf_slot_rw hd hs)
      have := (hw k o ho hd).1 this
      omega
    · refine (T.slotSame m (by omega) hm fun k o h1 h2 ho hd => ?_).symm
      have hDk := (hw k o ho hd).2 h2
      rcases Nat.eq_or_lt_of_le h1 with h3 | h3
      · subst h3; exact hnot hDk
      · exact after k o h3 ho (conf_slot_wr hs hd) hDk
  · obtain ⟨m, hm, hw, he⟩ := V.box b
    rw [he]
    by_cases hmj : m ≤ j
    · refine (T.boxSame j hmj (by omega) fun k o h1 h2 ho hd => ?_)
      have := before k o h2 ho (conf_box_rw hd hb)
      have := (hw k o ho hd).1 this
      omega
    · refine (T.boxSame m (by omega) hm fun k o h1 h2 ho hd => ?_).symm
      have hDk := (hw k o ho hd).2 h2
      rcases Nat.eq_or_lt_of_le h1 with h3 | h3
      · subst h3; exact hnot hDk
      · exact after k o h3 ho (conf_box_wr hb hd) hDk

theorem wrBox_new {o : Oper} {S : St} {d : Nat} (hn : isNew o.op = true) (hd : o.dst = some d) : wrBox C S o = [d] := by
  cases hop : o.op with
  | call c =>
    obtain ⟨callee, args, tys⟩ := c
    cases callee with
    | builtin b => cases b <;> simp [isNew, hop] at hn <;> simp [wrBox, hop, hd]
    | _ => simp [isNew, hop] at hn
  | _ => simp [isNew, hop] at hn <;> simp [wrBox, hop, hd]

/-- A box that is still to be made is named nowhere. -/
theorem Vers.fresh (T : Tr C CC orc ops st st' σ) (V : Vers C ops σ D S) (hD : Closed ops D) (hy : ops[j]? = some y) (hnot : ¬ D j) (hn : isNew y.op = true) {d : Nat} (hd : y.dst = some d) :
    (∀ s x, get S.env s = some x → x.names d = false) ∧ (∀ b c, get S.heap b = some c → c.names d = false ∧ b ≠ d) ∧ (!Nat.blt d 1099511627776) = false := by
  obtain ⟨d', hd', hf, hw⟩ := T.new j y hy hn
  rw [hd] at hd'; cases hd'
  simp only [freshBox, Bool.not_eq_true', Bool.or_eq_false_iff] at hf
  have notby : ∀ (k : Nat) (z : Oper), ops[k]? = some z → D k → wroteName C (z, σ k, σ (k + 1)) d = true → False := by
    intro k z hk hDk hwn
    rcases hw k z hk hwn with h1 | h1
    · subst h1; exact hnot hDk
    · exact hnot (anc_closed hD k z hk (fun e he hb => hD k z hDk hk e he hb) j h1)
  have hst := T.s0
  -- the last writer below m
  have lastSlot : ∀ (s m : Nat), m ≤ ops.size → (∀ (k : Nat) (o : Oper), ops[k]? = some o → o.dst = some s → (D k ↔ k < m)) → ∀ x, get (σ m).env s = some x → x.names d = false := by
    intro s m
    induction m with
    | zero => intro _ _ x hx; rw [hst] at hx; exact namesEnv_get hx hf.1
    | succ m ih =>
      intro hm hwr x hx
      have ho : ops[m]? = some ops[m] := by simp [show m < ops.size by omega]
      by_cases hds : (ops[m]).dst = some s
      · cases hnm : x.names d with
        | false => rfl
        | true =>
          have hDm := (hwr m _ ho hds).2 (by omega)
          exact (notby m _ ho hDm (by simp [wroteName, hds, hx, hnm])).elim
      · obtain ⟨qs, h1, _⟩ := T.step m _ ho
        rw [(absStep_frame (T.noapp m _ ho) h1).1 s hds] at hx
        refine ih (by omega) (fun k o hk hdk => ?_) x hx
        have := hwr k o hk hdk
        have hkm : k ≠ m := fun e => by subst e; rw [ho] at hk; cases hk; exact hds hdk
        exact this.trans ⟨fun h => by omega, fun h => by omega⟩
  have lastBox : ∀ (b m : Nat), m ≤ ops.size → (∀ (k : Nat) (o : Oper), ops[k]? = some o → b ∈ wrBox C (σ k) o → (D k ↔ k < m)) → ∀ c, get (σ m).heap b = some c → c.names d = false ∧ b ≠ d := by
    intro b m
    induction m with
    | zero => intro _ _ c hc; rw [hst] at hc; exact namesHeap_get hc hf.2.1
    | succ m ih =>
      intro hm hwr c hc
      have ho : ops[m]? = some ops[m] := by simp [show m < ops.size by omega]
      by_cases hds : b ∈ wrBox C (σ m) ops[m]
      · have hDm := (hwr m _ ho hds).2 (by omega)
        refine ⟨?_, fun e => ?_⟩
        · cases hnm : c.names d with
          | false => rfl
          | true =>
            refine (notby m _ ho hDm ?_).elim
            simp only [wroteName, Bool.or_eq_true, List.any_eq_true]
            exact .inr (.inl ⟨b, hds, by rw [hc]; exact hnm⟩)
        · subst e
          refine (notby m _ ho hDm ?_).elim
          simp only [wroteName, Bool.or_eq_true]
          exact .inr (.inr (memN_mem hds))
      · obtain ⟨qs, h1, _⟩ := T.step m _ ho
        rw [(absStep_frame (T.noapp m _ ho) h1).2 b hds] at hc
        refine ih (by omega) (fun k o hk hdk => ?_) c hc
        have := hwr k o hk hdk
        have hkm : k ≠ m := fun e => by subst e; rw [ho] at hk; cases hk; exact hds hdk
        exact this.trans ⟨fun h => by omega, fun h => by omega⟩
  refine ⟨fun s x hx => ?_, fun b c hc => ?_, hf.2.2⟩
  · obtain ⟨m, hm, hwr, he⟩ := V.slot s
    rw [he] at hx
    exact lastSlot s m hm hwr x hx
  · obtain ⟨m, hm, hwr, he⟩ := V.box b
    rw [he] at hc
    exact lastBox b m hm hwr c hc
end

theorem absOp_new {e : Operand → Option AV} {dst : Option Nat} {o1 : FuncId → List AV → Option AV} {op : Op} {r : Res} {c : BoxC} {st : St} (h : absOp C st e dst o1 CC op = some r) (hr : r.eff = .new c) : isNew op = true := by
  cases op with
  | alloc => rfl
  | box => rfl
  | buildSlice => rfl
  | makeSlice => rfl
  | binOp op t x y t' =>
    simp only [absOp] at h
    repeat' split at h
    all_goals first | (cases h; done) | (rw [shiftAV_eff h] at hr; cases hr) | (rw [binAV_eff h] at hr; cases hr)
  | unOp op t x =>
    simp only [absOp] at h
    repeat' split at h
    all_goals first | (cases h; done) | (cases h; cases hr; done) | (cases h; rw [arith_eff'] at hr; cases hr)
  | makeFunc fn f caps =>
    cases fn <;> simp only [absOp] at h <;> (repeat' split at h) <;> first | (cases h; done) | (cases h; cases hr; done)
  | call c' =>
    obtain ⟨callee, args, tys⟩ := c'
    cases callee with
    | invoke x m => simp [absOp] at h
    | value fx =>
      simp only [absOp] at h
      repeat' split at h
      all_goals first | (cases h; done) | (cases h; cases hr; done)
    | builtin b =>
      cases b with
      | append => rfl
      | _ =>
        simp only [absOp] at h
        repeat' split at h
        all_goals first | (cases h; done) | (cases h; cases hr; done)
  | _ =>
    simp only [absOp] at h
    repeat' split at h
    all_goals first | (cases h; done) | (cases h; cases hr; done)

theorem wrBox_local {all : List Oper} {o : Oper} {s1 s2 : St} (h : Alike2 C all o s1 s2) : wrBox C s1 o = wrBox C s2 o := by
  unfold wrBox
  cases hop : o.op with
  | store t x v => simp only []; rw [h.evS (x := x) (by rw [hop]; simp [Op.operands])]
  | call c =>
    simp only []
    cases hc : c.callee with
    | builtin b =>
      cases b with
      | copy =>
        simp only []
        cases ha : c.args.toList with
        | nil => rfl
        | cons x l => simp only []; rw [h.evS (x := x) (by rw [hop]; simp only [Op.operands, Call.operands, Array.toList_append, List.mem_append]; right; rw [ha]; simp)]
      | _ => rfl
    | _ => rfl
  | _ => rfl

theorem growing_local {all : List Oper} {o : Oper} {s1 s2 : St} (h : Alike2 C all o s1 s2) : growing C s1 o = growing C s2 o := by
  unfold growing
  cases hop : o.op with
  | call c =>
    simp only []
    cases hc : c.callee with
    | builtin b =>
      cases b with
      | append =>
        simp only []
        cases ha : c.args.toList with
        | nil => rfl
        | cons x l => simp only []; rw [h.evS (x := x) (by rw [hop]; simp only [Op.operands, Call.operands, Array.toList_append, List.mem_append]; right; rw [ha]; simp)]
      | _ => rfl
    | _ => rfl
  | _ => rfl

theorem guard_local {all : List Oper} {o : Oper} {s1 s2 : St} (h : Alike2 C all o s1 s2) {g : Nat × Bool} (hg : o.guard = some g) : guardAV C s1 all g = guardAV C s2 all g := by
  unfold guardAV
  cases ho : all[g.1]? with
  | none => rfl
  | some o' =>
    simp only []
    cases hd : o'.dst with
    | none => rfl
    | some d =>
      simp only []
      rw [h.slot d (by simp [rdSlot, hg, ho, hd])]

theorem absPlain_eff {o1 : FuncId → List AV → Option AV} {o : Oper} {s1 : St} {r : Res} (hno : growing C s1 o = false) (hr : absPlain C CC o1 s1 o = some r) :
    (r.eff = .none ∧ wrBox C s1 o = []) ∨ (∃ c d, r.eff = .new c ∧ o.dst = some d ∧ wrBox C s1 o = [d]) ∨ (∃ b c, r.eff = .upd b c ∧ wrBox C s1 o = [b]) := by
  unfold absPlain at hr
  split at hr
  · rename_i hop
    repeat' split at hr
    all_goals first | (cases hr; done) | (cases hr; exact .inl ⟨rfl, by simp [wrBox, hop]⟩)
  · split at hr
    · rename_i r' hr'
      have he := absOp_eff hno hr'
      cases hr
      exact he
    · cases hr

/-- The same operation at a state that is alike in what it reads. -/
theorem absStep_local {o1 : FuncId → List AV → Option AV} {all : List Oper} {o : Oper} {s1 s1' s2 : St} {ps : List Prop} (h : Alike2 C all o s1 s2) (hno : growing C s1 o = false) (hs : absStep C CC o1 all s1 o = some (s1', ps))
    (hf : isNew o.op = true → ∀ d, o.dst = some d → freshBox s2 d = true) :
    ∃ s2', absStep C CC o1 all s2 o = some (s2', ps) ∧ (∀ s, o.dst = some s → get s2'.env s = get s1'.env s) ∧ (∀ b, b ∈ wrBox C s1 o → get s2'.heap b = get s1'.heap b) := by
  have hput : ∀ {a b : St} {v : AV} {s : Nat}, o.dst = some s → get (putDst a o.dst v).env s = get (putDst b o.dst v).env s := by
    intro a b v s hd
    rw [hd]
    simp only [putDst, get_put_same]
  unfold absStep at hs ⊢
  split at hs
  · cases hs
  rename_i hd
  cases hg : o.guard with
  | none =>
    simp only [hg] at hs ⊢
    split at hs
    case h_2 => cases hs
    rename_i r hr
    rw [absPlain_local h] at hr
    rw [hr]
    simp only []
    split at hs
    case h_2 => cases hs
    rename_i st1 hst
    cases hs
    have heff := absPlain_eff (growing_local h ▸ hno) hr
    rw [← wrBox_local h] at heff
    rcases heff with ⟨he, hw⟩ | ⟨c, d, he, hdd, hw⟩ | ⟨b, c, he, hw⟩
    · rw [he] at hst ⊢
      simp only [applyEff, Option.some.injEq] at hst ⊢
      subst hst
      exact ⟨_, rfl, fun s hs => hput hs, fun b hb => by rw [hw] at hb; cases hb⟩
    · have hnew : isNew o.op = true := by
        unfold absPlain at hr
        split at hr
        · repeat' split at hr
          all_goals first | (cases hr; done) | (cases hr; cases he)
        · split at hr
          · rename_i r' hr'
            refine absOp_new hr' (c := c) ?_
            cases hr
            exact he
          · cases hr
      rw [he, hdd] at hst ⊢
      simp only [applyEff] at hst ⊢
      split at hst
      case h_2 => cases hst
      rename_i hc
      cases hst
      simp only [Bool.and_eq_true] at hc
      rw [hf hnew d hdd, hc.2]
      simp only [Bool.and_self]
      refine ⟨_, rfl, fun s hs => ?_, fun b hb => ?_⟩
      · cases hs; simp only [putDst, get_put_same]
      · rw [hw] at hb
        obtain rfl : b = d := by simpa using hb
        simp only [putDst, get_put_same]
    · rw [he] at hst ⊢
      simp only [applyEff, Option.some.injEq] at hst ⊢
      subst hst
      refine ⟨_, rfl, fun s hs => hput hs, fun b' hb => ?_⟩
      rw [hw] at hb
      obtain rfl : b' = b := by simpa using hb
      cases o.dst <;> simp only [putDst, get_put_same]
  | some g =>
    simp only [hg] at hs ⊢
    rw [guard_local h hg] at hs
    split at hs
    case h_2 => cases hs
    rename_i q hq
    rw [absPlain_local h] at hs
    split at hs
    case h_2 => cases hs
    rename_i r hr
    split at hs
    case h_2 => cases hs
    rename_i he
    cases hs
    refine ⟨_, rfl, fun s hs => hput hs, fun b hb => ?_⟩
    have heff := absPlain_eff (growing_local h ▸ hno) hr
    rw [← wrBox_local h] at heff
    rcases heff with ⟨_, hw⟩ | ⟨c, d, he2, _⟩ | ⟨b, c, he2, _⟩
    · rw [hw] at hb; cases hb
    · rw [he2] at he; cases he
    · rw [he2] at he; cases he

/-- Facts that are looked up alike. -/
theorem Rel.alike {a : Act} {w : World} {F : Nat → Prop} {φ : Nat → Place} {S S' : St} (h : Rel C W0 F0 S a w F φ) (he : ∀ s, get S'.env s = get S.env s) (hh : ∀ b, get S'.heap b = get S.heap b) : Rel C W0 F0 S' a w F φ :=
  ⟨fun s x hs => h.env s x (by rw [← he]; exact hs), fun b c hc => h.heap b c (by rw [← hh]; exact hc), fun b b' c c' g h1 h2 => h.inj b b' c c' g (by rw [← hh]; exact h1) (by rw [← hh]; exact h2), h.ro, h.base, h.sub, h.new, h.dfr, h.tsz, h.glob, fun b p hp => ⟨(h.anc b p hp).1, (h.anc b p hp).2.1, fun c hc => (h.anc b p hp).2.2 c (by rw [← hh]; exact hc)⟩⟩

theorem draw_step (T : Tr C CC orc ops st st' σ) {D : Nat → Prop} {S : St} (V : Vers C ops σ D S) (hD : Closed ops D) {j : Nat} {y : Oper} (hy : ops[j]? = some y) (hnot : ¬ D j) (hedge : ∀ e ∈ y.after.toList, Region.binds .any e = true → D e.on) :
    ∃ S' qs, absStep C CC (orc j) ops.toList ⟨dedup S.env, dedup S.heap⟩ y = some (S', qs) ∧ (∀ p ∈ qs, p) ∧ Vers C ops σ (fun k => D k ∨ k = j) S' ∧ Closed ops (fun k => D k ∨ k = j) := by
  have hjn : j < ops.size := (Array.getElem?_eq_some_iff.1 hy).1
  have hanc := anc_closed hD j y hy hedge
  have hal := V.reads T hD hy hnot hanc
  have hal2 : Alike2 C ops.toList y (σ j) ⟨dedup S.env, dedup S.heap⟩ := ⟨fun s hs => by rw [get_dedup]; exact hal.slot s hs, fun b hb => by rw [get_dedup]; exact hal.box b hb⟩
  obtain ⟨qs, hstep, hqs⟩ := T.step j y hy
  have hno := T.noapp j y hy
  obtain ⟨S', hS', hs1, hs2⟩ := absStep_local hal2 hno hstep fun hn d hd => by
    obtain ⟨f1, f2, f3⟩ := V.fresh T hD hy hnot hn hd
    simp only [freshBox, Bool.not_eq_true', Bool.or_eq_false_iff]
    exact ⟨namesEnv_of fun p hp => f1 p.1 p.2 (dedup_mem hp), namesHeap_of fun p hp => f2 p.1 p.2 (dedup_mem hp), f3⟩
  obtain ⟨fr1, fr2⟩ := absStep_frame (growing_local hal2 ▸ hno) hS'
  rw [← wrBox_local hal2] at fr2
  have after : ∀ (k : Nat) (o : Oper), j < k → ops[k]? = some o → conflict C ops.toList (y, σ j, σ (j + 1)) (o, σ k, σ (k + 1)) = true → ¬ D k := by
    intro k o hk ho hc hDk
    exact hnot (anc_closed hD k o ho (fun e he hb => hD k o hDk ho e he hb) j (T.conf j k y o hk hy ho hc))
  have before : ∀ (k : Nat) (o : Oper), k < j → ops[k]? = some o → conflict C ops.toList (o, σ k, σ (k + 1)) (y, σ j, σ (j + 1)) = true → D k := fun k o hk ho hc => hanc k (T.conf k j o y hk ho hy hc)
  refine ⟨S', qs, hS', hqs, ⟨fun s => ?_, fun b => ?_⟩, ?_⟩
  · by_cases hd : y.dst = some s
    · refine ⟨j + 1, by omega, fun k o ho hk => ?_, hs1 s hd⟩
      rcases Nat.lt_trichotomy k j with h1 | h1 | h1
      · exact ⟨fun _ => by omega, fun _ => .inl (before k o h1 ho (conf_slot_ww hk hd))⟩
      · exact ⟨fun _ => by omega, fun _ => .inr h1⟩
      · refine ⟨fun h => ?_, fun h => by omega⟩
        rcases h with h | h
        · exact (after k o h1 ho (conf_slot_ww hd hk) h).elim
        · omega
    · obtain ⟨m, hm, hw, he⟩ := V.slot s
      refine ⟨m, hm, fun k o ho hk => ?_, by rw [fr1 s hd, get_dedup]; exact he⟩
      have hkj : k ≠ j := fun e => by subst e; rw [hy] at ho; cases ho; exact hd hk
      rw [← hw k o ho hk]
      exact ⟨fun h => h.resolve_right hkj, fun h => .inl h⟩
  · by_cases hd : b ∈ wrBox C (σ j) y
    · refine ⟨j + 1, by omega, fun k o ho hk => ?_, hs2 b hd⟩
      rcases Nat.lt_trichotomy k j with h1 | h1 | h1
      · exact ⟨fun _ => by omega, fun _ => .inl (before k o h1 ho (conf_box_ww hk hd))⟩
      · exact ⟨fun _ => by omega, fun _ => .inr h1⟩
      · refine ⟨fun h => ?_, fun h => by omega⟩
        rcases h with h | h
        · exact (after k o h1 ho (conf_box_ww hd hk) h).elim
        · omega
    · obtain ⟨m, hm, hw, he⟩ := V.box b
      refine ⟨m, hm, fun k o ho hk => ?_, by rw [fr2 b hd, get_dedup]; exact he⟩
      have hkj : k ≠ j := fun e => by subst e; rw [hy] at ho; cases ho; exact hd hk
      rw [← hw k o ho hk]
      exact ⟨fun h => h.resolve_right hkj, fun h => .inl h⟩
  · intro k o hk ho e he hb
    rcases hk with hk | hk
    · exact .inl (hD k o hk ho e he hb)
    · subst hk; rw [hy] at ho; cases ho; exact .inl (hedge e he hb)

theorem draw_any (T : Tr C CC orc ops st st' σ) (hT : TysOK C) (hCC : CCOK C CC) {md : Region.Mode} (hQ : ∀ a' w' F' φ', Rel C W0 F0 st' a' w' F' φ' → Q .normal a' w') :
    ∀ (fuel : Nat) (U : List Nat) (listed : Array Bool) (a : Act) (w : World) (S : St) (F : Nat → Prop) (φ : Nat → Place), U.length = fuel → U.Nodup → listed.size = ops.size → (∀ k, k < ops.size → (listed.getD k true = false ↔ k ∈ U)) →
      Vers C ops σ (fun k => listed.getD k false = true) S → Closed ops (fun k => listed.getD k false = true) → Rel C W0 F0 S a w F φ → wpAny C.P md ops Q fuel listed a w := by
  have ready : ∀ (listed : Array Bool) (i : Nat), listed.size = ops.size → (i ∈ Region.ready md ops listed ↔ ∃ o, ops[i]? = some o ∧ listed.getD i true = false ∧ ∀ e ∈ o.after.toList, Region.binds md e = true → listed.getD e.on false = true) := by
    intro listed i hsz
    simp only [Region.ready, List.mem_filter, List.mem_range, Bool.and_eq_true, Bool.not_eq_true']
    constructor
    · rintro ⟨h1, h2, h3⟩
      have ho : ops[i]? = some ops[i] := by simp [h1]
      rw [ho] at h3
      simp only [Option.map_some, Option.getD_some, Array.all_eq_true_iff_forall_mem] at h3
      exact ⟨_, ho, h2, fun e he hb => by
        have := h3 e (by simpa using he)
        simpa [hb] using this⟩
    · rintro ⟨o, ho, h2, h3⟩
      refine ⟨(Array.getElem?_eq_some_iff.1 ho).1, h2, ?_⟩
      rw [ho]
      simp only [Option.map_some, Option.getD_some, Array.all_eq_true_iff_forall_mem]
      intro e he
      by_cases hb : Region.binds md e = true
      · simp [h3 e (by simpa using he) hb]
      · simp [hb]
  have anyB : ∀ e : Edge, Region.binds .any e = true → Region.binds md e = true := by
    intro e he
    obtain ⟨on, g⟩ := e
    cases g <;> simp_all [Region.binds]
  have getDs : ∀ (listed : Array Bool) (k : Nat), k < listed.size → listed.getD k true = listed.getD k false := by
    intro l k hk
    simp [Array.getD_eq_getD_getElem?, hk]
  -- nothing is left to come up: all has
  have stop : ∀ (listed : Array Bool), listed.size = ops.size → Region.ready md ops listed = [] → ∀ k, k < ops.size → listed.getD k false = true := by
    intro listed hsz hr
    obtain ⟨rk, hrk⟩ := T.edge md
    suffices h : ∀ (r k : Nat), rk k = r → k < ops.size → listed.getD k false = true from fun k => h _ k rfl
    intro r
    induction r using Nat.strongRecOn with
    | _ r ih =>
      intro k hkr hk
      cases hl : listed.getD k false with
      | true => rfl
      | false =>
        have ho : ops[k]? = some ops[k] := by simp [hk]
        have : k ∈ Region.ready md ops listed := (ready listed k hsz).2 ⟨_, ho, by rw [getDs _ _ (by omega)]; exact hl, fun e he hb => by
          obtain ⟨h1, h2⟩ := hrk k _ ho e he hb
          exact ih (rk e.on) (by omega) e.on rfl h2⟩
        rw [hr] at this; cases this
  have fin : ∀ (listed : Array Bool) (a : Act) (w : World) (S : St) (F : Nat → Prop) (φ : Nat → Place), listed.size = ops.size → Region.ready md ops listed = [] → Vers C ops σ (fun k => listed.getD k false = true) S → Rel C W0 F0 S a w F φ → Q .normal a w := by
    intro listed a w S F φ hsz hr V hR
    have hall := stop listed hsz hr
    refine hQ a w F φ (hR.alike (fun s => ?_) fun b => ?_)
    · obtain ⟨m, hm, hw, he⟩ := V.slot s
      rw [he, ← T.sn]
      exact T.slotSame ops.size hm (Nat.le_refl _) fun k o h1 h2 ho hd => by
        have := (hw k o ho hd).1 (hall k h2); omega
    · obtain ⟨m, hm, hw, he⟩ := V.box b
      rw [he, ← T.sn]
      exact T.boxSame ops.size hm (Nat.le_refl _) fun k o h1 h2 ho hd => by
        have := (hw k o ho hd).1 (hall k h2); omega
  intro fuel
  induction fuel with
  | zero =>
    intro U listed a w S F φ hU _ hsz hl V hD hR
    have hU0 : U = [] := List.eq_nil_of_length_eq_zero hU
    subst hU0
    have hr : Region.ready md ops listed = [] := by
      cases hrr : Region.ready md ops listed with
      | nil => rfl
      | cons i l =>
        obtain ⟨o, ho, h2, _⟩ := (ready listed i hsz).1 (by rw [hrr]; simp)
        have := (hl i (Array.getElem?_eq_some_iff.1 ho).1).1 h2
        cases this
    exact ⟨hr, fin listed a w S F φ hsz hr V hR⟩
  | succ fuel ih =>
    intro U listed a w S F φ hU hnd hsz hl V hD hR
    refine ⟨fun hr => fin listed a w S F φ hsz hr V hR, fun i hi => ?_⟩
    obtain ⟨o, ho, h2, h3⟩ := (ready listed i hsz).1 hi
    have hin : i < ops.size := (Array.getElem?_eq_some_iff.1 ho).1
    have hnot : ¬ (listed.getD i false = true) := by rw [← getDs _ _ (by omega), h2]; simp
    obtain ⟨S', qs, hS', hqs, V', hD'⟩ := draw_step T V hD ho hnot fun e he hb => h3 e he (anyB e hb)
    have hlist : ∀ k, ((listed.setIfInBounds i true).getD k false = true) ↔ (listed.getD k false = true ∨ k = i) := by
      intro k
      simp only [Array.getD_eq_getD_getElem?, Array.getElem?_setIfInBounds]
      by_cases hk : i = k
      · subst hk; simp [show i < listed.size by omega]
      · simp [hk, Ne.symm hk]
    have iU : i ∈ U := (hl i hin).1 h2
    have hnext := ih (U.erase i) (listed.setIfInBounds i true)
    have hK : ∀ a' w' F' φ', Rel C W0 F0 S' a' w' F' φ' → wpAny C.P md ops Q fuel (listed.setIfInBounds i true) a' w' := by
      intro a' w' F' φ' hR'
      refine hnext a' w' S' F' φ' (by rw [List.length_erase_of_mem iU, hU]; rfl) (hnd.erase i) (by simpa using hsz) (fun k hk => ?_) ?_ ?_ hR'
      · rw [hnd.mem_erase_iff, ← hl k hk]
        simp only [Array.getD_eq_getD_getElem?, Array.getElem?_setIfInBounds]
        by_cases hki : i = k
        · subst hki; simp [show i < listed.size by omega]
        · simp [hki, Ne.symm hki]
      · have : (fun k => (listed.setIfInBounds i true).getD k false = true) = (fun k => listed.getD k false = true ∨ k = i) := funext fun k => propext (hlist k)
        rw [this]; exact V'
      · have : (fun k => (listed.setIfInBounds i true).getD k false = true) = (fun k => listed.getD k false = true ∨ k = i) := funext fun k => propext (hlist k)
        rw [this]; exact hD'
    have hR2 : Rel C W0 F0 ⟨dedup S.env, dedup S.heap⟩ a w F φ := hR.alike (fun s => get_dedup _ _) fun b => get_dedup _ _
    have hstep := step_sound (Q := Q) (ops := ops) (K := wpAny C.P md ops Q fuel (listed.setIfInBounds i true)) hR2 hT hCC hS' hqs hK
    unfold wpOp
    rw [ho]
    simp only []
    split
    · rename_i hw; rw [if_pos hw] at hstep; exact .inl hstep
    · rename_i hw; rw [if_neg hw] at hstep; exact hstep

/-- A REGION WHOSE ORDER IS OPEN. -/
theorem draw_sound {ps : List Prop} {a : Act} {w : World} {F : Nat → Prop} {φ : Nat → Place} {id : Nat} (hT : TysOK C) (hCC : CCOK C CC) (h : absOps C CC orc ops.toList ops.toList 0 st = some (st', ps)) (hps : ∀ p ∈ ps, p) (hok : orderOK C CC orc ops.toList st = true)
    (hR : Rel C W0 F0 st a w F φ) (hQ : ∀ a' w' F' φ', Rel C W0 F0 st' a' w' F' φ' → Q .normal a' w') : (Code.region id ops true).wp C.P Q a w := by
  obtain ⟨σ, T⟩ := tr_of h hps hok
  have key : ∀ md, wpAny C.P md ops Q ops.size (Array.replicate ops.size false) a { w with drawn := w.drawn + 1 } := by
    intro md
    have hno : ∀ k, ¬ ((Array.replicate ops.size false).getD k false = true) := by
      intro k
      simp only [Array.getD_eq_getD_getElem?, Array.getElem?_replicate]
      split <;> simp
    refine draw_any T hT hCC hQ ops.size (List.range ops.size) _ a _ st F φ (by simp) List.nodup_range (by simp) (fun k hk => ?_) ⟨fun s => ⟨0, Nat.zero_le _, fun k o _ _ => ⟨fun h => absurd h (hno k), fun h => by omega⟩, by rw [T.s0]⟩, fun b => ⟨0, Nat.zero_le _, fun k o _ _ => ⟨fun h => absurd h (hno k), fun h => by omega⟩, by rw [T.s0]⟩⟩
      (fun k o hk => absurd hk (hno k)) ?_
    · simp [Array.getD_eq_getD_getElem?, hk]
    · exact hR.grown ⟨rfl, rfl, rfl, Nat.le_refl _, fun _ _ => rfl⟩ (fun _ hk => hk) (fun _ hk => .inl hk) hR.ro
  refine wp_region_draw fun t => ?_
  unfold Region.schedule
  split
  · exact wpAny_sound _ _ _ _ _ (key .any)
  · exact wpAny_sound _ _ _ _ _ (key _)
end
end Go.AV
