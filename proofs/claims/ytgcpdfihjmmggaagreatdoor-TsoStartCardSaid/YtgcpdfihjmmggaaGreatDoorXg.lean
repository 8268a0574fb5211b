import Derived.Test.YtgcpdfihjmmggaaGreatDoorXf
import Derived.Test.YtgcpdfihjmmggaaGreatDoorXe
namespace Go.AV
open Go.RowKit
section
variable {C : Cfg} {W0 : Entry} {F0 : Nat -> Prop} {CC : FuncId -> List AV -> AV -> Prop} {orc : Nat -> FuncId -> List AV -> Option AV} {ops : Array Oper} {st st' : St} {σ : Nat -> St} {Q : Exit -> Act -> World -> Prop}
theorem Tr.slotSame (T : Tr C CC orc ops st st' σ) {s i : Nat} : ∀ m, i <= m -> m <= ops.size -> (∀ (k : Nat) (o : Oper), i <= k -> k < m -> ops[k]? = some o -> ¬ (o.dst = some s ∨ z19 C (σ k) o = true)) -> get (σ m).env s = get (σ i).env s
  | 0, h, _, _ => by have e : i = 0 := by omega
                     subst e; rfl
  | m + 1, h, hm, hw => by
    by_cases e : i = m + 1
    . subst e; rfl
    . have ho : ops[m]? = some ops[m] := by simp [show m < ops.size by omega]
      obtain ⟨qs, h1, _⟩ := T.step m _ ho
      have hn := hw m _ (by omega) (by omega) ho
      rw [(z2n (by simpa using fun e => hn (.inr e)) h1).1 s fun e => hn (.inl e)]
      exact T.slotSame m (by omega) (by omega) fun k o h1 h2 h3 => hw k o h1 (by omega) h3
theorem Tr.boxSame (T : Tr C CC orc ops st st' σ) {b i : Nat} : ∀ m, i <= m -> m <= ops.size -> (∀ (k : Nat) (o : Oper), i <= k -> k < m -> ops[k]? = some o -> ¬ (b ∈ z1a C (σ k) o ∨ z19 C (σ k) o = true)) -> get (σ m).heap b = get (σ i).heap b
  | 0, h, _, _ => by have e : i = 0 := by omega
                     subst e; rfl
  | m + 1, h, hm, hw => by
    by_cases e : i = m + 1
    . subst e; rfl
    . have ho : ops[m]? = some ops[m] := by simp [show m < ops.size by omega]
      obtain ⟨qs, h1, _⟩ := T.step m _ ho
      have hn := hw m _ (by omega) (by omega) ho
      rw [(z2n (by simpa using fun e => hn (.inr e)) h1).2 b fun e => hn (.inl e)]
      exact T.boxSame m (by omega) (by omega) fun k o h1 h2 h3 => hw k o h1 (by omega) h3
structure Vers (C : Cfg) (ops : Array Oper) (σ : Nat -> St) (D : Nat -> Prop) (S : St) : Prop where
  slot : ∀ s, ∃ m, m <= ops.size /\ (∀ (k : Nat) (o : Oper), ops[k]? = some o -> (o.dst = some s ∨ z19 C (σ k) o = true) -> (D k ↔ k < m)) /\ get S.env s = get (σ m).env s
  box : ∀ b, ∃ m, m <= ops.size /\ (∀ (k : Nat) (o : Oper), ops[k]? = some o -> (b ∈ z1a C (σ k) o ∨ z19 C (σ k) o = true) -> (D k ↔ k < m)) /\ get S.heap b = get (σ m).heap b
theorem zd2 {b : Nat} : ∀ {l : List Nat}, b ∈ l -> memN b l = true
  | [], h => by cases h
  | x :: l, h => by
    rcases List.mem_cons.1 h with rfl | h2
    . simp [memN]
    . simp [memN, zd2 h2]
theorem zej {x y : Oper × St × St} {all : List Oper} {s : Nat} (h1 : x.1.dst = some s) (h2 : zan all y.1 s = true) : z2b C all x y = true := by
  simp [z2b, h1, h2]
theorem z9f {x y : Oper × St × St} {all : List Oper} {s : Nat} (h1 : x.1.dst = some s) (h2 : y.1.dst = some s) : z2b C all x y = true := by
  simp [z2b, h1, h2]
theorem zek {x y : Oper × St × St} {all : List Oper} {s : Nat} (h1 : zan all x.1 s = true) (h2 : y.1.dst = some s) : z2b C all x y = true := by
  simp [z2b, h1, h2]
theorem zg0 {x y : Oper × St × St} {all : List Oper} {b : Nat} (h1 : b ∈ z1a C x.2.1 x.1) (h2 : zjt C y.2.1 y.1 b = true) : z2b C all x y = true := by
  simp only [z2b, Bool.or_eq_true, List.any_eq_true]
  exact .inr (.inr (.inl ⟨b, h1, .inl h2⟩))
theorem zas {x y : Oper × St × St} {all : List Oper} {b : Nat} (h1 : b ∈ z1a C x.2.1 x.1) (h2 : b ∈ z1a C y.2.1 y.1) : z2b C all x y = true := by
  simp only [z2b, Bool.or_eq_true, List.any_eq_true]
  exact .inr (.inr (.inl ⟨b, h1, .inr (zd2 h2)⟩))
theorem zg1 {x y : Oper × St × St} {all : List Oper} {b : Nat} (h1 : zjt C x.2.1 x.1 b = true) (h2 : b ∈ z1a C y.2.1 y.1) : z2b C all x y = true := by
  simp only [z2b, Bool.or_eq_true, List.any_eq_true]
  exact .inr (.inr (.inr ⟨b, h2, h1⟩))
theorem z4e {x y : Oper × St × St} {all : List Oper} (h : z2b C all x y = true) : zaq C all x y = true := by simp [zaq, h]
theorem zat {x y : Oper × St × St} {all : List Oper} (h : z19 C x.2.1 x.1 = true) : zaq C all x y = true := by simp [zaq, h]
theorem z8s {x y : Oper × St × St} {all : List Oper} (h : z19 C y.2.1 y.1 = true) : zaq C all x y = true := by simp [zaq, h]
def zc3 (ops : Array Oper) (D : Nat -> Prop) : Prop := ∀ (k : Nat) (o : Oper), D k -> ops[k]? = some o -> ∀ e ∈ o.after.toList, Region.binds .any e = true -> D e.on
section
variable {D : Nat -> Prop} {S : St} {j : Nat} {y : Oper}
theorem Vers.reads (T : Tr C CC orc ops st st' σ) (V : Vers C ops σ D S) (hD : zc3 ops D) (hy : ops[j]? = some y) (hnot : ¬ D j) (hanc : ∀ i, ((z7k ops.toList []).getD j 0).testBit i = true -> D i) :
    Alike2 C ops.toList y (σ j) S := by
  have hjn : j < ops.size := (Array.getElem?_eq_some_iff.1 hy).1
  have after : ∀ (k : Nat) (o : Oper), j < k -> ops[k]? = some o -> zaq C ops.toList (y, σ j, σ (j + 1)) (o, σ k, σ (k + 1)) = true -> ¬ D k := by
    intro k o hk ho hc hDk
    exact hnot (z4q hD k o ho (fun e he hb => hD k o hDk ho e he hb) j (T.conf j k y o hk hy ho hc))
  have before : ∀ (k : Nat) (o : Oper), k < j -> ops[k]? = some o -> zaq C ops.toList (o, σ k, σ (k + 1)) (y, σ j, σ (j + 1)) = true -> D k := fun k o hk ho hc => hanc k (T.conf k j o y hk ho hy hc)
  refine ⟨fun s hs => ?_, fun b hb => ?_⟩
  . obtain ⟨m, hm, hw, he⟩ := V.slot s
    rw [he]
    by_cases hmj : m <= j
    . refine (T.slotSame j hmj (by omega) fun k o h1 h2 ho hd => ?_)
      have := before k o h2 ho (hd.elim (fun hd => z4e (zej hd hs)) fun hg => zat hg)
      have := (hw k o ho hd).1 this
      omega
    . refine (T.slotSame m (by omega) hm fun k o h1 h2 ho hd => ?_).symm
      have hDk := (hw k o ho hd).2 h2
      rcases Nat.eq_or_lt_of_le h1 with h3 | h3
      . subst h3; exact hnot hDk
      . exact after k o h3 ho (hd.elim (fun hd => z4e (zek hs hd)) fun hg => z8s hg) hDk
  . obtain ⟨m, hm, hw, he⟩ := V.box b
    rw [he]
    by_cases hmj : m <= j
    . refine (T.boxSame j hmj (by omega) fun k o h1 h2 ho hd => ?_)
      have := before k o h2 ho (hd.elim (fun hd => z4e (zg0 hd hb)) fun hg => zat hg)
      have := (hw k o ho hd).1 this
      omega
    . refine (T.boxSame m (by omega) hm fun k o h1 h2 ho hd => ?_).symm
      have hDk := (hw k o ho hd).2 h2
      rcases Nat.eq_or_lt_of_le h1 with h3 | h3
      . subst h3; exact hnot hDk
      . exact after k o h3 ho (hd.elim (fun hd => z4e (zg1 hb hd)) fun hg => z8s hg) hDk
theorem zju {o : Oper} {S : St} {d : Nat} (hn : z8q C o = true) (hd : o.dst = some d) : z1a C S o = [d] := by
  cases hop : o.op with
  | call c =>
    obtain ⟨callee, args, tys⟩ := c
    cases callee with
    | builtin b => cases b <;> simp [z8q, hop] at hn <;> simp [z1a, hop, hd]
    | value fx =>
      simp only [z8q, hop] at hn
      obtain ⟨⟨f, d'⟩, hk⟩ := Option.isSome_iff_exists.1 hn
      obtain ⟨_, hd', _⟩ := zaj hk
      rw [hd] at hd'; cases hd'
      simp [z1a, hop, hk]
    | _ => simp [z8q, hop] at hn
  | buildSlice => simp [z8q, hop, hd] at hn; simp [z1a, hop, hd, hn]
  | _ => simp [z8q, hop] at hn <;> simp [z1a, hop, hd]
theorem Vers.fresh (T : Tr C CC orc ops st st' σ) (V : Vers C ops σ D S) (hD : zc3 ops D) (hy : ops[j]? = some y) (hnot : ¬ D j) (hn : z8q C y = true) (hgr : z19 C (σ j) y = false) {d : Nat} (hd : y.dst = some d) :
    (∀ s x, get S.env s = some x -> x.names d = false) /\ (∀ b c, get S.heap b = some c -> c.names d = false /\ b ≠ d) /\ (!Nat.blt d 1099511627776) = false := by
  obtain ⟨d', hd', hf, hng, hw⟩ := T.new j y hy hn hgr
  rw [hd] at hd'; cases hd'
  simp only [z18, Bool.not_eq_true', Bool.or_eq_false_iff] at hf
  have notby : ∀ (k : Nat) (z : Oper), ops[k]? = some z -> D k -> z63 C (z, σ k, σ (k + 1)) d = true -> False := by
    intro k z hk hDk hwn
    rcases hw k z hk hwn with h1 | h1
    . subst h1; exact hnot hDk
    . exact hnot (z4q hD k z hk (fun e he hb => hD k z hDk hk e he hb) j h1)
  have hst := T.s0
  have nog : ∀ (k : Nat) (z : Oper), ops[k]? = some z -> D k -> z19 C (σ k) z = false := by
    intro k z hk hDk
    cases hg : z19 C (σ k) z with
    | false => rfl
    | true =>
      rcases Nat.lt_trichotomy k j with h1 | h1 | h1
      . rw [hng k z h1 hk] at hg; cases hg
      . subst h1; exact (hnot hDk).elim
      . exact (hnot (z4q hD k z hk (fun e he hb => hD k z hDk hk e he hb) j (T.conf j k y z h1 hy hk (z8s hg)))).elim
  -- the last writer below m
  have lastSlot : ∀ (s m : Nat), m <= ops.size -> (∀ (k : Nat) (o : Oper), ops[k]? = some o -> (o.dst = some s ∨ z19 C (σ k) o = true) -> (D k ↔ k < m)) -> ∀ x, get (σ m).env s = some x -> x.names d = false := by
    intro s m
    induction m with
    | zero => intro _ _ x hx; rw [hst] at hx; exact z33 hx hf.1
    | succ m ih =>
      intro hm hwr x hx
      have ho : ops[m]? = some ops[m] := by simp [show m < ops.size by omega]
      by_cases hds : (ops[m]).dst = some s
      . cases hnm : x.names d with
        | false => rfl
        | true =>
          have hDm := (hwr m _ ho (.inl hds)).2 (by omega)
          exact (notby m _ ho hDm (by simp [z63, hds, hx, hnm])).elim
      . obtain ⟨qs, h1, _⟩ := T.step m _ ho
        have hgm : z19 C (σ m) ops[m] = false := by
          cases hg : z19 C (σ m) ops[m] with
          | false => rfl
          | true => rw [nog m _ ho ((hwr m _ ho (.inr hg)).2 (by omega))] at hg; cases hg
        rw [(z2n hgm h1).1 s hds] at hx
        refine ih (by omega) (fun k o hk hdk => ?_) x hx
        have := hwr k o hk hdk
        have hkm : k ≠ m := fun e => by subst e; rw [ho] at hk; cases hk; exact hdk.elim hds fun hg => by rw [hgm] at hg; cases hg
        exact this.trans ⟨fun h => by omega, fun h => by omega⟩
  have lastBox : ∀ (b m : Nat), m <= ops.size -> (∀ (k : Nat) (o : Oper), ops[k]? = some o -> (b ∈ z1a C (σ k) o ∨ z19 C (σ k) o = true) -> (D k ↔ k < m)) -> ∀ c, get (σ m).heap b = some c -> c.names d = false /\ b ≠ d := by
    intro b m
    induction m with
    | zero => intro _ _ c hc; rw [hst] at hc; exact z1y hc hf.2.1
    | succ m ih =>
      intro hm hwr c hc
      have ho : ops[m]? = some ops[m] := by simp [show m < ops.size by omega]
      by_cases hds : b ∈ z1a C (σ m) ops[m]
      . have hDm := (hwr m _ ho (.inl hds)).2 (by omega)
        refine ⟨?_, fun e => ?_⟩
        . cases hnm : c.names d with
          | false => rfl
          | true =>
            refine (notby m _ ho hDm ?_).elim
            simp only [z63, Bool.or_eq_true, List.any_eq_true]
            exact .inr (.inl ⟨b, hds, by rw [hc]; exact hnm⟩)
        . subst e
          refine (notby m _ ho hDm ?_).elim
          simp only [z63, Bool.or_eq_true]
          exact .inr (.inr (zd2 hds))
      . obtain ⟨qs, h1, _⟩ := T.step m _ ho
        have hgm : z19 C (σ m) ops[m] = false := by
          cases hg : z19 C (σ m) ops[m] with
          | false => rfl
          | true => rw [nog m _ ho ((hwr m _ ho (.inr hg)).2 (by omega))] at hg; cases hg
        rw [(z2n hgm h1).2 b hds] at hc
        refine ih (by omega) (fun k o hk hdk => ?_) c hc
        have := hwr k o hk hdk
        have hkm : k ≠ m := fun e => by subst e; rw [ho] at hk; cases hk; exact hdk.elim hds fun hg => by rw [hgm] at hg; cases hg
        exact this.trans ⟨fun h => by omega, fun h => by omega⟩
  refine ⟨fun s x hx => ?_, fun b c hc => ?_, hf.2.2⟩
  . obtain ⟨m, hm, hwr, he⟩ := V.slot s
    rw [he] at hx
    exact lastSlot s m hm hwr x hx
  . obtain ⟨m, hm, hwr, he⟩ := V.box b
    rw [he] at hc
    exact lastBox b m hm hwr c hc
end
theorem zjv {e : Operand -> Option AV} {o : Oper} {o1 : FuncId -> List AV -> Option AV} {r : Res} {c : BoxC} {st : St} (h : zj C st e o.dst o1 CC o.op = some r) (hr : r.eff = .new c) : z8q C o = true := by
  unfold z8q
  cases hop : o.op with
  | alloc => rfl
  | box => rfl
  | buildSlice t l p =>
    rw [hop] at h
    simp only [zj] at h
    split at h
    . rename_i d _ _ hd
      repeat' split at h
      all_goals first | (cases h; done) | (rename_i hl; cases h; simp [hd, hl]; done) | (cases h; cases hr)
    . cases h
  | makeSlice => rfl
  | binOp op t x y t' =>
    rw [hop] at h
    simp only [zj] at h
    repeat' split at h
    all_goals first | (cases h; done) | (rw [zak h] at hr; cases hr) | (rw [zee h] at hr; cases hr)
  | unOp op t x =>
    rw [hop] at h
    simp only [zj] at h
    repeat' split at h
    all_goals first | (cases h; done) | (cases h; cases hr; done) | (cases h; rw [arith_eff'] at hr; cases hr)
  | makeFunc fn f caps =>
    rw [hop] at h
    cases fn <;> simp only [zj] at h <;> (repeat' split at h) <;> first | (cases h; done) | (cases h; cases hr; done)
  | call c' =>
    rw [hop] at h
    obtain ⟨callee, args, tys⟩ := c'
    cases callee with
    | invoke x m => simp [zj] at h
    | value fx =>
      cases hk : mkAt C fx o.dst with
      | some fd => simp [hk]
      | none =>
        simp only [zj, hk] at h
        repeat' split at h
        all_goals first | (cases h; done) | (cases h; cases hr; done)
    | builtin b =>
      cases b with
      | append => rfl
      | _ =>
        simp only [zj] at h
        repeat' split at h
        all_goals first | (cases h; done) | (cases h; cases hr; done)
  | _ =>
    rw [hop] at h
    simp only [zj] at h
    repeat' split at h
    all_goals first | (cases h; done) | (cases h; cases hr; done)
theorem z7l {all : List Oper} {o : Oper} {s1 s2 : St} (h : Alike2 C all o s1 s2) : z1a C s1 o = z1a C s2 o := by
  unfold z1a
  cases hop : o.op with
  | store t x v => simp only []; rw [h.evS (x := x) (by rw [hop]; simp [Op.operands])]
  | call c =>
    simp only []
    cases hc : c.callee with
    | builtin b =>
      cases b with
      | copy =>
        simp only []
        cases ha : c.args.toList with
        | nil => rfl
        | cons x l => simp only []; rw [h.evS (x := x) (by rw [hop]; simp only [Op.operands, Call.operands, Array.toList_append, List.mem_append]; right; rw [ha]; simp)]
      | _ => rfl
    | _ => rfl
  | _ => rfl
theorem z5a {all : List Oper} {o : Oper} {s1 s2 : St} (h : Alike2 C all o s1 s2) : z19 C s1 o = z19 C s2 o := by
  unfold z19
  cases hop : o.op with
  | call c =>
    simp only []
    cases hc : c.callee with
    | builtin b =>
      cases b with
      | append =>
        simp only []
        cases ha : c.args.toList with
        | nil => rfl
        | cons x l => simp only []; rw [h.evS (x := x) (by rw [hop]; simp only [Op.operands, Call.operands, Array.toList_append, List.mem_append]; right; rw [ha]; simp)]
      | _ => rfl
    | _ => rfl
  | _ => rfl
theorem zg2 {all : List Oper} {o : Oper} {s1 s2 : St} (h : Alike2 C all o s1 s2) {g : Nat × Bool} (hg : o.guard = some g) : z7e C s1 all g = z7e C s2 all g := by
  unfold z7e
  cases ho : all[g.1]? with
  | none => rfl
  | some o' =>
    simp only []
    cases hd : o'.dst with
    | none => rfl
    | some d =>
      simp only []
      rw [h.slot d (by simp [zan, hg, ho, hd])]
theorem z9g {o1 : FuncId -> List AV -> Option AV} {o : Oper} {s1 : St} {r : Res} (hno : z19 C s1 o = false) (hr : z2l C CC o1 s1 o = some r) :
    (r.eff = .none /\ z1a C s1 o = []) ∨ (∃ c d, r.eff = .new c /\ o.dst = some d /\ z1a C s1 o = [d]) ∨ (∃ b c, r.eff = .upd b c /\ z1a C s1 o = [b]) := by
  unfold z2l at hr
  split at hr
  . rename_i hop
    repeat' split at hr
    all_goals first | (cases hr; done) | (cases hr; exact .inl ⟨rfl, by simp [z1a, hop]⟩)
  . split at hr
    . rename_i r' hr'
      have he := zef hno hr'
      cases hr
      exact he
    . cases hr
theorem zd3 {o1 : FuncId -> List AV -> Option AV} {all : List Oper} {o : Oper} {s1 s1' s2 : St} {ps : List Prop} (h : Alike2 C all o s1 s2) (hno : z19 C s1 o = false) (hs : z1x C CC o1 all s1 o = some (s1', ps))
    (hf : z8q C o = true -> ∀ d, o.dst = some d -> z18 s2 d = true) :
    ∃ s2', z1x C CC o1 all s2 o = some (s2', ps) /\ (∀ s, o.dst = some s -> get s2'.env s = get s1'.env s) /\ (∀ b, b ∈ z1a C s1 o -> get s2'.heap b = get s1'.heap b) := by
  have hput : ∀ {a b : St} {v : AV} {s : Nat}, o.dst = some s -> get (z5v a o.dst v).env s = get (z5v b o.dst v).env s := by
    intro a b v s hd
    rw [hd]
    simp only [z5v, zx]
  unfold z1x at hs ⊢
  split at hs
  . cases hs
  rename_i hd
  cases hg : o.guard with
  | none =>
    simp only [hg] at hs ⊢
    split at hs
    case h_2 => cases hs
    rename_i r hr
    rw [z77 h] at hr
    rw [hr]
    simp only []
    split at hs
    case h_2 => cases hs
    rename_i st1 hst
    cases hs
    have heff := z9g (z5a h ▸ hno) hr
    rw [<- z7l h] at heff
    rcases heff with ⟨he, hw⟩ | ⟨c, d, he, hdd, hw⟩ | ⟨b, c, he, hw⟩
    . rw [he] at hst ⊢
      simp only [zq, Option.some.injEq] at hst ⊢
      subst hst
      exact ⟨_, rfl, fun s hs => hput hs, fun b hb => by rw [hw] at hb; cases hb⟩
    . have hnew : z8q C o = true := by
        unfold z2l at hr
        split at hr
        . repeat' split at hr
          all_goals first | (cases hr; done) | (cases hr; cases he)
        . split at hr
          . rename_i r' hr'
            refine zjv hr' (c := c) ?_
            cases hr
            exact he
          . cases hr
      rw [he, hdd] at hst ⊢
      simp only [zq] at hst ⊢
      split at hst
      case h_2 => cases hst
      rename_i hc
      cases hst
      simp only [Bool.and_eq_true] at hc
      rw [hf hnew d hdd, hc.2]
      simp only [Bool.and_self]
      refine ⟨_, rfl, fun s hs => ?_, fun b hb => ?_⟩
      . cases hs; simp only [z5v, zx]
      . rw [hw] at hb
        obtain rfl : b = d := by simpa using hb
        simp only [z5v, zx]
    . rw [he] at hst ⊢
      simp only [zq, Option.some.injEq] at hst ⊢
      subst hst
      refine ⟨_, rfl, fun s hs => hput hs, fun b' hb => ?_⟩
      rw [hw] at hb
      obtain rfl : b' = b := by simpa using hb
      cases o.dst <;> simp only [z5v, zx]
  | some g =>
    simp only [hg] at hs ⊢
    rw [zg2 h hg] at hs
    split at hs
    case h_2 => cases hs
    rename_i q hq
    rw [z77 h] at hs
    split at hs
    case h_2 => cases hs
    rename_i r hr
    split at hs
    case h_2 => cases hs
    rename_i he
    cases hs
    refine ⟨_, rfl, fun s hs => hput hs, fun b hb => ?_⟩
    have heff := z9g (z5a h ▸ hno) hr
    rw [<- z7l h] at heff
    rcases heff with ⟨_, hw⟩ | ⟨c, d, he2, _⟩ | ⟨b, c, he2, _⟩
    . rw [hw] at hb; cases hb
    . rw [he2] at he; cases he
    . rw [he2] at he; cases he
theorem Rel.alike {a : Act} {w : World} {F : Nat -> Prop} {φ : Nat -> Place} {S S' : St} (h : Rel C W0 F0 S a w F φ) (he : ∀ s, get S'.env s = get S.env s) (hh : ∀ b, get S'.heap b = get S.heap b) : Rel C W0 F0 S' a w F φ :=
  ⟨fun s x hs => h.env s x (by rw [<- he]; exact hs), fun b c hc => h.heap b c (by rw [<- hh]; exact hc), fun b b' c c' g h1 h2 => h.inj b b' c c' g (by rw [<- hh]; exact h1) (by rw [<- hh]; exact h2), h.ro, h.base, h.sub, h.new, h.dfr, h.tsz, h.glob, fun b p hp => ⟨(h.anc b p hp).1, (h.anc b p hp).2.1, fun c hc => (h.anc b p hp).2.2 c (by rw [<- hh]; exact hc)⟩⟩
theorem zjw (T : Tr C CC orc ops st st' σ) {D : Nat -> Prop} {S : St} (V : Vers C ops σ D S) (hD : zc3 ops D) {j : Nat} {y : Oper} (hy : ops[j]? = some y) (hnot : ¬ D j) (hedge : ∀ e ∈ y.after.toList, Region.binds .any e = true -> D e.on) :
    ∃ S0 S' qs, (∀ s, get S0.env s = get S.env s) /\ (∀ b, get S0.heap b = get S.heap b) /\ z1x C CC (orc j) ops.toList S0 y = some (S', qs) /\ (∀ p ∈ qs, p) /\ Vers C ops σ (fun k => D k ∨ k = j) S' /\ zc3 ops (fun k => D k ∨ k = j) := by
  have hjn : j < ops.size := (Array.getElem?_eq_some_iff.1 hy).1
  have hanc := z4q hD j y hy hedge
  have hal := V.reads T hD hy hnot hanc
  have hal2 : Alike2 C ops.toList y (σ j) ⟨zbm S.env, zbm S.heap⟩ := ⟨fun s hs => by rw [z47]; exact hal.slot s hs, fun b hb => by rw [z47]; exact hal.box b hb⟩
  obtain ⟨qs, hstep, hqs⟩ := T.step j y hy
  have after : ∀ (k : Nat) (o : Oper), j < k -> ops[k]? = some o -> zaq C ops.toList (y, σ j, σ (j + 1)) (o, σ k, σ (k + 1)) = true -> ¬ D k := by
    intro k o hk ho hc hDk
    exact hnot (z4q hD k o ho (fun e he hb => hD k o hDk ho e he hb) j (T.conf j k y o hk hy ho hc))
  have before : ∀ (k : Nat) (o : Oper), k < j -> ops[k]? = some o -> zaq C ops.toList (o, σ k, σ (k + 1)) (y, σ j, σ (j + 1)) = true -> D k := fun k o hk ho hc => hanc k (T.conf k j o y hk ho hy hc)
  have hcl : zc3 ops (fun k => D k ∨ k = j) := by
    intro k o hk ho e he hb
    rcases hk with hk | hk
    . exact .inl (hD k o hk ho e he hb)
    . subst hk; rw [hy] at ho; cases ho; exact .inl (hedge e he hb)
  cases hno : z19 C (σ j) y with
  | true =>
    have hall : ∀ (k : Nat) (o : Oper), ops[k]? = some o -> (D k ↔ k < j) := fun k o ho => by
      rcases Nat.lt_trichotomy k j with h1 | h1 | h1
      . exact ⟨fun _ => h1, fun _ => before k o h1 ho (z8s hno)⟩
      . subst h1; exact ⟨fun h => (hnot h).elim, fun h => by omega⟩
      . exact ⟨fun h => (after k o h1 ho (zat hno) h).elim, fun h => by omega⟩
    have e1 : ∀ s, get (σ j).env s = get S.env s := fun s => by
      obtain ⟨m, hm, hw, he⟩ := V.slot s
      rw [he]
      by_cases hmj : m <= j
      . exact T.slotSame j hmj (by omega) fun k o h1 h2 ho hd => by
          have := (hw k o ho hd).1 ((hall k o ho).2 h2); omega
      . exact (T.slotSame m (by omega) hm fun k o h1 h2 ho hd => by
          have := (hall k o ho).1 ((hw k o ho hd).2 h2); omega).symm
    have e2 : ∀ b, get (σ j).heap b = get S.heap b := fun b => by
      obtain ⟨m, hm, hw, he⟩ := V.box b
      rw [he]
      by_cases hmj : m <= j
      . exact T.boxSame j hmj (by omega) fun k o h1 h2 ho hd => by
          have := (hw k o ho hd).1 ((hall k o ho).2 h2); omega
      . exact (T.boxSame m (by omega) hm fun k o h1 h2 ho hd => by
          have := (hall k o ho).1 ((hw k o ho hd).2 h2); omega).symm
    have hD1 : ∀ (k : Nat) (o : Oper), ops[k]? = some o -> ((D k ∨ k = j) ↔ k < j + 1) := fun k o ho => by
      rw [hall k o ho]; omega
    exact ⟨σ j, σ (j + 1), qs, e1, e2, hstep, hqs, ⟨fun s => ⟨j + 1, by omega, fun k o ho _ => hD1 k o ho, rfl⟩, fun b => ⟨j + 1, by omega, fun k o ho _ => hD1 k o ho, rfl⟩⟩, hcl⟩
  | false =>
  obtain ⟨S', hS', hs1, hs2⟩ := zd3 hal2 hno hstep fun hn d hd => by
    obtain ⟨f1, f2, f3⟩ := V.fresh T hD hy hnot hn hno hd
    simp only [z18, Bool.not_eq_true', Bool.or_eq_false_iff]
    exact ⟨zam fun p hp => f1 p.1 p.2 (zal hp), z9d fun p hp => f2 p.1 p.2 (zal hp), f3⟩
  obtain ⟨fr1, fr2⟩ := z2n (z5a hal2 ▸ hno) hS'
  rw [<- z7l hal2] at fr2
  refine ⟨⟨zbm S.env, zbm S.heap⟩, S', qs, fun s => z47 _ _, fun b => z47 _ _, hS', hqs, ⟨fun s => ?_, fun b => ?_⟩, hcl⟩
  . by_cases hd : y.dst = some s
    . refine ⟨j + 1, by omega, fun k o ho hk => ?_, hs1 s hd⟩
      rcases Nat.lt_trichotomy k j with h1 | h1 | h1
      . exact ⟨fun _ => by omega, fun _ => .inl (before k o h1 ho (hk.elim (fun hk => z4e (z9f hk hd)) fun hg => zat hg))⟩
      . exact ⟨fun _ => by omega, fun _ => .inr h1⟩
      . refine ⟨fun h => ?_, fun h => by omega⟩
        rcases h with h | h
        . exact (after k o h1 ho (hk.elim (fun hk => z4e (z9f hd hk)) fun hg => z8s hg) h).elim
        . omega
    . obtain ⟨m, hm, hw, he⟩ := V.slot s
      refine ⟨m, hm, fun k o ho hk => ?_, by rw [fr1 s hd, z47]; exact he⟩
      have hkj : k ≠ j := fun e => by subst e; rw [hy] at ho; cases ho; exact hk.elim hd fun hg => by rw [hno] at hg; cases hg
      rw [<- hw k o ho hk]
      exact ⟨fun h => h.resolve_right hkj, fun h => .inl h⟩
  . by_cases hd : b ∈ z1a C (σ j) y
    . refine ⟨j + 1, by omega, fun k o ho hk => ?_, hs2 b hd⟩
      rcases Nat.lt_trichotomy k j with h1 | h1 | h1
      . exact ⟨fun _ => by omega, fun _ => .inl (before k o h1 ho (hk.elim (fun hk => z4e (zas hk hd)) fun hg => zat hg))⟩
      . exact ⟨fun _ => by omega, fun _ => .inr h1⟩
      . refine ⟨fun h => ?_, fun h => by omega⟩
        rcases h with h | h
        . exact (after k o h1 ho (hk.elim (fun hk => z4e (zas hd hk)) fun hg => z8s hg) h).elim
        . omega
    . obtain ⟨m, hm, hw, he⟩ := V.box b
      refine ⟨m, hm, fun k o ho hk => ?_, by rw [fr2 b hd, z47]; exact he⟩
      have hkj : k ≠ j := fun e => by subst e; rw [hy] at ho; cases ho; exact hk.elim hd fun hg => by rw [hno] at hg; cases hg
      rw [<- hw k o ho hk]
      exact ⟨fun h => h.resolve_right hkj, fun h => .inl h⟩
theorem zh6 (T : Tr C CC orc ops st st' σ) (hT : z12 C) (hCC : CCOK C CC) {md : Region.Mode} (hQ : ∀ a' w' F' φ', Rel C W0 F0 st' a' w' F' φ' -> Q .normal a' w') :
    ∀ (fuel : Nat) (U : List Nat) (listed : Array Bool) (a : Act) (w : World) (S : St) (F : Nat -> Prop) (φ : Nat -> Place), U.length = fuel -> U.Nodup -> listed.size = ops.size -> (∀ k, k < ops.size -> (listed.getD k true = false ↔ k ∈ U)) ->
      Vers C ops σ (fun k => listed.getD k false = true) S -> zc3 ops (fun k => listed.getD k false = true) -> Rel C W0 F0 S a w F φ -> wpAny C.P md ops Q fuel listed a w := by
  have ready : ∀ (listed : Array Bool) (i : Nat), listed.size = ops.size -> (i ∈ Region.ready md ops listed ↔ ∃ o, ops[i]? = some o /\ listed.getD i true = false /\ ∀ e ∈ o.after.toList, Region.binds md e = true -> listed.getD e.on false = true) := by
    intro listed i hsz
    simp only [Region.ready, List.mem_filter, List.mem_range, Bool.and_eq_true, Bool.not_eq_true']
    constructor
    . rintro ⟨h1, h2, h3⟩
      have ho : ops[i]? = some ops[i] := by simp [h1]
      rw [ho] at h3
      simp only [Option.map_some, Option.getD_some, Array.all_eq_true_iff_forall_mem] at h3
      exact ⟨_, ho, h2, fun e he hb => by
        have := h3 e (by simpa using he)
        simpa [hb] using this⟩
    . rintro ⟨o, ho, h2, h3⟩
      refine ⟨(Array.getElem?_eq_some_iff.1 ho).1, h2, ?_⟩
      rw [ho]
      simp only [Option.map_some, Option.getD_some, Array.all_eq_true_iff_forall_mem]
      intro e he
      by_cases hb : Region.binds md e = true
      . simp [h3 e (by simpa using he) hb]
      . simp [hb]
  have anyB : ∀ e : Edge, Region.binds .any e = true -> Region.binds md e = true := by
    intro e he
    obtain ⟨on, g⟩ := e
    cases g <;> simp_all [Region.binds]
  have getDs : ∀ (listed : Array Bool) (k : Nat), k < listed.size -> listed.getD k true = listed.getD k false := by
    intro l k hk
    simp [Array.getD_eq_getD_getElem?, hk]
  -- nothing is left to come up: all has
  have stop : ∀ (listed : Array Bool), listed.size = ops.size -> Region.ready md ops listed = [] -> ∀ k, k < ops.size -> listed.getD k false = true := by
    intro listed hsz hr
    obtain ⟨rk, hrk⟩ := T.edge md
    suffices h : ∀ (r k : Nat), rk k = r -> k < ops.size -> listed.getD k false = true from fun k => h _ k rfl
    intro r
    induction r using Nat.strongRecOn with
    | _ r ih =>
      intro k hkr hk
      cases hl : listed.getD k false with
      | true => rfl
      | false =>
        have ho : ops[k]? = some ops[k] := by simp [hk]
        have : k ∈ Region.ready md ops listed := (ready listed k hsz).2 ⟨_, ho, by rw [getDs _ _ (by omega)]; exact hl, fun e he hb => by
          obtain ⟨h1, h2⟩ := hrk k _ ho e he hb
          exact ih (rk e.on) (by omega) e.on rfl h2⟩
        rw [hr] at this; cases this
  have fin : ∀ (listed : Array Bool) (a : Act) (w : World) (S : St) (F : Nat -> Prop) (φ : Nat -> Place), listed.size = ops.size -> Region.ready md ops listed = [] -> Vers C ops σ (fun k => listed.getD k false = true) S -> Rel C W0 F0 S a w F φ -> Q .normal a w := by
    intro listed a w S F φ hsz hr V hR
    have hall := stop listed hsz hr
    refine hQ a w F φ (hR.alike (fun s => ?_) fun b => ?_)
    . obtain ⟨m, hm, hw, he⟩ := V.slot s
      rw [he, <- T.sn]
      exact T.slotSame ops.size hm (Nat.le_refl _) fun k o h1 h2 ho hd => by
        have := (hw k o ho hd).1 (hall k h2); omega
    . obtain ⟨m, hm, hw, he⟩ := V.box b
      rw [he, <- T.sn]
      exact T.boxSame ops.size hm (Nat.le_refl _) fun k o h1 h2 ho hd => by
        have := (hw k o ho hd).1 (hall k h2); omega
  intro fuel
  induction fuel with
  | zero =>
    intro U listed a w S F φ hU _ hsz hl V hD hR
    have hU0 : U = [] := List.eq_nil_of_length_eq_zero hU
    subst hU0
    have hr : Region.ready md ops listed = [] := by
      cases hrr : Region.ready md ops listed with
      | nil => rfl
      | cons i l =>
        obtain ⟨o, ho, h2, _⟩ := (ready listed i hsz).1 (by rw [hrr]; simp)
        have := (hl i (Array.getElem?_eq_some_iff.1 ho).1).1 h2
        cases this
    exact ⟨hr, fin listed a w S F φ hsz hr V hR⟩
  | succ fuel ih =>
    intro U listed a w S F φ hU hnd hsz hl V hD hR
    refine ⟨fun hr => fin listed a w S F φ hsz hr V hR, fun i hi => ?_⟩
    obtain ⟨o, ho, h2, h3⟩ := (ready listed i hsz).1 hi
    have hin : i < ops.size := (Array.getElem?_eq_some_iff.1 ho).1
    have hnot : ¬ (listed.getD i false = true) := by rw [<- getDs _ _ (by omega), h2]; simp
    obtain ⟨S0, S', qs, g1, g2, hS', hqs, V', hD'⟩ := zjw T V hD ho hnot fun e he hb => h3 e he (anyB e hb)
    have hlist : ∀ k, ((listed.setIfInBounds i true).getD k false = true) ↔ (listed.getD k false = true ∨ k = i) := by
      intro k
      simp only [Array.getD_eq_getD_getElem?, Array.getElem?_setIfInBounds]
      by_cases hk : i = k
      . subst hk; simp [show i < listed.size by omega]
      . simp [hk, Ne.symm hk]
    have iU : i ∈ U := (hl i hin).1 h2
    have hnext := ih (U.erase i) (listed.setIfInBounds i true)
    have hK : ∀ a' w' F' φ', Rel C W0 F0 S' a' w' F' φ' -> wpAny C.P md ops Q fuel (listed.setIfInBounds i true) a' w' := by
      intro a' w' F' φ' hR'
      refine hnext a' w' S' F' φ' (by rw [List.length_erase_of_mem iU, hU]; rfl) (hnd.erase i) (by simpa using hsz) (fun k hk => ?_) ?_ ?_ hR'
      . rw [hnd.mem_erase_iff, <- hl k hk]
        simp only [Array.getD_eq_getD_getElem?, Array.getElem?_setIfInBounds]
        by_cases hki : i = k
        . subst hki; simp [show i < listed.size by omega]
        . simp [hki, Ne.symm hki]
      . have : (fun k => (listed.setIfInBounds i true).getD k false = true) = (fun k => listed.getD k false = true ∨ k = i) := funext fun k => propext (hlist k)
        rw [this]; exact V'
      . have : (fun k => (listed.setIfInBounds i true).getD k false = true) = (fun k => listed.getD k false = true ∨ k = i) := funext fun k => propext (hlist k)
        rw [this]; exact hD'
    have hR2 : Rel C W0 F0 S0 a w F φ := hR.alike g1 g2
    have hstep := z3j (Q := Q) (ops := ops) (K := wpAny C.P md ops Q fuel (listed.setIfInBounds i true)) hR2 hT hCC hS' hqs hK
    unfold wpOp
    rw [ho]
    simp only []
    split
    . rename_i hw; rw [if_pos hw] at hstep; exact .inl hstep
    . rename_i hw; rw [if_neg hw] at hstep; exact hstep
theorem ziw {ps : List Prop} {a : Act} {w : World} {F : Nat -> Prop} {φ : Nat -> Place} {id : Nat} (hT : z12 C) (hCC : CCOK C CC) (h : z5m C CC orc ops.toList ops.toList 0 st = some (st', ps)) (hps : ∀ p ∈ ps, p) (hok : zar C CC orc ops.toList st = true)
    (hR : Rel C W0 F0 st a w F φ) (hQ : ∀ a' w' F' φ', Rel C W0 F0 st' a' w' F' φ' -> Q .normal a' w') : (Code.region id ops true).wp C.P Q a w := by
  obtain ⟨σ, T⟩ := zuc h hps hok
  have key : ∀ md, wpAny C.P md ops Q ops.size (Array.replicate ops.size false) a { w with drawn := w.drawn + 1 } := by
    intro md
    have hno : ∀ k, ¬ ((Array.replicate ops.size false).getD k false = true) := by
      intro k
      simp only [Array.getD_eq_getD_getElem?, Array.getElem?_replicate]
      split <;> simp
    refine zh6 T hT hCC hQ ops.size (List.range ops.size) _ a _ st F φ (by simp) List.nodup_range (by simp) (fun k hk => ?_) ⟨fun s => ⟨0, Nat.zero_le _, fun k o _ _ => ⟨fun h => absurd h (hno k), fun h => by omega⟩, by rw [T.s0]⟩, fun b => ⟨0, Nat.zero_le _, fun k o _ _ => ⟨fun h => absurd h (hno k), fun h => by omega⟩, by rw [T.s0]⟩⟩
      (fun k o hk => absurd hk (hno k)) ?_
    . simp [Array.getD_eq_getD_getElem?, hk]
    . exact hR.grown ⟨rfl, rfl, rfl, Nat.le_refl _, fun _ _ => rfl⟩ (fun _ hk => hk) (fun _ hk => .inl hk) hR.ro
  refine wp_region_draw fun t => ?_
  unfold Region.schedule
  split
  . exact wpAny_sound _ _ _ _ _ (key .any)
  . exact wpAny_sound _ _ _ _ _ (key _)
end
end Go.AV
namespace Go.AV
open Go.RowKit
def addRows (st : St) (n : Nat) : List BoxC -> Option St
  | [] => some st
  | c :: cs => match z18 st n && c.isRow with
    | true => addRows { st with heap := put st.heap n c } (n + 1) cs
    | false => none
def zd4 (C : Cfg) (orc : FuncId -> List AV -> Option AV) (st : St) (o : Oper) : Option (St × List Prop) :=
  match o.op, o.dst, o.guard with
  | .call c, some d, none => match c.callee with
    | .value fx => match ev C st fx, z2e (ev C st) c.args.toList with
      | some (.clo f []), some args => match orc f args, C.fresh f args with
        | some r, some cs => match (AV.areStat args && Nat.blt d C.ntmps) && z45 (below cs.length) r, addRows st ((d + 1) * 4096) cs with
          | true, some st1 => some ({ st1 with env := put st1.env d (r.sub fun b => (d + 1) * 4096 + b) }, [C.CCF f args r cs])
          | _, _ => none
        | _, _ => none
      | _, _ => none
    | _ => none
  | _, _, _ => none
section
variable {C : Cfg} {W0 : Entry} {F0 : Nat -> Prop} {st st' : St} {a : Act} {w : World} {F : Nat -> Prop} {φ : Nat -> Place} {CC : FuncId -> List AV -> AV -> Prop} {o : Oper} {orc : FuncId -> List AV -> Option AV}
  {Q : Exit -> Act -> World -> Prop}
theorem Rel.addRows : ∀ (cs : List BoxC) (n i : Nat) (st st' : St) (φ φ' : Nat -> Place), Rel C W0 F0 st a w F φ -> addRows st n cs = some st' -> (∀ j c, cs[j]? = some c -> z1i w F φ' W0.B (i + j) c) ->
    (∀ j j' g, j < cs.length -> j' < cs.length -> (φ' (i + j)).blk = some g -> (φ' (i + j')).blk = some g -> j = j') -> (∀ j g b c, j < cs.length -> (φ' (i + j)).blk = some g -> get st.heap b = some c -> (φ b).blk ≠ some g) ->
    ∃ φ2, Rel C W0 F0 st' a w F φ2 /\ (∀ j, j < cs.length -> φ2 (n + j) = φ' (i + j)) /\ ∀ b, (b < n ∨ n + cs.length <= b) -> φ2 b = φ b
  | [], n, i, st, st', φ, φ', h, hs, _, _, _ => by
    simp only [AV.addRows, Option.some.injEq] at hs
    subst hs
    exact ⟨φ, h, fun j hj => by simp at hj, fun _ _ => rfl⟩
  | c :: cs, n, i, st, st', φ, φ', h, hs, hB, hinj, hd => by
    simp only [AV.addRows] at hs
    split at hs
    case h_2 => cases hs
    rename_i hc
    simp only [Bool.and_eq_true] at hc
    obtain ⟨ty, sh, m, f, rfl⟩ : ∃ ty sh m f, c = .row ty sh m f := by
      cases c with
      | cell => cases hc.2
      | row ty sh m f => exact ⟨ty, sh, m, f, rfl⟩
    have h0 := hB 0 _ rfl
    have hB' : z1i w F (fun k => if k = n then φ' i else φ k) W0.B n (.row ty sh m f) := by
      obtain ⟨b1, b2, b3⟩ := h0
      refine ⟨by simpa using b1, by simpa using b2, ?_⟩
      simp only [if_true]
      exact b3
    have h1 := h.addOwn (d := n) hc.1 rfl (φ' i) hB' fun g hg b c' hc' hb => hd 0 g b c' (by simp) hg hc' hb
    obtain ⟨φ2, k1, k2, k3⟩ := Rel.addRows cs (n + 1) (i + 1) _ st' _ φ' h1 hs (fun j c hj => by
        have := hB (j + 1) c (by simpa using hj)
        rwa [show i + 1 + j = i + (j + 1) from by omega]) (fun j j' g hj hj' e e' => by
        have := hinj (j + 1) (j' + 1) g (by simpa using hj) (by simpa using hj') (by rwa [show i + (j + 1) = i + 1 + j from by omega]) (by rwa [show i + (j' + 1) = i + 1 + j' from by omega])
        omega) (fun j g b c' hj hg hc' hb => by
        rw [show i + 1 + j = i + (j + 1) from by omega] at hg
        by_cases e : b = n
        . subst e
          simp only [if_true] at hb
          have := hinj 0 (j + 1) g (by simp) (by simpa using hj) hb hg
          omega
        . simp only [e, if_false] at hb
          simp only [zc _ _ _ _ e] at hc'
          exact hd (j + 1) g b c' (by simpa using hj) hg hc' hb)
    refine ⟨φ2, k1, fun j hj => ?_, fun b hb => ?_⟩
    . cases j with
      | zero => rw [Nat.add_zero, k3 n (by omega)]; simp
      | succ j => rw [show n + (j + 1) = n + 1 + j from by omega, k2 j (by simpa using hj)]; congr 1; omega
    . simp only [List.length_cons] at hb
      rw [k3 b (by omega)]
      simp only [show b ≠ n from by omega, if_false]
theorem zg3 {ps : List Prop} {K : Act -> World -> Prop} (h : Rel C W0 F0 st a w F φ) (hCCF : ∀ f as r cs, C.CCF f as r cs -> z1d C.P f /\ zai C.P C.G f as r cs) (hs : zd4 C orc st o = some (st', ps)) (hps : ∀ p ∈ ps, p)
    (hK : ∀ a' w' F' φ', Rel C W0 F0 st' a' w' F' φ' -> K a' w') : o.guard = none /\ o.wp C.P a w K Q := by
  unfold zd4 at hs
  split at hs
  case h_2 => cases hs
  rename_i c d ho hdst hg
  split at hs
  case h_2 => cases hs
  rename_i fx hcal
  split at hs
  case h_2 => cases hs
  rename_i f args h1 h2
  split at hs
  case h_2 => cases hs
  rename_i r cs h3 h4
  split at hs
  case h_2 => cases hs
  rename_i st1 hc hst1
  cases hs
  refine ⟨hg, ?_⟩
  simp only [Bool.and_eq_true] at hc
  obtain ⟨⟨hst, hd⟩, hgood⟩ := hc
  have hd := Nat.le_of_ble_eq_true hd
  obtain ⟨hok, hcall⟩ := hCCF f args r cs (hps _ (by simp))
  obtain ⟨n1, n2⟩ := z42 h2 (fun x _ u hu => h.ev hu)
  have hfv : ∃ cv : Array Value, a.eval fx = .func (.func f) #[] cv /\ cv.size = 0 := by
    have := h.ev h1
    generalize a.eval fx = v at this
    cases this with
    | stat hv => cases hv with | clo _ cv _ hs hc => exact ⟨cv, rfl, hs⟩
    | clo _ cv _ hs hc => exact ⟨cv, rfl, hs⟩
  obtain ⟨cv, hfv, hcv⟩ := hfv
  obtain rfl : cv = #[] := Array.eq_empty_of_size_eq_zero hcv
  have hrun : (execOp a.eval o).run C.P w = .ok (.enter f (c.args.map a.eval)) w := by
    obtain ⟨callee, args', tys⟩ := c
    cases hcal
    simp only [execOp, ho, resolve, Sem.run_bind, hfv]
    simp only [Deferred.ofValue, Sem.run_pure, Result.andThen_ok, invoke, Array.empty_append, Array.append_empty]
    exact hok _ w
  unfold Oper.wp
  rw [hrun]
  show Calls C.P f _ w _
  refine (hcall w F _ h.ro h.glob (by simpa using n1) fun j hj => ?_).mono ?_
  . have := n2 j hj
    have h5 : Rep w F φ ((c.args.map a.eval).getD j undef) (args.getD j .any) := by simpa [Array.getD_eq_getD_getElem?, List.getD_eq_getElem?_getD] using this
    exact h5.toS (z1g hst j)
  . rintro en w' ⟨v, F', φ', rfl, hb, f1, f2, f3, hv, hbox, hinj⟩
    have hR := h.grown hb f1 f2 f3
    have hlen : ∀ j, j < cs.length -> ∃ c, cs[j]? = some c := fun j hj => ⟨_, List.getElem?_eq_getElem hj⟩
    obtain ⟨φ2, k1, k2, _⟩ := hR.addRows cs ((d + 1) * 4096) 0 st st1 φ φ' hst1 (fun j c hj => by
        rw [Nat.zero_add]
        exact (hbox j c hj).base fun k hk => h.bnew hk) (fun j j' g hj hj' e e' => by
        rw [Nat.zero_add] at e e'
        exact hinj j j' g hj hj' e e') (fun j g b c' hj hg hc' hb' => by
        rw [Nat.zero_add] at hg
        obtain ⟨c, hc⟩ := hlen j hj
        have := ((hbox j c hc).lt hg).2.2
        have := ((h.heap b c' hc').lt hb').1
        omega)
    show K (a.put o.dst v) w'
    rw [hdst]
    exact hK _ _ _ _ (k1.putV hd (zfw (φ := φ') (n := fun b => (d + 1) * 4096 + b) (fun b hb => by have := k2 b (Nat.le_of_ble_eq_true hb); rwa [Nat.zero_add] at this) hgood hv))
end
end Go.AV
namespace Go.AV
open Go.RowKit
def inN (b : Nat) : List Nat -> Bool
  | [] => false
  | k :: l => Nat.beq k b || inN b l
def z3u : List Nat -> Bool
  | [] => true
  | k :: l => !inN k l && z3u l
theorem z2y {b : Nat} : ∀ {l : List Nat}, inN b l = true ↔ b ∈ l
  | [] => by simp [inN]
  | k :: l => by
    simp only [inN, Bool.or_eq_true, z2y (l := l), List.mem_cons]
    constructor
    . rintro (h | h)
      . exact .inl (Nat.eq_of_beq_eq_true h).symm
      . exact .inr h
    . rintro (rfl | h)
      . exact .inl (Nat.beq_refl b)
      . exact .inr h
def z1r (ks : List Nat) : List (Nat × BoxC) -> List (Nat × BoxC)
  | [] => []
  | (k, c) :: l => match inN k ks with | true => (k, c) :: z1r ks l | false => z1r ks l
def z1c (ks : List Nat) : List (Nat × BoxC) -> List (Nat × BoxC)
  | [] => []
  | (k, c) :: l => match inN k ks with | true => z1c ks l | false => (k, c) :: z1c ks l
theorem z37 {ks : List Nat} {b : Nat} {c : BoxC} : ∀ {l : List (Nat × BoxC)}, get (z1r ks l) b = some c -> get l b = some c /\ b ∈ ks
  | [], h => by simp [z1r, get] at h
  | (k, d) :: l, h => by
    simp only [z1r] at h
    split at h
    . rename_i hk
      simp only [get] at h ⊢
      split at h
      . rename_i e
        cases h
        exact ⟨rfl, Nat.eq_of_beq_eq_true e ▸ z2y.1 hk⟩
      . exact z37 h
    . rename_i hk
      obtain ⟨h1, h2⟩ := z37 h
      refine ⟨?_, h2⟩
      simp only [get]
      split
      . rename_i e
        rw [Nat.eq_of_beq_eq_true e] at hk
        rw [z2y.2 h2] at hk; cases hk
      . exact h1
theorem zp {ks : List Nat} {b : Nat} {c : BoxC} : ∀ {l : List (Nat × BoxC)}, get (z1c ks l) b = some c -> get l b = some c /\ b ∉ ks
  | [], h => by simp [z1c, get] at h
  | (k, d) :: l, h => by
    simp only [z1c] at h
    split at h
    . rename_i hk
      obtain ⟨h1, h2⟩ := zp h
      refine ⟨?_, h2⟩
      simp only [get]
      split
      . rename_i e
        rw [Nat.eq_of_beq_eq_true e] at hk
        exact absurd (z2y.1 hk) h2
      . exact h1
    . rename_i hk
      simp only [get] at h ⊢
      split at h
      . rename_i e
        cases h
        refine ⟨rfl, fun hm => ?_⟩
        rw [Nat.eq_of_beq_eq_true e, z2y.2 hm] at hk; cases hk
      . exact zp h
mutual
def AV.boxes : AV -> List Nat
  | .own b _ | .ptr b _ | .optr b _ _ => [b]
  | .agg l | .tup l => AV.boxesL l
  | .mc _ x => x.boxes
  | _ => []
def AV.boxesL : List AV -> List Nat
  | [] => []
  | x :: l => x.boxes ++ AV.boxesL l
end
def zg4 (h : List (Nat × BoxC)) : Nat -> List Nat -> List Nat -> List Nat
  | 0, _, acc => acc
  | _ + 1, [], acc => acc
  | n + 1, b :: l, acc => match inN b acc with
    | true => zg4 h n l acc
    | false => match get h b with
      | some (.cell _ _ x) => zg4 h n (x.boxes ++ l) (acc ++ [b])
      | _ => zg4 h n l (acc ++ [b])
def z6t (h : List (Nat × BoxC)) : List Nat -> Option (List BoxC)
  | [] => some []
  | b :: l => match get h b, z6t h l with
    | some c, some cs => some (c :: cs)
    | _, _ => none
def idxN : List Nat -> Nat -> Nat
  | [], _ => 0
  | k :: l, b => match Nat.beq k b with | true => 0 | false => idxN l b + 1
def z2o (n : Nat -> Nat) : List BoxC -> List BoxC
  | [] => []
  | c :: l => c.sub n :: z2o n l
def nthN : List Nat -> Nat -> Option Nat
  | [], _ => none
  | k :: _, 0 => some k
  | _ :: l, i + 1 => nthN l i
def nameL (ns : List Nat) (d i : Nat) : Nat := match nthN ns i with | some b => b | none => (d + 1) * 4096 + (i - ns.length)
def z5r : List Nat -> List BoxC -> List (Option BoxC) -> List Nat
  | b :: ns, c :: hs, o :: os => match c, o with
    | .cell _ _ _, some _ => z5r ns hs os
    | _, _ => b :: z5r ns hs os
  | ns, _, _ => ns
def z6u : List Nat -> List (Nat × AV) -> List (Nat × AV)
  | [], e => e
  | b :: l, e => z6u l (z5t b e)
def z3o : List Nat -> List (Nat × BoxC) -> List (Nat × BoxC)
  | [], h => h
  | b :: l, h => z3o l (z4c b h)
def layL (nm : Nat -> Nat) : List Nat -> List (Option BoxC) -> List (Nat × BoxC) -> List (Nat × BoxC)
  | b :: ns, some c :: os, h => put (layL nm ns os h) b (c.sub nm)
  | _ :: ns, none :: os, h => layL nm ns os h
  | _, _, h => h
def zbn : List Nat -> List (Option BoxC) -> Option (List BoxC)
  | _ :: ns, _ :: os => zbn ns os
  | _ :: _, [] => none
  | [], [] => some []
  | [], some c :: os => match zbn [] os with | some l => some (c :: l) | none => none
  | [], none :: _ => none
def isAt : List (Option BoxC) -> Nat -> Bool
  | [], _ => false
  | o :: _, 0 => o.isSome
  | _ :: os, i + 1 => isAt os i
def z7m (m : Nat -> Bool) : List BoxC -> Bool
  | [] => true
  | c :: l => c.only m && z7m m l
def z4f (m : Nat -> Bool) : List (Option BoxC) -> Bool
  | [] => true
  | some c :: l => c.only m && z4f m l
  | none :: l => z4f m l
def zau : List BoxC -> List (Option BoxC) -> Bool
  | c :: hs, some o :: os => (match c.isRow, o.isRow with | true, true => true | false, false => true | _, _ => false) && zau hs os
  | _ :: hs, none :: os => zau hs os
  | _, _ => true
def dstL (C : Cfg) : Option Nat -> Nat -> Bool
  | some d, _ => Nat.blt d C.ntmps
  | none, n => Nat.beq n 0
def zh7 (n m : Nat) : List Nat -> Bool
  | [] => true
  | b :: l => (Nat.blt b n || Nat.ble m b) && zh7 n m l
def dstN : Option Nat -> Nat
  | some d => d
  | none => 0
def zud (C : Cfg) (st : St) (dst : Option Nat) (f : FuncId) (args : List AV) (ns : List Nat) (hs : List BoxC) (r : AV) (os : List (Option BoxC)) : Option (St × List Prop) :=
  match zbn ns os with
  | some cs => match AV.only0L (fun b => inN b ns) args && z5u args && z3u ns && z7m (fun b => inN b ns) hs && z45 (isAt os) r && z4f (isAt os) os && zau hs os && dstL C dst cs.length && zh7 ((dstN dst + 1) * 4096) ((dstN dst + 1) * 4096 + cs.length) ns,
      addRows ⟨z6u (z5r ns hs os) st.env, z1c ns (z3o (z5r ns hs os) st.heap)⟩ ((dstN dst + 1) * 4096) cs with
    | true, some st1 => some (z5v { st1 with heap := layL (nameL ns (dstN dst)) ns os st1.heap } dst (r.sub (nameL ns (dstN dst))), [C.CCL f (AV.subL (idxN ns) args) (z2o (idxN ns) hs) r os])
    | _, _ => none
  | none => none
def zue (C : Cfg) (st : St) (dst : Option Nat) (f : FuncId) (args : List AV) (ns : List Nat) : Option (St × List Prop) :=
  match z6t st.heap ns with
  | some hs => match C.lent f (AV.subL (idxN ns) args) (z2o (idxN ns) hs) with
    | some (r, os) => zud C st dst f args ns hs r os
    | none => none
  | none => none
def zg5 (C : Cfg) (st : St) (o : Oper) : Option (St × List Prop) :=
  match o.op, o.guard with
  | .call c, none => match c.callee with
    | .value fx => match ev C st fx, z2e (ev C st) c.args.toList with
      | some (.clo f []), some args => zue C st o.dst f args (zg4 st.heap 64 (AV.boxesL args) [])
      | _, _ => none
    | _ => none
  | _, _ => none
theorem zc4 {n m : Nat} : ∀ {l : List Nat} {b : Nat}, zh7 n m l = true -> b ∈ l -> b < n ∨ m <= b
  | [], _, _, h => by cases h
  | k :: l, b, ha, h => by
    simp only [zh7, Bool.and_eq_true, Bool.or_eq_true] at ha
    rcases List.mem_cons.1 h with rfl | h
    . exact ha.1.imp (fun h => Nat.le_of_ble_eq_true h) fun h => Nat.le_of_ble_eq_true h
    . exact zc4 ha.2 h
theorem z9h : ∀ {ks : List Nat} {l : List (Nat × AV)} {s : Nat} {x : AV}, get (z6u ks l) s = some x -> ∃ y, get l s = some y /\ ((y = x /\ ∀ b ∈ ks, x.names b = false) ∨ x = .when false .any)
  | [], l, s, x, h => ⟨x, h, .inl ⟨rfl, fun b hb => by cases hb⟩⟩
  | k :: ks, l, s, x, h => by
    simp only [z6u] at h
    obtain ⟨y, hy, hc⟩ := z9h h
    obtain ⟨z, hz, hc'⟩ := z7i hy
    refine ⟨z, hz, ?_⟩
    rcases hc with ⟨rfl, hc⟩ | hc
    . rcases hc' with ⟨rfl, hc'⟩ | hc'
      . exact .inl ⟨rfl, fun b hb => by
          rcases List.mem_cons.1 hb with rfl | hb
          . exact hc'
          . exact hc b hb⟩
      . exact .inr hc'
    . exact .inr hc
def zjx (ks : List Nat) (d c : BoxC) : Prop :=
  c.isRow = d.isRow /\ match d, c with
  | .row ty sh n f, c => c = .row ty sh n f
  | .cell tc sh x, .cell tc' sh' y => tc' = tc /\ sh' = sh /\ ∀ j, (z6 sh y j = z6 sh x j /\ ∀ b ∈ ks, (z6 sh x j).names b = false) ∨ z6 sh y j = .any
  | .cell _ _ _, .row _ _ _ _ => False
theorem z2p : ∀ {ks : List Nat} {l : List (Nat × BoxC)} {s : Nat} {c : BoxC}, get (z3o ks l) s = some c -> ∃ d, get l s = some d /\ zjx ks d c
  | [], l, s, c, h => ⟨c, h, rfl, by
      cases c with
      | row => rfl
      | cell tc sh x => exact ⟨rfl, rfl, fun j => .inl ⟨rfl, fun b hb => by cases hb⟩⟩⟩
  | k :: ks, l, s, c, h => by
    simp only [z3o] at h
    obtain ⟨d, hd, hc⟩ := z2p h
    obtain ⟨d0, hd0, rfl⟩ := z2g hd
    refine ⟨d0, hd0, hc.1.trans zby, ?_⟩
    cases d0 with
    | row ty sh n f => exact hc.2
    | cell tc sh x =>
      have e : BoxC.kill k (.cell tc sh x) = .cell tc sh (x.kill k) ∨ (BoxC.kill k (.cell tc sh x) = .cell tc sh x /\ x.names k = false) := by
        simp only [BoxC.kill]
        cases hx : x.names k with
        | true => exact .inl rfl
        | false => exact .inr ⟨rfl, rfl⟩
      rcases e with e | ⟨e, hx⟩ <;> rw [e] at hc <;> cases c with
      | row => exact hc.2.elim
      | cell tc' sh' y =>
        obtain ⟨_, rfl, rfl, hc⟩ := hc
        refine ⟨rfl, rfl, fun j => ?_⟩
        rcases hc j with ⟨h1, h2⟩ | h1
        . first
          | rcases z7j (b := k) sh' x j with ⟨h3, h4⟩ | h3
            . rw [h3] at h1 h2
              exact .inl ⟨h1, fun b hb => by
                rcases List.mem_cons.1 hb with rfl | hb
                . exact h4
                . exact h2 b hb⟩
            . exact .inr (h1.trans h3)
          | exact .inl ⟨h1, fun b hb => by
                rcases List.mem_cons.1 hb with rfl | hb
                . cases hn : (z6 sh' x j).names b with
                  | false => rfl
                  | true => rw [z32 sh' x j hn] at hx; cases hx
                . exact h2 b hb⟩
        . exact .inr h1
theorem z84 : ∀ {l : List Nat} {b : Nat}, inN b l = true -> l[idxN l b]? = some b
  | [], _, h => by cases h
  | k :: l, b, h => by
    simp only [idxN]
    cases e : Nat.beq k b with
    | true => simp [Nat.eq_of_beq_eq_true e]
    | false => simp only [inN, e, Bool.false_or] at h; simpa using z84 h
theorem z64 : ∀ {l : List Nat} {i b : Nat}, z3u l = true -> l[i]? = some b -> idxN l b = i
  | [], _, _, _, h => by simp at h
  | k :: l, 0, b, _, h => by simp at h; subst h; simp [idxN]
  | k :: l, i + 1, b, hn, h => by
    simp only [z3u, Bool.and_eq_true, Bool.not_eq_true'] at hn
    simp at h
    have : Nat.beq k b = false := by
      cases e : Nat.beq k b with
      | false => rfl
      | true => rw [Nat.eq_of_beq_eq_true e, z2y.2 (List.mem_of_getElem? h)] at hn; cases hn.1
    simp only [idxN, this]
    rw [z64 hn.2 h]
theorem z65 : ∀ {l : List Nat} {h : List (Nat × BoxC)} {cs : List BoxC}, z6t h l = some cs -> l.length = cs.length /\ ∀ (i b : Nat), l[i]? = some b -> ∃ c, cs[i]? = some c /\ get h b = some c
  | [], h, cs, e => by simp [z6t] at e; subst e; exact ⟨rfl, fun i b h => by simp at h⟩
  | k :: l, h, cs, e => by
    simp only [z6t] at e
    split at e
    case h_2 => cases e
    rename_i c cs' h1 h2
    cases e
    obtain ⟨k1, k2⟩ := z65 h2
    refine ⟨by simp [k1], fun i b hb => ?_⟩
    cases i with
    | zero => simp at hb; subst hb; exact ⟨c, rfl, h1⟩
    | succ i => simp at hb; obtain ⟨c', h3, h4⟩ := k2 i b hb; exact ⟨c', by simpa using h3, h4⟩
theorem z66 (n : Nat -> Nat) : ∀ {l : List BoxC} {i : Nat} {c : BoxC}, (z2o n l)[i]? = some c -> ∃ d, l[i]? = some d /\ c = d.sub n
  | [], _, _, h => by simp [z2o] at h
  | d :: l, 0, c, h => by simp [z2o] at h; exact ⟨d, rfl, h.symm⟩
  | d :: l, i + 1, c, h => by simp [z2o] at h; simpa using z66 n h
theorem z38 (n : Nat -> Nat) : ∀ l : List BoxC, (z2o n l).length = l.length
  | [] => rfl
  | c :: l => by simp [z2o, z38 n l]
theorem zav (n : Nat -> Nat) : ∀ {l : List BoxC} {i : Nat} {c : BoxC}, l[i]? = some c -> (z2o n l)[i]? = some (c.sub n)
  | [], _, _, h => by simp at h
  | d :: l, 0, c, h => by simp at h; subst h; rfl
  | d :: l, i + 1, c, h => by simp at h; simpa [z2o] using zav n h
theorem z5b {m : Nat -> Bool} : ∀ {l : List BoxC} {i : Nat} {c : BoxC}, z7m m l = true -> l[i]? = some c -> c.only m = true
  | [], _, _, _, h => by simp at h
  | d :: l, 0, c, ho, h => by simp only [z7m, Bool.and_eq_true] at ho; simp at h; subst h; exact ho.1
  | d :: l, i + 1, c, ho, h => by simp only [z7m, Bool.and_eq_true] at ho; simp at h; exact z5b ho.2 h
theorem z4g {m : Nat -> Bool} : ∀ {l : List (Option BoxC)} {i : Nat} {c : BoxC}, z4f m l = true -> l[i]? = some (some c) -> c.only m = true
  | [], _, _, _, h => by simp at h
  | d :: l, 0, c, ho, h => by simp at h; subst h; simp only [z4f, Bool.and_eq_true] at ho; exact ho.1
  | some d :: l, i + 1, c, ho, h => by simp only [z4f, Bool.and_eq_true] at ho; simp at h; exact z4g ho.2 h
  | none :: l, i + 1, c, ho, h => by simp only [z4f] at ho; simp at h; exact z4g ho h
theorem zg6 : ∀ (l : List Nat) (i : Nat), nthN l i = l[i]?
  | [], _ => by simp [nthN]
  | _ :: _, 0 => by simp [nthN]
  | _ :: l, i + 1 => by simp [nthN, zg6 l i]
theorem zh8 : ∀ {os : List (Option BoxC)} {i : Nat}, isAt os i = true -> ∃ c, os[i]? = some (some c)
  | [], _, h => by cases h
  | o :: os, 0, h => by
    cases o with
    | none => cases h
    | some c => exact ⟨c, rfl⟩
  | o :: os, i + 1, h => by simpa using zh8 (os := os) h
theorem zel : ∀ {os : List (Option BoxC)} {cs : List BoxC}, zbn [] os = some cs -> os.length = cs.length /\ ∀ (j : Nat) (c : BoxC), cs[j]? = some c -> os[j]? = some (some c)
  | [], cs, h => by simp [zbn] at h; subst h; exact ⟨rfl, fun j c h => by simp at h⟩
  | none :: os, cs, h => by simp [zbn] at h
  | some d :: os, cs, h => by
    simp only [zbn] at h
    split at h
    case h_2 => cases h
    rename_i l hl
    cases h
    obtain ⟨h1, h2⟩ := zel hl
    refine ⟨by simp [h1], fun j c hc => ?_⟩
    cases j with
    | zero => simp at hc; subst hc; rfl
    | succ j => simp at hc; simpa using h2 j c hc
theorem zem : ∀ {ns : List Nat} {os : List (Option BoxC)} {cs : List BoxC}, zbn ns os = some cs -> os.length = ns.length + cs.length /\ ∀ (j : Nat) (c : BoxC), cs[j]? = some c -> os[ns.length + j]? = some (some c)
  | [], os, cs, h => by
    obtain ⟨h1, h2⟩ := zel h
    exact ⟨by simpa using h1, fun j c hc => by simpa using h2 j c hc⟩
  | _ :: ns, [], cs, h => by simp [zbn] at h
  | b :: ns, o :: os, cs, h => by
    simp only [zbn] at h
    obtain ⟨h1, h2⟩ := zem h
    refine ⟨by simp only [List.length_cons]; omega, fun j c hc => ?_⟩
    have := h2 j c hc
    rw [List.length_cons, show ns.length + 1 + j = (ns.length + j) + 1 from by omega]
    simpa using this
theorem z6v {nm : Nat -> Nat} : ∀ {ns : List Nat} {os : List (Option BoxC)} {h : List (Nat × BoxC)} {b : Nat} {c : BoxC}, get (layL nm ns os h) b = some c -> (∃ (i : Nat) (c' : BoxC), ns[i]? = some b /\ os[i]? = some (some c') /\ c = c'.sub nm) ∨ get h b = some c
  | [], os, h, b, c, e => .inr (by cases os <;> simpa [layL] using e)
  | k :: ns, [], h, b, c, e => .inr (by simpa [layL] using e)
  | k :: ns, none :: os, h, b, c, e => by
    simp only [layL] at e
    rcases z6v e with ⟨i, c', h1, h2, h3⟩ | h1
    . exact .inl ⟨i + 1, c', by simpa using h1, by simpa using h2, h3⟩
    . exact .inr h1
  | k :: ns, some d :: os, h, b, c, e => by
    simp only [layL] at e
    by_cases hb : b = k
    . subst hb
      rw [zx] at e
      cases e
      exact .inl ⟨0, d, rfl, rfl, rfl⟩
    . rw [zc _ _ _ _ hb] at e
      rcases z6v e with ⟨i, c', h1, h2, h3⟩ | h1
      . exact .inl ⟨i + 1, c', by simpa using h1, by simpa using h2, h3⟩
      . exact .inr h1
theorem zen : ∀ {ns : List Nat} {hs : List BoxC} {os : List (Option BoxC)} {i b : Nat}, ns[i]? = some b -> b ∉ z5r ns hs os -> ∃ tc sh x c', hs[i]? = some (.cell tc sh x) /\ os[i]? = some (some c')
  | [], _, _, _, _, h, _ => by simp at h
  | k :: ns, [], os, i, b, h, hg => by
    simp only [z5r] at hg
    exact absurd (List.mem_of_getElem? h) hg
  | k :: ns, c :: hs, [], i, b, h, hg => by
    simp only [z5r] at hg
    exact absurd (List.mem_of_getElem? h) hg
  | k :: ns, c :: hs, o :: os, 0, b, h, hg => by
    simp at h; subst h
    cases c with
    | row => simp [z5r] at hg
    | cell tc sh x =>
      cases o with
      | none => simp [z5r] at hg
      | some c' => exact ⟨tc, sh, x, c', rfl, rfl⟩
  | k :: ns, c :: hs, o :: os, i + 1, b, h, hg => by
    have hg' : b ∉ z5r ns hs os := fun hm => hg (by
      simp only [z5r]
      split
      . exact hm
      . exact List.mem_cons_of_mem _ hm)
    simp at h
    simpa using zen h hg'
theorem z8t : ∀ {hs : List BoxC} {os : List (Option BoxC)} {i : Nat} {c o : BoxC}, zau hs os = true -> hs[i]? = some c -> os[i]? = some (some o) -> o.isRow = c.isRow
  | [], _, _, _, _, _, h, _ => by simp at h
  | _ :: _, [], _, _, _, _, _, h => by simp at h
  | d :: hs, some o' :: os, 0, c, o, hk, h1, h2 => by
    simp at h1 h2; subst h1 h2
    simp only [zau, Bool.and_eq_true] at hk
    generalize d.isRow = p at *
    generalize o'.isRow = q at *
    cases p <;> cases q <;> first | rfl | (exact absurd hk.1 (by decide))
  | d :: hs, none :: os, 0, c, o, hk, h1, h2 => by simp at h2
  | d :: hs, some o' :: os, i + 1, c, o, hk, h1, h2 => by
    simp only [zau, Bool.and_eq_true] at hk
    exact z8t hk.2 (by simpa using h1) (by simpa using h2)
  | d :: hs, none :: os, i + 1, c, o, hk, h1, h2 => by
    simp only [zau] at hk
    exact z8t hk (by simpa using h1) (by simpa using h2)
theorem zaw : ∀ {cs : List BoxC} {n : Nat} {st st' : St} {b : Nat} {c : BoxC}, addRows st n cs = some st' -> get st'.heap b = some c -> (get st.heap b = some c /\ (b < n ∨ n + cs.length <= b)) ∨ ∃ j, j < cs.length /\ b = n + j /\ cs[j]? = some c
  | [], n, st, st', b, c, hs, h => by
    simp only [addRows, Option.some.injEq] at hs
    subst hs
    exact .inl ⟨h, by simp; omega⟩
  | d :: cs, n, st, st', b, c, hs, h => by
    simp only [addRows] at hs
    split at hs
    case h_2 => cases hs
    rcases zaw hs h with ⟨h1, h2⟩ | ⟨j, h1, h2, h3⟩
    . by_cases e : b = n
      . subst e
        simp only [zx, Option.some.injEq] at h1
        exact .inr ⟨0, by simp, rfl, by simp [h1]⟩
      . simp only [zc _ _ _ _ e] at h1
        exact .inl ⟨h1, by simp only [List.length_cons]; omega⟩
    . exact .inr ⟨j + 1, by simpa using h1, by omega, by simpa using h3⟩
end Go.AV
