import Derived.Test.YtgcpdfihjmmggaaGreatDoorXe
import Derived.Orders
namespace Go.AV
open Go.RowKit
section
variable {C : Cfg} {W0 : Entry} {F0 : Nat -> Prop} {st st' : St} {a : Act} {w : World} {F : Nat -> Prop} {φ : Nat -> Place} {e : Operand -> Option AV} {dst : Option Nat} {orc : FuncId -> List AV -> Option AV} {CC : FuncId -> List AV -> AV -> Prop} {r : Res} {o : Oper}
  {next : Act -> World -> Prop} {Q : Exit -> Act -> World -> Prop}
def CCOK (C : Cfg) (CC : FuncId -> List AV -> AV -> Prop) : Prop := (∀ f as r, CC f as r -> (z1d C.P f /\ z76 C.P C.G f as r) ∨ RExt C.P f as r) /\ (∀ f as r cs, C.CCF f as r cs -> z1d C.P f /\ zai C.P C.G f as r cs) /\ (∀ f as hs r os, C.CCL f as hs r os -> z1d C.P f /\ ziv C.P C.G f as hs r os) /\ ∀ f as hs p v, C.CCP f as hs p v -> p = true -> z1d C.P f /\ RPan C.P C.G f as hs v
theorem zzo (h : Rel C W0 F0 st a w F φ) (hT : z12 C) (hCC : CCOK C CC) (hr : zj C st e o.dst orc CC o.op = some r) (he : ∀ x ∈ o.op.operands.toList, ∀ u, e x = some u -> Rep w F φ (a.eval x) u)
    (hob : ∀ p ∈ r.obs, p) (hst : zq st o.dst r.eff = some st') (hn : Next C W0 F0 st' a o r.val next) : o.wp C.P a w next Q := by
  cases hop : o.op with
  | move x => rw [hop] at hr he; exact z11 h (ze5 (.inl hop) hr (he x (by simp [Op.operands]))) hst hn
  | assign x => rw [hop] at hr he; exact z11 h (ze5 (st := st) (dst := o.dst) (orc := orc) (CC := CC) (.inr hop) hr (he x (by simp [Op.operands]))) hst hn
  | pick c x y => rw [hop] at hr; simp [zj] at hr
  | alloc t => rw [hop] at hr; exact zn8 h hT hop hr hst hn
  | box t x => rw [hop] at hr he; exact zub h hop hr (he x (by simp [Op.operands])) hst hn
  | build t parts =>
    rw [hop] at hr he
    exact z11 h (zis hT hop hr fun p hp u hu => he p.2 (by simp only [Op.operands, List.mem_map]; exact ⟨p, hp, rfl⟩) u hu) hst hn
  | buildSlice t len parts =>
    rw [hop] at hr he
    exact wp_buildSlice' h hT hop hr (fun p hp u hu => he p.2 (by simp only [Op.operands, List.mem_map]; exact ⟨p, hp, rfl⟩) u hu) hob hst hn
  | insert t m k v => rw [hop] at hr; simp [zj] at hr
  | load t x => rw [hop] at hr he; exact z11 h (zjj h hT hop hr (he x (by simp [Op.operands])) hob) hst hn
  | store t x v => rw [hop] at hr he; exact zn7 h hT hop hr (he x (by simp [Op.operands])) (he v (by simp [Op.operands])) hob hst hn
  | ready g => rw [hop] at hr; simp [zj] at hr
  | waits g => rw [hop] at hr; simp [zj] at hr
  | nilCheck x => rw [hop] at hr he; exact z11 h (zct hop hr (he x (by simp [Op.operands]))) hst hn
  | binOp op t x y t' => rw [hop] at hr he; exact z11 h (zin hT hop hr (he x (by simp [Op.operands])) (he y (by simp [Op.operands])) hob) hst hn
  | unOp op t x => rw [hop] at hr he; exact z11 h (zjl hop hr (he x (by simp [Op.operands])) hob) hst hn
  | convert s d x => rw [hop] at hr he; exact z11 h (ze8 hT hop hr (he x (by simp [Op.operands]))) hst hn
  | sliceToArrayPointer d x => rw [hop] at hr; simp [zj] at hr
  | makeInterface t x => rw [hop] at hr; simp [zj] at hr
  | makeFunc fn first caps => rw [hop] at hr he; exact z11 h (zcw hop hr fun x hx => he x (by simp [Op.operands]; exact .inr (by simpa using hx))) hst hn
  | makeMap t r' => rw [hop] at hr; simp [zj] at hr
  | makeChan t s => rw [hop] at hr; simp [zj] at hr
  | makeSlice t l c => rw [hop] at hr he; exact zec h hT hop hr (he l (by simp [Op.operands])) (he c (by simp [Op.operands])) hob hst hn
  | slice t x lo hi mx =>
    rw [hop] at hr he
    exact z11 h (zir h hT hop hr (he x (by simp [Op.operands])) (fun y hy => he y (by cases lo <;> simp_all [Op.operands])) (fun y hy => he y (by cases hi <;> simp_all [Op.operands])) (fun y hy => he y (by cases mx <;> simp_all [Op.operands])) hob) hst hn
  | fieldAddr t x f => rw [hop] at hr he; exact z11 h (zbj h hT hop hr (he x (by simp [Op.operands]))) hst hn
  | field t x f => rw [hop] at hr he; exact z11 h (zio hT hop hr (he x (by simp [Op.operands]))) hst hn
  | indexAddr t x ix => rw [hop] at hr he; exact z11 h (zbk h hT hop hr (he x (by simp [Op.operands])) (he ix (by simp [Op.operands])) hob) hst hn
  | index t x ix => rw [hop] at hr he; exact z11 h (ziq hT hop hr (he x (by simp [Op.operands])) (he ix (by simp [Op.operands])) hob) hst hn
  | lookup t x ix ok => rw [hop] at hr; simp [zj] at hr
  | mapUpdate t m k v => rw [hop] at hr; simp [zj] at hr
  | mapEntry t m k => rw [hop] at hr; simp [zj] at hr
  | entryStore t m s v => rw [hop] at hr; simp [zj] at hr
  | range t x => rw [hop] at hr; simp [zj] at hr
  | next it s => rw [hop] at hr; simp [zj] at hr
  | entry it => rw [hop] at hr; simp [zj] at hr
  | typeAssert x t s ok => rw [hop] at hr; simp [zj] at hr
  | extract x i => rw [hop] at hr he; exact z11 h (ze9 hop hr (he x (by simp [Op.operands]))) hst hn
  | call c =>
    rw [hop] at hr he
    have hargs : ∀ x ∈ c.args.toList, ∀ u, e x = some u -> Rep w F φ (a.eval x) u := fun x hx => he x (by simp only [Op.operands, Call.operands, Array.toList_append, List.mem_append]; exact .inr hx)
    cases hc : c.callee with
    | value fx =>
      cases hk : mkAt C fx o.dst with
      | some fd =>
        obtain ⟨f, d⟩ := fd
        simp only [zj, hc, hk] at hr
        cases ha : z2e e c.args.toList with
        | none => rw [ha] at hr; cases hr
        | some as => rw [ha] at hr; exact zzn h hop hc hk ha hr hargs hob hCC.2.1 hst hn
      | none => exact zjo h hop hc hk hr (he fx (by simp [Op.operands, Call.operands, hc])) hargs hob hCC.1 hst hn
    | invoke x m => simp [zj, hc] at hr
    | builtin b =>
      cases b with
      | len => exact z11 h (zn9 hT hop hc hr hargs hob) hst hn
      | min => exact z11 h (zna hop hc hr hargs) hst hn
      | max => exact z11 h (znb hop hc hr hargs) hst hn
      | append => exact zjp h hT hop hc hr hargs hob hst hn
      | copy => exact zrh h hT hop hc hr hargs hob hst hn
      | _ => simp [zj, hc] at hr
  | go c => rw [hop] at hr; simp [zj] at hr
  | defer c => rw [hop] at hr; simp [zj] at hr
  | panic x => rw [hop] at hr; simp [zj] at hr
  | send c x => rw [hop] at hr; simp [zj] at hr
  | recv t c ok => rw [hop] at hr; simp [zj] at hr
  | select cs b => rw [hop] at hr; simp [zj] at hr
theorem z81 {q : Bool} : ∀ {l : List Prop}, (∀ p ∈ impl q l, p) -> q = true -> ∀ p ∈ l, p
  | [], _, _, p, hp => by cases hp
  | x :: l, h, hq, p, hp => by
    rcases List.mem_cons.1 hp with rfl | hp
    . exact h (q = true -> p) (by simp [impl]) hq
    . exact z81 (fun y hy => h y (by simp [impl, hy])) hq p hp
theorem zh3 (h : Rel C W0 F0 st a w F φ) (hT : z12 C) (hCC : CCOK C CC) (hr : z2l C CC orc st o = some r) (hob : ∀ p ∈ r.obs, p) (hst : zq st o.dst r.eff = some st') (hn : Next C W0 F0 st' a o r.val next) : o.wp C.P a w next Q := by
  unfold z2l at hr
  split at hr
  . rename_i c x y hop
    split at hr
    case h_2 => cases hr
    rename_i p u v h1 h2 h3
    split at hr
    case h_2 => cases hr
    rename_i z hz
    cases hr
    simp only [zq, Option.some.injEq] at hst
    subst hst
    have hop' : ∀ {z : Operand} {zz : AV}, evS C st z = some zz -> (∀ q ∈ (match ev C st z with | some v => z95 v | none => []), q) -> Rep w F φ (a.eval z) zz := by
      intro z zz hz hq
      unfold evS at hz
      split at hz
      . rename_i v hv
        cases hz
        rw [hv] at hq
        exact (h.ev hv).strip1 hq
      . cases hz
    simp only [zfm, List.mem_append] at hob
    obtain ⟨V, hrun, hrep⟩ := zjm hop (hop' h1 (fun q hq => hob q (.inl (.inl hq)))) (fun hp => hop' h2 (z81 (fun q hq => hob q (.inl (.inr hq))) hp)) (fun hp => hop' h3 (z81 (fun q hq => hob q (.inr hq)) (by rw [hp]; rfl))) hz
    unfold Oper.wp
    rw [hrun]
    exact hn V w F φ h fun _ => hrep
  . rename_i op hne
    split at hr
    case h_2 => cases hr
    rename_i r' hr'
    cases hr
    exact zzo h hT hCC hr' (fun x hx u hu => h.evS (fun p hp => hob p (by simp [hp])) hx hu) (fun p hp => hob p (by simp [hp])) hst hn
theorem zcz (v : Value) : a.put none v = a := rfl
theorem z9b {ops : Array Oper} (h : Rel C W0 F0 st a w F φ) {g : Nat × Bool} {q : Bool} (hg : z7e C st ops.toList g = some q) (ho : o.guard = some g) : Region.wanted o (yielded ops a.tmps) = q := by
  obtain ⟨j, want⟩ := g
  unfold z7e at hg
  split at hg
  case h_2 => cases hg
  rename_i o' hj
  split at hg
  case h_2 => cases hg
  rename_i d hd
  have hj' : ops[j]? = some o' := by simpa using hj
  simp only [Region.wanted, ho]
  split at hg
  . rename_i p hp
    cases hg
    obtain ⟨v, hv, hr⟩ := h.env d _ hp
    have := hr.bool_inv
    subst this
    simp only [yielded, hj', Option.bind_some, hd, hv]
    cases want <;> cases p <;> rfl
  . rename_i q' p hp
    cases hg
    obtain ⟨v, hv, hr⟩ := h.env d _ hp
    simp only [yielded, hj', Option.bind_some, hd, hv]
    cases hr with
    | stat hr => cases hr
    | whenT _ h1 h2 =>
      cases hq : q' with
      | true =>
        have := (h1 hq).bool_inv
        subst this
        cases want <;> cases p <;> rfl
      | false =>
        rcases h2 hq with rfl | h3
        . simp [undef]
        . cases h3
  . cases hg
theorem zh4 (h : zn4 C o.dst = true) {d : Nat} (hd : o.dst = some d) : d < C.ntmps := by
  rw [hd] at h
  simp [zn4, Nat.blt] at h
  omega
theorem z3j {ops : Array Oper} {ps : List Prop} {K : Act -> World -> Prop} (h : Rel C W0 F0 st a w F φ) (hT : z12 C) (hCC : CCOK C CC) (hs : z1x C CC orc ops.toList st o = some (st', ps)) (hps : ∀ p ∈ ps, p)
    (hK : ∀ a' w' F' φ', Rel C W0 F0 st' a' w' F' φ' -> K a' w') : if Region.wanted o (yielded ops a.tmps) then o.wp C.P a w K Q else K (a.put o.dst undef) w := by
  unfold z1x at hs
  split at hs
  . cases hs
  rename_i hd
  split at hs
  . rename_i hg
    have hw : Region.wanted o (yielded ops a.tmps) = true := by simp [Region.wanted, hg]
    rw [if_pos hw]
    split at hs
    case h_2 => cases hs
    rename_i r hr
    split at hs
    case h_2 => cases hs
    rename_i st1 hst
    cases hs
    refine zh3 h hT hCC hr hps hst ?_
    intro v w' F' φ' hR hrep
    cases hdd : o.dst with
    | none => rw [zcz]; rw [hdd] at hK; exact hK _ _ _ _ hR
    | some d =>
      rw [hdd] at hK
      exact hK _ _ _ _ (hR.putV (zh4 hd hdd) (hrep (by rw [hdd]; rfl)))
  . rename_i g hg
    split at hs
    case h_2 => cases hs
    rename_i q hq
    have hw := z9b h hq hg
    split at hs
    case h_2 => cases hs
    rename_i r hr
    split at hs
    case h_2 => cases hs
    rename_i heff
    cases hs
    have he : r.eff = .none := by
      unfold ze1 at heff
      split at heff
      . assumption
      . cases heff
    rw [hw]
    cases hqv : q with
    | true =>
      subst hqv
      simp only [if_true]
      refine zh3 h hT hCC hr (z81 hps rfl) (st' := st) (by rw [he]; rfl) ?_
      intro v w' F' φ' hR hrep
      cases hdd : o.dst with
      | none => rw [zcz]; rw [hdd] at hK; exact hK _ _ _ _ hR
      | some d =>
        rw [hdd] at hK
        exact hK _ _ _ _ (hR.putV (zh4 hd hdd) (.whenT true (fun _ => hrep (by rw [hdd]; rfl)) fun h => by cases h))
    | false =>
      subst hqv
      simp only [Bool.false_eq_true, if_false]
      cases hdd : o.dst with
      | none => rw [zcz]; rw [hdd] at hK; exact hK _ _ _ _ h
      | some d =>
        rw [hdd] at hK
        exact hK _ _ _ _ (h.putV (zh4 hd hdd) (.whenT false (fun h => by cases h) fun _ => .inl rfl))
end
end Go.AV
namespace Go.AV
open Go.RowKit
def z19 (C : Cfg) (st : St) (o : Oper) : Bool :=
  match o.op with
  | .call c => match c.callee with
    | .builtin .append => match c.args.toList with
      | x :: _ => match evS C st x with
        | some .nils => false
        | some (.seqc _ _ _) => false
        | _ => true
      | _ => false
    | _ => false
  | _ => false
section
variable {C : Cfg} {st st2 : St} {e e2 : Operand -> Option AV} {dst : Option Nat} {orc : FuncId -> List AV -> Option AV} {CC : FuncId -> List AV -> AV -> Prop}
mutual
theorem zed {h h2 : List (Nat × BoxC)} : ∀ (x : AV), (∀ b, x.names b = true -> get h b = get h2 b) -> frz h x = frz h2 x
  | .own b n, hh => by simp only [frz]; rw [hh b (by simp [AV.names])]
  | .ptr b p, hh => by simp only [frz]; rw [hh b (by simp [AV.names])]
  | .agg l, hh => by simp only [frz]; rw [z6s l (fun b hb => hh b (by simpa [AV.names] using hb))]
  | .clo f l, hh => by simp only [frz]; rw [z6s l (fun b hb => hh b (by simpa [AV.names] using hb))]
  | .mc sh x, hh => by simp only [frz]; rw [zed x (fun b hb => hh b (by simpa [AV.names] using hb))]
  | .any, _ | .int _ _, _ | .bool _, _ | .str _, _ | .nils, _ | .nilp, _ | .seq _ _ _, _ | .seqc _ _ _, _ | .nseq _ _ _ _, _ | .cov _, _ | .rptr _ _, _ | .arr _ _, _ | .st _, _ | .optr _ _ _, _ | .tup _, _ | .when _ _, _ => by simp only [frz]
theorem z6s {h h2 : List (Nat × BoxC)} : ∀ (l : List AV), (∀ b, AV.namesL b l = true -> get h b = get h2 b) -> frzs h l = frzs h2 l
  | [], _ => by simp only [frzs]
  | x :: l, hh => by
    simp only [frzs]
    rw [zed x (fun b hb => hh b (by simp [AV.namesL, hb])), z6s l (fun b hb => hh b (by simp [AV.namesL, hb]))]
end
theorem z56 : ∀ {l : List (Nat × Operand)}, (∀ p ∈ l, e p.2 = e2 p.2) -> z3f e l = z3f e2 l
  | [], _ => rfl
  | (i, x) :: l, h => by simp only [z3f]; rw [h (i, x) (by simp), z56 fun p hp => h p (by simp [hp])]
theorem z61 : ∀ {l : List Operand}, (∀ x ∈ l, e x = e2 x) -> z2e e l = z2e e2 l
  | [], _ => rfl
  | x :: l, h => by simp only [z2e]; rw [h x (by simp), z61 fun p hp => h p (by simp [hp])]
theorem z9c {b : Nat} : ∀ {l : List Operand} {m : List AV}, z2e e l = some m -> AV.namesL b m = true -> ∃ x ∈ l, ∃ v, e x = some v /\ v.names b = true
  | [], m, h, hb => by simp [z2e] at h; subst h; simp [AV.namesL] at hb
  | x :: l, m, h, hb => by
    simp only [z2e] at h
    split at h
    . rename_i v vs h1 h2
      cases h
      simp only [AV.namesL, Bool.or_eq_true] at hb
      rcases hb with hb | hb
      . exact ⟨x, by simp, v, h1, hb⟩
      . obtain ⟨y, hy, u, hu⟩ := z9c h2 hb
        exact ⟨y, by simp [hy], u, hu⟩
    . cases h
theorem z82 {b : Nat} : ∀ {l m : List AV}, AV.namesL b (l ++ m) = true -> AV.namesL b l = true ∨ AV.namesL b m = true
  | [], m, h => .inr h
  | x :: l, m, h => by
    simp only [List.cons_append, AV.namesL, Bool.or_eq_true] at h ⊢
    rcases h with h | h
    . exact .inl (.inl h)
    . rcases z82 h with h | h
      . exact .inl (.inr h)
      . exact .inr h
theorem zd0 {te : TyE} {f : Nat} {v : AV} (hh : ∀ b, v.names b = true -> get st.heap b = get st2.heap b) : z7d st te f v = z7d st2 te f v := by
  cases v
  case ptr b p => simp only [z7d, zik]; rw [hh b (by simp [AV.names])]
  case optr b i p => simp only [z7d, rowSh]; rw [hh b (by simp [AV.names])]
  case rptr sh x => cases sh <;> cases x <;> rfl
  all_goals simp only [z7d]
theorem zfx {op : Op} (he : ∀ x ∈ op.operands.toList, e x = e2 x) (hh : ∀ x ∈ op.operands.toList, ∀ v, e2 x = some v -> ∀ b, v.names b = true -> get st.heap b = get st2.heap b) :
    zj C st e dst orc CC op = zj C st2 e2 dst orc CC op := by
  cases op with
  | move x => simp only [zj]; rw [he x (by simp [Op.operands])]
  | assign x => simp only [zj]; rw [he x (by simp [Op.operands])]
  | alloc t => simp only [zj]
  | box t x => simp only [zj]; rw [he x (by simp [Op.operands])]
  | build t parts => simp only [zj]; rw [z56 fun p hp => he p.2 (by simp only [Op.operands, List.mem_map]; exact ⟨p, hp, rfl⟩)]
  | buildSlice t len parts => simp only [zj]; rw [z56 fun p hp => he p.2 (by simp only [Op.operands, List.mem_map]; exact ⟨p, hp, rfl⟩)]
  | load t x =>
    simp only [zj]
    rw [he x (by simp [Op.operands])]
    have := hh x (by simp [Op.operands])
    cases tyOf C t with
    | none => rfl
    | some te =>
      cases hx : e2 x with
      | none => rfl
      | some v =>
        have hv := this v hx
        cases v
        case ptr b p => simp only []; rw [hv b (by simp [AV.names])]
        case optr b i p => simp only []; rw [hv b (by simp [AV.names])]
        all_goals rfl
  | store t x v =>
    have := hh x (by simp [Op.operands])
    simp only [zj]
    rw [he x (by simp [Op.operands]), he v (by simp [Op.operands])]
    cases hx : e2 x with
    | none => rfl
    | some u =>
      have hv := this u hx
      cases u
      case ptr b p => dsimp only; rw [hv b (by simp [AV.names])]
      case optr b i p => dsimp only; rw [hv b (by simp [AV.names])]
      all_goals rfl
  | nilCheck x => simp only [zj]; rw [he x (by simp [Op.operands])]
  | binOp op t x y t' => simp only [zj]; rw [he x (by simp [Op.operands]), he y (by simp [Op.operands])]
  | unOp op t x => simp only [zj]; rw [he x (by simp [Op.operands])]
  | convert s d x => simp only [zj]; rw [he x (by simp [Op.operands])]
  | makeFunc fn first caps =>
    cases fn <;> simp only [zj]
    rw [z61 fun x hx => he x (by simp [Op.operands]; exact .inr (by simpa using hx))]
  | makeSlice t l c => simp only [zj]; rw [he l (by simp [Op.operands]), he c (by simp [Op.operands])]
  | slice t x lo hi mx =>
    have hlo : ∀ d, z71 e d lo = z71 e2 d lo := fun d => by cases lo with | none => rfl | some y => simp only [z71]; rw [he y (by simp [Op.operands])]
    have hhi : ∀ d, z71 e d hi = z71 e2 d hi := fun d => by cases hi with | none => rfl | some y => simp only [z71]; rw [he y (by simp [Op.operands])]
    have hmx : ∀ y, mx = some y -> e y = e2 y := fun y hy => he y (by subst hy; simp [Op.operands])
    have := hh x (by simp [Op.operands])
    simp only [zj, hlo, hhi]
    rw [he x (by simp [Op.operands])]
    cases hx : e2 x with
    | none => cases tyOf C t <;> rfl
    | some v =>
      have hv := this v hx
      cases tyOf C t with
      | none => rfl
      | some te =>
        simp only []
        cases te.kind
        case slice el =>
          simp only []
          cases tyOf C el with
          | none => cases v <;> rfl
          | some tl =>
            cases v
            case seq sh n f =>
              dsimp only
              cases sh.same tl.sh <;> cases z71 e2 0 lo <;> cases z71 e2 (n : Int) hi <;> cases mx <;> first | rfl | (dsimp only; rw [hmx _ rfl])
            case own b n => simp only []; rw [hv b (by simp [AV.names])]
            all_goals rfl
        all_goals rfl
  | fieldAddr t x f =>
    simp only [zj]
    rw [he x (by simp [Op.operands])]
    have := hh x (by simp [Op.operands])
    cases tyOf C t with
    | none => rfl
    | some te =>
      cases hx : e2 x with
      | none => rfl
      | some v => simp only []; rw [zd0 (this v hx)]
  | field t x f => simp only [zj]; rw [he x (by simp [Op.operands])]
  | indexAddr t x ix =>
    simp only [zj]
    rw [he x (by simp [Op.operands]), he ix (by simp [Op.operands])]
    have := hh x (by simp [Op.operands])
    cases tyOf C t with
    | none => rfl
    | some te =>
      cases hx : e2 x with
      | none => rfl
      | some v =>
        cases ixAV (e2 ix) with
        | none => rfl
        | some i =>
          have hv := this v hx
          simp only []
          cases te.kind
          case slice el =>
            simp only []
            cases tyOf C el with
            | none => rfl
            | some tl =>
              cases v
              case own b n => simp only []; rw [hv b (by simp [AV.names])]
              all_goals rfl
          case arr n el =>
            cases v
            case ptr b p => simp only [zik]; rw [hv b (by simp [AV.names])]
            case optr b i p => simp only [rowSh]; rw [hv b (by simp [AV.names])]
            case rptr sh x => cases sh <;> cases x <;> rfl
            all_goals rfl
          all_goals rfl
  | index t x ix => simp only [zj]; rw [he x (by simp [Op.operands]), he ix (by simp [Op.operands])]
  | extract x i => simp only [zj]; rw [he x (by simp [Op.operands])]
  | call c =>
    obtain ⟨callee, args, tys⟩ := c
    have hargs : ∀ x ∈ args.toList, e x = e2 x := fun x hx => he x (by simp only [Op.operands, Call.operands, Array.toList_append, List.mem_append]; exact .inr hx)
    have hhargs : ∀ x ∈ args.toList, ∀ v, e2 x = some v -> ∀ b, v.names b = true -> get st.heap b = get st2.heap b := fun x hx => hh x (by simp only [Op.operands, Call.operands, Array.toList_append, List.mem_append]; exact .inr hx)
    cases callee with
    | invoke x m => simp only [zj]
    | value fx =>
      simp only [zj]
      rw [he fx (by simp [Op.operands, Call.operands]), z61 hargs]
      cases hf : e2 fx with
      | none => rfl
      | some fv =>
        cases fv <;> try rfl
        rename_i f caps
        cases ha : z2e e2 args.toList with
        | none => rfl
        | some as =>
          simp only []
          rw [z6s (h := st.heap) (h2 := st2.heap) (as ++ caps) fun b hb => ?_]
          rcases z82 hb with hb | hb
          . obtain ⟨x, hx, v, hv, hn⟩ := z9c ha hb
            exact hhargs x hx v hv b hn
          . exact hh fx (by simp [Op.operands, Call.operands]) _ hf b (by simpa [AV.names] using hb)
    | builtin b =>
      cases b with
      | append =>
        simp only [zj]
        cases ha : args.toList with
        | nil => rfl
        | cons x l =>
          cases l with
          | nil => rfl
          | cons y l =>
            cases l with
            | cons => rfl
            | nil =>
              have hex := hargs x (by rw [ha]; simp)
              have hey := hargs y (by rw [ha]; simp)
              have hhx := hhargs x (by rw [ha]; simp)
              have hhy := hhargs y (by rw [ha]; simp)
              cases tys.toList with
              | nil => rfl
              | cons t m =>
                cases m with
                | nil => rfl
                | cons t' m =>
                  cases m with
                  | cons => rfl
                  | nil =>
                    cases dst with
                    | none => rfl
                    | some d =>
                      dsimp only
                      rw [hex, hey]
                      cases hx : e2 x with
                      | none => cases tyOf C t <;> cases Nat.beq t t' <;> rfl
                      | some v =>
                        cases hy : e2 y with
                        | none => cases tyOf C t <;> cases Nat.beq t t' <;> rfl
                        | some u =>
                          have hv := hhx v hx
                          have hu := hhy u hy
                          cases tyOf C t with
                          | none => rfl
                          | some te =>
                            cases Nat.beq t t' with
                            | false => rfl
                            | true =>
                              dsimp only
                              cases te.kind with
                              | slice el =>
                                dsimp only
                                cases tyOf C el with
                                | none => rfl
                                | some tl =>
                                  dsimp only
                                  have gu : ∀ b, (∃ m, u = .own b m) -> get st.heap b = get st2.heap b := fun b ⟨m, e⟩ => hu b (by rw [e]; simp [AV.names])
                                  have gv : ∀ b, (∃ m, v = .own b m) -> get st.heap b = get st2.heap b := fun b ⟨m, e⟩ => hv b (by rw [e]; simp [AV.names])
                                  clear hu hv hx hy
                                  cases u with
                                  | own b m =>
                                    dsimp only
                                    rw [gu _ ⟨_, rfl⟩]
                                    cases get st2.heap b with
                                    | none => rfl
                                    | some c => cases c with
                                      | cell => rfl
                                      | row ty sh n' g =>
                                        dsimp only
                                        cases sh.same tl.sh && tl.zero.isStat with
                                        | false => cases v <;> rfl
                                        | true => cases v <;> first | rfl | (dsimp only; rw [gv _ ⟨_, rfl⟩])
                                  | seq sh m g | seqc sh m g =>
                                    dsimp only
                                    cases sh.same tl.sh && tl.zero.isStat with
                                    | false => cases v <;> rfl
                                    | true => cases v <;> first | rfl | (dsimp only; rw [gv _ ⟨_, rfl⟩])
                                  | nils =>
                                    dsimp only
                                    cases tl.sh.same tl.sh && tl.zero.isStat with
                                    | false => cases v <;> rfl
                                    | true => cases v <;> first | rfl | (dsimp only; rw [gv _ ⟨_, rfl⟩])
                                  | _ => rfl
                              | _ => rfl
      | len =>
        simp only [zj]
        cases ha : args.toList with
        | nil => rfl
        | cons x l =>
          cases l with
          | cons => cases tys.toList <;> rfl
          | nil =>
            cases tys.toList with
            | nil => rfl
            | cons t m => cases m <;> first | rfl | (dsimp only; rw [hargs x (by rw [ha]; simp)])
      | min =>
        simp only [zj]
        cases ha : args.toList with
        | nil => rfl
        | cons x l =>
          cases l with
          | nil => rfl
          | cons y l => cases l <;> first | rfl | (dsimp only; rw [hargs x (by rw [ha]; simp), hargs y (by rw [ha]; simp)])
      | max =>
        simp only [zj]
        cases ha : args.toList with
        | nil => rfl
        | cons x l =>
          cases l with
          | nil => rfl
          | cons y l => cases l <;> first | rfl | (dsimp only; rw [hargs x (by rw [ha]; simp), hargs y (by rw [ha]; simp)])
      | copy =>
        simp only [zj]
        cases ha : args.toList with
        | nil => rfl
        | cons x l =>
          cases l with
          | nil => rfl
          | cons y l =>
            cases l with
            | cons => rfl
            | nil =>
              have hex := hargs x (by rw [ha]; simp)
              have hey := hargs y (by rw [ha]; simp)
              have hhx := hhargs x (by rw [ha]; simp)
              cases tys.toList with
              | nil => rfl
              | cons t m =>
                cases m with
                | nil => rfl
                | cons t' m =>
                  cases m with
                  | cons => rfl
                  | nil =>
                    dsimp only
                    rw [hex, hey]
                    cases hx : e2 x with
                    | none => cases tyOf C t <;> cases tyOf C t' <;> rfl
                    | some v =>
                      have hv := hhx v hx
                      cases v
                      case own b n =>
                        cases tyOf C t with
                        | none => rfl
                        | some te =>
                          cases tyOf C t' with
                          | none => rfl
                          | some te' =>
                            cases e2 y with
                            | none => rfl
                            | some u => dsimp only; rw [hv b (by simp [AV.names])]
                      all_goals (cases tyOf C t <;> cases tyOf C t' <;> rfl)
      | _ => simp only [zj]
  | _ => simp only [zj]
def z1a (C : Cfg) (st : St) (o : Oper) : List Nat :=
  match o.op with
  | .alloc _ | .box _ _ | .makeSlice _ _ _ => o.dst.toList
  | .buildSlice _ _ _ => match o.dst with
    | some d => match C.layB d with
      | true => []
      | false => [d]
    | none => []
  | .store _ a _ => match evS C st a with
    | some (.ptr b _) => [b]
    | some (.optr b _ _) => [b]
    | _ => []
  | .call c => match c.callee with
    | .value fx => match mkAt C fx o.dst with
      | some (_, d) => [d]
      | none => []
    | .builtin .append => o.dst.toList
    | .builtin .copy => match c.args.toList with
      | x :: _ => match evS C st x with
        | some (.own b _) => [b]
        | _ => []
      | _ => []
    | _ => []
  | _ => []
theorem arith_eff' {k : IntKind} {n : Int} : (z8j C k n).eff = .none := by unfold z8j; split <;> rfl
theorem zee {te : TyE} {op : BinOp} {x y : AV} {r : Res} (h : zjg C te op x y = some r) : r.eff = .none := by
  unfold zjg at h
  repeat' split at h
  all_goals first | (cases h; done) | (cases h; first | rfl | exact arith_eff')
theorem zak {op : BinOp} {x y : AV} {r : Res} (h : za6 op x y = some r) : r.eff = .none := by
  unfold za6 at h
  repeat' split at h
  all_goals first | (cases h; done) | (cases h; rfl)
theorem zef {o : Oper} {r : Res} (hno : z19 C st o = false) (h : zj C st (evS C st) o.dst orc CC o.op = some r) : (r.eff = .none /\ z1a C st o = []) ∨ (∃ c d, r.eff = .new c /\ o.dst = some d /\ z1a C st o = [d]) ∨ (∃ b c, r.eff = .upd b c /\ z1a C st o = [b]) := by
  cases hop : o.op with
  | alloc t =>
    rw [hop] at h
    simp only [zj] at h
    split at h
    . rename_i d _ hd; cases h; exact .inr (.inl ⟨_, _, rfl, hd, by simp [z1a, hop, hd]⟩)
    . cases h
  | box t x =>
    rw [hop] at h
    simp only [zj] at h
    split at h
    . rename_i d _ _ hd _
      split at h
      . cases h; exact .inr (.inl ⟨_, _, rfl, hd, by simp [z1a, hop, hd]⟩)
      . cases h
    . cases h
  | buildSlice t l p =>
    rw [hop] at h
    simp only [zj] at h
    split at h
    . rename_i d _ _ hd
      repeat' split at h
      all_goals first | (cases h; done) | (rename_i hl; cases h; exact .inr (.inl ⟨_, _, rfl, hd, by simp [z1a, hop, hd, hl]⟩)) | (rename_i hl; cases h; exact .inl ⟨rfl, by simp [z1a, hop, hd, hl]⟩)
    . cases h
  | makeSlice t l c =>
    rw [hop] at h
    simp only [zj] at h
    split at h
    . rename_i d _ _ _ hd
      repeat' split at h
      all_goals first | (cases h; done) | (cases h; exact .inr (.inl ⟨_, _, rfl, hd, by simp [z1a, hop, hd]⟩))
    . cases h
  | store t x v =>
    rw [hop] at h
    simp only [zj] at h
    split at h
    case h_2 => cases h
    split at h
    case h_2 => cases h
    split at h
    . rename_i b p hx
      repeat' split at h
      all_goals first | (cases h; done) | (cases h; exact .inr (.inr ⟨_, _, rfl, by simp [z1a, hop, hx]⟩))
    . rename_i b i p hx
      repeat' split at h
      all_goals first | (cases h; done) | (cases h; exact .inr (.inr ⟨_, _, rfl, by simp [z1a, hop, hx]⟩))
    . cases h
  | binOp op t x y t' =>
    rw [hop] at h
    simp only [zj] at h
    repeat' split at h
    all_goals first | (cases h; done) | exact .inl ⟨zak h, by simp [z1a, hop]⟩ | exact .inl ⟨zee h, by simp [z1a, hop]⟩
  | unOp op t x =>
    rw [hop] at h
    simp only [zj] at h
    repeat' split at h
    all_goals first | (cases h; done) | (cases h; exact .inl ⟨rfl, by simp [z1a, hop]⟩) | (cases h; exact .inl ⟨arith_eff', by simp [z1a, hop]⟩)
  | call c =>
    rw [hop] at h
    simp only [z19, hop] at hno
    obtain ⟨callee, args, tys⟩ := c
    cases callee with
    | invoke x m => simp [zj] at h
    | value fx =>
      cases hk : mkAt C fx o.dst with
      | some fd =>
        obtain ⟨f, d⟩ := fd
        obtain ⟨_, hd, _⟩ := zaj hk
        simp only [zj, hk] at h
        cases ha : z2e (evS C st) args.toList with
        | none => rw [ha] at h; cases h
        | some as =>
          rw [ha] at h
          simp only [zgx] at h
          split at h
          case h_2 => cases h
          split at h
          case h_2 => cases h
          cases h
          exact .inr (.inl ⟨_, _, rfl, hd, by simp [z1a, hop, hk]⟩)
      | none =>
        simp only [zj, hk] at h
        repeat' split at h
        all_goals first | (cases h; done) | (cases h; exact .inl ⟨rfl, by simp [z1a, hop, hk]⟩)
    | builtin b =>
      cases b with
      | append =>
        simp only [zj] at h
        split at h
        case h_2 => cases h
        rename_i x y t t' d hargs htys hd
        simp only [hargs] at hno
        split at h
        case h_2 => cases h
        rename_i hx _
        rw [hx] at hno
        split at h
        case h_2 => cases h
        split at h
        case h_2 => cases h
        split at h
        case h_2 => cases h
        split at h
        . cases h; exact .inr (.inl ⟨_, _, rfl, hd, by simp [z1a, hop, hd]⟩)
        . split at h
          . cases h; exact .inr (.inl ⟨_, _, rfl, hd, by simp [z1a, hop, hd]⟩)
          . cases h
        . simp at hno
        . cases h
      | copy =>
        simp only [zj] at h
        split at h
        case h_2 => cases h
        rename_i x y t t' hargs htys
        split at h
        case h_2 => cases h
        rename_i hx _
        repeat' split at h
        all_goals first | (cases h; done) | (cases h; exact .inr (.inr ⟨_, _, rfl, by simp [z1a, hop, hargs, hx]⟩))
      | len => simp only [zj] at h; repeat' split at h
               all_goals first | (cases h; done) | (cases h; exact .inl ⟨rfl, by simp [z1a, hop]⟩)
      | min => simp only [zj] at h; repeat' split at h
               all_goals first | (cases h; done) | (cases h; exact .inl ⟨rfl, by simp [z1a, hop]⟩)
      | max => simp only [zj] at h; repeat' split at h
               all_goals first | (cases h; done) | (cases h; exact .inl ⟨rfl, by simp [z1a, hop]⟩)
      | _ => simp [zj] at h
  | makeFunc fn f caps =>
    rw [hop] at h
    cases fn <;> simp only [zj] at h <;> (repeat' split at h) <;> first | (cases h; done) | (cases h; exact .inl ⟨rfl, by simp [z1a, hop]⟩)
  | _ =>
    rw [hop] at h
    simp only [zj] at h
    repeat' split at h
    all_goals first | (cases h; done) | (cases h; exact .inl ⟨rfl, by simp [z1a, hop]⟩)
end
end Go.AV
namespace Go.AV
open Go.RowKit
def zbm {α : Type} : List (Nat × α) -> List (Nat × α)
  | [] => []
  | (k, v) :: l => (k, v) :: del (zbm l) k
theorem zfy {α : Type} : ∀ {l : List (Nat × α)} {s : Nat} {p : Nat × α}, p ∈ del l s -> p ∈ l /\ p.1 ≠ s
  | [], _, _, h => by simp [del] at h
  | (k, v) :: l, s, p, h => by
    simp only [del] at h
    split at h
    . obtain ⟨h1, h2⟩ := zfy h; exact ⟨by simp [h1], h2⟩
    . rename_i hk
      rcases List.mem_cons.1 h with rfl | h
      . exact ⟨by simp, fun e => by subst e; simp at hk⟩
      . obtain ⟨h1, h2⟩ := zfy h; exact ⟨by simp [h1], h2⟩
theorem z47 {α : Type} : ∀ (l : List (Nat × α)) (s : Nat), get (zbm l) s = get l s
  | [], _ => rfl
  | (k, v) :: l, s => by
    simp only [zbm, get]
    split
    . rfl
    . rename_i hk
      rw [z52 _ _ _ (fun e => by subst e; simp at hk), z47 l s]
theorem zal {α : Type} : ∀ {l : List (Nat × α)} {s : Nat} {v : α}, (s, v) ∈ zbm l -> get l s = some v
  | [], _, _, h => by simp [zbm] at h
  | (k, u) :: l, s, v, h => by
    simp only [zbm] at h
    rcases List.mem_cons.1 h with h | h
    . cases h; simp [get]
    . obtain ⟨h1, h2⟩ := zfy h
      have : Nat.beq k s = false := by
        cases e : Nat.beq k s with
        | false => rfl
        | true => exact absurd (Nat.eq_of_beq_eq_true e).symm h2
      simp only [get, this]
      exact zal h1
theorem zam {b : Nat} : ∀ {l : List (Nat × AV)}, (∀ p ∈ l, p.2.names b = false) -> z6n b l = false
  | [], _ => rfl
  | (k, x) :: l, h => by simp only [z6n, Bool.or_eq_false_iff]; exact ⟨h (k, x) (by simp), zam fun p hp => h p (by simp [hp])⟩
theorem z9d {b : Nat} : ∀ {l : List (Nat × BoxC)}, (∀ p ∈ l, p.2.names b = false /\ p.1 ≠ b) -> z4o b l = false
  | [], _ => rfl
  | (k, x) :: l, h => by
    simp only [z4o, Bool.or_eq_false_iff]
    obtain ⟨h1, h2⟩ := h (k, x) (by simp)
    refine ⟨⟨?_, h1⟩, z9d fun p hp => h p (by simp [hp])⟩
    cases e : Nat.beq k b with
    | false => rfl
    | true => exact absurd (Nat.eq_of_beq_eq_true e) h2
def z8p (s : Nat) : List Operand -> Bool
  | [] => false
  | .tmp t :: l => Nat.beq t s || z8p s l
  | _ :: l => z8p s l
def zan (all : List Oper) (o : Oper) (s : Nat) : Bool :=
  z8p s o.op.operands.toList || (match o.guard with
    | none => false
    | some g => match all[g.1]? with
      | some o' => match o'.dst with | some d => Nat.beq d s | none => false
      | none => false)
def zh5 (C : Cfg) (st : St) (b : Nat) : List Operand -> Bool
  | [] => false
  | x :: l => (match ev C st x with | some v => v.names b | none => false) || zh5 C st b l
def zjt (C : Cfg) (st : St) (o : Oper) (b : Nat) : Bool := zh5 C st b o.op.operands.toList
theorem zao {s : Nat} : ∀ {l : List Operand}, Operand.tmp s ∈ l -> z8p s l = true
  | [], h => by cases h
  | x :: l, h => by
    rcases List.mem_cons.1 h with rfl | h2
    . simp [z8p]
    . have := zao h2
      cases x <;> simp [z8p, this]
theorem zc1 {C : Cfg} {st : St} {b : Nat} : ∀ {l : List Operand} {x : Operand} {v : AV}, x ∈ l -> ev C st x = some v -> v.names b = true -> zh5 C st b l = true
  | [], _, _, h, _, _ => by cases h
  | y :: l, x, v, h, he, hb => by
    simp only [zh5, Bool.or_eq_true]
    rcases List.mem_cons.1 h with rfl | h
    . left; rw [he]; exact hb
    . right; exact zc1 h he hb
section
variable {C : Cfg} {CC : FuncId -> List AV -> AV -> Prop} {orc : FuncId -> List AV -> Option AV} {all : List Oper} {st st' st2 : St} {o : Oper} {ps : List Prop}
theorem zeg {b : Nat} {x : AV} (h : (strip1 x).names b = true) : x.names b = true := by
  cases x <;> simp_all [strip1, AV.names]
structure Alike2 (C : Cfg) (all : List Oper) (o : Oper) (st st2 : St) : Prop where
  slot : ∀ s, zan all o s = true -> get st.env s = get st2.env s
  box : ∀ b, zjt C st o b = true -> get st.heap b = get st2.heap b
theorem Alike2.ev (h : Alike2 C all o st st2) {x : Operand} (hx : x ∈ o.op.operands.toList) : AV.ev C st x = AV.ev C st2 x := by
  cases x with
  | tmp t => exact h.slot t (by simp only [zan, Bool.or_eq_true]; exact .inl (zao hx))
  | _ => rfl
theorem Alike2.evS (h : Alike2 C all o st st2) {x : Operand} (hx : x ∈ o.op.operands.toList) : AV.evS C st x = AV.evS C st2 x := by
  unfold AV.evS; rw [h.ev hx]
theorem Alike2.obs (h : Alike2 C all o st st2) : ∀ {l : List Operand}, (∀ x ∈ l, x ∈ o.op.operands.toList) -> z2k C st l = z2k C st2 l
  | [], _ => rfl
  | x :: l, hl => by
    simp only [z2k]
    rw [h.ev (hl x (by simp)), h.obs fun y hy => hl y (by simp [hy])]
theorem z77 (h : Alike2 C all o st st2) : z2l C CC orc st o = z2l C CC orc st2 o := by
  cases hop : o.op with
  | pick c x y =>
    have hc := h.evS (x := c) (by rw [hop]; simp [Op.operands])
    have hx := h.evS (x := x) (by rw [hop]; simp [Op.operands])
    have hy := h.evS (x := y) (by rw [hop]; simp [Op.operands])
    have hc' := h.ev (x := c) (by rw [hop]; simp [Op.operands])
    have hx' := h.ev (x := x) (by rw [hop]; simp [Op.operands])
    have hy' := h.ev (x := y) (by rw [hop]; simp [Op.operands])
    simp only [z2l, hop, zfm]
    rw [hc, hx, hy, hc', hx', hy']
  | _ =>
    have h1 := zfx (C := C) (st := st) (st2 := st2) (e := evS C st) (e2 := evS C st2) (dst := o.dst) (orc := orc) (CC := CC) (op := o.op) (fun x hx => h.evS hx) (fun x hx v hv b hb => by
      have hv2 : evS C st x = some v := by rw [h.evS hx]; exact hv
      unfold evS at hv2
      split at hv2
      . rename_i u hu
        cases hv2
        exact h.box b (zc1 hx hu (zeg hb))
      . cases hv2)
    have h2 := h.obs (l := o.op.operands.toList) fun x hx => hx
    rw [hop] at h1 h2
    simp only [z2l, hop]
    rw [h1, h2]
theorem z2n (hno : z19 C st o = false) (h : z1x C CC orc all st o = some (st', ps)) : (∀ s, o.dst ≠ some s -> get st'.env s = get st.env s) /\ (∀ b, b ∉ z1a C st o -> get st'.heap b = get st.heap b) := by
  have key : ∀ {r : Res} {st1 : St}, z2l C CC orc st o = some r -> zq st o.dst r.eff = some st1 -> st1.env = st.env /\ ∀ b, b ∉ z1a C st o -> get st1.heap b = get st.heap b := by
    intro r st1 hr hst
    have heff : (r.eff = .none /\ z1a C st o = []) ∨ (∃ c d, r.eff = .new c /\ o.dst = some d /\ z1a C st o = [d]) ∨ (∃ b c, r.eff = .upd b c /\ z1a C st o = [b]) := by
      unfold z2l at hr
      split at hr
      . rename_i hop
        repeat' split at hr
        all_goals first | (cases hr; done) | (cases hr; exact .inl ⟨rfl, by simp [z1a, hop]⟩)
      . split at hr
        . rename_i r' hr'
          have he := zef hno hr'
          cases hr
          exact he
        . cases hr
    rcases heff with ⟨he, _⟩ | ⟨c, d, he, hd, hw⟩ | ⟨b, c, he, hw⟩
    . rw [he] at hst; simp only [zq, Option.some.injEq] at hst; subst hst; exact ⟨rfl, fun _ _ => rfl⟩
    . rw [he, hd] at hst
      simp only [zq] at hst
      split at hst
      . cases hst; exact ⟨rfl, fun b hb => by rw [hw] at hb; exact zc _ _ _ _ (by simpa using hb)⟩
      . cases hst
    . rw [he] at hst; simp only [zq, Option.some.injEq] at hst; subst hst
      exact ⟨rfl, fun b' hb => by rw [hw] at hb; exact zc _ _ _ _ (by simpa using hb)⟩
  have hput : ∀ {s1 : St} {v : AV}, (∀ s, o.dst ≠ some s -> get (z5v s1 o.dst v).env s = get s1.env s) /\ (z5v s1 o.dst v).heap = s1.heap := by
    intro s1 v
    cases hd : o.dst with
    | none => exact ⟨fun _ _ => rfl, rfl⟩
    | some d => exact ⟨fun s hs => zc _ _ _ _ (fun e => hs (by rw [e])), rfl⟩
  unfold z1x at h
  split at h
  . cases h
  split at h
  . split at h
    case h_2 => cases h
    rename_i r hr
    split at h
    case h_2 => cases h
    rename_i st1 hst
    cases h
    obtain ⟨k1, k2⟩ := key hr hst
    exact ⟨fun s hs => by rw [hput.1 s hs, k1], fun b hb => by rw [hput.2]; exact k2 b hb⟩
  . split at h
    case h_2 => cases h
    split at h
    case h_2 => cases h
    split at h
    case h_2 => cases h
    cases h
    exact ⟨fun s hs => hput.1 s hs, fun b hb => by rw [hput.2]⟩
end
def z62 (acc : List Nat) (l : List Edge) : Nat :=
  match l with
  | [] => 0
  | e :: l => match Region.binds .any e with
    | true => (2 ^ e.on ||| acc.getD e.on 0) ||| z62 acc l
    | false => z62 acc l
def z7k : List Oper -> List Nat -> List Nat
  | [], acc => acc
  | o :: l, acc => z7k l (acc ++ [z62 acc o.after.toList])
def z57 (C : Cfg) (CC : FuncId -> List AV -> AV -> Prop) (orc : Nat -> FuncId -> List AV -> Option AV) (all : List Oper) : List Oper -> Nat -> St -> List (Oper × St × St)
  | [], _, _ => []
  | o :: rest, i, st => match z1x C CC (orc i) all st o with
    | some (st', _) => (o, st, st') :: z57 C CC orc all rest (i + 1) st'
    | none => []
def memN (b : Nat) : List Nat -> Bool
  | [] => false
  | x :: l => Nat.beq x b || memN b l
def z2b (C : Cfg) (all : List Oper) (x y : Oper × St × St) : Bool :=
  (match x.1.dst with | some d => zan all y.1 d || (match y.1.dst with | some d' => Nat.beq d d' | none => false) | none => false) ||
  ((match y.1.dst with | some d => zan all x.1 d | none => false) ||
  ((z1a C x.2.1 x.1).any (fun b => zjt C y.2.1 y.1 b || memN b (z1a C y.2.1 y.1)) ||
  (z1a C y.2.1 y.1).any (fun b => zjt C x.2.1 x.1 b)))
def z8q (C : Cfg) (o : Oper) : Bool :=
  match o.op with
  | .alloc _ | .box _ _ | .makeSlice _ _ _ => true
  | .buildSlice _ _ _ => match o.dst with
    | some d => !C.layB d
    | none => true
  | .call c => match c.callee with
    | .builtin .append => true
    | .value fx => (mkAt C fx o.dst).isSome
    | _ => false
  | _ => false
def z63 (C : Cfg) (x : Oper × St × St) (d : Nat) : Bool :=
  (match x.1.dst with | some s => (match get x.2.2.env s with | some v => v.names d | none => false) | none => false) ||
  ((z1a C x.2.1 x.1).any (fun b => match get x.2.2.heap b with | some c => c.names d | none => false) || memN d (z1a C x.2.1 x.1))
def z58 : Nat -> (Nat -> Bool) -> Bool
  | 0, _ => true
  | n + 1, p => p n && z58 n p
theorem z3a {p : Nat -> Bool} : ∀ {n : Nat}, z58 n p = true -> ∀ i, i < n -> p i = true
  | 0, _, i, hi => by omega
  | n + 1, h, i, hi => by
    simp only [z58, Bool.and_eq_true] at h
    by_cases e : i = n
    . subst e; exact h.1
    . exact z3a h.2 i (by omega)
def zd1 (md : Region.Mode) : List Edge -> Nat
  | [] => 0
  | e :: l => match Region.binds md e with
    | true => 2 ^ e.on ||| zd1 md l
    | false => zd1 md l
def zap (md : Region.Mode) : Nat -> List Oper -> List (Nat × Nat)
  | _, [] => []
  | j, o :: l => (j, zd1 md o.after.toList) :: zap md (j + 1) l
def zeh (listed : Nat) : List (Nat × Nat) -> Option Nat
  | [] => none
  | (j, m) :: l => match !listed.testBit j && Nat.beq (m &&& listed) m with
    | true => some j
    | false => zeh listed l
def kahn (ps : List (Nat × Nat)) : Nat -> Nat -> List Nat
  | 0, _ => []
  | n + 1, listed => match zeh listed ps with
    | some j => j :: kahn ps n (listed ||| 2 ^ j)
    | none => []
def zrk (j : Nat) : List Nat -> Nat
  | [] => 0
  | x :: l => match Nat.beq x j with
    | true => 0
    | false => zrk j l + 1
def z83 (md : Region.Mode) (rk : Nat -> Nat) (n : Nat) : Nat -> List Oper -> Bool
  | _, [] => true
  | j, o :: l => o.after.toList.all (fun e => !Region.binds md e || (Nat.blt (rk e.on) (rk j) && Nat.blt e.on n)) && z83 md rk n (j + 1) l
def z8r (md : Region.Mode) (ops : List Oper) : Bool :=
  z83 md id ops.length 0 ops || (match kahn (zap md 0 ops) ops.length 0 with | ord => z83 md (fun j => zrk j ord) ops.length 0 ops)
theorem z59 {md : Region.Mode} {rk : Nat -> Nat} {n : Nat} : ∀ {l : List Oper} {j : Nat}, z83 md rk n j l = true -> ∀ (k : Nat) (o : Oper), l[k]? = some o -> ∀ e ∈ o.after.toList, Region.binds md e = true -> rk e.on < rk (j + k) /\ e.on < n
  | [], _, _, k, o, h, _, _, _ => by simp at h
  | o :: l, j, h, k, o', hk, e, he, hb => by
    simp only [z83, Bool.and_eq_true] at h
    cases k with
    | zero =>
      simp at hk; subst hk
      have := List.all_eq_true.1 h.1 e he
      simp only [hb, Bool.not_true, Bool.false_or, Bool.and_eq_true, Nat.blt] at this
      exact ⟨Nat.le_of_ble_eq_true this.1, Nat.le_of_ble_eq_true this.2⟩
    | succ k =>
      have := z59 h.2 k o' (by simpa using hk) e he hb
      rw [show j + (k + 1) = j + 1 + k from by omega]
      exact this
theorem zei {md : Region.Mode} {ops : List Oper} (h : z8r md ops = true) : ∃ rk : Nat -> Nat, ∀ (k : Nat) (o : Oper), ops[k]? = some o -> ∀ e ∈ o.after.toList, Region.binds md e = true -> rk e.on < rk k /\ e.on < ops.length := by
  simp only [z8r, Bool.or_eq_true] at h
  rcases h with h | h
  . refine ⟨id, fun k o hk e he hb => ?_⟩
    have := z59 h k o hk e he hb
    rw [Nat.zero_add] at this
    exact this
  . refine ⟨fun j => zrk j (kahn (zap md 0 ops) ops.length 0), fun k o hk e he hb => ?_⟩
    have := z59 h k o hk e he hb
    rw [Nat.zero_add] at this
    exact this
def zaq (C : Cfg) (ops : List Oper) (x y : Oper × St × St) : Bool := z2b C ops x y || (z19 C x.2.1 x.1 || z19 C y.2.1 y.1)
def zfz (C : Cfg) (ops : List Oper) (st : St) (L : List (Oper × St × St)) (M : List Nat) (j : Nat) (y : Oper × St × St) : Bool :=
  z58 j (fun i => match L[i]? with | none => false | some x => !zaq C ops x y || (M.getD j 0).testBit i) &&
      ((!z8q C y.1 || z19 C y.2.1 y.1) || (match y.1.dst with
        | none => false
        | some d => (z18 st d && z58 j (fun i => match L[i]? with | none => false | some x => !z19 C x.2.1 x.1)) && z58 ops.length (fun k => match L[k]? with | none => false | some z => !z63 C z d || (Nat.beq k j || (M.getD k 0).testBit j))))
def zar (C : Cfg) (CC : FuncId -> List AV -> AV -> Prop) (orc : Nat -> FuncId -> List AV -> Option AV) (ops : List Oper) (st : St) : Bool :=
  match z57 C CC orc ops ops 0 st, z7k ops [] with
  | L, M => (z8r .any ops && (z8r .text ops && z8r .gc ops)) && z58 ops.length fun j => match L[j]? with
    | none => false
    | some y => zfz C ops st L M j y
structure Tr (C : Cfg) (CC : FuncId -> List AV -> AV -> Prop) (orc : Nat -> FuncId -> List AV -> Option AV) (ops : Array Oper) (st st' : St) (σ : Nat -> St) : Prop where
  s0 : σ 0 = st
  sn : σ ops.size = st'
  step : ∀ (i : Nat) (o : Oper), ops[i]? = some o -> ∃ qs : List Prop, z1x C CC (orc i) ops.toList (σ i) o = some (σ (i + 1), qs) /\ ∀ p ∈ qs, p
  edge : ∀ md, ∃ rk : Nat -> Nat, ∀ (i : Nat) (o : Oper), ops[i]? = some o -> ∀ e ∈ o.after.toList, Region.binds md e = true -> rk e.on < rk i /\ e.on < ops.size
  conf : ∀ (i j : Nat) (x y : Oper), i < j -> ops[i]? = some x -> ops[j]? = some y -> zaq C ops.toList (x, σ i, σ (i + 1)) (y, σ j, σ (j + 1)) = true -> ((z7k ops.toList []).getD j 0).testBit i = true
  new : ∀ (j : Nat) (y : Oper), ops[j]? = some y -> z8q C y = true -> z19 C (σ j) y = false -> ∃ d, y.dst = some d /\ z18 st d = true /\ (∀ (i : Nat) (x : Oper), i < j -> ops[i]? = some x -> z19 C (σ i) x = false) /\ ∀ (k : Nat) (z : Oper), ops[k]? = some z -> z63 C (z, σ k, σ (k + 1)) d = true -> k = j ∨ ((z7k ops.toList []).getD k 0).testBit j = true
theorem z9e {C : Cfg} {CC : FuncId -> List AV -> AV -> Prop} {orc : Nat -> FuncId -> List AV -> Option AV} {all : List Oper} : ∀ (rest : List Oper) (i : Nat) (st st' : St) (ps : List Prop), z5m C CC orc all rest i st = some (st', ps) ->
    ∃ σ : Nat -> St, σ 0 = st /\ σ rest.length = st' /\ ∀ (k : Nat) (o : Oper), rest[k]? = some o -> (∃ qs : List Prop, z1x C CC (orc (i + k)) all (σ k) o = some (σ (k + 1), qs) /\ ∀ p ∈ qs, p ∈ ps) /\ (z57 C CC orc all rest i st)[k]? = some (o, σ k, σ (k + 1))
  | [], i, st, st', ps, h => by
    simp only [z5m, Option.some.injEq, Prod.mk.injEq] at h
    obtain ⟨rfl, _⟩ := h
    exact ⟨fun _ => st, rfl, rfl, fun k o hk => by simp at hk⟩
  | o :: rest, i, st, st', ps, h => by
    simp only [z5m] at h
    split at h
    case h_2 => cases h
    rename_i st1 ps1 h1
    split at h
    case h_2 => cases h
    rename_i st2 ps2 h2
    cases h
    obtain ⟨σ, e0, en, hσ⟩ := z9e rest (i + 1) st1 st' ps2 h2
    refine ⟨fun k => match k with | 0 => st | k + 1 => σ k, rfl, by simpa using en, fun k o' hk => ?_⟩
    cases k with
    | zero =>
      simp at hk; subst hk
      refine ⟨⟨ps1, by simp only [Nat.add_zero, e0]; exact h1, fun p hp => by simp [hp]⟩, ?_⟩
      simp only [z57, h1, List.getElem?_cons_zero, e0]
    | succ k =>
      obtain ⟨⟨qs, a1, a2⟩, a3⟩ := hσ k o' (by simpa using hk)
      refine ⟨⟨qs, by rw [show i + (k + 1) = i + 1 + k from by omega]; exact a1, fun p hp => by simp [a2 p hp]⟩, ?_⟩
      simp only [z57, h1, List.getElem?_cons_succ]
      exact a3
theorem zuc {C : Cfg} {CC : FuncId -> List AV -> AV -> Prop} {orc : Nat -> FuncId -> List AV -> Option AV} {ops : Array Oper} {st st' : St} {ps : List Prop} (h : z5m C CC orc ops.toList ops.toList 0 st = some (st', ps)) (hps : ∀ p ∈ ps, p) (hok : zar C CC orc ops.toList st = true) :
    ∃ σ, Tr C CC orc ops st st' σ := by
  obtain ⟨σ, e0, en, hσ⟩ := z9e ops.toList 0 st st' ps h
  have hσ' : ∀ (k : Nat) (o : Oper), ops[k]? = some o -> (z57 C CC orc ops.toList ops.toList 0 st)[k]? = some (o, σ k, σ (k + 1)) := fun k o hk => (hσ k o (by simpa using hk)).2
  simp only [zar, Bool.and_eq_true] at hok
  obtain ⟨hedge, hok⟩ := hok
  have hj0 : ∀ (j : Nat) (o : Oper), ops[j]? = some o -> zfz C ops.toList st (z57 C CC orc ops.toList ops.toList 0 st) (z7k ops.toList []) j (o, σ j, σ (j + 1)) = true := by
    intro j o hj
    have hlt : j < ops.toList.length := by have := (Array.getElem?_eq_some_iff.1 hj).1; simpa using this
    have := z3a hok j hlt
    rw [hσ' j o hj] at this
    exact this
  have hj := fun (j : Nat) (o : Oper) (h : ops[j]? = some o) => by
    have := hj0 j o h
    simp only [zfz, Bool.and_eq_true] at this
    exact this
  refine ⟨σ, e0, by simpa using en, fun i o hi => ?_, fun md => ?_, fun i j x y hij hi hj' hc => ?_, fun j y hj' hn hg => ?_⟩
  . obtain ⟨⟨qs, a1, a2⟩, _⟩ := hσ i o (by simpa using hi)
    exact ⟨qs, by rw [Nat.zero_add] at a1; exact a1, fun p hp => hps p (a2 p hp)⟩
  . have : z8r md ops.toList = true := by cases md <;> first | exact hedge.1 | exact hedge.2.1 | exact hedge.2.2
    obtain ⟨rk, hrk⟩ := zei this
    exact ⟨rk, fun i o hi e he hb => by simpa using hrk i o (by simpa using hi) e he hb⟩
  . have := z3a (hj j y hj').1 i hij
    rw [hσ' i x hi] at this
    simp only [hc, Bool.not_true, Bool.false_or] at this
    exact this
  . have := (hj j y hj').2
    rw [hn, hg] at this
    simp only [Bool.not_true, Bool.false_or] at this
    split at this
    . cases this
    . rename_i d hd
      simp only [Bool.and_eq_true] at this
      refine ⟨d, hd, this.1.1, fun i x hi hx => ?_, fun k z hk hw => ?_⟩
      . have h2 := z3a this.1.2 i hi
        rw [hσ' i x hx] at h2
        simpa using h2
      have h2 := z3a this.2 k (by have := (Array.getElem?_eq_some_iff.1 hk).1; simpa using this)
      rw [hσ' k z hk] at h2
      simp only [hw, Bool.not_true, Bool.false_or, Bool.or_eq_true] at h2
      rcases h2 with h2 | h2
      . exact .inl (Nat.eq_of_beq_eq_true h2)
      . exact .inr h2
theorem zc2 : ∀ (l : List Oper) (acc : List Nat), (z7k l acc).length = acc.length + l.length /\ (z7k l acc).take acc.length = acc /\ ∀ (k : Nat) (o : Oper), l[k]? = some o -> (z7k l acc).getD (acc.length + k) 0 = z62 ((z7k l acc).take (acc.length + k)) o.after.toList
  | [], acc => by simp [z7k]
  | o :: l, acc => by
    obtain ⟨h1, h2, h3⟩ := zc2 l (acc ++ [z62 acc o.after.toList])
    simp only [z7k]
    rw [List.length_append, List.length_singleton] at h1 h2 h3
    have hacc : (z7k l (acc ++ [z62 acc o.after.toList])).take acc.length = acc := by
      have := congrArg (List.take acc.length) h2
      rw [List.take_take, show min acc.length (acc.length + 1) = acc.length from by omega] at this
      rw [this]; simp
    refine ⟨by rw [h1, List.length_cons]; omega, hacc, fun k o' hk => ?_⟩
    cases k with
    | zero =>
      simp at hk; subst hk
      rw [Nat.add_zero, hacc]
      have : ((z7k l (acc ++ [z62 acc o.after.toList])).take (acc.length + 1)).getD acc.length 0 = z62 acc o.after.toList := by rw [h2]; simp
      rw [List.getD_eq_getElem?_getD, List.getElem?_take_of_lt (by omega), <- List.getD_eq_getElem?_getD] at this
      exact this
    | succ k =>
      have := h3 k o' (by simpa using hk)
      rw [show acc.length + (k + 1) = acc.length + 1 + k from by omega]
      exact this
theorem z4l {acc : List Nat} {i : Nat} : ∀ {l : List Edge}, (z62 acc l).testBit i = true -> ∃ e ∈ l, Region.binds .any e = true /\ (i = e.on ∨ (acc.getD e.on 0).testBit i = true)
  | [], h => by simp [z62] at h
  | e :: l, h => by
    simp only [z62] at h
    split at h
    . rename_i hb
      rw [Nat.testBit_or, Nat.testBit_or, Bool.or_eq_true, Bool.or_eq_true] at h
      rcases h with (h | h) | h
      . rw [Nat.testBit_two_pow] at h
        exact ⟨e, by simp, hb, .inl (by simpa using (of_decide_eq_true h).symm)⟩
      . exact ⟨e, by simp, hb, .inr h⟩
      . obtain ⟨e', h1, h2⟩ := z4l h
        exact ⟨e', by simp [h1], h2⟩
    . obtain ⟨e', h1, h2⟩ := z4l h
      exact ⟨e', by simp [h1], h2⟩
theorem z4q {ops : Array Oper} {D : Nat -> Prop} (hD : ∀ (k : Nat) (o : Oper), D k -> ops[k]? = some o -> ∀ e ∈ o.after.toList, Region.binds .any e = true -> D e.on) :
    ∀ (j : Nat) (o : Oper), ops[j]? = some o -> (∀ e ∈ o.after.toList, Region.binds .any e = true -> D e.on) -> ∀ i, ((z7k ops.toList []).getD j 0).testBit i = true -> D i := by
  intro j
  induction j using Nat.strongRecOn with
  | _ j ih =>
    intro o ho hed i hi
    obtain ⟨_, _, h3⟩ := zc2 ops.toList []
    have := h3 j o (by simpa using ho)
    simp only [List.length_nil, Nat.zero_add] at this
    rw [this] at hi
    obtain ⟨e, he, hb, h4⟩ := z4l hi
    have hde := hed e he hb
    rcases h4 with rfl | h4
    . exact hde
    . by_cases hlt : e.on < j
      . have hj := (Array.getElem?_eq_some_iff.1 ho).1
        have ho' : ops[e.on]? = some ops[e.on] := by simp [show e.on < ops.size by omega]
        rw [List.getD_eq_getElem?_getD, List.getElem?_take_of_lt hlt, <- List.getD_eq_getElem?_getD] at h4
        exact ih e.on hlt _ ho' (fun e' he' hb' => hD e.on _ hde ho' e' he' hb') i h4
      . rw [List.getD_eq_getElem?_getD, List.getElem?_take, if_neg hlt] at h4
        simp at h4
end Go.AV
