/- An operation's reckoning hangs on what it reads alone. -/
import Derived.Test.YtmlgkljbhidlhaaAvSound13
namespace Go.AV
open Go.RowKit

/-- An append to a row that lies there: it may move. -/
def growing (C : Cfg) (st : St) (o : Oper) : Bool :=
  match o.op with
  | .call c => match c.callee with
    | .builtin .append => match c.args.toList with
      | x :: _ => match evS C st x with
        | some .nils => false
        | some (.seqc _ _ _) => false
        | _ => true
      | _ => false
    | _ => false
  | _ => false

section
variable {C : Cfg} {st st2 : St} {e e2 : Operand → Option AV} {dst : Option Nat} {orc : FuncId → List AV → Option AV} {CC : FuncId → List AV → AV → Prop}

mutual
theorem frz_local {h h2 : List (Nat × BoxC)} : ∀ (x : AV), (∀ b, x.names b = true → get h b = get h2 b) → frz h x = frz h2 x
  | .own b n, hh => by simp only [frz]; rw [hh b (by simp [AV.names])]
  | .ptr b p, hh => by simp only [frz]; rw [hh b (by simp [AV.names])]
  | .agg l, hh => by simp only [frz]; rw [frzs_local l (fun b hb => hh b (by simpa [AV.names] using hb))]
  | .clo f l, hh => by simp only [frz]; rw [frzs_local l (fun b hb => hh b (by simpa [AV.names] using hb))]
  | .mc sh x, hh => by simp only [frz]; rw [frz_local x (fun b hb => hh b (by simpa [AV.names] using hb))]
  | .any, _ | .int _ _, _ | .bool _, _ | .str _, _ | .nils, _ | .nilp, _ | .seq _ _ _, _ | .seqc _ _ _, _ | .rptr _ _, _ | .arr _ _, _ | .st _, _ | .optr _ _ _, _ | .tup _, _ | .when _ _, _ => by simp only [frz]
theorem frzs_local {h h2 : List (Nat × BoxC)} : ∀ (l : List AV), (∀ b, AV.namesL b l = true → get h b = get h2 b) → frzs h l = frzs h2 l
  | [], _ => by simp only [frzs]
  | x :: l, hh => by
    simp only [frzs]
    rw [frz_local x (fun b hb => hh b (by simp [AV.namesL, hb])), frzs_local l (fun b hb => hh b (by simp [AV.namesL, hb]))]
end

theorem evParts_local : ∀ {l : List (Nat × Operand)}, (∀ p ∈ l, e p.2 = e2 p.2) → evParts e l = evParts e2 l
  | [], _ => rfl
  | (i, x) :: l, h => by simp only [evParts]; rw [h (i, x) (by simp), evParts_local fun p hp => h p (by simp [hp])]
theorem evList_local : ∀ {l : List Operand}, (∀ x ∈ l, e x = e2 x) → evList e l = evList e2 l
  | [], _ => rfl
  | x :: l, h => by simp only [evList]; rw [h x (by simp), evList_local fun p hp => h p (by simp [hp])]
theorem evList_names {b : Nat} : ∀ {l : List Operand} {m : List AV}, evList e l = some m → AV.namesL b m = true → ∃ x ∈ l, ∃ v, e x = some v ∧ v.names b = true
  | [], m, h, hb => by simp [evList] at h; subst h; simp [AV.namesL] at hb
  | x :: l, m, h, hb => by
    simp only [evList] at h
    split at h
    · rename_i v vs h1 h2
      cases h
      simp only [AV.namesL, Bool.or_eq_true] at hb
      rcases hb with hb | hb
      · exact ⟨x, by simp, v, h1, hb⟩
      · obtain ⟨y, hy, u, hu⟩ := evList_names h2 hb
        exact ⟨y, by simp [hy], u, hu⟩
    · cases h
theorem namesL_append {b : Nat} : ∀ {l m : List AV}, AV.namesL b (l ++ m) = true → AV.namesL b l = true ∨ AV.namesL b m = true
  | [], m, h => .inr h
  | x :: l, m, h => by
    simp only [List.cons_append, AV.namesL, Bool.or_eq_true] at h ⊢
    rcases h with h | h
    · exact .inl (.inl h)
    · rcases namesL_append h with h | h
      · exact .inl (.inr h)
      · exact .inr h

theorem fieldAV_local {te : TyE} {f : Nat} {v : AV} (hh : ∀ b, v.names b = true → get st.heap b = get st2.heap b) : fieldAV st te f v = fieldAV st2 te f v := by
  cases v
  case ptr b p => simp only [fieldAV, boxSh]; rw [hh b (by simp [AV.names])]
  case optr b i p => simp only [fieldAV, rowSh]; rw [hh b (by simp [AV.names])]
  case rptr sh x => cases sh <;> cases x <;> rfl
  all_goals simp only [fieldAV]

theorem absOp_local {op : Op} (he : ∀ x ∈ op.operands.toList, e x = e2 x) (hh : ∀ x ∈ op.operands.toList, ∀ v, e2 x = some v → ∀ b, v.names b = true → get st.heap b = get st2.heap b) :
    absOp C st e dst orc CC op = absOp C st2 e2 dst orc CC op := by
  cases op with
  | move x => simp only [absOp]; rw [he x (by simp [Op.operands])]
  | assign x => simp only [absOp]; rw [he x (by simp [Op.operands])]
  | alloc t => simp only [absOp]
  | box t x => simp only [absOp]; rw [he x (by simp [Op.operands])]
  | build t parts => simp only [absOp]; rw [evParts_local fun p hp => he p.2 (by simp only [Op.operands, List.mem_map]; exact ⟨p, hp, rfl⟩)]
  | buildSlice t len parts => simp only [absOp]; rw [evParts_local fun p hp => he p.2 (by simp only [Op.operands, List.mem_map]; exact ⟨p, hp, rfl⟩)]
  | load t x =>
    simp only [absOp]
    rw [he x (by simp [Op.operands])]
    have := hh x (by simp [Op.operands])
    cases tyOf C t with
    | none => rfl
    | some te =>
      cases hx : e2 x with
      | none => rfl
      | some v =>
        have hv := this v hx
        cases v
        case ptr b p => simp only []; rw [hv b (by simp [AV.names])]
        case optr b i p => simp only []; rw [hv b (by simp [AV.names])]
        all_goals rfl
  | store t x v =>
    have := hh x (by simp [Op.operands])
    simp only [absOp]
    rw [he x (by simp [Op.operands]), he v (by simp [Op.operands])]
    cases hx : e2 x with
    | none => rfl
    | some u =>
      have hv := this u hx
      cases u
      case ptr b p => dsimp only; rw [hv b (by simp [AV.names])]
      case optr b i p => dsimp only; rw [hv b (by simp [AV.names])]
      all_goals rfl
  | nilCheck x => simp only [absOp]; rw [he x (by simp [Op.operands])]
  | binOp op t x y t' => simp only [absOp]; rw [he x (by simp [Op.operands]), he y (by simp [Op.operands])]
  | unOp op t x => simp only [absOp]; rw [he x (by simp [Op.operands])]
  | convert s d x => simp only [absOp]; rw [he x (by simp [Op.operands])]
  | makeFunc fn first caps =>
    cases fn <;> simp only [absOp]
    rw [evList_local fun x hx => he x (by simp [Op.operands]; exact .inr (by simpa using hx))]
  | makeSlice t l c => simp only [absOp]; rw [he l (by simp [Op.operands]), he c (by simp [Op.operands])]
  | slice t x lo hi mx =>
    have hlo : ∀ d, bndOf e d lo = bndOf e2 d lo := fun d => by cases lo with | none => rfl | some y => simp only [bndOf]; rw [he y (by simp [Op.operands])]
    have hhi : ∀ d, bndOf e d hi = bndOf e2 d hi := fun d => by cases hi with | none => rfl | some y => simp only [bndOf]; rw [he y (by simp [Op.operands])]
    have hmx : ∀ y, mx = some y → e y = e2 y := fun y hy => he y (by subst hy; simp [Op.operands])
    have := hh x (by simp [Op.operands])
    simp only [absOp, hlo, hhi]
    rw [he x (by simp [Op.operands])]
    cases hx : e2 x with
    | none => cases tyOf C t <;> rfl
    | some v =>
      have hv := this v hx
      cases tyOf C t with
      | none => rfl
      | some te =>
        simp only []
        cases te.kind
        case slice el =>
          simp only []
          cases tyOf C el with
          | none => cases v <;> rfl
          | some tl =>
            cases v
            case seq sh n f =>
              dsimp only
              cases sh.same tl.sh <;> cases bndOf e2 0 lo <;> cases bndOf e2 (n : Int) hi <;> cases mx <;> first | rfl | (dsimp only; rw [hmx _ rfl])
            case own b n => simp only []; rw [hv b (by simp [AV.names])]
            all_goals rfl
        all_goals rfl
  | fieldAddr t x f =>
    simp only [absOp]
    rw [he x (by simp [Op.operands])]
    have := hh x (by simp [Op.operands])
    cases tyOf C t with
    | none => rfl
    | some te =>
      cases hx : e2 x with
      | none => rfl
      | some v => simp only []; rw [fieldAV_local (this v hx)]
  | field t x f => simp only [absOp]; rw [he x (by simp [Op.operands])]
  | indexAddr t x ix =>
    simp only [absOp]
    rw [he x (by simp [Op.operands]), he ix (by simp [Op.operands])]
    have := hh x (by simp [Op.operands])
    cases tyOf C t with
    | none => rfl
    | some te =>
      cases hx : e2 x with
      | none => rfl
      | some v =>
        cases ixAV (e2 ix) with
        | none => rfl
        | some i =>
          have hv := this v hx
          simp only []
          cases te.kind
          case slice el =>
            simp only []
            cases tyOf C el with
            | none => rfl
            | some tl =>
              cases v
              case own b n => simp only []; rw [hv b (by simp [AV.names])]
              all_goals rfl
          case arr n el =>
            cases v
            case ptr b p => simp only [boxSh]; rw [hv b (by simp [AV.names])]
            case optr b i p => simp only [rowSh]; rw [hv b (by simp [AV.names])]
            case rptr sh x => cases sh <;> cases x <;> rfl
            all_goals rfl
          all_goals rfl
  | index t x ix => simp only [absOp]; rw [he x (by simp [Op.operands]), he ix (by simp [Op.operands])]
  | extract x i => simp only [absOp]; rw [he x (by simp [Op.operands])]
  | call c =>
    obtain ⟨callee, args, tys⟩ := c
    have hargs : ∀ x ∈ args.toList, e x = e2 x := fun x hx => he x (by simp only [Op.operands, Call.operands, Array.toList_append, List.mem_append]; exact .inr hx)
    have hhargs : ∀ x ∈ args.toList, ∀ v, e2 x = some v → ∀ b, v.names b = true → get st.heap b = get st2.heap b := fun x hx => hh x (by simp only [Op.operands, Call.operands, Array.toList_append, List.mem_append]; exact .inr hx)
    cases callee with
    | invoke x m => simp only [absOp]
    | value fx =>
      simp only [absOp]
      rw [he fx (by simp [Op.operands, Call.operands]), evList_local hargs]
      cases hf : e2 fx with
      | none => rfl
      | some fv =>
        cases fv <;> try rfl
        rename_i f caps
        cases ha : evList e2 args.toList with
        | none => rfl
        | some as =>
          simp only []
          rw [frzs_local (h := st.heap) (h2 := st2.heap) (as ++ caps) fun b hb => ?_]
          rcases namesL_append hb with hb | hb
          · obtain ⟨x, hx, v, hv, hn⟩ := evList_names ha hb
            exact hhargs x hx v hv b hn
          · exact hh fx (by simp [Op.operands, Call.operands]) _ hf b (by simpa [AV.names] using hb)
    | builtin b =>
      cases b with
      | append =>
        simp only [absOp]
        cases ha : args.toList with
        | nil => rfl
        | cons x l =>
          cases l with
          | nil => rfl
          | cons y l =>
            cases l with
            | cons => rfl
            | nil =>
              have hex := hargs x (by rw [ha]; simp)
              have hey := hargs y (by rw [ha]; simp)
              have hhx := hhargs x (by rw [ha]; simp)
              have hhy := hhargs y (by rw [ha]; simp)
              cases tys.toList with
              | nil => rfl
              | cons t m =>
                cases m with
                | nil => rfl
                | cons t' m =>
                  cases m with
                  | cons => rfl
                  | nil =>
                    cases dst with
                    | none => rfl
                    | some d =>
                      dsimp only
                      rw [hex, hey]
                      cases hx : e2 x with
                      | none => cases tyOf C t <;> cases Nat.beq t t' <;> rfl
                      | some v =>
                        cases hy : e2 y with
                        | none => cases tyOf C t <;> cases Nat.beq t t' <;> rfl
                        | some u =>
                          have hv := hhx v hx
                          have hu := hhy u hy
                          cases tyOf C t with
                          | none => rfl
                          | some te =>
                            cases Nat.beq t t' with
                            | false => rfl
                            | true =>
                              dsimp only
                              cases te.kind with
                              | slice el =>
                                dsimp only
                                cases tyOf C el with
                                | none => rfl
                                | some tl =>
                                  dsimp only
                                  have gu : ∀ b, (∃ m, u = .own b m) → get st.heap b = get st2.heap b := fun b ⟨m, e⟩ => hu b (by rw [e]; simp [AV.names])
                                  have gv : ∀ b, (∃ m, v = .own b m) → get st.heap b = get st2.heap b := fun b ⟨m, e⟩ => hv b (by rw [e]; simp [AV.names])
                                  clear hu hv hx hy
                                  cases u with
                                  | own b m =>
                                    dsimp only
                                    rw [gu _ ⟨_, rfl⟩]
                                    cases get st2.heap b with
                                    | none => rfl
                                    | some c => cases c with
                                      | cell => rfl
                                      | row ty sh n' g =>
                                        dsimp only
                                        cases sh.same tl.sh && tl.zero.isStat with
                                        | false => cases v <;> rfl
                                        | true => cases v <;> first | rfl | (dsimp only; rw [gv _ ⟨_, rfl⟩])
                                  | seq sh m g | seqc sh m g =>
                                    dsimp only
                                    cases sh.same tl.sh && tl.zero.isStat with
                                    | false => cases v <;> rfl
                                    | true => cases v <;> first | rfl | (dsimp only; rw [gv _ ⟨_, rfl⟩])
                                  | nils =>
                                    dsimp only
                                    cases tl.sh.same tl.sh && tl.zero.isStat with
                                    | false => cases v <;> rfl
                                    | true => cases v <;> first | rfl | (dsimp only; rw [gv _ ⟨_, rfl⟩])
                                  | _ => rfl
                              | _ => rfl
      | len =>
        simp only [absOp]
        cases ha : args.toList with
        | nil => rfl
        | cons x l =>
          cases l with
          | cons => cases tys.toList <;> rfl
          | nil =>
            cases tys.toList with
            | nil => rfl
            | cons t m => cases m <;> first | rfl | (dsimp only; rw [hargs x (by rw [ha]; simp)])
      | min =>
        simp only [absOp]
        cases ha : args.toList with
        | nil => rfl
        | cons x l =>
          cases l with
          | nil => rfl
          | cons y l => cases l <;> first | rfl | (dsimp only; rw [hargs x (by rw [ha]; simp), hargs y (by rw [ha]; simp)])
      | max =>
        simp only [absOp]
        cases ha : args.toList with
        | nil => rfl
        | cons x l =>
          cases l with
          | nil => rfl
          | cons y l => cases l <;> first | rfl | (dsimp only; rw [hargs x (by rw [ha]; simp), hargs y (by rw [ha]; simp)])
      | copy =>
        simp only [absOp]
        cases ha : args.toList with
        | nil => rfl
        | cons x l =>
          cases l with
          | nil => rfl
          | cons y l =>
            cases l with
            | cons => rfl
            | nil =>
              have hex := hargs x (by rw [ha]; simp)
              have hey := hargs y (by rw [ha]; simp)
              have hhx := hhargs x (by rw [ha]; simp)
              cases tys.toList with
              | nil => rfl
              | cons t m =>
                cases m with
                | nil => rfl
                | cons t' m =>
                  cases m with
                  | cons => rfl
                  | nil =>
                    dsimp only
                    rw [hex, hey]
                    cases hx : e2 x with
                    | none => cases tyOf C t <;> cases tyOf C t' <;> rfl
                    | some v =>
                      have hv := hhx v hx
                      cases v
                      case own b n =>
                        cases tyOf C t with
                        | none => rfl
                        | some te =>
                          cases tyOf C t' with
                          | none => rfl
                          | some te' =>
                            cases e2 y with
                            | none => rfl
                            | some u => dsimp only; rw [hv b (by simp [AV.names])]
                      all_goals (cases tyOf C t <;> cases tyOf C t' <;> rfl)
      | _ => simp only [absOp]
  | _ => simp only [absOp]

/-- The boxes that an operation writes or makes. -/
def wrBox (C : Cfg) (st : St) (o : Oper) : List Nat :=
  match o.op with
  | .alloc _ | .box _ _ | .buildSlice _ _ _ | .makeSlice _ _ _ => o.dst.toList
  | .store _ a _ => match evS C st a with
    | some (.ptr b _) => [b]
    | some (.optr b _ _) => [b]
    | _ => []
  | .call c => match c.callee with
    | .builtin .append => o.dst.toList
    | .builtin .copy => match c.args.toList with
      | x :: _ => match evS C st x with
        | some (.own b _) => [b]
        | _ => []
      | _ => []
    | _ => []
  | _ => []

theorem arith_eff' {k : IntKind} {n : Int} : (arith C k n).eff = .none := by unfold arith; split <;> rfl

theorem binAV_eff {te : TyE} {op : BinOp} {x y : AV} {r : Res} (h : binAV C te op x y = some r) : r.eff = .none := by
  unfold binAV at h
  repeat' split at h
  all_goals first | (cases h; done) | (cases h; first | rfl | exact arith_eff')
theorem shiftAV_eff {op : BinOp} {x y : AV} {r : Res} (h : shiftAV op x y = some r) : r.eff = .none := by
  unfold shiftAV at h
  repeat' split at h
  all_goals first | (cases h; done) | (cases h; rfl)

/-- What an operation may do to the boxes. -/
theorem absOp_eff {o : Oper} {r : Res} (hno : growing C st o = false) (h : absOp C st (evS C st) o.dst orc CC o.op = some r) : (r.eff = .none ∧ wrBox C st o = []) ∨ (∃ c d, r.eff = .new c ∧ o.dst = some d ∧ wrBox C st o = [d]) ∨ (∃ b c, r.eff = .upd b c ∧ wrBox C st o = [b]) := by
  cases hop : o.op with
  | alloc t =>
    rw [hop] at h
    simp only [absOp] at h
    split at h
    · rename_i d _ hd; cases h; exact .inr (.inl ⟨_, _, rfl, hd, by simp [wrBox, hop, hd]⟩)
    · cases h
  | box t x =>
    rw [hop] at h
    simp only [absOp] at h
    split at h
    · rename_i d _ _ hd _
      split at h
      · cases h; exact .inr (.inl ⟨_, _, rfl, hd, by simp [wrBox, hop, hd]⟩)
      · cases h
    · cases h
  | buildSlice t l p =>
    rw [hop] at h
    simp only [absOp] at h
    split at h
    · rename_i d _ _ hd
      repeat' split at h
      all_goals first | (cases h; done) | (cases h; exact .inr (.inl ⟨_, _, rfl, hd, by simp [wrBox, hop, hd]⟩))
    · cases h
  | makeSlice t l c =>
    rw [hop] at h
    simp only [absOp] at h
    split at h
    · rename_i d _ _ _ hd
      repeat' split at h
      all_goals first | (cases h; done) | (cases h; exact .inr (.inl ⟨_, _, rfl, hd, by simp [wrBox, hop, hd]⟩))
    · cases h
  | store t x v =>
    rw [hop] at h
    simp only [absOp] at h
    split at h
    case h_2 => cases h
    split at h
    case h_2 => cases h
    split at h
    · rename_i b p hx
      repeat' split at h
      all_goals first | (cases h; done) | (cases h; exact .inr (.inr ⟨_, _, rfl, by simp [wrBox, hop, hx]⟩))
    · rename_i b i p hx
      repeat' split at h
      all_goals first | (cases h; done) | (cases h; exact .inr (.inr ⟨_, _, rfl, by simp [wrBox, hop, hx]⟩))
    · cases h
  | binOp op t x y t' =>
    rw [hop] at h
    simp only [absOp] at h
    repeat' split at h
    all_goals first | (cases h; done) | exact .inl ⟨shiftAV_eff h, by simp [wrBox, hop]⟩ | exact .inl ⟨binAV_eff h, by simp [wrBox, hop]⟩
  | unOp op t x =>
    rw [hop] at h
    simp only [absOp] at h
    repeat' split at h
    all_goals first | (cases h; done) | (cases h; exact .inl ⟨rfl, by simp [wrBox, hop]⟩) | (cases h; exact .inl ⟨arith_eff', by simp [wrBox, hop]⟩)
  | call c =>
    rw [hop] at h
    simp only [growing, hop] at hno
    obtain ⟨callee, args, tys⟩ := c
    cases callee with
    | invoke x m => simp [absOp] at h
    | value fx =>
      simp only [absOp] at h
      repeat' split at h
      all_goals first | (cases h; done) | (cases h; exact .inl ⟨rfl, by simp [wrBox, hop]⟩)
    | builtin b =>
      cases b with
      | append =>
        simp only [absOp] at h
        split at h
        case h_2 => cases h
        rename_i x y t t' d hargs htys hd
        simp only [hargs] at hno
        split at h
        case h_2 => cases h
        rename_i hx _
        rw [hx] at hno
        split at h
        case h_2 => cases h
        split at h
        case h_2 => cases h
        split at h
        case h_2 => cases h
        split at h
        · cases h; exact .inr (.inl ⟨_, _, rfl, hd, by simp [wrBox, hop, hd]⟩)
        · split at h
          · cases h; exact .inr (.inl ⟨_, _, rfl, hd, by simp [wrBox, hop, hd]⟩)
          · cases h
        · simp at hno
        · cases h
      | copy =>
        simp only [absOp] at h
        split at h
        case h_2 => cases h
        rename_i x y t t' hargs htys
        split at h
        case h_2 => cases h
        rename_i hx _
        repeat' split at h
        all_goals first | (cases h; done) | (cases h; exact .inr (.inr ⟨_, _, rfl, by simp [wrBox, hop, hargs, hx]⟩))
      | len => simp only [absOp] at h; repeat' split at h
               all_goals first | (cases h; done) | (cases h; exact .inl ⟨rfl, by simp [wrBox, hop]⟩)
      | min => simp only [absOp] at h; repeat' split at h
               all_goals first | (cases h; done) | (cases h; exact .inl ⟨rfl, by simp [wrBox, hop]⟩)
      | max => simp only [absOp] at h; repeat' split at h
               all_goals first | (cases h; done) | (cases h; exact .inl ⟨rfl, by simp [wrBox, hop]⟩)
      | _ => simp [absOp] at h
  | makeFunc fn f caps =>
    rw [hop] at h
    cases fn <;> simp only [absOp] at h <;> (repeat' split at h) <;> first | (cases h; done) | (cases h; exact .inl ⟨rfl, by simp [wrBox, hop]⟩)
  | _ =>
    rw [hop] at h
    simp only [absOp] at h
    repeat' split at h
    all_goals first | (cases h; done) | (cases h; exact .inl ⟨rfl, by simp [wrBox, hop]⟩)
end
end Go.AV
