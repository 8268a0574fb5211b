/- Calls by contract; copies; appends. -/
import Derived.Test.YtmlgkljbhidlhaaAvSound9
namespace Go.AV
open Go.RowKit

/-- What a call hands back reads as r. -/
def RepR (w : World) (F : Nat → Prop) (v : Value) : AV → Prop
  | .tup l => ∃ vs : Array Value, v = .tuple vs ∧ vs.size = l.length ∧ ∀ j, j < l.length → RepS w F (vs.getD j undef) (l.getD j .any)
  | x => RepS w F v x

/-- A CONTRACT: called with values that read as 'args', in whatever memory, function f returns what reads as r; nothing that was there has turned. -/
def RCalls (P : Program) (G : List (Nat × AV)) (f : FuncId) (args : List AV) (r : AV) : Prop :=
  ∀ (w : World) (F : Nat → Prop) (vs : Array Value), (∀ k, F k → k < w.heap.size) → (∀ g x, get G g = some x → RepS w F (.pointer (some ⟨g, 0, none⟩)) x) → vs.size = args.length →
    (∀ j, j < args.length → RepS w F (vs.getD j undef) (args.getD j .any)) →
    Calls P f vs w fun en w' => ∃ v F', en = .returned v ∧ Below w.heap.size w w' ∧ (∀ k, F k → F' k) ∧ (∀ k, F' k → F k ∨ w.heap.size ≤ k) ∧ (∀ k, F' k → k < w'.heap.size) ∧ RepR w' F' v r

section
variable {C : Cfg} {W0 : Entry} {F0 : Nat → Prop} {st st' : St} {a : Act} {w : World} {F : Nat → Prop} {φ : Nat → Place} {e : Operand → Option AV} {dst : Option Nat} {orc : FuncId → List AV → Option AV} {CC : FuncId → List AV → AV → Prop} {r : Res} {o : Oper}
  {next : Act → World → Prop} {Q : Exit → Act → World → Prop}

/-- The blocks of the call's own boxes, besides those that are read only. -/
def Lent (st : St) (F : Nat → Prop) (φ : Nat → Place) (k : Nat) : Prop := F k ∨ ∃ b c, get st.heap b = some c ∧ (φ b).blk = some k

mutual
theorem frz_rep (h : Rel C W0 F0 st a w F φ) : ∀ (x : AV) (y : AV) (ps : List Prop), frz st.heap x = some (y, ps) → (∀ p ∈ ps, p) →
    (∀ v, Rep w F φ v x → RepS w (Lent st F φ) v y) ∧ (∀ sh j v, Rep w F φ v (leafAt sh x j) → RepS w (Lent st F φ) v (leafAt sh y j))
  | .own b n, y, ps, hf, hps => by
    simp only [frz] at hf
    split at hf
    case h_2 => cases hf
    rename_i ty sh n' f hb
    cases hf
    have hn : n ≤ n' := hps _ (by simp)
    have key : ∀ v, Rep w F φ v (.own b n) → RepS w (Lent st F φ) v (.seq sh n f) := by
      intro v hv
      obtain ⟨hsh, _, hrow⟩ := h.heap b _ hb
      rcases hv.own_inv with ⟨g, hg, rfl, hc⟩ | ⟨hg, h0, rfl⟩
      · rcases hrow with ⟨h1, _⟩ | ⟨g', cs, hg', _, _, hh, hsz, hnc, _, hrep⟩
        · rw [hg] at h1; cases h1
        · obtain rfl : g' = g := by rw [hg] at hg'; injection hg' with e; exact e.symm
          refine .seq g' 0 n _ sh f (fun i j => cs.getD (i * sh.size + j) undef) (.inr ⟨b, _, hb, hg⟩) hc (fun i hi j hj => ?_) fun i hi j hj => ?_
          · have hmul : (i + 1) * sh.size ≤ (φ b).cap * sh.size := Nat.mul_le_mul_right _ (by omega)
            rw [Nat.add_mul] at hmul
            rw [Nat.zero_add]; exact cell_of hh (by omega)
          · exact (hrep i (by omega) j hj).keep (fun _ _ => rfl) fun k hk => .inl hk
      · subst h0; exact .seq0 _ _ _ _
    refine ⟨key, fun s j v hv => ?_⟩
    cases s with
    | leaf => simp only [leafAt, asLeaf, AV.isOne] at hv ⊢; exact key v hv
    | agg ss => simp only [leafAt] at hv ⊢; exact .any _ (hv.one rfl)
    | arr m s => simp only [leafAt] at hv ⊢; exact .any _ (hv.one rfl)
  | .ptr b p, y, ps, hf, hps => by
    simp only [frz] at hf
    split at hf
    case h_2 => cases hf
    rename_i sh x hb
    split at hf
    case h_2 => cases hf
    rename_i s z hs hz
    split at hf
    case h_2 => cases hf
    rename_i hst
    cases hf
    have key : ∀ v, Rep w F φ v (.ptr b p) → RepS w (Lent st F φ) v (.rptr s z) := by
      intro v hv
      obtain ⟨hsh, g', cs, hg', _, _, hh, hsz, hrep⟩ := h.cells hb
      obtain ⟨g, hg, hp, rfl⟩ := hv.ptr_inv
      obtain rfl : g' = g := by rw [hg] at hg'; injection hg' with e; exact e.symm
      rw [hsh] at hp ⊢
      have hlt := pathOff_lt p sh s hp hs
      refine .rptr g' _ s z (fun j => cs.getD (pathOff p sh + j) undef) (.inr ⟨b, _, hb, hg⟩) (fun j hj => cell_of hh (by omega)) fun j hj => ?_
      exact (((hrep _ (by omega)).strip (nav_leafAt p sh s x z hp hs hz j hj)).toS (stat_leafAt s z j hst)).keep (fun _ _ => rfl) fun k hk => .inl hk
    refine ⟨key, fun s' j v hv => ?_⟩
    cases s' with
    | leaf => simp only [leafAt, asLeaf, AV.isOne] at hv ⊢; exact key v hv
    | agg ss => simp only [leafAt] at hv ⊢; exact .any _ (hv.one rfl)
    | arr m s => simp only [leafAt] at hv ⊢; exact .any _ (hv.one rfl)
  | .agg l, y, ps, hf, hps => by
    simp only [frz] at hf
    split at hf
    case h_2 => cases hf
    rename_i m qs hm
    cases hf
    refine ⟨fun v hv => ?_, fun s j v hv => ?_⟩
    · cases hv with | stat hv => cases hv
    · cases s with
      | leaf => simp only [leafAt, asLeaf, AV.isOne] at hv ⊢; exact .any _ (hv.one rfl)
      | agg ss => simp only [leafAt] at hv ⊢; exact frzs_leafs h l m ps hm hps ss j v hv
      | arr m s => simp only [leafAt] at hv ⊢; exact .any _ (hv.one rfl)
  | .clo f l, y, ps, hf, hps => by
    simp only [frz] at hf
    split at hf
    case h_2 => cases hf
    rename_i m qs hm
    cases hf
    have key : ∀ v, Rep w F φ v (.clo f l) → RepS w (Lent st F φ) v (.clo f m) := by
      intro v hv
      obtain ⟨l1, l2⟩ := frzs_rep h l m ps hm hps
      cases hv with
      | stat hv =>
        cases hv with
        | clo _ caps _ hs hc => exact .clo f caps m (by omega) fun j hj => l2 j hj _ (.stat (hc j (by omega)))
      | clo _ caps _ hs hc => exact .clo f caps m (by omega) fun j hj => l2 j hj _ (hc j (by omega))
    refine ⟨key, fun s' j v hv => ?_⟩
    cases s' with
    | leaf => simp only [leafAt, asLeaf, AV.isOne] at hv ⊢; exact key v hv
    | agg ss => simp only [leafAt] at hv ⊢; exact .any _ (hv.one rfl)
    | arr m s => simp only [leafAt] at hv ⊢; exact .any _ (hv.one rfl)
  | .mc sh x, y, ps, hf, hps => by
    simp only [frz] at hf
    split at hf
    case h_2 => cases hf
    rename_i z qs hz
    cases hf
    obtain ⟨_, k2⟩ := frz_rep h x z ps hz hps
    refine ⟨fun v hv => ?_, fun s' j v hv => ?_⟩
    · obtain ⟨cs, rfl, hsz, hr⟩ := hv.mc_inv
      exact .mc cs sh z hsz fun j hj => k2 sh j _ (hr j hj)
    · cases s' with
      | leaf => simp only [leafAt, asLeaf, AV.isOne] at hv ⊢; exact .any _ (hv.one rfl)
      | agg ss => simp only [leafAt] at hv ⊢; exact .any _ (hv.one rfl)
      | arr m s => simp only [leafAt] at hv ⊢; exact .any _ (hv.one rfl)
  | .any, y, ps, hf, hps | .int _ _, y, ps, hf, hps | .bool _, y, ps, hf, hps | .str _, y, ps, hf, hps | .nils, y, ps, hf, hps | .nilp, y, ps, hf, hps | .seq _ _ _, y, ps, hf, hps | .seqc _ _ _, y, ps, hf, hps
  | .rptr _ _, y, ps, hf, hps | .arr _ _, y, ps, hf, hps | .st _, y, ps, hf, hps => by
    simp only [frz, Option.some.injEq, Prod.mk.injEq] at hf
    obtain ⟨rfl, rfl⟩ := hf
    exact ⟨fun v hv => (hv.toS rfl).keep (fun _ _ => rfl) fun k hk => .inl hk, fun s j v hv => (hv.toS (stat_leafAt s _ j rfl)).keep (fun _ _ => rfl) fun k hk => .inl hk⟩
  | .optr _ _ _, y, ps, hf, _ | .tup _, y, ps, hf, _ | .when _ _, y, ps, hf, _ => by simp [frz] at hf
theorem frzs_rep (h : Rel C W0 F0 st a w F φ) : ∀ (l m : List AV) (ps : List Prop), frzs st.heap l = some (m, ps) → (∀ p ∈ ps, p) → l.length = m.length ∧ ∀ j, j < m.length → ∀ v, Rep w F φ v (l.getD j .any) → RepS w (Lent st F φ) v (m.getD j .any)
  | [], m, ps, hf, _ => by simp [frzs] at hf; obtain ⟨rfl, rfl⟩ := hf; exact ⟨rfl, fun j hj => by simp at hj⟩
  | x :: l, m, ps, hf, hps => by
    simp only [frzs] at hf
    split at hf
    case h_2 => cases hf
    rename_i y ps1 m' ps2 h1 h2
    cases hf
    obtain ⟨l1, l2⟩ := frzs_rep h l m' ps2 h2 fun p hp => hps p (by simp [hp])
    refine ⟨by simp [l1], fun j hj v hv => ?_⟩
    cases j with
    | zero => exact (frz_rep h x y ps1 h1 fun p hp => hps p (by simp [hp])).1 v (by simpa using hv)
    | succ j => simpa using l2 j (by simpa using hj) v (by simpa using hv)
theorem frzs_leafs (h : Rel C W0 F0 st a w F φ) : ∀ (l m : List AV) (ps : List Prop), frzs st.heap l = some (m, ps) → (∀ p ∈ ps, p) → ∀ ss j v, Rep w F φ v (leafsAt ss l j) → RepS w (Lent st F φ) v (leafsAt ss m j)
  | [], m, ps, hf, _, ss, j, v, hv => by
    simp [frzs] at hf; obtain ⟨rfl, rfl⟩ := hf
    cases ss <;> simp only [leafsAt] at hv ⊢ <;> exact .any _ (hv.one rfl)
  | x :: l, m, ps, hf, hps, ss, j, v, hv => by
    simp only [frzs] at hf
    split at hf
    case h_2 => cases hf
    rename_i y ps1 m' ps2 h1 h2
    cases hf
    cases ss with
    | nil => simp only [leafsAt] at hv ⊢; exact .any _ (hv.one rfl)
    | cons s ss =>
      simp only [leafsAt] at hv ⊢
      split
      · rename_i hj
        rw [if_pos hj] at hv
        exact (frz_rep h x y ps1 h1 fun p hp => hps p (by simp [hp])).2 s j v hv
      · rename_i hj
        rw [if_neg hj] at hv
        exact frzs_leafs h l m' ps2 h2 (fun p hp => hps p (by simp [hp])) ss _ v hv
end

mutual
theorem frz_stat (h : List (Nat × BoxC)) : ∀ x : AV, x.isStat = true → frz h x = some (x, [])
  | .agg l, hs => by simp only [frz]; rw [frzs_stat h l (by simpa [AV.isStat] using hs)]
  | .clo f l, hs => by simp only [frz]; rw [frzs_stat h l (by simpa [AV.isStat] using hs)]
  | .mc sh x, hs => by simp only [frz]; rw [frz_stat h x (by simpa [AV.isStat] using hs)]
  | .any, _ | .int _ _, _ | .bool _, _ | .str _, _ | .nils, _ | .nilp, _ | .seq _ _ _, _ | .seqc _ _ _, _ | .rptr _ _, _ | .arr _ _, _ | .st _, _ => by simp [frz]
  | .own _ _, hs | .ptr _ _, hs | .optr _ _ _, hs | .tup _, hs | .when _ _, hs => by simp [AV.isStat] at hs
theorem frzs_stat (h : List (Nat × BoxC)) : ∀ l : List AV, AV.areStat l = true → frzs h l = some (l, [])
  | [], _ => by simp [frzs]
  | x :: l, hs => by
    simp only [AV.areStat, Bool.and_eq_true] at hs
    simp only [frzs]
    rw [frz_stat h x hs.1, frzs_stat h l hs.2]
    rfl
end

mutual
theorem scalar_leaf : ∀ (sh : Shape) (x : AV) (j : Nat) {w w' : World} {F F' : Nat → Prop} {v : Value}, x.isScalar = true → RepS w F v (leafAt sh x j) → RepS w' F' v (leafAt sh x j)
  | .leaf, x, j, w, w', F, F', v, hs, h => by
    cases x <;> simp [AV.isScalar] at hs <;> simp only [leafAt, asLeaf, AV.isOne] at h ⊢
    all_goals first
      | (cases h with | any _ h => exact .any _ h)
      | (cases h with | int _ _ h => exact .int _ _ h)
      | (cases h; exact .bool _)
      | (cases h; exact .str _)
      | (cases h; exact .nils)
      | (cases h; exact .nilp)
  | .agg ss, x, j, w, w', F, F', v, hs, h => by
    cases x with
    | agg l => simp only [leafAt] at h ⊢; exact scalars_leaf ss l j (by simpa [AV.isScalar] using hs) h
    | _ => simp only [leafAt] at h ⊢; exact .any _ (h.one rfl)
  | .arr n s, x, j, w, w', F, F', v, hs, h => by
    cases x with
    | arr m f => simp [AV.isScalar] at hs
    | _ => simp only [leafAt] at h ⊢; exact .any _ (h.one rfl)
theorem scalars_leaf : ∀ (ss : List Shape) (l : List AV) (j : Nat) {w w' : World} {F F' : Nat → Prop} {v : Value}, AV.areScalar l = true → RepS w F v (leafsAt ss l j) → RepS w' F' v (leafsAt ss l j)
  | s :: ss, x :: l, j, w, w', F, F', v, hs, h => by
    simp only [AV.areScalar, Bool.and_eq_true] at hs
    simp only [leafsAt] at h ⊢
    split
    · rename_i hj; rw [if_pos hj] at h; exact scalar_leaf s x j hs.1 h
    · rename_i hj; rw [if_neg hj] at h; exact scalars_leaf ss l _ hs.2 h
  | [], _, _, _, _, _, _, _, _, h => by simp only [leafsAt] at h ⊢; exact .any _ (h.one rfl)
  | _ :: _, [], _, _, _, _, _, _, _, h => by simp only [leafsAt] at h ⊢; exact .any _ (h.one rfl)
end

theorem scalar_rep {w w' : World} {F F' : Nat → Prop} {v : Value} {x : AV} (hs : x.isScalar = true) (h : RepS w F v x) : RepS w' F' v x := by
  cases h with
  | int _ _ h => exact .int _ _ h
  | bool => exact .bool _
  | str => exact .str _
  | nils => exact .nils
  | nilp => exact .nilp
  | mc cs sh x hz hr => exact .mc cs sh x hz fun j hj => scalar_leaf sh x j (by simpa [AV.isScalar] using hs) (hr j hj)
  | _ => simp [AV.isScalar] at hs

theorem scalars_getD : ∀ {l : List AV} {j : Nat}, AV.areScalar l = true → j < l.length → (l.getD j .any).isScalar = true
  | x :: l, 0, h, _ => by simp only [AV.areScalar, Bool.and_eq_true] at h; simpa using h.1
  | x :: l, j + 1, h, hj => by simp only [AV.areScalar, Bool.and_eq_true] at h; simpa using scalars_getD h.2 (by simpa using hj)
  | [], _, _, hj => by simp at hj

/-- What a call hands back, as a value of the caller's. -/
theorem RepR.rep {w' : World} {F' : Nat → Prop} {v : Value} {x : AV} (h : RepR w' F' v x) : Rep w' F' φ v x := by
  cases x with
  | tup l =>
    obtain ⟨vs, rfl, hs, hr⟩ := h
    exact .tup vs l hs fun j hj => .stat (hr j hj)
  | _ => exact .stat h

theorem RepR.scalar {w w' : World} {F F' : Nat → Prop} {v : Value} {x : AV} (hs : x.isScalar = true) (h : RepR w F v x) : RepR w' F' v x := by
  cases x with
  | tup l =>
    obtain ⟨vs, rfl, hz, hr⟩ := h
    exact ⟨vs, rfl, hz, fun j hj => scalar_rep (scalars_getD (by simpa [AV.isScalar] using hs) hj) (hr j hj)⟩
  | _ => exact scalar_rep hs h

theorem evList_rep {l : List Operand} {m : List AV} (h : evList e l = some m) (hx : ∀ x ∈ l, ∀ u, e x = some u → Rep w F φ (a.eval x) u) : l.length = m.length ∧ ∀ j, j < m.length → Rep w F φ ((l.map a.eval).getD j undef) (m.getD j .any) := evList_spec h hx

theorem getD_append_caps {vs caps : Array Value} {args l : List AV} (h1 : vs.size = args.length) (h2 : caps.size = l.length) (p1 : ∀ j, j < args.length → Rep w F φ (vs.getD j undef) (args.getD j .any)) (p2 : ∀ j, j < l.length → Rep w F φ (caps.getD j undef) (l.getD j .any)) :
    ∀ j, j < (args ++ l).length → Rep w F φ ((vs ++ caps).getD j undef) ((args ++ l).getD j .any) := by
  intro j hj
  rw [List.length_append] at hj
  by_cases hlt : j < args.length
  · have := p1 j hlt
    rw [Array.getD_eq_getD_getElem?, Array.getElem?_append_left (by omega), ← Array.getD_eq_getD_getElem?, List.getD_eq_getElem?_getD, List.getElem?_append_left hlt, ← List.getD_eq_getElem?_getD]
    exact this
  · have := p2 (j - args.length) (by omega)
    rw [Array.getD_eq_getD_getElem?, Array.getElem?_append_right (by omega), h1, ← Array.getD_eq_getD_getElem?, List.getD_eq_getElem?_getD, List.getElem?_append_right (by omega), ← List.getD_eq_getElem?_getD]
    exact this

/-- The program's functions that are called are its own, with a body. -/
def CallOK (P : Program) (f : FuncId) : Prop := ∀ args w, (callFunc f args).run P w = .ok (.enter f args) w

/-- A function that the model answers by itself: a value, and the memory as it was. -/
def RExt (P : Program) (f : FuncId) (args : List AV) (r : AV) : Prop :=
  ∀ (w : World) (F : Nat → Prop) (vs : Array Value), vs.size = args.length → (∀ j, j < args.length → RepS w F (vs.getD j undef) (args.getD j .any)) →
    ∃ v, (callFunc f vs).run P w = .ok (.value v) w ∧ RepR w F v r

theorem wp_callFn {c : Call} {fx : Operand} (h : Rel C W0 F0 st a w F φ) (ho : o.op = .call c) (hc : c.callee = .value fx) (hr : absOp C st e o.dst orc CC (.call c) = some r)
    (hfx : ∀ u, e fx = some u → Rep w F φ (a.eval fx) u) (hx : ∀ x ∈ c.args.toList, ∀ u, e x = some u → Rep w F φ (a.eval x) u) (hob : ∀ p ∈ r.obs, p)
    (hCC : ∀ f as r, CC f as r → (CallOK C.P f ∧ RCalls C.P C.G f as r) ∨ RExt C.P f as r)
    (hst : applyEff st o.dst r.eff = some st') (hn : Next C W0 F0 st' a o r.val next) : o.wp C.P a w next Q := by
  simp only [absOp, hc] at hr
  split at hr
  case h_2 => cases hr
  rename_i f caps args h1 h2
  split at hr
  case h_2 => cases hr
  rename_i as ps hfz
  split at hr
  case h_2 => cases hr
  rename_i rv hrv
  split at hr
  case h_2 => cases hr
  rename_i hcond
  cases hr
  simp only [applyEff, Option.some.injEq] at hst
  subst hst
  have hps : ∀ p ∈ ps, p := fun p hp => hob p (by simp [hp])
  have hcc := hCC f as rv (hob _ (by simp))
  obtain ⟨n1, n2⟩ := evList_rep h2 hx
  have hclo : ∃ cv : Array Value, a.eval fx = .func (.func f) #[] cv ∧ cv.size = caps.length ∧ ∀ j, j < caps.length → Rep w F φ (cv.getD j undef) (caps.getD j .any) := by
    have := hfx _ h1
    generalize a.eval fx = v at this
    cases this with
    | stat hv => cases hv with | clo _ cv _ hs hc => exact ⟨cv, rfl, hs, fun j hj => .stat (hc j hj)⟩
    | clo _ cv _ hs hc => exact ⟨cv, rfl, hs, hc⟩
  obtain ⟨cv, hfv, hcs, hcr⟩ := hclo
  have hargs := getD_append_caps (vs := c.args.map a.eval) (caps := cv) (args := args) (l := caps) (by simpa using n1) hcs (fun j hj => by
    have := n2 j hj
    simpa [Array.getD_eq_getD_getElem?, List.getD_eq_getElem?_getD] using this) hcr
  have hrun : ∀ nx, (callFunc f (c.args.map a.eval ++ cv)).run C.P w = .ok nx w → (execOp a.eval o).run C.P w = .ok nx w := fun nx hnx => by
    obtain ⟨callee, args', tys⟩ := c
    cases hc
    simp only [execOp, ho, resolve, Sem.run_bind, hfv]
    simp only [Deferred.ofValue, Sem.run_pure, Result.andThen_ok, invoke, Array.empty_append]
    exact hnx
  have hlen : (c.args.map a.eval ++ cv).size = (args ++ caps).length := by
    rw [List.length_append, Array.size_append, hcs]; simpa using n1
  rcases hcc with ⟨hok, hcall⟩ | hext
  rotate_left
  · simp only [Bool.or_eq_true, Bool.and_eq_true] at hcond
    unfold Oper.wp
    by_cases hsc : rv.isScalar = true
    · obtain ⟨l1, l2⟩ := frzs_rep h _ _ _ hfz hps
      obtain ⟨v, hv1, hv2⟩ := hext w (Lent st F φ) _ (by rw [← l1]; exact hlen) fun j hj => l2 j hj _ (hargs j (by omega))
      rw [hrun _ hv1]
      exact hn v w F φ h fun _ => (hv2.scalar hsc).rep
    · obtain ⟨hst, _⟩ := hcond.resolve_left hsc
      rw [frzs_stat _ _ hst] at hfz
      cases hfz
      obtain ⟨v, hv1, hv2⟩ := hext w F _ hlen fun j hj => (hargs j hj).toS (areStat_getD hst j)
      rw [hrun _ hv1]
      exact hn v w F φ h fun _ => hv2.rep
  unfold Oper.wp
  rw [hrun _ (hok _ w)]
  show Calls C.P f _ w _
  simp only [Bool.or_eq_true, Bool.and_eq_true] at hcond
  by_cases hsc : rv.isScalar = true
  · obtain ⟨l1, l2⟩ := frzs_rep h _ _ _ hfz hps
    refine (hcall w (Lent st F φ) _ ?_ ?_ ?_ ?_).mono ?_
    · rintro k (hk | ⟨b, c', hb, hk⟩)
      · exact h.ro k hk
      · exact ((h.heap b c' hb).lt hk).1
    · exact fun g x hg => (h.glob g x hg).keep (fun _ _ => rfl) fun k hk => .inl hk
    · rw [← l1, List.length_append, Array.size_append, hcs]; simpa using n1
    · exact fun j hj => l2 j hj _ (hargs j (by omega))
    · rintro en w' ⟨v, F', rfl, hb, f1, f2, f3, hv⟩
      exact hn v w' F φ (h.grown hb (fun _ hk => hk) (fun k hk => .inl hk) fun k hk => Nat.lt_of_lt_of_le (h.ro k hk) hb.size) fun _ => (hv.scalar hsc).rep
  · obtain ⟨hst, _⟩ := hcond.resolve_left hsc
    rw [frzs_stat _ _ hst] at hfz
    cases hfz
    refine (hcall w F _ h.ro h.glob ?_ fun j hj => ?_).mono ?_
    · rw [List.length_append, Array.size_append, hcs]; simpa using n1
    · exact (hargs j hj).toS (areStat_getD hst j)
    · rintro en w' ⟨v, F', rfl, hb, f1, f2, f3, hv⟩
      exact hn v w' F' φ (h.grown hb f1 f2 f3) fun _ => hv.rep
end
end Go.AV
