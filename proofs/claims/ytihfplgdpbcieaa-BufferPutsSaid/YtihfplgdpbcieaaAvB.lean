/- Calls by contract; copies; appends. -/
import Derived.Test.YtihfplgdpbcieaaAvA
import Derived.Lib.AppendStr
import Derived.Deep.DeepAppendWide
namespace Go.AV
open Go.RowKit

/-- What a call hands back reads as r. -/
def RepR (w : World) (F : Nat → Prop) (v : Value) : AV → Prop
  | .tup l => ∃ vs : Array Value, v = .tuple vs ∧ vs.size = l.length ∧ ∀ j, j < l.length → RepS w F (vs.getD j undef) (l.getD j .any)
  | x => RepS w F v x

/-- A CONTRACT: called with values that read as 'args', in whatever memory, function f returns what reads as r; nothing that was there has turned. -/
def RCalls (P : Program) (G : List (Nat × AV)) (f : FuncId) (args : List AV) (r : AV) : Prop :=
  ∀ (w : World) (F : Nat → Prop) (vs : Array Value), (∀ k, F k → k < w.heap.size) → (∀ g x, get G g = some x → RepS w F (.pointer (some ⟨g, 0, none⟩)) x) → vs.size = args.length →
    (∀ j, j < args.length → RepS w F (vs.getD j undef) (args.getD j .any)) →
    Calls P f vs w fun en w' => ∃ v F', en = .returned v ∧ Below w.heap.size w w' ∧ (∀ k, F k → F' k) ∧ (∀ k, F' k → F k ∨ w.heap.size ≤ k) ∧ (∀ k, F' k → k < w'.heap.size) ∧ RepR w' F' v r

section
variable {C : Cfg} {W0 : Entry} {F0 : Nat → Prop} {st st' : St} {a : Act} {w : World} {F : Nat → Prop} {φ : Nat → Place} {e : Operand → Option AV} {dst : Option Nat} {orc : FuncId → List AV → Option AV} {CC : FuncId → List AV → AV → Prop} {r : Res} {o : Oper}
  {next : Act → World → Prop} {Q : Exit → Act → World → Prop}

/-- The blocks of the call's own boxes, besides those that are read only. -/
def Lent (st : St) (F : Nat → Prop) (φ : Nat → Place) (k : Nat) : Prop := F k ∨ ∃ b c, get st.heap b = some c ∧ (φ b).blk = some k

mutual
theorem frz_rep (h : Rel C W0 F0 st a w F φ) : ∀ (x : AV) (y : AV) (ps : List Prop), frz st.heap x = some (y, ps) → (∀ p ∈ ps, p) →
    (∀ v, Rep w F φ v x → RepS w (Lent st F φ) v y) ∧ (∀ sh j v, Rep w F φ v (leafAt sh x j) → RepS w (Lent st F φ) v (leafAt sh y j))
  | .own b n, y, ps, hf, hps => by
    simp only [frz] at hf
    split at hf
    case h_2 => cases hf
    rename_i ty sh n' f hb
    cases hf
    have hn : n ≤ n' := hps _ (by simp)
    have key : ∀ v, Rep w F φ v (.own b n) → RepS w (Lent st F φ) v (.seq sh n f) := by
      intro v hv
      obtain ⟨hsh, _, hrow⟩ := h.heap b _ hb
      rcases hv.own_inv with ⟨g, hg, rfl, hc⟩ | ⟨hg, h0, rfl⟩
      · rcases hrow with ⟨h1, _⟩ | ⟨g', cs, hg', _, _, hh, hsz, hnc, _, hrep⟩
        · rw [hg] at h1; cases h1
        · obtain rfl : g' = g := by rw [hg] at hg'; injection hg' with e; exact e.symm
          refine .seq g' 0 n _ sh f (fun i j => cs.getD (i * sh.size + j) undef) (.inr ⟨b, _, hb, hg⟩) hc (fun i hi j hj => ?_) fun i hi j hj => ?_
          · have hmul : (i + 1) * sh.size ≤ (φ b).cap * sh.size := Nat.mul_le_mul_right _ (by omega)
            rw [Nat.add_mul] at hmul
            rw [Nat.zero_add]; exact cell_of hh (by omega)
          · exact (hrep i (by omega) j hj).keep (fun _ _ => rfl) fun k hk => .inl hk
      · subst h0; exact .seq0 _ _ _ _
    refine ⟨key, fun s j v hv => ?_⟩
    cases s with
    | leaf => simp only [leafAt, asLeaf, AV.isOne] at hv ⊢; exact key v hv
    | agg ss => simp only [leafAt] at hv ⊢; exact .any _ (hv.one rfl)
    | arr m s => simp only [leafAt] at hv ⊢; exact .any _ (hv.one rfl)
  | .ptr b p, y, ps, hf, hps => by
    simp only [frz] at hf
    split at hf
    case h_2 => cases hf
    rename_i sh x hb
    split at hf
    case h_2 => cases hf
    rename_i s z hs hz
    split at hf
    case h_2 => cases hf
    rename_i hst
    cases hf
    have key : ∀ v, Rep w F φ v (.ptr b p) → RepS w (Lent st F φ) v (.rptr s z) := by
      intro v hv
      obtain ⟨hsh, g', cs, hg', _, _, hh, hsz, hrep⟩ := h.cells hb
      obtain ⟨g, hg, hp, rfl⟩ := hv.ptr_inv
      obtain rfl : g' = g := by rw [hg] at hg'; injection hg' with e; exact e.symm
      rw [hsh] at hp ⊢
      have hlt := pathOff_lt p sh s hp hs
      refine .rptr g' _ s z (fun j => cs.getD (pathOff p sh + j) undef) (.inr ⟨b, _, hb, hg⟩) (fun j hj => cell_of hh (by omega)) fun j hj => ?_
      exact (((hrep _ (by omega)).strip (nav_leafAt p sh s x z hp hs hz j hj)).toS (stat_leafAt s z j hst)).keep (fun _ _ => rfl) fun k hk => .inl hk
    refine ⟨key, fun s' j v hv => ?_⟩
    cases s' with
    | leaf => simp only [leafAt, asLeaf, AV.isOne] at hv ⊢; exact key v hv
    | agg ss => simp only [leafAt] at hv ⊢; exact .any _ (hv.one rfl)
    | arr m s => simp only [leafAt] at hv ⊢; exact .any _ (hv.one rfl)
  | .agg l, y, ps, hf, hps => by
    simp only [frz] at hf
    split at hf
    case h_2 => cases hf
    rename_i m qs hm
    cases hf
    refine ⟨fun v hv => ?_, fun s j v hv => ?_⟩
    · cases hv with | stat hv => cases hv
    · cases s with
      | leaf => simp only [leafAt, asLeaf, AV.isOne] at hv ⊢; exact .any _ (hv.one rfl)
      | agg ss => simp only [leafAt] at hv ⊢; exact frzs_leafs h l m ps hm hps ss j v hv
      | arr m s => simp only [leafAt] at hv ⊢; exact .any _ (hv.one rfl)
  | .clo f l, y, ps, hf, hps => by
    simp only [frz] at hf
    split at hf
    case h_2 => cases hf
    rename_i m qs hm
    cases hf
    have key : ∀ v, Rep w F φ v (.clo f l) → RepS w (Lent st F φ) v (.clo f m) := by
      intro v hv
      obtain ⟨l1, l2⟩ := frzs_rep h l m ps hm hps
      cases hv with
      | stat hv =>
        cases hv with
        | clo _ caps _ hs hc => exact .clo f caps m (by omega) fun j hj => l2 j hj _ (.stat (hc j (by omega)))
      | clo _ caps _ hs hc => exact .clo f caps m (by omega) fun j hj => l2 j hj _ (hc j (by omega))
    refine ⟨key, fun s' j v hv => ?_⟩
    cases s' with
    | leaf => simp only [leafAt, asLeaf, AV.isOne] at hv ⊢; exact key v hv
    | agg ss => simp only [leafAt] at hv ⊢; exact .any _ (hv.one rfl)
    | arr m s => simp only [leafAt] at hv ⊢; exact .any _ (hv.one rfl)
  | .mc sh x, y, ps, hf, hps => by
    simp only [frz] at hf
    split at hf
    case h_2 => cases hf
    rename_i z qs hz
    cases hf
    obtain ⟨_, k2⟩ := frz_rep h x z ps hz hps
    refine ⟨fun v hv => ?_, fun s' j v hv => ?_⟩
    · obtain ⟨cs, rfl, hsz, hr⟩ := hv.mc_inv
      exact .mc cs sh z hsz fun j hj => k2 sh j _ (hr j hj)
    · cases s' with
      | leaf => simp only [leafAt, asLeaf, AV.isOne] at hv ⊢; exact .any _ (hv.one rfl)
      | agg ss => simp only [leafAt] at hv ⊢; exact .any _ (hv.one rfl)
      | arr m s => simp only [leafAt] at hv ⊢; exact .any _ (hv.one rfl)
  | .any, y, ps, hf, hps | .int _ _, y, ps, hf, hps | .bool _, y, ps, hf, hps | .str _, y, ps, hf, hps | .nils, y, ps, hf, hps | .nilp, y, ps, hf, hps | .seq _ _ _, y, ps, hf, hps | .seqc _ _ _, y, ps, hf, hps
  | .nseq _ _ _ _, y, ps, hf, hps | .cov _, y, ps, hf, hps | .rptr _ _, y, ps, hf, hps | .arr _ _, y, ps, hf, hps | .st _, y, ps, hf, hps => by
    simp only [frz, Option.some.injEq, Prod.mk.injEq] at hf
    obtain ⟨rfl, rfl⟩ := hf
    exact ⟨fun v hv => (hv.toS rfl).keep (fun _ _ => rfl) fun k hk => .inl hk, fun s j v hv => (hv.toS (stat_leafAt s _ j rfl)).keep (fun _ _ => rfl) fun k hk => .inl hk⟩
  | .optr _ _ _, y, ps, hf, _ | .tup _, y, ps, hf, _ | .when _ _, y, ps, hf, _ => by simp [frz] at hf
theorem frzs_rep (h : Rel C W0 F0 st a w F φ) : ∀ (l m : List AV) (ps : List Prop), frzs st.heap l = some (m, ps) → (∀ p ∈ ps, p) → l.length = m.length ∧ ∀ j, j < m.length → ∀ v, Rep w F φ v (l.getD j .any) → RepS w (Lent st F φ) v (m.getD j .any)
  | [], m, ps, hf, _ => by simp [frzs] at hf; obtain ⟨rfl, rfl⟩ := hf; exact ⟨rfl, fun j hj => by simp at hj⟩
  | x :: l, m, ps, hf, hps => by
    simp only [frzs] at hf
    split at hf
    case h_2 => cases hf
    rename_i y ps1 m' ps2 h1 h2
    cases hf
    obtain ⟨l1, l2⟩ := frzs_rep h l m' ps2 h2 fun p hp => hps p (by simp [hp])
    refine ⟨by simp [l1], fun j hj v hv => ?_⟩
    cases j with
    | zero => exact (frz_rep h x y ps1 h1 fun p hp => hps p (by simp [hp])).1 v (by simpa using hv)
    | succ j => simpa using l2 j (by simpa using hj) v (by simpa using hv)
theorem frzs_leafs (h : Rel C W0 F0 st a w F φ) : ∀ (l m : List AV) (ps : List Prop), frzs st.heap l = some (m, ps) → (∀ p ∈ ps, p) → ∀ ss j v, Rep w F φ v (leafsAt ss l j) → RepS w (Lent st F φ) v (leafsAt ss m j)
  | [], m, ps, hf, _, ss, j, v, hv => by
    simp [frzs] at hf; obtain ⟨rfl, rfl⟩ := hf
    cases ss <;> simp only [leafsAt] at hv ⊢ <;> exact .any _ (hv.one rfl)
  | x :: l, m, ps, hf, hps, ss, j, v, hv => by
    simp only [frzs] at hf
    split at hf
    case h_2 => cases hf
    rename_i y ps1 m' ps2 h1 h2
    cases hf
    cases ss with
    | nil => simp only [leafsAt] at hv ⊢; exact .any _ (hv.one rfl)
    | cons s ss =>
      simp only [leafsAt] at hv ⊢
      split
      · rename_i hj
        rw [if_pos hj] at hv
        exact (frz_rep h x y ps1 h1 fun p hp => hps p (by simp [hp])).2 s j v hv
      · rename_i hj
        rw [if_neg hj] at hv
        exact frzs_leafs h l m' ps2 h2 (fun p hp => hps p (by simp [hp])) ss _ v hv
end

mutual
theorem frz_stat (h : List (Nat × BoxC)) : ∀ x : AV, x.isStat = true → frz h x = some (x, [])
  | .agg l, hs => by simp only [frz]; rw [frzs_stat h l (by simpa [AV.isStat] using hs)]
  | .clo f l, hs => by simp only [frz]; rw [frzs_stat h l (by simpa [AV.isStat] using hs)]
  | .mc sh x, hs => by simp only [frz]; rw [frz_stat h x (by simpa [AV.isStat] using hs)]
  | .any, _ | .int _ _, _ | .bool _, _ | .str _, _ | .nils, _ | .nilp, _ | .seq _ _ _, _ | .seqc _ _ _, _ | .nseq _ _ _ _, _ | .cov _, _ | .rptr _ _, _ | .arr _ _, _ | .st _, _ => by simp [frz]
  | .own _ _, hs | .ptr _ _, hs | .optr _ _ _, hs | .tup _, hs | .when _ _, hs => by simp [AV.isStat] at hs
theorem frzs_stat (h : List (Nat × BoxC)) : ∀ l : List AV, AV.areStat l = true → frzs h l = some (l, [])
  | [], _ => by simp [frzs]
  | x :: l, hs => by
    simp only [AV.areStat, Bool.and_eq_true] at hs
    simp only [frzs]
    rw [frz_stat h x hs.1, frzs_stat h l hs.2]
    rfl
end

mutual
theorem scalar_leaf : ∀ (sh : Shape) (x : AV) (j : Nat) {w w' : World} {F F' : Nat → Prop} {v : Value}, x.isScalar = true → RepS w F v (leafAt sh x j) → RepS w' F' v (leafAt sh x j)
  | .leaf, x, j, w, w', F, F', v, hs, h => by
    cases x <;> simp [AV.isScalar] at hs <;> simp only [leafAt, asLeaf, AV.isOne] at h ⊢
    all_goals first
      | (cases h with | any _ h => exact .any _ h)
      | (cases h with | int _ _ h => exact .int _ _ h)
      | (cases h; exact .bool _)
      | (cases h; exact .str _)
      | (cases h; exact .nils)
      | (cases h; exact .nilp)
  | .agg ss, x, j, w, w', F, F', v, hs, h => by
    cases x with
    | agg l => simp only [leafAt] at h ⊢; exact scalars_leaf ss l j (by simpa [AV.isScalar] using hs) h
    | _ => simp only [leafAt] at h ⊢; exact .any _ (h.one rfl)
  | .arr n s, x, j, w, w', F, F', v, hs, h => by
    cases x with
    | arr m f => simp [AV.isScalar] at hs
    | _ => simp only [leafAt] at h ⊢; exact .any _ (h.one rfl)
theorem scalars_leaf : ∀ (ss : List Shape) (l : List AV) (j : Nat) {w w' : World} {F F' : Nat → Prop} {v : Value}, AV.areScalar l = true → RepS w F v (leafsAt ss l j) → RepS w' F' v (leafsAt ss l j)
  | s :: ss, x :: l, j, w, w', F, F', v, hs, h => by
    simp only [AV.areScalar, Bool.and_eq_true] at hs
    simp only [leafsAt] at h ⊢
    split
    · rename_i hj; rw [if_pos hj] at h; exact scalar_leaf s x j hs.1 h
    · rename_i hj; rw [if_neg hj] at h; exact scalars_leaf ss l _ hs.2 h
  | [], _, _, _, _, _, _, _, _, h => by simp only [leafsAt] at h ⊢; exact .any _ (h.one rfl)
  | _ :: _, [], _, _, _, _, _, _, _, h => by simp only [leafsAt] at h ⊢; exact .any _ (h.one rfl)
end

theorem scalar_rep {w w' : World} {F F' : Nat → Prop} {v : Value} {x : AV} (hs : x.isScalar = true) (h : RepS w F v x) : RepS w' F' v x := by
  cases h with
  | int _ _ h => exact .int _ _ h
  | bool => exact .bool _
  | str => exact .str _
  | nils => exact .nils
  | nilp => exact .nilp
  | mc cs sh x hz hr => exact .mc cs sh x hz fun j hj => scalar_leaf sh x j (by simpa [AV.isScalar] using hs) (hr j hj)
  | _ => simp [AV.isScalar] at hs

theorem scalars_getD : ∀ {l : List AV} {j : Nat}, AV.areScalar l = true → j < l.length → (l.getD j .any).isScalar = true
  | x :: l, 0, h, _ => by simp only [AV.areScalar, Bool.and_eq_true] at h; simpa using h.1
  | x :: l, j + 1, h, hj => by simp only [AV.areScalar, Bool.and_eq_true] at h; simpa using scalars_getD h.2 (by simpa using hj)
  | [], _, _, hj => by simp at hj

/-- What a call hands back, as a value of the caller's. -/
theorem RepR.rep {w' : World} {F' : Nat → Prop} {v : Value} {x : AV} (h : RepR w' F' v x) : Rep w' F' φ v x := by
  cases x with
  | tup l =>
    obtain ⟨vs, rfl, hs, hr⟩ := h
    exact .tup vs l hs fun j hj => .stat (hr j hj)
  | _ => exact .stat h

theorem RepR.scalar {w w' : World} {F F' : Nat → Prop} {v : Value} {x : AV} (hs : x.isScalar = true) (h : RepR w F v x) : RepR w' F' v x := by
  cases x with
  | tup l =>
    obtain ⟨vs, rfl, hz, hr⟩ := h
    exact ⟨vs, rfl, hz, fun j hj => scalar_rep (scalars_getD (by simpa [AV.isScalar] using hs) hj) (hr j hj)⟩
  | _ => exact scalar_rep hs h

theorem evList_rep {l : List Operand} {m : List AV} (h : evList e l = some m) (hx : ∀ x ∈ l, ∀ u, e x = some u → Rep w F φ (a.eval x) u) : l.length = m.length ∧ ∀ j, j < m.length → Rep w F φ ((l.map a.eval).getD j undef) (m.getD j .any) := evList_spec h hx

theorem getD_append_caps {vs caps : Array Value} {args l : List AV} (h1 : vs.size = args.length) (h2 : caps.size = l.length) (p1 : ∀ j, j < args.length → Rep w F φ (vs.getD j undef) (args.getD j .any)) (p2 : ∀ j, j < l.length → Rep w F φ (caps.getD j undef) (l.getD j .any)) :
    ∀ j, j < (args ++ l).length → Rep w F φ ((vs ++ caps).getD j undef) ((args ++ l).getD j .any) := by
  intro j hj
  rw [List.length_append] at hj
  by_cases hlt : j < args.length
  · have := p1 j hlt
    rw [Array.getD_eq_getD_getElem?, Array.getElem?_append_left (by omega), ← Array.getD_eq_getD_getElem?, List.getD_eq_getElem?_getD, List.getElem?_append_left hlt, ← List.getD_eq_getElem?_getD]
    exact this
  · have := p2 (j - args.length) (by omega)
    rw [Array.getD_eq_getD_getElem?, Array.getElem?_append_right (by omega), h1, ← Array.getD_eq_getD_getElem?, List.getD_eq_getElem?_getD, List.getElem?_append_right (by omega), ← List.getD_eq_getElem?_getD]
    exact this

/-- The program's functions that are called are its own, with a body. -/
def CallOK (P : Program) (f : FuncId) : Prop := ∀ args w, (callFunc f args).run P w = .ok (.enter f args) w

/-- A function that the model answers by itself: a value, and the memory as it was. -/
def RExt (P : Program) (f : FuncId) (args : List AV) (r : AV) : Prop :=
  ∀ (w : World) (F : Nat → Prop) (vs : Array Value), vs.size = args.length → (∀ j, j < args.length → RepS w F (vs.getD j undef) (args.getD j .any)) →
    ∃ v, (callFunc f vs).run P w = .ok (.value v) w ∧ RepR w F v r

theorem wp_callFn {c : Call} {fx : Operand} (h : Rel C W0 F0 st a w F φ) (ho : o.op = .call c) (hc : c.callee = .value fx) (hr : absOp C st e o.dst orc CC (.call c) = some r)
    (hfx : ∀ u, e fx = some u → Rep w F φ (a.eval fx) u) (hx : ∀ x ∈ c.args.toList, ∀ u, e x = some u → Rep w F φ (a.eval x) u) (hob : ∀ p ∈ r.obs, p)
    (hCC : ∀ f as r, CC f as r → (CallOK C.P f ∧ RCalls C.P C.G f as r) ∨ RExt C.P f as r)
    (hst : applyEff st o.dst r.eff = some st') (hn : Next C W0 F0 st' a o r.val next) : o.wp C.P a w next Q := by
  simp only [absOp, hc] at hr
  split at hr
  case h_2 => cases hr
  rename_i f caps args h1 h2
  split at hr
  case h_2 => cases hr
  rename_i as ps hfz
  split at hr
  case h_2 => cases hr
  rename_i rv hrv
  split at hr
  case h_2 => cases hr
  rename_i hcond
  cases hr
  simp only [applyEff, Option.some.injEq] at hst
  subst hst
  have hps : ∀ p ∈ ps, p := fun p hp => hob p (by simp [hp])
  have hcc := hCC f as rv (hob _ (by simp))
  obtain ⟨n1, n2⟩ := evList_rep h2 hx
  have hclo : ∃ cv : Array Value, a.eval fx = .func (.func f) #[] cv ∧ cv.size = caps.length ∧ ∀ j, j < caps.length → Rep w F φ (cv.getD j undef) (caps.getD j .any) := by
    have := hfx _ h1
    generalize a.eval fx = v at this
    cases this with
    | stat hv => cases hv with | clo _ cv _ hs hc => exact ⟨cv, rfl, hs, fun j hj => .stat (hc j hj)⟩
    | clo _ cv _ hs hc => exact ⟨cv, rfl, hs, hc⟩
  obtain ⟨cv, hfv, hcs, hcr⟩ := hclo
  have hargs := getD_append_caps (vs := c.args.map a.eval) (caps := cv) (args := args) (l := caps) (by simpa using n1) hcs (fun j hj => by
    have := n2 j hj
    simpa [Array.getD_eq_getD_getElem?, List.getD_eq_getElem?_getD] using this) hcr
  have hrun : ∀ nx, (callFunc f (c.args.map a.eval ++ cv)).run C.P w = .ok nx w → (execOp a.eval o).run C.P w = .ok nx w := fun nx hnx => by
    obtain ⟨callee, args', tys⟩ := c
    cases hc
    simp only [execOp, ho, resolve, Sem.run_bind, hfv]
    simp only [Deferred.ofValue, Sem.run_pure, Result.andThen_ok, invoke, Array.empty_append]
    exact hnx
  have hlen : (c.args.map a.eval ++ cv).size = (args ++ caps).length := by
    rw [List.length_append, Array.size_append, hcs]; simpa using n1
  rcases hcc with ⟨hok, hcall⟩ | hext
  rotate_left
  · simp only [Bool.or_eq_true, Bool.and_eq_true] at hcond
    unfold Oper.wp
    by_cases hsc : rv.isScalar = true
    · obtain ⟨l1, l2⟩ := frzs_rep h _ _ _ hfz hps
      obtain ⟨v, hv1, hv2⟩ := hext w (Lent st F φ) _ (by rw [← l1]; exact hlen) fun j hj => l2 j hj _ (hargs j (by omega))
      rw [hrun _ hv1]
      exact hn v w F φ h fun _ => (hv2.scalar hsc).rep
    · obtain ⟨hst, _⟩ := hcond.resolve_left hsc
      rw [frzs_stat _ _ hst] at hfz
      cases hfz
      obtain ⟨v, hv1, hv2⟩ := hext w F _ hlen fun j hj => (hargs j hj).toS (areStat_getD hst j)
      rw [hrun _ hv1]
      exact hn v w F φ h fun _ => hv2.rep
  unfold Oper.wp
  rw [hrun _ (hok _ w)]
  show Calls C.P f _ w _
  simp only [Bool.or_eq_true, Bool.and_eq_true] at hcond
  by_cases hsc : rv.isScalar = true
  · obtain ⟨l1, l2⟩ := frzs_rep h _ _ _ hfz hps
    refine (hcall w (Lent st F φ) _ ?_ ?_ ?_ ?_).mono ?_
    · rintro k (hk | ⟨b, c', hb, hk⟩)
      · exact h.ro k hk
      · exact ((h.heap b c' hb).lt hk).1
    · exact fun g x hg => (h.glob g x hg).keep (fun _ _ => rfl) fun k hk => .inl hk
    · rw [← l1, List.length_append, Array.size_append, hcs]; simpa using n1
    · exact fun j hj => l2 j hj _ (hargs j (by omega))
    · rintro en w' ⟨v, F', rfl, hb, f1, f2, f3, hv⟩
      exact hn v w' F φ (h.grown hb (fun _ hk => hk) (fun k hk => .inl hk) fun k hk => Nat.lt_of_lt_of_le (h.ro k hk) hb.size) fun _ => (hv.scalar hsc).rep
  · obtain ⟨hst, _⟩ := hcond.resolve_left hsc
    rw [frzs_stat _ _ hst] at hfz
    cases hfz
    refine (hcall w F _ h.ro h.glob ?_ fun j hj => ?_).mono ?_
    · rw [List.length_append, Array.size_append, hcs]; simpa using n1
    · exact (hargs j hj).toS (areStat_getD hst j)
    · rintro en w' ⟨v, F', rfl, hb, f1, f2, f3, hv⟩
      exact hn v w' F' φ (h.grown hb f1 f2 f3) fun _ => hv.rep
end
end Go.AV
/- Copies and appends. -/
namespace Go.AV
open Go.RowKit

section
variable {C : Cfg} {W0 : Entry} {F0 : Nat → Prop} {st st' : St} {a : Act} {w : World} {F : Nat → Prop} {φ : Nat → Place} {e : Operand → Option AV} {dst : Option Nat} {orc : FuncId → List AV → Option AV} {CC : FuncId → List AV → AV → Prop} {r : Res} {o : Oper}
  {next : Act → World → Prop} {Q : Exit → Act → World → Prop}

/-- What an operand of copy or append reads as: rows of plain data. -/
def SrcIs (w : World) (F : Nat → Prop) (v : Value) (sh : Shape) (m : Nat) (g : Nat → AV) : Prop :=
  ∃ A c, v = .slice A m c ∧ (0 < m → ∃ b o, ∃ cs : Nat → Nat → Value, A = some ⟨b, o, none⟩ ∧ (∀ i, i < m → ∀ j, j < sh.size → w.cell? ⟨b, o + (i * sh.size + j), none⟩ = some (cs i j)) ∧
    (∀ i, i < m → ∀ j, j < sh.size → RepS w F (cs i j) (leafAt sh (g i) j)))

theorem src_seq {v : Value} {sh : Shape} {m : Nat} {g : Nat → AV} (h : Rep w F φ v (.seq sh m g) ∨ Rep w F φ v (.seqc sh m g)) : SrcIs w F v sh m g := by
  obtain ⟨A, c, hv, hc⟩ := Rep.seq_inv h
  exact ⟨A, c, hv, fun hm => by obtain ⟨_, b, o, cs, h1, _, h2, h3⟩ := hc hm; exact ⟨b, o, cs, h1, h2, h3⟩⟩
theorem src_nils {v : Value} {sh : Shape} {g : Nat → AV} (h : Rep w F φ v .nils) : SrcIs w F v sh 0 g := by
  cases h with
  | stat h => cases h; exact ⟨_, _, rfl, fun h => absurd h (by omega)⟩
theorem src_own (h : Rel C W0 F0 st a w F φ) {v : Value} {b m n' : Nat} {ty : TypeId} {sh : Shape} {g : Nat → AV} (hv : Rep w F φ v (.own b m)) (hb : get st.heap b = some (.row ty sh n' g)) (hm : m ≤ n') : SrcIs w F v sh m g := by
  obtain ⟨hsh, _, hrow⟩ := h.heap b _ hb
  rcases hv.own_inv with ⟨gb, hg, rfl, hc⟩ | ⟨hg, h0, rfl⟩
  · rcases hrow with ⟨h1, _⟩ | ⟨g', cs, hg', _, _, hh, hsz, hnc, _, hrep⟩
    · rw [hg] at h1; cases h1
    · obtain rfl : g' = gb := by rw [hg] at hg'; injection hg' with e; exact e.symm
      refine ⟨_, _, rfl, fun hm0 => ⟨g', 0, fun i j => cs.getD (i * sh.size + j) undef, rfl, fun i hi j hj => ?_, fun i hi j hj => hrep i (by omega) j hj⟩⟩
      have hmul : (i + 1) * sh.size ≤ (φ b).cap * sh.size := Nat.mul_le_mul_right _ (by omega)
      rw [Nat.add_mul] at hmul
      rw [Nat.zero_add]; exact cell_of hh (by omega)
  · subst h0; exact ⟨_, _, rfl, fun h => absurd h (by omega)⟩

/-- The cells of a source, in a list. -/
theorem src_news {v : Value} {sh : Shape} {m : Nat} {g : Nat → AV} (h : SrcIs w F v sh m g) (hpos : 0 < sh.size) : ∃ A c, ∃ news : List Value, v = .slice A m c ∧ news.length = m * sh.size ∧ (0 < m → ∃ ad, A = some ad ∧ ∀ j u, news[j]? = some u → w.cell? (ad.add j) = some u) ∧
    (∀ i, i < m → ∀ j, j < sh.size → ∃ u, news[i * sh.size + j]? = some u ∧ RepS w F u (leafAt sh (g i) j)) ∧ ∀ u ∈ news, u.oneCell' = true := by
  obtain ⟨A, c, hv, hc⟩ := h
  rcases Nat.eq_zero_or_pos m with h0 | h0
  · subst h0
    exact ⟨A, c, [], hv, by simp, fun h => absurd h (by omega), fun i hi => absurd hi (by omega), fun u hu => by simp at hu⟩
  · obtain ⟨b, o, cs, hA, h1, h2⟩ := hc h0
    have hix : ∀ i j, i < m → j < sh.size → i * sh.size + j < m * sh.size := by
      intro i j hi hj
      have hmul : (i + 1) * sh.size ≤ m * sh.size := Nat.mul_le_mul_right _ hi
      rw [Nat.add_mul] at hmul; omega
    have hdm : ∀ i j, j < sh.size → (i * sh.size + j) / sh.size = i ∧ (i * sh.size + j) % sh.size = j := by
      intro i j hj
      rw [Nat.mul_comm i, Nat.mul_add_div hpos, Nat.mul_add_mod, Nat.div_eq_of_lt hj, Nat.mod_eq_of_lt hj]
      exact ⟨rfl, rfl⟩
    have hget : ∀ q, q < m * sh.size → ((List.range (m * sh.size)).map fun q => cs (q / sh.size) (q % sh.size))[q]? = some (cs (q / sh.size) (q % sh.size)) := by
      intro q hq; simp [hq]
    refine ⟨A, c, (List.range (m * sh.size)).map fun q => cs (q / sh.size) (q % sh.size), hv, by simp, fun _ => ⟨_, hA, fun q u hu => ?_⟩, fun i hi j hj => ⟨_, hget _ (hix i j hi hj), ?_⟩, fun u hu => ?_⟩
    · have hq : q < m * sh.size := by have := (List.getElem?_eq_some_iff.1 hu).1; simpa using this
      rw [hget q hq] at hu
      cases hu
      rw [add_none]
      have := h1 (q / sh.size) ((Nat.div_lt_iff_lt_mul hpos).2 hq) (q % sh.size) (Nat.mod_lt _ hpos)
      rw [Nat.mul_comm, Nat.div_add_mod] at this
      exact this
    · obtain ⟨d1, d2⟩ := hdm i j hj
      rw [d1, d2]; exact h2 i hi j hj
    · simp only [List.mem_map, List.mem_range] at hu
      obtain ⟨q, hq, rfl⟩ := hu
      exact RepS.leaf1 sh _ _ (h2 (q / sh.size) ((Nat.div_lt_iff_lt_mul hpos).2 hq) (q % sh.size) (Nat.mod_lt _ hpos))

/-- A box is laid beside the others. -/
theorem Rel.addBox (h : Rel C W0 F0 st a w F φ) {d : Nat} {c : BoxC} (hf : freshBox st d = true) (hc : c.names d = false) (pl : Place)
    (hpl : ∀ b c' g, get st.heap b = some c' → (φ b).blk = some g → pl.blk ≠ some g)
    (hB : BoxOK w F (fun k => if k = d then pl else φ k) W0.B d c) :
    Rel C W0 F0 { st with heap := put st.heap d c } a w F (fun k => if k = d then pl else φ k) := by
  simp only [freshBox, Bool.not_eq_true', Bool.or_eq_false_iff] at hf
  obtain ⟨fe, fh, fl⟩ := hf
  refine ⟨fun s x hs => ?_, fun b c' hc' => ?_, ?_, h.ro, h.base, h.sub, h.new, h.dfr, h.tsz, h.glob, anc_put h.anc fl⟩
  · obtain ⟨v, hv, hr⟩ := h.env s x hs
    refine ⟨v, hv, hr.keep (fun _ _ => rfl) (fun _ hk => hk) fun b hb => update_other φ d pl fun e => ?_⟩
    subst e
    rw [namesEnv_get hs fe] at hb; cases hb
  · by_cases e : b = d
    · subst e
      rw [get_put_same] at hc'
      cases hc'
      exact hB
    · rw [get_put_other _ _ _ _ e] at hc'
      have hb := h.heap b c' hc'
      refine hb.keep (fun _ _ => rfl) (fun _ hk => hk) (fun g hg => ⟨rfl, (hb.lt hg).2.1⟩) (update_other φ d pl e) fun b' hb' => update_other φ d pl fun e => ?_
      subst e
      rw [(namesHeap_get hc' fh).1] at hb'; cases hb'
  · intro b b' c1 c2 g h1 h2 h3 h4
    by_cases e : b = d
    · by_cases e' : b' = d
      · omega
      · rw [get_put_other _ _ _ _ e'] at h2
        simp only [e, if_true] at h3
        simp only [e', if_false] at h4
        exact absurd h3 (hpl b' c2 g h2 h4)
    · rw [get_put_other _ _ _ _ e] at h1
      simp only [e, if_false] at h3
      by_cases e' : b' = d
      · simp only [e', if_true] at h4
        exact absurd h4 (hpl b c1 g h1 h3)
      · rw [get_put_other _ _ _ _ e'] at h2
        simp only [e', if_false] at h4
        exact h.inj b b' c1 c2 g h1 h2 h3 h4

theorem killEnv_get {b : Nat} : ∀ {l : List (Nat × AV)} {s : Nat} {x : AV}, get (killEnv b l) s = some x → ∃ y, get l s = some y ∧ ((y = x ∧ x.names b = false) ∨ x = .when false .any)
  | [], _, _, h => by simp [killEnv, get] at h
  | (k, v) :: l, s, x, h => by
    simp only [killEnv, get] at h ⊢
    split at h
    · refine ⟨v, rfl, ?_⟩
      cases h
      split
      · exact .inr rfl
      · rename_i hn; exact .inl ⟨rfl, hn⟩
    · exact killEnv_get h

mutual
theorem kill_leafAt {b : Nat} : ∀ (sh : Shape) (x : AV) (j : Nat), (leafAt sh (x.kill b) j = leafAt sh x j ∧ (leafAt sh x j).names b = false) ∨ leafAt sh (x.kill b) j = .any
  | .leaf, x, j => by
    simp only [leafAt]
    cases x with
    | own c n => simp only [AV.kill]; cases h : Nat.beq c b <;> simp [h, asLeaf, AV.isOne, AV.names]
    | ptr c n => simp only [AV.kill]; cases h : Nat.beq c b <;> simp [h, asLeaf, AV.isOne, AV.names]
    | optr c i n => simp only [AV.kill]; cases h : Nat.beq c b <;> simp [h, asLeaf, AV.isOne, AV.names]
    | clo f l => simp only [AV.kill]; cases h : AV.namesL b l <;> simp [h, asLeaf, AV.isOne, AV.names]
    | _ => simp [AV.kill, asLeaf, AV.isOne, AV.names]
  | .agg ss, x, j => by
    cases x with
    | agg xs => simp only [AV.kill, leafAt]; exact kill_leafsAt ss xs j
    | own c n => right; simp only [AV.kill]; cases h : Nat.beq c b <;> simp [leafAt]
    | ptr c n => right; simp only [AV.kill]; cases h : Nat.beq c b <;> simp [leafAt]
    | optr c i n => right; simp only [AV.kill]; cases h : Nat.beq c b <;> simp [leafAt]
    | clo f l => right; simp only [AV.kill]; cases h : AV.namesL b l <;> simp [leafAt]
    | _ => right; simp [AV.kill, leafAt]
  | .arr n s, x, j => by
    cases x with
    | arr m f => left; simp [AV.kill, leafAt, AV.names]
    | own c n => right; simp only [AV.kill]; cases h : Nat.beq c b <;> simp [leafAt]
    | ptr c n => right; simp only [AV.kill]; cases h : Nat.beq c b <;> simp [leafAt]
    | optr c i n => right; simp only [AV.kill]; cases h : Nat.beq c b <;> simp [leafAt]
    | clo f l => right; simp only [AV.kill]; cases h : AV.namesL b l <;> simp [leafAt]
    | _ => right; simp [AV.kill, leafAt]
theorem kill_leafsAt {b : Nat} : ∀ (ss : List Shape) (xs : List AV) (j : Nat), (leafsAt ss (AV.killL b xs) j = leafsAt ss xs j ∧ (leafsAt ss xs j).names b = false) ∨ leafsAt ss (AV.killL b xs) j = .any
  | s :: ss, x :: xs, j => by
    simp only [AV.killL, leafsAt]
    split
    · exact kill_leafAt s x j
    · exact kill_leafsAt ss xs _
  | [], _, _ => by right; cases ‹List AV› <;> simp [AV.killL, leafsAt]
  | _ :: _, [], _ => by right; simp [AV.killL, leafsAt]
end

theorem killHeap_get {b : Nat} : ∀ {l : List (Nat × BoxC)} {s : Nat} {c : BoxC}, get (killHeap b l) s = some c → ∃ d, get l s = some d ∧ c = d.kill b
  | [], _, _, h => by simp [killHeap, get] at h
  | (k, v) :: l, s, c, h => by
    simp only [killHeap, get] at h ⊢
    split at h
    · cases h; exact ⟨v, rfl, rfl⟩
    · exact killHeap_get h

theorem kill_isRow {b : Nat} {c : BoxC} : (c.kill b).isRow = c.isRow := by
  cases c with
  | cell tc sh x => simp only [BoxC.kill]; split <;> rfl
  | row => rfl

/-- A box is kept, but for what named b. -/
theorem BoxOK.keepKill {w w' : World} {F F' : Nat → Prop} {φ φ' : Nat → Place} {base : Nat → Prop} {b d : Nat} {c : BoxC} (h : BoxOK w F φ base b c) (hw : ∀ k, F k → w'.heap[k]? = w.heap[k]?) (hF : ∀ k, F k → F' k)
    (hg : ∀ g, (φ b).blk = some g → w'.heap[g]? = w.heap[g]? ∧ ¬ F' g) (hb : φ' b = φ b) (hφ : ∀ e, e ≠ d → φ' e = φ e) : BoxOK w' F' φ' base b (c.kill d) := by
  cases c with
  | cell tc sh x =>
    simp only [BoxC.kill]
    cases hn : x.names d with
    | false => exact h.keep hw hF hg hb fun e he => hφ e fun e' => by subst e'; simp only [BoxC.names] at he; rw [hn] at he; cases he
    | true =>
      obtain ⟨h0, g, cs, h1, h2, h3, h4, h5, h6⟩ := h
      refine ⟨by rw [hb]; exact h0, g, cs, by rw [hb]; exact h1, h2, (hg g h1).2, (hg g h1).1.trans h4, h5, fun j hj => ?_⟩
      rcases kill_leafAt (b := d) sh x j with ⟨k1, k2⟩ | k1
      · rw [k1]
        exact (h6 j hj).keep hw hF fun e he => hφ e fun e' => by subst e'; rw [k2] at he; cases he
      · rw [k1]
        exact .stat (.any _ (Rep.leaf1 sh x j (h6 j hj)))
  | row ty sh n f => exact h.keep hw hF hg hb fun e he => by simp [BoxC.names] at he

/-- A row has grown, wherever it lies now: the facts that named it are given up. -/
theorem Rel.growBox (h : Rel C W0 F0 st a w F φ) {b : Nat} {c c' : BoxC} {w' : World} {row : Option Nat} (hb : get st.heap b = some c) (hg : w.grownBy w' row)
    (hkd : c.isRow = true) (hrow : ∀ g, row = some g → (φ b).blk = some g) (pl : Place) (hpl : ∀ g, pl.blk = some g → (φ b).blk = some g ∨ w.heap.size ≤ g) (hB : BoxOK w' F (fun k => if k = b then pl else φ k) W0.B b c') :
    Rel C W0 F0 { env := killEnv b st.env, heap := put (killHeap b st.heap) b c' } a w' F (fun k => if k = b then pl else φ k) := by
  have hfar : ∀ k, k < w.heap.size → (∀ g, (φ b).blk = some g → k ≠ g) → w'.heap[k]? = w.heap[k]? := fun k hk hne => hg.block k hk fun e => hne k (hrow k e.symm) rfl
  have hk : ∀ k, F k → w'.heap[k]? = w.heap[k]? := fun k hk => hfar k (h.ro k hk) fun g hgb e => ((h.heap b c hb).lt hgb).2.1 (e ▸ hk)
  have hother : ∀ b' c1 g, b' ≠ b → get st.heap b' = some c1 → (φ b').blk = some g → w'.heap[g]? = w.heap[g]? := fun b' c1 g hne hb' hg' =>
    hfar g ((h.heap b' c1 hb').lt hg').1 fun g2 hg2 e => hne (h.inj b' b c1 c g hb' hb hg' (e ▸ hg2))
  refine ⟨fun s x hs => ?_, fun b' c1 hc1 => ?_, ?_, fun k hk => Nat.lt_of_lt_of_le (h.ro k hk) hg.size, ?_, h.sub, h.new, h.dfr, h.tsz, fun g x hgx => (h.glob g x hgx).keep hk fun _ hk => hk, fun b' p hp => ?_⟩
  · obtain ⟨y, hy, hyx⟩ := killEnv_get hs
    obtain ⟨v, hv, hr⟩ := h.env s y hy
    rcases hyx with ⟨rfl, hn⟩ | rfl
    · refine ⟨v, hv, hr.keep hk (fun _ hk => hk) fun d hd => update_other φ b pl fun e => ?_⟩
      subst e; rw [hn] at hd; cases hd
    · exact ⟨v, hv, .whenT false (fun h => by cases h) fun _ => .inr rfl⟩
  · by_cases e : b' = b
    · subst e
      rw [get_put_same] at hc1
      cases hc1
      exact hB
    · rw [get_put_other _ _ _ _ e] at hc1
      obtain ⟨c0, hc0, rfl⟩ := killHeap_get hc1
      have hb' := h.heap b' c0 hc0
      exact hb'.keepKill hk (fun _ hk => hk) (fun g hg' => ⟨hother b' c0 g e hc0 hg', (hb'.lt hg').2.1⟩) (update_other φ b pl e) fun d hd => update_other φ b pl hd
  · intro b1 b2 c1' c2' g h1' h2' h3 h4
    have new : ∀ b' c1 g, b' ≠ b → get st.heap b' = some c1 → (φ b').blk = some g → pl.blk ≠ some g := by
      intro b' c1 g hne hb' hg' hp
      rcases hpl g hp with h5 | h5
      · exact hne (h.inj b' b c1 c g hb' hb hg' h5)
      · have := ((h.heap b' c1 hb').lt hg').1; omega
    by_cases e : b1 = b
    · by_cases e' : b2 = b
      · omega
      · rw [get_put_other _ _ _ _ e'] at h2'
        obtain ⟨c2, h2, _⟩ := killHeap_get h2'
        simp only [e, if_true] at h3
        simp only [e', if_false] at h4
        exact absurd h3 (new b2 c2 g e' h2 h4)
    · rw [get_put_other _ _ _ _ e] at h1'
      obtain ⟨c1, h1, _⟩ := killHeap_get h1'
      simp only [e, if_false] at h3
      by_cases e' : b2 = b
      · simp only [e', if_true] at h4
        exact absurd h4 (new b1 c1 g e h1 h3)
      · rw [get_put_other _ _ _ _ e'] at h2'
        obtain ⟨c2, h2, _⟩ := killHeap_get h2'
        simp only [e', if_false] at h4
        exact h.inj b1 b2 c1 c2 g h1 h2 h3 h4
  · refine h.base.trans (L' := fun k => row = some k) ⟨hg.os, hg.tape, hg.output, hg.size, fun k hk hn => hg.block k hk fun e => hn e.symm⟩ fun i hi hlt => ?_
    exact (((h.heap b c hb).lt (hrow i hi)).2.2).resolve_left (by omega)
  · obtain ⟨a1, a2, a3⟩ := h.anc b' p hp
    have hne : b' ≠ b := fun e => by subst e; rw [a3 c hb] at hkd; cases hkd
    refine ⟨a1, by simp only [hne, if_false]; exact a2, fun c1 hc1 => ?_⟩
    rw [get_put_other _ _ _ _ hne] at hc1
    obtain ⟨c0, hc0, rfl⟩ := killHeap_get hc1
    rw [kill_isRow]; exact a3 c0 hc0

/-- An owned row, as a box. -/
theorem boxOK_of_own {φ : Nat → Place} {B : Nat → Prop} {base b n : Nat} {el : TypeId} {sh : Shape} {f : Nat → AV} {v : Value} {xs : List Value} (hown : w.ownsRow base el sh.size v n xs)
    (hbn : ∀ k, v.ownBlock = some k → B k) (hF : ∀ k, v.ownBlock = some k → ¬ F k) (hx : ∀ i, i < n → ∀ j, j < sh.size → ∃ u, xs[i * sh.size + j]? = some u ∧ RepS w F u (leafAt sh (f i) j)) :
    ∃ pl : Place, pl.blk = v.ownBlock ∧ pl.sh = sh ∧ pl.ty = el ∧ ∀ φ : Nat → Place, φ b = pl → BoxOK w F φ B b (.row el sh n f) ∧ Rep w F φ v (.own b n) := by
  rcases hown.2 with ⟨rfl, rfl⟩ | ⟨g, cap, cur, rfl, hbg, hg, hnc, hcm, hcs, htake⟩
  · exact ⟨⟨none, 0, sh, el⟩, rfl, rfl, rfl, fun φ hφ => ⟨⟨by rw [hφ], by rw [hφ], .inl ⟨by rw [hφ], rfl⟩⟩, .own0 b (by rw [hφ])⟩⟩
  · refine ⟨⟨some g, cap, sh, el⟩, rfl, rfl, rfl, fun φ hφ => ⟨⟨by rw [hφ], by rw [hφ], .inr ⟨g, cur, by rw [hφ], hbn g rfl, hF g rfl, hg, by rw [hφ]; exact hcs, by rw [hφ]; exact hnc, by rw [hφ]; exact hcm, fun i hi j hj => ?_⟩⟩, ?_⟩⟩
    · obtain ⟨u, hu, hr⟩ := hx i hi j hj
      rw [← htake] at hu
      have hmul : (i + 1) * sh.size ≤ n * sh.size := Nat.mul_le_mul_right _ hi
      rw [Nat.add_mul] at hmul
      rw [List.getElem?_take_of_lt (by omega), Array.getElem?_toList] at hu
      rw [Array.getD_eq_getD_getElem?, hu]
      exact hr
    · have := Rep.own (w := w) (F := F) (φ := φ) b g n (by rw [hφ]) (by rw [hφ]; exact hnc)
      rw [hφ] at this
      exact this

/-- A box as an owned row. -/
theorem own_of_box {B : Nat → Prop} {b n m : Nat} {el : TypeId} {sh : Shape} {f : Nat → AV} {v : Value} (hB : BoxOK w F φ B b (.row el sh n f)) (hv : Rep w F φ v (.own b m)) (hm : m = n) :
    ∃ xs, w.ownsRow 0 el sh.size v n xs ∧ (∀ k, v.ownBlock = some k → (φ b).blk = some k) ∧ ∀ i, i < n → ∀ j, j < sh.size → ∃ u, xs[i * sh.size + j]? = some u ∧ RepS w F u (leafAt sh (f i) j) := by
  subst hm
  obtain ⟨hsh, hty, hrow⟩ := hB
  rcases hv.own_inv with ⟨g, hg, rfl, hc⟩ | ⟨hg, h0, rfl⟩
  · rcases hrow with ⟨h1, _⟩ | ⟨g', cs, hg', hbase, _, hh, hsz, hnc, hmax, hrep⟩
    · rw [hg] at h1; cases h1
    · obtain rfl : g' = g := by rw [hg] at hg'; injection hg' with e; exact e.symm
      have hmul : m * sh.size ≤ (φ b).cap * sh.size := Nat.mul_le_mul_right _ hnc
      refine ⟨cs.toList.take (m * sh.size), ⟨by simp; omega, .inr ⟨g', _, cs, rfl, Nat.zero_le _, hh, hnc, hmax, hsz, rfl⟩⟩, fun k hk => by simp [Value.ownBlock] at hk; subst hk; exact hg, fun i hi j hj => ⟨_, ?_, hrep i hi j hj⟩⟩
      have hmul2 : (i + 1) * sh.size ≤ m * sh.size := Nat.mul_le_mul_right _ hi
      rw [Nat.add_mul] at hmul2
      rw [List.getElem?_take_of_lt (by omega), Array.getElem?_toList, Array.getD_eq_getD_getElem?, Array.getElem?_eq_getElem (by omega), Option.getD_some]
  · subst h0
    exact ⟨[], World.ownsRow_nil _ _ _ _, fun k hk => by simp [Value.ownBlock] at hk, fun i hi => absurd hi (by omega)⟩

theorem run_append_none {P : Program} (base : Nat) (t ty e : TypeId) (i : TypeInfo) (size : Nat) (ht : P.underlying t = some (.slice e)) (hi : P.info? e = some i)
    (v : Value) (n : Nat) (xs : List Value) (hown : w.ownsRow base e size v n xs) (c : Nat) : (Builtin.append_ #[t, t] ty #[v, .slice none 0 c]).run P w = .ok v w := by
  rcases hown.2 with ⟨rfl, rfl⟩ | ⟨g, cap, cur, rfl, _, _, hnc, _⟩
  · simp [Builtin.append_, run_underlying ht, sizeOf, typeInfo, hi, Builtin.lenOf, Builtin.firstCells]
  · simp [Builtin.append_, run_underlying ht, sizeOf, typeInfo, hi, Builtin.lenOf, Builtin.firstCells, hnc, storeCells]

/-- append onto a row of the call's own, from whatever source. -/
theorem append_any {el t ty : TypeId} {tl : TyE} (hT : TysOK C) (htl : tyOf C el = some tl) (hu : C.P.underlying t = some (.slice el)) {base n m : Nat} {v u : Value} {xs : List Value} {g : Nat → AV} {sh : Shape} (hsh : sh = tl.sh) (hown : w.ownsRow base el sh.size v n xs)
    (hs : SrcIs w F u sh m g) (h63 : n + m ≤ 9223372036854775807) (hbytes : ((n + m : Nat) : Int) * tl.bytes ≤ 140737488355328) (hbase : base ≤ w.heap.size) :
    ∃ v' w' news, (Builtin.append_ #[t, t] ty #[v, u]).run C.P w = .ok v' w' ∧ w'.ownsRow base el sh.size v' (n + m) (xs ++ news) ∧ w.grownBy w' v.ownBlock ∧ (v'.ownBlock = v.ownBlock ∨ v'.ownBlock = some w.heap.size) ∧
      (∀ i, i < m → ∀ j, j < sh.size → ∃ u, news[i * sh.size + j]? = some u ∧ RepS w F u (leafAt sh (g i) j)) := by
  subst hsh
  have Tl := hT _ _ htl
  obtain ⟨dd, ie, z, hue, hie, hse, hbe, hz, hzs, _, hzr⟩ := Tl.info
  obtain ⟨A, c, news, rfl, hl, hA, hn, h1⟩ := src_news hs Tl.pos
  have hb2 : (n + m) * tl.bytes ≤ 140737488355328 := by
    have : (((n + m) * tl.bytes : Nat) : Int) ≤ 140737488355328 := by rw [Int.natCast_mul]; exact hbytes
    omega
  rcases Nat.eq_zero_or_pos m with h0 | h0
  · subst h0
    have hn0 : news = [] := List.eq_nil_of_length_eq_zero (by simpa using hl)
    subst hn0
    cases A with
    | none => exact ⟨v, w, [], run_append_none base t ty el ie _ hu hie v n xs hown c, by simpa using hown, World.grownBy.refl w _, .inl rfl, hn⟩
    | some ad =>
      obtain ⟨v', w', hr, h2, h3, _, h5⟩ := run_append_own_at (P := C.P) w base t ty el ie z _ _ hu hie hz hse hbe hzs Tl.pos v n xs hown ad 0 c [] (by simp) (fun j u hj => by simp at hj) (by simp) (by unfold maxLen; omega) hb2 hbase
      exact ⟨v', w', [], hr, h2, h3, h5, hn⟩
  · obtain ⟨ad, rfl, hc⟩ := hA h0
    obtain ⟨v', w', hr, h2, h3, _, h5⟩ := run_append_own_at (P := C.P) w base t ty el ie z _ _ hu hie hz hse hbe hzs Tl.pos v n xs hown ad m c news hl hc h1 (by unfold maxLen; omega) hb2 hbase
    exact ⟨v', w', news, hr, h2, h3, h5, hn⟩

theorem append_elems {n m : Nat} {sh : Shape} {f g : Nat → AV} {xs news : List Value} (hl : xs.length = n * sh.size) (hx : ∀ i, i < n → ∀ j, j < sh.size → ∃ u, xs[i * sh.size + j]? = some u ∧ RepS w F u (leafAt sh (f i) j))
    (hn : ∀ i, i < m → ∀ j, j < sh.size → ∃ u, news[i * sh.size + j]? = some u ∧ RepS w F u (leafAt sh (g i) j)) :
    ∀ i, i < n + m → ∀ j, j < sh.size → ∃ u, (xs ++ news)[i * sh.size + j]? = some u ∧ RepS w F u (leafAt sh (if i < n then f i else g (i - n)) j) := by
  intro i hi j hj
  by_cases h : i < n
  · have hmul : (i + 1) * sh.size ≤ n * sh.size := Nat.mul_le_mul_right _ h
    rw [Nat.add_mul] at hmul
    rw [List.getElem?_append_left (by omega), if_pos h]
    exact hx i h j hj
  · have e : i * sh.size = n * sh.size + (i - n) * sh.size := by rw [← Nat.add_mul]; congr 1; omega
    rw [List.getElem?_append_right (by omega), if_neg h, hl, show i * sh.size + j - n * sh.size = (i - n) * sh.size + j from by omega]
    exact hn (i - n) (by omega) j hj

theorem wp_append {c : Call} (h : Rel C W0 F0 st a w F φ) (hT : TysOK C) (ho : o.op = .call c) (hc : c.callee = .builtin .append) (hr : absOp C st e o.dst orc CC (.call c) = some r)
    (hx : ∀ x ∈ c.args.toList, ∀ u, e x = some u → Rep w F φ (a.eval x) u) (hob : ∀ p ∈ r.obs, p) (hst : applyEff st o.dst r.eff = some st') (hn : Next C W0 F0 st' a o r.val next) : o.wp C.P a w next Q := by
  simp only [absOp, hc] at hr
  split at hr
  case h_2 => cases hr
  rename_i x y t t' d hargs htys hd
  split at hr
  case h_2 => cases hr
  rename_i te v u h1 htt h2 h3
  have := Nat.eq_of_beq_eq_true htt
  subst this
  split at hr
  case h_2 => cases hr
  rename_i el hkind
  split at hr
  case h_2 => cases hr
  rename_i tl htl
  split at hr
  case h_2 => cases hr
  rename_i su m g ps hsrc
  have ea : c.args = #[x, y] := by rw [← Array.toArray_toList (xs := c.args), hargs]
  have et : c.argTypes = #[t, t] := by rw [← Array.toArray_toList (xs := c.argTypes), htys]
  have T := hT _ _ h1
  have Tl := hT _ _ htl
  have hu := kind_slice T hkind
  have hV := hx x (by rw [hargs]; simp) v h2
  have hU := hx y (by rw [hargs]; simp) u h3
  have fin : ∀ {v' : Value} {w' : World}, (Builtin.append_ #[t, t] o.type #[a.eval x, a.eval y]).run C.P w = .ok v' w' → next (a.put o.dst v') w' → o.wp C.P a w next Q := by
    intro v' w' hrun hnx
    unfold Oper.wp
    have : (execOp a.eval o).run C.P w = .ok (.value v') w' := by
      refine call_builtin ho hc ?_
      rw [ea, et]
      simp only [builtin, Sem.run_bind]
      have : (#[x, y].map a.eval) = #[a.eval x, a.eval y] := by simp
      rw [this, hrun]
      rfl
    rw [this]
    exact hnx
  have grow2 : ∀ {w' : World}, w.grownBy w' none → Below w.heap.size w w' := fun hg => (Below.refl _ _).grown hg (Nat.le_refl _) (by simp)
  have hs : (∀ p ∈ ps, p) → SrcIs w F (a.eval y) su m g := by
    intro hps
    cases u <;> simp only [Option.some.injEq, Prod.mk.injEq, reduceCtorEq] at hsrc
    · obtain ⟨rfl, rfl, rfl, rfl⟩ := hsrc; exact src_nils hU
    · obtain ⟨rfl, rfl, rfl, rfl⟩ := hsrc; exact src_seq (.inl hU)
    · obtain ⟨rfl, rfl, rfl, rfl⟩ := hsrc; exact src_seq (.inr hU)
    · split at hsrc
      · rename_i hb
        simp only [Option.some.injEq, Prod.mk.injEq] at hsrc
        obtain ⟨rfl, rfl, rfl, rfl⟩ := hsrc
        exact src_own h hU hb (hps _ (by simp))
      · cases hsrc
  have VX : ∃ vx, vx = a.eval x := ⟨_, rfl⟩
  obtain ⟨vx, hvx⟩ := VX
  rw [← hvx] at hV
  have finNew : ∀ {v' : Value} {w' : World} {n : Nat} {f : Nat → AV} {xs : List Value}, (Builtin.append_ #[t, t] o.type #[a.eval x, a.eval y]).run C.P w = .ok v' w' → w'.ownsRow 0 el su.size v' n xs → w.grownBy w' none →
      (v'.ownBlock = none ∨ v'.ownBlock = some w.heap.size) → (∀ i, i < n → ∀ j, j < su.size → ∃ u, xs[i * su.size + j]? = some u ∧ RepS w F u (leafAt su (f i) j)) → applyEff st o.dst (.new (.row el su n f)) = some st' → r.val = .own d n → o.wp C.P a w next Q := by
    intro v' w' n f xs hrun h4 h5 h6 h7 hst hval
    refine fin hrun ?_
    have hb := grow2 h5
    have hR := h.grown hb (fun _ hk => hk) (fun k hk => .inl hk) fun k hk => Nat.lt_of_lt_of_le (h.ro k hk) hb.size
    have hkeep : ∀ k, F k → w'.heap[k]? = w.heap[k]? := fun k hk => hb.block k (h.ro k hk)
    obtain ⟨pl, p1, p2, p3, p4⟩ := boxOK_of_own (F := F) (B := W0.B) (base := 0) (b := d) (f := f) (φ := φ) h4 (fun k hk => by
      rcases h6 with h6 | h6
      · rw [h6] at hk; cases hk
      · rw [h6] at hk; cases hk; exact h.bnew (Nat.le_refl _)) (fun k hk hF => by
      rcases h6 with h6 | h6
      · rw [h6] at hk; cases hk
      · rw [h6] at hk; cases hk; have := h.ro _ hF; omega) (fun i hi j hj => by
        obtain ⟨uu, hu1, hu2⟩ := h7 i hi j hj
        exact ⟨uu, hu1, hu2.keep hkeep fun _ hk => hk⟩)
    rw [hd] at hst
    simp only [applyEff] at hst
    split at hst
    case h_2 => cases hst
    rename_i hfr
    cases hst
    simp only [Bool.and_eq_true, Bool.not_eq_true'] at hfr
    obtain ⟨B1, B2⟩ := p4 (fun k => if k = d then pl else φ k) (by simp)
    refine hn v' w' F _ (hR.addBox hfr.1 hfr.2 pl (fun b c' gg hb' hg' hp => ?_) B1) fun _ => by rw [hval]; exact B2
    rw [p1] at hp
    rcases h6 with h6 | h6
    · rw [h6] at hp; cases hp
    · rw [h6] at hp; cases hp; have := ((h.heap b c' hb').lt hg').1; omega
  split at hr
  · -- nil
    rename_i hcond
    simp only [Bool.and_eq_true] at hcond
    have es := Shape.same_eq _ _ hcond.1
    cases hr
    obtain ⟨o1, o2⟩ : (m : Int) * tl.bytes ≤ 140737488355328 ∧ m ≤ 9223372036854775807 := hob _ (by simp)
    have hVn : vx = .slice none 0 0 := by cases hV with | stat hV => cases hV; rfl
    obtain ⟨v', w', news, hrun, h4, h5, h6, h7⟩ := append_any (ty := o.type) hT htl hu es (World.ownsRow_nil w 0 el su.size) (hs fun p hp => hob p (by simp [hp])) (by omega) (by rw [Nat.zero_add]; exact o1) (Nat.zero_le _)
    rw [← hVn, hvx] at hrun
    rw [Nat.zero_add, List.nil_append] at h4
    exact finNew hrun h4 h5 h6 h7 hst rfl
  · -- full
    rename_i sh n f hcond
    simp only [Bool.and_eq_true] at hcond
    have es := Shape.same_eq _ _ hcond.1
    split at hr
    case h_2 => cases hr
    rename_i hsame
    have es2 := Shape.same_eq _ _ hsame
    subst es2
    cases hr
    obtain ⟨o0, o1, o2⟩ : 0 < m ∧ ((n + m : Nat) : Int) * tl.bytes ≤ 140737488355328 ∧ n + m ≤ 9223372036854775807 := hob _ (by simp)
    obtain ⟨dd, ie, z, hue, hie, hse, hbe, hz, hzs, _, hzr⟩ := Tl.info
    have hpos := Tl.pos
    obtain ⟨A2, c2, news, hUv, hl2, hA2, hn2, h12⟩ := src_news (hs fun p hp => hob p (by simp [hp])) (by rw [es]; exact hpos)
    obtain ⟨ad, rfl, hc2⟩ := hA2 o0
    obtain ⟨A1, c1, olds, hVv, hl1, hA1, hn1, h11⟩ := src_news (src_seq (.inr hV)) (by rw [es]; exact hpos)
    have hcap : c1 = n := by
      rw [hVv] at hV
      cases hV with
      | stat hV => cases hV <;> rfl
    subst hcap
    have hb2 : (c1 + m) * tl.bytes ≤ 140737488355328 := by
      have : (((c1 + m) * tl.bytes : Nat) : Int) ≤ 140737488355328 := by rw [Int.natCast_mul]; exact o1
      omega
    have hge := grownCap_ge w (c1 + m) c1 el
    have hcm : grownCap w (c1 + m) c1 el ≤ maxLen := grownCap_le_maxLen w (c1 + m) c1 el (by unfold maxLen; omega)
    have hsz1 : ie.size = sh.size := by rw [hse, es]
    have done : (Builtin.append_ #[t, t] o.type #[a.eval x, a.eval y]).run C.P w = .ok (.slice (some ⟨w.heap.size, 0, none⟩) (c1 + m) (grownCap w (c1 + m) c1 el)) (w.drew.alloc (.cells (olds.toArray ++ news.toArray ++ Builtin.zeroCells z.cells (grownCap w (c1 + m) c1 el - (c1 + m))) el)) := by
      have ex2 : a.eval x = .slice A1 c1 c1 := hvx.symm.trans hVv
      rw [hUv, ex2]
      cases A1 with
      | some b1 =>
        refine run_append_grow (P := C.P) w t o.type el ie z hu hie hz b1 c1 c1 olds (by rw [hl1, hsz1]) (fun j u hj => ?_) ad m c2 news (by rw [hl2, hsz1]) hc2 (by omega) (by omega) (growslice_fits (by omega) (by rw [hbe]; exact hb2))
        rcases Nat.eq_zero_or_pos c1 with h0 | h0
        · subst h0
          have : olds = [] := List.eq_nil_of_length_eq_zero (by simpa using hl1)
          subst this; simp at hj
        · obtain ⟨ad1, e1, hc1⟩ := hA1 h0
          cases e1
          exact hc1 j u hj
      | none =>
        have h0 : c1 = 0 := by
          rcases Nat.eq_zero_or_pos c1 with h0 | h0
          · exact h0
          · obtain ⟨ad1, e1, _⟩ := hA1 h0; cases e1
        subst h0
        have h0 : olds = [] := List.eq_nil_of_length_eq_zero (by simpa using hl1)
        subst h0
        have hb3 : m * ie.bytes ≤ 281474976710656 := by rw [hbe]; have h9 := hb2; rw [Nat.zero_add] at h9; exact Nat.le_trans h9 (by decide)
        have hm3 : (m : Int) ≤ 9223372036854775807 := by rw [Nat.zero_add] at o2; exact Int.ofNat_le.2 o2
        have := run_append_nil (P := C.P) w t o.type el ie z hu hie hz ad m c2 news (by rw [hl2, hsz1]) hc2 o0 hm3 hb3
        simpa using this
    have gr : w.grownBy (w.drew.alloc (.cells (olds.toArray ++ news.toArray ++ Builtin.zeroCells z.cells (grownCap w (c1 + m) c1 el - (c1 + m))) el)) none := ⟨rfl, rfl, rfl, by simp, fun k hk _ => Below.heap_alloc w.drew _ k hk⟩
    have els := append_elems hl1 hn1 hn2
    refine finNew done ?_ gr (.inr rfl) els hst rfl
    refine ⟨by rw [List.length_append, hl1, hl2, Nat.add_mul], .inr ⟨w.heap.size, _, _, rfl, Nat.zero_le _, heap_alloc_new w.drew _, hge, hcm, ?_, ?_⟩⟩
    · simp only [Array.size_append, List.size_toArray, size_zeroCells, hzs, hl1, hl2, ← es, ← Nat.add_mul]
      congr 1
      omega
    · simp only [Array.toList_append, List.append_assoc]
      have : (c1 + m) * sh.size = (olds ++ news).length := by rw [List.length_append, hl1, hl2, Nat.add_mul]
      rw [← List.append_assoc, this]
      exact List.take_left
  · -- the call's own
    rename_i b n hcond
    simp only [Bool.and_eq_true] at hcond
    have es := Shape.same_eq _ _ hcond.1
    split at hr
    case h_2 => cases hr
    rename_i ty sh n' f hb
    split at hr
    case h_2 => cases hr
    rename_i hcnd
    simp only [Bool.and_eq_true, Bool.not_eq_true'] at hcnd
    obtain ⟨⟨k1, k2⟩, k4⟩ := hcnd
    have e1 := Nat.eq_of_beq_eq_true k1
    have es2 := Shape.same_eq _ _ k2
    subst e1 es2
    cases hr
    obtain ⟨o0, o1, o2⟩ : n = n' ∧ ((n + m : Nat) : Int) * tl.bytes ≤ 140737488355328 ∧ n + m ≤ 9223372036854775807 := hob _ (by simp)
    subst o0
    obtain ⟨xs, hown, hob1, hxs⟩ := own_of_box (h.heap b _ hb) hV rfl
    obtain ⟨v', w', news, hrun, h4, h5, h6, h7⟩ := append_any (ty := o.type) hT htl hu es hown (hs fun p hp => hob p (by simp [hp])) o2 o1 (Nat.zero_le _)
    rw [hvx] at hrun
    refine fin hrun ?_
    simp only [applyEff, Option.some.injEq] at hst
    subst hst
    have hFn : ∀ k, v'.ownBlock = some k → ¬ F k := by
      intro k hk hF
      rcases h6 with h6 | h6
      · rw [h6] at hk; exact ((h.heap b _ hb).lt (hob1 k hk)).2.1 hF
      · rw [h6] at hk; cases hk; have := h.ro _ hF; omega
    have hkeep : ∀ k, F k → w'.heap[k]? = w.heap[k]? := fun k hk => h5.block k (h.ro k hk) fun e => ((h.heap b _ hb).lt (hob1 k e.symm)).2.1 hk
    obtain ⟨pl, p1, p2, p3, p4⟩ := boxOK_of_own (F := F) (B := W0.B) (base := 0) (b := b) (f := fun i => if i < n then f i else g (i - n)) (φ := φ) h4 (fun k hk => by
      rcases h6 with h6 | h6
      · rw [h6] at hk; exact ((h.heap b _ hb).lt (hob1 k hk)).2.2
      · rw [h6] at hk; cases hk; exact h.bnew (Nat.le_refl _)) hFn (fun i hi j hj => by
      obtain ⟨uu, hu1, hu2⟩ := append_elems hown.1 hxs h7 i hi j hj
      exact ⟨uu, hu1, hu2.keep hkeep fun _ hk => hk⟩)
    obtain ⟨B1, B2⟩ := p4 (fun k => if k = b then pl else φ k) (by simp)
    refine hn v' w' F _ (h.growBox hb h5 rfl (fun gg hg => hob1 gg hg) pl (fun gg hg => ?_) B1) fun _ => B2
    rw [p1] at hg
    rcases h6 with h6 | h6
    · rw [h6] at hg; exact .inl (hob1 gg hg)
    · rw [h6] at hg; cases hg; exact .inr (Nat.le_refl _)
  · cases hr
end
end Go.AV
/- Copies; every operation; steps; a region in the order of its text. -/
namespace Go.AV
open Go.RowKit

section
variable {C : Cfg} {W0 : Entry} {F0 : Nat → Prop} {st st' : St} {a : Act} {w : World} {F : Nat → Prop} {φ : Nat → Place} {e : Operand → Option AV} {dst : Option Nat} {orc : FuncId → List AV → Option AV} {CC : FuncId → List AV → AV → Prop} {r : Res} {o : Oper}
  {next : Act → World → Prop} {Q : Exit → Act → World → Prop}

theorem wp_copy {c : Call} (h : Rel C W0 F0 st a w F φ) (hT : TysOK C) (ho : o.op = .call c) (hc : c.callee = .builtin .copy) (hr : absOp C st e o.dst orc CC (.call c) = some r)
    (hx : ∀ x ∈ c.args.toList, ∀ u, e x = some u → Rep w F φ (a.eval x) u) (hob : ∀ p ∈ r.obs, p) (hst : applyEff st o.dst r.eff = some st') (hn : Next C W0 F0 st' a o r.val next) : o.wp C.P a w next Q := by
  simp only [absOp, hc] at hr
  split at hr
  case h_2 => cases hr
  rename_i x y t t' hargs htys
  split at hr
  case h_2 => cases hr
  rename_i te te' b n u h1 h1' h2 h3
  split at hr
  case h_2 => cases hr
  rename_i el el' hkind hkind'
  split at hr
  case h_2 => cases hr
  rename_i tl ty sh n' f htl heq hb
  split at hr
  case h_2 => cases hr
  rename_i su m g hsrc
  split at hr
  case h_2 => cases hr
  rename_i hcond
  simp only [Bool.and_eq_true] at hcond
  have es := Shape.same_eq _ _ hcond.1
  have es2 := Shape.same_eq _ _ hcond.2
  cases hr
  have ea : c.args = #[x, y] := by rw [← Array.toArray_toList (xs := c.args), hargs]
  have et : c.argTypes = #[t, t'] := by rw [← Array.toArray_toList (xs := c.argTypes), htys]
  have T := hT _ _ h1
  have Tl := hT _ _ htl
  have hu := kind_slice T hkind
  have hV := hx x (by rw [hargs]; simp) _ h2
  have hU := hx y (by rw [hargs]; simp) u h3
  obtain ⟨o1, o2⟩ : n ≤ n' ∧ (n : Int) ≤ 9223372036854775807 := hob _ (by simp)
  simp only [applyEff, Option.some.injEq] at hst
  have hs : SrcIs w F (a.eval y) su m g := by
    cases u <;> simp only [Option.some.injEq, Prod.mk.injEq, reduceCtorEq] at hsrc
    · obtain ⟨rfl, rfl, rfl⟩ := hsrc; exact src_nils hU
    · obtain ⟨rfl, rfl, rfl⟩ := hsrc; exact src_seq (.inl hU)
    · obtain ⟨rfl, rfl, rfl⟩ := hsrc; exact src_seq (.inr hU)
  have hpos := Tl.pos
  obtain ⟨A, cp, news, hUv, hl, hA, hnw, hone⟩ := src_news hs (by rw [es]; exact hpos)
  have hin : InR .i64 ((min m n : Nat) : Int) := inR_nat (by omega)
  have fin : ∀ {w' : World}, (Builtin.copy_ #[t, t'] o.type #[a.eval x, a.eval y]).run C.P w = .ok (.int .i64 ((min m n : Nat) : Int)) w' → Rel C W0 F0 st' a w' F φ → o.wp C.P a w next Q := by
    intro w' hrun hR
    unfold Oper.wp
    have : (execOp a.eval o).run C.P w = .ok (.value (.int .i64 ((min m n : Nat) : Int))) w' := by
      refine call_builtin ho hc ?_
      rw [ea, et]
      simp only [builtin, Sem.run_bind]
      have : (#[x, y].map a.eval) = #[a.eval x, a.eval y] := by simp
      rw [this, hrun]
      rfl
    rw [this]
    exact hn _ w' F φ hR fun _ => .stat (.int _ _ hin)
  have hsz2 : (sizeOf el).run C.P w = .ok tl.sh.size w := Tl.size
  obtain ⟨hsh, hty, hrow⟩ := h.heap b _ hb
  -- the cells that are read
  have hfc : (Builtin.firstCells tl.sh.size (min m n) (a.eval y)).run C.P w = .ok ((news.take (min m n * tl.sh.size)).toArray) w := by
    rw [hUv]
    cases A with
    | none =>
      have h0 : m = 0 := by
        rcases Nat.eq_zero_or_pos m with h0 | h0
        · exact h0
        · obtain ⟨ad, e, _⟩ := hA h0; cases e
      subst h0
      have : news = [] := List.eq_nil_of_length_eq_zero (by simpa using hl)
      subst this
      simp [Builtin.firstCells]
    | some ad =>
      have hlen : (news.take (min m n * tl.sh.size)).length = min m n * tl.sh.size := by
        have : min m n * tl.sh.size ≤ m * tl.sh.size := Nat.mul_le_mul_right _ (Nat.min_le_left _ _)
        rw [List.length_take, hl, es]; omega
      simp only [Builtin.firstCells]
      have hrl := run_loadCells_list (P := C.P) w ad (news.take (min m n * tl.sh.size)) fun j v hj => by
        rcases Nat.eq_zero_or_pos m with h0 | h0
        · subst h0
          have : news = [] := List.eq_nil_of_length_eq_zero (by simpa using hl)
          subst this; simp at hj
        · obtain ⟨ad', e, hcs⟩ := hA h0
          cases e
          rw [List.getElem?_take] at hj
          split at hj
          · exact hcs j v hj
          · cases hj
      rw [hlen] at hrl
      exact hrl
  have key : ∀ {base : Option Addr} {cap : Nat}, a.eval x = .slice base n cap → (Builtin.copy_ #[t, t'] o.type #[a.eval x, a.eval y]).run C.P w =
      ((match base with | some ad => storeCells ad (news.take (min m n * tl.sh.size)) | none => pure ()).run C.P w).andThen fun _ w' => .ok (.int .i64 ((min m n : Nat) : Int)) w' := by
    intro base cap hv
    have hU2 := hUv
    rw [hv]
    simp only [Builtin.copy_, List.getElem?_toArray, List.getElem?_cons_zero, List.getElem?_cons_succ, Sem.run_bind, run_underlying hu, Result.andThen_ok, hsz2]
    have hlo : (Builtin.lenOf (a.eval y)).run C.P w = .ok m w := by rw [hUv]; rfl
    rw [hlo]
    simp only [Result.andThen_ok]
    have : Nat.min m n = min m n := rfl
    rw [this, hsz2]
    simp only [Result.andThen_ok]
    rw [hfc]
    simp only [Result.andThen_ok]
    cases base <;> simp [goInt]
  rcases hV.own_inv with ⟨gb, hg, hv, hnc⟩ | ⟨hg, h0, hv⟩
  · rcases hrow with ⟨h4, _⟩ | ⟨g', cs, hg', hbase, hnF, hh, hsz, hncap, hmax, hrep⟩
    · rw [hg] at h4; cases h4
    obtain rfl : g' = gb := by rw [hg] at hg'; injection hg' with e; exact e.symm
    have hlen : (news.take (min m n * tl.sh.size)).length = min m n * tl.sh.size := by
      have : min m n * tl.sh.size ≤ m * tl.sh.size := Nat.mul_le_mul_right _ (Nat.min_le_left _ _)
      rw [List.length_take, hl, es]; omega
    have hle : min m n * tl.sh.size ≤ cs.size := by
      rw [hsz, es2]; exact Nat.mul_le_mul_right _ (Nat.le_trans (Nat.min_le_right _ _) hnc)
    have hsc := run_storeCells_at (P := C.P) g' 0 ty (news.take (min m n * tl.sh.size)) 0 cs w hh (by rw [hlen]; omega) (fun v hv => hone v (List.mem_of_mem_take hv))
    rw [Nat.add_zero, hlen] at hsc
    refine fin (w' := w.setRow g' (cs.toList.take 0 ++ news.take (min m n * tl.sh.size) ++ cs.toList.drop (0 + min m n * tl.sh.size)).toArray) ?_ ?_
    · rw [key hv, hsc]
      rfl
    · subst hst
      have hna : ((news.take (min m n * tl.sh.size)).toArray).size = min m n * tl.sh.size := by simpa using hlen
      have hsp : (cs.toList.take 0 ++ news.take (min m n * tl.sh.size) ++ cs.toList.drop (0 + min m n * tl.sh.size)) = (cs.toList.take 0 ++ (news.take (min m n * tl.sh.size)).toArray.toList ++ cs.toList.drop (0 + min m n * tl.sh.size)) := by simp
      rw [hsp]
      refine h.setBox hb hg rfl rfl rfl (by simp) (fun k hk => setRow_keep hk) rfl ⟨hsh, hty, .inr ⟨g', _, hg, hbase, hnF, setRow_heap w g' cs _ _ _ hh, by rw [splice_size hna (by omega)]; exact hsz, hncap, hmax, fun i hi j hj => ?_⟩⟩
      rw [splice_get hna (by omega)]
      refine RepS.keep (w := w) (F := F) ?_ (fun k hk => setRow_keep fun e => hnF (e ▸ hk)) (fun _ hk => hk)
      by_cases hik : i < min m n
      · have hmul : (i + 1) * tl.sh.size ≤ min m n * tl.sh.size := Nat.mul_le_mul_right _ hik
        rw [Nat.add_mul] at hmul
        rw [es2] at hj ⊢
        rw [if_pos (by omega), show (fun i => if i < min m n then g i else f i) i = g i from by simp [hik], Nat.sub_zero]
        obtain ⟨uu, hu1, hu2⟩ := hnw i (by omega) j (by rw [es]; exact hj)
        rw [es] at hu1 hu2
        rw [Array.getD_eq_getD_getElem?, List.getElem?_toArray, List.getElem?_take_of_lt (by omega), hu1]
        exact hu2
      · have hmul : min m n * tl.sh.size ≤ i * tl.sh.size := Nat.mul_le_mul_right _ (by omega)
        rw [if_neg (by rw [es2]; omega), show (fun i => if i < min m n then g i else f i) i = f i from by simp [hik]]
        exact hrep i hi j hj
  · subst h0
    refine fin (w' := w) ?_ ?_
    · rw [key hv]; rfl
    · subst hst
      refine ⟨h.env, fun b' c1 hc1 => ?_, ?_, h.ro, h.base, h.sub, h.new, h.dfr, h.tsz, h.glob, fun b' p hp => ?_⟩
      · by_cases e : b' = b
        · subst e
          rw [get_put_same] at hc1
          cases hc1
          refine ⟨hsh, hty, ?_⟩
          rcases hrow with h4 | ⟨g', cs, hg', _⟩
          · exact .inl h4
          · rw [hg] at hg'; cases hg'
        · rw [get_put_other _ _ _ _ e] at hc1
          exact h.heap b' c1 hc1
      · intro b1 b2 c1 c2 g2 k1 k2 k3 k4
        have i1 : ∃ c1', get st.heap b1 = some c1' := by
          by_cases e : b1 = b
          · exact ⟨_, e ▸ hb⟩
          · rw [get_put_other _ _ _ _ e] at k1; exact ⟨c1, k1⟩
        have i2 : ∃ c2', get st.heap b2 = some c2' := by
          by_cases e : b2 = b
          · exact ⟨_, e ▸ hb⟩
          · rw [get_put_other _ _ _ _ e] at k2; exact ⟨c2, k2⟩
        obtain ⟨c1', i1⟩ := i1
        obtain ⟨c2', i2⟩ := i2
        exact h.inj b1 b2 c1' c2' g2 i1 i2 k3 k4
      · obtain ⟨a1, a2, a3⟩ := h.anc b' p hp
        refine ⟨a1, a2, fun c1 hc1 => ?_⟩
        by_cases e : b' = b
        · subst e; exact absurd (a3 _ hb) (by simp [BoxC.isRow])
        · rw [get_put_other _ _ _ _ e] at hc1; exact a3 c1 hc1
end
end Go.AV
/- Answers that own a row: how its name is turned; the contract of a function that hands back a row of its own. -/
namespace Go.AV
open Go.RowKit

mutual
/-- Box number k is called n k. -/
def AV.sub (n : Nat → Nat) : AV → AV
  | .own b k => .own (n b) k
  | .ptr b p => .ptr (n b) p
  | .optr b i p => .optr (n b) i p
  | .agg l => .agg (AV.subL n l)
  | .tup l => .tup (AV.subL n l)
  | .mc sh x => .mc sh (x.sub n)
  | x => x
def AV.subL (n : Nat → Nat) : List AV → List AV
  | [] => []
  | x :: l => x.sub n :: AV.subL n l
end
mutual
/-- No own memory but the boxes of m. -/
def AV.only0 (m : Nat → Bool) : AV → Bool
  | .own b _ | .ptr b _ | .optr b _ _ => m b
  | .agg l | .tup l => AV.only0L m l
  | .mc _ x => x.only0 m
  | .when _ _ => false
  | .clo _ l => AV.areStat l
  | _ => true
def AV.only0L (m : Nat → Bool) : List AV → Bool
  | [] => true
  | x :: l => x.only0 m && AV.only0L m l
end
/-- A value of one cell, or the mark of one. -/
def AV.leafy : AV → Bool
  | .agg _ | .arr _ _ | .mc _ _ | .tup _ | .when _ _ => false
  | _ => true

theorem sub_one (n : Nat → Nat) (x : AV) : (x.sub n).isOne = x.isOne := by cases x <;> rfl
theorem asLeaf_sub (n : Nat → Nat) (x : AV) : asLeaf (x.sub n) = (asLeaf x).sub n := by
  unfold asLeaf
  rw [sub_one]
  split <;> rfl
theorem one_leafy {x : AV} (h : x.isOne = true) : x.leafy = true := by cases x <;> first | rfl | (simp [AV.isOne] at h)
mutual
theorem leafAt_leafy : ∀ (sh : Shape) (x : AV) (j : Nat), (leafAt sh x j).leafy = true
  | .leaf, x, j => by
    simp only [leafAt, asLeaf]
    split
    · rename_i h; exact one_leafy h
    · rfl
  | .agg ss, x, j => by
    cases x with
    | agg xs => simp only [leafAt]; exact leafsAt_leafy ss xs j
    | _ => rfl
  | .arr n s, x, j => by cases x <;> rfl
theorem leafsAt_leafy : ∀ (ss : List Shape) (xs : List AV) (j : Nat), (leafsAt ss xs j).leafy = true
  | s :: ss, x :: xs, j => by
    simp only [leafsAt]
    split
    · exact leafAt_leafy s x j
    · exact leafsAt_leafy ss xs _
  | [], _, _ => rfl
  | _ :: _, [], _ => rfl
end
mutual
theorem leafAt_sub (n : Nat → Nat) : ∀ (sh : Shape) (x : AV) (j : Nat), leafAt sh (x.sub n) j = (leafAt sh x j).sub n
  | .leaf, x, j => by simp only [leafAt]; exact asLeaf_sub n x
  | .agg ss, x, j => by
    cases x with
    | agg xs => simp only [leafAt, AV.sub]; exact leafsAt_sub n ss xs j
    | _ => rfl
  | .arr m s, x, j => by cases x <;> rfl
theorem leafsAt_sub (n : Nat → Nat) : ∀ (ss : List Shape) (xs : List AV) (j : Nat), leafsAt ss (AV.subL n xs) j = (leafsAt ss xs j).sub n
  | s :: ss, x :: xs, j => by
    simp only [leafsAt, AV.subL]
    split
    · exact leafAt_sub n s x j
    · exact leafsAt_sub n ss xs _
  | [], xs, j => by cases xs <;> rfl
  | _ :: _, [], _ => rfl
end
mutual
theorem leafAt_only0 (m : Nat → Bool) : ∀ (sh : Shape) (x : AV) (j : Nat), x.only0 m = true → (leafAt sh x j).only0 m = true
  | .leaf, x, j, h => by
    simp only [leafAt, asLeaf]
    split
    · exact h
    · rfl
  | .agg ss, x, j, h => by
    cases x with
    | agg xs => simp only [leafAt]; exact leafsAt_only0 m ss xs j (by simpa [AV.only0] using h)
    | _ => rfl
  | .arr n s, x, j, h => by cases x <;> rfl
theorem leafsAt_only0 (m : Nat → Bool) : ∀ (ss : List Shape) (xs : List AV) (j : Nat), AV.only0L m xs = true → (leafsAt ss xs j).only0 m = true
  | s :: ss, x :: xs, j, h => by
    simp only [leafsAt]
    simp only [AV.only0L, Bool.and_eq_true] at h
    split
    · exact leafAt_only0 m s x j h.1
    · exact leafsAt_only0 m ss xs _ h.2
  | [], _, _, _ => rfl
  | _ :: _, [], _, _ => rfl
end

section
variable {w : World} {F : Nat → Prop} {φ φ2 : Nat → Place} {n : Nat → Nat} {m : Nat → Bool}
theorem sub_leaf (hφ : ∀ b, m b = true → φ2 (n b) = φ b) {v : Value} {y : AV} (hl : y.leafy = true) (h0 : y.only0 m = true) (h : Rep w F φ v y) : Rep w F φ2 v (y.sub n) := by
  cases h with
  | stat h => cases h <;> first | (simp [AV.leafy] at hl; done) | exact .stat (by constructor <;> assumption) | skip
  | st h => exact .st h
  | own b g k hb hn =>
    rw [← hφ b h0] at hb hn ⊢
    exact .own (n b) g k hb hn
  | own0 b hb =>
    rw [← hφ b h0] at hb
    exact .own0 (n b) hb
  | ptr b g p hb hp =>
    rw [← hφ b h0] at hb hp ⊢
    exact .ptr (n b) g p hb hp
  | optr b g i p hb hp =>
    rw [← hφ b h0] at hb hp ⊢
    exact .optr (n b) g i p hb hp
  | clo f caps l hs hc => exact .stat (Rep.toS (.clo f caps l hs hc) h0)
  | mc => simp [AV.leafy] at hl
  | tup => simp [AV.leafy] at hl
  | whenT => simp [AV.leafy] at hl
theorem sub_val (hφ : ∀ b, m b = true → φ2 (n b) = φ b) {v : Value} {y : AV} (hl : y.leafy = true ∨ ∃ sh x, y = .mc sh x) (h0 : y.only0 m = true) (h : Rep w F φ v y) : Rep w F φ2 v (y.sub n) := by
  rcases hl with hl | ⟨sh, x, rfl⟩
  · exact sub_leaf hφ hl h0 h
  · simp only [AV.only0] at h0
    cases h with
    | stat h =>
      cases h with
      | mc cs _ _ hs hr => exact .mc cs sh _ hs fun j hj => by rw [leafAt_sub]; exact sub_leaf hφ (leafAt_leafy sh x j) (leafAt_only0 m sh x j h0) (.stat (hr j hj))
    | mc cs _ _ hs hr => exact .mc cs sh _ hs fun j hj => by rw [leafAt_sub]; exact sub_leaf hφ (leafAt_leafy sh x j) (leafAt_only0 m sh x j h0) (hr j hj)
theorem inv_leaf (hφ : ∀ b, m b = true → φ2 (n b) = φ b) {v : Value} {y : AV} (hl : y.leafy = true) (h0 : y.only0 m = true) (h : Rep w F φ2 v (y.sub n)) : Rep w F φ v y := by
  cases y with
  | own b k =>
    simp only [AV.sub] at h
    cases h with
    | stat h => cases h
    | own _ g _ hb hn => rw [hφ b h0] at hb hn ⊢; exact .own b g k hb hn
    | own0 _ hb => rw [hφ b h0] at hb; exact .own0 b hb
  | ptr b p =>
    simp only [AV.sub] at h
    cases h with
    | stat h => cases h
    | ptr _ g _ hb hp => rw [hφ b h0] at hb hp ⊢; exact .ptr b g p hb hp
  | optr b i p =>
    simp only [AV.sub] at h
    cases h with
    | stat h => cases h
    | optr _ g _ _ hb hp => rw [hφ b h0] at hb hp ⊢; exact .optr b g i p hb hp
  | clo f l => exact .stat (h.toS h0)
  | agg => simp [AV.leafy] at hl
  | arr => simp [AV.leafy] at hl
  | mc => simp [AV.leafy] at hl
  | tup => simp [AV.leafy] at hl
  | «when» => simp [AV.leafy] at hl
  | _ => exact .stat (h.toS rfl)
theorem inv_val (hφ : ∀ b, m b = true → φ2 (n b) = φ b) {v : Value} {y : AV} (hl : y.leafy = true ∨ ∃ sh x, y = .mc sh x) (h0 : y.only0 m = true) (h : Rep w F φ2 v (y.sub n)) : Rep w F φ v y := by
  rcases hl with hl | ⟨sh, x, rfl⟩
  · exact inv_leaf hφ hl h0 h
  · simp only [AV.only0] at h0
    simp only [AV.sub] at h
    cases h with
    | stat h =>
      cases h with
      | mc cs _ _ hs hr =>
        refine .mc cs sh _ hs fun j hj => ?_
        have := hr j hj
        rw [leafAt_sub] at this
        exact inv_leaf hφ (leafAt_leafy sh x j) (leafAt_only0 m sh x j h0) (.stat this)
    | mc cs _ _ hs hr =>
      refine .mc cs sh _ hs fun j hj => ?_
      have := hr j hj
      rw [leafAt_sub] at this
      exact inv_leaf hφ (leafAt_leafy sh x j) (leafAt_only0 m sh x j h0) this

/-- An answer, or several. -/
def isVal : AV → Bool
  | .mc _ _ => true
  | y => y.leafy
theorem isVal_or {y : AV} (h : isVal y = true) : y.leafy = true ∨ ∃ sh x, y = .mc sh x := by
  cases y <;> first | exact .inl h | exact .inr ⟨_, _, rfl⟩
def areVals : List AV → Bool
  | [] => true
  | x :: l => isVal x && areVals l
theorem areVals_getD : ∀ {l : List AV} {j : Nat}, areVals l = true → j < l.length → isVal (l.getD j .any) = true
  | x :: l, 0, h, _ => by simp only [areVals, Bool.and_eq_true] at h; simpa using h.1
  | x :: l, j + 1, h, hj => by simp only [areVals, Bool.and_eq_true] at h; simpa using areVals_getD h.2 (by simpa using hj)
  | [], _, _, hj => by simp at hj
theorem only0L_getD {m : Nat → Bool} : ∀ {l : List AV} {j : Nat}, AV.only0L m l = true → j < l.length → (l.getD j .any).only0 m = true
  | x :: l, 0, h, _ => by simp only [AV.only0L, Bool.and_eq_true] at h; simpa using h.1
  | x :: l, j + 1, h, hj => by simp only [AV.only0L, Bool.and_eq_true] at h; simpa using only0L_getD h.2 (by simpa using hj)
  | [], _, _, hj => by simp at hj
theorem subL_getD (n : Nat → Nat) : ∀ (l : List AV) (j : Nat), j < l.length → (AV.subL n l).getD j .any = (l.getD j .any).sub n
  | x :: l, 0, _ => rfl
  | x :: l, j + 1, hj => by simpa [AV.subL] using subL_getD n l j (by simpa using hj)
  | [], _, hj => by simp at hj
theorem subL_len (n : Nat → Nat) : ∀ l : List AV, (AV.subL n l).length = l.length
  | [] => rfl
  | x :: l => by simp [AV.subL, subL_len n l]
/-- Below a number. -/
def below (k : Nat) (b : Nat) : Bool := Nat.blt b k
/-- The answers that the boxes of m may come with. -/
def goodRes (m : Nat → Bool) : AV → Bool
  | .tup l => areVals l && AV.only0L m l
  | y => isVal y && y.only0 m

theorem sub_res (hφ : ∀ b, m b = true → φ2 (n b) = φ b) {v : Value} {y : AV} (hg : goodRes m y = true) (h : Rep w F φ v y) : Rep w F φ2 v (y.sub n) := by
  cases y with
  | tup l =>
    simp only [goodRes, Bool.and_eq_true] at hg
    cases h with
    | stat h => cases h
    | tup vs _ hs hc =>
      refine .tup vs _ (by rw [subL_len]; exact hs) fun j hj => ?_
      rw [subL_len] at hj
      rw [subL_getD n l j hj]
      exact sub_val hφ (isVal_or (areVals_getD hg.1 hj)) (only0L_getD hg.2 hj) (hc j hj)
  | _ =>
    simp only [goodRes, Bool.and_eq_true] at hg
    exact sub_val hφ (isVal_or hg.1) hg.2 h
theorem inv_res (hφ : ∀ b, m b = true → φ2 (n b) = φ b) {v : Value} {y : AV} (hg : goodRes m y = true) (h : Rep w F φ2 v (y.sub n)) : Rep w F φ v y := by
  cases y with
  | tup l =>
    simp only [goodRes, Bool.and_eq_true] at hg
    simp only [AV.sub] at h
    cases h with
    | stat h => cases h
    | tup vs _ hs hc =>
      rw [subL_len] at hs hc
      refine .tup vs _ hs fun j hj => ?_
      have := hc j hj
      rw [subL_getD n l j hj] at this
      exact inv_val hφ (isVal_or (areVals_getD hg.1 hj)) (only0L_getD hg.2 hj) this
  | _ =>
    simp only [goodRes, Bool.and_eq_true] at hg
    exact inv_val hφ (isVal_or hg.1) hg.2 h
end

/-- A CONTRACT: the answer reads as r; the rows 0, 1, .. in it are the function's own making, handed over, and read as cs. -/
def RFresh (P : Program) (G : List (Nat × AV)) (f : FuncId) (args : List AV) (r : AV) (cs : List BoxC) : Prop :=
  ∀ (w : World) (F : Nat → Prop) (vs : Array Value), (∀ k, F k → k < w.heap.size) → (∀ g x, get G g = some x → RepS w F (.pointer (some ⟨g, 0, none⟩)) x) → vs.size = args.length →
    (∀ j, j < args.length → RepS w F (vs.getD j undef) (args.getD j .any)) →
    Calls P f vs w fun en w' => ∃ v F' φ', en = .returned v ∧ Below w.heap.size w w' ∧ (∀ k, F k → F' k) ∧ (∀ k, F' k → F k ∨ w.heap.size ≤ k) ∧ (∀ k, F' k → k < w'.heap.size) ∧ Rep w' F' φ' v r ∧
      (∀ i c, cs[i]? = some c → BoxOK w' F' φ' (fun k => w.heap.size ≤ k) i c) ∧ ∀ i i' g, i < cs.length → i' < cs.length → (φ' i).blk = some g → (φ' i').blk = some g → i = i'

/- The same of boxes. -/
def BoxC.sub (n : Nat → Nat) : BoxC → BoxC
  | .cell tc sh x => .cell tc sh (x.sub n)
  | c => c
def BoxC.only (m : Nat → Bool) : BoxC → Bool
  | .cell _ _ x => x.only0 m
  | _ => true
section
variable {w : World} {F : Nat → Prop} {φ φ2 : Nat → Place} {n : Nat → Nat} {m : Nat → Bool} {B : Nat → Prop}
theorem box_sub (hφ : ∀ b, m b = true → φ2 (n b) = φ b) {i : Nat} {c : BoxC} (hi : m i = true) (h0 : c.only m = true) (h : BoxOK w F φ B i c) : BoxOK w F φ2 B (n i) (c.sub n) := by
  cases c with
  | cell tc sh x =>
    obtain ⟨h1, g, cs, h2, h3, h4, h5, h6, h7⟩ := h
    refine ⟨by rw [hφ i hi]; exact h1, g, cs, by rw [hφ i hi]; exact h2, h3, h4, h5, h6, fun j hj => ?_⟩
    rw [leafAt_sub]
    exact sub_leaf hφ (leafAt_leafy sh x j) (leafAt_only0 m sh x j h0) (h7 j hj)
  | row ty sh k f =>
    obtain ⟨h1, h2, h3⟩ := h
    exact ⟨by rw [hφ i hi]; exact h1, by rw [hφ i hi]; exact h2, by rw [hφ i hi]; exact h3⟩
theorem box_inv (hφ : ∀ b, m b = true → φ2 (n b) = φ b) {i : Nat} {c : BoxC} (hi : m i = true) (h0 : c.only m = true) (h : BoxOK w F φ2 B (n i) (c.sub n)) : BoxOK w F φ B i c := by
  cases c with
  | cell tc sh x =>
    obtain ⟨h1, g, cs, h2, h3, h4, h5, h6, h7⟩ := h
    rw [hφ i hi] at h1 h2
    refine ⟨h1, g, cs, h2, h3, h4, h5, h6, fun j hj => ?_⟩
    have := h7 j hj
    rw [leafAt_sub] at this
    exact inv_leaf hφ (leafAt_leafy sh x j) (leafAt_only0 m sh x j h0) this
  | row ty sh k f =>
    obtain ⟨h1, h2, h3⟩ := h
    rw [hφ i hi] at h1 h2 h3
    exact ⟨h1, h2, h3⟩
end

/-- A block of one of the first boxes of the list. -/
def LentTo (φ : Nat → Place) (k : Nat) (g : Nat) : Prop := ∃ i, i < k ∧ (φ i).blk = some g

/-- A CONTRACT with lent boxes: called with arguments that name the boxes 0, 1, .., which read as hs, it answers r; the boxes then read as hs' (none: gone), and what follows there is its own making, handed over. Cells stay where they lie. -/
def RLent (P : Program) (G : List (Nat × AV)) (f : FuncId) (args : List AV) (hs : List BoxC) (r : AV) (hs' : List (Option BoxC)) : Prop :=
  ∀ (w : World) (F : Nat → Prop) (φ : Nat → Place) (vs : Array Value), (∀ k, F k → k < w.heap.size) → (∀ g x, get G g = some x → RepS w F (.pointer (some ⟨g, 0, none⟩)) x) → vs.size = args.length →
    (∀ j, j < args.length → Rep w F φ (vs.getD j undef) (args.getD j .any)) → (∀ i c, hs[i]? = some c → BoxOK w F φ (fun _ => True) i c) →
    (∀ i i' g, i < hs.length → i' < hs.length → (φ i).blk = some g → (φ i').blk = some g → i = i') →
    Calls P f vs w fun en w' => ∃ v F' φ', en = .returned v ∧ Kept (LentTo φ hs.length) w w' ∧ (∀ k, F k → F' k) ∧ (∀ k, F' k → F k ∨ w.heap.size ≤ k ∨ LentTo φ hs.length k) ∧ (∀ k, F' k → k < w'.heap.size) ∧ Rep w' F' φ' v r ∧
      (∀ i c, hs'[i]? = some (some c) → BoxOK w' F' φ' (fun k => w.heap.size ≤ k ∨ LentTo φ hs.length k) i c) ∧
      (∀ i i' c c' g, hs'[i]? = some (some c) → hs'[i']? = some (some c') → (φ' i).blk = some g → (φ' i').blk = some g → i = i') ∧
      ∀ i tc sh x, hs[i]? = some (.cell tc sh x) → φ' i = φ i
/-- A CONTRACT of a function that panics with v; what was lent may have turned. -/
def RPan (P : Program) (G : List (Nat × AV)) (f : FuncId) (args : List AV) (hs : List BoxC) (v : Value) : Prop :=
  ∀ (w : World) (F : Nat → Prop) (φ : Nat → Place) (vs : Array Value), (∀ k, F k → k < w.heap.size) → (∀ g x, get G g = some x → RepS w F (.pointer (some ⟨g, 0, none⟩)) x) → vs.size = args.length →
    (∀ j, j < args.length → Rep w F φ (vs.getD j undef) (args.getD j .any)) → (∀ i c, hs[i]? = some c → BoxOK w F φ (fun _ => True) i c) →
    (∀ i i' g, i < hs.length → i' < hs.length → (φ i).blk = some g → (φ i').blk = some g → i = i') →
    Calls P f vs w fun en w' => ∃ F' : Nat → Prop, en = .panicked [⟨v, false, false⟩] ∧ Kept (LentTo φ hs.length) w w' ∧ (∀ k, F k → F' k) ∧ (∀ k, F' k → F k ∨ w.heap.size ≤ k ∨ LentTo φ hs.length k) ∧ ∀ k, F' k → k < w'.heap.size
end Go.AV
/- Every operation; steps; a region in the order of its text. -/
namespace Go.AV
open Go.RowKit

section
variable {C : Cfg} {W0 : Entry} {F0 : Nat → Prop} {st st' : St} {a : Act} {w : World} {F : Nat → Prop} {φ : Nat → Place} {e : Operand → Option AV} {dst : Option Nat} {orc : FuncId → List AV → Option AV} {CC : FuncId → List AV → AV → Prop} {r : Res} {o : Oper}
  {next : Act → World → Prop} {Q : Exit → Act → World → Prop}

/-- What the contracts give. -/
def CCOK (C : Cfg) (CC : FuncId → List AV → AV → Prop) : Prop := (∀ f as r, CC f as r → (CallOK C.P f ∧ RCalls C.P C.G f as r) ∨ RExt C.P f as r) ∧ (∀ f as r cs, C.CCF f as r cs → CallOK C.P f ∧ RFresh C.P C.G f as r cs) ∧ (∀ f as hs r os, C.CCL f as hs r os → CallOK C.P f ∧ RLent C.P C.G f as hs r os) ∧ ∀ f as hs p v, C.CCP f as hs p v → p = true → CallOK C.P f ∧ RPan C.P C.G f as hs v

theorem wp_op (h : Rel C W0 F0 st a w F φ) (hT : TysOK C) (hCC : CCOK C CC) (hr : absOp C st e o.dst orc CC o.op = some r) (he : ∀ x ∈ o.op.operands.toList, ∀ u, e x = some u → Rep w F φ (a.eval x) u)
    (hob : ∀ p ∈ r.obs, p) (hst : applyEff st o.dst r.eff = some st') (hn : Next C W0 F0 st' a o r.val next) : o.wp C.P a w next Q := by
  cases hop : o.op with
  | move x => rw [hop] at hr he; exact wp_of_pure h (pure_move (.inl hop) hr (he x (by simp [Op.operands]))) hst hn
  | assign x => rw [hop] at hr he; exact wp_of_pure h (pure_move (st := st) (dst := o.dst) (orc := orc) (CC := CC) (.inr hop) hr (he x (by simp [Op.operands]))) hst hn
  | pick c x y => rw [hop] at hr; simp [absOp] at hr
  | alloc t => rw [hop] at hr; exact wp_alloc h hT hop hr hst hn
  | box t x => rw [hop] at hr he; exact wp_box h hop hr (he x (by simp [Op.operands])) hst hn
  | build t parts =>
    rw [hop] at hr he
    exact wp_of_pure h (pure_build hT hop hr fun p hp u hu => he p.2 (by simp only [Op.operands, List.mem_map]; exact ⟨p, hp, rfl⟩) u hu) hst hn
  | buildSlice t len parts =>
    rw [hop] at hr he
    exact wp_buildSlice' h hT hop hr (fun p hp u hu => he p.2 (by simp only [Op.operands, List.mem_map]; exact ⟨p, hp, rfl⟩) u hu) hob hst hn
  | insert t m k v => rw [hop] at hr; simp [absOp] at hr
  | load t x => rw [hop] at hr he; exact wp_of_pure h (pure_load h hT hop hr (he x (by simp [Op.operands])) hob) hst hn
  | store t x v => rw [hop] at hr he; exact wp_store h hT hop hr (he x (by simp [Op.operands])) (he v (by simp [Op.operands])) hob hst hn
  | ready g => rw [hop] at hr; simp [absOp] at hr
  | waits g => rw [hop] at hr; simp [absOp] at hr
  | nilCheck x => rw [hop] at hr he; exact wp_of_pure h (pure_nilCheck hop hr (he x (by simp [Op.operands]))) hst hn
  | binOp op t x y t' => rw [hop] at hr he; exact wp_of_pure h (pure_binOp hT hop hr (he x (by simp [Op.operands])) (he y (by simp [Op.operands])) hob) hst hn
  | unOp op t x => rw [hop] at hr he; exact wp_of_pure h (pure_unOp hop hr (he x (by simp [Op.operands])) hob) hst hn
  | convert s d x => rw [hop] at hr he; exact wp_of_pure h (pure_convert hT hop hr (he x (by simp [Op.operands]))) hst hn
  | sliceToArrayPointer d x => rw [hop] at hr; simp [absOp] at hr
  | makeInterface t x => rw [hop] at hr; simp [absOp] at hr
  | makeFunc fn first caps => rw [hop] at hr he; exact wp_of_pure h (pure_makeFunc hop hr fun x hx => he x (by simp [Op.operands]; exact .inr (by simpa using hx))) hst hn
  | makeMap t r' => rw [hop] at hr; simp [absOp] at hr
  | makeChan t s => rw [hop] at hr; simp [absOp] at hr
  | makeSlice t l c => rw [hop] at hr he; exact wp_makeSlice h hT hop hr (he l (by simp [Op.operands])) (he c (by simp [Op.operands])) hob hst hn
  | slice t x lo hi mx =>
    rw [hop] at hr he
    exact wp_of_pure h (pure_slice h hT hop hr (he x (by simp [Op.operands])) (fun y hy => he y (by cases lo <;> simp_all [Op.operands])) (fun y hy => he y (by cases hi <;> simp_all [Op.operands])) (fun y hy => he y (by cases mx <;> simp_all [Op.operands])) hob) hst hn
  | fieldAddr t x f => rw [hop] at hr he; exact wp_of_pure h (pure_fieldAddr h hT hop hr (he x (by simp [Op.operands]))) hst hn
  | field t x f => rw [hop] at hr he; exact wp_of_pure h (pure_field hT hop hr (he x (by simp [Op.operands]))) hst hn
  | indexAddr t x ix => rw [hop] at hr he; exact wp_of_pure h (pure_indexAddr h hT hop hr (he x (by simp [Op.operands])) (he ix (by simp [Op.operands])) hob) hst hn
  | index t x ix => rw [hop] at hr he; exact wp_of_pure h (pure_index hT hop hr (he x (by simp [Op.operands])) (he ix (by simp [Op.operands])) hob) hst hn
  | lookup t x ix ok => rw [hop] at hr; simp [absOp] at hr
  | mapUpdate t m k v => rw [hop] at hr; simp [absOp] at hr
  | mapEntry t m k => rw [hop] at hr; simp [absOp] at hr
  | entryStore t m s v => rw [hop] at hr; simp [absOp] at hr
  | range t x => rw [hop] at hr; simp [absOp] at hr
  | next it s => rw [hop] at hr; simp [absOp] at hr
  | entry it => rw [hop] at hr; simp [absOp] at hr
  | typeAssert x t s ok => rw [hop] at hr; simp [absOp] at hr
  | extract x i => rw [hop] at hr he; exact wp_of_pure h (pure_extract hop hr (he x (by simp [Op.operands]))) hst hn
  | call c =>
    rw [hop] at hr he
    have hargs : ∀ x ∈ c.args.toList, ∀ u, e x = some u → Rep w F φ (a.eval x) u := fun x hx => he x (by simp only [Op.operands, Call.operands, Array.toList_append, List.mem_append]; exact .inr hx)
    cases hc : c.callee with
    | value fx => exact wp_callFn h hop hc hr (he fx (by simp [Op.operands, Call.operands, hc])) hargs hob hCC.1 hst hn
    | invoke x m => simp [absOp, hc] at hr
    | builtin b =>
      cases b with
      | len => exact wp_of_pure h (pure_len hT hop hc hr hargs hob) hst hn
      | min => exact wp_of_pure h (pure_min hop hc hr hargs) hst hn
      | max => exact wp_of_pure h (pure_max hop hc hr hargs) hst hn
      | append => exact wp_append h hT hop hc hr hargs hob hst hn
      | copy => exact wp_copy h hT hop hc hr hargs hob hst hn
      | _ => simp [absOp, hc] at hr
  | go c => rw [hop] at hr; simp [absOp] at hr
  | defer c => rw [hop] at hr; simp [absOp] at hr
  | panic x => rw [hop] at hr; simp [absOp] at hr
  | send c x => rw [hop] at hr; simp [absOp] at hr
  | recv t c ok => rw [hop] at hr; simp [absOp] at hr
  | select cs b => rw [hop] at hr; simp [absOp] at hr

theorem impl_mem {q : Bool} : ∀ {l : List Prop}, (∀ p ∈ impl q l, p) → q = true → ∀ p ∈ l, p
  | [], _, _, p, hp => by cases hp
  | x :: l, h, hq, p, hp => by
    rcases List.mem_cons.1 hp with rfl | hp
    · exact h (q = true → p) (by simp [impl]) hq
    · exact impl_mem (fun y hy => h y (by simp [impl, hy])) hq p hp

/-- An operation whose guard says yes, or that has none. -/
theorem wp_plain (h : Rel C W0 F0 st a w F φ) (hT : TysOK C) (hCC : CCOK C CC) (hr : absPlain C CC orc st o = some r) (hob : ∀ p ∈ r.obs, p) (hst : applyEff st o.dst r.eff = some st') (hn : Next C W0 F0 st' a o r.val next) : o.wp C.P a w next Q := by
  unfold absPlain at hr
  split at hr
  · rename_i c x y hop
    split at hr
    case h_2 => cases hr
    rename_i p u v h1 h2 h3
    split at hr
    case h_2 => cases hr
    rename_i z hz
    cases hr
    simp only [applyEff, Option.some.injEq] at hst
    subst hst
    have hop' : ∀ {z : Operand} {zz : AV}, evS C st z = some zz → (∀ q ∈ (match ev C st z with | some v => whenOb v | none => []), q) → Rep w F φ (a.eval z) zz := by
      intro z zz hz hq
      unfold evS at hz
      split at hz
      · rename_i v hv
        cases hz
        rw [hv] at hq
        exact (h.ev hv).strip1 hq
      · cases hz
    simp only [pickObs, List.mem_append] at hob
    obtain ⟨V, hrun, hrep⟩ := pure_pick hop (hop' h1 (fun q hq => hob q (.inl (.inl hq)))) (fun hp => hop' h2 (impl_mem (fun q hq => hob q (.inl (.inr hq))) hp)) (fun hp => hop' h3 (impl_mem (fun q hq => hob q (.inr hq)) (by rw [hp]; rfl))) hz
    unfold Oper.wp
    rw [hrun]
    exact hn V w F φ h fun _ => hrep
  · rename_i op hne
    split at hr
    case h_2 => cases hr
    rename_i r' hr'
    cases hr
    exact wp_op h hT hCC hr' (fun x hx u hu => h.evS (fun p hp => hob p (by simp [hp])) hx hu) (fun p hp => hob p (by simp [hp])) hst hn

theorem put_none (v : Value) : a.put none v = a := rfl

theorem wanted_guard {ops : Array Oper} (h : Rel C W0 F0 st a w F φ) {g : Nat × Bool} {q : Bool} (hg : guardAV C st ops.toList g = some q) (ho : o.guard = some g) : Region.wanted o (yielded ops a.tmps) = q := by
  obtain ⟨j, want⟩ := g
  unfold guardAV at hg
  split at hg
  case h_2 => cases hg
  rename_i o' hj
  split at hg
  case h_2 => cases hg
  rename_i d hd
  have hj' : ops[j]? = some o' := by simpa using hj
  simp only [Region.wanted, ho]
  split at hg
  · rename_i p hp
    cases hg
    obtain ⟨v, hv, hr⟩ := h.env d _ hp
    have := hr.bool_inv
    subst this
    simp only [yielded, hj', Option.bind_some, hd, hv]
    cases want <;> cases p <;> rfl
  · rename_i q' p hp
    cases hg
    obtain ⟨v, hv, hr⟩ := h.env d _ hp
    simp only [yielded, hj', Option.bind_some, hd, hv]
    cases hr with
    | stat hr => cases hr
    | whenT _ h1 h2 =>
      cases hq : q' with
      | true =>
        have := (h1 hq).bool_inv
        subst this
        cases want <;> cases p <;> rfl
      | false =>
        rcases h2 hq with rfl | h3
        · simp [undef]
        · cases h3
  · cases hg

theorem dst_lt (h : dstOK C o.dst = true) {d : Nat} (hd : o.dst = some d) : d < C.ntmps := by
  rw [hd] at h
  simp [dstOK, Nat.blt] at h
  omega

/-- One operation, as it comes up. -/
theorem step_sound {ops : Array Oper} {ps : List Prop} {K : Act → World → Prop} (h : Rel C W0 F0 st a w F φ) (hT : TysOK C) (hCC : CCOK C CC) (hs : absStep C CC orc ops.toList st o = some (st', ps)) (hps : ∀ p ∈ ps, p)
    (hK : ∀ a' w' F' φ', Rel C W0 F0 st' a' w' F' φ' → K a' w') : if Region.wanted o (yielded ops a.tmps) then o.wp C.P a w K Q else K (a.put o.dst undef) w := by
  unfold absStep at hs
  split at hs
  · cases hs
  rename_i hd
  split at hs
  · rename_i hg
    have hw : Region.wanted o (yielded ops a.tmps) = true := by simp [Region.wanted, hg]
    rw [if_pos hw]
    split at hs
    case h_2 => cases hs
    rename_i r hr
    split at hs
    case h_2 => cases hs
    rename_i st1 hst
    cases hs
    refine wp_plain h hT hCC hr hps hst ?_
    intro v w' F' φ' hR hrep
    cases hdd : o.dst with
    | none => rw [put_none]; rw [hdd] at hK; exact hK _ _ _ _ hR
    | some d =>
      rw [hdd] at hK
      exact hK _ _ _ _ (hR.putV (dst_lt hd hdd) (hrep (by rw [hdd]; rfl)))
  · rename_i g hg
    split at hs
    case h_2 => cases hs
    rename_i q hq
    have hw := wanted_guard h hq hg
    split at hs
    case h_2 => cases hs
    rename_i r hr
    split at hs
    case h_2 => cases hs
    rename_i heff
    cases hs
    have he : r.eff = .none := by
      unfold effIsNone at heff
      split at heff
      · assumption
      · cases heff
    rw [hw]
    cases hqv : q with
    | true =>
      subst hqv
      simp only [if_true]
      refine wp_plain h hT hCC hr (impl_mem hps rfl) (st' := st) (by rw [he]; rfl) ?_
      intro v w' F' φ' hR hrep
      cases hdd : o.dst with
      | none => rw [put_none]; rw [hdd] at hK; exact hK _ _ _ _ hR
      | some d =>
        rw [hdd] at hK
        exact hK _ _ _ _ (hR.putV (dst_lt hd hdd) (.whenT true (fun _ => hrep (by rw [hdd]; rfl)) fun h => by cases h))
    | false =>
      subst hqv
      simp only [Bool.false_eq_true, if_false]
      cases hdd : o.dst with
      | none => rw [put_none]; rw [hdd] at hK; exact hK _ _ _ _ h
      | some d =>
        rw [hdd] at hK
        exact hK _ _ _ _ (h.putV (dst_lt hd hdd) (.whenT false (fun h => by cases h) fun _ => .inl rfl))

theorem ops_sound {ops : Array Oper} {orc : Nat → FuncId → List AV → Option AV} : ∀ (rest : List Oper) (i : Nat) (st st' : St) (ps : List Prop) (a : Act) (w : World) (F : Nat → Prop) (φ : Nat → Place), TysOK C → CCOK C CC → (∀ j, rest[j]? = ops[i + j]?) →
    absOps C CC orc ops.toList rest i st = some (st', ps) → (∀ p ∈ ps, p) → Rel C W0 F0 st a w F φ → (∀ a' w' F' φ', Rel C W0 F0 st' a' w' F' φ' → Q .normal a' w') → wpOps C.P ops Q (List.range' i rest.length) a w
  | [], i, st, st', ps, a, w, F, φ, _, _, _, h, _, hR, hQ => by
    simp only [absOps, Option.some.injEq, Prod.mk.injEq] at h
    obtain ⟨rfl, _⟩ := h
    exact hQ _ _ _ _ hR
  | o :: rest, i, st, st', ps, a, w, F, φ, hT, hCC, hj, h, hps, hR, hQ => by
    simp only [absOps] at h
    split at h
    case h_2 => cases h
    rename_i st1 ps1 h1
    split at h
    case h_2 => cases h
    rename_i st2 ps2 h2
    cases h
    have ho : ops[i]? = some o := by simpa using (hj 0).symm
    simp only [List.length_cons, List.range'_succ, wpOps, ho]
    have hstep := step_sound (Q := Q) (ops := ops) (K := wpOps C.P ops Q (List.range' (i + 1) rest.length)) hR hT hCC h1 (fun p hp => hps p (by simp [hp])) fun a' w' F' φ' hR' =>
      ops_sound rest (i + 1) st1 st' ps2 a' w' F' φ' hT hCC (fun j => by rw [show i + 1 + j = i + (j + 1) from by omega, ← hj (j + 1)]; simp) h2 (fun p hp => hps p (by simp [hp])) hR' hQ
    split
    · rename_i hw; rw [if_pos hw] at hstep; exact .inl hstep
    · rename_i hw; rw [if_neg hw] at hstep; exact hstep
end
end Go.AV
/- append of a string's bytes to a row of the call's own, or to nil. -/
namespace Go.AV
open Go.RowKit

def strRow (l : List UInt8) (i : Nat) : AV := .int .u8 ((l.getD i 0).toNat : Int)
def absAppS (C : Cfg) (st : St) (o : Oper) : Option (St × List Prop) :=
  match o.op, o.dst, o.guard with
  | .call c, some d, none => match c.callee, c.args.toList, c.argTypes.toList with
    | .builtin .append, [x, y], [t, t'] => match tyOf C t, tyOf C t', ev C st x, ev C st y with
      | some te, some te', some v, some (.str l) => match te.kind, te'.kind with
        | .slice el, .string => match C.P.info? el with
          | some ie => match ie.zero with
            | some (.int .u8 z) => match decide (z = 0) && Nat.beq ie.size 1 && Nat.beq ie.bytes 1 && Nat.blt d C.ntmps, v with
              | true, .nils => match freshBox st d with
                | true => some ({ env := put st.env d (.own d l.length), heap := put st.heap d (.row el .leaf l.length (strRow l)) }, [(l.length : Int) ≤ 225179981368000])
                | false => none
              | true, .own b n => match get st.heap b with
                | some (.row ty sh n' f) => match Nat.beq ty el && sh.same .leaf with
                  | true => some ({ env := put (killEnv b st.env) d (.own b (n + l.length)), heap := put (killHeap b st.heap) b (.row el .leaf (n + l.length) fun i => if i < n then f i else strRow l (i - n)) }, [n = n' ∧ ((n + l.length : Nat) : Int) ≤ 225179981368000])
                  | false => none
                | _ => none
              | _, _ => none
            | _ => none
          | none => none
        | _, _ => none
      | _, _, _, _ => none
    | _, _, _ => none
  | _, _, _ => none

section
variable {C : Cfg} {W0 : Entry} {F0 : Nat → Prop} {st st' : St} {a : Act} {w : World} {F : Nat → Prop} {φ : Nat → Place} {o : Oper} {Q : Exit → Act → World → Prop}

theorem strCells_rep (w : World) (F : Nat → Prop) (l : List UInt8) : ∀ i, i < l.length → ∀ j, j < Shape.leaf.size → ∃ u, (Lib.strCells ⟨l.toArray⟩)[i * Shape.leaf.size + j]? = some u ∧ RepS w F u (leafAt .leaf (strRow l i) j) := by
  intro i hi j hj
  have hj : j = 0 := by simp [Shape.size] at hj; exact hj
  subst hj
  refine ⟨.int .u8 ((l.getD i 0).toNat : Int), ?_, ?_⟩
  · simp [Lib.strCells, Shape.size, List.getD_eq_getElem?_getD, hi]
  · have h1 : (l.getD i 0).toNat < 256 := UInt8.toNat_lt _
    refine .int _ _ ?_
    show IntKind.u8.wrap _ = _
    generalize (l.getD i 0).toNat = k at h1
    have h2 : (k : Int) % 2 ^ 8 = (k : Int) := by omega
    simp only [IntKind.wrap, IntKind.bits, IntKind.signed, h2]
    rfl

/-- Where there is room, and where there is none: a string's bytes behind a row of the call's own. -/
theorem append_str {P : Program} {w : World} {t u ty e : TypeId} {i : TypeInfo} (ht : P.underlying t = some (.slice e)) (hu : P.underlying u = some .string) (hi : P.info? e = some i) (hz : i.zero = some (.int .u8 0))
    (hsize : i.size = 1) (hby : i.bytes = 1) {v : Value} {n : Nat} {xs : List Value} (hown : w.ownsRow 0 e 1 v n xs) (s : ByteArray) (hb : n + s.size ≤ 225179981368000) :
    ∃ v' w', (Builtin.append_ #[t, u] ty #[v, .string s]).run P w = .ok v' w' ∧ w'.ownsRow 0 e 1 v' (n + s.size) (xs ++ Lib.strCells s) ∧ w.grownBy w' v.ownBlock ∧
      (v'.ownBlock = v.ownBlock ∨ ∃ g, v'.ownBlock = some g ∧ w.heap.size ≤ g) := by
  have h63 : n + s.size ≤ maxLen := by unfold maxLen; omega
  have hxl : xs.length = n := by simpa using hown.1
  have hlen : (xs ++ Lib.strCells s).length = (n + s.size) * 1 := by rw [List.length_append, hxl, Lib.strCells_length, Nat.mul_one]
  have grown : ∀ (old : Nat), old < n + s.size → ∀ (row : Option Nat),
      (w.drew.alloc (.cells (xs.toArray ++ (Lib.strCells s).toArray ++ Builtin.zeroCells (Value.int .u8 0).cells (grownCap w (n + s.size) old e - (n + s.size))) e)).ownsRow 0 e 1
        (.slice (some ⟨w.heap.size, 0, none⟩) (n + s.size) (grownCap w (n + s.size) old e)) (n + s.size) (xs ++ Lib.strCells s) ∧
      w.grownBy (w.drew.alloc (.cells (xs.toArray ++ (Lib.strCells s).toArray ++ Builtin.zeroCells (Value.int .u8 0).cells (grownCap w (n + s.size) old e - (n + s.size))) e)) row := by
    intro old ho row
    have hge := grownCap_ge w (n + s.size) old e
    have hcm : grownCap w (n + s.size) old e ≤ maxLen := grownCap_le_maxLen w (n + s.size) old e h63
    refine ⟨⟨hlen, .inr ⟨w.heap.size, _, _, rfl, Nat.zero_le _, heap_alloc_new w.drew _, hge, hcm, ?_, ?_⟩⟩, ⟨rfl, rfl, rfl, by simp, fun k hk _ => Below.heap_alloc w.drew _ k hk⟩⟩
    · have hz1 : (Value.int IntKind.u8 0).cells.size = 1 := rfl
      simp only [Array.size_append, List.size_toArray, size_zeroCells, hz1, hxl, Lib.strCells_length]
      omega
    · simp only [Array.toList_append, List.append_assoc]
      rw [← List.append_assoc, ← hlen]
      exact List.take_left
  rcases hown.2 with ⟨rfl, rfl⟩ | ⟨g, cap, cur, rfl, hbg, hg, hnc, hcm, hcs, htake⟩
  · have hx : xs = [] := List.eq_nil_of_length_eq_zero hxl
    subst hx
    by_cases hm : s.size = 0
    · have hn : Lib.strCells s = [] := List.eq_nil_of_length_eq_zero (by rw [Lib.strCells_length]; exact hm)
      refine ⟨.slice none 0 0, w, ?_, by rw [hm, hn]; exact World.ownsRow_nil w 0 e 1, ⟨rfl, rfl, rfl, Nat.le_refl _, fun _ _ _ => rfl⟩, .inl rfl⟩
      have hf := Lib.run_firstCells_string (P := P) w 1 s
      rw [hm] at hf
      simp [Builtin.append_, run_underlying ht, run_underlying hu, sizeOf, typeInfo, hi, hsize, Builtin.lenOf, hm, hf]
    · have hr := run_append_nil_string (P := P) w t u ty e i (.int .u8 0) ht hu hi hz s (by omega) (by omega) (by rw [hby]; omega)
      have hgr := grown 0 (by omega) (Value.ownBlock (.slice none 0 0))
      simp only [Nat.zero_add, List.nil_append, Array.empty_append] at hgr ⊢
      have e1 : (s.data.map fun b => Value.int .u8 b.toNat) = (Lib.strCells s).toArray := by
        apply Array.ext'
        simp [Lib.strCells]
      rw [e1] at hr
      exact ⟨_, _, hr, hgr.1, hgr.2, .inr ⟨_, rfl, Nat.le_refl _⟩⟩
  · by_cases hroom : n + s.size ≤ cap
    · have hcs' : cur.size = cap := by simpa using hcs
      have hr := Lib.run_append_room_string (P := P) w t u ty e i ht hu hi hsize g n cap cur hg s hroom (by omega)
      refine ⟨_, _, hr, ⟨hlen, .inr ⟨g, cap, _, rfl, hbg, setRow_heap w g cur _ e _ hg, hroom, hcm, ?_, ?_⟩⟩, ⟨rfl, rfl, rfl, by simp, fun k _ hk => setRow_other w g k _ (fun e => hk (by simp [Value.ownBlock, e]))⟩, .inl rfl⟩
      · simp only [List.size_toArray, List.length_append, List.length_take, List.length_drop, Array.length_toList, Lib.strCells_length]
        omega
      · have ht' : cur.toList.take n = xs := by simpa using htake
        rw [ht', ← hlen]
        exact List.take_left
    · have holds : ∀ j u, xs[j]? = some u → w.cell? ((⟨g, 0, none⟩ : Addr).add j) = some u := hown.cells (g := g) rfl
      have hr := Lib.run_append_grow_string (P := P) w t u ty e i (.int .u8 0) ht hu hi hz ⟨g, 0, none⟩ n cap xs (by rw [hsize]; simpa using hxl) holds s (by omega) (by omega) (by rw [hby]; exact growslice_fits_wide (by omega) (by omega))
      have hgr := grown cap (by omega) (Value.ownBlock (.slice (some ⟨g, 0, none⟩) n cap))
      exact ⟨_, _, hr, hgr.1, hgr.2, .inr ⟨_, rfl, Nat.le_refl _⟩⟩

theorem appS_sound {ps : List Prop} {K : Act → World → Prop} (h : Rel C W0 F0 st a w F φ) (hT : TysOK C) (hs : absAppS C st o = some (st', ps)) (hps : ∀ p ∈ ps, p)
    (hK : ∀ a' w' F' φ', Rel C W0 F0 st' a' w' F' φ' → K a' w') : o.guard = none ∧ o.wp C.P a w K Q := by
  unfold absAppS at hs
  split at hs
  case h_2 => cases hs
  rename_i c d ho hdst hg
  split at hs
  case h_2 => cases hs
  rename_i x y t t' hc hargs htys
  split at hs
  case h_2 => cases hs
  rename_i te te' v l h1 h1' h2 h3
  split at hs
  case h_2 => cases hs
  rename_i el k1 k2
  split at hs
  case h_2 => cases hs
  rename_i ie hie
  split at hs
  case h_2 => cases hs
  rename_i z hz
  have ea : c.args = #[x, y] := by rw [← Array.toArray_toList (xs := c.args), hargs]
  have et : c.argTypes = #[t, t'] := by rw [← Array.toArray_toList (xs := c.argTypes), htys]
  have hu := kind_slice (hT _ _ h1) k1
  have hu' := kind_string (hT _ _ h1') k2
  have hg' := hg
  have hV := h.ev h2
  obtain ⟨s, hsv, hsl⟩ : ∃ s : ByteArray, a.eval y = .string s ∧ s.data.toList = l := by
    have := h.ev h3
    generalize a.eval y = u at this
    cases this with
    | stat h => cases h with | str s => exact ⟨s, rfl, rfl⟩
  subst hsl
  have hsize : s.size = s.data.toList.length := by rw [Array.length_toList]; rfl
  have fin : ∀ {v' : Value} {w' : World}, (Builtin.append_ #[t, t'] o.type #[a.eval x, .string s]).run C.P w = .ok v' w' → K (a.put o.dst v') w' → o.wp C.P a w K Q := by
    intro v' w' hrun hnx
    unfold Oper.wp
    have : (execOp a.eval o).run C.P w = .ok (.value v') w' := by
      refine call_builtin ho hc ?_
      rw [ea, et]
      simp only [builtin, Sem.run_bind]
      have : (#[x, y].map a.eval) = #[a.eval x, a.eval y] := by simp
      rw [this, hsv, hrun]
      rfl
    rw [this]
    exact hnx
  have grow2 : ∀ {w' : World}, w.grownBy w' none → Below w.heap.size w w' := fun hg => (Below.refl _ _).grown hg (Nat.le_refl _) (by simp)
  have fresh8 : ∀ {v v' : Value}, True := fun {_ _} => trivial
  split at hs
  · -- nil
    rename_i hcond
    split at hs
    case h_2 => cases hs
    rename_i hfr
    cases hs
    simp only [Bool.and_eq_true, decide_eq_true_eq] at hcond
    obtain ⟨⟨⟨z0, z1⟩, z2⟩, hd⟩ := hcond
    subst z0
    have z1 := Nat.eq_of_beq_eq_true z1
    have z2 := Nat.eq_of_beq_eq_true z2
    have hd := Nat.le_of_ble_eq_true hd
    have o1 : (s.data.toList.length : Int) ≤ 225179981368000 := hps _ (by simp)
    have hVn : a.eval x = .slice none 0 0 := by
      generalize a.eval x = v at hV
      cases hV with | stat hV => cases hV; rfl
    obtain ⟨v', w', hrun, h4, h5, h6⟩ := append_str (ty := o.type) hu hu' hie hz z1 z2 (World.ownsRow_nil w 0 el 1) s (by omega)
    rw [Nat.zero_add, List.nil_append, hsize] at h4
    have hblk : v'.ownBlock = none ∨ ∃ g, v'.ownBlock = some g ∧ w.heap.size ≤ g := h6
    rw [← hVn] at hrun
    refine ⟨hg, fin hrun ?_⟩
    have hb := grow2 h5
    have hR := h.grown hb (fun _ hk => hk) (fun k hk => .inl hk) fun k hk => Nat.lt_of_lt_of_le (h.ro k hk) hb.size
    obtain ⟨pl, p1, p2, p3, p4⟩ := boxOK_of_own (F := F) (B := W0.B) (base := 0) (b := d) (f := strRow s.data.toList) (φ := φ) (sh := .leaf) h4 (fun k hk => by
      rcases hblk with h6 | ⟨g, h6, h7⟩
      · rw [h6] at hk; cases hk
      · rw [h6] at hk; cases hk; exact h.bnew h7) (fun k hk hF => by
      rcases hblk with h6 | ⟨g, h6, h7⟩
      · rw [h6] at hk; cases hk
      · rw [h6] at hk; cases hk; have := h.ro _ hF; omega) (strCells_rep w' F s.data.toList)
    obtain ⟨B1, B2⟩ := p4 (fun k => if k = d then pl else φ k) (by simp)
    rw [hdst]
    exact hK _ _ _ _ ((hR.addBox hfr rfl pl (fun b c' gg hb' hg' hp => by
      rw [p1] at hp
      rcases hblk with h6 | ⟨g, h6, h7⟩
      · rw [h6] at hp; cases hp
      · rw [h6] at hp; cases hp; have := ((h.heap b c' hb').lt hg').1; omega) B1).putV hd B2)
  · -- the call's own
    rename_i b n hcond
    split at hs
    case h_2 => cases hs
    rename_i ty sh n' f hb
    split at hs
    case h_2 => cases hs
    rename_i hcnd
    cases hs
    simp only [Bool.and_eq_true, decide_eq_true_eq] at hcond hcnd
    obtain ⟨⟨⟨z0, z1⟩, z2⟩, hd⟩ := hcond
    subst z0
    have z1 := Nat.eq_of_beq_eq_true z1
    have z2 := Nat.eq_of_beq_eq_true z2
    have hd := Nat.le_of_ble_eq_true hd
    have e1 := Nat.eq_of_beq_eq_true hcnd.1
    have es := Shape.same_eq _ _ hcnd.2
    subst e1 es
    obtain ⟨o0, o1⟩ : n = n' ∧ ((n + s.data.toList.length : Nat) : Int) ≤ 225179981368000 := hps _ (by simp)
    subst o0
    obtain ⟨xs, hown, hob1, hxs⟩ := own_of_box (h.heap b _ hb) hV rfl
    obtain ⟨v', w', hrun, h4, h5, hblk⟩ := append_str (ty := o.type) hu hu' hie hz z1 z2 hown s (by omega)
    refine ⟨hg, fin hrun ?_⟩
    rw [hsize] at h4
    have hFn : ∀ k, v'.ownBlock = some k → ¬ F k := by
      intro k hk hF
      rcases hblk with h6 | ⟨g, h6, h7⟩
      · rw [h6] at hk; exact ((h.heap b _ hb).lt (hob1 k hk)).2.1 hF
      · rw [h6] at hk; cases hk; have := h.ro _ hF; omega
    have hkeep : ∀ k, F k → w'.heap[k]? = w.heap[k]? := fun k hk => h5.block k (h.ro k hk) fun e => ((h.heap b _ hb).lt (hob1 k e.symm)).2.1 hk
    obtain ⟨pl, p1, p2, p3, p4⟩ := boxOK_of_own (F := F) (B := W0.B) (base := 0) (b := b) (f := fun i => if i < n then f i else strRow s.data.toList (i - n)) (φ := φ) (sh := .leaf) h4 (fun k hk => by
      rcases hblk with h6 | ⟨g, h6, h7⟩
      · rw [h6] at hk; exact ((h.heap b _ hb).lt (hob1 k hk)).2.2
      · rw [h6] at hk; cases hk; exact h.bnew h7) hFn (fun i hi j hj => by
      obtain ⟨uu, hu1, hu2⟩ := append_elems hown.1 hxs (strCells_rep w F s.data.toList) i hi j hj
      exact ⟨uu, hu1, hu2.keep hkeep fun _ hk => hk⟩)
    obtain ⟨B1, B2⟩ := p4 (fun k => if k = b then pl else φ k) (by simp)
    rw [hdst]
    exact hK _ _ _ _ ((h.growBox hb h5 rfl (fun gg hg => hob1 gg hg) pl (fun gg hg => by
      rw [p1] at hg
      rcases hblk with h6 | ⟨g, h6, h7⟩
      · rw [h6] at hg; exact .inl (hob1 gg hg)
      · rw [h6] at hg; cases hg; exact .inr h7) B1).putV hd B2)
  · cases hs
end
end Go.AV
/- A call whose answer owns a row: the row becomes the caller's. -/
namespace Go.AV
open Go.RowKit

/-- Rows come in, called n, n + 1, .. -/
def addRows (st : St) (n : Nat) : List BoxC → Option St
  | [] => some st
  | c :: cs => match freshBox st n && c.isRow with
    | true => addRows { st with heap := put st.heap n c } (n + 1) cs
    | false => none
def absFresh (C : Cfg) (orc : FuncId → List AV → Option AV) (st : St) (o : Oper) : Option (St × List Prop) :=
  match o.op, o.dst, o.guard with
  | .call c, some d, none => match c.callee with
    | .value fx => match ev C st fx, evList (ev C st) c.args.toList with
      | some (.clo f []), some args => match orc f args, C.fresh f args with
        | some r, some cs => match (AV.areStat args && Nat.blt d C.ntmps) && goodRes (below cs.length) r, addRows st ((d + 1) * 4096) cs with
          | true, some st1 => some ({ st1 with env := put st1.env d (r.sub fun b => (d + 1) * 4096 + b) }, [C.CCF f args r cs])
          | _, _ => none
        | _, _ => none
      | _, _ => none
    | _ => none
  | _, _, _ => none

section
variable {C : Cfg} {W0 : Entry} {F0 : Nat → Prop} {st st' : St} {a : Act} {w : World} {F : Nat → Prop} {φ : Nat → Place} {CC : FuncId → List AV → AV → Prop} {o : Oper} {orc : FuncId → List AV → Option AV}
  {Q : Exit → Act → World → Prop}

theorem BoxOK.base {base base' : Nat → Prop} {b : Nat} {c : BoxC} (h : BoxOK w F φ base b c) (hb : ∀ k, base k → base' k) : BoxOK w F φ base' b c := by
  cases c with
  | cell tc sh x =>
    obtain ⟨h0, g, cs, h1, h2, h3⟩ := h
    exact ⟨h0, g, cs, h1, hb _ h2, h3⟩
  | row ty sh n f =>
    obtain ⟨h0, h0', h⟩ := h
    refine ⟨h0, h0', ?_⟩
    rcases h with h | ⟨g, cs, h1, h2, h3⟩
    · exact .inl h
    · exact .inr ⟨g, cs, h1, hb _ h2, h3⟩
/-- A box comes in that lies apart from all others. -/
theorem Rel.addOwn (h : Rel C W0 F0 st a w F φ) {d : Nat} {c : BoxC} (hf : freshBox st d = true) (hc : c.names d = false) (pl : Place)
    (hB : BoxOK w F (fun k => if k = d then pl else φ k) W0.B d c) (hd : ∀ g, pl.blk = some g → ∀ b c', get st.heap b = some c' → (φ b).blk ≠ some g) :
    Rel C W0 F0 { st with heap := put st.heap d c } a w F (fun k => if k = d then pl else φ k) := by
  simp only [freshBox, Bool.not_eq_true', Bool.or_eq_false_iff] at hf
  obtain ⟨fe, fh, fl⟩ := hf
  refine ⟨fun s x hs => ?_, fun b c' hc' => ?_, ?_, h.ro, h.base, h.sub, h.new, h.dfr, h.tsz, h.glob, anc_put h.anc fl⟩
  · obtain ⟨v, hv, hr⟩ := h.env s x hs
    refine ⟨v, hv, hr.keep (fun _ _ => rfl) (fun _ hk => hk) fun b hb => update_other φ d pl fun e => ?_⟩
    subst e
    rw [namesEnv_get hs fe] at hb; cases hb
  · by_cases e : b = d
    · subst e
      rw [get_put_same] at hc'
      cases hc'
      exact hB
    · rw [get_put_other _ _ _ _ e] at hc'
      have hb := h.heap b c' hc'
      refine hb.keep (fun _ _ => rfl) (fun _ hk => hk) (fun g hg => ⟨rfl, (hb.lt hg).2.1⟩) (update_other φ d pl e) fun b' hb' => update_other φ d pl fun e => ?_
      subst e
      rw [(namesHeap_get hc' fh).1] at hb'; cases hb'
  · intro b b' c1 c2 g h1 h2 h3 h4
    by_cases e : b = d
    · by_cases e' : b' = d
      · omega
      · rw [get_put_other _ _ _ _ e'] at h2
        simp only [e, if_true] at h3
        simp only [e', if_false] at h4
        exact absurd h4 (hd g h3 b' c2 h2)
    · by_cases e' : b' = d
      · rw [get_put_other _ _ _ _ e] at h1
        simp only [e', if_true] at h4
        simp only [e, if_false] at h3
        exact absurd h3 (hd g h4 b c1 h1)
      · rw [get_put_other _ _ _ _ e] at h1
        rw [get_put_other _ _ _ _ e'] at h2
        simp only [e, if_false] at h3
        simp only [e', if_false] at h4
        exact h.inj b b' c1 c2 g h1 h2 h3 h4

theorem Rel.addRows : ∀ (cs : List BoxC) (n i : Nat) (st st' : St) (φ φ' : Nat → Place), Rel C W0 F0 st a w F φ → addRows st n cs = some st' → (∀ j c, cs[j]? = some c → BoxOK w F φ' W0.B (i + j) c) →
    (∀ j j' g, j < cs.length → j' < cs.length → (φ' (i + j)).blk = some g → (φ' (i + j')).blk = some g → j = j') → (∀ j g b c, j < cs.length → (φ' (i + j)).blk = some g → get st.heap b = some c → (φ b).blk ≠ some g) →
    ∃ φ2, Rel C W0 F0 st' a w F φ2 ∧ (∀ j, j < cs.length → φ2 (n + j) = φ' (i + j)) ∧ ∀ b, (b < n ∨ n + cs.length ≤ b) → φ2 b = φ b
  | [], n, i, st, st', φ, φ', h, hs, _, _, _ => by
    simp only [AV.addRows, Option.some.injEq] at hs
    subst hs
    exact ⟨φ, h, fun j hj => by simp at hj, fun _ _ => rfl⟩
  | c :: cs, n, i, st, st', φ, φ', h, hs, hB, hinj, hd => by
    simp only [AV.addRows] at hs
    split at hs
    case h_2 => cases hs
    rename_i hc
    simp only [Bool.and_eq_true] at hc
    obtain ⟨ty, sh, m, f, rfl⟩ : ∃ ty sh m f, c = .row ty sh m f := by
      cases c with
      | cell => cases hc.2
      | row ty sh m f => exact ⟨ty, sh, m, f, rfl⟩
    have h0 := hB 0 _ rfl
    have hB' : BoxOK w F (fun k => if k = n then φ' i else φ k) W0.B n (.row ty sh m f) := by
      obtain ⟨b1, b2, b3⟩ := h0
      refine ⟨by simpa using b1, by simpa using b2, ?_⟩
      simp only [if_true]
      exact b3
    have h1 := h.addOwn (d := n) hc.1 rfl (φ' i) hB' fun g hg b c' hc' hb => hd 0 g b c' (by simp) hg hc' hb
    obtain ⟨φ2, k1, k2, k3⟩ := Rel.addRows cs (n + 1) (i + 1) _ st' _ φ' h1 hs (fun j c hj => by
        have := hB (j + 1) c (by simpa using hj)
        rwa [show i + 1 + j = i + (j + 1) from by omega]) (fun j j' g hj hj' e e' => by
        have := hinj (j + 1) (j' + 1) g (by simpa using hj) (by simpa using hj') (by rwa [show i + (j + 1) = i + 1 + j from by omega]) (by rwa [show i + (j' + 1) = i + 1 + j' from by omega])
        omega) (fun j g b c' hj hg hc' hb => by
        rw [show i + 1 + j = i + (j + 1) from by omega] at hg
        by_cases e : b = n
        · subst e
          simp only [if_true] at hb
          have := hinj 0 (j + 1) g (by simp) (by simpa using hj) hb hg
          omega
        · simp only [e, if_false] at hb
          simp only [get_put_other _ _ _ _ e] at hc'
          exact hd (j + 1) g b c' (by simpa using hj) hg hc' hb)
    refine ⟨φ2, k1, fun j hj => ?_, fun b hb => ?_⟩
    · cases j with
      | zero => rw [Nat.add_zero, k3 n (by omega)]; simp
      | succ j => rw [show n + (j + 1) = n + 1 + j from by omega, k2 j (by simpa using hj)]; congr 1; omega
    · simp only [List.length_cons] at hb
      rw [k3 b (by omega)]
      simp only [show b ≠ n from by omega, if_false]

theorem fresh_sound {ps : List Prop} {K : Act → World → Prop} (h : Rel C W0 F0 st a w F φ) (hCCF : ∀ f as r cs, C.CCF f as r cs → CallOK C.P f ∧ RFresh C.P C.G f as r cs) (hs : absFresh C orc st o = some (st', ps)) (hps : ∀ p ∈ ps, p)
    (hK : ∀ a' w' F' φ', Rel C W0 F0 st' a' w' F' φ' → K a' w') : o.guard = none ∧ o.wp C.P a w K Q := by
  unfold absFresh at hs
  split at hs
  case h_2 => cases hs
  rename_i c d ho hdst hg
  split at hs
  case h_2 => cases hs
  rename_i fx hcal
  split at hs
  case h_2 => cases hs
  rename_i f args h1 h2
  split at hs
  case h_2 => cases hs
  rename_i r cs h3 h4
  split at hs
  case h_2 => cases hs
  rename_i st1 hc hst1
  cases hs
  refine ⟨hg, ?_⟩
  simp only [Bool.and_eq_true] at hc
  obtain ⟨⟨hst, hd⟩, hgood⟩ := hc
  have hd := Nat.le_of_ble_eq_true hd
  obtain ⟨hok, hcall⟩ := hCCF f args r cs (hps _ (by simp))
  obtain ⟨n1, n2⟩ := evList_rep h2 (fun x _ u hu => h.ev hu)
  have hfv : ∃ cv : Array Value, a.eval fx = .func (.func f) #[] cv ∧ cv.size = 0 := by
    have := h.ev h1
    generalize a.eval fx = v at this
    cases this with
    | stat hv => cases hv with | clo _ cv _ hs hc => exact ⟨cv, rfl, hs⟩
    | clo _ cv _ hs hc => exact ⟨cv, rfl, hs⟩
  obtain ⟨cv, hfv, hcv⟩ := hfv
  obtain rfl : cv = #[] := Array.eq_empty_of_size_eq_zero hcv
  have hrun : (execOp a.eval o).run C.P w = .ok (.enter f (c.args.map a.eval)) w := by
    obtain ⟨callee, args', tys⟩ := c
    cases hcal
    simp only [execOp, ho, resolve, Sem.run_bind, hfv]
    simp only [Deferred.ofValue, Sem.run_pure, Result.andThen_ok, invoke, Array.empty_append, Array.append_empty]
    exact hok _ w
  unfold Oper.wp
  rw [hrun]
  show Calls C.P f _ w _
  refine (hcall w F _ h.ro h.glob (by simpa using n1) fun j hj => ?_).mono ?_
  · have := n2 j hj
    have h5 : Rep w F φ ((c.args.map a.eval).getD j undef) (args.getD j .any) := by simpa [Array.getD_eq_getD_getElem?, List.getD_eq_getElem?_getD] using this
    exact h5.toS (areStat_getD hst j)
  · rintro en w' ⟨v, F', φ', rfl, hb, f1, f2, f3, hv, hbox, hinj⟩
    have hR := h.grown hb f1 f2 f3
    have hlen : ∀ j, j < cs.length → ∃ c, cs[j]? = some c := fun j hj => ⟨_, List.getElem?_eq_getElem hj⟩
    obtain ⟨φ2, k1, k2, _⟩ := hR.addRows cs ((d + 1) * 4096) 0 st st1 φ φ' hst1 (fun j c hj => by
        rw [Nat.zero_add]
        exact (hbox j c hj).base fun k hk => h.bnew hk) (fun j j' g hj hj' e e' => by
        rw [Nat.zero_add] at e e'
        exact hinj j j' g hj hj' e e') (fun j g b c' hj hg hc' hb' => by
        rw [Nat.zero_add] at hg
        obtain ⟨c, hc⟩ := hlen j hj
        have := ((hbox j c hc).lt hg).2.2
        have := ((h.heap b c' hc').lt hb').1
        omega)
    show K (a.put o.dst v) w'
    rw [hdst]
    exact hK _ _ _ _ (k1.putV hd (sub_res (φ := φ') (n := fun b => (d + 1) * 4096 + b) (fun b hb => by have := k2 b (Nat.le_of_ble_eq_true hb); rwa [Nat.zero_add] at this) hgood hv))
end
end Go.AV
/- A call to which boxes are lent: what the caller knows afterwards. -/
namespace Go.AV
open Go.RowKit

def inN (b : Nat) : List Nat → Bool
  | [] => false
  | k :: l => Nat.beq k b || inN b l
def nodupN : List Nat → Bool
  | [] => true
  | k :: l => !inN k l && nodupN l
theorem inN_iff {b : Nat} : ∀ {l : List Nat}, inN b l = true ↔ b ∈ l
  | [] => by simp [inN]
  | k :: l => by
    simp only [inN, Bool.or_eq_true, inN_iff (l := l), List.mem_cons]
    constructor
    · rintro (h | h)
      · exact .inl (Nat.eq_of_beq_eq_true h).symm
      · exact .inr h
    · rintro (rfl | h)
      · exact .inl (Nat.beq_refl b)
      · exact .inr h

/-- The boxes of the list, and the others. -/
def selAll (ks : List Nat) : List (Nat × BoxC) → List (Nat × BoxC)
  | [] => []
  | (k, c) :: l => match inN k ks with | true => (k, c) :: selAll ks l | false => selAll ks l
def dropAll (ks : List Nat) : List (Nat × BoxC) → List (Nat × BoxC)
  | [] => []
  | (k, c) :: l => match inN k ks with | true => dropAll ks l | false => (k, c) :: dropAll ks l
theorem get_selAll {ks : List Nat} {b : Nat} {c : BoxC} : ∀ {l : List (Nat × BoxC)}, get (selAll ks l) b = some c → get l b = some c ∧ b ∈ ks
  | [], h => by simp [selAll, get] at h
  | (k, d) :: l, h => by
    simp only [selAll] at h
    split at h
    · rename_i hk
      simp only [get] at h ⊢
      split at h
      · rename_i e
        cases h
        exact ⟨rfl, Nat.eq_of_beq_eq_true e ▸ inN_iff.1 hk⟩
      · exact get_selAll h
    · rename_i hk
      obtain ⟨h1, h2⟩ := get_selAll h
      refine ⟨?_, h2⟩
      simp only [get]
      split
      · rename_i e
        rw [Nat.eq_of_beq_eq_true e] at hk
        rw [inN_iff.2 h2] at hk; cases hk
      · exact h1
theorem get_dropAll {ks : List Nat} {b : Nat} {c : BoxC} : ∀ {l : List (Nat × BoxC)}, get (dropAll ks l) b = some c → get l b = some c ∧ b ∉ ks
  | [], h => by simp [dropAll, get] at h
  | (k, d) :: l, h => by
    simp only [dropAll] at h
    split at h
    · rename_i hk
      obtain ⟨h1, h2⟩ := get_dropAll h
      refine ⟨?_, h2⟩
      simp only [get]
      split
      · rename_i e
        rw [Nat.eq_of_beq_eq_true e] at hk
        exact absurd (inN_iff.1 hk) h2
      · exact h1
    · rename_i hk
      simp only [get] at h ⊢
      split at h
      · rename_i e
        cases h
        refine ⟨rfl, fun hm => ?_⟩
        rw [Nat.eq_of_beq_eq_true e, inN_iff.2 hm] at hk; cases hk
      · exact get_dropAll h

mutual
/-- The boxes that a value names. -/
def AV.boxes : AV → List Nat
  | .own b _ | .ptr b _ | .optr b _ _ => [b]
  | .agg l | .tup l => AV.boxesL l
  | .mc _ x => x.boxes
  | _ => []
def AV.boxesL : List AV → List Nat
  | [] => []
  | x :: l => x.boxes ++ AV.boxesL l
end
/-- All that is reached, in the order in which it comes up. -/
def reach (h : List (Nat × BoxC)) : Nat → List Nat → List Nat → List Nat
  | 0, _, acc => acc
  | _ + 1, [], acc => acc
  | n + 1, b :: l, acc => match inN b acc with
    | true => reach h n l acc
    | false => match get h b with
      | some (.cell _ _ x) => reach h n (x.boxes ++ l) (acc ++ [b])
      | _ => reach h n l (acc ++ [b])
def contents (h : List (Nat × BoxC)) : List Nat → Option (List BoxC)
  | [] => some []
  | b :: l => match get h b, contents h l with
    | some c, some cs => some (c :: cs)
    | _, _ => none
def idxN : List Nat → Nat → Nat
  | [], _ => 0
  | k :: l, b => match Nat.beq k b with | true => 0 | false => idxN l b + 1
def subBoxes (n : Nat → Nat) : List BoxC → List BoxC
  | [] => []
  | c :: l => c.sub n :: subBoxes n l
def nthN : List Nat → Nat → Option Nat
  | [], _ => none
  | k :: _, 0 => some k
  | _ :: l, i + 1 => nthN l i
/-- Box number i of the callee's, as the caller calls it. -/
def nameL (ns : List Nat) (d i : Nat) : Nat := match nthN ns i with | some b => b | none => (d + 1) * 4096 + (i - ns.length)
/-- The boxes whose place may have turned. -/
def goneN : List Nat → List BoxC → List (Option BoxC) → List Nat
  | b :: ns, c :: hs, o :: os => match c, o with
    | .cell _ _ _, some _ => goneN ns hs os
    | _, _ => b :: goneN ns hs os
  | ns, _, _ => ns
def killsEnv : List Nat → List (Nat × AV) → List (Nat × AV)
  | [], e => e
  | b :: l, e => killsEnv l (killEnv b e)
def killsHeap : List Nat → List (Nat × BoxC) → List (Nat × BoxC)
  | [], h => h
  | b :: l, h => killsHeap l (killHeap b h)
def layL (nm : Nat → Nat) : List Nat → List (Option BoxC) → List (Nat × BoxC) → List (Nat × BoxC)
  | b :: ns, some c :: os, h => put (layL nm ns os h) b (c.sub nm)
  | _ :: ns, none :: os, h => layL nm ns os h
  | _, _, h => h
/-- What was made anew. -/
def restL : List Nat → List (Option BoxC) → Option (List BoxC)
  | _ :: ns, _ :: os => restL ns os
  | _ :: _, [] => none
  | [], [] => some []
  | [], some c :: os => match restL [] os with | some l => some (c :: l) | none => none
  | [], none :: _ => none
def isAt : List (Option BoxC) → Nat → Bool
  | [], _ => false
  | o :: _, 0 => o.isSome
  | _ :: os, i + 1 => isAt os i
def onlyAll (m : Nat → Bool) : List BoxC → Bool
  | [] => true
  | c :: l => c.only m && onlyAll m l
def onlyAllO (m : Nat → Bool) : List (Option BoxC) → Bool
  | [] => true
  | some c :: l => c.only m && onlyAllO m l
  | none :: l => onlyAllO m l
/-- A cell stays a cell. -/
def kindsL : List BoxC → List (Option BoxC) → Bool
  | c :: hs, some o :: os => (match c.isRow, o.isRow with | true, true => true | false, false => true | _, _ => false) && kindsL hs os
  | _ :: hs, none :: os => kindsL hs os
  | _, _ => true
def dstL (C : Cfg) : Option Nat → Nat → Bool
  | some d, _ => Nat.blt d C.ntmps
  | none, n => Nat.beq n 0
def apartN (n m : Nat) : List Nat → Bool
  | [] => true
  | b :: l => (Nat.blt b n || Nat.ble m b) && apartN n m l
def dstN : Option Nat → Nat
  | some d => d
  | none => 0
def lentW (C : Cfg) (st : St) (dst : Option Nat) (f : FuncId) (args : List AV) (ns : List Nat) (hs : List BoxC) (r : AV) (os : List (Option BoxC)) : Option (St × List Prop) :=
  match restL ns os with
  | some cs => match AV.only0L (fun b => inN b ns) args && areVals args && nodupN ns && onlyAll (fun b => inN b ns) hs && goodRes (isAt os) r && onlyAllO (isAt os) os && kindsL hs os && dstL C dst cs.length && apartN ((dstN dst + 1) * 4096) ((dstN dst + 1) * 4096 + cs.length) ns,
      addRows ⟨killsEnv (goneN ns hs os) st.env, dropAll ns (killsHeap (goneN ns hs os) st.heap)⟩ ((dstN dst + 1) * 4096) cs with
    | true, some st1 => some (putDst { st1 with heap := layL (nameL ns (dstN dst)) ns os st1.heap } dst (r.sub (nameL ns (dstN dst))), [C.CCL f (AV.subL (idxN ns) args) (subBoxes (idxN ns) hs) r os])
    | _, _ => none
  | none => none
def lentV (C : Cfg) (st : St) (dst : Option Nat) (f : FuncId) (args : List AV) (ns : List Nat) : Option (St × List Prop) :=
  match contents st.heap ns with
  | some hs => match C.lent f (AV.subL (idxN ns) args) (subBoxes (idxN ns) hs) with
    | some (r, os) => lentW C st dst f args ns hs r os
    | none => none
  | none => none
def absLent (C : Cfg) (st : St) (o : Oper) : Option (St × List Prop) :=
  match o.op, o.guard with
  | .call c, none => match c.callee with
    | .value fx => match ev C st fx, evList (ev C st) c.args.toList with
      | some (.clo f []), some args => lentV C st o.dst f args (reach st.heap 64 (AV.boxesL args) [])
      | _, _ => none
    | _ => none
  | _, _ => none

theorem apartN_get {n m : Nat} : ∀ {l : List Nat} {b : Nat}, apartN n m l = true → b ∈ l → b < n ∨ m ≤ b
  | [], _, _, h => by cases h
  | k :: l, b, ha, h => by
    simp only [apartN, Bool.and_eq_true, Bool.or_eq_true] at ha
    rcases List.mem_cons.1 h with rfl | h
    · exact ha.1.imp (fun h => Nat.le_of_ble_eq_true h) fun h => Nat.le_of_ble_eq_true h
    · exact apartN_get ha.2 h
theorem killsEnv_get : ∀ {ks : List Nat} {l : List (Nat × AV)} {s : Nat} {x : AV}, get (killsEnv ks l) s = some x → ∃ y, get l s = some y ∧ ((y = x ∧ ∀ b ∈ ks, x.names b = false) ∨ x = .when false .any)
  | [], l, s, x, h => ⟨x, h, .inl ⟨rfl, fun b hb => by cases hb⟩⟩
  | k :: ks, l, s, x, h => by
    simp only [killsEnv] at h
    obtain ⟨y, hy, hc⟩ := killsEnv_get h
    obtain ⟨z, hz, hc'⟩ := killEnv_get hy
    refine ⟨z, hz, ?_⟩
    rcases hc with ⟨rfl, hc⟩ | hc
    · rcases hc' with ⟨rfl, hc'⟩ | hc'
      · exact .inl ⟨rfl, fun b hb => by
          rcases List.mem_cons.1 hb with rfl | hb
          · exact hc'
          · exact hc b hb⟩
      · exact .inr hc'
    · exact .inr hc
/-- Kept, part by part, or not known. -/
def KilledBox (ks : List Nat) (d c : BoxC) : Prop :=
  c.isRow = d.isRow ∧ match d, c with
  | .row ty sh n f, c => c = .row ty sh n f
  | .cell tc sh x, .cell tc' sh' y => tc' = tc ∧ sh' = sh ∧ ∀ j, (leafAt sh y j = leafAt sh x j ∧ ∀ b ∈ ks, (leafAt sh x j).names b = false) ∨ leafAt sh y j = .any
  | .cell _ _ _, .row _ _ _ _ => False
theorem killsHeap_get : ∀ {ks : List Nat} {l : List (Nat × BoxC)} {s : Nat} {c : BoxC}, get (killsHeap ks l) s = some c → ∃ d, get l s = some d ∧ KilledBox ks d c
  | [], l, s, c, h => ⟨c, h, rfl, by
      cases c with
      | row => rfl
      | cell tc sh x => exact ⟨rfl, rfl, fun j => .inl ⟨rfl, fun b hb => by cases hb⟩⟩⟩
  | k :: ks, l, s, c, h => by
    simp only [killsHeap] at h
    obtain ⟨d, hd, hc⟩ := killsHeap_get h
    obtain ⟨d0, hd0, rfl⟩ := killHeap_get hd
    refine ⟨d0, hd0, hc.1.trans kill_isRow, ?_⟩
    cases d0 with
    | row ty sh n f => exact hc.2
    | cell tc sh x =>
      have e : BoxC.kill k (.cell tc sh x) = .cell tc sh (x.kill k) ∨ (BoxC.kill k (.cell tc sh x) = .cell tc sh x ∧ x.names k = false) := by
        simp only [BoxC.kill]
        cases hx : x.names k with
        | true => exact .inl rfl
        | false => exact .inr ⟨rfl, rfl⟩
      rcases e with e | ⟨e, hx⟩ <;> rw [e] at hc <;> cases c with
      | row => exact hc.2.elim
      | cell tc' sh' y =>
        obtain ⟨_, rfl, rfl, hc⟩ := hc
        refine ⟨rfl, rfl, fun j => ?_⟩
        rcases hc j with ⟨h1, h2⟩ | h1
        · first
          | rcases kill_leafAt (b := k) sh' x j with ⟨h3, h4⟩ | h3
            · rw [h3] at h1 h2
              exact .inl ⟨h1, fun b hb => by
                rcases List.mem_cons.1 hb with rfl | hb
                · exact h4
                · exact h2 b hb⟩
            · exact .inr (h1.trans h3)
          | exact .inl ⟨h1, fun b hb => by
                rcases List.mem_cons.1 hb with rfl | hb
                · cases hn : (leafAt sh' x j).names b with
                  | false => rfl
                  | true => rw [names_leafAt sh' x j hn] at hx; cases hx
                · exact h2 b hb⟩
        · exact .inr h1
theorem idxN_get : ∀ {l : List Nat} {b : Nat}, inN b l = true → l[idxN l b]? = some b
  | [], _, h => by cases h
  | k :: l, b, h => by
    simp only [idxN]
    cases e : Nat.beq k b with
    | true => simp [Nat.eq_of_beq_eq_true e]
    | false => simp only [inN, e, Bool.false_or] at h; simpa using idxN_get h
theorem idxN_at : ∀ {l : List Nat} {i b : Nat}, nodupN l = true → l[i]? = some b → idxN l b = i
  | [], _, _, _, h => by simp at h
  | k :: l, 0, b, _, h => by simp at h; subst h; simp [idxN]
  | k :: l, i + 1, b, hn, h => by
    simp only [nodupN, Bool.and_eq_true, Bool.not_eq_true'] at hn
    simp at h
    have : Nat.beq k b = false := by
      cases e : Nat.beq k b with
      | false => rfl
      | true => rw [Nat.eq_of_beq_eq_true e, inN_iff.2 (List.mem_of_getElem? h)] at hn; cases hn.1
    simp only [idxN, this]
    rw [idxN_at hn.2 h]
theorem contents_get : ∀ {l : List Nat} {h : List (Nat × BoxC)} {cs : List BoxC}, contents h l = some cs → l.length = cs.length ∧ ∀ (i b : Nat), l[i]? = some b → ∃ c, cs[i]? = some c ∧ get h b = some c
  | [], h, cs, e => by simp [contents] at e; subst e; exact ⟨rfl, fun i b h => by simp at h⟩
  | k :: l, h, cs, e => by
    simp only [contents] at e
    split at e
    case h_2 => cases e
    rename_i c cs' h1 h2
    cases e
    obtain ⟨k1, k2⟩ := contents_get h2
    refine ⟨by simp [k1], fun i b hb => ?_⟩
    cases i with
    | zero => simp at hb; subst hb; exact ⟨c, rfl, h1⟩
    | succ i => simp at hb; obtain ⟨c', h3, h4⟩ := k2 i b hb; exact ⟨c', by simpa using h3, h4⟩
theorem subBoxes_get (n : Nat → Nat) : ∀ {l : List BoxC} {i : Nat} {c : BoxC}, (subBoxes n l)[i]? = some c → ∃ d, l[i]? = some d ∧ c = d.sub n
  | [], _, _, h => by simp [subBoxes] at h
  | d :: l, 0, c, h => by simp [subBoxes] at h; exact ⟨d, rfl, h.symm⟩
  | d :: l, i + 1, c, h => by simp [subBoxes] at h; simpa using subBoxes_get n h
theorem subBoxes_len (n : Nat → Nat) : ∀ l : List BoxC, (subBoxes n l).length = l.length
  | [] => rfl
  | c :: l => by simp [subBoxes, subBoxes_len n l]
theorem subBoxes_at (n : Nat → Nat) : ∀ {l : List BoxC} {i : Nat} {c : BoxC}, l[i]? = some c → (subBoxes n l)[i]? = some (c.sub n)
  | [], _, _, h => by simp at h
  | d :: l, 0, c, h => by simp at h; subst h; rfl
  | d :: l, i + 1, c, h => by simp at h; simpa [subBoxes] using subBoxes_at n h
theorem onlyAll_get {m : Nat → Bool} : ∀ {l : List BoxC} {i : Nat} {c : BoxC}, onlyAll m l = true → l[i]? = some c → c.only m = true
  | [], _, _, _, h => by simp at h
  | d :: l, 0, c, ho, h => by simp only [onlyAll, Bool.and_eq_true] at ho; simp at h; subst h; exact ho.1
  | d :: l, i + 1, c, ho, h => by simp only [onlyAll, Bool.and_eq_true] at ho; simp at h; exact onlyAll_get ho.2 h
theorem onlyAllO_get {m : Nat → Bool} : ∀ {l : List (Option BoxC)} {i : Nat} {c : BoxC}, onlyAllO m l = true → l[i]? = some (some c) → c.only m = true
  | [], _, _, _, h => by simp at h
  | d :: l, 0, c, ho, h => by simp at h; subst h; simp only [onlyAllO, Bool.and_eq_true] at ho; exact ho.1
  | some d :: l, i + 1, c, ho, h => by simp only [onlyAllO, Bool.and_eq_true] at ho; simp at h; exact onlyAllO_get ho.2 h
  | none :: l, i + 1, c, ho, h => by simp only [onlyAllO] at ho; simp at h; exact onlyAllO_get ho h
theorem nthN_eq : ∀ (l : List Nat) (i : Nat), nthN l i = l[i]?
  | [], _ => by simp [nthN]
  | _ :: _, 0 => by simp [nthN]
  | _ :: l, i + 1 => by simp [nthN, nthN_eq l i]
theorem isAt_get : ∀ {os : List (Option BoxC)} {i : Nat}, isAt os i = true → ∃ c, os[i]? = some (some c)
  | [], _, h => by cases h
  | o :: os, 0, h => by
    cases o with
    | none => cases h
    | some c => exact ⟨c, rfl⟩
  | o :: os, i + 1, h => by simpa using isAt_get (os := os) h
theorem restL_nil : ∀ {os : List (Option BoxC)} {cs : List BoxC}, restL [] os = some cs → os.length = cs.length ∧ ∀ (j : Nat) (c : BoxC), cs[j]? = some c → os[j]? = some (some c)
  | [], cs, h => by simp [restL] at h; subst h; exact ⟨rfl, fun j c h => by simp at h⟩
  | none :: os, cs, h => by simp [restL] at h
  | some d :: os, cs, h => by
    simp only [restL] at h
    split at h
    case h_2 => cases h
    rename_i l hl
    cases h
    obtain ⟨h1, h2⟩ := restL_nil hl
    refine ⟨by simp [h1], fun j c hc => ?_⟩
    cases j with
    | zero => simp at hc; subst hc; rfl
    | succ j => simp at hc; simpa using h2 j c hc
theorem restL_get : ∀ {ns : List Nat} {os : List (Option BoxC)} {cs : List BoxC}, restL ns os = some cs → os.length = ns.length + cs.length ∧ ∀ (j : Nat) (c : BoxC), cs[j]? = some c → os[ns.length + j]? = some (some c)
  | [], os, cs, h => by
    obtain ⟨h1, h2⟩ := restL_nil h
    exact ⟨by simpa using h1, fun j c hc => by simpa using h2 j c hc⟩
  | _ :: ns, [], cs, h => by simp [restL] at h
  | b :: ns, o :: os, cs, h => by
    simp only [restL] at h
    obtain ⟨h1, h2⟩ := restL_get h
    refine ⟨by simp only [List.length_cons]; omega, fun j c hc => ?_⟩
    have := h2 j c hc
    rw [List.length_cons, show ns.length + 1 + j = (ns.length + j) + 1 from by omega]
    simpa using this
theorem layL_get {nm : Nat → Nat} : ∀ {ns : List Nat} {os : List (Option BoxC)} {h : List (Nat × BoxC)} {b : Nat} {c : BoxC}, get (layL nm ns os h) b = some c → (∃ (i : Nat) (c' : BoxC), ns[i]? = some b ∧ os[i]? = some (some c') ∧ c = c'.sub nm) ∨ get h b = some c
  | [], os, h, b, c, e => .inr (by cases os <;> simpa [layL] using e)
  | k :: ns, [], h, b, c, e => .inr (by simpa [layL] using e)
  | k :: ns, none :: os, h, b, c, e => by
    simp only [layL] at e
    rcases layL_get e with ⟨i, c', h1, h2, h3⟩ | h1
    · exact .inl ⟨i + 1, c', by simpa using h1, by simpa using h2, h3⟩
    · exact .inr h1
  | k :: ns, some d :: os, h, b, c, e => by
    simp only [layL] at e
    by_cases hb : b = k
    · subst hb
      rw [get_put_same] at e
      cases e
      exact .inl ⟨0, d, rfl, rfl, rfl⟩
    · rw [get_put_other _ _ _ _ hb] at e
      rcases layL_get e with ⟨i, c', h1, h2, h3⟩ | h1
      · exact .inl ⟨i + 1, c', by simpa using h1, by simpa using h2, h3⟩
      · exact .inr h1
/-- What is not gone is a cell that stayed. -/
theorem goneN_not : ∀ {ns : List Nat} {hs : List BoxC} {os : List (Option BoxC)} {i b : Nat}, ns[i]? = some b → b ∉ goneN ns hs os → ∃ tc sh x c', hs[i]? = some (.cell tc sh x) ∧ os[i]? = some (some c')
  | [], _, _, _, _, h, _ => by simp at h
  | k :: ns, [], os, i, b, h, hg => by
    simp only [goneN] at hg
    exact absurd (List.mem_of_getElem? h) hg
  | k :: ns, c :: hs, [], i, b, h, hg => by
    simp only [goneN] at hg
    exact absurd (List.mem_of_getElem? h) hg
  | k :: ns, c :: hs, o :: os, 0, b, h, hg => by
    simp at h; subst h
    cases c with
    | row => simp [goneN] at hg
    | cell tc sh x =>
      cases o with
      | none => simp [goneN] at hg
      | some c' => exact ⟨tc, sh, x, c', rfl, rfl⟩
  | k :: ns, c :: hs, o :: os, i + 1, b, h, hg => by
    have hg' : b ∉ goneN ns hs os := fun hm => hg (by
      simp only [goneN]
      split
      · exact hm
      · exact List.mem_cons_of_mem _ hm)
    simp at h
    simpa using goneN_not h hg'
theorem kindsL_get : ∀ {hs : List BoxC} {os : List (Option BoxC)} {i : Nat} {c o : BoxC}, kindsL hs os = true → hs[i]? = some c → os[i]? = some (some o) → o.isRow = c.isRow
  | [], _, _, _, _, _, h, _ => by simp at h
  | _ :: _, [], _, _, _, _, _, h => by simp at h
  | d :: hs, some o' :: os, 0, c, o, hk, h1, h2 => by
    simp at h1 h2; subst h1 h2
    simp only [kindsL, Bool.and_eq_true] at hk
    generalize d.isRow = p at *
    generalize o'.isRow = q at *
    cases p <;> cases q <;> first | rfl | (exact absurd hk.1 (by decide))
  | d :: hs, none :: os, 0, c, o, hk, h1, h2 => by simp at h2
  | d :: hs, some o' :: os, i + 1, c, o, hk, h1, h2 => by
    simp only [kindsL, Bool.and_eq_true] at hk
    exact kindsL_get hk.2 (by simpa using h1) (by simpa using h2)
  | d :: hs, none :: os, i + 1, c, o, hk, h1, h2 => by
    simp only [kindsL] at hk
    exact kindsL_get hk (by simpa using h1) (by simpa using h2)
theorem addRows_get : ∀ {cs : List BoxC} {n : Nat} {st st' : St} {b : Nat} {c : BoxC}, addRows st n cs = some st' → get st'.heap b = some c → (get st.heap b = some c ∧ (b < n ∨ n + cs.length ≤ b)) ∨ ∃ j, j < cs.length ∧ b = n + j ∧ cs[j]? = some c
  | [], n, st, st', b, c, hs, h => by
    simp only [addRows, Option.some.injEq] at hs
    subst hs
    exact .inl ⟨h, by simp; omega⟩
  | d :: cs, n, st, st', b, c, hs, h => by
    simp only [addRows] at hs
    split at hs
    case h_2 => cases hs
    rcases addRows_get hs h with ⟨h1, h2⟩ | ⟨j, h1, h2, h3⟩
    · by_cases e : b = n
      · subst e
        simp only [get_put_same, Option.some.injEq] at h1
        exact .inr ⟨0, by simp, rfl, by simp [h1]⟩
      · simp only [get_put_other _ _ _ _ e] at h1
        exact .inl ⟨h1, by simp only [List.length_cons]; omega⟩
    · exact .inr ⟨j + 1, by simpa using h1, by omega, by simpa using h3⟩
theorem addRows_env : ∀ {cs : List BoxC} {n : Nat} {st st' : St}, addRows st n cs = some st' → st'.env = st.env
  | [], n, st, st', hs => by simp only [addRows, Option.some.injEq] at hs; rw [hs]
  | d :: cs, n, st, st', hs => by
    simp only [addRows] at hs
    split at hs
    case h_2 => cases hs
    rw [addRows_env hs]
end Go.AV
/- A call to which boxes are lent: what is known afterwards holds. -/
namespace Go.AV
open Go.RowKit

section
variable {C : Cfg} {W0 : Entry} {F0 : Nat → Prop} {st st' : St} {a : Act} {w : World} {F : Nat → Prop} {φ : Nat → Place} {CC : FuncId → List AV → AV → Prop} {o : Oper} {orc : FuncId → List AV → Option AV}
  {Q : Exit → Act → World → Prop}

theorem Rel.evF (h : Rel C W0 F0 st a w F φ) {fx : Operand} {f : FuncId} (h1 : Go.AV.ev C st fx = some (AV.clo f [])) : a.eval fx = .func (.func f) #[] #[] := by
  have hfv : ∃ cv : Array Value, a.eval fx = .func (.func f) #[] cv ∧ cv.size = 0 := by
    have := h.ev h1
    generalize a.eval fx = v at this
    cases this with
    | stat hv => cases hv with | clo _ cv _ hs hc => exact ⟨cv, rfl, hs⟩
    | clo _ cv _ hs hc => exact ⟨cv, rfl, hs⟩
  obtain ⟨cv, hfv, hcv⟩ := hfv
  obtain rfl : cv = #[] := Array.eq_empty_of_size_eq_zero hcv
  exact hfv

/-- The boxes are others, each as it should be. -/
theorem Rel.setHeap (h : Rel C W0 F0 st a w F φ) {H : List (Nat × BoxC)} (hok : ∀ b c, get H b = some c → BoxOK w F φ W0.B b c)
    (hinj : ∀ b b' c c' g, get H b = some c → get H b' = some c' → (φ b).blk = some g → (φ b').blk = some g → b = b')
    (hanc : ∀ b p c, W0.A b = some p → get H b = some c → c.isRow = false) : Rel C W0 F0 { st with heap := H } a w F φ :=
  ⟨h.env, hok, hinj, h.ro, h.base, h.sub, h.new, h.dfr, h.tsz, h.glob, fun b p hb => ⟨(h.anc b p hb).1, (h.anc b p hb).2.1, fun c hc => hanc b p c hb hc⟩⟩

/-- After the call, without the boxes that were lent. -/
theorem Rel.lentBack (h : Rel C W0 F0 st a w F φ) {ns : List Nat} {hs : List BoxC} {os : List (Option BoxC)} {w' : World} {F' : Nat → Prop} {φ' : Nat → Place} (hnd : nodupN ns = true)
    (hns : ns.length = hs.length ∧ ∀ (i b : Nat), ns[i]? = some b → ∃ c, hs[i]? = some c ∧ get st.heap b = some c)
    (hk : Kept (LentTo (fun i => φ (ns.getD i 0)) ns.length) w w') (f1 : ∀ k, F k → F' k) (f2 : ∀ k, F' k → F k ∨ w.heap.size ≤ k ∨ LentTo (fun i => φ (ns.getD i 0)) ns.length k) (f3 : ∀ k, F' k → k < w'.heap.size)
    (hst : ∀ i tc sh x, hs[i]? = some (.cell tc sh x) → φ' i = φ (ns.getD i 0)) :
    Rel C W0 F0 ⟨killsEnv (goneN ns hs os) st.env, dropAll ns (killsHeap (goneN ns hs os) st.heap)⟩ a w' F' (fun b => if inN b ns then φ' (idxN ns b) else φ b) := by
  have lent : ∀ g, LentTo (fun i => φ (ns.getD i 0)) ns.length g → ∃ b c, b ∈ ns ∧ get st.heap b = some c ∧ (φ b).blk = some g := by
    rintro g ⟨i, hi, hg⟩
    obtain ⟨b, hb⟩ : ∃ b, ns[i]? = some b := ⟨_, List.getElem?_eq_getElem hi⟩
    obtain ⟨c, _, hc⟩ := hns.2 i b hb
    refine ⟨b, c, List.mem_of_getElem? hb, hc, ?_⟩
    simpa [List.getD_eq_getElem?_getD, hb] using hg
  have hkF : ∀ k, F k → w'.heap[k]? = w.heap[k]? := fun k hF => hk.block k (h.ro k hF) fun hl => by
    obtain ⟨b, c, _, hc, hg⟩ := lent k hl
    exact ((h.heap b c hc).lt hg).2.1 hF
  have same : ∀ b, b ∉ goneN ns hs os → (if inN b ns then φ' (idxN ns b) else φ b) = φ b := fun b hb => by
    cases hi : inN b ns with
    | false => simp
    | true =>
      have := idxN_get hi
      obtain ⟨tc, sh, x, c', h1, h2⟩ := goneN_not this hb
      simp only [if_true]
      rw [hst _ _ sh x h1, List.getD_eq_getElem?_getD, this, Option.getD_some]
  have rep : ∀ v x, Rep w F φ v x → (∀ b ∈ goneN ns hs os, x.names b = false) → Rep w' F' (fun b => if inN b ns then φ' (idxN ns b) else φ b) v x := fun v x hr hx =>
    hr.keep hkF f1 fun b hb => same b fun hm => by rw [hx b hm] at hb; cases hb
  have hout : ∀ b, b ∉ ns → (fun b => if inN b ns then φ' (idxN ns b) else φ b) b = φ b := fun b hb => by
    show (if inN b ns then φ' (idxN ns b) else φ b) = φ b
    cases hi : inN b ns with
    | false => simp
    | true => exact absurd (inN_iff.1 hi) hb
  refine ⟨fun s x hs' => ?_, fun b c hc => ?_, fun b b' c c' g h1 h2 h3 h4 => ?_, f3, h.base.trans hk ?_, fun k hk => f1 k (h.sub k hk), fun k hk' => ?_, h.dfr, h.tsz, fun g x hg => (h.glob g x hg).keep hkF f1, fun b p hb => ?_⟩
  · obtain ⟨y, hy, hx⟩ := killsEnv_get hs'
    obtain ⟨v, hv, hr⟩ := h.env s y hy
    rcases hx with ⟨rfl, hx⟩ | rfl
    · exact ⟨v, hv, rep v y hr hx⟩
    · exact ⟨v, hv, .whenT false (fun h => by cases h) fun _ => .inr rfl⟩
  · obtain ⟨h1, h2⟩ := get_dropAll hc
    obtain ⟨d, h3, h4⟩ := killsHeap_get h1
    have hb := h.heap b d h3
    have hB : ∀ g, (φ b).blk = some g → w'.heap[g]? = w.heap[g]? ∧ ¬ F' g := fun g hg => by
      obtain ⟨l1, l2, l3⟩ := hb.lt hg
      have hl : ¬ LentTo (fun i => φ (ns.getD i 0)) ns.length g := fun hl => by
        obtain ⟨b', c', m1, m2, m3⟩ := lent g hl
        exact h2 (h.inj b' b c' d g m2 h3 m3 hg ▸ m1)
      exact ⟨hk.block g l1 hl, fun hF => by
        rcases f2 g hF with k1 | k1 | k1
        · exact l2 k1
        · omega
        · exact hl k1⟩
    cases d with
    | row ty sh n f =>
      obtain ⟨_, rfl⟩ := h4
      obtain ⟨b0, b1, b2⟩ := hb
      refine ⟨by rw [hout b h2]; exact b0, by rw [hout b h2]; exact b1, ?_⟩
      rw [hout b h2]
      rcases b2 with b2 | ⟨g, cs, b3, b4, b5, b6, b7, b8, b9, b10⟩
      · exact .inl b2
      · exact .inr ⟨g, cs, b3, b4, (hB g b3).2, (hB g b3).1.trans b6, b7, b8, b9, fun i hi j hj => (b10 i hi j hj).keep hkF f1⟩
    | cell tc sh x =>
      cases c with
      | row => exact h4.2.elim
      | cell tc' sh' y =>
        obtain ⟨_, rfl, rfl, h5⟩ := h4
        obtain ⟨b0, g, cs, b3, b4, b5, b6, b7, b8⟩ := hb
        refine ⟨by rw [hout b h2]; exact b0, g, cs, by rw [hout b h2]; exact b3, b4, (hB g b3).2, (hB g b3).1.trans b6, b7, fun j hj => ?_⟩
        rcases h5 j with ⟨h6, h7⟩ | h6
        · rw [h6]; exact rep _ _ (b8 j hj) h7
        · rw [h6]; exact .stat (.any _ (Rep.leaf1 sh' x j (b8 j hj)))
  · obtain ⟨k1, k2⟩ := get_dropAll h1
    obtain ⟨k3, k4⟩ := get_dropAll h2
    obtain ⟨d, k5, _⟩ := killsHeap_get k1
    obtain ⟨d', k6, _⟩ := killsHeap_get k3
    have h3 := (congrArg Place.blk (hout b k2)).symm.trans h3
    have h4 := (congrArg Place.blk (hout b' k4)).symm.trans h4
    exact h.inj b b' d d' g k5 k6 h3 h4
  · intro i hl hi
    obtain ⟨b, c, _, hc, hg⟩ := lent i hl
    rcases ((h.heap b c hc).lt hg).2.2 with k | k
    · omega
    · exact k
  · rcases f2 k hk' with k1 | k1 | k1
    · exact h.new k k1
    · exact .inr (h.bnew k1)
    · obtain ⟨b, c, _, hc, hg⟩ := lent k k1
      exact .inr ((h.heap b c hc).lt hg).2.2
  · obtain ⟨a1, a2, a3⟩ := h.anc b p hb
    refine ⟨a1, ?_, fun c hc => ?_⟩
    · cases hi : inN b ns with
      | false => simpa using a2
      | true =>
        have := idxN_get hi
        obtain ⟨c, h1, h2⟩ := hns.2 _ _ this
        have hrow := a3 c h2
        cases c with
        | row => cases hrow
        | cell tc sh x =>
          simp only [if_true]
          rw [hst _ _ sh x h1, List.getD_eq_getElem?_getD, this, Option.getD_some]
          exact a2
    · obtain ⟨h1, _⟩ := get_dropAll hc
      obtain ⟨d, h3, h4⟩ := killsHeap_get h1
      rw [h4.1]; exact a3 d h3

theorem lent_sound {ps : List Prop} {K : Act → World → Prop} (h : Rel C W0 F0 st a w F φ) (hCCL : ∀ f as hs r os, C.CCL f as hs r os → CallOK C.P f ∧ RLent C.P C.G f as hs r os) (hs : absLent C st o = some (st', ps)) (hps : ∀ p ∈ ps, p)
    (hK : ∀ a' w' F' φ', Rel C W0 F0 st' a' w' F' φ' → K a' w') : o.guard = none ∧ o.wp C.P a w K Q := by
  unfold absLent at hs
  split at hs
  case h_2 => cases hs
  rename_i c ho hg
  split at hs
  case h_2 => cases hs
  rename_i fx hcal
  split at hs
  case h_2 => cases hs
  rename_i f args h1 h2
  generalize reach st.heap 64 (AV.boxesL args) [] = ns at hs
  unfold lentV at hs
  split at hs
  case h_2 => cases hs
  rename_i hs0 hcon
  split at hs
  case h_2 => cases hs
  rename_i r os _
  unfold lentW at hs
  split at hs
  case h_2 => cases hs
  rename_i cs hrest
  split at hs
  case h_2 => cases hs
  rename_i st1 hc hst1
  cases hs
  refine ⟨hg, ?_⟩
  simp only [Bool.and_eq_true] at hc
  obtain ⟨⟨⟨⟨⟨⟨⟨⟨c1, c2⟩, c3⟩, c4⟩, c5⟩, c6⟩, c7⟩, c8⟩, c9⟩ := hc
  obtain ⟨hok, hcall⟩ := hCCL _ _ _ _ _ (hps _ (List.mem_singleton.2 rfl))
  have hns := contents_get hcon
  have hrl := restL_get hrest
  obtain ⟨n1, n2⟩ := evList_rep h2 (fun x _ u hu => h.ev hu)
  have hfv := h.evF h1
  have hrun : (execOp a.eval o).run C.P w = .ok (.enter f (c.args.map a.eval)) w := by
    obtain ⟨callee, args', tys⟩ := c
    cases hcal
    simp only [execOp, ho, resolve, Sem.run_bind, hfv]
    simp only [Deferred.ofValue, Sem.run_pure, Result.andThen_ok, invoke, Array.empty_append, Array.append_empty]
    exact hok _ w
  unfold Oper.wp
  rw [hrun]
  show Calls C.P f _ w _
  have hφ : ∀ b, inN b ns = true → (fun i => φ (ns.getD i 0)) (idxN ns b) = φ b := fun b hb => by
    show φ (ns.getD (idxN ns b) 0) = φ b
    rw [List.getD_eq_getElem?_getD, idxN_get hb, Option.getD_some]
  have hat : ∀ i : Nat, i < ns.length → ∃ b c, ns[i]? = some b ∧ hs0[i]? = some c ∧ get st.heap b = some c := fun i hi => by
    obtain ⟨c, k1, k2⟩ := hns.2 i _ (List.getElem?_eq_getElem hi)
    exact ⟨_, c, List.getElem?_eq_getElem hi, k1, k2⟩
  refine (hcall w F (fun i => φ (ns.getD i 0)) _ h.ro h.glob (by rw [subL_len]; simpa using n1) (fun j hj => ?_) (fun i c hi => ?_) (fun i i' g hi hi' e e' => ?_)).mono ?_
  · rw [subL_len] at hj
    have := n2 j hj
    have h5 : Rep w F φ ((c.args.map a.eval).getD j undef) (args.getD j .any) := by simpa [Array.getD_eq_getD_getElem?, List.getD_eq_getElem?_getD] using this
    rw [subL_getD _ _ _ hj]
    exact sub_val (φ2 := fun i => φ (ns.getD i 0)) (n := idxN ns) (m := fun b => inN b ns) hφ (isVal_or (areVals_getD c2 hj)) (only0L_getD c1 hj) h5
  · obtain ⟨d, hd, rfl⟩ := subBoxes_get _ hi
    have hi' : i < ns.length := by rw [hns.1]; exact (List.getElem?_eq_some_iff.1 hd).1
    obtain ⟨b, c', k1, k2, k3⟩ := hat i hi'
    rw [hd] at k2
    cases k2
    have := box_sub (φ2 := fun i => φ (ns.getD i 0)) (n := idxN ns) (m := fun b => inN b ns) hφ (i := b) (inN_iff.2 (List.mem_of_getElem? k1)) (onlyAll_get c4 hd) ((h.heap b d k3).base (base' := fun _ => True) fun _ _ => trivial)
    rwa [idxN_at c3 k1] at this
  · rw [subBoxes_len, ← hns.1] at hi hi'
    obtain ⟨b, d, k1, k2, k3⟩ := hat i hi
    obtain ⟨b', d', k1', k2', k3'⟩ := hat i' hi'
    simp only [List.getD_eq_getElem?_getD, k1, k1', Option.getD_some] at e e'
    have := h.inj b b' d d' g k3 k3' e e'
    subst this
    rw [← idxN_at c3 k1, ← idxN_at c3 k1']
  · rintro en w' ⟨v, F', φ', rfl, hk, f1, f2, f3, hv, hbox, hinj, hstay⟩
    rw [subBoxes_len, ← hns.1] at hk f2
    rw [subBoxes_len, ← hns.1] at hbox
    have hstay' : ∀ i tc sh x, hs0[i]? = some (.cell tc sh x) → φ' i = φ (ns.getD i 0) := fun i tc sh x hi => hstay i tc sh (x.sub (idxN ns)) (subBoxes_at (idxN ns) hi)
    have lent : ∀ g, LentTo (fun i => φ (ns.getD i 0)) ns.length g → ∃ b c, b ∈ ns ∧ get st.heap b = some c ∧ (φ b).blk = some g := by
      rintro g ⟨i, hi, hg⟩
      obtain ⟨b, c, k1, _, k3⟩ := hat i hi
      exact ⟨b, c, List.mem_of_getElem? k1, k3, by simpa [List.getD_eq_getElem?_getD, k1] using hg⟩
    have hBB : ∀ k, (w.heap.size ≤ k ∨ LentTo (fun i => φ (ns.getD i 0)) ns.length k) → W0.B k := fun k hk => by
      rcases hk with hk | hk
      · exact h.bnew hk
      · obtain ⟨b, c, _, k2, k3⟩ := lent k hk
        exact ((h.heap b c k2).lt k3).2.2
    have hA := h.lentBack (os := os) c3 hns hk f1 f2 f3 hstay'
    -- what is not lent lies apart from what comes back
    have apart : ∀ i c g b d, os[i]? = some (some c) → (φ' i).blk = some g → get (dropAll ns (killsHeap (goneN ns hs0 os) st.heap)) b = some d → (φ b).blk ≠ some g := fun i c g b d hi hg hb hbg => by
      obtain ⟨k1, k2⟩ := get_dropAll hb
      obtain ⟨d0, k3, _⟩ := killsHeap_get k1
      rcases ((hbox i c hi).lt hg).2.2 with k4 | k4
      · have := ((h.heap b d0 k3).lt hbg).1
        omega
      · obtain ⟨b', c', m1, m2, m3⟩ := lent g k4
        exact k2 (h.inj b' b c' d0 g m2 k3 m3 hbg ▸ m1)
    have hout : ∀ b d, get (dropAll ns (killsHeap (goneN ns hs0 os) st.heap)) b = some d → (if inN b ns then φ' (idxN ns b) else φ b) = φ b := fun b d hb => by
      cases hi : inN b ns with
      | false => simp
      | true => exact absurd (inN_iff.1 hi) (get_dropAll hb).2
    obtain ⟨φ2, k1, k2, k3⟩ := hA.addRows cs ((dstN o.dst + 1) * 4096) ns.length _ st1 _ φ' hst1 (fun j c hj => (hbox _ c (hrl.2 j c hj)).base hBB) (fun j j' g hj hj' e e' => by
        have := hinj _ _ _ _ g (hrl.2 j _ (List.getElem?_eq_getElem hj)) (hrl.2 j' _ (List.getElem?_eq_getElem hj')) e e'
        omega) (fun j g b c' hj hg hc' hb' => by
        rw [hout b c' hc'] at hb'
        exact apart _ _ g b c' (hrl.2 j _ (List.getElem?_eq_getElem hj)) hg hc' hb')
    -- the place of each box, as the caller calls it
    have free : ∀ (i b : Nat), ns[i]? = some b → φ2 b = φ' i := fun i b hb => by
      rw [k3 b (apartN_get c9 (List.mem_of_getElem? hb)), if_pos (inN_iff.2 (List.mem_of_getElem? hb)), idxN_at c3 hb]
    have nm : ∀ i, isAt os i = true → φ2 (nameL ns (dstN o.dst) i) = φ' i := fun i hi => by
      obtain ⟨c', hc'⟩ := isAt_get hi
      have hlt := (List.getElem?_eq_some_iff.1 hc').1
      simp only [nameL, nthN_eq]
      split
      · rename_i b hb; exact free i b hb
      · rename_i hb
        have : ns.length ≤ i := by simpa using hb
        rw [k2 (i - ns.length) (by omega)]
        congr 1; omega
    have isAt_of : ∀ {os : List (Option BoxC)} {i : Nat} {c : BoxC}, os[i]? = some (some c) → isAt os i = true := by
      intro os
      induction os with
      | nil => intro i c h; simp at h
      | cons o os ih =>
        intro i c h
        cases i with
        | zero => simp at h; subst h; rfl
        | succ i => exact ih (by simpa using h)
    have laid : ∀ (i b : Nat) (c' : BoxC), ns[i]? = some b → os[i]? = some (some c') → BoxOK w' F' φ2 W0.B b (c'.sub (nameL ns (dstN o.dst))) := fun i b c' hb hc' => by
      have := box_sub nm (isAt_of hc') (onlyAllO_get c6 hc') ((hbox i c' hc').base hBB)
      have e : nameL ns (dstN o.dst) i = b := by simp only [nameL, nthN_eq, hb]
      rwa [e] at this
    have hC := k1.setHeap (H := layL (nameL ns (dstN o.dst)) ns os st1.heap) (fun b c hc => by
        rcases layL_get hc with ⟨i, c', m1, m2, rfl⟩ | m1
        · exact laid i b c' m1 m2
        · exact k1.heap b c m1) (fun b b' c c' g m1 m2 m3 m4 => by
        have mixed : ∀ (i b b' : Nat) (c1 c2 : BoxC), ns[i]? = some b → os[i]? = some (some c1) → get st1.heap b' = some c2 → (φ2 b).blk = some g → (φ2 b').blk = some g → b = b' := fun i b b' c1 c2 e1 e2 e3 e4 e5 => by
          rw [free i b e1] at e4
          rcases addRows_get hst1 e3 with ⟨e6, e7⟩ | ⟨j, e6, rfl, e7⟩
          · rw [k3 b' e7, hout b' c2 e6] at e5
            exact absurd e5 (apart i c1 g b' c2 e2 e4 e6)
          · rw [k2 j e6] at e5
            have := hinj _ _ _ _ g e2 (hrl.2 j _ e7) e4 e5
            have := (List.getElem?_eq_some_iff.1 e1).1
            omega
        rcases layL_get m1 with ⟨i, c1, e1, e2, rfl⟩ | e1 <;> rcases layL_get m2 with ⟨i', c2, e1', e2', rfl⟩ | e1'
        · rw [free i b e1] at m3
          rw [free i' b' e1'] at m4
          have := hinj _ _ _ _ g e2 e2' m3 m4
          subst this
          rw [e1] at e1'
          cases e1'
          rfl
        · exact mixed i b b' _ _ e1 e2 e1' m3 m4
        · exact (mixed i' b' b _ _ e1' e2' e1 m4 m3).symm
        · exact k1.inj b b' c c' g e1 e1' m3 m4) (fun b p c hb hc => by
        rcases layL_get hc with ⟨i, c', m1, m2, rfl⟩ | m1
        · obtain ⟨d, m3, m4⟩ := hns.2 i b m1
          have m5 := kindsL_get c7 m3 m2
          have m6 := (h.anc b p hb).2.2 d m4
          rw [m6] at m5
          cases c' with
          | cell => rfl
          | row => exact m5
        · exact (k1.anc b p hb).2.2 c m1)
    have hv' := sub_res (φ := φ') nm c5 hv
    show K (a.put o.dst v) w'
    cases hd : o.dst with
    | none => rw [hd] at hK hC; exact hK _ _ _ _ hC
    | some d =>
      rw [hd] at hK hC hv'
      rw [hd] at c8
      exact hK _ _ _ _ (hC.putV (Nat.le_of_ble_eq_true c8) hv')
end
end Go.AV
/- An operation's reckoning hangs on what it reads alone. -/
namespace Go.AV
open Go.RowKit

/-- An append to a row that lies there: it may move. -/
def growing (C : Cfg) (st : St) (o : Oper) : Bool :=
  match o.op with
  | .call c => match c.callee with
    | .builtin .append => match c.args.toList with
      | x :: _ => match evS C st x with
        | some .nils => false
        | some (.seqc _ _ _) => false
        | _ => true
      | _ => false
    | _ => false
  | _ => false

section
variable {C : Cfg} {st st2 : St} {e e2 : Operand → Option AV} {dst : Option Nat} {orc : FuncId → List AV → Option AV} {CC : FuncId → List AV → AV → Prop}

mutual
theorem frz_local {h h2 : List (Nat × BoxC)} : ∀ (x : AV), (∀ b, x.names b = true → get h b = get h2 b) → frz h x = frz h2 x
  | .own b n, hh => by simp only [frz]; rw [hh b (by simp [AV.names])]
  | .ptr b p, hh => by simp only [frz]; rw [hh b (by simp [AV.names])]
  | .agg l, hh => by simp only [frz]; rw [frzs_local l (fun b hb => hh b (by simpa [AV.names] using hb))]
  | .clo f l, hh => by simp only [frz]; rw [frzs_local l (fun b hb => hh b (by simpa [AV.names] using hb))]
  | .mc sh x, hh => by simp only [frz]; rw [frz_local x (fun b hb => hh b (by simpa [AV.names] using hb))]
  | .any, _ | .int _ _, _ | .bool _, _ | .str _, _ | .nils, _ | .nilp, _ | .seq _ _ _, _ | .seqc _ _ _, _ | .nseq _ _ _ _, _ | .cov _, _ | .rptr _ _, _ | .arr _ _, _ | .st _, _ | .optr _ _ _, _ | .tup _, _ | .when _ _, _ => by simp only [frz]
theorem frzs_local {h h2 : List (Nat × BoxC)} : ∀ (l : List AV), (∀ b, AV.namesL b l = true → get h b = get h2 b) → frzs h l = frzs h2 l
  | [], _ => by simp only [frzs]
  | x :: l, hh => by
    simp only [frzs]
    rw [frz_local x (fun b hb => hh b (by simp [AV.namesL, hb])), frzs_local l (fun b hb => hh b (by simp [AV.namesL, hb]))]
end

theorem evParts_local : ∀ {l : List (Nat × Operand)}, (∀ p ∈ l, e p.2 = e2 p.2) → evParts e l = evParts e2 l
  | [], _ => rfl
  | (i, x) :: l, h => by simp only [evParts]; rw [h (i, x) (by simp), evParts_local fun p hp => h p (by simp [hp])]
theorem evList_local : ∀ {l : List Operand}, (∀ x ∈ l, e x = e2 x) → evList e l = evList e2 l
  | [], _ => rfl
  | x :: l, h => by simp only [evList]; rw [h x (by simp), evList_local fun p hp => h p (by simp [hp])]
theorem evList_names {b : Nat} : ∀ {l : List Operand} {m : List AV}, evList e l = some m → AV.namesL b m = true → ∃ x ∈ l, ∃ v, e x = some v ∧ v.names b = true
  | [], m, h, hb => by simp [evList] at h; subst h; simp [AV.namesL] at hb
  | x :: l, m, h, hb => by
    simp only [evList] at h
    split at h
    · rename_i v vs h1 h2
      cases h
      simp only [AV.namesL, Bool.or_eq_true] at hb
      rcases hb with hb | hb
      · exact ⟨x, by simp, v, h1, hb⟩
      · obtain ⟨y, hy, u, hu⟩ := evList_names h2 hb
        exact ⟨y, by simp [hy], u, hu⟩
    · cases h
theorem namesL_append {b : Nat} : ∀ {l m : List AV}, AV.namesL b (l ++ m) = true → AV.namesL b l = true ∨ AV.namesL b m = true
  | [], m, h => .inr h
  | x :: l, m, h => by
    simp only [List.cons_append, AV.namesL, Bool.or_eq_true] at h ⊢
    rcases h with h | h
    · exact .inl (.inl h)
    · rcases namesL_append h with h | h
      · exact .inl (.inr h)
      · exact .inr h

theorem fieldAV_local {te : TyE} {f : Nat} {v : AV} (hh : ∀ b, v.names b = true → get st.heap b = get st2.heap b) : fieldAV st te f v = fieldAV st2 te f v := by
  cases v
  case ptr b p => simp only [fieldAV, boxSh]; rw [hh b (by simp [AV.names])]
  case optr b i p => simp only [fieldAV, rowSh]; rw [hh b (by simp [AV.names])]
  case rptr sh x => cases sh <;> cases x <;> rfl
  all_goals simp only [fieldAV]

theorem absOp_local {op : Op} (he : ∀ x ∈ op.operands.toList, e x = e2 x) (hh : ∀ x ∈ op.operands.toList, ∀ v, e2 x = some v → ∀ b, v.names b = true → get st.heap b = get st2.heap b) :
    absOp C st e dst orc CC op = absOp C st2 e2 dst orc CC op := by
  cases op with
  | move x => simp only [absOp]; rw [he x (by simp [Op.operands])]
  | assign x => simp only [absOp]; rw [he x (by simp [Op.operands])]
  | alloc t => simp only [absOp]
  | box t x => simp only [absOp]; rw [he x (by simp [Op.operands])]
  | build t parts => simp only [absOp]; rw [evParts_local fun p hp => he p.2 (by simp only [Op.operands, List.mem_map]; exact ⟨p, hp, rfl⟩)]
  | buildSlice t len parts => simp only [absOp]; rw [evParts_local fun p hp => he p.2 (by simp only [Op.operands, List.mem_map]; exact ⟨p, hp, rfl⟩)]
  | load t x =>
    simp only [absOp]
    rw [he x (by simp [Op.operands])]
    have := hh x (by simp [Op.operands])
    cases tyOf C t with
    | none => rfl
    | some te =>
      cases hx : e2 x with
      | none => rfl
      | some v =>
        have hv := this v hx
        cases v
        case ptr b p => simp only []; rw [hv b (by simp [AV.names])]
        case optr b i p => simp only []; rw [hv b (by simp [AV.names])]
        all_goals rfl
  | store t x v =>
    have := hh x (by simp [Op.operands])
    simp only [absOp]
    rw [he x (by simp [Op.operands]), he v (by simp [Op.operands])]
    cases hx : e2 x with
    | none => rfl
    | some u =>
      have hv := this u hx
      cases u
      case ptr b p => dsimp only; rw [hv b (by simp [AV.names])]
      case optr b i p => dsimp only; rw [hv b (by simp [AV.names])]
      all_goals rfl
  | nilCheck x => simp only [absOp]; rw [he x (by simp [Op.operands])]
  | binOp op t x y t' => simp only [absOp]; rw [he x (by simp [Op.operands]), he y (by simp [Op.operands])]
  | unOp op t x => simp only [absOp]; rw [he x (by simp [Op.operands])]
  | convert s d x => simp only [absOp]; rw [he x (by simp [Op.operands])]
  | makeFunc fn first caps =>
    cases fn <;> simp only [absOp]
    rw [evList_local fun x hx => he x (by simp [Op.operands]; exact .inr (by simpa using hx))]
  | makeSlice t l c => simp only [absOp]; rw [he l (by simp [Op.operands]), he c (by simp [Op.operands])]
  | slice t x lo hi mx =>
    have hlo : ∀ d, bndOf e d lo = bndOf e2 d lo := fun d => by cases lo with | none => rfl | some y => simp only [bndOf]; rw [he y (by simp [Op.operands])]
    have hhi : ∀ d, bndOf e d hi = bndOf e2 d hi := fun d => by cases hi with | none => rfl | some y => simp only [bndOf]; rw [he y (by simp [Op.operands])]
    have hmx : ∀ y, mx = some y → e y = e2 y := fun y hy => he y (by subst hy; simp [Op.operands])
    have := hh x (by simp [Op.operands])
    simp only [absOp, hlo, hhi]
    rw [he x (by simp [Op.operands])]
    cases hx : e2 x with
    | none => cases tyOf C t <;> rfl
    | some v =>
      have hv := this v hx
      cases tyOf C t with
      | none => rfl
      | some te =>
        simp only []
        cases te.kind
        case slice el =>
          simp only []
          cases tyOf C el with
          | none => cases v <;> rfl
          | some tl =>
            cases v
            case seq sh n f =>
              dsimp only
              cases sh.same tl.sh <;> cases bndOf e2 0 lo <;> cases bndOf e2 (n : Int) hi <;> cases mx <;> first | rfl | (dsimp only; rw [hmx _ rfl])
            case own b n => simp only []; rw [hv b (by simp [AV.names])]
            all_goals rfl
        all_goals rfl
  | fieldAddr t x f =>
    simp only [absOp]
    rw [he x (by simp [Op.operands])]
    have := hh x (by simp [Op.operands])
    cases tyOf C t with
    | none => rfl
    | some te =>
      cases hx : e2 x with
      | none => rfl
      | some v => simp only []; rw [fieldAV_local (this v hx)]
  | field t x f => simp only [absOp]; rw [he x (by simp [Op.operands])]
  | indexAddr t x ix =>
    simp only [absOp]
    rw [he x (by simp [Op.operands]), he ix (by simp [Op.operands])]
    have := hh x (by simp [Op.operands])
    cases tyOf C t with
    | none => rfl
    | some te =>
      cases hx : e2 x with
      | none => rfl
      | some v =>
        cases ixAV (e2 ix) with
        | none => rfl
        | some i =>
          have hv := this v hx
          simp only []
          cases te.kind
          case slice el =>
            simp only []
            cases tyOf C el with
            | none => rfl
            | some tl =>
              cases v
              case own b n => simp only []; rw [hv b (by simp [AV.names])]
              all_goals rfl
          case arr n el =>
            cases v
            case ptr b p => simp only [boxSh]; rw [hv b (by simp [AV.names])]
            case optr b i p => simp only [rowSh]; rw [hv b (by simp [AV.names])]
            case rptr sh x => cases sh <;> cases x <;> rfl
            all_goals rfl
          all_goals rfl
  | index t x ix => simp only [absOp]; rw [he x (by simp [Op.operands]), he ix (by simp [Op.operands])]
  | extract x i => simp only [absOp]; rw [he x (by simp [Op.operands])]
  | call c =>
    obtain ⟨callee, args, tys⟩ := c
    have hargs : ∀ x ∈ args.toList, e x = e2 x := fun x hx => he x (by simp only [Op.operands, Call.operands, Array.toList_append, List.mem_append]; exact .inr hx)
    have hhargs : ∀ x ∈ args.toList, ∀ v, e2 x = some v → ∀ b, v.names b = true → get st.heap b = get st2.heap b := fun x hx => hh x (by simp only [Op.operands, Call.operands, Array.toList_append, List.mem_append]; exact .inr hx)
    cases callee with
    | invoke x m => simp only [absOp]
    | value fx =>
      simp only [absOp]
      rw [he fx (by simp [Op.operands, Call.operands]), evList_local hargs]
      cases hf : e2 fx with
      | none => rfl
      | some fv =>
        cases fv <;> try rfl
        rename_i f caps
        cases ha : evList e2 args.toList with
        | none => rfl
        | some as =>
          simp only []
          rw [frzs_local (h := st.heap) (h2 := st2.heap) (as ++ caps) fun b hb => ?_]
          rcases namesL_append hb with hb | hb
          · obtain ⟨x, hx, v, hv, hn⟩ := evList_names ha hb
            exact hhargs x hx v hv b hn
          · exact hh fx (by simp [Op.operands, Call.operands]) _ hf b (by simpa [AV.names] using hb)
    | builtin b =>
      cases b with
      | append =>
        simp only [absOp]
        cases ha : args.toList with
        | nil => rfl
        | cons x l =>
          cases l with
          | nil => rfl
          | cons y l =>
            cases l with
            | cons => rfl
            | nil =>
              have hex := hargs x (by rw [ha]; simp)
              have hey := hargs y (by rw [ha]; simp)
              have hhx := hhargs x (by rw [ha]; simp)
              have hhy := hhargs y (by rw [ha]; simp)
              cases tys.toList with
              | nil => rfl
              | cons t m =>
                cases m with
                | nil => rfl
                | cons t' m =>
                  cases m with
                  | cons => rfl
                  | nil =>
                    cases dst with
                    | none => rfl
                    | some d =>
                      dsimp only
                      rw [hex, hey]
                      cases hx : e2 x with
                      | none => cases tyOf C t <;> cases Nat.beq t t' <;> rfl
                      | some v =>
                        cases hy : e2 y with
                        | none => cases tyOf C t <;> cases Nat.beq t t' <;> rfl
                        | some u =>
                          have hv := hhx v hx
                          have hu := hhy u hy
                          cases tyOf C t with
                          | none => rfl
                          | some te =>
                            cases Nat.beq t t' with
                            | false => rfl
                            | true =>
                              dsimp only
                              cases te.kind with
                              | slice el =>
                                dsimp only
                                cases tyOf C el with
                                | none => rfl
                                | some tl =>
                                  dsimp only
                                  have gu : ∀ b, (∃ m, u = .own b m) → get st.heap b = get st2.heap b := fun b ⟨m, e⟩ => hu b (by rw [e]; simp [AV.names])
                                  have gv : ∀ b, (∃ m, v = .own b m) → get st.heap b = get st2.heap b := fun b ⟨m, e⟩ => hv b (by rw [e]; simp [AV.names])
                                  clear hu hv hx hy
                                  cases u with
                                  | own b m =>
                                    dsimp only
                                    rw [gu _ ⟨_, rfl⟩]
                                    cases get st2.heap b with
                                    | none => rfl
                                    | some c => cases c with
                                      | cell => rfl
                                      | row ty sh n' g =>
                                        dsimp only
                                        cases sh.same tl.sh && tl.zero.isStat with
                                        | false => cases v <;> rfl
                                        | true => cases v <;> first | rfl | (dsimp only; rw [gv _ ⟨_, rfl⟩])
                                  | seq sh m g | seqc sh m g =>
                                    dsimp only
                                    cases sh.same tl.sh && tl.zero.isStat with
                                    | false => cases v <;> rfl
                                    | true => cases v <;> first | rfl | (dsimp only; rw [gv _ ⟨_, rfl⟩])
                                  | nils =>
                                    dsimp only
                                    cases tl.sh.same tl.sh && tl.zero.isStat with
                                    | false => cases v <;> rfl
                                    | true => cases v <;> first | rfl | (dsimp only; rw [gv _ ⟨_, rfl⟩])
                                  | _ => rfl
                              | _ => rfl
      | len =>
        simp only [absOp]
        cases ha : args.toList with
        | nil => rfl
        | cons x l =>
          cases l with
          | cons => cases tys.toList <;> rfl
          | nil =>
            cases tys.toList with
            | nil => rfl
            | cons t m => cases m <;> first | rfl | (dsimp only; rw [hargs x (by rw [ha]; simp)])
      | min =>
        simp only [absOp]
        cases ha : args.toList with
        | nil => rfl
        | cons x l =>
          cases l with
          | nil => rfl
          | cons y l => cases l <;> first | rfl | (dsimp only; rw [hargs x (by rw [ha]; simp), hargs y (by rw [ha]; simp)])
      | max =>
        simp only [absOp]
        cases ha : args.toList with
        | nil => rfl
        | cons x l =>
          cases l with
          | nil => rfl
          | cons y l => cases l <;> first | rfl | (dsimp only; rw [hargs x (by rw [ha]; simp), hargs y (by rw [ha]; simp)])
      | copy =>
        simp only [absOp]
        cases ha : args.toList with
        | nil => rfl
        | cons x l =>
          cases l with
          | nil => rfl
          | cons y l =>
            cases l with
            | cons => rfl
            | nil =>
              have hex := hargs x (by rw [ha]; simp)
              have hey := hargs y (by rw [ha]; simp)
              have hhx := hhargs x (by rw [ha]; simp)
              cases tys.toList with
              | nil => rfl
              | cons t m =>
                cases m with
                | nil => rfl
                | cons t' m =>
                  cases m with
                  | cons => rfl
                  | nil =>
                    dsimp only
                    rw [hex, hey]
                    cases hx : e2 x with
                    | none => cases tyOf C t <;> cases tyOf C t' <;> rfl
                    | some v =>
                      have hv := hhx v hx
                      cases v
                      case own b n =>
                        cases tyOf C t with
                        | none => rfl
                        | some te =>
                          cases tyOf C t' with
                          | none => rfl
                          | some te' =>
                            cases e2 y with
                            | none => rfl
                            | some u => dsimp only; rw [hv b (by simp [AV.names])]
                      all_goals (cases tyOf C t <;> cases tyOf C t' <;> rfl)
      | _ => simp only [absOp]
  | _ => simp only [absOp]

/-- The boxes that an operation writes or makes. -/
def wrBox (C : Cfg) (st : St) (o : Oper) : List Nat :=
  match o.op with
  | .alloc _ | .box _ _ | .buildSlice _ _ _ | .makeSlice _ _ _ => o.dst.toList
  | .store _ a _ => match evS C st a with
    | some (.ptr b _) => [b]
    | some (.optr b _ _) => [b]
    | _ => []
  | .call c => match c.callee with
    | .builtin .append => o.dst.toList
    | .builtin .copy => match c.args.toList with
      | x :: _ => match evS C st x with
        | some (.own b _) => [b]
        | _ => []
      | _ => []
    | _ => []
  | _ => []

theorem arith_eff' {k : IntKind} {n : Int} : (arith C k n).eff = .none := by unfold arith; split <;> rfl

theorem binAV_eff {te : TyE} {op : BinOp} {x y : AV} {r : Res} (h : binAV C te op x y = some r) : r.eff = .none := by
  unfold binAV at h
  repeat' split at h
  all_goals first | (cases h; done) | (cases h; first | rfl | exact arith_eff')
theorem shiftAV_eff {op : BinOp} {x y : AV} {r : Res} (h : shiftAV op x y = some r) : r.eff = .none := by
  unfold shiftAV at h
  repeat' split at h
  all_goals first | (cases h; done) | (cases h; rfl)

/-- What an operation may do to the boxes. -/
theorem absOp_eff {o : Oper} {r : Res} (hno : growing C st o = false) (h : absOp C st (evS C st) o.dst orc CC o.op = some r) : (r.eff = .none ∧ wrBox C st o = []) ∨ (∃ c d, r.eff = .new c ∧ o.dst = some d ∧ wrBox C st o = [d]) ∨ (∃ b c, r.eff = .upd b c ∧ wrBox C st o = [b]) := by
  cases hop : o.op with
  | alloc t =>
    rw [hop] at h
    simp only [absOp] at h
    split at h
    · rename_i d _ hd; cases h; exact .inr (.inl ⟨_, _, rfl, hd, by simp [wrBox, hop, hd]⟩)
    · cases h
  | box t x =>
    rw [hop] at h
    simp only [absOp] at h
    split at h
    · rename_i d _ _ hd _
      split at h
      · cases h; exact .inr (.inl ⟨_, _, rfl, hd, by simp [wrBox, hop, hd]⟩)
      · cases h
    · cases h
  | buildSlice t l p =>
    rw [hop] at h
    simp only [absOp] at h
    split at h
    · rename_i d _ _ hd
      repeat' split at h
      all_goals first | (cases h; done) | (cases h; exact .inr (.inl ⟨_, _, rfl, hd, by simp [wrBox, hop, hd]⟩))
    · cases h
  | makeSlice t l c =>
    rw [hop] at h
    simp only [absOp] at h
    split at h
    · rename_i d _ _ _ hd
      repeat' split at h
      all_goals first | (cases h; done) | (cases h; exact .inr (.inl ⟨_, _, rfl, hd, by simp [wrBox, hop, hd]⟩))
    · cases h
  | store t x v =>
    rw [hop] at h
    simp only [absOp] at h
    split at h
    case h_2 => cases h
    split at h
    case h_2 => cases h
    split at h
    · rename_i b p hx
      repeat' split at h
      all_goals first | (cases h; done) | (cases h; exact .inr (.inr ⟨_, _, rfl, by simp [wrBox, hop, hx]⟩))
    · rename_i b i p hx
      repeat' split at h
      all_goals first | (cases h; done) | (cases h; exact .inr (.inr ⟨_, _, rfl, by simp [wrBox, hop, hx]⟩))
    · cases h
  | binOp op t x y t' =>
    rw [hop] at h
    simp only [absOp] at h
    repeat' split at h
    all_goals first | (cases h; done) | exact .inl ⟨shiftAV_eff h, by simp [wrBox, hop]⟩ | exact .inl ⟨binAV_eff h, by simp [wrBox, hop]⟩
  | unOp op t x =>
    rw [hop] at h
    simp only [absOp] at h
    repeat' split at h
    all_goals first | (cases h; done) | (cases h; exact .inl ⟨rfl, by simp [wrBox, hop]⟩) | (cases h; exact .inl ⟨arith_eff', by simp [wrBox, hop]⟩)
  | call c =>
    rw [hop] at h
    simp only [growing, hop] at hno
    obtain ⟨callee, args, tys⟩ := c
    cases callee with
    | invoke x m => simp [absOp] at h
    | value fx =>
      simp only [absOp] at h
      repeat' split at h
      all_goals first | (cases h; done) | (cases h; exact .inl ⟨rfl, by simp [wrBox, hop]⟩)
    | builtin b =>
      cases b with
      | append =>
        simp only [absOp] at h
        split at h
        case h_2 => cases h
        rename_i x y t t' d hargs htys hd
        simp only [hargs] at hno
        split at h
        case h_2 => cases h
        rename_i hx _
        rw [hx] at hno
        split at h
        case h_2 => cases h
        split at h
        case h_2 => cases h
        split at h
        case h_2 => cases h
        split at h
        · cases h; exact .inr (.inl ⟨_, _, rfl, hd, by simp [wrBox, hop, hd]⟩)
        · split at h
          · cases h; exact .inr (.inl ⟨_, _, rfl, hd, by simp [wrBox, hop, hd]⟩)
          · cases h
        · simp at hno
        · cases h
      | copy =>
        simp only [absOp] at h
        split at h
        case h_2 => cases h
        rename_i x y t t' hargs htys
        split at h
        case h_2 => cases h
        rename_i hx _
        repeat' split at h
        all_goals first | (cases h; done) | (cases h; exact .inr (.inr ⟨_, _, rfl, by simp [wrBox, hop, hargs, hx]⟩))
      | len => simp only [absOp] at h; repeat' split at h
               all_goals first | (cases h; done) | (cases h; exact .inl ⟨rfl, by simp [wrBox, hop]⟩)
      | min => simp only [absOp] at h; repeat' split at h
               all_goals first | (cases h; done) | (cases h; exact .inl ⟨rfl, by simp [wrBox, hop]⟩)
      | max => simp only [absOp] at h; repeat' split at h
               all_goals first | (cases h; done) | (cases h; exact .inl ⟨rfl, by simp [wrBox, hop]⟩)
      | _ => simp [absOp] at h
  | makeFunc fn f caps =>
    rw [hop] at h
    cases fn <;> simp only [absOp] at h <;> (repeat' split at h) <;> first | (cases h; done) | (cases h; exact .inl ⟨rfl, by simp [wrBox, hop]⟩)
  | _ =>
    rw [hop] at h
    simp only [absOp] at h
    repeat' split at h
    all_goals first | (cases h; done) | (cases h; exact .inl ⟨rfl, by simp [wrBox, hop]⟩)
end
end Go.AV
