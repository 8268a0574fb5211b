/- A function's contract out of what is owed for its body. -/
import Derived.Test.YtmlgkljbhidlhaaAvVc
namespace Go.AV
open Go.RowKit

section
variable {C : Cfg} {W0 : Entry} {F0 : Nat → Prop} {st st' : St} {a : Act} {w : World} {F : Nat → Prop} {φ : Nat → Place}

theorem resAV_run (h : Rel C W0 F0 st a w F φ) (hT : TysOK C) : ∀ (rs : List ResultVar) (l : List AV), resAV C st rs = some l →
    ∃ vs : List Value, (rs.mapM (fun | .tmp t => pure (a.tmps.getD t undef) | .cell s t => do loadVar t (← asAddr (a.tmps.getD s undef)) : ResultVar → Sem Value)).run C.P w = .ok vs w ∧ vs.length = l.length ∧ ∀ j, j < l.length → Rep w F φ (vs.getD j undef) (l.getD j .any)
  | [], l, hl => by simp [resAV] at hl; subst hl; exact ⟨[], by simp, rfl, fun j hj => by simp at hj⟩
  | .tmp t :: rs, l, hl => by
    simp only [resAV] at hl
    split at hl
    case h_2 => cases hl
    rename_i x m hx hm
    cases hl
    obtain ⟨vs, h1, h2, h3⟩ := resAV_run h hT rs m hm
    obtain ⟨v, hv, hr⟩ := h.env t x hx
    refine ⟨a.tmps.getD t undef :: vs, ?_, by simp [h2], fun j hj => ?_⟩
    · rw [List.mapM_cons]
      simp only [Sem.run_bind, Sem.run_pure, Result.andThen_ok, h1]
    · cases j with
      | zero => simpa [Array.getD_eq_getD_getElem?, hv] using hr
      | succ j => simpa using h3 j (by simpa using hj)
  | .cell s t :: rs, l, hl => by
    simp only [resAV] at hl
    split at hl
    case h_2 => cases hl
    rename_i b p te m hs ht hm
    split at hl
    case h_2 => cases hl
    rename_i sh x hb
    split at hl
    case h_2 => cases hl
    rename_i s' y hp hy
    split at hl
    case h_2 => cases hl
    rename_i hsame
    split at hl
    case h_2 => cases hl
    rename_i z hz
    cases hl
    have es := Shape.same_eq _ _ hsame
    subst es
    obtain ⟨vs, h1, h2, h3⟩ := resAV_run h hT rs m hm
    obtain ⟨v, hv, hr⟩ := h.env s _ hs
    obtain ⟨g, hg, hpo, rfl⟩ := hr.ptr_inv
    obtain ⟨hsh, g', cs, hg', _, _, hh, hsz, hrep⟩ := h.cells hb
    obtain rfl : g' = g := by rw [hg] at hg'; injection hg' with e; exact e.symm
    rw [hsh] at hpo hv
    have hlt := pathOff_lt p sh te.sh hpo hp
    have T := hT _ _ ht
    have hload := T.runLoad (w := w) g' (pathOff p sh) (fun j => cs.getD (pathOff p sh + j) undef) fun j hj => cell_of hh (by omega)
    have hw := wrap_rep (w := w) (F := F) (φ := φ) (f := fun j => cs.getD (pathOff p sh + j) undef) hz fun j hj => (hrep _ (by omega)).strip (nav_leafAt p sh te.sh x y hpo hp hy j hj)
    refine ⟨loadVal te.sh (fun j => cs.getD (pathOff p sh + j) undef) :: vs, ?_, by simp [h2], fun j hj => ?_⟩
    · rw [List.mapM_cons]
      have ha : a.tmps.getD s undef = .pointer (some ⟨g', pathOff p sh, none⟩) := by simp [Array.getD_eq_getD_getElem?, hv]
      have hadr : (asAddr (a.tmps.getD s undef)).run C.P w = .ok ⟨g', pathOff p sh, none⟩ w := by rw [ha]; rfl
      simp only [Sem.run_bind, hadr, Sem.run_pure, Result.andThen_ok, hload, h1]
    · cases j with
      | zero => simpa using hw
      | succ j => simpa using h3 j (by simpa using hj)

/-- Several results are one tuple. -/
def retVal : List Value → Value
  | [v] => v
  | vs => .tuple vs.toArray

theorem results_run {fn : Func} {vs : List Value} (h : (fn.results.toList.mapM (fun | .tmp t => pure (a.tmps.getD t undef) | .cell s t => do loadVar t (← asAddr (a.tmps.getD s undef)) : ResultVar → Sem Value)).run C.P w = .ok vs w) :
    (results fn a.tmps).run C.P w = .ok (retVal vs) w := by
  have hm : (fn.results.mapM (fun | .tmp t => pure (a.tmps.getD t undef) | .cell s t => do loadVar t (← asAddr (a.tmps.getD s undef)) : ResultVar → Sem Value)).run C.P w = .ok vs.toArray w := by
    rw [Array.mapM_eq_mapM_toList, Sem.run_map, h]
    rfl
  unfold results
  rw [Sem.run_bind]
  refine Eq.trans (congrArg (fun r => Result.andThen r _) hm) ?_
  match vs with
  | [] => rfl
  | [v] => rfl
  | v :: u :: l => simp [retVal]

theorem argEnv_get : ∀ (l : List AV) (i s : Nat) (x : AV), get (argEnv i l) s = some x → i ≤ s ∧ s < i + l.length ∧ x = l.getD (s - i) .any
  | [], i, s, x, h => by simp [argEnv, get] at h
  | y :: l, i, s, x, h => by
    simp only [argEnv, get] at h
    split at h
    · rename_i hk
      cases h
      have := Nat.eq_of_beq_eq_true hk
      subst this
      exact ⟨Nat.le_refl _, by simp, by simp⟩
    · obtain ⟨h1, h2, h3⟩ := argEnv_get l (i + 1) s x h
      refine ⟨by omega, by simp only [List.length_cons]; omega, ?_⟩
      rw [h3, show s - i = (s - (i + 1)) + 1 from by omega, List.getD_cons_succ]

/-- Called with values that read as 'args', in a world where the read-only blocks are F. -/
theorem Rel.start {C : Cfg} {fn : Func} {args : List AV} {vs : Array Value} (hn : fn.ntmps = C.ntmps) (hl : args.length ≤ C.ntmps) (hro : ∀ k, F k → k < w.heap.size)
    (hglob : ∀ g x, get C.G g = some x → RepS w F (.pointer (some ⟨g, 0, none⟩)) x) (hsz : vs.size = args.length) (hr : ∀ j, j < args.length → RepS w F (vs.getD j undef) (args.getD j .any)) :
    Rel C (.of w) F ⟨argEnv 0 args, []⟩ { tmps := vs ++ Array.replicate (fn.ntmps - vs.size) undef, defers := [] } w F (fun _ => ⟨none, 0, .leaf, 0⟩) := by
  refine ⟨fun s x hs => ?_, fun b c hc => by simp [get] at hc, fun b b' c c' g h1 => by simp [get] at h1, hro, Kept.refl _ _, fun _ h => h, fun _ h => .inl h, rfl, by simp; omega, hglob, fun b p hp => by cases hp⟩
  obtain ⟨_, h2, rfl⟩ := argEnv_get args 0 s x hs
  rw [Nat.zero_add] at h2
  rw [Nat.sub_zero]
  refine ⟨vs.getD s undef, ?_, .stat (hr s h2)⟩
  rw [Array.getElem?_append_left (by omega), Array.getElem?_eq_getElem (by omega), Array.getD_eq_getD_getElem?, Array.getElem?_eq_getElem (by omega), Option.getD_some]

mutual
theorem le_stat : ∀ (x y : AV), AV.le [] [] x y → x.isStat = true → y.isStat = true
  | .agg l, y, hl, hs => by
    cases y <;> simp only [AV.le] at hl <;> first | rfl | skip
    case agg m => simp only [AV.isStat] at hs ⊢; exact les_stat l m hl hs
    all_goals cases hl
  | .mc sh x, y, hl, hs => by
    cases y <;> simp only [AV.le] at hl <;> first | rfl | skip
    case mc sh' y' => simp only [AV.isStat] at hs ⊢; exact le_stat x y' hl.2 hs
    all_goals cases hl
  | .tup l, y, hl, hs => by simp [AV.isStat] at hs
  | .own b n, y, hl, hs => by simp [AV.isStat] at hs
  | .ptr b n, y, hl, hs => by simp [AV.isStat] at hs
  | .optr b i n, y, hl, hs => by simp [AV.isStat] at hs
  | .when q x, y, hl, hs => by simp [AV.isStat] at hs
  | .clo f l, y, hl, hs => by
    cases y <;> simp only [AV.le] at hl <;> first | rfl | skip
    all_goals cases hl
    exact hs
  | .nils, y, hl, hs => by
    cases y <;> simp only [AV.le, get] at hl <;> first | rfl | skip
    case own => simp at hl
    all_goals cases hl
  | .seq _ _ _, y, hl, hs => by cases y <;> simp only [AV.le] at hl <;> first | rfl | cases hl
  | .seqc _ _ _, y, hl, hs => by cases y <;> simp only [AV.le] at hl <;> first | rfl | cases hl
  | .arr _ _, y, hl, hs => by cases y <;> simp only [AV.le] at hl <;> first | rfl | cases hl
  | .int _ _, y, hl, hs => by cases y <;> simp only [AV.le] at hl <;> first | rfl | cases hl
  | .bool _, y, hl, hs => by cases y <;> simp only [AV.le] at hl <;> first | rfl | cases hl
  | .str _, y, hl, hs => by cases y <;> simp only [AV.le] at hl <;> first | rfl | cases hl
  | .any, y, hl, hs => by cases y <;> simp only [AV.le] at hl <;> first | rfl | cases hl
  | .nilp, y, hl, hs => by cases y <;> simp only [AV.le] at hl <;> first | rfl | cases hl
  | .rptr _ _, y, hl, hs => by cases y <;> simp only [AV.le] at hl <;> first | rfl | cases hl
  | .st _, y, hl, hs => by cases y <;> simp only [AV.le] at hl <;> first | rfl | cases hl
theorem les_stat : ∀ (l m : List AV), AV.les [] [] l m → AV.areStat l = true → AV.areStat m = true
  | [], m, hl, hs => by cases m <;> simp_all [AV.les, AV.areStat]
  | x :: l, m, hl, hs => by
    cases m with
    | nil => simp [AV.les] at hl
    | cons y m =>
      simp only [AV.les] at hl
      simp only [AV.areStat, Bool.and_eq_true] at hs ⊢
      exact ⟨le_stat x y hl.1 hs.1, les_stat l m hl.2 hs.2⟩
end

theorem le_repS {x y : AV} (hs : x.isStat = true) (hl : AV.le [] [] x y) {v : Value} (h : RepS w F v x) : RepS w F v y := by
  have hb := le_rep (w := w) (F := F) (st := ⟨[], []⟩) (st' := ⟨[], []⟩) (φ := fun _ => ⟨none, 0, .leaf, 0⟩) (fun b c h => by simp [get] at h) x y (fun b _ => by simp [nilPlace, get]) hl
  exact (hb.1 v (.stat h)).toS (le_stat x y hl hs)

theorem les_len : ∀ {l m : List AV}, AV.les [] [] l m → l.length = m.length ∧ ∀ j, j < l.length → AV.le [] [] (l.getD j .any) (m.getD j .any)
  | [], m, hl => by cases m <;> simp_all [AV.les]
  | x :: l, m, hl => by
    cases m with
    | nil => simp [AV.les] at hl
    | cons y m =>
      simp only [AV.les] at hl
      obtain ⟨h1, h2⟩ := les_len hl.2
      refine ⟨by simp [h1], fun j hj => ?_⟩
      cases j with
      | zero => simpa using hl.1
      | succ j => simpa using h2 j (by simpa using hj)

theorem stat_tup {m : List AV} (h : AV.areStat m = true) : (tupOf m).isRes = true := by
  match m with
  | [] => rfl
  | [y] =>
    simp only [AV.areStat, Bool.and_true] at h
    simp only [tupOf]
    cases y <;> first | exact h | simp [AV.isStat] at h
  | y :: z :: m => exact h

theorem le_repR {x y : AV} (hs : x.isRes = true) (hl : AV.le [] [] x y) {v : Value} (h : RepR w F v x) : RepR w F v y := by
  cases x with
  | tup l =>
    cases y <;> simp only [AV.le] at hl
    case tup m =>
      obtain ⟨vs, rfl, h1, h2⟩ := h
      obtain ⟨h3, h4⟩ := les_len hl
      exact ⟨vs, rfl, by omega, fun j hj => le_repS (areStat_getD hs j) (h4 j (by omega)) (h2 j (by omega))⟩
    case any => simp [AV.isOne] at hl
    all_goals cases hl
  | _ =>
    have h1 := le_repS hs hl h
    have h2 := le_stat _ _ hl hs
    cases y <;> first | exact h1 | simp [AV.isStat] at h2

/-- THE CONTRACT OF A FUNCTION. -/
theorem RCalls.of_vc {V : VCtx} {f : FuncId} {fn : Func} {args : List AV} {r : AV} (hf : V.C.P.funcs[f]? = some fn) (hn : fn.ntmps = V.C.ntmps) (hl : args.length ≤ V.C.ntmps) (hT : TysOK V.C) (hCC : CCOK V.C V.CC) (h : fnVc V fn args r) :
    RCalls V.C.P V.C.G f args r := by
  intro w F vs hro hglob hsz hr
  unfold fnVc at h
  split at h
  case h_2 => exact h.elim
  rename_i c hb
  refine calls_of_wp hf hb (wp_mono (vc_sound hT hCC c _ _ _ _ _ _ h (Rel.start hn hl hro hglob hsz hr)) ?_)
  rintro e a' w' ⟨st, F', φ', hR, hq⟩
  have fin : (match retOf V.C st fn.results.toList with | some (x, ps) => conj ps (AV.le [] [] x r) | none => False) → bodyPost V.C.P fn (fun en w' => ∃ v F', en = .returned v ∧ Below w.heap.size w w' ∧ (∀ k, F k → F' k) ∧ (∀ k, F' k → F k ∨ w.heap.size ≤ k) ∧ (∀ k, F' k → k < w'.heap.size) ∧ RepR w' F' v r) .ret a' w' := by
    intro hq
    split at hq
    case h_2 => exact hq.elim
    rename_i x ps hret
    obtain ⟨hps, hle⟩ := conj_spec hq
    unfold retOf at hret
    split at hret
    case h_2 => cases hret
    rename_i l hres
    split at hret
    case h_2 => cases hret
    rename_i m ps' hfz
    split at hret
    case h_2 => cases hret
    rename_i hst
    cases hret
    obtain ⟨us, h1, h2, h3⟩ := resAV_run hR hT _ _ hres
    obtain ⟨h4, h5⟩ := frzs_rep hR _ _ _ hfz hps
    refine ⟨hR.dfr, _, results_run h1, _, Lent st F' φ', rfl, hR.base.toBelow, fun k hk => .inl (hR.sub k hk), ?_, ?_, ?_⟩
    · rintro k (hk | ⟨b, c, hb, hk⟩)
      · exact (hR.new k hk).imp_right fun h => h.resolve_right fun hf => hf
      · exact .inr (((hR.heap b c hb).lt hk).2.2.resolve_right fun hf => hf)
    · rintro k (hk | ⟨b, c, hb, hk⟩)
      · exact hR.ro k hk
      · exact ((hR.heap b c hb).lt hk).1
    · have h6 : ∀ j, j < m.length → RepS w' (Lent st F' φ') (us.getD j undef) (m.getD j .any) := fun j hj => h5 j hj _ (h3 j (by omega))
      have h7 : RepR w' (Lent st F' φ') (retVal us) (tupOf m) := by
        match m, us, h4, h2, h6, hst with
        | [], us, h4, h2, h6, _ =>
          have : us = [] := List.eq_nil_of_length_eq_zero (by simp at h4; rw [h4] at h2; simpa using h2)
          subst this
          exact ⟨#[], rfl, rfl, fun j hj => by simp at hj⟩
        | [y], us, h4, h2, h6, hst =>
          match us, (h2.trans h4 : us.length = 1) with
          | [v], _ =>
            have := h6 0 (by simp)
            simp only [List.getD_cons_zero] at this
            simp only [AV.areStat, Bool.and_true] at hst
            simp only [tupOf]
            cases y <;> first | exact this | simp [AV.isStat] at hst
        | y :: z :: m, us, h4, h2, h6, _ =>
          match us, (h2.trans h4 : us.length = m.length + 1 + 1) with
          | v :: u :: us, hlen => exact ⟨_, rfl, by simpa using hlen, fun j hj => by simpa [Array.getD_eq_getD_getElem?, List.getD_eq_getElem?_getD] using h6 j hj⟩
      exact le_repR (stat_tup hst) hle h7
  cases e with
  | normal => exact fin hq
  | ret => exact fin hq
  | _ => exact hq.elim
end
end Go.AV
