/- The contract of a function to which boxes are lent. -/
import Derived.Test.YtmlgkljbhidlhaaAvFnF
namespace Go.AV
open Go.RowKit

def atLent (i : Nat) : Nat := 1099511627776 + i
def lentHeap : Nat → List BoxC → List (Nat × BoxC)
  | _, [] => []
  | i, c :: hs => (atLent i, c.sub atLent) :: lentHeap (i + 1) hs
/- Which box stands for which new one. -/
mutual
def pairK (k : Nat) : AV → AV → List (Nat × Nat)
  | .own b _, .own i _ | .ptr b _, .ptr i _ | .optr b _ _, .optr i _ _ => match Nat.blt i k with | true => [] | false => [(i, b)]
  | .agg l, .agg m => pairKs k l m
  | .tup l, .tup m => pairKs k l m
  | .mc _ x, .mc _ y => pairK k x y
  | _, _ => []
def pairKs (k : Nat) : List AV → List AV → List (Nat × Nat)
  | x :: l, y :: m => pairK k x y ++ pairKs k l m
  | _, _ => []
end
def pairBs (k : Nat) (h : List (Nat × BoxC)) : Nat → List (Option BoxC) → List (Nat × Nat)
  | _, [] => []
  | i, some (.cell _ _ y) :: os => match get h (atLent i) with
    | some (.cell _ _ x) => pairK k x y ++ pairBs k h (i + 1) os
    | _ => pairBs k h (i + 1) os
  | i, _ :: os => pairBs k h (i + 1) os
def nameK (k : Nat) (prs : List (Nat × Nat)) (i : Nat) : Nat := match Nat.blt i k with | true => atLent i | false => nameF prs i
def rowsK (nm : Nat → Nat) : Nat → List (Option BoxC) → List (Nat × BoxC)
  | _, [] => []
  | i, some c :: os => (nm i, c.sub nm) :: rowsK nm (i + 1) os
  | i, none :: os => rowsK nm (i + 1) os
def selFrz (ks : List Nat) (h : List (Nat × BoxC)) : List (Nat × BoxC) → Option (List (Nat × BoxC) × List Prop)
  | [] => some ([], [])
  | (k, .cell tc sh x) :: l => match frzK ks h x, selFrz ks h l with
    | some (y, ps), some (m, qs) => some ((k, .cell tc sh y) :: m, ps ++ qs)
    | _, _ => none
  | (k, c) :: l => match selFrz ks h l with
    | some (m, qs) => some ((k, c) :: m, qs)
    | none => none
def retL2 (h : List (Nat × BoxC)) (t r : AV) (os : List (Option BoxC)) (nm : Nat → Nat) (ks : List Nat) : Option (List Prop × St × St) :=
  match nodupN ks && goodRes (isAt os) r && onlyAllO (isAt os) os, frzK ks (dropAll ks h) t, selFrz ks (dropAll ks h) (selAll ks h) with
  | true, some (m, ps), some (H, qs) => some (ps ++ qs, ⟨[(0, m)], H⟩, ⟨[(0, r.sub nm)], rowsK nm 0 os⟩)
  | _, _, _ => none
def retL1 (h : List (Nat × BoxC)) (t r : AV) (os : List (Option BoxC)) (nm : Nat → Nat) : Option (List Prop × St × St) := retL2 h t r os nm (keysF (rowsK nm 0 os))
def retOfL (C : Cfg) (st : St) (rs : List ResultVar) (k : Nat) (r : AV) (os : List (Option BoxC)) : Option (List Prop × St × St) :=
  match resAV C st rs with
  | some l => retL1 st.heap (tupOf l) r os (nameK k (pairK k (tupOf l) r ++ pairBs k st.heap 0 os))
  | none => none
def fnPostL (V : VCtx) (fn : Func) (k : Nat) (r : AV) (os : List (Option BoxC)) (e : Exit) (st : St) : Prop :=
  match e with
  | .ret | .normal => match retOfL V.C st fn.results.toList k r os with
    | some (ps, s1, s2) => conj ps (St.le s1 s2)
    | none => False
  | _ => False
/-- What the arguments name is lent. -/
def goodArgs (args : List AV) (hs : List BoxC) : Bool := AV.only0L (below hs.length) args && areVals args && onlyAll (below hs.length) hs
def fnVcL (V : VCtx) (fn : Func) (args : List AV) (hs : List BoxC) (r : AV) (os : List (Option BoxC)) : Prop :=
  match goodArgs args hs, fn.body with
  | true, some c => vc V c ⟨argEnv 0 (AV.subL atLent args), lentHeap 0 hs⟩ (fnPostL V fn hs.length r os)
  | _, _ => False

section
variable {C : Cfg} {W0 : Entry} {F0 : Nat → Prop} {st st' : St} {a : Act} {w : World} {F : Nat → Prop} {φ : Nat → Place}

theorem lentHeap_get : ∀ {hs : List BoxC} {i b : Nat} {c : BoxC}, get (lentHeap i hs) b = some c → ∃ j d, b = atLent (i + j) ∧ hs[j]? = some d ∧ c = d.sub atLent
  | [], _, _, _, h => by simp [lentHeap, get] at h
  | d :: hs, i, b, c, h => by
    simp only [lentHeap, get] at h
    split at h
    · rename_i e
      cases h
      exact ⟨0, d, (Nat.eq_of_beq_eq_true e).symm, rfl, rfl⟩
    · obtain ⟨j, d', h1, h2, h3⟩ := lentHeap_get h
      exact ⟨j + 1, d', by rw [h1]; congr 1; omega, by simpa using h2, h3⟩
theorem BoxOK.rebase {B B' : Nat → Prop} {b : Nat} {c : BoxC} (h : BoxOK w F φ B b c) (hb : ∀ k, (φ b).blk = some k → B' k) : BoxOK w F φ B' b c := by
  cases c with
  | cell tc sh x =>
    obtain ⟨h0, g, cs, h1, h2, h3⟩ := h
    exact ⟨h0, g, cs, h1, hb _ h1, h3⟩
  | row ty sh n f =>
    obtain ⟨h0, h0', h⟩ := h
    refine ⟨h0, h0', ?_⟩
    rcases h with h | ⟨g, cs, h1, h2, h3⟩
    · exact .inl h
    · exact .inr ⟨g, cs, h1, hb _ h1, h3⟩
/-- Where the boxes lie, as the callee calls them. -/
def lentPl (φ : Nat → Place) (b : Nat) : Place := match Nat.ble 1099511627776 b with | true => φ (b - 1099511627776) | false => ⟨none, 0, .leaf, 0⟩
theorem lentPl_at (φ : Nat → Place) (i : Nat) : lentPl φ (atLent i) = φ i := by
  unfold lentPl atLent
  have h1 : Nat.ble 1099511627776 (1099511627776 + i) = true := Nat.ble_eq_true_of_le (by omega)
  rw [h1]
  show φ (1099511627776 + i - 1099511627776) = φ i
  rw [Nat.add_sub_cancel_left]
def lentAnc (φ : Nat → Place) (hs : List BoxC) (b : Nat) : Option Place := match Nat.ble 1099511627776 b with
  | true => match hs[b - 1099511627776]? with
    | some (.cell _ _ _) => some (φ (b - 1099511627776))
    | _ => none
  | false => none

/-- Called with values that read as 'args', where lent boxes read as hs. -/
theorem Rel.startL {C : Cfg} {fn : Func} {args : List AV} {hs : List BoxC} {vs : Array Value} (hn : fn.ntmps = C.ntmps) (hl : args.length ≤ C.ntmps) (hgood : goodArgs args hs = true) (hro : ∀ k, F k → k < w.heap.size)
    (hglob : ∀ g x, get C.G g = some x → RepS w F (.pointer (some ⟨g, 0, none⟩)) x) (hsz : vs.size = args.length) (hr : ∀ j, j < args.length → Rep w F φ (vs.getD j undef) (args.getD j .any))
    (hbox : ∀ (i : Nat) c, hs[i]? = some c → BoxOK w F φ (fun _ => True) i c) (hinj : ∀ i i' g, i < hs.length → i' < hs.length → (φ i).blk = some g → (φ i').blk = some g → i = i') :
    Rel C ⟨w, LentTo φ hs.length, lentAnc φ hs⟩ F ⟨argEnv 0 (AV.subL atLent args), lentHeap 0 hs⟩ { tmps := vs ++ Array.replicate (fn.ntmps - vs.size) undef, defers := [] } w F (lentPl φ) := by
  simp only [goodArgs, Bool.and_eq_true] at hgood
  obtain ⟨⟨g1, g2⟩, g3⟩ := hgood
  have hφ : ∀ b, below hs.length b = true → lentPl φ (atLent b) = φ b := fun b _ => lentPl_at φ b
  refine ⟨fun s x hs => ?_, fun b c hc => ?_, fun b b' c c' g h1 h2 h3 h4 => ?_, hro, Kept.refl _ _, fun _ h => h, fun _ h => .inl h, rfl, by simp; omega, hglob, fun b p hp => ?_⟩
  · obtain ⟨_, h2, rfl⟩ := argEnv_get _ 0 s x hs
    rw [Nat.zero_add, subL_len] at h2
    rw [Nat.sub_zero, subL_getD _ _ _ h2]
    refine ⟨vs.getD s undef, ?_, sub_val hφ (isVal_or (areVals_getD g2 h2)) (only0L_getD g1 h2) (hr s h2)⟩
    rw [Array.getElem?_append_left (by omega), Array.getElem?_eq_getElem (by omega), Array.getD_eq_getD_getElem?, Array.getElem?_eq_getElem (by omega), Option.getD_some]
  · obtain ⟨j, d, rfl, h2, rfl⟩ := lentHeap_get hc
    rw [Nat.zero_add]
    have hlt := (List.getElem?_eq_some_iff.1 h2).1
    refine box_sub hφ (Nat.ble_eq_true_of_le hlt) (onlyAll_get g3 h2) ((hbox j d h2).rebase fun k hk => .inr ⟨j, hlt, hk⟩)
  · obtain ⟨j, d, rfl, k2, rfl⟩ := lentHeap_get h1
    obtain ⟨j', d', rfl, k2', rfl⟩ := lentHeap_get h2
    rw [Nat.zero_add, lentPl_at] at h3
    rw [Nat.zero_add, lentPl_at] at h4
    rw [hinj j j' g (List.getElem?_eq_some_iff.1 k2).1 (List.getElem?_eq_some_iff.1 k2').1 h3 h4]
  · change lentAnc φ hs b = some p at hp
    unfold lentAnc at hp
    split at hp
    case h_2 => cases hp
    rename_i hb
    split at hp
    case h_2 => cases hp
    rename_i sh x hx
    cases hp
    have hb := Nat.le_of_ble_eq_true hb
    refine ⟨hb, ?_, fun c hc => ?_⟩
    · have := lentPl_at φ (b - 1099511627776)
      rwa [show atLent (b - 1099511627776) = b from by unfold atLent; omega] at this
    · obtain ⟨j, d, rfl, h2, rfl⟩ := lentHeap_get hc
      rw [show atLent (0 + j) - 1099511627776 = j from by unfold atLent; omega, h2] at hx
      cases hx
      rfl

theorem selFrz_get {ks : List Nat} {h : List (Nat × BoxC)} : ∀ {l H : List (Nat × BoxC)} {ps : List Prop} {b : Nat} {c : BoxC}, selFrz ks h l = some (H, ps) → (∀ p ∈ ps, p) → get H b = some c →
    ∃ d, get l b = some d ∧ c.isRow = d.isRow ∧ match d, c with
      | .row ty sh n f, c => c = .row ty sh n f
      | .cell tc sh x, .cell tc' sh' y => tc' = tc ∧ sh' = sh ∧ ∃ qs, frzK ks h x = some (y, qs) ∧ ∀ p ∈ qs, p
      | .cell _ _ _, .row _ _ _ _ => False
  | [], H, ps, b, c, hs, _, hg => by simp [selFrz] at hs; rw [hs.1] at hg; simp [get] at hg
  | (k, .cell tc sh x) :: l, H, ps, b, c, hs, hp, hg => by
    simp only [selFrz] at hs
    split at hs
    case h_2 => cases hs
    rename_i y qs m qs' h1 h2
    cases hs
    simp only [get] at hg ⊢
    split at hg
    · cases hg
      exact ⟨_, rfl, rfl, rfl, rfl, qs, h1, fun p hp' => hp p (by simp [hp'])⟩
    · exact selFrz_get h2 (fun p hp' => hp p (by simp [hp'])) hg
  | (k, .row ty sh n f) :: l, H, ps, b, c, hs, hp, hg => by
    simp only [selFrz] at hs
    split at hs
    case h_2 => cases hs
    rename_i m qs' h2
    cases hs
    simp only [get] at hg ⊢
    split at hg
    · cases hg
      exact ⟨_, rfl, rfl, rfl⟩
    · exact selFrz_get h2 hp hg

theorem get_rowsK {nm : Nat → Nat} : ∀ (os : List (Option BoxC)) (i j : Nat) (c : BoxC), nodupN (keysF (rowsK nm i os)) = true → os[j]? = some (some c) → get (rowsK nm i os) (nm (i + j)) = some (c.sub nm) ∧ nm (i + j) ∈ keysF (rowsK nm i os)
  | [], i, j, c, _, h => by simp at h
  | some d :: os, i, 0, c, _, h => by
    simp at h; subst h
    simp [rowsK, get, keysF]
  | none :: os, i, 0, c, _, h => by simp at h
  | none :: os, i, j + 1, c, hn, h => by
    have := get_rowsK os (i + 1) j c (by simpa only [rowsK] using hn) (by simpa using h)
    rw [show i + 1 + j = i + (j + 1) from by omega] at this
    simpa only [rowsK] using this
  | some d :: os, i, j + 1, c, hn, h => by
    simp only [rowsK, keysF, nodupN, Bool.and_eq_true, Bool.not_eq_true'] at hn
    obtain ⟨h1, h2⟩ := get_rowsK os (i + 1) j c hn.2 (by simpa using h)
    rw [show i + 1 + j = i + (j + 1) from by omega] at h1 h2
    have hne : Nat.beq (nm i) (nm (i + (j + 1))) = false := by
      cases e : Nat.beq (nm i) (nm (i + (j + 1))) with
      | false => rfl
      | true =>
        rw [Nat.eq_of_beq_eq_true e, inN_iff.2 h2] at hn; cases hn.1
    simp only [rowsK, get, hne, keysF]
    exact ⟨h1, List.mem_cons_of_mem _ h2⟩
theorem nodup_rowsK {nm : Nat → Nat} : ∀ (os : List (Option BoxC)) (i j j' : Nat) (c c' : BoxC), nodupN (keysF (rowsK nm i os)) = true → os[j]? = some (some c) → os[j']? = some (some c') → nm (i + j) = nm (i + j') → j = j'
  | [], _, _, _, _, _, _, h, _, _ => by simp at h
  | none :: os, i, j, j', c, c', hn, hj, hj', e => by
    cases j with
    | zero => simp at hj
    | succ j => cases j' with
      | zero => simp at hj'
      | succ j' =>
        have := nodup_rowsK os (i + 1) j j' c c' (by simpa only [rowsK] using hn) (by simpa using hj) (by simpa using hj') (by rw [show i + 1 + j = i + (j + 1) from by omega, show i + 1 + j' = i + (j' + 1) from by omega]; exact e)
        omega
  | some d :: os, i, j, j', c, c', hn, hj, hj', e => by
    have hn' := hn
    simp only [rowsK, keysF, nodupN, Bool.and_eq_true, Bool.not_eq_true'] at hn
    have mem : ∀ (k : Nat) (c : BoxC), os[k]? = some (some c) → nm (i + (k + 1)) ∈ keysF (rowsK nm (i + 1) os) := fun k c hk => by
      have := (get_rowsK os (i + 1) k _ hn.2 hk).2
      rwa [show i + 1 + k = i + (k + 1) from by omega] at this
    have ne : ∀ (k : Nat) (c : BoxC), os[k]? = some (some c) → nm (i + 0) ≠ nm (i + (k + 1)) := fun k c hk e => by
      rw [Nat.add_zero] at e
      rw [e, inN_iff.2 (mem k c hk)] at hn; cases hn.1
    cases j with
    | zero => cases j' with
      | zero => rfl
      | succ j' => exact absurd e (ne j' c' (by simpa using hj'))
    | succ j => cases j' with
      | zero => exact absurd e.symm (ne j c (by simpa using hj))
      | succ j' =>
        have := nodup_rowsK os (i + 1) j j' c c' hn.2 (by simpa using hj) (by simpa using hj') (by rw [show i + 1 + j = i + (j + 1) from by omega, show i + 1 + j' = i + (j' + 1) from by omega]; exact e)
        omega
theorem isAt_of : ∀ {os : List (Option BoxC)} {i : Nat} {c : BoxC}, os[i]? = some (some c) → isAt os i = true
  | [], _, _, h => by simp at h
  | o :: os, 0, c, h => by simp at h; subst h; rfl
  | o :: os, i + 1, c, h => isAt_of (os := os) (c := c) (by simpa using h)

/-- THE CONTRACT OF A FUNCTION to which boxes are lent. -/
theorem RLent.of_vc {V : VCtx} {f : FuncId} {fn : Func} {args : List AV} {hs : List BoxC} {r : AV} {os : List (Option BoxC)} (hf : V.C.P.funcs[f]? = some fn) (hn : fn.ntmps = V.C.ntmps) (hl : args.length ≤ V.C.ntmps) (hT : TysOK V.C) (hCC : CCOK V.C V.CC)
    (h : fnVcL V fn args hs r os) : RLent V.C.P V.C.G f args hs r os := by
  intro w F φ vs hro hglob hsz hr hbox hinj
  unfold fnVcL at h
  split at h
  case h_2 => exact h.elim
  rename_i c hgood hb
  refine calls_of_wp hf hb (wp_mono (vc_sound hT hCC c _ _ _ _ _ _ h (Rel.startL hn hl hgood hro hglob hsz hr hbox hinj)) ?_)
  rintro e a' w' ⟨st, F', φ', hR, hq⟩
  have fin : fnPostL V fn hs.length r os .ret st → bodyPost V.C.P fn (fun en w' => ∃ v F' φ', en = .returned v ∧ Kept (LentTo φ hs.length) w w' ∧ (∀ k, F k → F' k) ∧ (∀ k, F' k → F k ∨ w.heap.size ≤ k ∨ LentTo φ hs.length k) ∧ (∀ k, F' k → k < w'.heap.size) ∧ Rep w' F' φ' v r ∧
      (∀ i c, os[i]? = some (some c) → BoxOK w' F' φ' (fun k => w.heap.size ≤ k ∨ LentTo φ hs.length k) i c) ∧
      (∀ i i' c c' g, os[i]? = some (some c) → os[i']? = some (some c') → (φ' i).blk = some g → (φ' i').blk = some g → i = i') ∧
      ∀ i tc sh x, hs[i]? = some (.cell tc sh x) → φ' i = φ i) .ret a' w' := by
    intro hq
    unfold fnPostL at hq
    dsimp only at hq
    split at hq
    case h_2 => exact hq.elim
    rename_i ps s1 s2 hret
    unfold retOfL at hret
    split at hret
    case h_2 => cases hret
    rename_i l hres
    generalize hprs : pairK hs.length (tupOf l) r ++ pairBs hs.length st.heap 0 os = prs at hret
    generalize hnm : nameK hs.length prs = nm at hret
    unfold retL1 at hret
    generalize hks : keysF (rowsK nm 0 os) = ks at hret
    unfold retL2 at hret
    split at hret
    case h_2 => cases hret
    rename_i m ps' H qs hgd hfz hsel
    cases hret
    simp only [Bool.and_eq_true] at hgd
    obtain ⟨⟨hnd, hgr⟩, hoo⟩ := hgd
    obtain ⟨hps, hle⟩ := conj_spec hq
    obtain ⟨us, h1, h2, h3⟩ := resAV_run hR hT _ _ hres
    have hv := retVal_rep h2 h3
    have hR2 : Rel V.C ⟨w, LentTo φ hs.length, lentAnc φ hs⟩ F { st with heap := dropAll ks st.heap } a' w' F' φ' :=
      ⟨hR.env, fun b c hc => hR.heap b c (get_dropAll hc).1, fun b b' c c' g h1 h2 => hR.inj b b' c c' g (get_dropAll h1).1 (get_dropAll h2).1, hR.ro, hR.base, hR.sub, hR.new, hR.dfr, hR.tsz, hR.glob,
        fun b p hp => ⟨(hR.anc b p hp).1, (hR.anc b p hp).2.1, fun c hc => (hR.anc b p hp).2.2 c (get_dropAll hc).1⟩⟩
    have hv2 := (frzK_rep (ks := ks) hR2 _ _ _ hfz fun p hp => hps p (by simp [hp])).1 _ hv
    have hlent : ∀ k, Lent { st with heap := dropAll ks st.heap } F' φ' k → F k ∨ (w.heap.size ≤ k ∨ LentTo φ hs.length k) := by
      rintro k (hk | ⟨b, c, hb, hk⟩)
      · exact hR.new k hk
      · exact .inr ((hR2.heap b c hb).lt hk).2.2
    have hlt : ∀ k, Lent { st with heap := dropAll ks st.heap } F' φ' k → k < w'.heap.size := by
      rintro k (hk | ⟨b, c, hb, hk⟩)
      · exact hR.ro k hk
      · exact ((hR2.heap b c hb).lt hk).1
    have hsel' : ∀ b c, get H b = some c → ∃ d, get st.heap b = some d ∧ b ∈ ks ∧ c.isRow = d.isRow ∧ match d, c with
      | .row ty sh n f, c => c = .row ty sh n f
      | .cell tc sh x, .cell tc' sh' y => tc' = tc ∧ sh' = sh ∧ ∃ qs, frzK ks (dropAll ks st.heap) x = some (y, qs) ∧ ∀ p ∈ qs, p
      | .cell _ _ _, .row _ _ _ _ => False := fun b c hc => by
      obtain ⟨d, k1, k2⟩ := selFrz_get hsel (fun p hp => hps p (by simp [hp])) hc
      obtain ⟨k3, k4⟩ := get_selAll k1
      exact ⟨d, k3, k4, k2⟩
    have hR3 : Rel { V.C with ntmps := 1 } ⟨w, LentTo φ hs.length, lentAnc φ hs⟩ F ⟨[(0, m)], H⟩ { tmps := #[retVal us], defers := [] } w' (Lent { st with heap := dropAll ks st.heap } F' φ') φ' := by
      refine ⟨fun s x hs => ?_, fun b c hc => ?_, fun b b' c c' g h1 h2 h3 h4 => ?_, hlt, hR.base, fun k hk => .inl (hR.sub k hk), fun k hk => hlent k hk, rfl, rfl, fun g x hg => (hR.glob g x hg).keep (fun _ _ => rfl) fun _ hk => .inl hk, fun b p hp => ?_⟩
      · simp only [get] at hs
        split at hs
        · rename_i e
          cases hs
          have := Nat.eq_of_beq_eq_true e
          subst this
          exact ⟨_, rfl, hv2⟩
        · cases hs
      · obtain ⟨d, k1, k2, _, k3⟩ := hsel' b c hc
        have hb := hR.heap b d k1
        have hg' : ∀ g, (φ' b).blk = some g → ¬ Lent { st with heap := dropAll ks st.heap } F' φ' g := fun g hg => by
          rintro (h5 | ⟨b', c', h5, h6⟩)
          · exact (hb.lt hg).2.1 h5
          · obtain ⟨h7, h8⟩ := get_dropAll h5
            exact h8 (hR.inj b' b c' d g h7 k1 h6 hg ▸ k2)
        cases d with
        | row ty sh n f =>
          subst k3
          exact hb.keep (fun _ _ => rfl) (fun _ hk => .inl hk) (fun g hg => ⟨rfl, hg' g hg⟩) rfl fun _ _ => rfl
        | cell tc sh x =>
          cases c with
          | row => exact k3.elim
          | cell tc' sh' y =>
            obtain ⟨rfl, rfl, qs', k4, k5⟩ := k3
            obtain ⟨b0, g, cs, b3, b4, b5, b6, b7, b8⟩ := hb
            exact ⟨b0, g, cs, b3, b4, hg' g b3, b6, b7, fun j hj => (frzK_rep (ks := ks) hR2 _ _ _ k4 k5).2 sh' j _ (b8 j hj)⟩
      · obtain ⟨d, k1, _⟩ := hsel' b c h1
        obtain ⟨d', k1', _⟩ := hsel' b' c' h2
        exact hR.inj b b' d d' g k1 k1' h3 h4
      · obtain ⟨a1, a2, a3⟩ := hR.anc b p hp
        refine ⟨a1, a2, fun c hc => ?_⟩
        obtain ⟨d, k1, _, k2, _⟩ := hsel' b c hc
        rw [k2]; exact a3 d k1
    obtain ⟨φ4, hR4⟩ := hR3.weaken hle
    obtain ⟨v, hv4, hrep⟩ := hR4.env 0 (r.sub nm) rfl
    simp at hv4
    subst hv4
    refine ⟨hR.dfr, _, results_run h1, _, _, fun i => φ4 (nm i), rfl, hR.base, fun k hk => .inl (hR.sub k hk), hlent, hlt, inv_res (m := isAt os) (n := nm) (φ2 := φ4) (fun _ _ => rfl) hgr hrep, fun i c hc => ?_, fun i i' c c' g hi hi' e e' => ?_, fun i tc sh x hi => ?_⟩
    · have hg := (get_rowsK os 0 i c (by rw [hks]; exact hnd) hc).1
      rw [Nat.zero_add] at hg
      exact box_inv (m := isAt os) (n := nm) (φ2 := φ4) (fun _ _ => rfl) (isAt_of hc) (onlyAllO_get hoo hc) (hR4.heap _ _ hg)
    · have k1 := (get_rowsK os 0 i _ (by rw [hks]; exact hnd) hi).1
      have k2 := (get_rowsK os 0 i' _ (by rw [hks]; exact hnd) hi').1
      rw [Nat.zero_add] at k1 k2
      have := hR4.inj _ _ _ _ g k1 k2 e e'
      exact nodup_rowsK os 0 i i' c c' (nm := nm) (by rw [hks]; exact hnd) hi hi' (by rw [Nat.zero_add, Nat.zero_add]; exact this)
    · have hlt := (List.getElem?_eq_some_iff.1 hi).1
      have e1 : nm i = atLent i := by
        rw [← hnm]
        have : Nat.blt i hs.length = true := Nat.ble_eq_true_of_le hlt
        simp only [nameK, this]
      have := hR4.anc (atLent i) (φ i) (by
        have h1 : Nat.ble 1099511627776 (1099511627776 + i) = true := Nat.ble_eq_true_of_le (by omega)
        simp only [lentAnc, atLent, h1, show 1099511627776 + i - 1099511627776 = i from by omega, hi])
      show φ4 (nm i) = φ i
      rw [e1]
      exact this.2.1
  cases e with
  | normal => exact fin hq
  | ret => exact fin hq
  | _ => exact hq.elim
end
end Go.AV
