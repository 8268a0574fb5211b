/- The contract of a function that hands back rows of its own making. -/
import Derived.Test.YtmlgkljbhidlhaaAvFn
namespace Go.AV
open Go.RowKit

/- The named rows stay the call's own; all else is laid down. -/
mutual
def frzK (ks : List Nat) (h : List (Nat × BoxC)) : AV → Option (AV × List Prop)
  | .own b n => match inN b ks with
    | true => some (.own b n, [])
    | false => frz h (.own b n)
  | .ptr b p => match inN b ks with
    | true => some (.ptr b p, [])
    | false => frz h (.ptr b p)
  | .optr b i p => match inN b ks with
    | true => some (.optr b i p, [])
    | false => frz h (.optr b i p)
  | .agg l => match frzKs ks h l with | some (m, ps) => some (.agg m, ps) | none => none
  | .mc sh x => match frzK ks h x with | some (y, ps) => some (.mc sh y, ps) | none => none
  | .tup l => match frzKs ks h l with | some (m, ps) => some (.tup m, ps) | none => none
  | x => frz h x
def frzKs (ks : List Nat) (h : List (Nat × BoxC)) : List AV → Option (List AV × List Prop)
  | [] => some ([], [])
  | x :: l => match frzK ks h x, frzKs ks h l with
    | some (y, ps), some (m, qs) => some (y :: m, ps ++ qs)
    | _, _ => none
end

mutual
def pairF : AV → AV → List (Nat × Nat)
  | .own b _, .own i _ => [(i, b)]
  | .agg l, .agg m => pairFs l m
  | .tup l, .tup m => pairFs l m
  | .mc _ x, .mc _ y => pairF x y
  | _, _ => []
def pairFs : List AV → List AV → List (Nat × Nat)
  | x :: l, y :: m => pairF x y ++ pairFs l m
  | _, _ => []
end
def nameF (prs : List (Nat × Nat)) (i : Nat) : Nat := match get prs i with | some b => b | none => 1048576 + i
def rowsF (prs : List (Nat × Nat)) : Nat → List BoxC → List (Nat × BoxC)
  | _, [] => []
  | i, c :: cs => (nameF prs i, c) :: rowsF prs (i + 1) cs
def areRows : List BoxC → Bool
  | [] => true
  | c :: cs => c.isRow && areRows cs
def keysF : List (Nat × BoxC) → List Nat
  | [] => []
  | (k, _) :: l => k :: keysF l

def retOfF (C : Cfg) (st : St) (rs : List ResultVar) (r : AV) (cs : List BoxC) : Option (List Prop × St × St) :=
  match resAV C st rs with
  | some l => match nodupN (keysF (rowsF (pairF (tupOf l) r) 0 cs)) && (goodRes (below cs.length) r && areRows cs), frzK (keysF (rowsF (pairF (tupOf l) r) 0 cs)) (dropAll (keysF (rowsF (pairF (tupOf l) r) 0 cs)) st.heap) (tupOf l) with
    | true, some (m, ps) => some (ps, ⟨[(0, m)], selAll (keysF (rowsF (pairF (tupOf l) r) 0 cs)) st.heap⟩, ⟨[(0, r.sub (nameF (pairF (tupOf l) r)))], rowsF (pairF (tupOf l) r) 0 cs⟩)
    | _, _ => none
  | none => none

def fnPostF (V : VCtx) (fn : Func) (r : AV) (cs : List BoxC) (e : Exit) (st : St) : Prop :=
  match e with
  | .ret | .normal => match retOfF V.C st fn.results.toList r cs with
    | some (ps, s1, s2) => conj ps (St.le s1 s2)
    | none => False
  | _ => False

def fnVcF (V : VCtx) (fn : Func) (args : List AV) (r : AV) (cs : List BoxC) : Prop :=
  match fn.body with
  | some c => vc V c ⟨argEnv 0 args, []⟩ (fnPostF V fn r cs)
  | none => False

section
variable {C : Cfg} {W0 : Entry} {F0 : Nat → Prop} {st st' : St} {a : Act} {w : World} {F : Nat → Prop} {φ : Nat → Place}

mutual
theorem frzK_rep {ks : List Nat} {st : St} (h : Rel C W0 F0 st a w F φ) : ∀ (x y : AV) (ps : List Prop), frzK ks st.heap x = some (y, ps) → (∀ p ∈ ps, p) →
    (∀ v, Rep w F φ v x → Rep w (Lent st F φ) φ v y) ∧ (∀ sh j v, Rep w F φ v (leafAt sh x j) → Rep w (Lent st F φ) φ v (leafAt sh y j))
  | .own b n, y, ps, hf, hps => by
    simp only [frzK] at hf
    split at hf
    · cases hf
      exact ⟨fun v hv => hv.keep (fun _ _ => rfl) (fun k hk => .inl hk) fun _ _ => rfl, fun sh j v hv => hv.keep (fun _ _ => rfl) (fun k hk => .inl hk) fun _ _ => rfl⟩
    · obtain ⟨h1, h2⟩ := frz_rep h _ _ _ hf hps
      exact ⟨fun v hv => .stat (h1 v hv), fun sh j v hv => .stat (h2 sh j v hv)⟩
  | .ptr b p, y, ps, hf, hps => by
    simp only [frzK] at hf
    split at hf
    · cases hf
      exact ⟨fun v hv => hv.keep (fun _ _ => rfl) (fun k hk => .inl hk) fun _ _ => rfl, fun sh j v hv => hv.keep (fun _ _ => rfl) (fun k hk => .inl hk) fun _ _ => rfl⟩
    · obtain ⟨h1, h2⟩ := frz_rep h _ _ _ hf hps
      exact ⟨fun v hv => .stat (h1 v hv), fun sh j v hv => .stat (h2 sh j v hv)⟩
  | .optr b i p, y, ps, hf, hps => by
    simp only [frzK] at hf
    split at hf
    · cases hf
      exact ⟨fun v hv => hv.keep (fun _ _ => rfl) (fun k hk => .inl hk) fun _ _ => rfl, fun sh j v hv => hv.keep (fun _ _ => rfl) (fun k hk => .inl hk) fun _ _ => rfl⟩
    · obtain ⟨h1, h2⟩ := frz_rep h _ _ _ hf hps
      exact ⟨fun v hv => .stat (h1 v hv), fun sh j v hv => .stat (h2 sh j v hv)⟩
  | .agg l, y, ps, hf, hps => by
    simp only [frzK] at hf
    split at hf
    case h_2 => cases hf
    rename_i m qs hm
    cases hf
    refine ⟨fun v hv => (by cases hv with | stat hv => cases hv), fun s j v hv => ?_⟩
    cases s with
    | leaf => simp only [leafAt, asLeaf, AV.isOne] at hv ⊢; exact .stat (.any _ (hv.one rfl))
    | agg ss => simp only [leafAt] at hv ⊢; exact (frzKs_rep h l m ps hm hps).2 ss j v hv
    | arr n s => simp only [leafAt] at hv ⊢; exact .stat (.any _ (hv.one rfl))
  | .mc sh x, y, ps, hf, hps => by
    simp only [frzK] at hf
    split at hf
    case h_2 => cases hf
    rename_i z qs hz
    cases hf
    obtain ⟨_, k2⟩ := frzK_rep h x z ps hz hps
    refine ⟨fun v hv => ?_, fun s' j v hv => ?_⟩
    · obtain ⟨cs, rfl, hsz, hr⟩ := hv.mc_inv
      exact .mc cs sh z hsz fun j hj => k2 sh j _ (hr j hj)
    · cases s' with
      | leaf => simp only [leafAt, asLeaf, AV.isOne] at hv ⊢; exact .stat (.any _ (hv.one rfl))
      | agg ss => simp only [leafAt] at hv ⊢; exact .stat (.any _ (hv.one rfl))
      | arr m s => simp only [leafAt] at hv ⊢; exact .stat (.any _ (hv.one rfl))
  | .tup l, y, ps, hf, hps => by
    simp only [frzK] at hf
    split at hf
    case h_2 => cases hf
    rename_i m qs hm
    cases hf
    obtain ⟨⟨k0, k1⟩, k2⟩ := frzKs_rep h l m ps hm hps
    refine ⟨fun v hv => ?_, fun s j v hv => ?_⟩
    · cases hv with
      | stat hv => cases hv
      | tup vs _ h1 h2 => exact .tup vs m (by omega) fun j hj => k1 j hj _ (h2 j (by omega))
    · cases s with
      | leaf => simp only [leafAt, asLeaf, AV.isOne] at hv ⊢; exact .stat (.any _ (hv.one rfl))
      | agg ss => simp only [leafAt] at hv ⊢; exact .stat (.any _ (hv.one rfl))
      | arr n s => simp only [leafAt] at hv ⊢; exact .stat (.any _ (hv.one rfl))
  | .any, y, ps, hf, hps | .int _ _, y, ps, hf, hps | .bool _, y, ps, hf, hps | .str _, y, ps, hf, hps | .nils, y, ps, hf, hps | .nilp, y, ps, hf, hps | .seq _ _ _, y, ps, hf, hps | .seqc _ _ _, y, ps, hf, hps
  | .rptr _ _, y, ps, hf, hps | .arr _ _, y, ps, hf, hps | .st _, y, ps, hf, hps | .clo _ _, y, ps, hf, hps | .when _ _, y, ps, hf, hps => by
    simp only [frzK] at hf
    obtain ⟨h1, h2⟩ := frz_rep h _ _ _ hf hps
    exact ⟨fun v hv => .stat (h1 v hv), fun sh j v hv => .stat (h2 sh j v hv)⟩
theorem frzKs_rep {ks : List Nat} {st : St} (h : Rel C W0 F0 st a w F φ) : ∀ (l m : List AV) (ps : List Prop), frzKs ks st.heap l = some (m, ps) → (∀ p ∈ ps, p) →
    (l.length = m.length ∧ ∀ j, j < m.length → ∀ v, Rep w F φ v (l.getD j .any) → Rep w (Lent st F φ) φ v (m.getD j .any)) ∧
    ∀ ss j v, Rep w F φ v (leafsAt ss l j) → Rep w (Lent st F φ) φ v (leafsAt ss m j)
  | [], m, ps, hf, _ => by
    simp [frzKs] at hf; obtain ⟨rfl, rfl⟩ := hf
    refine ⟨⟨rfl, fun j hj => by simp at hj⟩, fun ss j v hv => ?_⟩
    cases ss <;> simp only [leafsAt] at hv ⊢ <;> exact .stat (.any _ (hv.one rfl))
  | x :: l, m, ps, hf, hps => by
    simp only [frzKs] at hf
    split at hf
    case h_2 => cases hf
    rename_i y ps1 m' ps2 h1 h2
    cases hf
    obtain ⟨⟨l1, l2⟩, l3⟩ := frzKs_rep h l m' ps2 h2 fun p hp => hps p (by simp [hp])
    obtain ⟨k1, k2⟩ := frzK_rep h x y ps1 h1 fun p hp => hps p (by simp [hp])
    refine ⟨⟨by simp [l1], fun j hj v hv => ?_⟩, fun ss j v hv => ?_⟩
    · cases j with
      | zero => exact k1 v (by simpa using hv)
      | succ j => simpa using l2 j (by simpa using hj) v (by simpa using hv)
    · cases ss with
      | nil => simp only [leafsAt] at hv ⊢; exact .stat (.any _ (hv.one rfl))
      | cons s ss =>
        simp only [leafsAt] at hv ⊢
        split
        · rename_i hj; rw [if_pos hj] at hv; exact k2 s j v hv
        · rename_i hj; rw [if_neg hj] at hv; exact l3 ss _ v hv
end

theorem get_rowsF {prs : List (Nat × Nat)} : ∀ (cs : List BoxC) (i j : Nat) (c : BoxC), nodupN (keysF (rowsF prs i cs)) = true → cs[j]? = some c → get (rowsF prs i cs) (nameF prs (i + j)) = some c ∧ nameF prs (i + j) ∈ keysF (rowsF prs i cs)
  | [], i, j, c, _, h => by simp at h
  | d :: cs, i, 0, c, _, h => by
    simp at h; subst h
    simp [rowsF, get, keysF]
  | d :: cs, i, j + 1, c, hn, h => by
    simp only [rowsF, keysF, nodupN, Bool.and_eq_true, Bool.not_eq_true'] at hn
    obtain ⟨h1, h2⟩ := get_rowsF cs (i + 1) j c hn.2 (by simpa using h)
    rw [show i + 1 + j = i + (j + 1) from by omega] at h1 h2
    have hne : Nat.beq (nameF prs i) (nameF prs (i + (j + 1))) = false := by
      cases e : Nat.beq (nameF prs i) (nameF prs (i + (j + 1))) with
      | false => rfl
      | true =>
        rw [Nat.eq_of_beq_eq_true e, inN_iff.2 h2] at hn; cases hn.1
    simp only [rowsF, get, hne, keysF]
    exact ⟨h1, List.mem_cons_of_mem _ h2⟩
theorem nodup_rowsF {prs : List (Nat × Nat)} : ∀ (cs : List BoxC) (i j j' : Nat), nodupN (keysF (rowsF prs i cs)) = true → j < cs.length → j' < cs.length → nameF prs (i + j) = nameF prs (i + j') → j = j'
  | [], _, _, _, _, h, _, _ => by simp at h
  | d :: cs, i, j, j', hn, hj, hj', e => by
    have hn' := hn
    simp only [rowsF, keysF, nodupN, Bool.and_eq_true, Bool.not_eq_true'] at hn
    have mem : ∀ k, k < cs.length → nameF prs (i + (k + 1)) ∈ keysF (rowsF prs (i + 1) cs) := fun k hk => by
      have := (get_rowsF cs (i + 1) k _ hn.2 (List.getElem?_eq_getElem hk)).2
      rwa [show i + 1 + k = i + (k + 1) from by omega] at this
    have ne : ∀ k, k < cs.length → nameF prs (i + 0) ≠ nameF prs (i + (k + 1)) := fun k hk e => by
      rw [Nat.add_zero] at e
      rw [e, inN_iff.2 (mem k hk)] at hn; cases hn.1
    cases j with
    | zero => cases j' with
      | zero => rfl
      | succ j' => exact absurd e (ne j' (by simpa using hj'))
    | succ j => cases j' with
      | zero => exact absurd e.symm (ne j (by simpa using hj))
      | succ j' =>
        have := nodup_rowsF cs (i + 1) j j' hn.2 (by simpa using hj) (by simpa using hj') (by rw [show i + 1 + j = i + (j + 1) from by omega, show i + 1 + j' = i + (j' + 1) from by omega]; exact e)
        omega

theorem areRows_get : ∀ (cs : List BoxC) {i : Nat} {c : BoxC}, areRows cs = true → cs[i]? = some c → c.isRow = true
  | [], _, _, _, h => by simp at h
  | d :: cs, 0, c, hr, h => by simp only [areRows, Bool.and_eq_true] at hr; simp at h; subst h; exact hr.1
  | d :: cs, i + 1, c, hr, h => by simp only [areRows, Bool.and_eq_true] at hr; exact areRows_get cs hr.2 (by simpa using h)

theorem retVal_rep {us : List Value} {l : List AV} (hl : us.length = l.length) (h : ∀ j, j < l.length → Rep w F φ (us.getD j undef) (l.getD j .any)) : Rep w F φ (retVal us) (tupOf l) := by
  match l, us, hl, h with
  | [], us, hl, h =>
    have : us = [] := List.eq_nil_of_length_eq_zero (by simpa using hl)
    subst this
    exact .tup #[] [] rfl fun j hj => by simp at hj
  | [y], us, hl, h =>
    match us, (hl : us.length = 1) with
    | [v], _ =>
      show Rep w F φ v y
      simpa using h 0 (by simp)
  | y :: z :: m, us, hl, h =>
    match us, (hl : us.length = m.length + 1 + 1) with
    | v :: u :: us, hlen => exact .tup _ _ (by simpa using hlen) fun j hj => by simpa [Array.getD_eq_getD_getElem?, List.getD_eq_getElem?_getD] using h j hj

/-- THE CONTRACT OF A FUNCTION that hands rows over. -/
theorem RFresh.of_vc {V : VCtx} {f : FuncId} {fn : Func} {args : List AV} {r : AV} {cs : List BoxC} (hf : V.C.P.funcs[f]? = some fn) (hn : fn.ntmps = V.C.ntmps) (hl : args.length ≤ V.C.ntmps) (hT : TysOK V.C) (hCC : CCOK V.C V.CC) (h : fnVcF V fn args r cs) :
    RFresh V.C.P V.C.G f args r cs := by
  intro w F vs hro hglob hsz hr
  unfold fnVcF at h
  split at h
  case h_2 => exact h.elim
  rename_i c hb
  refine calls_of_wp hf hb (wp_mono (vc_sound hT hCC c _ _ _ _ _ _ h (Rel.start hn hl hro hglob hsz hr)) ?_)
  rintro e a' w' ⟨st, F', φ', hR, hq⟩
  have fin : fnPostF V fn r cs .ret st → bodyPost V.C.P fn (fun en w' => ∃ v F' φ', en = .returned v ∧ Below w.heap.size w w' ∧ (∀ k, F k → F' k) ∧ (∀ k, F' k → F k ∨ w.heap.size ≤ k) ∧ (∀ k, F' k → k < w'.heap.size) ∧ Rep w' F' φ' v r ∧
      (∀ i c, cs[i]? = some c → BoxOK w' F' φ' (fun k => w.heap.size ≤ k) i c) ∧ ∀ i i' g, i < cs.length → i' < cs.length → (φ' i).blk = some g → (φ' i').blk = some g → i = i') .ret a' w' := by
    intro hq
    unfold fnPostF at hq
    dsimp only at hq
    split at hq
    case h_2 => exact hq.elim
    rename_i ps s1 s2 hret
    unfold retOfF at hret
    split at hret
    case h_2 => cases hret
    rename_i l hres
    split at hret
    case h_2 => cases hret
    rename_i m ps' hgood hfz
    cases hret
    simp only [Bool.and_eq_true] at hgood
    obtain ⟨hnd, hgood, hrows⟩ := hgood
    obtain ⟨hps, hle⟩ := conj_spec hq
    obtain ⟨us, h1, h2, h3⟩ := resAV_run hR hT _ _ hres
    have hv := retVal_rep h2 h3
    generalize hks : keysF (rowsF (pairF (tupOf l) r) 0 cs) = ks at *
    generalize hpr : pairF (tupOf l) r = prs at *
    have hR2 : Rel V.C (.of w) F { st with heap := dropAll ks st.heap } a' w' F' φ' :=
      ⟨hR.env, fun b c hc => hR.heap b c (get_dropAll hc).1, fun b b' c c' g h1 h2 => hR.inj b b' c c' g (get_dropAll h1).1 (get_dropAll h2).1, hR.ro, hR.base, hR.sub, hR.new, hR.dfr, hR.tsz, hR.glob, fun b p hp => by cases hp⟩
    have hv2 := (frzK_rep (ks := ks) hR2 _ _ _ hfz hps).1 _ hv
    have hlent : ∀ k, Lent { st with heap := dropAll ks st.heap } F' φ' k → F k ∨ w.heap.size ≤ k := by
      rintro k (hk | ⟨b, c, hb, hk⟩)
      · exact (hR.new k hk).imp_right fun h => h.resolve_right fun hf => hf
      · exact .inr (((hR2.heap b c hb).lt hk).2.2.resolve_right fun hf => hf)
    have hlt : ∀ k, Lent { st with heap := dropAll ks st.heap } F' φ' k → k < w'.heap.size := by
      rintro k (hk | ⟨b, c, hb, hk⟩)
      · exact hR.ro k hk
      · exact ((hR2.heap b c hb).lt hk).1
    have hR3 : Rel { V.C with ntmps := 1 } (.of w) F ⟨[(0, m)], selAll ks st.heap⟩ { tmps := #[retVal us], defers := [] } w' (Lent { st with heap := dropAll ks st.heap } F' φ') φ' := by
      refine ⟨fun s x hs => ?_, fun b c hc => ?_, fun b b' c c' g h1 h2 => hR.inj b b' c c' g (get_selAll h1).1 (get_selAll h2).1, hlt, hR.base, fun k hk => .inl (hR.sub k hk), fun k hk => (hlent k hk).imp_right .inl, rfl, rfl, fun g x hg => (hR.glob g x hg).keep (fun _ _ => rfl) fun _ hk => .inl hk, fun b p hp => by cases hp⟩
      · simp only [get] at hs
        split at hs
        · rename_i e
          cases hs
          have := Nat.eq_of_beq_eq_true e
          subst this
          exact ⟨_, rfl, hv2⟩
        · cases hs
      · obtain ⟨k1, k2⟩ := get_selAll hc
        have hb := hR.heap b c k1
        refine hb.keep (fun _ _ => rfl) (fun _ hk => .inl hk) (fun g hg => ⟨rfl, ?_⟩) rfl fun _ _ => rfl
        rintro (h5 | ⟨b', c', h5, h6⟩)
        · exact (hb.lt hg).2.1 h5
        · obtain ⟨h7, h8⟩ := get_dropAll h5
          exact h8 (hR.inj b' b c' c g h7 k1 h6 hg ▸ k2)
    obtain ⟨φ4, hR4⟩ := hR3.weaken hle
    obtain ⟨v, hv4, hrep⟩ := hR4.env 0 (r.sub (nameF prs)) rfl
    simp at hv4
    subst hv4
    refine ⟨hR.dfr, _, results_run h1, _, _, fun i => φ4 (nameF prs i), rfl, hR.base.toBelow, fun k hk => .inl (hR.sub k hk), hlent, hlt, inv_res (m := below cs.length) (n := nameF prs) (φ2 := φ4) (fun _ _ => rfl) hgood hrep, fun i c hc => ?_, fun i i' g hi hi' e e' => ?_⟩
    · have hg := (get_rowsF cs 0 i c (by rw [hks]; exact hnd) hc).1
      rw [Nat.zero_add] at hg
      have hB := (hR4.heap _ c hg).base (base' := fun k => w.heap.size ≤ k) fun k hk => hk.resolve_right fun hf => hf
      have hrow := areRows_get cs hrows hc
      cases c with
      | cell tc sh x => cases hrow
      | row ty sh n f => exact hB
    · have k1 := (get_rowsF cs 0 i _ (by rw [hks]; exact hnd) (List.getElem?_eq_getElem hi)).1
      have k2 := (get_rowsF cs 0 i' _ (by rw [hks]; exact hnd) (List.getElem?_eq_getElem hi')).1
      rw [Nat.zero_add] at k1 k2
      have := hR4.inj _ _ _ _ g k1 k2 e e'
      have := nodup_rowsF cs 0 i i' (prs := prs) (by rw [hks]; exact hnd) hi hi' (by rw [Nat.zero_add, Nat.zero_add]; exact this)
      exact this
  cases e with
  | normal => exact fin hq
  | ret => exact fin hq
  | _ => exact hq.elim
end
end Go.AV
