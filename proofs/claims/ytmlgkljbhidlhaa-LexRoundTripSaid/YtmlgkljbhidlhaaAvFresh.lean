/- A call whose answer owns a row: the row becomes the caller's. -/
import Derived.Test.YtmlgkljbhidlhaaAvSound13
namespace Go.AV
open Go.RowKit

/-- Rows come in, called n, n + 1, .. -/
def addRows (st : St) (n : Nat) : List BoxC → Option St
  | [] => some st
  | c :: cs => match freshBox st n && c.isRow with
    | true => addRows { st with heap := put st.heap n c } (n + 1) cs
    | false => none
def absFresh (C : Cfg) (orc : FuncId → List AV → Option AV) (st : St) (o : Oper) : Option (St × List Prop) :=
  match o.op, o.dst, o.guard with
  | .call c, some d, none => match c.callee with
    | .value fx => match ev C st fx, evList (ev C st) c.args.toList with
      | some (.clo f []), some args => match orc f args, C.fresh f args with
        | some r, some cs => match (AV.areStat args && Nat.blt d C.ntmps) && goodRes (below cs.length) r, addRows st ((d + 1) * 4096) cs with
          | true, some st1 => some ({ st1 with env := put st1.env d (r.sub fun b => (d + 1) * 4096 + b) }, [C.CCF f args r cs])
          | _, _ => none
        | _, _ => none
      | _, _ => none
    | _ => none
  | _, _, _ => none

section
variable {C : Cfg} {W0 : Entry} {F0 : Nat → Prop} {st st' : St} {a : Act} {w : World} {F : Nat → Prop} {φ : Nat → Place} {CC : FuncId → List AV → AV → Prop} {o : Oper} {orc : FuncId → List AV → Option AV}
  {Q : Exit → Act → World → Prop}

theorem BoxOK.base {base base' : Nat → Prop} {b : Nat} {c : BoxC} (h : BoxOK w F φ base b c) (hb : ∀ k, base k → base' k) : BoxOK w F φ base' b c := by
  cases c with
  | cell tc sh x =>
    obtain ⟨h0, g, cs, h1, h2, h3⟩ := h
    exact ⟨h0, g, cs, h1, hb _ h2, h3⟩
  | row ty sh n f =>
    obtain ⟨h0, h0', h⟩ := h
    refine ⟨h0, h0', ?_⟩
    rcases h with h | ⟨g, cs, h1, h2, h3⟩
    · exact .inl h
    · exact .inr ⟨g, cs, h1, hb _ h2, h3⟩
/-- A box comes in that lies apart from all others. -/
theorem Rel.addOwn (h : Rel C W0 F0 st a w F φ) {d : Nat} {c : BoxC} (hf : freshBox st d = true) (hc : c.names d = false) (pl : Place)
    (hB : BoxOK w F (fun k => if k = d then pl else φ k) W0.B d c) (hd : ∀ g, pl.blk = some g → ∀ b c', get st.heap b = some c' → (φ b).blk ≠ some g) :
    Rel C W0 F0 { st with heap := put st.heap d c } a w F (fun k => if k = d then pl else φ k) := by
  simp only [freshBox, Bool.not_eq_true', Bool.or_eq_false_iff] at hf
  obtain ⟨fe, fh, fl⟩ := hf
  refine ⟨fun s x hs => ?_, fun b c' hc' => ?_, ?_, h.ro, h.base, h.sub, h.new, h.dfr, h.tsz, h.glob, anc_put h.anc fl⟩
  · obtain ⟨v, hv, hr⟩ := h.env s x hs
    refine ⟨v, hv, hr.keep (fun _ _ => rfl) (fun _ hk => hk) fun b hb => update_other φ d pl fun e => ?_⟩
    subst e
    rw [namesEnv_get hs fe] at hb; cases hb
  · by_cases e : b = d
    · subst e
      rw [get_put_same] at hc'
      cases hc'
      exact hB
    · rw [get_put_other _ _ _ _ e] at hc'
      have hb := h.heap b c' hc'
      refine hb.keep (fun _ _ => rfl) (fun _ hk => hk) (fun g hg => ⟨rfl, (hb.lt hg).2.1⟩) (update_other φ d pl e) fun b' hb' => update_other φ d pl fun e => ?_
      subst e
      rw [(namesHeap_get hc' fh).1] at hb'; cases hb'
  · intro b b' c1 c2 g h1 h2 h3 h4
    by_cases e : b = d
    · by_cases e' : b' = d
      · omega
      · rw [get_put_other _ _ _ _ e'] at h2
        simp only [e, if_true] at h3
        simp only [e', if_false] at h4
        exact absurd h4 (hd g h3 b' c2 h2)
    · by_cases e' : b' = d
      · rw [get_put_other _ _ _ _ e] at h1
        simp only [e', if_true] at h4
        simp only [e, if_false] at h3
        exact absurd h3 (hd g h4 b c1 h1)
      · rw [get_put_other _ _ _ _ e] at h1
        rw [get_put_other _ _ _ _ e'] at h2
        simp only [e, if_false] at h3
        simp only [e', if_false] at h4
        exact h.inj b b' c1 c2 g h1 h2 h3 h4

theorem Rel.addRows : ∀ (cs : List BoxC) (n i : Nat) (st st' : St) (φ φ' : Nat → Place), Rel C W0 F0 st a w F φ → addRows st n cs = some st' → (∀ j c, cs[j]? = some c → BoxOK w F φ' W0.B (i + j) c) →
    (∀ j j' g, j < cs.length → j' < cs.length → (φ' (i + j)).blk = some g → (φ' (i + j')).blk = some g → j = j') → (∀ j g b c, j < cs.length → (φ' (i + j)).blk = some g → get st.heap b = some c → (φ b).blk ≠ some g) →
    ∃ φ2, Rel C W0 F0 st' a w F φ2 ∧ (∀ j, j < cs.length → φ2 (n + j) = φ' (i + j)) ∧ ∀ b, (b < n ∨ n + cs.length ≤ b) → φ2 b = φ b
  | [], n, i, st, st', φ, φ', h, hs, _, _, _ => by
    simp only [AV.addRows, Option.some.injEq] at hs
    subst hs
    exact ⟨φ, h, fun j hj => by simp at hj, fun _ _ => rfl⟩
  | c :: cs, n, i, st, st', φ, φ', h, hs, hB, hinj, hd => by
    simp only [AV.addRows] at hs
    split at hs
    case h_2 => cases hs
    rename_i hc
    simp only [Bool.and_eq_true] at hc
    obtain ⟨ty, sh, m, f, rfl⟩ : ∃ ty sh m f, c = .row ty sh m f := by
      cases c with
      | cell => cases hc.2
      | row ty sh m f => exact ⟨ty, sh, m, f, rfl⟩
    have h0 := hB 0 _ rfl
    have hB' : BoxOK w F (fun k => if k = n then φ' i else φ k) W0.B n (.row ty sh m f) := by
      obtain ⟨b1, b2, b3⟩ := h0
      refine ⟨by simpa using b1, by simpa using b2, ?_⟩
      simp only [if_true]
      exact b3
    have h1 := h.addOwn (d := n) hc.1 rfl (φ' i) hB' fun g hg b c' hc' hb => hd 0 g b c' (by simp) hg hc' hb
    obtain ⟨φ2, k1, k2, k3⟩ := Rel.addRows cs (n + 1) (i + 1) _ st' _ φ' h1 hs (fun j c hj => by
        have := hB (j + 1) c (by simpa using hj)
        rwa [show i + 1 + j = i + (j + 1) from by omega]) (fun j j' g hj hj' e e' => by
        have := hinj (j + 1) (j' + 1) g (by simpa using hj) (by simpa using hj') (by rwa [show i + (j + 1) = i + 1 + j from by omega]) (by rwa [show i + (j' + 1) = i + 1 + j' from by omega])
        omega) (fun j g b c' hj hg hc' hb => by
        rw [show i + 1 + j = i + (j + 1) from by omega] at hg
        by_cases e : b = n
        · subst e
          simp only [if_true] at hb
          have := hinj 0 (j + 1) g (by simp) (by simpa using hj) hb hg
          omega
        · simp only [e, if_false] at hb
          simp only [get_put_other _ _ _ _ e] at hc'
          exact hd (j + 1) g b c' (by simpa using hj) hg hc' hb)
    refine ⟨φ2, k1, fun j hj => ?_, fun b hb => ?_⟩
    · cases j with
      | zero => rw [Nat.add_zero, k3 n (by omega)]; simp
      | succ j => rw [show n + (j + 1) = n + 1 + j from by omega, k2 j (by simpa using hj)]; congr 1; omega
    · simp only [List.length_cons] at hb
      rw [k3 b (by omega)]
      simp only [show b ≠ n from by omega, if_false]

theorem fresh_sound {ps : List Prop} {K : Act → World → Prop} (h : Rel C W0 F0 st a w F φ) (hCCF : ∀ f as r cs, C.CCF f as r cs → CallOK C.P f ∧ RFresh C.P C.G f as r cs) (hs : absFresh C orc st o = some (st', ps)) (hps : ∀ p ∈ ps, p)
    (hK : ∀ a' w' F' φ', Rel C W0 F0 st' a' w' F' φ' → K a' w') : o.guard = none ∧ o.wp C.P a w K Q := by
  unfold absFresh at hs
  split at hs
  case h_2 => cases hs
  rename_i c d ho hdst hg
  split at hs
  case h_2 => cases hs
  rename_i fx hcal
  split at hs
  case h_2 => cases hs
  rename_i f args h1 h2
  split at hs
  case h_2 => cases hs
  rename_i r cs h3 h4
  split at hs
  case h_2 => cases hs
  rename_i st1 hc hst1
  cases hs
  refine ⟨hg, ?_⟩
  simp only [Bool.and_eq_true] at hc
  obtain ⟨⟨hst, hd⟩, hgood⟩ := hc
  have hd := Nat.le_of_ble_eq_true hd
  obtain ⟨hok, hcall⟩ := hCCF f args r cs (hps _ (by simp))
  obtain ⟨n1, n2⟩ := evList_rep h2 (fun x _ u hu => h.ev hu)
  have hfv : ∃ cv : Array Value, a.eval fx = .func (.func f) #[] cv ∧ cv.size = 0 := by
    have := h.ev h1
    generalize a.eval fx = v at this
    cases this with
    | stat hv => cases hv with | clo _ cv _ hs hc => exact ⟨cv, rfl, hs⟩
    | clo _ cv _ hs hc => exact ⟨cv, rfl, hs⟩
  obtain ⟨cv, hfv, hcv⟩ := hfv
  obtain rfl : cv = #[] := Array.eq_empty_of_size_eq_zero hcv
  have hrun : (execOp a.eval o).run C.P w = .ok (.enter f (c.args.map a.eval)) w := by
    obtain ⟨callee, args', tys⟩ := c
    cases hcal
    simp only [execOp, ho, resolve, Sem.run_bind, hfv]
    simp only [Deferred.ofValue, Sem.run_pure, Result.andThen_ok, invoke, Array.empty_append, Array.append_empty]
    exact hok _ w
  unfold Oper.wp
  rw [hrun]
  show Calls C.P f _ w _
  refine (hcall w F _ h.ro h.glob (by simpa using n1) fun j hj => ?_).mono ?_
  · have := n2 j hj
    have h5 : Rep w F φ ((c.args.map a.eval).getD j undef) (args.getD j .any) := by simpa [Array.getD_eq_getD_getElem?, List.getD_eq_getElem?_getD] using this
    exact h5.toS (areStat_getD hst j)
  · rintro en w' ⟨v, F', φ', rfl, hb, f1, f2, f3, hv, hbox, hinj⟩
    have hR := h.grown hb f1 f2 f3
    have hlen : ∀ j, j < cs.length → ∃ c, cs[j]? = some c := fun j hj => ⟨_, List.getElem?_eq_getElem hj⟩
    obtain ⟨φ2, k1, k2, _⟩ := hR.addRows cs ((d + 1) * 4096) 0 st st1 φ φ' hst1 (fun j c hj => by
        rw [Nat.zero_add]
        exact (hbox j c hj).base fun k hk => h.bnew hk) (fun j j' g hj hj' e e' => by
        rw [Nat.zero_add] at e e'
        exact hinj j j' g hj hj' e e') (fun j g b c' hj hg hc' hb' => by
        rw [Nat.zero_add] at hg
        obtain ⟨c, hc⟩ := hlen j hj
        have := ((hbox j c hc).lt hg).2.2
        have := ((h.heap b c' hc').lt hb').1
        omega)
    show K (a.put o.dst v) w'
    rw [hdst]
    exact hK _ _ _ _ (k1.putV hd (sub_res (φ := φ') (n := fun b => (d + 1) * 4096 + b) (fun b hb => by have := k2 b (Nat.le_of_ble_eq_true hb); rwa [Nat.zero_add] at this) hgood hv))
end
end Go.AV
