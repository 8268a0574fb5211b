/- A law's last step: out of the contract of its function at every data of its types. -/
import Derived.Test.YtmlgkljbhidlhaaAvOpen
import Derived.Below
import Derived.ChangeSame
import Derived.WideShapes
namespace Go.AV
open Go.RowKit Go.WideShapes Go.ChangeShapes

section
variable {H : Type} {enc : TypeId × Value → H} {P : Program}
/-- The row's last step where the call has left the old memory alone. -/
theorem post_of_below {f : Func} {s : ChangeSpec} {apart fresh handsOn again : Bool} {W W' : World} {args : Array Value} {v : Value} {ds gs : List (DataW H)} {before pa pv : List MemPlace}
    (hW : DataW.Whole enc P f.params.toList s.vars apart W args.toList ds gs before)
    (hres : ∀ (b : Nat) (sp : Nat → Bool) (hd : Bool), DataW.TrodAll enc P W' b sp hd f.resultTypes.toList (v.resultList f.resultTypes.size) (s.fn H (ds ++ gs)).results [])
    (hargs : ∀ sp : Nat → Bool, (∀ p ∈ before, sp p.block = true) → DataW.TrodAll enc P W' 0 sp true f.params.toList args.toList (s.fn H (ds ++ gs)).args pa)
    (hvars : ∀ sp : Nat → Bool, (∀ p ∈ before, sp p.block = true) → DataW.TrodVars enc P W' sp s.vars (s.fn H (ds ++ gs)).vars pv)
    (hps : before = pa ++ pv) (hb : Below W.heap.size W W')
    (hok : ∀ (j : Nat) (t : TypeId) (r : Value), f.resultTypes[j]? = some t → (v.resultList f.resultTypes.size)[j]? = some r → Value.okWide P W' .any 0 t r) :
    s.post enc P f apart fresh handsOn again W args v W' := by
  have hlt : ∀ p ∈ before, p.block < W.heap.size := fun p hp => hW.lt p hp
  have hold : ∀ p ∈ before, (fun b => decide (b < W.heap.size)) p.block = true := fun p hp => by simpa using hlt p hp
  refine ⟨ds, gs, before, [], pa, pv, hW, hres _ _ _, hargs _ hold, hvars _ hold, World.keptBut_mono (fun p hp => ⟨hp, ?_⟩) (hb.frame (· ∈ before)), fun _ => ?_⟩
  · rw [hps, List.mem_append] at hp
    exact Or.inr hp
  · obtain ⟨_, _, _, _, _, hz, hn⟩ := hW
    refine ⟨hok, _, _, ([] ++ pa) ++ pv, ⟨[] ++ pa, pv, trodAll_append (hargs _ (fun _ _ => rfl)) (hres _ _ _), hvars _ (fun _ _ => rfl), rfl, ?_, ?_⟩, ?_⟩
    · intro b off hp
      have hin : MemPlace.cell b off ∈ before := by rw [hps]; simpa using hp
      rw [hb.frozen (hlt _ hin)]
      exact hz b off hin
    · intro ha
      have := hn ha
      rw [hps] at this
      simpa using this
    · intro p hp _
      rw [hps]
      simpa using hp
end

/-- A value of a type, out of its tree. -/
def wrapT (te : TyE) (y : AV) : AV := match te.sh with | .leaf => y | sh => .mc sh y

section
variable {H : Type} {enc : TypeId × Value → H} {C : Cfg} {W : World} {sp : Nat → Bool} {held : Bool}

def AllKnown (C : Cfg) : Prop := ∀ t te, tyOf C t = some te → (match te.kind with | .other => False | _ => True)

theorem hasTy_one {S : Bool} {te : TyE} {y : AV} (h : HasTyB C S te y) (hk : te.kind ≠ .other) (hs : te.sh = .leaf) (hi : ∀ fs, te.kind ≠ .struct fs) (ha : ∀ n e, te.kind ≠ .arr n e) : y.isOne = true := by
  cases h with
  | struct h => exact absurd h (hi _)
  | arr h => exact absurd h (ha _ _)
  | _ => rfl

theorem open_val {S : Bool} (hT : TysOK C) (hno : AllKnown C) {t : TypeId} {te : TyE} {v : Value} {d : DataW H} {p : List MemPlace} {base : Nat} (ht : tyOf C t = some te) (hval : Value.okWide C.P W .any base t v)
    (h : DataW.Trod enc C.P W 0 sp held t v d p) (hw : S = true → ∀ n ∈ d.weights C.P t, n ≤ reachBytes) : ∃ y, HasTyB C S te y ∧ RepS W (Old W) v (wrapT te y) := by
  obtain ⟨fuel, hf⟩ := h
  obtain ⟨y, h1, h2, h3⟩ := open_tree hT fuel t te _ _ ht hf (hno t te ht) hno hw
  obtain ⟨dd, i, z, hu, hi, hsz, _, _, _, hk, _⟩ := (hT t te ht).info
  refine ⟨y, h1, ?_⟩
  have agg : ∀ cs, v = .agg cs → te.sh.isAgg = true → RepS W (Old W) v (wrapT te y) := by
    intro cs hv hag
    subst hv
    have e : wrapT te y = .mc te.sh y := by
      unfold wrapT
      cases hsh : te.sh <;> simp_all [Shape.isAgg]
    rw [e]
    refine .mc cs _ _ (by simpa [Value.cells] using h2) fun j hj => ?_
    have := h3 j hj
    simpa [Value.cells, Array.getD_eq_getD_getElem?, List.getD_eq_getElem?_getD] using this
  have leaf : v.cells.toList = [v] → te.sh = .leaf → y.isOne = true → RepS W (Old W) v (wrapT te y) := by
    intro hc hs hy
    have := h3 0 (by rw [hs]; simp [Shape.size])
    rw [hc, hs] at this
    unfold wrapT
    rw [hs]
    simpa [leafAt, asLeaf, hy] using this
  cases hkd : te.kind with
  | other => have := hno t te ht; rw [hkd] at this; exact this.elim
  | int k =>
    rw [hkd] at hk
    obtain ⟨rfl, hs⟩ := hk
    obtain ⟨n, rfl⟩ := okWide_int hu hval
    exact leaf rfl hs (hasTy_one h1 (by simp [hkd]) hs (by simp [hkd]) (by simp [hkd]))
  | bool =>
    rw [hkd] at hk
    obtain ⟨rfl, hs⟩ := hk
    obtain ⟨n, rfl⟩ := okWide_bool hu hval
    exact leaf rfl hs (hasTy_one h1 (by simp [hkd]) hs (by simp [hkd]) (by simp [hkd]))
  | string =>
    rw [hkd] at hk
    obtain ⟨rfl, hs⟩ := hk
    obtain ⟨n, rfl⟩ := okWide_string hu hval
    exact leaf rfl hs (hasTy_one h1 (by simp [hkd]) hs (by simp [hkd]) (by simp [hkd]))
  | slice e =>
    rw [hkd] at hk
    obtain ⟨rfl, hs⟩ := hk
    obtain ⟨a, n, c, rfl⟩ := okWide_slice hu hval
    exact leaf rfl hs (hasTy_one h1 (by simp [hkd]) hs (by simp [hkd]) (by simp [hkd]))
  | struct fs =>
    rw [hkd] at hk
    obtain ⟨fields, ss, rfl, hs, _⟩ := hk
    unfold Value.okWide at hval
    rw [hu] at hval
    obtain ⟨cs, hv, _⟩ := hval
    exact agg cs hv (by rw [hs]; rfl)
  | arr n e =>
    rw [hkd] at hk
    obtain ⟨rfl, tl, _, hs⟩ := hk
    unfold Value.okWide at hval
    rw [hu] at hval
    obtain ⟨cs, hv, _⟩ := hval
    exact agg cs hv (by rw [hs]; rfl)

theorem open_all {S : Bool} (hT : TysOK C) (hno : AllKnown C) {base : Nat} : ∀ (ts : List TypeId) (tes : List TyE) (vs : List Value) (ds : List (DataW H)) (p : List MemPlace), ts.map (tyOf C) = tes.map some →
    (∀ (j : Nat) t v, ts[j]? = some t → vs[j]? = some v → Value.okWide C.P W .any base t v) → DataW.TrodAll enc C.P W 0 sp held ts vs ds p → (S = true → ∀ n ∈ DataW.weightsEach C.P ts ds, n ≤ reachBytes) →
    ∃ ys : List AV, ys.length = tes.length ∧ vs.length = tes.length ∧ ds.length = tes.length ∧ ∀ (j : Nat) (te : TyE), tes[j]? = some te → HasTyB C S te (ys.getD j .any) ∧ RepS W (Old W) (vs.getD j undef) ((List.zipWith wrapT tes ys).getD j .any)
  | [], tes, vs, ds, p, hm, _, h, _ => by
    obtain rfl : tes = [] := by cases tes <;> simp_all
    obtain ⟨rfl, rfl, rfl⟩ := trodAll_nil h
    exact ⟨[], rfl, rfl, rfl, fun j te hj => by simp at hj⟩
  | t :: ts, tes, vs, ds, p, hm, hval, h, hw => by
    obtain ⟨v, vs1, d, ds1, a, b, rfl, rfl, rfl, h1, h2⟩ := trodAll_cons h
    cases tes with
    | nil => simp at hm
    | cons te tes =>
      simp only [List.map_cons, List.cons.injEq] at hm
      obtain ⟨y, hy1, hy2⟩ := open_val hT hno hm.1 (hval 0 t v rfl rfl) h1 fun hS n hn => hw hS n (by simp [DataW.weightsEach, hn])
      obtain ⟨ys, k1, k2, k3, k4⟩ := open_all hT hno ts tes vs1 ds1 b hm.2 (fun j t v ht hv => hval (j + 1) t v (by simpa using ht) (by simpa using hv)) h2 fun hS n hn => hw hS n (by simp [DataW.weightsEach, hn])
      refine ⟨y :: ys, by simp [k1], by simp [k2], by simp [k3], fun j te' hj => ?_⟩
      cases j with
      | zero => simp at hj; subst hj; exact ⟨hy1, hy2⟩
      | succ j => simpa using k4 j te' (by simpa using hj)

theorem args_after {W' : World} {sp' : Nat → Bool} (hl : laidOutB C.P = true) (hb : Below W.heap.size W W') : ∀ (ts : List TypeId) (vs : List Value) (ds : List (DataW H)) (p : List MemPlace), (∀ t ∈ ts, C.P.readableRec t = true ∧ t < C.P.types.size) →
    DataW.TrodAll enc C.P W 0 (fun _ => true) true ts vs ds p → (∀ x ∈ p, x.block < W.heap.size) → (∀ x ∈ p, sp' x.block = true) → DataW.TrodAll enc C.P W' 0 sp' true ts vs ds p
  | [], vs, ds, p, _, h, _, _ => by
    obtain ⟨rfl, rfl, rfl⟩ := trodAll_nil h
    rfl
  | t :: ts, vs, ds, p, ht, h, hlt, hsp => by
    obtain ⟨v, vs1, d, ds1, a, b, rfl, rfl, rfl, h1, h2⟩ := trodAll_cons h
    obtain ⟨r1, r2⟩ := ht t (by simp)
    exact ⟨a, b, WideElems.Trod_stays hl r1 r2 h1 (fun x hx => hb.same (hlt x (by simp [hx]))) (fun x hx => hsp x (by simp [hx])), args_after hl hb ts vs1 ds1 b (fun t ht' => ht t (by simp [ht'])) h2 (fun x hx => hlt x (by simp [hx])) (fun x hx => hsp x (by simp [hx])), rfl⟩

/-- A LAW'S CALL: at every data of its types it answers true and leaves what came in alone. -/
theorem law_step {s : ChangeSpec} {f : FuncId} {fn : Func} {tes : List TyE} {tb : TypeId} (hT : TysOK C) (hno : AllKnown C) (hG : C.G = []) (hl : laidOutB C.P = true) (hvars : s.vars = [])
    (htes : fn.params.toList.map (tyOf C) = tes.map some) (hread : ∀ t ∈ fn.params.toList, C.P.readableRec t = true ∧ t < C.P.types.size) (hres : fn.resultTypes = #[tb]) (hub : C.P.underlying tb = some .bool)
    (hs : ∀ ds : List (DataW H), ds.length = tes.length → s.fn H ds = { results := [.lit (.bool true)], args := ds })
    (hcon : ∀ ys : List AV, ys.length = tes.length → (∀ (j : Nat) (te : TyE), tes[j]? = some te → HasTy C te (ys.getD j .any)) → RCalls C.P C.G f (List.zipWith wrapT tes ys) (.bool true))
    {apart fresh handsOn again : Bool} (W : World) (base : Nat) (args : Array Value) (ds gs : List (DataW H)) (before : List MemPlace)
    (hval : ∀ (j : Nat) t v, fn.params[j]? = some t → args[j]? = some v → Value.okWide C.P W .any base t v) (hW : DataW.Whole enc C.P fn.params.toList s.vars apart W args.toList ds gs before) :
    Calls C.P f args W fun e W' => ∃ v, e = .returned v ∧ s.post enc C.P fn apart fresh handsOn again W args v W' := by
  have hW' := hW
  obtain ⟨p, q, hA, hV, rfl, hfz, hnd⟩ := hW
  rw [hvars] at hV
  obtain ⟨rfl, rfl⟩ := trodVars_none hV
  obtain ⟨ys, k1, k2, k3, k4⟩ := open_all hT hno fn.params.toList tes args.toList ds p htes (fun j t v ht hv => hval j t v (by simpa using ht) (by simpa using hv)) hA (S := false) (fun h => by cases h)
  have hc := hcon ys k1 (fun j te h => (k4 j te h).1) W (Old W) args (fun k hk => hk) (fun g x hg => by rw [hG] at hg; simp [get] at hg) (by simp only [List.length_zipWith]; simp at k2; omega) (fun j hj => by
    simp only [List.length_zipWith] at hj
    have := (k4 j tes[j] (by simp [show j < tes.length by omega])).2
    simpa [Array.getD_eq_getD_getElem?, List.getD_eq_getElem?_getD] using this)
  refine hc.mono ?_
  rintro e W' ⟨v, F', rfl, hb, _, _, _, hv⟩
  have hv : v = .bool true := by
    simp only [RepR] at hv
    cases hv with | bool b => rfl
  subst hv
  have hlt : ∀ x ∈ p, x.block < W.heap.size := fun x hx => hW'.lt x (by simpa using hx)
  refine ⟨_, rfl, post_of_below (pa := p) (pv := []) hW' (fun b sp hd => ?_) (fun sp hsp => ?_) (fun _ _ => ?_) rfl hb ?_⟩
  · rw [List.append_nil, hs ds k3, hres]
    exact trodAll_cons_mk (shut_bool hub _) trodAll_mk0
  · rw [List.append_nil, hs ds k3]
    exact args_after hl hb _ _ _ _ hread hA hlt (fun x hx => hsp x (by simpa using hx))
  · rw [List.append_nil, hs ds k3, hvars]
    rfl
  · exact ok_one hres rfl (okWide_bool_mk hub _)
end
end Go.AV
