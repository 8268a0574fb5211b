/- A law's last step, where package variables are known. -/
import Derived.Test.YtmlgkljbhidlhaaAvLaw
import Derived.Test.YtmlgkljbhidlhaaAvHas
namespace Go.AV
open Go Go.ChangeShapes Go.WideShapes Go.RowKit
section
variable {H : Type} {enc : TypeId × Value → H} {C : Cfg} {W : World} {sp : Nat → Bool} {held : Bool}
/-- The same where package variables are known: at every data of its types it answers true and leaves what came in alone. -/
theorem law_step_g {s : ChangeSpec} {f : FuncId} {fn : Func} {tes : List TyE} {tb : TypeId} (hT : TysOK C) (hno : AllKnown C) (hl : laidOutB C.P = true) (hvars : s.vars = [])
    (htes : fn.params.toList.map (tyOf C) = tes.map some) (hread : ∀ t ∈ fn.params.toList, C.P.readableRec t = true ∧ t < C.P.types.size) (hres : fn.resultTypes = #[tb]) (hub : C.P.underlying tb = some .bool)
    (hs : ∀ ds : List (DataW H), ds.length = tes.length → s.fn H ds = { results := [.lit (.bool true)], args := ds })
    (hcon : ∀ ys : List AV, ys.length = tes.length → (∀ (j : Nat) (te : TyE), tes[j]? = some te → HasTy C te (ys.getD j .any)) → RCalls C.P C.G f (List.zipWith wrapT tes ys) (.bool true))
    {apart fresh handsOn again : Bool} (W : World) (hG : ∀ g x, get C.G g = some x → RepS W (Old W) (.pointer (some ⟨g, 0, none⟩)) x) (base : Nat) (args : Array Value) (ds gs : List (DataW H)) (before : List MemPlace)
    (hval : ∀ (j : Nat) t v, fn.params[j]? = some t → args[j]? = some v → Value.okWide C.P W .any base t v) (hW : DataW.Whole enc C.P fn.params.toList s.vars apart W args.toList ds gs before) :
    Calls C.P f args W fun e W' => ∃ v, e = .returned v ∧ s.post enc C.P fn apart fresh handsOn again W args v W' := by
  have hW' := hW
  obtain ⟨p, q, hA, hV, rfl, hfz, hnd⟩ := hW
  rw [hvars] at hV
  obtain ⟨rfl, rfl⟩ := trodVars_none hV
  obtain ⟨ys, k1, k2, k3, k4⟩ := open_all hT hno fn.params.toList tes args.toList ds p htes (fun j t v ht hv => hval j t v (by simpa using ht) (by simpa using hv)) hA (S := false) (fun h => by cases h)
  have hc := hcon ys k1 (fun j te h => (k4 j te h).1) W (Old W) args (fun k hk => hk) hG (by simp only [List.length_zipWith]; simp at k2; omega) (fun j hj => by
    simp only [List.length_zipWith] at hj
    have := (k4 j tes[j] (by simp [show j < tes.length by omega])).2
    simpa [Array.getD_eq_getD_getElem?, List.getD_eq_getElem?_getD] using this)
  refine hc.mono ?_
  rintro e W' ⟨v, F', rfl, hb, _, _, _, hv⟩
  have hv : v = .bool true := by
    simp only [RepR] at hv
    cases hv with | bool b => rfl
  subst hv
  have hlt : ∀ x ∈ p, x.block < W.heap.size := fun x hx => hW'.lt x (by simpa using hx)
  refine ⟨_, rfl, post_of_below (pa := p) (pv := []) hW' (fun b sp hd => ?_) (fun sp hsp => ?_) (fun _ _ => ?_) rfl hb ?_⟩
  · rw [List.append_nil, hs ds k3, hres]
    exact trodAll_cons_mk (shut_bool hub _) trodAll_mk0
  · rw [List.append_nil, hs ds k3]
    exact args_after hl hb _ _ _ _ hread hA hlt (fun x hx => hsp x (by simpa using hx))
  · rw [List.append_nil, hs ds k3, hvars]
    rfl
  · exact ok_one hres rfl (okWide_bool_mk hub _)
/-- The same, of sizes within reach, where package variables are known: at every data of its types it answers true and leaves what came in alone. -/
theorem law_step_gs {s : ChangeSpec} {f : FuncId} {fn : Func} {tes : List TyE} {tb : TypeId} (hT : TysOK C) (hno : AllKnown C) (hl : laidOutB C.P = true) (hvars : s.vars = [])
    (htes : fn.params.toList.map (tyOf C) = tes.map some) (hread : ∀ t ∈ fn.params.toList, C.P.readableRec t = true ∧ t < C.P.types.size) (hres : fn.resultTypes = #[tb]) (hub : C.P.underlying tb = some .bool)
    (hs : ∀ ds : List (DataW H), ds.length = tes.length → s.fn H ds = { results := [.lit (.bool true)], args := ds })
    (hcon : ∀ ys : List AV, ys.length = tes.length → (∀ (j : Nat) (te : TyE), tes[j]? = some te → HasTyB C true te (ys.getD j .any)) → RCalls C.P C.G f (List.zipWith wrapT tes ys) (.bool true))
    {apart fresh handsOn again : Bool} (W : World) (hG : ∀ g x, get C.G g = some x → RepS W (Old W) (.pointer (some ⟨g, 0, none⟩)) x) (base : Nat) (args : Array Value) (ds gs : List (DataW H)) (before : List MemPlace)
    (hval : ∀ (j : Nat) t v, fn.params[j]? = some t → args[j]? = some v → Value.okWide C.P W .any base t v) (hW : DataW.Whole enc C.P fn.params.toList s.vars apart W args.toList ds gs before)
    (hsz : (DataW.weightsEach C.P (fn.params.toList ++ s.plain.varTypes C.P) (ds ++ gs)).all (· ≤ reachBytes) = true) :
    Calls C.P f args W fun e W' => ∃ v, e = .returned v ∧ s.post enc C.P fn apart fresh handsOn again W args v W' := by
  have hW' := hW
  obtain ⟨p, q, hA, hV, rfl, hfz, hnd⟩ := hW
  rw [hvars] at hV
  obtain ⟨rfl, rfl⟩ := trodVars_none hV
  obtain ⟨ys, k1, k2, k3, k4⟩ := open_all hT hno fn.params.toList tes args.toList ds p htes (fun j t v ht hv => hval j t v (by simpa using ht) (by simpa using hv)) hA (S := true) (fun _ n hn => by
    have hvt : s.plain.varTypes C.P = [] := by simp [DataSpec.varTypes, ChangeSpec.plain, hvars]
    rw [hvt, List.append_nil, List.append_nil] at hsz
    simpa using List.all_eq_true.1 hsz n hn)
  have hc := hcon ys k1 (fun j te h => (k4 j te h).1) W (Old W) args (fun k hk => hk) hG (by simp only [List.length_zipWith]; simp at k2; omega) (fun j hj => by
    simp only [List.length_zipWith] at hj
    have := (k4 j tes[j] (by simp [show j < tes.length by omega])).2
    simpa [Array.getD_eq_getD_getElem?, List.getD_eq_getElem?_getD] using this)
  refine hc.mono ?_
  rintro e W' ⟨v, F', rfl, hb, _, _, _, hv⟩
  have hv : v = .bool true := by
    simp only [RepR] at hv
    cases hv with | bool b => rfl
  subst hv
  have hlt : ∀ x ∈ p, x.block < W.heap.size := fun x hx => hW'.lt x (by simpa using hx)
  refine ⟨_, rfl, post_of_below (pa := p) (pv := []) hW' (fun b sp hd => ?_) (fun sp hsp => ?_) (fun _ _ => ?_) rfl hb ?_⟩
  · rw [List.append_nil, hs ds k3, hres]
    exact trodAll_cons_mk (shut_bool hub _) trodAll_mk0
  · rw [List.append_nil, hs ds k3]
    exact args_after hl hb _ _ _ _ hread hA hlt (fun x hx => hsp x (by simpa using hx))
  · rw [List.append_nil, hs ds k3, hvars]
    rfl
  · exact ok_one hres rfl (okWide_bool_mk hub _)
end
end Go.AV
