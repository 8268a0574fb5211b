/- Layer 52: the arguments of a law. -/
import Derived.Test.YtdbeklchoojpnaaDoorP52y
import Derived.Test.YtdbeklchoojpnaaDoorAvD
namespace Go.Proofs.S52
open Go Go.AV Go.Proofs.Dec
def t9 : TyE := ⟨.leaf, .str [], 16, .string, false⟩
def t24 : TyE := ⟨repSh, .agg [.int .i64 0, .int .i64 0, .int .i64 0, .int .i64 0, .nils], 56, .struct [3, 3, 3, 3, 22], false⟩
def t36 : TyE := ⟨.leaf, .nils, 24, .slice 3, false⟩
noncomputable def cfgH (m : Int) : Cfg := { P := Tryd.prog, T := TTd, G := GG m, wraps := false, ntmps := 100 }
theorem cfgH_ok (m : Int) : TysOK (cfgH m) := tys_ok (C := cfgH m) (by kernel_rfl)
theorem ownK : ownKnob Tryd.prog.godebug = none := by kernel_rfl
theorem all_known (m : Int) : AllKnown (cfgH m) := by
  intro t te ht
  have := get_mem ht
  simp only [cfgH, TTd, List.mem_cons, Prod.mk.injEq, List.not_mem_nil, or_false] at this
  rcases this with ⟨_, rfl⟩ | ⟨_, rfl⟩ | ⟨_, rfl⟩ | ⟨_, rfl⟩ | ⟨_, rfl⟩ | ⟨_, rfl⟩ | ⟨_, rfl⟩ | ⟨_, rfl⟩ | ⟨_, rfl⟩ | ⟨_, rfl⟩ | ⟨_, rfl⟩ | ⟨_, rfl⟩ | ⟨_, rfl⟩ | ⟨_, rfl⟩ | ⟨_, rfl⟩ | ⟨_, rfl⟩ | ⟨_, rfl⟩ | ⟨_, rfl⟩ | ⟨_, rfl⟩ | ⟨_, rfl⟩ <;> trivial
theorem max_eq : maxLen = 9223372036854775807 := by unfold maxLen; rfl
theorem in64_of {n : Int} (h : IntKind.i64.min ≤ n ∧ n ≤ IntKind.i64.max) : in64 n := h

section
variable {m0 : Int} {S : Bool} {te : TyE} {y : AV}
theorem has_ints (hk : te.kind = .slice 3) (h : HasTyB (cfgH m0) S te y) : ∃ l : List Int, (∀ w F v, RepS w F v y → RepS w F v (rowI l)) ∧ l.length ≤ 9223372036854775807 ∧ ∀ n ∈ l, in64 n := by
  obtain ⟨n, f, rfl, hn, hf⟩ := has_slice (e := 3) (tl := ⟨.leaf, .int .i64 0, 8, .int .i64, false⟩) hk (by rfl) h
  obtain ⟨l, hl, he⟩ := rows_of (n := n) (f := f) (fun m : Int => AV.int .i64 m) 0 fun i hi => has_int (k := .i64) rfl (hf i hi)
  refine ⟨l, fun w F v hv => ?_, by rw [hl, ← max_eq]; exact hn, fun m hm => ?_⟩
  · unfold rowI
    rw [hl]
    exact seq_sub hv fun i hi j hj u hu => by rw [he i hi] at hu; exact hu
  · obtain ⟨j, hj, rfl⟩ := List.getElem_of_mem hm
    have h1 := hf j (by omega)
    rw [he j (by omega), ← getElem_getD 0 hj] at h1
    obtain ⟨m, e1, e2⟩ := has_intR (k := .i64) rfl h1
    cases e1
    exact in64_of e2
theorem has_cex (hk : te.kind = .struct [47, 36]) (h : HasTyB (cfgH m0) S te y) : ∃ c : Cex, (∀ w F j v, j < 2 → RepS w F v (leafAt cexSh y j) → RepS w F v (leafAt cexSh (encC c) j)) ∧ c.sch.length ≤ 9223372036854775807 := by
  obtain ⟨xs, rfl, hl, hx⟩ := has_struct hk h
  match xs, hl with
  | [a, b], _ =>
    obtain ⟨n, hn⟩ := has_int (k := .i64) rfl (hx 0 47 ⟨.leaf, .int .i64 0, 8, .int .i64, false⟩ rfl (by rfl))
    obtain ⟨l, h1, h2, _⟩ := has_ints (te := ⟨.leaf, .nils, 24, .slice 3, false⟩) rfl (hx 1 36 _ rfl (by rfl))
    simp only [List.getD_cons_zero] at hn
    subst hn
    have ob : b.isOne = true := hasTy_one (hx 1 36 ⟨.leaf, .nils, 24, .slice 3, false⟩ rfl (by rfl)) (by simp) rfl (by simp) (by simp)
    refine ⟨⟨n, l⟩, fun w F j v hj hv => ?_, h2⟩
    match j, hj with
    | 0, _ => exact hv
    | 1, _ =>
      have e : leafAt cexSh (.agg [.int .i64 n, b]) 1 = b := by
        show asLeaf b = b
        unfold asLeaf
        rw [ob]
      rw [e] at hv
      exact h1 w F v hv
theorem has_bugs (hk : te.kind = .slice 49) (h : HasTyB (cfgH m0) S te y) : ∃ l : List Cex, (∀ w F v, RepS w F v y → RepS w F v (rowC l)) ∧ l.length ≤ 9223372036854775807 ∧ ∀ c ∈ l, c.sch.length ≤ 9223372036854775807 := by
  obtain ⟨n, f, rfl, hn, hf⟩ := has_slice (e := 49) (tl := ⟨cexSh, .agg [.int .i64 0, .nils], 32, .struct [47, 36], false⟩) hk (by rfl) h
  have h' : ∀ i, ∃ c : Cex, i < n → (∀ w F j v, j < 2 → RepS w F v (leafAt cexSh (f i) j) → RepS w F v (leafAt cexSh (encC c) j)) ∧ c.sch.length ≤ 9223372036854775807 := fun i => by
    by_cases hi : i < n
    · obtain ⟨c, hc⟩ := has_cex rfl (hf i hi); exact ⟨c, fun _ => hc⟩
    · exact ⟨c0, fun h => absurd h hi⟩
  obtain ⟨g, hg⟩ := Classical.skolem.1 h'
  refine ⟨(List.range n).map g, fun w F v hv => ?_, by simp; rw [← max_eq]; exact hn, fun c hc => ?_⟩
  · unfold rowC
    rw [List.length_map, List.length_range]
    refine seq_sub hv fun i hi j hj u hu => ?_
    have : ((List.range n).map g).getD i c0 = g i := by simp [hi]
    rw [this]
    exact (hg i hi).1 w F j u hj hu
  · obtain ⟨i, hi, rfl⟩ := List.mem_map.1 hc
    exact (hg i (List.mem_range.1 hi)).2
theorem has_rep (hk : te.kind = .struct [3, 3, 3, 3, 22]) (h : HasTyB (cfgH m0) S te y) : ∃ r : Rp, (∀ w F v, RepS w F v (.mc repSh y) → RepS w F v (.mc repSh (encR r))) ∧ r.bugs.length ≤ 9223372036854775807 ∧ ∀ c ∈ r.bugs, c.sch.length ≤ 9223372036854775807 := by
  obtain ⟨xs, rfl, hl, hx⟩ := has_struct hk h
  match xs, hl with
  | [a, b, c, d, z], _ =>
    obtain ⟨n1, h1⟩ := has_int (k := .i64) rfl (hx 0 3 ⟨.leaf, .int .i64 0, 8, .int .i64, false⟩ rfl (by rfl))
    obtain ⟨n2, h2⟩ := has_int (k := .i64) rfl (hx 1 3 ⟨.leaf, .int .i64 0, 8, .int .i64, false⟩ rfl (by rfl))
    obtain ⟨n3, h3⟩ := has_int (k := .i64) rfl (hx 2 3 ⟨.leaf, .int .i64 0, 8, .int .i64, false⟩ rfl (by rfl))
    obtain ⟨n4, h4⟩ := has_int (k := .i64) rfl (hx 3 3 ⟨.leaf, .int .i64 0, 8, .int .i64, false⟩ rfl (by rfl))
    have hz := hx 4 22 ⟨.leaf, .nils, 24, .slice 49, false⟩ rfl (by rfl)
    obtain ⟨l, l1, l2, l3⟩ := has_bugs rfl hz
    have oz : z.isOne = true := hasTy_one hz (by simp) rfl (by simp) (by simp)
    simp only [List.getD_cons_zero, List.getD_cons_succ] at h1 h2 h3 h4
    subst h1 h2 h3 h4
    refine ⟨⟨n1, n2, n3, n4, l⟩, fun w F v hv => ?_, l2, l3⟩
    cases hv with
    | mc cs _ _ hs hr =>
      refine .mc cs _ _ hs fun j hj => ?_
      have := hr j hj
      match j, hj with
      | 0, _ | 1, _ | 2, _ | 3, _ => exact this
      | 4, _ =>
        have e : leafAt repSh (.agg [.int .i64 n1, .int .i64 n2, .int .i64 n3, .int .i64 n4, z]) 4 = z := by
          show asLeaf z = z
          unfold asLeaf
          rw [oz]
        rw [e] at this
        exact l1 w F _ this
end
theorem u3 : Tryd.prog.underlying 3 = some (.int .i64) := by kernel_rfl
theorem of_shape {W : World} (h : W.ShapedOpen Tryd.prog) : ∃ m, ∀ g x, get (GG m) g = some x → RepS W (Old W) (.pointer (some ⟨g, 0, none⟩)) x := by
  obtain ⟨m, hm, hr⟩ := int_of_shape (P := Tryd.prog) (g := 0) (t := 3) (zero := #[.int .i64 0]) (k := .i64) h (by decide +kernel) (by kernel_rfl) rfl (by kernel_rfl) (by kernel_rfl) u3
  refine ⟨m, fun g x hg => ?_⟩
  simp only [GG, AV.get] at hg
  split at hg
  case h_2 => cases hg
  rename_i hb
  cases hg
  obtain rfl := Nat.eq_of_beq_eq_true hb
  have hold : Old W 0 := by
    unfold Old
    rcases Nat.lt_or_ge 0 W.heap.size with h | h
    · exact h
    · simp [World.cell?, Array.getElem?_eq_none h] at hm
  refine .rptr 0 0 _ _ (fun _ => .int .i64 m) hold (fun j hj => ?_) fun j hj => ?_
  · simp only [Shape.size] at hj
    obtain rfl : j = 0 := by omega
    exact hm
  · simp only [Shape.size] at hj
    obtain rfl : j = 0 := by omega
    exact .int _ _ (inR64 hr.1 hr.2)
theorem laidOut : laidOutB Tryd.prog = true := by kernel_rfl
/-- A law's last step in this program. -/
theorem law52 {H : Type} {enc : TypeId × Value → H} {s : ChangeSpec} {f : FuncId} {fn : Func} {tes : List TyE} (m : Int) (hvars : s.vars = []) (htes : fn.params.toList.map (fun t => AV.get TTd t) = tes.map some) (hread : ∀ t ∈ fn.params.toList, Tryd.prog.readableRec t = true ∧ t < Tryd.prog.types.size) (hres : fn.resultTypes = #[4])
    (hs : ∀ ds : List (DataW H), ds.length = tes.length → s.fn H ds = { results := [.lit (.bool true)], args := ds })
    (hcon : ∀ ys : List AV, ys.length = tes.length → (∀ (j : Nat) (te : TyE), tes[j]? = some te → HasTy (cfgH m) te (ys.getD j .any)) → RCalls Tryd.prog (GG m) f (List.zipWith wrapT tes ys) (.bool true))
    {apart fresh handsOn again : Bool} (W : World) (hG : ∀ g x, AV.get (GG m) g = some x → RepS W (Old W) (.pointer (some ⟨g, 0, none⟩)) x) (base : Nat) (args : Array Value) (ds gs : List (DataW H)) (before : List MemPlace)
    (hval : ∀ (j : Nat) t v, fn.params[j]? = some t → args[j]? = some v → Value.okWide Tryd.prog W .any base t v) (hW : DataW.Whole enc Tryd.prog fn.params.toList s.vars apart W args.toList ds gs before) :
    Calls Tryd.prog f args W fun e W' => ∃ v, e = .returned v ∧ s.post enc Tryd.prog fn apart fresh handsOn again W args v W' := by
  have e : (cfgH m).P = Tryd.prog := by kernel_rfl
  have key := fun (h1 : laidOutB (cfgH m).P = true) => law_step_g (H := H) (enc := enc) (C := cfgH m) (s := s) (f := f) (fn := fn) (tes := tes) (tb := 4) (cfgH_ok m) (all_known m) h1 hvars htes
  rw [e] at key
  have key2 := key laidOut hread hres Tryd.underlying4 hs hcon (apart := apart) (fresh := fresh) (handsOn := handsOn) (again := again) W hG base args ds gs before
  clear key
  exact key2 (by with_reducible exact hval) (by with_reducible exact hW)
end Go.Proofs.S52
