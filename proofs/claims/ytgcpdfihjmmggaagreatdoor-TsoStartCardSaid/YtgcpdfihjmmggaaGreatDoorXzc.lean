import Derived.Test.YtgcpdfihjmmggaaGreatDoorXzb
import Derived.Test.YtgcpdfihjmmggaaGreatDoorRows
import Derived.WalkKit
import Derived.ProofKit
import Derived.LaidMore
import Derived.OpenShut
import Derived.Lay
import Derived.ChangeSame
namespace Go.Proofs.YtgcpdfihjmmggaaGreatDoor.law
open Go Go.AV Go.Proofs.S25 Go.ChangeShapes Go.WideShapes Go.ChangeAt Go.RowKit
def zn0 : List (String × DataW Unit) := [("modelcheck/value.names", Rows.laid_modelcheck_value_names), ("modelcheck/inst.rows", Rows.laid_modelcheck_inst_rows)]
theorem ownK : ownKnob Tryz.prog.godebug = none := by kernel_rfl
theorem gN : Tryz.prog.globalNamed "modelcheck/value.names" = some 2 := by kernel_rfl
theorem tN : (Tryz.prog.globals[2]?).map (·.type) = some 240 := by kernel_rfl
theorem gI : Tryz.prog.globalNamed "modelcheck/inst.rows" = some 1 := by kernel_rfl
theorem tI : (Tryz.prog.globals[1]?).map (·.type) = some 227 := by kernel_rfl
theorem uN : Tryz.prog.underlying 240 = some (.array 10 9) := by kernel_rfl
theorem uI : Tryz.prog.underlying 227 = some (.array 22 226) := by kernel_rfl
theorem uB : Tryz.prog.underlying 224 = some (.array 7 4) := by kernel_rfl
theorem uS : Tryz.prog.underlying 9 = some .string := by kernel_rfl
theorem ub : Tryz.prog.underlying 4 = some .bool := by kernel_rfl
theorem cS : Tryz.prog.cellsOf 9 = 1 := by kernel_rfl
theorem cb : Tryz.prog.cellsOf 4 = 1 := by kernel_rfl
theorem cB : Tryz.prog.cellsOf 224 = 7 := by kernel_rfl
theorem cR : Tryz.prog.cellsOf 226 = 8 := by kernel_rfl
theorem uR : ∃ f0 f1 : Field, Tryz.prog.underlying 226 = some (.struct #[f0, f1]) /\ f0.type = 9 /\ f0.offset = 0 /\ f1.type = 224 /\ f1.offset = 1 := ⟨_, _, Tryz.underlying226, rfl, rfl, rfl, rfl⟩
theorem zu5 {l : List Value} {i : Nat} {x : Value} (h : (l.drop i).take 1 = [x]) : l[i]? = some x := by
  have h1 := congrArg (fun l => l[0]?) h
  simpa [List.getElem?_take, List.getElem?_drop] using h1
theorem zn1 {l : List Value} {a n b c : Nat} (h : b + c <= n) : (((l.drop a).take n).drop b).take c = (l.drop (a + b)).take c := by
  rw [List.drop_take, List.drop_drop, List.take_take, Nat.min_eq_left (by omega)]
section
variable {W : World} {base : Nat} {sp : Nat -> Bool} {held : Bool}
theorem zu6 {n : Nat} {cs : List Value} {d : DataW Unit} {p : List MemPlace} (h : DataW.trod (fun _ => ()) Tryz.prog W base sp held n 240 cs = some (d, p))
    (hd : d = .agg ((List.range 10).map fun i => .lit (.string (nameL.getD i [])))) : ∀ j, j < 10 -> ∃ s : ByteArray, cs[j]? = some (.string s) /\ s.data.toList = nameL.getD j [] := by
  obtain ⟨xs, m, rfl, hx, hlen, hxl, hel⟩ := DataW.trod_array uN h
  intro j hj
  have h1 := hel j hj
  rw [cS, Nat.mul_one] at h1
  obtain ⟨y, hy⟩ : ∃ y, xs[j]? = some y := ⟨xs[j], by simp [hxl, hj]⟩
  rw [hy] at h1
  obtain ⟨s, e1, e2, _⟩ := DataW.trod_string uS h1
  refine ⟨s, zu5 e1, ?_⟩
  rw [hd] at hx
  have hx1 := congrArg (fun l => l[j]?) (DataW.agg.inj (congrArg Prod.fst hx))
  simp only [List.getElem?_map, hy, Option.map_some, e2, List.getElem?_range hj] at hx1
  simpa using hx1.symm
theorem zu7 {n : Nat} {cs : List Value} {d : DataW Unit} {p : List MemPlace} (h : DataW.trod (fun _ => ()) Tryz.prog W base sp held n 227 cs = some (d, p))
    (hd : d = .agg ((List.range 22).map fun i => .agg [.lit (.string (znk.getD i [])), .agg ((List.range 7).map fun k => .lit (.bool ((zdf.getD i []).getD k false)))])) : ∀ i, i < 22 ->
    (∃ s : ByteArray, cs[i * 8]? = some (.string s) /\ s.data.toList = znk.getD i []) /\ ∀ k, k < 7 -> cs[i * 8 + (1 + k)]? = some (.bool ((zdf.getD i []).getD k false)) := by
  obtain ⟨xs, m, rfl, hx, hlen, hxl, hel⟩ := DataW.trod_array uI h
  intro i hi
  have h1 := hel i hi
  rw [cR] at h1
  obtain ⟨y, hy⟩ : ∃ y, xs[i]? = some y := ⟨xs[i], by simp [hxl, hi]⟩
  rw [hy] at h1
  rw [hd] at hx
  have hx1 := congrArg (fun l => l[i]?) (DataW.agg.inj (congrArg Prod.fst hx))
  simp only [List.getElem?_map, hy, Option.map_some, List.getElem?_range hi, Option.some.injEq] at hx1
  obtain ⟨f0, f1, u1, t0, o0, t1, o1⟩ := uR
  obtain ⟨y0, y1, q, rfl, _, g0, g1⟩ := trod_struct2 u1 h1
  rw [t0, o0, cS] at g0
  rw [t1, o1, cB] at g1
  rw [zn1 (by omega)] at g0 g1
  simp only [DataW.agg.injEq, List.cons.injEq, and_true] at hx1
  obtain ⟨x0, x1⟩ := hx1
  obtain ⟨s, e1, e2, _⟩ := DataW.trod_string uS g0
  obtain ⟨ys, r, _, e3, _, e4, e5⟩ := DataW.trod_array uB g1
  refine ⟨⟨s, by simpa using zu5 e1, ?_⟩, fun k hk => ?_⟩
  . rw [e2] at x0; simpa using x0.symm
  . have h2 := e5 k hk
    rw [cb, Nat.mul_one, zn1 (by omega)] at h2
    obtain ⟨z, hz⟩ : ∃ z, ys[k]? = some z := ⟨ys[k], by simp [e4, hk]⟩
    rw [hz] at h2
    obtain ⟨b, e6, e7⟩ := DataW.trod_bool ub h2
    rw [e3] at x1
    have x2 := congrArg (fun l => l[k]?) (DataW.agg.inj x1)
    simp only [List.getElem?_map, hz, Option.map_some, e7, List.getElem?_range hk] at x2
    have x3 : (zdf.getD i []).getD k false = b := by simpa using x2
    rw [x3]
    have := zu5 e6
    rwa [Nat.add_assoc] at this
end
theorem zu8 {W : World} (h : laidMetH Tryz.prog zn0 W) : ∀ g x, get GG g = some x -> RepS W (Old W) (.pointer (some ⟨g, 0, none⟩)) x := by
  rw [MakeChecks.laidMetH_plain _ _ _ (by kernel_rfl)] at h
  obtain ⟨ps, ⟨g0, t0, cs0, f0, p0, q0, hg0, ht0, hv0, hd0, hL, _⟩, _, _⟩ := h
  obtain ⟨g1, t1, cs1, f1, p1, q1, hg1, ht1, hv1, hd1, _, _⟩ := hL
  obtain rfl := Option.some.inj (gN.symm.trans hg0)
  obtain rfl := Option.some.inj (tN.symm.trans ht0)
  obtain rfl := Option.some.inj (gI.symm.trans hg1)
  obtain rfl := Option.some.inj (tI.symm.trans ht1)
  have sN := zu6 hd0 (by kernel_rfl)
  have sI := zu7 hd1 (by kernel_rfl)
  have cell0 := World.var?_cell hg0 hv0
  have cell1 := World.var?_cell hg1 hv1
  have old : ∀ {g : Nat} {cs : Array Value} {x : Value}, (∀ j, W.cell? ⟨g, j, none⟩ = cs[j]?) -> cs.toList[0]? = some x -> Old W g := fun {g cs x} hc h0 => by
    have := hc 0
    rw [<- Array.getElem?_toList, h0] at this
    unfold Old
    rcases Nat.lt_or_ge g W.heap.size with h | h
    . exact h
    . simp [World.cell?, Array.getElem?_eq_none h] at this
  intro g x hgx
  simp only [GG, AV.get] at hgx
  split at hgx
  . rename_i hb
    cases hgx
    have hb := Nat.eq_of_beq_eq_true hb
    subst hb
    obtain ⟨s0, z0, _⟩ := (sI 0 (by decide)).1
    refine .rptr _ 0 _ _ (fun j => (cs1[j]?).getD undef) (old cell1 z0) (fun j hj => ?_) fun j hj => ?_
    . have hj : j < 176 := hj
      rw [Nat.zero_add, cell1 j]
      have hlt : j < cs1.toList.length := by
        have := (sI 21 (by decide)).2 6 (by decide)
        have := (List.getElem?_eq_some_iff.1 this).1
        omega
      rw [<- Array.getElem?_toList, List.getElem?_eq_getElem hlt]; rfl
    . have hj : j < 176 := hj
      obtain ⟨⟨s, e1, e2⟩, e3⟩ := sI (j / 8) (by omega)
      show RepS W _ _ (.st (zf [.leaf, .arr 7 .leaf] [.str (znk.getD (j / 8) []), .arr 7 fun k => .bool ((zdf.getD (j / 8) []).getD k false)] (j % 8)))
      refine .st ?_
      simp only [zf]
      by_cases h0 : j % 8 < Shape.leaf.size
      . rw [if_pos h0]
        have h0 : j % 8 < 1 := h0
        have : j = j / 8 * 8 := by omega
        rw [<- Array.getElem?_toList, this, e1, show j / 8 * 8 / 8 = j / 8 from by omega, <- e2]
        exact .str s
      . rw [if_neg h0]
        have h0 : ¬ j % 8 < 1 := h0
        rw [if_pos (show j % 8 - Shape.leaf.size < (Shape.arr 7 .leaf).size by show j % 8 - 1 < 7 * 1; omega)]
        have : j = j / 8 * 8 + (1 + (j % 8 - 1)) := by omega
        have e4 := e3 (j % 8 - 1) (by omega)
        rw [<- this] at e4
        rw [<- Array.getElem?_toList, e4]
        show RepS W _ (.bool _) (.st (z10 (.bool ((zdf.getD (j / 8) []).getD ((j % 8 - 1) / 1) false))))
        rw [Nat.div_one]
        exact .st (.bool _)
  . split at hgx
    case h_2 => cases hgx
    rename_i hb
    cases hgx
    have hb := Nat.eq_of_beq_eq_true hb
    subst hb
    obtain ⟨s0, z0, _⟩ := sN 0 (by decide)
    refine .rptr _ 0 _ _ (fun j => (cs0[j]?).getD undef) (old cell0 z0) (fun j hj => ?_) fun j hj => ?_
    . have hj : j < 10 := by simpa [Shape.size] using hj
      obtain ⟨s, e, _⟩ := sN j hj
      rw [Nat.zero_add, cell0 j, <- Array.getElem?_toList, e]; rfl
    . have hj : j < 10 := by simpa [Shape.size] using hj
      obtain ⟨s, e, hs⟩ := sN j hj
      show RepS W _ _ (.st (z10 (.str (nameL.getD (j / 1) []))))
      rw [Nat.div_one, <- Array.getElem?_toList, e, <- hs]
      exact .st (.str s)
theorem zp1 (os : Os) (args : Array Value) : laidMetH Tryz.prog zn0 ((World.doorLaid Tryz.prog 400 os).forCall (fun _ _ => 0) ⟨#[], args, []⟩).memory :=
  laidMetH_of_parts3 (fuel := 8) (laidMet_of_run' 8 (by kernel_rfl) (by kernel_rfl)) (by kernel_rfl) (by kernel_rfl)
theorem zn2 (n : Nat) : za3 (cfgT n) := by
  intro t te ht
  have := Go.AV.get_mem ht
  simp only [cfgT, TT, List.mem_cons, Prod.mk.injEq, List.not_mem_nil, or_false] at this
  rcases this with ⟨_, rfl⟩ | ⟨_, rfl⟩ | ⟨_, rfl⟩ | ⟨_, rfl⟩ | ⟨_, rfl⟩ | ⟨_, rfl⟩ | ⟨_, rfl⟩ | ⟨_, rfl⟩ | ⟨_, rfl⟩ | ⟨_, rfl⟩ | ⟨_, rfl⟩ | ⟨_, rfl⟩ | ⟨_, rfl⟩ | ⟨_, rfl⟩ | ⟨_, rfl⟩ | ⟨_, rfl⟩ | ⟨_, rfl⟩ | ⟨_, rfl⟩ | ⟨_, rfl⟩ | ⟨_, rfl⟩ | ⟨_, rfl⟩ | ⟨_, rfl⟩ | ⟨_, rfl⟩ | ⟨_, rfl⟩ | ⟨_, rfl⟩ | ⟨_, rfl⟩ | ⟨_, rfl⟩ | ⟨_, rfl⟩ | ⟨_, rfl⟩ | ⟨_, rfl⟩ | ⟨_, rfl⟩ | ⟨_, rfl⟩ | ⟨_, rfl⟩ | ⟨_, rfl⟩ | ⟨_, rfl⟩ | ⟨_, rfl⟩ | ⟨_, rfl⟩ | ⟨_, rfl⟩ | ⟨_, rfl⟩ | ⟨_, rfl⟩ | ⟨_, rfl⟩ | ⟨_, rfl⟩ | ⟨_, rfl⟩ | ⟨_, rfl⟩ | ⟨_, rfl⟩ | ⟨_, rfl⟩ | ⟨_, rfl⟩ | ⟨_, rfl⟩ | ⟨_, rfl⟩ | ⟨_, rfl⟩ | ⟨_, rfl⟩ <;> trivial
theorem z8i {H : Type} {enc : TypeId × Value -> H} {a : Assume} {C : Checked} {P : Program} (hP : C.prog = P) {os : Os} {f : FuncId} {fn : Func} {s : ChangeSpec} {conds : List PathCond} {apart fresh handsOn again : Bool} {X : World -> Array Value -> Prop}
    (hX : ∀ (w w' : World) (args : Array Value), w.heap = w'.heap -> X w args -> X w' args)
    (own : ownKnob C.prog.godebug = none) (started : os.Started) (noInit : C.prog.inits.idxOf? f = none) (hfn : C.prog.funcs[f]? = some fn)
    (witness : ∃ (w : World) (tape : Tape) (i : Input), w.os = os /\ (w.forCall tape i).Shaped C.prog /\ i.vars = [] /\ Input.okWide C.prog (w.forCall tape i) .any w.heap.size f i /\
      ((s.pre enc C.prog fn conds apart (w.forCall tape i).memory i.args /\ X (w.forCall tape i).memory i.args) /\ sizedMet enc C.prog fn (OpenSpec.ofChange s) apart (w.forCall tape i).memory i.args) /\ a.holds C.prog (lone (Frame.enter C.prog f i.args .normal) [] (w.forCall tape i)))
    (contract : ∀ (W : World) (base : Nat) (args : Array Value) (ds gs : List (DataW H)) (before : List MemPlace),
      (∀ (j : Nat) t v, fn.params[j]? = some t -> args[j]? = some v -> Value.okWide P W .any base t v) ->
      DataW.Whole enc P fn.params.toList s.vars apart W args.toList ds gs before ->
      (DataW.weightsEach P (fn.params.toList ++ s.plain.varTypes P) (ds ++ gs)).all (· <= reachBytes) = true -> X W args ->
      Calls P f args W fun e W' => ∃ v, e = .returned v /\ s.post enc P fn apart fresh handsOn again W args v W') :
    ReturnsInHanded a C os f .any (fun w args => (s.pre enc C.prog fn conds apart w args /\ X w args) /\ sizedMet enc C.prog fn (OpenSpec.ofChange s) apart w args) (s.post enc C.prog fn apart fresh handsOn again) := by
  subst hP
  exact returnsInHanded_of_change_and hX own started noInit hfn witness fun W base args ds gs before hval hW _ hsz hL _ => contract W base args ds gs before hval hW hsz hL
theorem zu9 : laidOutB Tryz.prog = true := by kernel_rfl
theorem z12u {H : Type} {enc : TypeId × Value -> H} {s : ChangeSpec} {f : FuncId} {fn : Func} {tes : List TyE} (hvars : s.vars = []) (htes : fn.params.toList.map (fun t => AV.get TT t) = tes.map some) (hread : ∀ t ∈ fn.params.toList, Tryz.prog.readableRec t = true /\ t < Tryz.prog.types.size) (hres : fn.resultTypes = #[4])
    (hs : ∀ ds : List (DataW H), ds.length = tes.length -> s.fn H ds = { results := [.lit (.bool true)], args := ds })
    (hcon : ∀ ys : List AV, ys.length = tes.length -> (∀ (j : Nat) (te : TyE), tes[j]? = some te -> HasTyB (cfgT 61) true te (ys.getD j .any)) -> z76 Tryz.prog GG f (List.zipWith zbs tes ys) (.bool true))
    {apart fresh handsOn again : Bool} (W : World) (hG : ∀ g x, AV.get GG g = some x -> RepS W (Old W) (.pointer (some ⟨g, 0, none⟩)) x) (base : Nat) (args : Array Value) (ds gs : List (DataW H)) (before : List MemPlace)
    (hval : ∀ (j : Nat) t v, fn.params[j]? = some t -> args[j]? = some v -> Value.okWide Tryz.prog W .any base t v) (hW : DataW.Whole enc Tryz.prog fn.params.toList s.vars apart W args.toList ds gs before)
    (hsz : (DataW.weightsEach Tryz.prog (fn.params.toList ++ s.plain.varTypes Tryz.prog) (ds ++ gs)).all (· <= reachBytes) = true) :
    Calls Tryz.prog f args W fun e W' => ∃ v, e = .returned v /\ s.post enc Tryz.prog fn apart fresh handsOn again W args v W' := by
  have e : (cfgT 61).P = Tryz.prog := by kernel_rfl
  have key := fun (h1 : laidOutB (cfgT 61).P = true) => zgv (H := H) (enc := enc) (C := cfgT 61) (s := s) (f := f) (fn := fn) (tes := tes) (tb := 4) (zn 61) (zn2 61) h1 hvars htes
  rw [e] at key
  have key2 := key zu9 hread hres Tryz.underlying4 hs hcon (apart := apart) (fresh := fresh) (handsOn := handsOn) (again := again) W hG base args ds gs before
  clear key
  exact key2 (by with_reducible exact hval) (by with_reducible exact hW) (by with_reducible exact hsz)
end Go.Proofs.YtgcpdfihjmmggaaGreatDoor.law
