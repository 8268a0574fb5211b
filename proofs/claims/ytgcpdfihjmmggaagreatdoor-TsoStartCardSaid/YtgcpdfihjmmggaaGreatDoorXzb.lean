import Derived.Test.YtgcpdfihjmmggaaGreatDoorXza
import Derived.Handed
namespace Go.AV
theorem z1f {C : Cfg} {S : Bool} {te : TyE} {k : IntKind} {y : AV} (hk : te.kind = .int k) (h : HasTyB C S te y) : ∃ n, y = .int k n := by
  cases h with
  | int h2 => rw [hk] at h2; cases h2; exact ⟨_, rfl⟩
  | bool h2 | str h2 | slice h2 | opaqueSlice h2 | struct h2 | arr h2 => rw [hk] at h2; cases h2
theorem zii {C : Cfg} {S : Bool} {te : TyE} {y : AV} {k : IntKind} (hk : te.kind = .int k) (h : HasTyB C S te y) : ∃ n, y = .int k n /\ k.min <= n /\ n <= k.max := by
  cases h with
  | int h2 hn =>
    rw [hk] at h2
    cases h2
    refine ⟨_, rfl, ?_⟩
    simp only [Lit.wf, Bool.and_eq_true, decide_eq_true_eq] at hn
    exact hn
  | bool h2 | str h2 | slice h2 | opaqueSlice h2 | struct h2 | arr h2 => rw [hk] at h2; cases h2
theorem z29 {C : Cfg} {S : Bool} {te : TyE} {fs : List TypeId} {y : AV} (hk : te.kind = .struct fs) (h : HasTyB C S te y) : ∃ xs, y = .agg xs /\ xs.length = fs.length /\ ∀ (j : Nat) (e : TypeId) (tf : TyE), fs[j]? = some e -> tyOf C e = some tf -> HasTyB C S tf (xs.getD j .any) := by
  cases h with
  | struct h2 h3 h4 => rw [hk] at h2; cases h2; exact ⟨_, rfl, h3, h4⟩
  | int h2 | bool h2 | str h2 | slice h2 | opaqueSlice h2 | arr h2 => rw [hk] at h2; cases h2
theorem zdz {C : Cfg} {te : TyE} {y : AV} (hk : te.kind = .string) (h : HasTyB C true te y) : ∃ l : List UInt8, y = .str l /\ l.length <= reachBytes := by
  cases h with
  | str h2 h3 h4 => exact ⟨_, rfl, h4 rfl⟩
  | int h2 | bool h2 | slice h2 | opaqueSlice h2 | struct h2 | arr h2 => rw [hk] at h2; cases h2
theorem zjd {C : Cfg} {te tl : TyE} {e : TypeId} {y : AV} (hk : te.kind = .slice e) (hl : tyOf C e = some tl) (h : HasTyB C true te y) : ∃ n f, y = .seq tl.sh n f /\ n * tl.bytes <= reachBytes /\ ∀ i, i < n -> HasTyB C true tl (f i) := by
  cases h with
  | slice h2 h3 h4 h5 h6 => rw [hk] at h2; cases h2; rw [hl] at h3; cases h3; exact ⟨_, _, rfl, h6 rfl, h5⟩
  | opaqueSlice h2 h3 => rw [hk] at h2; cases h2; rw [hl] at h3; cases h3
  | int h2 | bool h2 | str h2 | struct h2 | arr h2 => rw [hk] at h2; cases h2
end Go.AV
namespace Go.AV
open Go Go.ChangeShapes Go.WideShapes Go.RowKit
section
variable {H : Type} {enc : TypeId × Value -> H} {C : Cfg} {W : World} {sp : Nat -> Bool} {held : Bool}
theorem zgv {s : ChangeSpec} {f : FuncId} {fn : Func} {tes : List TyE} {tb : TypeId} (hT : z12 C) (hno : za3 C) (hl : laidOutB C.P = true) (hvars : s.vars = [])
    (htes : fn.params.toList.map (tyOf C) = tes.map some) (hread : ∀ t ∈ fn.params.toList, C.P.readableRec t = true /\ t < C.P.types.size) (hres : fn.resultTypes = #[tb]) (hub : C.P.underlying tb = some .bool)
    (hs : ∀ ds : List (DataW H), ds.length = tes.length -> s.fn H ds = { results := [.lit (.bool true)], args := ds })
    (hcon : ∀ ys : List AV, ys.length = tes.length -> (∀ (j : Nat) (te : TyE), tes[j]? = some te -> HasTyB C true te (ys.getD j .any)) -> z76 C.P C.G f (List.zipWith zbs tes ys) (.bool true))
    {apart fresh handsOn again : Bool} (W : World) (hG : ∀ g x, get C.G g = some x -> RepS W (Old W) (.pointer (some ⟨g, 0, none⟩)) x) (base : Nat) (args : Array Value) (ds gs : List (DataW H)) (before : List MemPlace)
    (hval : ∀ (j : Nat) t v, fn.params[j]? = some t -> args[j]? = some v -> Value.okWide C.P W .any base t v) (hW : DataW.Whole enc C.P fn.params.toList s.vars apart W args.toList ds gs before)
    (hsz : (DataW.weightsEach C.P (fn.params.toList ++ s.plain.varTypes C.P) (ds ++ gs)).all (· <= reachBytes) = true) :
    Calls C.P f args W fun e W' => ∃ v, e = .returned v /\ s.post enc C.P fn apart fresh handsOn again W args v W' := by
  have hW' := hW
  obtain ⟨p, q, hA, hV, rfl, hfz, hnd⟩ := hW
  rw [hvars] at hV
  obtain ⟨rfl, rfl⟩ := trodVars_none hV
  obtain ⟨ys, k1, k2, k3, k4⟩ := zih hT hno fn.params.toList tes args.toList ds p htes (fun j t v ht hv => hval j t v (by simpa using ht) (by simpa using hv)) hA (S := true) (fun _ n hn => by
    have hvt : s.plain.varTypes C.P = [] := by simp [DataSpec.varTypes, ChangeSpec.plain, hvars]
    rw [hvt, List.append_nil, List.append_nil] at hsz
    simpa using List.all_eq_true.1 hsz n hn)
  have hc := hcon ys k1 (fun j te h => (k4 j te h).1) W (Old W) args (fun k hk => hk) hG (by simp only [List.length_zipWith]; simp at k2; omega) (fun j hj => by
    simp only [List.length_zipWith] at hj
    have := (k4 j tes[j] (by simp [show j < tes.length by omega])).2
    simpa [Array.getD_eq_getD_getElem?, List.getD_eq_getElem?_getD] using this)
  refine hc.mono ?_
  rintro e W' ⟨v, F', rfl, hb, _, _, _, hv⟩
  have hv : v = .bool true := by
    simp only [RepR] at hv
    cases hv with | bool b => rfl
  subst hv
  have hlt : ∀ x ∈ p, x.block < W.heap.size := fun x hx => hW'.lt x (by simpa using hx)
  refine ⟨_, rfl, zdy (pa := p) (pv := []) hW' (fun b sp hd => ?_) (fun sp hsp => ?_) (fun _ _ => ?_) rfl hb ?_⟩
  . rw [List.append_nil, hs ds k3, hres]
    exact trodAll_cons_mk (shut_bool hub _) trodAll_mk0
  . rw [List.append_nil, hs ds k3]
    exact zcm hl hb _ _ _ _ hread hA hlt (fun x hx => hsp x (by simpa using hx))
  . rw [List.append_nil, hs ds k3, hvars]
    rfl
  . exact ok_one hres rfl (okWide_bool_mk hub _)
end
end Go.AV
namespace Go.AV
open Go Go.ChangeShapes Go.WideShapes Go.RowKit
end Go.AV
namespace Go.Proofs.S25
open Go Go.AV
open Go.IntKind renaming i64 -> j6
open Go.AV.Shape (leaf)
noncomputable section
theorem z4n {α : Type} {C : Cfg} {te tl : TyE} {e : TypeId} {y : AV} (enc : α -> AV) (d : α) (P : α -> Prop) (hk : te.kind = .slice e) (hl : tyOf C e = some tl) (h : HasTyB C true te y) (hel : ∀ x, HasTyB C true tl x -> ∃ a, RdS tl.sh x (enc a) /\ P a) :
    ∃ l : List α, RdS .leaf y (.seq tl.sh l.length fun i => enc (l.getD i d)) /\ l.length * tl.bytes <= reachBytes /\ ∀ i, i < l.length -> P (l.getD i d) := by
  obtain ⟨n, f, rfl, h1, h2⟩ := zjd hk hl h
  have h' : ∀ i, ∃ a, i < n -> RdS tl.sh (f i) (enc a) /\ P a := fun i => by
    by_cases hi : i < n
    . obtain ⟨a, ha⟩ := hel _ (h2 i hi); exact ⟨a, fun _ => ha⟩
    . exact ⟨d, fun h => absurd h hi⟩
  obtain ⟨g, hg⟩ := Classical.skolem.1 h'
  have hl : ((List.range n).map g).length = n := by simp
  have hd : ∀ i, i < n -> ((List.range n).map g).getD i d = g i := fun i hi => by simp [hi]
  refine ⟨(List.range n).map g, ?_, by rw [hl]; exact h1, fun i hi => by rw [hl] at hi; rw [hd i hi]; exact (hg i hi).2⟩
  rw [hl]
  refine RdS.leaf rfl rfl (RdS.seq fun i hi => ?_)
  rw [hd i hi]; exact (hg i hi).1
theorem zu4 {C : Cfg} {S : Bool} {te tl : TyE} {n : Nat} {e : TypeId} {y : AV} (hk : te.kind = .arr n e) (hl : tyOf C e = some tl) (h : HasTyB C S te y) : ∃ f, y = .arr n f /\ ∀ i, HasTyB C S tl (f i) := by
  cases h with
  | arr h2 h3 h4 => rw [hk] at h2; cases h2; rw [hl] at h3; cases h3; exact ⟨_, rfl, h4⟩
  | int h2 | bool h2 | str h2 | slice h2 | opaqueSlice h2 | struct h2 => rw [hk] at h2; cases h2
theorem rchB : reachBytes = 140737488351232 := by decide
theorem zra : IntKind.i64.min = -9223372036854775808 := by decide
theorem zrb : IntKind.i64.max = 9223372036854775807 := by decide
section
variable {n : Nat} {te : TyE} {y : AV}
noncomputable abbrev C25 : Cfg := cfgT 61
abbrev HT (te : TyE) (y : AV) : Prop := HasTyB C25 true te y
theorem z8h (te : TyE) (hk : te.kind = .slice 3) (h : HT te y) : ∃ l : List Int, RdS .leaf y (rowI l) /\ l.length * 8 <= reachBytes := by
  obtain ⟨l, h1, h2, _⟩ := z4n (fun n => AV.int .i64 n) 0 (fun _ => True) hk (show tyOf C25 3 = some ⟨.leaf, .int .i64 0, 8, .int .i64, false⟩ by kernel_rfl) h fun x hx => by
    obtain ⟨m, rfl⟩ := z1f (k := .i64) rfl hx
    exact ⟨m, RdS.refl _ _, trivial⟩
  exact ⟨l, h1, h2⟩
theorem zij (te : TyE) (hk : te.kind = .slice 9) (h : HT te y) : ∃ l : List (List UInt8), RdS .leaf y (rowS l) /\ l.length * 16 <= reachBytes /\ ∀ i, i < l.length -> (l.getD i []).length <= reachBytes := by
  exact z4n (fun s => AV.str s) [] (fun s => s.length <= reachBytes) hk (show tyOf C25 9 = some ⟨.leaf, .str [], 16, .string, false⟩ by kernel_rfl) h fun x hx => by
    obtain ⟨s, rfl, hs⟩ := zdz rfl hx
    exact ⟨s, RdS.refl _ _, hs⟩
theorem zot (te : TyE) (hk : te.kind = .slice 114) (h : HT te y) : ∃ l : List PVar, RdS .leaf y (rowV l) /\ l.length * 24 <= reachBytes /\ ∀ i, i < l.length -> (l.getD i c0v).name.length <= reachBytes := by
  exact z4n encV c0v (fun s => s.name.length <= reachBytes) hk (show tyOf C25 114 = some ⟨ze, .agg [.str [], .int .i64 0], 24, .struct [9, 3], true⟩ by kernel_rfl) h fun x hx => by
    obtain ⟨xs, rfl, hl, hx⟩ := z29 rfl hx
    match xs, hl with
    | [a, b], _ =>
      obtain ⟨s, h1, hs⟩ := zdz rfl (hx 0 9 ⟨.leaf, .str [], 16, .string, false⟩ rfl (by kernel_rfl))
      obtain ⟨m, h2⟩ := z1f (k := .i64) rfl (hx 1 3 ⟨.leaf, .int .i64 0, 8, .int .i64, false⟩ rfl (by kernel_rfl))
      simp only [List.getD_cons_zero, List.getD_cons_succ] at h1 h2
      subst h1 h2
      exact ⟨⟨s, m⟩, RdS.refl _ _, hs⟩
theorem zje (te : TyE) (hk : te.kind = .slice 85) (h : HT te y) : ∃ l : List PStart, RdS .leaf y (zde l) /\ l.length * 16 <= reachBytes := by
  obtain ⟨l, h1, h2, _⟩ := z4n encS c0s (fun _ => True) hk (show tyOf C25 85 = some ⟨ze, .agg [.int .i64 0, .int .i64 0], 16, .struct [3, 3], true⟩ by kernel_rfl) h fun x hx => by
    obtain ⟨xs, rfl, hl, hx⟩ := z29 rfl hx
    match xs, hl with
    | [a, b], _ =>
      obtain ⟨m1, h1⟩ := z1f (k := .i64) rfl (hx 0 3 ⟨.leaf, .int .i64 0, 8, .int .i64, false⟩ rfl (by kernel_rfl))
      obtain ⟨m, h2⟩ := z1f (k := .i64) rfl (hx 1 3 ⟨.leaf, .int .i64 0, 8, .int .i64, false⟩ rfl (by kernel_rfl))
      simp only [List.getD_cons_zero, List.getD_cons_succ] at h1 h2
      subst h1 h2
      exact ⟨⟨m1, m⟩, RdS.refl _ _, trivial⟩
  exact ⟨l, h1, h2⟩
theorem zmw (te : TyE) (hk : te.kind = .slice 92) (h : HT te y) : ∃ l : List Inst, RdS .leaf y (z9m l) /\ l.length * 64 <= reachBytes := by
  obtain ⟨l, h1, h2, _⟩ := z4n encI c0i (fun _ => True) hk (show tyOf C25 92 = some ⟨zt, .agg [.int .i64 0, .int .i64 0, .int .i64 0, .int .i64 0, .int .i64 0, .int .i64 0, .int .i64 0, .int .i64 0], 64, .struct [89, 3, 3, 3, 3, 3, 90, 55], true⟩ by kernel_rfl) h fun x hx => by
    obtain ⟨xs, rfl, hl, hx⟩ := z29 rfl hx
    match xs, hl with
    | [a, b, c, d, e, f, g, i], _ =>
      obtain ⟨m0, h0⟩ := z1f (k := .i64) rfl (hx 0 89 ⟨.leaf, .int .i64 0, 8, .int .i64, false⟩ rfl (by kernel_rfl))
      obtain ⟨m1, h1⟩ := z1f (k := .i64) rfl (hx 1 3 ⟨.leaf, .int .i64 0, 8, .int .i64, false⟩ rfl (by kernel_rfl))
      obtain ⟨m2, h2⟩ := z1f (k := .i64) rfl (hx 2 3 ⟨.leaf, .int .i64 0, 8, .int .i64, false⟩ rfl (by kernel_rfl))
      obtain ⟨m3, h3⟩ := z1f (k := .i64) rfl (hx 3 3 ⟨.leaf, .int .i64 0, 8, .int .i64, false⟩ rfl (by kernel_rfl))
      obtain ⟨m4, h4⟩ := z1f (k := .i64) rfl (hx 4 3 ⟨.leaf, .int .i64 0, 8, .int .i64, false⟩ rfl (by kernel_rfl))
      obtain ⟨m5, h5⟩ := z1f (k := .i64) rfl (hx 5 3 ⟨.leaf, .int .i64 0, 8, .int .i64, false⟩ rfl (by kernel_rfl))
      obtain ⟨m6, h6⟩ := z1f (k := .i64) rfl (hx 6 90 ⟨.leaf, .int .i64 0, 8, .int .i64, false⟩ rfl (by kernel_rfl))
      obtain ⟨m7, h7⟩ := z1f (k := .i64) rfl (hx 7 55 ⟨.leaf, .int .i64 0, 8, .int .i64, false⟩ rfl (by kernel_rfl))
      simp only [List.getD_cons_zero, List.getD_cons_succ] at h0 h1 h2 h3 h4 h5 h6 h7
      subst h0 h1 h2 h3 h4 h5 h6 h7
      exact ⟨⟨m0, m1, m2, m3, m4, m5, m6, m7⟩, RdS.refl _ _, trivial⟩
  exact ⟨l, h1, h2⟩
theorem zou (te : TyE) (hk : te.kind = .slice 65) (h : HT te y) : ∃ l : List PFun, RdS .leaf y (rowF l) /\ l.length * 40 <= reachBytes /\ ∀ i, i < l.length -> (l.getD i c0f).name.length <= reachBytes /\ (l.getD i c0f).code.length * 64 <= reachBytes := by
  exact z4n encF c0f (fun f => f.name.length <= reachBytes /\ f.code.length * 64 <= reachBytes) hk (show tyOf C25 65 = some ⟨ze, .agg [.str [], .nils], 40, .struct [9, 63], false⟩ by kernel_rfl) h fun x hx => by
    obtain ⟨xs, rfl, hl, hx⟩ := z29 rfl hx
    match xs, hl with
    | [a, b], _ =>
      obtain ⟨s, h1, hs⟩ := zdz rfl (hx 0 9 ⟨.leaf, .str [], 16, .string, false⟩ rfl (by kernel_rfl))
      obtain ⟨l, h2, h3⟩ := zmw _ (by rfl) (hx 1 63 ⟨.leaf, .nils, 24, .slice 92, false⟩ rfl (by kernel_rfl))
      simp only [List.getD_cons_zero, List.getD_cons_succ] at h1 h2
      subst h1
      exact ⟨⟨s, l⟩, RdS.agg ⟨RdS.refl _ _, h2, trivial⟩, hs, h3⟩
theorem zov (te : TyE) (hk : te.kind = .struct [22, 23, 23, 24, 25]) (h : HT te y) : ∃ p : PProg, RdS za y (encP p) /\ FitP p /\ NmP p := by
  obtain ⟨xs, rfl, hl, hx⟩ := z29 hk h
  match xs, hl with
  | [a, b, c, d, e], _ =>
    obtain ⟨l1, a1, a2, a3⟩ := zot _ (by rfl) (hx 0 22 ⟨.leaf, .nils, 24, .slice 114, false⟩ rfl (by kernel_rfl))
    obtain ⟨l2, b1, b2, b3⟩ := zij _ (by rfl) (hx 1 23 ⟨.leaf, .nils, 24, .slice 9, false⟩ rfl (by kernel_rfl))
    obtain ⟨l3, c1, c2, c3⟩ := zij _ (by rfl) (hx 2 23 ⟨.leaf, .nils, 24, .slice 9, false⟩ rfl (by kernel_rfl))
    obtain ⟨l4, d1, d2, d3⟩ := zou _ (by rfl) (hx 3 24 ⟨.leaf, .nils, 24, .slice 65, false⟩ rfl (by kernel_rfl))
    obtain ⟨l5, e1, e2⟩ := zje _ (by rfl) (hx 4 25 ⟨.leaf, .nils, 24, .slice 85, false⟩ rfl (by kernel_rfl))
    simp only [List.getD_cons_zero, List.getD_cons_succ] at a1 b1 c1 d1 e1
    rw [rchB] at a2 b2 c2 d2 e2
    simp only [rchB] at a3 b3 c3 d3
    refine ⟨⟨l1, l2, l3, l4, l5⟩, RdS.agg ⟨a1, b1, c1, d1, e1, trivial⟩, ⟨by show l1.length <= _; omega, by show l2.length <= _; omega, by show l3.length <= _; omega, by show l4.length <= _; omega, by show l5.length <= _; omega, fun i => ?_⟩, ⟨fun i => ?_, fun i => ?_, fun i => ?_, fun i => ?_⟩⟩
    . show (l4.getD i c0f).code.length <= _
      by_cases hi : i < l4.length
      . have := (d3 i hi).2; omega
      . rw [List.getD_eq_getElem?_getD, List.getElem?_eq_none (by omega)]; exact Nat.zero_le _
    . show (l1.getD i c0v).name.length <= _
      by_cases hi : i < l1.length
      . have := a3 i hi; omega
      . rw [List.getD_eq_getElem?_getD, List.getElem?_eq_none (by omega)]; exact Nat.zero_le _
    . show (l2.getD i []).length <= _
      by_cases hi : i < l2.length
      . have := b3 i hi; omega
      . rw [List.getD_eq_getElem?_getD, List.getElem?_eq_none (by omega)]; exact Nat.zero_le _
    . show (l3.getD i []).length <= _
      by_cases hi : i < l3.length
      . have := c3 i hi; omega
      . rw [List.getD_eq_getElem?_getD, List.getElem?_eq_none (by omega)]; exact Nat.zero_le _
    . show (l4.getD i c0f).name.length <= _
      by_cases hi : i < l4.length
      . have := (d3 i hi).1; omega
      . rw [List.getD_eq_getElem?_getD, List.getElem?_eq_none (by omega)]; exact Nat.zero_le _
theorem zow (te : TyE) (hk : te.kind = .arr 8 3) (h : HT te y) : ∃ l : List Int, RdS (.arr 8 .leaf) y (arr8 l) /\ l.length = 8 := by
  obtain ⟨f, rfl, hf⟩ := zu4 hk (show tyOf C25 3 = some ⟨.leaf, .int .i64 0, 8, .int .i64, false⟩ by kernel_rfl) h
  obtain ⟨g, hg⟩ := Classical.skolem.1 fun i => z1f (k := .i64) rfl (hf i)
  refine ⟨(List.range 8).map g, fun j hj w F v hv => ?_, by simp⟩
  have hj : j < 8 := hj
  have e : z6 (.arr 8 .leaf) (.arr 8 f) j = z6 (.arr 8 .leaf) (arr8 ((List.range 8).map g)) j := by
    show AV.st (z10 (f (j / 1))) = AV.st (z10 (.int .i64 (((List.range 8).map g).getD (j / 1) 0)))
    rw [Nat.div_one, hg j, List.getD_eq_getElem?_getD, List.getElem?_map, List.getElem?_range hj]; rfl
  rw [<- e]; exact hv
structure FitT (t : Thr) : Prop where
  regs : t.regs.length = 8
  id : I64 t.id
  pc : I64 t.pc
  held : t.held.length <= 140737488355328
theorem zox (te : TyE) (hk : te.kind = .slice 51) (h : HT te y) : ∃ l : List Thr, RdS .leaf y (rowT l) /\ l.length * 152 <= reachBytes /\ ∀ i, i < l.length -> FitT (l.getD i c0t) := by
  exact z4n encT c0t FitT hk (show tyOf C25 51 = some ⟨zd, .agg [.int .i64 0, .int .i64 0, .int .i64 0, .arr 8 (fun _ => .int .i64 0), .int .i64 0, .int .i64 0, .int .i64 0, .int .i64 0, .int .i64 0, .nils], 152, .struct [3, 3, 3, 47, 3, 3, 48, 49, 39, 29], false⟩ by kernel_rfl) h fun x hx => by
    obtain ⟨xs, rfl, hl, hx⟩ := z29 rfl hx
    match xs, hl with
    | [a, b, c, r, d, e, f, g, i, q], _ =>
      obtain ⟨m0, h0, q0, q0'⟩ := zii (k := .i64) rfl (hx 0 3 ⟨.leaf, .int .i64 0, 8, .int .i64, false⟩ rfl (by kernel_rfl))
      obtain ⟨m1, h1⟩ := z1f (k := .i64) rfl (hx 1 3 ⟨.leaf, .int .i64 0, 8, .int .i64, false⟩ rfl (by kernel_rfl))
      obtain ⟨m2, h2, q2, q2'⟩ := zii (k := .i64) rfl (hx 2 3 ⟨.leaf, .int .i64 0, 8, .int .i64, false⟩ rfl (by kernel_rfl))
      obtain ⟨rs, h3, h3l⟩ := zow _ (by rfl) (hx 3 47 ⟨.arr 8 .leaf, .arr 8 (fun _ => .int .i64 0), 64, .arr 8 3, true⟩ rfl (by kernel_rfl))
      obtain ⟨m4, h4⟩ := z1f (k := .i64) rfl (hx 4 3 ⟨.leaf, .int .i64 0, 8, .int .i64, false⟩ rfl (by kernel_rfl))
      obtain ⟨m5, h5⟩ := z1f (k := .i64) rfl (hx 5 3 ⟨.leaf, .int .i64 0, 8, .int .i64, false⟩ rfl (by kernel_rfl))
      obtain ⟨m6, h6⟩ := z1f (k := .i64) rfl (hx 6 48 ⟨.leaf, .int .i64 0, 8, .int .i64, false⟩ rfl (by kernel_rfl))
      obtain ⟨m7, h7⟩ := z1f (k := .i64) rfl (hx 7 49 ⟨.leaf, .int .i64 0, 8, .int .i64, false⟩ rfl (by kernel_rfl))
      obtain ⟨m8, h8⟩ := z1f (k := .i64) rfl (hx 8 39 ⟨.leaf, .int .i64 0, 8, .int .i64, false⟩ rfl (by kernel_rfl))
      obtain ⟨hs, h9, h9l⟩ := z8h _ (by rfl) (hx 9 29 ⟨.leaf, .nils, 24, .slice 3, false⟩ rfl (by kernel_rfl))
      simp only [List.getD_cons_zero, List.getD_cons_succ] at h0 h1 h2 h3 h4 h5 h6 h7 h8 h9
      subst h0 h1 h2 h4 h5 h6 h7 h8
      rw [rchB] at h9l
      exact ⟨⟨m0, m1, m2, rs, m4, m5, m6, m7, m8, hs⟩, RdS.agg ⟨RdS.refl _ _, RdS.refl _ _, RdS.refl _ _, h3, RdS.refl _ _, RdS.refl _ _, RdS.refl _ _, RdS.refl _ _, RdS.refl _ _, h9, trivial⟩, ⟨h3l, ⟨zra ▸ q0, zrb ▸ q0'⟩, ⟨zra ▸ q2, zrb ▸ q2'⟩, by show hs.length <= _; omega⟩⟩
theorem zzi (te : TyE) (hk : te.kind = .slice 29) (h : HT te y) : ∃ l : List (List Int), RdS .leaf y (rowQ l) /\ l.length * 24 <= reachBytes /\ ∀ i, i < l.length -> (l.getD i []).length <= 140737488355328 := by
  exact z4n rowI [] (fun q => q.length <= 140737488355328) hk (show tyOf C25 29 = some ⟨.leaf, .nils, 24, .slice 3, false⟩ by kernel_rfl) h fun x hx => by
    obtain ⟨l, h1, h2⟩ := z8h _ rfl hx
    rw [rchB] at h2
    exact ⟨l, h1, by omega⟩
theorem zoy (te : TyE) (hk : te.kind = .struct [29, 29, 30, 29]) (h : HT te y) : ∃ m : Mem, RdS zw y (encM m) /\ m.vars.length <= 140737488355328 /\ m.owners.length <= 140737488355328 /\ m.queues.length <= 140737488355328 /\ m.sig.length <= 140737488355328 /\ ∀ i, (m.queues.getD i []).length <= 140737488355328 := by
  obtain ⟨xs, rfl, hl, hx⟩ := z29 hk h
  match xs, hl with
  | [a, b, c, d], _ =>
    obtain ⟨l1, a1, a2⟩ := z8h _ (by rfl) (hx 0 29 ⟨.leaf, .nils, 24, .slice 3, false⟩ rfl (by kernel_rfl))
    obtain ⟨l2, b1, b2⟩ := z8h _ (by rfl) (hx 1 29 ⟨.leaf, .nils, 24, .slice 3, false⟩ rfl (by kernel_rfl))
    obtain ⟨l3, c1, c2, c3⟩ := zzi _ (by rfl) (hx 2 30 ⟨.leaf, .nils, 24, .slice 29, false⟩ rfl (by kernel_rfl))
    obtain ⟨l4, d1, d2⟩ := z8h _ (by rfl) (hx 3 29 ⟨.leaf, .nils, 24, .slice 3, false⟩ rfl (by kernel_rfl))
    simp only [List.getD_cons_zero, List.getD_cons_succ] at a1 b1 c1 d1
    rw [rchB] at a2 b2 c2 d2
    refine ⟨⟨l1, l2, l3, l4⟩, RdS.agg ⟨a1, b1, c1, d1, trivial⟩, by show l1.length <= _; omega, by show l2.length <= _; omega, by show l3.length <= _; omega, by show l4.length <= _; omega, fun i => ?_⟩
    show (l3.getD i []).length <= _
    by_cases hi : i < l3.length
    . exact c3 i hi
    . rw [List.getD_eq_getElem?_getD, List.getElem?_eq_none (by omega)]; exact Nat.zero_le _
theorem zoz (te : TyE) (hk : te.kind = .slice 118) (h : HT te y) : ∃ l : List BEnt, RdS .leaf y (rowE l) /\ l.length * 16 <= reachBytes := by
  obtain ⟨l, h1, h2, _⟩ := z4n encE c0e (fun _ => True) hk (show tyOf C25 118 = some ⟨ze, .agg [.int .i64 0, .int .i64 0], 16, .struct [3, 3], true⟩ by kernel_rfl) h fun x hx => by
    obtain ⟨xs, rfl, hl, hx⟩ := z29 rfl hx
    match xs, hl with
    | [a, b], _ =>
      obtain ⟨m1, h1⟩ := z1f (k := .i64) rfl (hx 0 3 ⟨.leaf, .int .i64 0, 8, .int .i64, false⟩ rfl (by kernel_rfl))
      obtain ⟨m, h2⟩ := z1f (k := .i64) rfl (hx 1 3 ⟨.leaf, .int .i64 0, 8, .int .i64, false⟩ rfl (by kernel_rfl))
      simp only [List.getD_cons_zero, List.getD_cons_succ] at h1 h2
      subst h1 h2
      exact ⟨⟨m1, m⟩, RdS.refl _ _, trivial⟩
  exact ⟨l, h1, h2⟩
theorem zp0 (te : TyE) (hk : te.kind = .slice 68) (h : HT te y) : ∃ l : List Buf, RdS .leaf y (rowB l) /\ l.length * 40 <= reachBytes /\ ∀ i, i < l.length -> (l.getD i c0b).entries.length <= 140737488355328 := by
  exact z4n encB c0b (fun b => b.entries.length <= 140737488355328) hk (show tyOf C25 68 = some ⟨zo, .agg [.int .i64 0, .int .i64 0, .nils], 40, .struct [3, 3, 66], false⟩ by kernel_rfl) h fun x hx => by
    obtain ⟨xs, rfl, hl, hx⟩ := z29 rfl hx
    match xs, hl with
    | [a, b, c], _ =>
      obtain ⟨m1, h1⟩ := z1f (k := .i64) rfl (hx 0 3 ⟨.leaf, .int .i64 0, 8, .int .i64, false⟩ rfl (by kernel_rfl))
      obtain ⟨m, h2⟩ := z1f (k := .i64) rfl (hx 1 3 ⟨.leaf, .int .i64 0, 8, .int .i64, false⟩ rfl (by kernel_rfl))
      obtain ⟨l, h3, h4⟩ := zoz _ (by rfl) (hx 2 66 ⟨.leaf, .nils, 24, .slice 118, false⟩ rfl (by kernel_rfl))
      simp only [List.getD_cons_zero, List.getD_cons_succ] at h1 h2 h3
      subst h1 h2
      rw [rchB] at h4
      exact ⟨⟨m1, m, l⟩, RdS.agg ⟨RdS.refl _ _, RdS.refl _ _, h3, trivial⟩, by show l.length <= _; omega⟩
theorem zmx (te : TyE) (hk : te.kind = .struct [28, 32, 33]) (h : HT te y) : ∃ s : SState, RdS stSh y (z15 s) /\ FitS s /\ ∀ i, FitT (s.thr.getD i c0t) := by
  obtain ⟨xs, rfl, hl, hx⟩ := z29 hk h
  match xs, hl with
  | [a, b, c], _ =>
    obtain ⟨l1, a1, a2, a3⟩ := zox _ (by rfl) (hx 0 28 ⟨.leaf, .nils, 24, .slice 51, false⟩ rfl (by kernel_rfl))
    obtain ⟨m, b1, b2, b3, b4, b5, b6⟩ := zoy _ (by rfl) (hx 1 32 ⟨zw, .agg [.nils, .nils, .nils, .nils], 96, .struct [29, 29, 30, 29], false⟩ rfl (by kernel_rfl))
    obtain ⟨l3, c1, c2, c3⟩ := zp0 _ (by rfl) (hx 2 33 ⟨.leaf, .nils, 24, .slice 68, false⟩ rfl (by kernel_rfl))
    simp only [List.getD_cons_zero, List.getD_cons_succ] at a1 b1 c1
    rw [rchB] at a2 c2
    have hT : ∀ i, FitT (l1.getD i c0t) := fun i => by
      by_cases hi : i < l1.length
      . exact a3 i hi
      . rw [List.getD_eq_getElem?_getD, List.getElem?_eq_none (by omega)]
        exact ⟨rfl, ⟨by decide, by decide⟩, ⟨by decide, by decide⟩, by decide⟩
    refine ⟨⟨l1, m, l3⟩, RdS.agg ⟨a1, b1, c1, trivial⟩, ⟨by show l1.length <= _; omega, by show l3.length <= _; omega, b2, b3, b4, b5, fun i => ?_, b6, fun i => (hT i).held⟩, hT⟩
    show (l3.getD i c0b).entries.length <= _
    by_cases hi : i < l3.length
    . exact c3 i hi
    . rw [List.getD_eq_getElem?_getD, List.getElem?_eq_none (by omega)]; exact Nat.zero_le _
end
def oLw (p : PProg) (b : Int) (s : SState) (i : Nat) : FuncId -> List AV -> Option AV
  | 9, [_] => some (.bool (fewB p))
  | 10, [_] => some (.bool (z7r s))
  | 11, [] => some (.bool true)
  | 12, [_, _] | 13, [_, _] => some (.tup [vSt (zi p b).1, .int .i64 (zi p b).2])
  | 14, [_, _] => some (.bool true)
  | 15, [_] | 16, [_] => match Nat.blt i 18 with
    | true => some (.bool (drnB s.bufs))
    | false => some (.bool (drnB (zi p b).1.bufs))
  | _, _ => none
noncomputable def vLw (p : PProg) (b : Int) (s : SState) (n : Nat) : VCtx := { C := cfgM n fun _ _ => false, CC := Known Tryz.prog GG, orc := fun _ i => oLw p b s i, inv := fun _ => none }
noncomputable def zfk (p : PProg) (b : Int) (s : SState) : Prop := fnVc (vLw p b s 57 ) Tryz.f3 [vP p, .int .i64 b, vSt s] (.bool true)
end
end Go.Proofs.S25
namespace Go.Proofs.S25
open Go Go.AV
open Go.IntKind renaming i64 -> j6
open Go.AV.Shape (leaf)
noncomputable section
open Go.IntKind renaming i64 -> j6
open Go.AV.Shape (leaf)
noncomputable section

theorem zrc : ∀ {l : List Nat} {x : Nat}, x ∈ l -> x <= l.sum
  | y :: l, x, h => by
    rw [List.sum_cons]
    rcases List.mem_cons.1 h with rfl | h
    . omega
    . have := zrc h; omega
theorem zzj {α : Type} (l : List α) (d : α) (f : α -> Nat) (i : Nat) (h0 : f d = 0) : f (l.getD i d) <= ((l.take l.length).map f).sum := by
  rw [List.take_length]
  by_cases hi : i < l.length
  . rw [List.getD_eq_getElem?_getD, List.getElem?_eq_getElem hi]
    show f l[i] <= _
    have : f l[i] ∈ l.map f := List.mem_map.2 ⟨_, List.getElem_mem hi, rfl⟩
    exact zrc this
  . rw [List.getD_eq_getElem?_getD, List.getElem?_eq_none (by omega)]
    show f d <= _
    omega
theorem zzk {p : PProg} (h : fewB p = true) (hn : NmP p) : PSm p := by
  unfold fewB at h
  rw [Bool.and_eq_true, decide_eq_true_eq, decide_eq_true_eq] at h
  obtain ⟨h1, h2⟩ := h
  rw [show min p.funs.length 20 = p.funs.length from by omega] at h2
  unfold fewE at h2
  refine ⟨by omega, by omega, by omega, by omega, by omega, fun i => ?_, fun i => ?_, fun i => ?_, fun i => ?_, fun i => ?_⟩
  . have := zzj p.funs c0f (fun f => f.code.length) i rfl
    omega
  . have e : ((z4i p).getD i []).length = (p.vars.getD i c0v).name.length := by
      unfold z4i; rw [List.getD_eq_getElem?_getD, List.getD_eq_getElem?_getD, List.getElem?_map]
      cases p.vars[i]? <;> rfl
    have := hn.vn i
    omega
  . have := hn.mn i; omega
  . have := hn.cn i; omega
  . have e : ((z5o p).getD i []).length = (p.funs.getD i c0f).name.length := by
      unfold z5o; rw [List.getD_eq_getElem?_getD, List.getD_eq_getElem?_getD, List.getElem?_map]
      cases p.funs[i]? <;> rfl
    have := hn.fn i
    omega
theorem z12t {p : PProg} {b : Int} (hp : PSm p) : SSm (zi p b).1 := by
  unfold zi
  split
  . exact zmn
  . have h := za2 (b := b) hp
    refine ⟨h.thr, h.ok, h.mem, ?_, fun j => ?_⟩
    . show (bufL _ [] _).length <= _
      rw [z6z _ _ _ (Nat.le_refl _)]; exact h.thr
    . show ((bufL _ [] _).getD j c0b).entries.length <= _
      by_cases hj : j < (z7 p b).1.thr.length
      . rw [za1 _ _ _ (Nat.le_refl _) j hj]; exact Nat.zero_le _
      . rw [List.getD_eq_getElem?_getD, List.getElem?_eq_none (by rw [z6z _ _ _ (Nat.le_refl _)]; omega)]
        exact Nat.zero_le _
section
variable (p:PProg)
def qll:=(!!fewB p)=true->(!!fewB p)=true
variable (b:Int)
def q1b9:List AV:=[AV.mc za (encP p),AV.int j6 b]
def q1ba:=AV.tup [AV.mc stSh (z15 (zi p b).fst),AV.int j6 (zi p b).snd]
def qlm:List AV:=[AV.mc stSh (z15 (zi p b).fst)]
def q1bb:=true&&true&&(zi p b).snd == (zi p b).snd
def qcq:=q1bb p b=true
def q9b:=qcq p b->qcq p b
variable (s:SState)
def q1bc:=q1bb p b&&drnB s.bufs == drnB s.bufs
def qcr:=q1bc p b s=true
def q9c:=qcr p b s->qcr p b s
end
theorem zmy (p:PProg) (b:Int) (s:SState):zfk p b s=(KN 9 [AV.mc za (encP p)] (AV.bool (fewB p))/\qll p/\((!!fewB p)=true->KN 10 [AV.mc stSh (z15 s)] (AV.bool (z7r s)))/\qll p/\qll p/\((!fewB p||!z7r s)=true->KN 11 [] (AV.bool true)/\RR true)/\((!fewB p||!z7r s)=false->KN 12 (q1b9 p b) (q1ba p b)/\KN 13 (q1b9 p b) (q1ba p b)/\KN 11 [] (AV.bool true)/\(RR true->RR true)/\(RR true->RR true)/\(RR true->KN 14 (AV.mc stSh (z15 (zi p b).fst)::qlm p b) (AV.bool true))/\(RR true->RR true)/\((true&&true)=true->(true&&true)=true)/\((true&&true)=true->(true&&true)=true)/\((true&&true)=true->(true&&true)=true)/\q9b p b/\(qcq p b->KN 15 [AV.mc stSh (z15 s)] (AV.bool (drnB s.bufs)))/\q9b p b/\(qcq p b->KN 16 [AV.mc stSh (z15 s)] (AV.bool (drnB s.bufs)))/\q9b p b/\q9b p b/\q9b p b/\q9c p b s/\(qcr p b s->KN 15 (qlm p b) (AV.bool (drnB (zi p b).fst.bufs)))/\q9c p b s/\(qcr p b s->KN 16 (qlm p b) (AV.bool (drnB (zi p b).fst.bufs)))/\q9c p b s/\q9c p b s/\q9c p b s/\(q1bc p b s&&drnB (zi p b).fst.bufs == drnB (zi p b).fst.bufs)=true)):=by kernel_rfl
theorem zmz (p : PProg) (b : Int) (s : SState) (hp : FitP p) (hn : NmP p) (hs : FitS s) : Known Tryz.prog GG 3 [vP p, .int .i64 b, vSt s] (.bool true)  := by
  refine Known.of (V := vLw p b s 57 ) (fn := Tryz.f3) Tryz.func3 (by kernel_rfl) (zl _ _) rfl ?_
  show zfk p b s
  rw [zmy]; try delta qll q1b9 q1ba qlm q1bb qcq q9b q1bc qcr q9c
  simp only [SB]
  refine ⟨kFew p hp, fun _ => kSl s hs, fun _ => zr9, fun h => ?_⟩
  have hP := zzk h.1 hn
  have hS := z12t (b := b) hP
  have hb : s.bufs.length <= 300 := by
    have := h.2
    unfold z7r at this
    rw [decide_eq_true_eq] at this
    unfold slC slB slA sl0 at this
    omega
  have hE : Known Tryz.prog GG 14 [vSt (zi p b).1, vSt (zi p b).1] (.bool true) := by
    have := z11y (zi p b).1 (zi p b).1 hS hS
    rwa [decide_eq_true rfl] at this
  exact ⟨kTst' p b hP, zyg p b hP, zr9, fun _ => hE, fun _ => kTdr s (by omega) hs.ents, fun _ => kRdr s (by omega) hs.ents, fun _ => kTdr _ hS.bufs fun j => by have := hS.ents j; omega, fun _ => kRdr _ hS.bufs fun j => by have := hS.ents j; omega⟩
end
end
end Go.Proofs.S25
