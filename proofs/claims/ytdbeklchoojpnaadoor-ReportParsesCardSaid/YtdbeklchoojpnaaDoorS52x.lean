/- The report seat: types; report.Parse's deferred closure. -/
import Derived.Test.YtdbeklchoojpnaaDoorS52d
import Derived.Recover
import Derived.KernelRfl
namespace Go.Proofs.S52
open Go Go.AV Go.RowKit

theorem catch_idle (p q : Value) (w : World) :
    CallsD Tryd.prog 29 #[p, q] .returning w fun e u' w' => e = .returned (.tuple #[]) ∧ u' = .returning ∧ w' = w := by
  refine callsD_of_wpS Tryd.func29 rfl fun c₀ cs hu => ?_
  apply wpS_seq
  apply wpS_region
  simp [wpOpsS, go_sem, recoverD, hu, Tryd.ntmps29, Exit.thenS]
  apply wpS_seq
  apply wpS_region
  simp [wpOpsS, go_sem, Exit.thenS]
  refine wpS_cond (t := false) (by simp [Act.eval]) ?_
  simp only [Bool.false_eq_true, if_false]
  refine wpS_of_wp (wp_skip ?_)
  cases c₀
  simp_all [bodyPostS, results, Tryd.results29]

def hsC : List BoxC := [.cell 24 repSh (.agg [.any, .any, .any, .any, .any]), .cell 31 fltSh (.agg [.any, .any])]
def argsC : List AV := [.ptr 0 [], .ptr 1 []]
def fltV (e a : Int) : Value := .agg #[.int .i64 e, .int .i64 a]
noncomputable def vC : VCtx := { C := cfgD 18, CC := fun _ _ _ => False, orc := fun _ _ _ _ => none, inv := fun _ => none }
def st0 : St := ⟨argEnv 0 (AV.subL atLent argsC), lentHeap 0 hsC⟩
/-- Behind the first two operations of the third region. -/
def st1 (e a : Int) : St := ⟨put (put st0.env 9 .any) 10 (.tup [.mc fltSh (encF e a), .bool true]), st0.heap⟩
noncomputable def code2 : Code := match Tryd.f29.body with
  | some (.seq _ (.seq _ (.cond _ (.seq _ c) _))) => c
  | _ => .skip
noncomputable def ops2 : Array Oper := match Tryd.f29.body with
  | some (.seq _ (.seq _ (.cond _ (.seq (.region _ ops _) _) _))) => ops
  | _ => #[]
def endC (e a : Int) (x : Exit) (st : St) : Prop :=
  match x with
  | .normal => get st.heap (atLent 0) = some (.cell 24 repSh (.agg [.int .i64 0, .int .i64 0, .int .i64 0, .int .i64 0, .nils])) ∧ get st.heap (atLent 1) = some (.cell 31 fltSh (encF e a))
  | _ => False
noncomputable def st2 (e a : Int) : St := match absOpsF vC.C vC.CC (vC.orc 2) ops2.toList (ops2.toList.drop 2) 2 (st1 e a) with
  | some (s, _) => s
  | none => st0
theorem run2 (e a : Int) : absOpsF vC.C vC.CC (vC.orc 2) ops2.toList (ops2.toList.drop 2) 2 (st1 e a) = some (st2 e a, []) := by kernel_rfl
theorem run3 (e a : Int) : vc vC code2 (st2 e a) (endC e a) = (((!true) = true → False) ∧ ((!true) = false → (some (BoxC.cell 24 repSh (.agg [.int .i64 0, .int .i64 0, .int .i64 0, .int .i64 0, .nils])) = some (.cell 24 repSh (.agg [.int .i64 0, .int .i64 0, .int .i64 0, .int .i64 0, .nils])) ∧
    some (BoxC.cell 31 fltSh (encF e a)) = some (.cell 31 fltSh (encF e a))))) := by kernel_rfl
theorem cc0 : CCOK vC.C vC.CC := ⟨fun _ _ _ h => h.elim, fun _ _ _ _ h => h.elim, fun _ _ _ _ _ h => h.elim, fun _ _ _ _ _ h => h.elim⟩

noncomputable def o0 : Oper := (ops2[0]?).getD default
noncomputable def o1 : Oper := (ops2[1]?).getD default
theorem run0 (ev : Operand → Value) (w : World) : (execOp ev o0).run Tryd.prog w = .ok (.value (ev (.tmp 2))) w := by kernel_rfl
theorem runT (e a : Int) (w : World) : (Instr.typeAssert (.iface 31 (.agg #[.int .i64 e, .int .i64 a])) 20 31 true).run Tryd.prog w = .ok (.tuple #[.agg #[.int .i64 e, .int .i64 a], .bool true]) w := by kernel_rfl
theorem run1 (e a : Int) (ev : Operand → Value) (w : World) (h : ev (.tmp 9) = .iface 31 (.agg #[.int .i64 e, .int .i64 a])) : (execOp ev o1).run Tryd.prog w = .ok (.value (.tuple #[.agg #[.int .i64 e, .int .i64 a], .bool true])) w := by
  have ho : o1.op = .typeAssert (.tmp 9) 20 31 true := by kernel_rfl
  simp only [execOp, ho]
  refine run_value ?_
  rw [h]
  exact runT e a w
theorem ops_lemma (e a : Int) {b : Act} {w : World} {W0 : Entry} {F0 F : Nat → Prop} {φ : Nat → AV.Place} {Q : Exit → Act → World → Prop} (hb2 : b.eval (.tmp 2) = .iface 31 (.agg #[.int .i64 e, .int .i64 a])) (hsz : b.tmps.size = 18)
    (hR : Rel vC.C W0 F0 (st1 e a) ((b.put (some 9) (.iface 31 (.agg #[.int .i64 e, .int .i64 a]))).put (some 10) (.tuple #[.agg #[.int .i64 e, .int .i64 a], .bool true])) w F φ)
    (hQ : ∀ a' w' F' φ', Rel vC.C W0 F0 (st2 e a) a' w' F' φ' → Q .normal a' w') : wpOps Tryd.prog ops2 Q (List.range 8) b w := by
  have h0 : ops2[0]? = some o0 := by kernel_rfl
  have h1 : ops2[1]? = some o1 := by kernel_rfl
  have g0 : ∀ m, Region.wanted o0 m = true := fun m => by kernel_rfl
  have g1 : ∀ m, Region.wanted o1 m = true := fun m => by kernel_rfl
  have d0 : o0.dst = some 9 := by kernel_rfl
  have d1 : o1.dst = some 10 := by kernel_rfl
  have e9 : (b.put (some 9) (.iface 31 (.agg #[.int .i64 e, .int .i64 a]))).eval (.tmp 9) = .iface 31 (.agg #[.int .i64 e, .int .i64 a]) := by simp [Act.eval, Act.put, hsz]
  rw [show List.range 8 = 0 :: 1 :: List.range' 2 6 from rfl]
  simp only [wpOps, h0, h1, g0, g1, if_true]
  refine .inl ?_
  unfold Oper.wp
  rw [run0, hb2, Oper.upon_value, d0]
  refine .inl ?_
  rw [run1 e a _ _ e9, Oper.upon_value, d1]
  have hlen : (ops2.toList.drop 2).length = 6 := by kernel_rfl
  have hj : ∀ j : Nat, (ops2.toList.drop 2)[j]? = ops2[2 + j]? := fun j => by rw [List.getElem?_drop, Array.getElem?_toList]
  have key := run2 e a
  generalize ops2 = O at *
  have := ops_soundF (Q := Q) (CC := vC.CC) (orc := vC.orc 2) (ops := O) (O.toList.drop 2) 2 (st1 e a) (st2 e a) [] _ w F φ (cfgD_ok 18) cc0 hj key (fun p hp => by cases hp) hR hQ
  rw [hlen] at this
  exact this

noncomputable def codeT : Code := match Tryd.f29.body with
  | some (.seq _ (.seq _ (.cond _ c _))) => c
  | _ => .skip
theorem codeT_eq : codeT = .seq (.region 2 ops2 false) code2 := by kernel_rfl
theorem tail_lemma (e a : Int) (he : InR .i64 e) (ha : InR .i64 a) {b : Act} {w : World} {W0 : Entry} {F0 F : Nat → Prop} {φ : Nat → AV.Place} (hb2 : b.eval (.tmp 2) = .iface 31 (.agg #[.int .i64 e, .int .i64 a])) (hRb : Rel (cfgD 18) W0 F0 st0 b w F φ) :
    codeT.wp Tryd.prog (fun x a' w' => ∃ st F' φ', Rel (cfgD 18) W0 F0 st a' w' F' φ' ∧ endC e a x st) b w := by
  rw [codeT_eq]
  have hsz : List.range ops2.size = List.range 8 := by kernel_rfl
  refine wp_seq (wp_region ?_)
  rw [hsz]
  have hR1 : Rel (cfgD 18) W0 F0 (st1 e a) ((b.put (some 9) (.iface 31 (.agg #[.int .i64 e, .int .i64 a]))).put (some 10) (.tuple #[.agg #[.int .i64 e, .int .i64 a], .bool true])) w F φ := by
    refine (hRb.putV (d := 9) (x := .any) (by decide) (.stat (.any _ rfl))).putV (d := 10) (by decide) ?_
    refine .tup _ _ rfl fun j hj => ?_
    match j, hj with
    | 0, _ =>
      refine .stat (.mc _ _ _ rfl fun k hk => ?_)
      match k, hk with
      | 0, _ => exact .int _ _ he
      | 1, _ => exact .int _ _ ha
      | k + 2, hk => exact absurd (show k + 2 < 2 from hk) (by omega)
    | 1, _ => exact .stat (.bool _)
    | j + 2, hj => exact absurd (show j + 2 < 2 from hj) (by omega)
  refine ops_lemma e a hb2 hRb.tsz hR1 fun a' w' F' φ' hR2 => ?_
  refine vc_sound (V := vC) (cfgD_ok 18) cc0 code2 (st2 e a) (endC e a) a' w' F' φ' ?_ hR2
  rw [run3]
  exact ⟨(fun h => by cases h), fun _ => ⟨rfl, rfl⟩⟩

/-- Behind a panic with a fault: it is taken up; the report is empty, the fault laid. -/
theorem catch_rel (e a : Int) (he : InR .i64 e) (ha : InR .i64 a) (w : World) (F : Nat → Prop) (φ : Nat → AV.Place) (vs : Array Value) (hro : ∀ k, F k → k < w.heap.size) (hsz : vs.size = 2)
    (hr : ∀ j, j < 2 → Rep w F φ (vs.getD j undef) (argsC.getD j .any)) (hbox : ∀ (i : Nat) c, hsC[i]? = some c → BoxOK w F φ (fun _ => True) i c) (hinj : ∀ i i' g, i < 2 → i' < 2 → (φ i).blk = some g → (φ i').blk = some g → i = i') :
    CallsD Tryd.prog 29 vs (.panicking [⟨.iface 31 (fltV e a), false, false⟩]) w fun en u' w' => en = .returned (.tuple #[]) ∧ u' = .panicking [⟨.iface 31 (fltV e a), true, false⟩] ∧ ∃ F' φ', Kept (LentTo φ 2) w w' ∧ (∀ k, F k → F' k) ∧
      (∀ k, F' k → F k ∨ w.heap.size ≤ k ∨ LentTo φ 2 k) ∧ (∀ k, F' k → k < w'.heap.size) ∧ BoxOK w' F' φ' (fun k => w.heap.size ≤ k ∨ LentTo φ 2 k) 0 (.cell 24 repSh (.agg [.int .i64 0, .int .i64 0, .int .i64 0, .int .i64 0, .nils])) ∧
      BoxOK w' F' φ' (fun k => w.heap.size ≤ k ∨ LentTo φ 2 k) 1 (.cell 31 fltSh (encF e a)) ∧ φ' 0 = φ 0 ∧ φ' 1 = φ 1 := by
  refine callsD_of_wpS Tryd.func29 rfl fun c₀ cs hu => ?_
  have hR := Rel.startL (C := cfgD 18) (fn := Tryd.f29) (args := argsC) (hs := hsC) (vs := vs) (F := F) (φ := φ) (w := w) rfl (by decide) (by kernel_rfl) hro (fun g x hg => by cases hg) hsz hr hbox hinj
  generalize ({ tmps := vs ++ Array.replicate (Tryd.f29.ntmps - vs.size) undef, defers := [] } : Act) = a0 at hR ⊢
  have hsz0 : a0.tmps.size = 18 := hR.tsz
  unfold fltV at hu ⊢
  apply wpS_seq
  apply wpS_region
  simp [wpOpsS, go_sem, recoverD, hu, Tryd.ntmps29, Exit.thenS, hsz0]
  apply wpS_seq
  apply wpS_region
  simp [wpOpsS, go_sem, Exit.thenS, hsz0]
  refine wpS_cond (t := true) (by simp [Act.eval, hsz0]) ?_
  simp only [if_true]
  refine wpS_of_wp ?_
  generalize hV : (Value.iface 31 (.agg #[.int .i64 e, .int .i64 a])) = V at *
  have hRb := (((hR.putU 5 V).putU 2 V).putU 6 V).putU 7 (.bool true)
  have hb2 : ((((a0.put (some 5) V).put (some 2) V).put (some 6) V).put (some 7) (.bool true)).eval (.tmp 2) = V := by simp [Act.eval, Act.put, hsz0]
  refine wp_mono (Q := fun x a' w' => ∃ st F' φ', Rel (cfgD 18) ⟨w, LentTo φ hsC.length, lentAnc φ hsC, []⟩ F st a' w' F' φ' ∧ endC e a x st) ?_ ?_
  · rw [← hV] at hRb hb2 ⊢
    exact tail_lemma e a he ha hb2 hRb
  · rintro x a' w' ⟨st, F', φ', hE, hx⟩
    cases x with
    | normal =>
      obtain ⟨x1, x2⟩ := hx
      have an0 := (hE.anc (atLent 0) (φ 0) rfl).2.1
      have an1 := (hE.anc (atLent 1) (φ 1) rfl).2.1
      refine ⟨hE.dfr, .panicking [⟨V, true, false⟩], by cases c₀; rfl, .tuple #[], results_none rfl _ _ _, rfl, rfl, hE.base, F', hE.sub, fun k hk => hE.new k hk, hE.ro, fun i => φ' (atLent i), ?_, ?_, an0, an1⟩
      · exact box_inv (c := .cell 24 repSh (.agg [.int .i64 0, .int .i64 0, .int .i64 0, .int .i64 0, .nils])) (m := fun _ => true) (n := atLent) (φ2 := φ') (i := 0) (fun _ _ => rfl) rfl rfl (hE.heap _ _ x1)
      · exact box_inv (c := .cell 31 fltSh (encF e a)) (m := fun _ => true) (n := atLent) (φ2 := φ') (i := 1) (fun _ _ => rfl) rfl rfl (hE.heap _ _ x2)
    | _ => exact hx.elim

def K52 : Catcher := ⟨29, 31, 24, repSh, .agg [.int .i64 0, .int .i64 0, .int .i64 0, .int .i64 0, .nils], 31, fltSh⟩
theorem k52 : CatchOK Tryd.prog K52 := by
  refine ⟨fun vs w h => ?_, fun e a he ha w F φ vs hro hsz hr hbox hinj => ?_⟩
  · have : vs = #[vs.getD 0 undef, vs.getD 1 undef] := by
      apply Array.ext (by simpa using h)
      intro i hi1 hi2
      match i with
      | 0 => simp [Array.getD_eq_getD_getElem?, hi1]
      | 1 => simp [Array.getD_eq_getD_getElem?, hi1]
      | i + 2 => simp at hi2; omega
    rw [this]
    exact catch_idle _ _ w
  · refine catch_rel e a he ha w F φ vs hro hsz hr (fun i c hi => ?_) hinj
    have conv : ∀ (i : Nat) (t : TypeId) (ss : List Shape) (l : List AV), (∀ j, leafAt (.agg ss) (.agg l) j = .any) → BoxOK w F φ (fun _ => True) i (.cell t (.agg ss) .any) → BoxOK w F φ (fun _ => True) i (.cell t (.agg ss) (.agg l)) := by
      rintro i t ss l hl ⟨h1, g, cs, h2, h3, h4, h5, h6, h7⟩
      exact ⟨h1, g, cs, h2, h3, h4, h5, h6, fun j hj => by rw [hl]; exact h7 j hj⟩
    have any5 : ∀ j, leafAt repSh (.agg [.any, .any, .any, .any, .any]) j = .any := fun j => by
      simp only [repSh, leafAt, leafsAt, asLeaf, AV.isOne, ite_self]
    have any2 : ∀ j, leafAt fltSh (.agg [.any, .any]) j = .any := fun j => by
      simp only [fltSh, leafAt, leafsAt, asLeaf, AV.isOne, ite_self]
    match i, hi with
    | 0, hi => simp [hsC] at hi; subst hi; exact conv 0 24 _ _ any5 (hbox 0 _ rfl)
    | 1, hi => simp [hsC] at hi; subst hi; exact conv 1 31 _ _ any2 (hbox 1 _ rfl)
theorem k52o : CallOK Tryd.prog 29 := CallOK.of (fn := Tryd.f29) rfl (by kernel_rfl) (by kernel_rfl)
end Go.Proofs.S52
