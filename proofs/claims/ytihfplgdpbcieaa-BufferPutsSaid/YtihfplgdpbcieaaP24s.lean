/- Layer 24: scribble writes the rows that it is given, and nothing else. -/
import Derived.Test.YtihfplgdpbcieaaP24p
import Derived.StillTail
namespace Go.Proofs.S24
open Go Go.AV Go.RowKit

section
variable {C : Cfg} {W0 : AV.Entry} {F0 : Nat → Prop} {st st' : St} {a : Act} {w : World} {F : Nat → Prop} {φ : Nat → AV.Place} {o : Oper} {r : Res}
def isP : Op → Bool
  | .move _ | .assign _ | .indexAddr _ _ _ | .fieldAddr _ _ _ | .load _ _ | .binOp _ _ _ _ _ => true
  | _ => false
theorem pureAny (h : Rel C W0 F0 st a w F φ) (hT : TysOK C) (hk : isP o.op = true) (hr : absOp C st (ev C st) o.dst (fun _ _ => none) (fun _ _ _ => False) o.op = some r) (hob : ∀ p ∈ r.obs, p) : PureOK C o a w F φ r := by
  generalize hp : o.op = p at hk hr
  cases p with
  | move x => exact pure_move (.inl hp) hr fun y hy => h.ev hy
  | assign x => exact pure_move (C := C) (st := st) (dst := o.dst) (orc := fun _ _ => none) (CC := fun _ _ _ => False) (.inr hp) hr fun y hy => h.ev hy
  | indexAddr t x i => exact pure_indexAddr h hT hp hr (fun u hu => h.ev hu) (fun u hu => h.ev hu) hob
  | fieldAddr t x f => exact pure_fieldAddr h hT hp hr fun u hu => h.ev hu
  | load t x => exact pure_load h hT hp hr (fun u hu => h.ev hu) hob
  | binOp op t x y t' => exact pure_binOp hT hp hr (fun u hu => h.ev hu) (fun u hu => h.ev hu) hob
  | _ => cases hk
def absP (C : Cfg) : List Oper → St → Option (St × List Prop)
  | [], st => some (st, [])
  | o :: l, st => match o.guard, o.dst, isP o.op with
    | none, some d, true => match Nat.blt d C.ntmps, absOp C st (ev C st) (some d) (fun _ _ => none) (fun _ _ _ => False) o.op with
      | true, some r => match absP C l { st with env := put st.env d r.val } with
        | some (st', ps) => some (st', r.obs ++ ps)
        | none => none
      | _, _ => none
    | _, _, _ => none
theorem wpStill_append {P : Program} {ops : Array Oper} {Q : Act → Prop} {l2 : List Oper} : ∀ (l1 : List Oper) (a : Act), wpStill P ops w (wpStill P ops w Q l2) l1 a → wpStill P ops w Q (l1 ++ l2) a
  | [], _, h => h
  | o :: l, a, h => by
    have e : wpStill P ops w (wpStill P ops w Q l2) l = fun a => wpStill P ops w (wpStill P ops w Q l2) l a := rfl
    simp only [wpStill, List.cons_append] at h ⊢
    split
    · rename_i hw
      rw [if_pos hw] at h
      exact Oper.still_mono (fun a ha => wpStill_append l a ha) h
    · rename_i hw
      rw [if_neg hw] at h
      exact wpStill_append l _ h
theorem still_one {P : Program} {ops : Array Oper} {Q : Act → Prop} {l : List Oper} {v : Value} (hg : o.guard = none) (hrun : (execOp a.eval o).run P w = .ok (.value v) w) (h : wpStill P ops w Q l (a.put o.dst v)) : wpStill P ops w Q (o :: l) a := by
  simp only [wpStill]
  rw [if_pos (by simp [Region.wanted, hg])]
  unfold Oper.still
  rw [hrun, Oper.stillUpon_value]
  exact h
theorem still_pure {ops : Array Oper} {Q : Act → Prop} (hT : TysOK C) : ∀ (l : List Oper) (st st' : St) (ps : List Prop) (a : Act), Rel C W0 F0 st a w F φ → absP C l st = some (st', ps) → (∀ p ∈ ps, p) → (∀ a', Rel C W0 F0 st' a' w F φ → Q a') → wpStill C.P ops w Q l a
  | [], st, st', ps, a, h, hs, _, hQ => by
    simp only [absP, Option.some.injEq, Prod.mk.injEq] at hs
    obtain ⟨rfl, _⟩ := hs
    exact hQ a h
  | o :: l, st, st', ps, a, h, hs, hps, hQ => by
    simp only [absP] at hs
    split at hs
    case h_2 => cases hs
    rename_i d hg hd hk
    split at hs
    case h_2 => cases hs
    rename_i r hlt hr
    split at hs
    case h_2 => cases hs
    rename_i st1 ps1 hrec
    cases hs
    obtain ⟨_, v, hrun, hrep⟩ := pureAny h hT hk (by rw [hd]; exact hr) fun p hp => hps p (List.mem_append.2 (.inl hp))
    refine still_one hg hrun ?_
    rw [hd]
    exact still_pure hT l _ _ _ _ (h.putV (Nat.le_of_ble_eq_true hlt) hrep) hrec (fun p hp => hps p (List.mem_append.2 (.inr hp))) hQ

theorem scr_rel (h : Rel C W0 F0 st a w F φ) (hG : C.G = []) (hA : ∀ b, W0.A b = none) {g : Nat} {cs' : Array Value} (hB : W0.B g) (env : List (Nat × AV))
    (henv : ∀ s x, get env s = some x → ∃ v, a.tmps[s]? = some v ∧ Rep (w.setRow g cs') F φ v x) : Rel C W0 F0 ⟨env, []⟩ a (w.setRow g cs') F φ :=
  ⟨henv, fun b c hc => by simp [AV.get] at hc, fun b b' c c' g h1 => by simp [AV.get] at h1, fun k hk => by rw [setRow_size]; exact h.ro k hk,
    h.base.trans (L' := fun k => k = g) ⟨rfl, rfl, rfl, by simp, fun k _ hk => setRow_keep hk⟩ (fun i hi hlt => by subst hi; exact hB.resolve_left (by omega)), h.sub, h.new, h.dfr, h.tsz,
    fun g x hg => by rw [hG] at hg; simp [AV.get] at hg, fun b p hb => by rw [hA] at hb; cases hb⟩
end

/-- What scribble needs to know of what it is given. -/
def anyN : Nat → Prop := fun _ => True
def elE (ms : Nat → Nat) (z : Nat → Nat → Int) (i : Nat) : AV := .agg [.any, .any, .nseq anyN entSh (ms i) fun k => .agg [.any, .int .i64 (z i k)]]
def rowA (n : Nat) (ms : Nat → Nat) (z : Nat → Nat → Int) : AV := .seq bufSh n (elE ms z)

theorem cell_inv {w : World} {g : Nat} {cs : Array Value} {ty : TypeId} (hg : w.heap[g]? = some (.cells cs ty (0, 0))) {j : Nat} {u : Value} (h : w.cell? ⟨g, j, none⟩ = some u) : j < cs.size ∧ u = cs.getD j undef := by
  have : cs[j]? = some u := by simpa [World.cell?, hg] using h
  obtain ⟨h1, h2⟩ := Array.getElem?_eq_some_iff.1 this
  exact ⟨h1, by rw [Array.getD_eq_getD_getElem?, this]; rfl⟩

theorem cell_turn {w : World} {g q : Nat} {cs cs' : Array Value} {ty : TypeId} {y : Value} (hg : w.heap[g]? = some (.cells cs ty (0, 0))) (hsz : cs'.size = cs.size) (hcs : ∀ j, j < cs.size → cs'.getD j undef = if j = q then y else cs.getD j undef)
    {g' j : Nat} {u : Value} (h : w.cell? ⟨g', j, none⟩ = some u) : (w.setRow g cs').cell? ⟨g', j, none⟩ = some (if g' = g ∧ j = q then y else u) ∧ (g' = g ∧ j = q → u = cs.getD q undef) := by
  by_cases e : g' = g
  · subst e
    obtain ⟨h1, h2⟩ := cell_inv hg h
    have hh := setRow_heap w g' cs cs' ty (0, 0) hg
    rw [cell_of hh (by omega), hcs j h1]
    by_cases ej : j = q
    · subst ej; simp [h2]
    · simp [ej, h2]
  · rw [World.cell?_of_block (setRow_keep e)]
    simp [e, h]

theorem rowA_turn {w : World} {F : Nat → Prop} {v : Value} {n : Nat} {ms : Nat → Nat} {z : Nat → Nat → Int} {g q : Nat} {cs cs' : Array Value} {ty : TypeId} {y0 y1 : Int} (hv : RepS w F v (rowA n ms z)) (hg : w.heap[g]? = some (.cells cs ty (0, 0)))
    (hsz : cs'.size = cs.size) (hcs : ∀ j, j < cs.size → cs'.getD j undef = if j = q then .int .i64 y1 else cs.getD j undef) (hold : cs.getD q undef = .int .i64 y0) (hy : InR .i64 y1) : ∃ z', RepS (w.setRow g cs') F v (rowA n ms z') := by
  unfold rowA at hv
  generalize hf : elE ms z = f at hv
  cases hv with
  | seq0 a cap => exact ⟨z, .seq0 _ _ _ _⟩
  | seq g0 o0 _ cap _ _ cs0 hF hn hc hr =>
    subst hf
    have inner : ∀ i, ∃ zi : Nat → Int, i < n → RepS (w.setRow g cs') F (cs0 i 2) (.nseq anyN entSh (ms i) fun k => .agg [.any, .int .i64 (zi k)]) := by
      intro i
      by_cases hi : i < n
      · have h2 : RepS w F (cs0 i 2) (.nseq anyN entSh (ms i) fun k => .agg [.any, .int .i64 (z i k)]) := hr i hi 2 (by decide)
        generalize cs0 i 2 = u at h2
        generalize ms i = m at h2
        generalize hf : (fun k => AV.agg [.any, .int .i64 (z i k)]) = f at h2
        cases h2 with
        | nseq0 => exact ⟨z i, fun _ => .nseq0 _ _ _ _ _⟩
        | nseq _ gi oi _ capi _ _ csi hFi hNi hbi hni hci hri =>
          subst hf
          refine ⟨fun k => if gi = g ∧ oi + (k * entSh.size + 1) = q then y1 else z i k, fun _ => .nseq _ gi oi m capi _ _ (fun k j => if gi = g ∧ oi + (k * entSh.size + j) = q then .int .i64 y1 else csi k j) hFi hNi ?_ hni (fun k hk j hj => (cell_turn hg hsz hcs (hci k hk j hj)).1) fun k hk j hj => ?_⟩
          · obtain ⟨cs2, ty2, h3⟩ := hbi
            by_cases e : gi = g
            · subst e; exact ⟨cs', ty, setRow_heap w gi cs cs' ty (0, 0) hg⟩
            · exact ⟨cs2, ty2, (setRow_keep e).trans h3⟩
          · match j, hj with
            | 0, hj =>
              refine .any _ ?_
              have h4 : RepS w F (csi k 0) .any := hri k hk 0 hj
              split
              · rfl
              · exact h4.one rfl
            | 1, hj =>
              have h4 : RepS w F (csi k 1) (.int .i64 (z i k)) := hri k hk 1 hj
              show RepS _ F _ (.int .i64 (if gi = g ∧ oi + (k * entSh.size + 1) = q then y1 else z i k))
              split
              · exact .int _ _ hy
              · generalize csi k 1 = u at h4; cases h4 with | int _ _ h => exact .int _ _ h
            | j + 2, hj => exact absurd hj (by show ¬ j + 2 < 2; omega)
      · exact ⟨fun _ => 0, fun h => absurd h hi⟩
    obtain ⟨z', hz'⟩ := Classical.skolem.1 inner
    refine ⟨z', .seq g0 o0 n cap _ _ (fun i j => if g0 = g ∧ o0 + (i * bufSh.size + j) = q then .int .i64 y1 else cs0 i j) hF hn (fun i hi j hj => (cell_turn hg hsz hcs (hc i hi j hj)).1) fun i hi j hj => ?_⟩
    have any : ∀ {u : Value}, RepS w F u .any → RepS (w.setRow g cs') F (if g0 = g ∧ o0 + (i * bufSh.size + j) = q then .int .i64 y1 else u) .any := fun hu => by
      refine .any _ ?_
      split
      · rfl
      · exact hu.one rfl
    match j, hj with
    | 0, hj => exact any (hr i hi 0 hj)
    | 1, hj => exact any (hr i hi 1 hj)
    | 2, hj =>
      have hne : ¬ (g0 = g ∧ o0 + (i * bufSh.size + 2) = q) := fun e => by
        have h5 := (cell_turn hg hsz hcs (hc i hi 2 hj)).2 e
        have h6 : RepS w F (cs0 i 2) (.nseq anyN entSh (ms i) fun k => .agg [.any, .int .i64 (z i k)]) := hr i hi 2 hj
        rw [h5, hold] at h6
        cases h6
      rw [if_neg hne]
      exact hz' i hi
    | j + 3, hj => exact absurd hj (by show ¬ j + 3 < 3; omega)

section
variable {C : Cfg} {a : Act} {w : World} {o : Oper}
theorem run_index (hT : TysOK C) {t el : TypeId} {x ix : Operand} {te tl : TyE} (ho : o.op = .indexAddr t x ix) (h1 : tyOf C t = some te) (hkind : te.kind = .slice el) (h2 : tyOf C el = some tl) {g off n cap : Nat} {kd : IntKind} {i : Int}
    (hv : a.eval x = .slice (some ⟨g, off, none⟩) n cap) (hi : a.eval ix = .int kd i) (hi0 : 0 ≤ i) (hin : i < (n : Int)) : (execOp a.eval o).run C.P w = .ok (.value (.pointer (some ⟨g, off + i.toNat * tl.sh.size, none⟩))) w := by
  have hd := kind_slice (hT _ _ h1) hkind
  have Tl := hT _ _ h2
  simp only [execOp, ho]
  refine run_value ?_
  simp only [Instr.indexAt, hi, asIntOf, Sem.run_bind, Sem.run_pure, Result.andThen_ok, run_underlying hd, hv, hi0, hin, and_self, if_true, Tl.size, add_none]
theorem run_field (hT : TysOK C) {t : TypeId} {x : Operand} {f : Nat} {te : TyE} {ss : List Shape} {fs : List TypeId} (ho : o.op = .fieldAddr t x f) (h1 : tyOf C t = some te) (hk : te.kind = .struct fs) (hlt : f < fs.length) (hss : te.sh = .agg ss) {g off : Nat}
    (hv : a.eval x = .pointer (some ⟨g, off, none⟩)) : (execOp a.eval o).run C.P w = .ok (.value (.pointer (some ⟨g, off + Shape.sizes (ss.take f), none⟩))) w := by
  obtain ⟨fields, ss', hd, hsh, hlen, hfs, hfi⟩ := kind_struct (hT _ _ h1) hk
  rw [hss] at hsh
  cases hsh
  have hfl : f < fields.size := by rw [hfs] at hlt; simpa using hlt
  have hff : fields[f]? = some fields[f] := by simp [hfl]
  obtain ⟨tf, htf, hsf, hoff, _⟩ := hfi f _ hff
  have Tf := hT _ _ htf
  have hpos := Tf.pos
  simp only [execOp, ho]
  refine run_value ?_
  simp only [Instr.fieldAt, Sem.run_bind, run_underlying hd, Result.andThen_ok, hff, hv, Instr.sureAddr, Sem.run_pure, fieldPlace, Tf.size]
  rw [if_neg (by omega)]
  simp [hoff, add_none]
theorem run_store (hT : TysOK C) {t : TypeId} {x v : Operand} {te : TyE} (ho : o.op = .store t x v) (h1 : tyOf C t = some te) (hs1 : te.sh = .leaf) {g off : Nat} {cs : Array Value} {ty : TypeId} (hx : a.eval x = .pointer (some ⟨g, off, none⟩)) (hg : w.heap[g]? = some (.cells cs ty (0, 0))) (hl : off < cs.size)
    {y : Int} (hv : a.eval v = .int .i64 y) : (execOp a.eval o).run C.P w = .ok .skip (w.setRow g (cs.toList.take off ++ [Value.int .i64 y] ++ cs.toList.drop (off + 1)).toArray) := by
  have hsz : te.sh.size = 1 := by rw [hs1]; rfl
  have h2 := (hT _ _ h1).runStore (w := w) g off cs ty (.int .i64 y) hg (by omega) (by rw [hsz]; rfl) (fun j hj => by
    obtain rfl : j = 0 := by omega
    rfl)
  rw [hsz] at h2
  simp only [execOp, ho, Instr.storeAt, hx, Instr.sureAddr, Sem.run_bind, Sem.run_pure, Result.andThen_ok, hv, h2]
  rfl
end

noncomputable def cS : Cfg := { P := Try.prog, T := TT, G := [], wraps := true, ntmps := 38 }
theorem cS_ok : TysOK cS := tys_ok (by kernel_rfl)
noncomputable def vS : VCtx := { C := cS, CC := fun _ _ _ => False, orc := fun _ _ _ _ => none, inv := fun _ => none }
theorem ccS : CCOK vS.C vS.CC := ⟨fun _ _ _ h => h.elim, fun _ _ _ _ h => h.elim, fun _ _ _ _ _ h => h.elim, fun _ _ _ _ _ h => h.elim⟩
noncomputable def ops6 : Array Oper := match Try.f29.body with
  | some (.seq _ (.block _ (.loop (.seq _ (.seq (.block _ (.seq _ (.block _ (.loop (.seq _ (.seq (.block _ (.region _ ops _)) _)))))) _))))) => ops
  | _ => #[]
noncomputable def r0 : Code := match Try.f29.body with
  | some (.seq c _) => c
  | _ => .skip
noncomputable def hd1 : Code := match Try.f29.body with
  | some (.seq _ (.block _ (.loop (.seq c _)))) => c
  | _ => .skip
noncomputable def r3 : Code := match Try.f29.body with
  | some (.seq _ (.block _ (.loop (.seq _ (.seq (.block _ (.seq c _)) _))))) => c
  | _ => .skip
noncomputable def hd2 : Code := match Try.f29.body with
  | some (.seq _ (.block _ (.loop (.seq _ (.seq (.block _ (.seq _ (.block _ (.loop (.seq c _))))) _))))) => c
  | _ => .skip
noncomputable def r5 : Code := match Try.f29.body with
  | some (.seq _ (.block _ (.loop (.seq _ (.seq (.block _ (.seq _ (.block _ (.loop (.seq _ (.seq _ c)))))) _))))) => c
  | _ => .skip
noncomputable def r2 : Code := match Try.f29.body with
  | some (.seq _ (.block _ (.loop (.seq _ (.seq _ c))))) => c
  | _ => .skip
theorem body_eq : Try.f29.body = some (.seq r0 (.block 0 (.loop (.seq hd1 (.seq (.block 1 (.seq r3 (.block 2 (.loop (.seq hd2 (.seq (.block 3 (.region 6 ops6 true)) r5)))))) r2))))) := by kernel_rfl
def S0 (n : Nat) (ms : Nat → Nat) (z : Nat → Nat → Int) (i : Nat) : St := ⟨[(0, rowA n ms z), (2, .int .i64 i)], []⟩
def S1 (n : Nat) (ms : Nat → Nat) (z : Nat → Nat → Int) (i k : Nat) : St := ⟨[(0, rowA n ms z), (2, .int .i64 i), (3, .int .i64 k)], []⟩
noncomputable def st16 (n : Nat) (ms : Nat → Nat) (z : Nat → Nat → Int) (i k : Nat) : St := match absP cS (ops6.toList.take 16) (S1 n ms z i k) with
  | some (s, _) => s
  | none => ⟨[], []⟩
theorem abs16 (n : Nat) (ms : Nat → Nat) (z : Nat → Nat → Int) (i k : Nat) : absP cS (ops6.toList.take 16) (S1 n ms z i k) = some (st16 n ms z i k, [inIx i n, inIx i n, inIx k (ms i)]) := by kernel_rfl
noncomputable def q36 : Oper := (ops6[16]?).getD default
noncomputable def q37 : Oper := (ops6[17]?).getD default
noncomputable def q38 : Oper := (ops6[18]?).getD default
theorem g16_0 (n : Nat) (ms : Nat → Nat) (z : Nat → Nat → Int) (i k : Nat) : get (st16 n ms z i k).env 0 = some (rowA n ms z) := by kernel_rfl
theorem g16_2 (n : Nat) (ms : Nat → Nat) (z : Nat → Nat → Int) (i k : Nat) : get (st16 n ms z i k).env 2 = some (.int .i64 i) := by kernel_rfl
theorem g16_3 (n : Nat) (ms : Nat → Nat) (z : Nat → Nat → Int) (i k : Nat) : get (st16 n ms z i k).env 3 = some (.int .i64 k) := by kernel_rfl
theorem g16_24 (n : Nat) (ms : Nat → Nat) (z : Nat → Nat → Int) (i k : Nat) : get (st16 n ms z i k).env 24 = some (.nseq anyN entSh (ms i) fun k => .agg [.any, .int .i64 (z i k)]) := by kernel_rfl
theorem g16_25 (n : Nat) (ms : Nat → Nat) (z : Nat → Nat → Int) (i k : Nat) : get (st16 n ms z i k).env 25 = some (.int .i64 k) := by kernel_rfl
theorem g16_35 (n : Nat) (ms : Nat → Nat) (z : Nat → Nat → Int) (i k : Nat) : get (st16 n ms z i k).env 35 = some (.int .i64 (IntKind.i64.wrap (z i k + 1))) := by kernel_rfl

section
variable {W0 : AV.Entry} {F0 : Nat → Prop} {a : Act} {w : World} {F : Nat → Prop} {φ : Nat → AV.Place}
theorem o36 : q36.op = .indexAddr 22 (.tmp 24) (.tmp 25) := by kernel_rfl
theorem o37 : q37.op = .fieldAddr 30 (.tmp 36) 1 := by kernel_rfl
theorem o38 : q38.op = .store 3 (.tmp 37) (.tmp 35) := by kernel_rfl
theorem d36 : q36.dst = some 36 := by kernel_rfl
theorem d37 : q37.dst = some 37 := by kernel_rfl
theorem d38 : q38.dst = none := by kernel_rfl
theorem n36 : q36.guard = none := by kernel_rfl
theorem n37 : q37.guard = none := by kernel_rfl
theorem n38 : q38.guard = none := by kernel_rfl
theorem st16_eq (n : Nat) (ms : Nat → Nat) (z : Nat → Nat → Int) (i k : Nat) : st16 n ms z i k = ⟨(st16 n ms z i k).env, []⟩ := by kernel_rfl
theorem ev_tmp {t : Nat} {v : Value} {b : Act} (h : b.tmps[t]? = some v) : b.eval (.tmp t) = v := by
  simp only [Act.eval, Array.getD_eq_getD_getElem?, h, Option.getD_some]
theorem put_tmp {b : Act} {t : Nat} {v : Value} (h : t < b.tmps.size) : (b.put (some t) v).tmps[t]? = some v := by simp [Act.put, h]
theorem int_keep {v : Value} {y : Int} {w w' : World} (hr : Rep w F φ v (.int .i64 y)) : Rep w' F φ v (.int .i64 y) := by
  have hr := hr.toS rfl
  cases hr with | int _ _ h => exact .stat (.int _ _ h)
theorem te22 : tyOf cS 22 = some ⟨.leaf, .nils, 24, .slice 30, false⟩ := rfl
theorem te30 : tyOf cS 30 = some ⟨entSh, .agg [.int .i64 0, .int .i64 0], 16, .struct [3, 3], true⟩ := rfl
theorem te3 : tyOf cS 3 = some ⟨.leaf, .int .i64 0, 8, .int .i64, false⟩ := rfl

theorem tail6 {n : Nat} {ms : Nat → Nat} {z : Nat → Nat → Int} {i k : Nat} {env : List (Nat × AV)} {a3 : Act} {g q : Nat} {cs : Array Value} {ty : TypeId} {y0 y1 : Int} {O : Array Oper} (hR3 : Rel cS W0 F0 ⟨env, []⟩ a3 w F φ) (hA : ∀ b, W0.A b = none) (hL : ∀ g, F0 g → W0.L g)
    (e0 : get env 0 = some (rowA n ms z)) (e2 : get env 2 = some (.int .i64 i)) (e3 : get env 3 = some (.int .i64 k)) (s37 : a3.tmps[37]? = some (.pointer (some ⟨g, q, none⟩))) (s35 : a3.tmps[35]? = some (.int .i64 y1)) (hF : F g) (hg : w.heap[g]? = some (.cells cs ty (0, 0)))
    (hq1 : q < cs.size) (hold : cs.getD q undef = .int .i64 y0) (hy : InR .i64 y1) : wpList Try.prog O (fun e a' w' => e = .normal ∧ ∃ z', Rel cS W0 F0 (S1 n ms z' i k) a' w' F φ) [q38] a3 w := by
  have run3 := run_store (C := cS) (a := a3) (w := w) cS_ok o38 te3 rfl (ev_tmp s37) hg hq1 (ev_tmp s35)
  unfold wpList
  rw [if_pos (by simp [Region.wanted, n38])]
  refine .inl ?_
  unfold Oper.wp
  rw [show (execOp a3.eval q38).run Try.prog w = _ from run3]
  show _ ∧ _
  rw [d38]
  refine ⟨rfl, ?_⟩
  have hcs : ∀ j, j < cs.size → ((cs.toList.take q ++ [Value.int .i64 y1] ++ cs.toList.drop (q + 1)).toArray).getD j undef = if j = q then .int .i64 y1 else cs.getD j undef := fun j hj => by
    have := splice_get (cur := cs) (new := #[Value.int .i64 y1]) (off := q) (n := 1) rfl (by omega) j
    rw [this]
    by_cases e : j = q
    · rw [if_pos (by omega), if_pos e, e, Nat.sub_self]; rfl
    · rw [if_neg (by omega), if_neg e]
  have hsz := splice_size (cur := cs) (new := #[Value.int .i64 y1]) (off := q) (n := 1) rfl (by omega)
  obtain ⟨v0, hv0, hr0⟩ := hR3.env 0 _ e0
  obtain ⟨v2, hv2, hr2⟩ := hR3.env 2 _ e2
  obtain ⟨v3, hv3, hr3⟩ := hR3.env 3 _ e3
  obtain ⟨z', hz'⟩ := rowA_turn (hr0.toS rfl) hg hsz hcs hold hy
  refine ⟨z', scr_rel hR3 rfl hA ((hR3.new g hF).elim (fun hf => .inr (hL g hf)) id) _ fun s x hs => ?_⟩
  simp only [AV.get] at hs
  split at hs
  · rename_i hb
    obtain rfl := Nat.eq_of_beq_eq_true hb
    cases hs
    exact ⟨v0, hv0, .stat hz'⟩
  split at hs
  · rename_i hb
    obtain rfl := Nat.eq_of_beq_eq_true hb
    cases hs
    exact ⟨v2, hv2, int_keep hr2⟩
  split at hs
  · rename_i hb
    obtain rfl := Nat.eq_of_beq_eq_true hb
    cases hs
    exact ⟨v3, hv3, int_keep hr3⟩
  · cases hs

theorem mid6 {n : Nat} {ms : Nat → Nat} {z : Nat → Nat → Int} {i k : Nat} {env : List (Nat × AV)} {a1 : Act} {O : Array Oper} (hR1 : Rel cS W0 F0 ⟨env, []⟩ a1 w F φ) (g0 : get env 0 = some (rowA n ms z)) (g2 : get env 2 = some (.int .i64 i)) (g3 : get env 3 = some (.int .i64 k)) (g24 : get env 24 = some (.nseq anyN entSh (ms i) fun k => .agg [.any, .int .i64 (z i k)])) (g25 : get env 25 = some (.int .i64 k)) (g35 : get env 35 = some (.int .i64 (IntKind.i64.wrap (z i k + 1)))) (hA : ∀ b, W0.A b = none) (hL : ∀ g, F0 g → W0.L g) (hk : k < ms i) :
    wpStill Try.prog O w (fun a' => wpList Try.prog O (fun e a' w' => e = .normal ∧ ∃ z', Rel cS W0 F0 (S1 n ms z' i k) a' w' F φ) [q38] a' w) [q36, q37] a1 := by
  obtain ⟨v24, hv24, hr24⟩ := hR1.env 24 _ g24
  obtain ⟨v25, hv25, hr25⟩ := hR1.env 25 _ g25
  obtain ⟨v35, hv35, hr35⟩ := hR1.env 35 _ g35
  have hr24 := hr24.toS rfl
  have hr25 := hr25.toS rfl
  have hr35 := hr35.toS rfl
  obtain ⟨g, o, cap, csi, cs, ty, rfl, hF, hg, hcell, hint⟩ : ∃ g o cap, ∃ csi : Nat → Nat → Value, ∃ cs ty, v24 = .slice (some ⟨g, o, none⟩) (ms i) cap ∧ F g ∧ w.heap[g]? = some (.cells cs ty (0, 0)) ∧ w.cell? ⟨g, o + (k * 2 + 1), none⟩ = some (csi k 1) ∧ RepS w F (csi k 1) (.int .i64 (z i k)) := by
    generalize ms i = m at hr24 hk
    generalize hf : (fun k => AV.agg [.any, .int .i64 (z i k)]) = f at hr24
    cases hr24 with
    | nseq0 => omega
    | nseq _ g o _ cap _ _ csi hFi hNi hbi hni hci hri =>
      subst hf
      obtain ⟨cs, ty, hb⟩ := hbi
      exact ⟨g, o, cap, csi, cs, ty, rfl, hFi, hb, hci k hk 1 (by decide), hri k hk 1 (by decide)⟩
  obtain ⟨y0, hy0⟩ : ∃ y0, csi k 1 = .int .i64 y0 := by
    generalize csi k 1 = u at hint
    cases hint with | int => exact ⟨_, rfl⟩
  obtain rfl : v25 = .int .i64 (k : Int) := by cases hr25; rfl
  obtain ⟨rfl, hin⟩ : v35 = .int .i64 (IntKind.i64.wrap (z i k + 1)) ∧ InR .i64 (IntKind.i64.wrap (z i k + 1)) := by
    generalize IntKind.i64.wrap (z i k + 1) = y at hr35
    cases hr35 with | int _ _ h => exact ⟨rfl, h⟩
  have run1 := run_index (C := cS) (a := a1) (w := w) cS_ok o36 te22 rfl te30 (ev_tmp hv24) (ev_tmp hv25) (by omega) (by omega)
  refine still_one n36 run1 ?_
  rw [d36]
  have hR2 := hR1.putU 36 (.pointer (some ⟨g, o + (k : Int).toNat * entSh.size, none⟩))
  have s36 : (a1.put (some 36) (.pointer (some ⟨g, o + (k : Int).toNat * entSh.size, none⟩))).tmps[36]? = some (.pointer (some ⟨g, o + (k : Int).toNat * entSh.size, none⟩)) := by
    have hsz : a1.tmps.size = 38 := hR1.tsz
    simp [Act.put, hsz]
  generalize a1.put (some 36) (.pointer (some ⟨g, o + (k : Int).toNat * entSh.size, none⟩)) = a2 at hR2 s36
  have run2 := run_field (C := cS) (a := a2) (w := w) cS_ok o37 te30 rfl (by decide) rfl (ev_tmp s36)
  refine still_one n37 run2 ?_
  rw [d37]
  have hoff : o + (k : Int).toNat * entSh.size + Shape.sizes (List.take 1 [Shape.leaf, Shape.leaf]) = o + (k * 2 + 1) := by
    rw [Int.toNat_natCast]; show o + k * 2 + 1 = _; omega
  rw [hoff]
  have hR3 := hR2.putU 37 (.pointer (some ⟨g, o + (k * 2 + 1), none⟩))
  have s37 : (a2.put (some 37) (.pointer (some ⟨g, o + (k * 2 + 1), none⟩))).tmps[37]? = some (.pointer (some ⟨g, o + (k * 2 + 1), none⟩)) := by
    have hsz : a2.tmps.size = 38 := hR2.tsz
    simp [Act.put, hsz]
  generalize a2.put (some 37) (.pointer (some ⟨g, o + (k * 2 + 1), none⟩)) = a3 at hR3 s37
  have s35 : a3.tmps[35]? = some (.int .i64 (IntKind.i64.wrap (z i k + 1))) := by
    obtain ⟨v, hv, hr⟩ := hR3.env 35 _ (by rw [get_del_other _ _ _ (by decide), get_del_other _ _ _ (by decide)]; exact g35)
    have hr := hr.toS rfl
    generalize IntKind.i64.wrap (z i k + 1) = y at hr ⊢
    cases hr
    exact hv
  obtain ⟨hq1, hq2⟩ := cell_inv hg hcell
  exact tail6 hR3 hA hL (by rw [get_del_other _ _ _ (by decide), get_del_other _ _ _ (by decide)]; exact g0) (by rw [get_del_other _ _ _ (by decide), get_del_other _ _ _ (by decide)]; exact g2) (by rw [get_del_other _ _ _ (by decide), get_del_other _ _ _ (by decide)]; exact g3) s37 s35 hF hg hq1 (by rw [← hq2, hy0]) hin

theorem region6 {n : Nat} {ms : Nat → Nat} {z : Nat → Nat → Int} {i k : Nat} (h : Rel cS W0 F0 (S1 n ms z i k) a w F φ) (hA : ∀ b, W0.A b = none) (hL : ∀ g, F0 g → W0.L g) (hi : i < n) (hk : k < ms i) :
    (Code.region 6 ops6 true).wp Try.prog (fun e a' w' => e = .normal ∧ ∃ z', Rel cS W0 F0 (S1 n ms z' i k) a' w' F φ) a w := by
  have hd : Rel cS W0 F0 (S1 n ms z i k) a (w.drewN 1) F φ := h.drewN 1
  rw [show ops6 = ops6.toList.toArray from by simp]
  refine wp_region_still_tail (l := ops6.toList) 18 (by kernel_rfl) (by kernel_rfl) ?_
  rw [show ops6.toList.take 18 = ops6.toList.take 16 ++ [q36, q37] from by kernel_rfl, show ops6.toList.drop 18 = [q38] from by kernel_rfl]
  refine wpStill_append _ _ ?_
  refine still_pure (C := cS) cS_ok _ _ _ _ _ hd (abs16 n ms z i k) (fun p hp => ?_) fun a1 hR1 => mid6 (st16_eq n ms z i k ▸ hR1) (g16_0 n ms z i k) (g16_2 n ms z i k) (g16_3 n ms z i k) (g16_24 n ms z i k) (g16_25 n ms z i k) (g16_35 n ms z i k) hA hL hk
  simp only [List.mem_cons, List.not_mem_nil, or_false] at hp
  have e1 : inIx (i : Int) n := ⟨by omega, by omega⟩
  have e2 : inIx (k : Int) (ms i) := ⟨by omega, by omega⟩
  rcases hp with rfl | rfl | rfl
  · exact e1
  · exact e1
  · exact e2
end
end Go.Proofs.S24
