/- Cuts of strings and rows, lengths, least and greatest, built structs. -/
import Derived.Test.YtmlgkljbhidlhaaAvSound5
import Derived.Lib.Strings
namespace Go.AV
open Go.RowKit

section
variable {C : Cfg} {W0 : Entry} {F0 : Nat → Prop} {st : St} {a : Act} {w : World} {F : Nat → Prop} {φ : Nat → Place} {e : Operand → Option AV} {dst : Option Nat} {orc : FuncId → List AV → Option AV} {CC : FuncId → List AV → AV → Prop} {r : Res} {o : Oper}

/-- A bound that is there, or not. -/
def BoundIs (x : Option Value) (d i : Int) : Prop := (x = none ∧ i = d) ∨ ∃ k, x = some (.int k i)

theorem bound_spec {x : Option Operand} {d i : Int} (h : bndOf e d x = some i) (hx : ∀ y ∈ x.toList, ∀ u, e y = some u → Rep w F φ (a.eval y) u) : BoundIs (x.map a.eval) d i := by
  cases x with
  | none => simp [bndOf] at h; exact .inl ⟨rfl, h.symm⟩
  | some y =>
    obtain ⟨k, hk⟩ := ix_spec (x := y) h (hx y (by simp))
    exact .inr ⟨k, by simp [hk]⟩

theorem run_bound {P : Program} {k : IntKind} {i : Int} {y : Nat} {code : BoundsCode} (h0 : 0 ≤ i) (h1 : i ≤ (y : Int)) : (Instr.sliceBound (.int k i) y code).run P w = .ok i.toNat w := by
  simp [Instr.sliceBound, asIntOf, h0, h1]

theorem run_bounds {P : Program} {isSlice : Bool} {len cap : Nat} {lo hi : Option Value} {l h : Int} (hlo : BoundIs lo 0 l) (hhi : BoundIs hi len h) (h0 : 0 ≤ l) (h1 : l ≤ h) (h2 : h ≤ (cap : Int)) :
    (Instr.sliceBounds isSlice len cap lo hi none).run P w = .ok (l.toNat, h.toNat, cap) w := by
  have b1 := fun k code => run_bound (w := w) (P := P) (k := k) (i := l) (y := h.toNat) (code := code) h0 (by omega)
  have b2 := fun k code => run_bound (w := w) (P := P) (k := k) (i := h) (y := cap) (code := code) (by omega) h2
  rcases hlo with ⟨rfl, rfl⟩ | ⟨k, rfl⟩ <;> rcases hhi with ⟨rfl, rfl⟩ | ⟨k', rfl⟩ <;> (try simp only [Int.toNat_natCast] at b1 b2)
  · simp [Instr.sliceBounds]
  · simp [Instr.sliceBounds, b2]
  · simp [Instr.sliceBounds, b1]
  · simp [Instr.sliceBounds, b1, b2]

theorem run_bounds3 {P : Program} {len cap : Nat} {lo : Option Value} {k' km : IntKind} {l h m : Int} (hlo : BoundIs lo 0 l) (h0 : 0 ≤ l) (h1 : l ≤ h) (h2 : h ≤ m) (h3 : m ≤ (cap : Int)) :
    (Instr.sliceBounds true len cap lo (some (.int k' h)) (some (.int km m))).run P w = .ok (l.toNat, h.toNat, m.toNat) w := by
  have b1 := fun k code => run_bound (w := w) (P := P) (k := k) (i := l) (y := h.toNat) (code := code) h0 (by omega)
  have b2 := fun k code => run_bound (w := w) (P := P) (k := k) (i := h) (y := m.toNat) (code := code) (by omega) (by omega)
  have b3 := fun k code => run_bound (w := w) (P := P) (k := k) (i := m) (y := cap) (code := code) (by omega) h3
  rcases hlo with ⟨rfl, rfl⟩ | ⟨k, rfl⟩
  · simp [Instr.sliceBounds, b2, b3]
  · simp [Instr.sliceBounds, b1, b2, b3]

theorem sliceAt_slice {P : Program} {t : TypeId} {d : TypeDesc} (hd : P.underlying t = some d) (hn : descAgg d = false) (x : Value) (lo hi mx : Option Value) : (Instr.sliceAt t x lo hi mx).run P w = (Instr.slice t x lo hi mx).run P w := by
  simp only [Instr.sliceAt, Sem.run_bind, run_underlying hd, Result.andThen_ok]
  cases d <;> first | rfl | simp [descAgg] at hn

theorem cut_rep {A : Option Addr} {n cap m : Nat} {sh : Shape} {f : Nat → AV} {l h : Int} (hcells : 0 < n → n ≤ cap ∧ ∃ g o, ∃ cs : Nat → Nat → Value, A = some ⟨g, o, none⟩ ∧ F g ∧ (∀ i, i < n → ∀ j, j < sh.size → w.cell? ⟨g, o + (i * sh.size + j), none⟩ = some (cs i j)) ∧
      (∀ i, i < n → ∀ j, j < sh.size → RepS w F (cs i j) (leafAt sh (f i) j))) (h0 : 0 ≤ l) (h1 : l ≤ h) (h2 : h ≤ (n : Int)) (hm : h.toNat ≤ m) :
    RepS w F (.slice (if m = l.toNat then A else A.map (·.add (l.toNat * sh.size))) (h.toNat - l.toNat) (m - l.toNat)) (.seq sh (h - l).toNat (fun i => f (l.toNat + i))) ∧
    (m = h.toNat → RepS w F (.slice (if m = l.toNat then A else A.map (·.add (l.toNat * sh.size))) (h.toNat - l.toNat) (m - l.toNat)) (.seqc sh (h - l).toNat (fun i => f (l.toNat + i)))) := by
  have en : (h - l).toNat = h.toNat - l.toNat := by omega
  rw [en]
  by_cases hz : h.toNat - l.toNat = 0
  · rw [hz]
    refine ⟨.seq0 _ _ _ _, fun hm' => ?_⟩
    rw [show m - l.toNat = 0 from by omega]
    exact .seqc0 _ _ _
  · obtain ⟨hn, g, o', cs, rfl, hF, hc, hr⟩ := hcells (by omega)
    rw [if_neg (by omega)]
    simp only [Option.map_some, add_none]
    have c1 : ∀ i, i < h.toNat - l.toNat → ∀ j, j < sh.size → w.cell? ⟨g, o' + l.toNat * sh.size + (i * sh.size + j), none⟩ = some (cs (l.toNat + i) j) := by
      intro i hi j hj
      have := hc (l.toNat + i) (by omega) j hj
      rw [Nat.add_mul] at this
      rw [show o' + l.toNat * sh.size + (i * sh.size + j) = o' + (l.toNat * sh.size + i * sh.size + j) from by omega]
      exact this
    have c2 : ∀ i, i < h.toNat - l.toNat → ∀ j, j < sh.size → RepS w F (cs (l.toNat + i) j) (leafAt sh (f (l.toNat + i)) j) := fun i hi j hj => hr (l.toNat + i) (by omega) j hj
    refine ⟨.seq g _ _ _ sh _ (fun i => cs (l.toNat + i)) hF (by omega) c1 c2, fun hm' => ?_⟩
    rw [show m - l.toNat = h.toNat - l.toNat from by omega]
    exact .seqc g _ _ sh _ (fun i => cs (l.toNat + i)) hF c1 c2

theorem pure_slice {t : TypeId} {x : Operand} {lo hi mx : Option Operand} (h : Rel C W0 F0 st a w F φ) (hT : TysOK C) (ho : o.op = .slice t x lo hi mx) (hr : absOp C st e dst orc CC (.slice t x lo hi mx) = some r)
    (hx : ∀ u, e x = some u → Rep w F φ (a.eval x) u) (hlo : ∀ y ∈ lo.toList, ∀ u, e y = some u → Rep w F φ (a.eval y) u) (hhi : ∀ y ∈ hi.toList, ∀ u, e y = some u → Rep w F φ (a.eval y) u)
    (hmx : ∀ y ∈ mx.toList, ∀ u, e y = some u → Rep w F φ (a.eval y) u) (hob : ∀ p ∈ r.obs, p) : PureOK C o a w F φ r := by
  simp only [absOp] at hr
  split at hr
  case h_2 => cases hr
  rename_i te v h1 h2
  have T := hT _ _ h1
  have hrep := hx _ h2
  split at hr
  · rename_i hkind
    have hd := kind_string T hkind
    split at hr
    case h_2 => cases hr
    rename_i l
    split at hr
    case h_2 => cases hr
    rename_i p q hp hq
    cases hr
    obtain ⟨s, hv, rfl⟩ := hrep.str_inv
    have hl : s.data.toList.length = s.size := by rw [Array.length_toList]; rfl
    obtain ⟨b0, b1, b2⟩ : 0 ≤ p ∧ p ≤ q ∧ q ≤ (s.data.toList.length : Int) := hob _ (by simp)
    rw [hl] at b2 hq
    refine ⟨rfl, .string (s.extract p.toNat q.toNat), ?_, ?_⟩
    · simp only [execOp, ho]
      refine run_value ?_
      rw [sliceAt_slice hd rfl]
      simp only [Option.map_none, Instr.slice, Sem.run_bind, run_underlying hd, Result.andThen_ok, hv, Option.isSome_none, Bool.false_eq_true, if_false, Sem.run_pure,
        run_bounds (bound_spec hp hlo) (bound_spec hq hhi) b0 b1 b2]
    · have : (s.data.toList.drop p.toNat).take (q - p).toNat = (s.extract p.toNat q.toNat).data.toList := by
        rw [Lib.extract_data, show (q - p).toNat = q.toNat - p.toNat from by omega]
      simp only [this]
      exact .stat (.str _)
  · rename_i el hkind
    have hd := kind_slice T hkind
    have run2 : ∀ {tl : TyE} {A : Option Addr} {n cap : Nat} {p q : Int}, tyOf C el = some tl → a.eval x = .slice A n cap → BoundIs (lo.map a.eval) 0 p → BoundIs (hi.map a.eval) n q → mx = none → 0 ≤ p → p ≤ q → q ≤ (cap : Int) →
        (execOp a.eval o).run C.P w = .ok (.value (.slice (if cap = p.toNat then A else A.map (·.add (p.toNat * tl.sh.size))) (q.toNat - p.toNat) (cap - p.toNat))) w := by
      intro tl A n cap p q htl hv bl bh hm b0 b1 b2
      subst hm
      simp only [execOp, ho]
      refine run_value ?_
      rw [sliceAt_slice hd rfl]
      simp only [Option.map_none, Instr.slice, Sem.run_bind, run_underlying hd, Result.andThen_ok, hv, Sem.run_pure, run_bounds bl bh b0 b1 b2, (hT _ _ htl).size]
    split at hr
    · rename_i tl sh n f htl
      split at hr
      · rename_i p q hs hp hq
        cases hr
        have es := Shape.same_eq _ _ hs
        subst es
        obtain ⟨b0, b1, b2⟩ : 0 ≤ p ∧ p ≤ q ∧ q ≤ (n : Int) := hob _ (by simp)
        obtain ⟨A, cap, hv, hcells⟩ := Rep.seq_inv (.inl hrep)
        have hcap : q.toNat ≤ cap := by
          rcases Nat.eq_zero_or_pos n with h0 | h0
          · have : q.toNat = 0 := by omega
            omega
          · have := (hcells h0).1; omega
        exact ⟨rfl, _, run2 htl hv (bound_spec hp hlo) (bound_spec hq hhi) rfl b0 b1 (by omega), .stat (cut_rep hcells b0 b1 b2 hcap).1⟩
      · rename_i p q m hs hp hq
        split at hr
        case h_2 => cases hr
        rename_i mm hmm hsome
        cases hr
        have es := Shape.same_eq _ _ hs
        subst es
        obtain ⟨b0, b1, b2, b3⟩ : 0 ≤ p ∧ p ≤ q ∧ q ≤ (n : Int) ∧ mm = q := hob _ (by simp)
        subst b3
        obtain ⟨A, cap, hv, hcells⟩ := Rep.seq_inv (.inl hrep)
        have hcap : mm.toNat ≤ cap := by
          rcases Nat.eq_zero_or_pos n with h0 | h0
          · have : mm.toNat = 0 := by omega
            omega
          · have := (hcells h0).1; omega
        obtain ⟨km, hkm⟩ := ix_spec hmm (hmx m (by simp))
        have hhi' : ∃ kh, hi.map a.eval = some (.int kh mm) := by
          rcases bound_spec hq hhi with ⟨h3, h4⟩ | h3
          · rw [Option.map_eq_none_iff] at h3
            rw [h3] at hsome; cases hsome
          · exact h3
        obtain ⟨kh, hkh⟩ := hhi'
        refine ⟨rfl, _, ?_, .stat ((cut_rep (m := mm.toNat) hcells b0 b1 b2 (Nat.le_refl _)).2 rfl)⟩
        simp only [execOp, ho]
        refine run_value ?_
        rw [sliceAt_slice hd rfl]
        simp only [Option.map_some, Instr.slice, Sem.run_bind, run_underlying hd, Result.andThen_ok, hv, Sem.run_pure, hkm, hkh, run_bounds3 (bound_spec hp hlo) b0 b1 (Int.le_refl _) (show mm ≤ (cap : Int) by omega), (hT _ _ htl).size]
      · cases hr
    · rename_i tl b n htl
      split at hr
      case h_2 => cases hr
      rename_i ty sh n' f' hb
      split at hr
      case h_2 => cases hr
      rename_i q hs hp hq
      cases hr
      obtain ⟨b0, b1⟩ : 0 ≤ q ∧ q ≤ (n : Int) := hob _ (by simp)
      rcases hrep.own_inv with ⟨g, hg, hv, hn⟩ | ⟨hg, h0, hv⟩
      · refine ⟨rfl, _, run2 htl hv (bound_spec hp hlo) (bound_spec hq hhi) rfl (Int.le_refl _) b0 (by omega), ?_⟩
        have hA : (if (φ b).cap = (0 : Int).toNat then some (⟨g, 0, none⟩ : Addr) else (some (⟨g, 0, none⟩ : Addr)).map (·.add ((0 : Int).toNat * tl.sh.size))) = some ⟨g, 0, none⟩ := by
          split <;> simp [add_none]
        rw [hA]
        exact .own b g q.toNat hg (by omega)
      · subst h0
        have hq0 : q = 0 := by omega
        subst hq0
        refine ⟨rfl, _, run2 htl hv (bound_spec hp hlo) (bound_spec hq hhi) rfl (Int.le_refl _) (Int.le_refl _) (by simp), ?_⟩
        simp
        exact .own0 b hg
    · cases hr
  · cases hr
end
end Go.AV
