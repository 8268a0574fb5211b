/- Built structs and rows, lengths, least and greatest, copies. -/
import Derived.Test.YtmlgkljbhidlhaaAvSound7
import Derived.Great.BuildSlice
namespace Go.AV
open Go.RowKit

section
variable {C : Cfg} {W0 : Entry} {F0 : Nat → Prop} {st st' : St} {a : Act} {w : World} {F : Nat → Prop} {φ : Nat → Place} {e : Operand → Option AV} {dst : Option Nat} {orc : FuncId → List AV → Option AV} {CC : FuncId → List AV → AV → Prop} {r : Res} {o : Oper}
  {next : Act → World → Prop} {Q : Exit → Act → World → Prop}

/-- One part goes in. -/
theorem fill_step (place : Nat → Option (Nat × Nat)) (cells : Array Value) (i off size : Nat) (v : Value) (rest : List (Nat × Value)) (hp : place i = some (off, size)) (hv : v.cells.size = size) (hl : off + size ≤ cells.size) :
    ∃ cells', Instr.fill place cells ((i, v) :: rest) = Instr.fill place cells' rest ∧ cells'.size = cells.size ∧
      ∀ k, k < cells.size → cells'.getD k undef = if off ≤ k ∧ k < off + size then v.cells.getD (k - off) undef else cells.getD k undef := by
  obtain ⟨h1, h2⟩ := Great.foldl_set off v.cells.toList 0 cells
  refine ⟨_, ?_, h1, fun k hk => ?_⟩
  · rw [Instr.fill, hp]
    simp only [hv, ne_eq, not_true_eq_false, decide_false, Bool.false_or, gt_iff_lt, decide_eq_true_eq]
    rw [if_neg (by simp; omega)]
    congr 1
    rw [← Array.foldl_toList, Array.toList_zipIdx]
  · rw [Array.getD_eq_getD_getElem?, h2 k]
    simp only [Nat.add_zero, Array.length_toList, hv]
    by_cases hc : off ≤ k ∧ k < off + size
    · rw [if_pos ⟨hc.1, hc.2, hk⟩, if_pos hc, Array.getElem?_toList, Array.getD_eq_getD_getElem?]
    · rw [if_neg (fun h => hc ⟨h.1, h.2.1⟩), if_neg hc, Array.getD_eq_getD_getElem?]

theorem fill_struct {ss : List Shape} {place : Nat → Option (Nat × Nat)} (hpl : ∀ i s, ss[i]? = some s → place i = some (Shape.sizes (ss.take i), s.size)) :
    ∀ (l : List (Nat × Operand)) (ps : List (Nat × AV)) (zs ys : List AV) (cells : Array Value), evParts e l = some ps → setPart ss zs ps = some ys → (∀ p ∈ l, ∀ u, e p.2 = some u → Rep w F φ (a.eval p.2) u) → cells.size = Shape.sizes ss → zs.length = ss.length →
    (∀ k, k < Shape.sizes ss → Rep w F φ (cells.getD k undef) (leafsAt ss zs k)) →
    ∃ cells', Instr.fill place cells (l.map fun p => (p.1, a.eval p.2)) = some cells' ∧ cells'.size = Shape.sizes ss ∧ ∀ k, k < Shape.sizes ss → Rep w F φ (cells'.getD k undef) (leafsAt ss ys k)
  | [], ps, zs, ys, cells, h1, h2, _, hs, _, hr => by
    simp [evParts] at h1; subst h1
    simp [setPart] at h2; subst h2
    exact ⟨cells, by simp [Instr.fill], hs, hr⟩
  | (i, x) :: l, ps, zs, ys, cells, h1, h2, hx, hs, hz, hr => by
    simp only [evParts] at h1
    split at h1
    case h_2 => cases h1
    rename_i v vs hv hvs
    cases h1
    simp only [setPart] at h2
    split at h2
    case h_2 => cases h2
    rename_i s hsi
    split at h2
    case h_2 => cases h2
    rename_i y hy
    obtain ⟨u1, u2⟩ := unw_rep hy (hx (i, x) (by simp) v hv)
    have hsz := sizes_take_get hsi
    obtain ⟨cells', f1, f2, f3⟩ := fill_step place cells i _ _ (a.eval x) (l.map fun p => (p.1, a.eval p.2)) (hpl i s hsi) u1 (by omega)
    obtain ⟨c2, g1, g2, g3⟩ := fill_struct hpl l vs (zs.set i y) ys cells' hvs h2 (fun p hp => hx p (by simp [hp])) (f2.trans hs) (by simpa using hz) (fun k hk => by
      rw [f3 k (by omega), leafsAt_set hsi y k (by rw [hz]; exact (List.getElem?_eq_some_iff.1 hsi).1)]
      by_cases hc : Shape.sizes (ss.take i) ≤ k ∧ k < Shape.sizes (ss.take i) + s.size
      · rw [if_pos hc, if_pos hc]; exact u2 _ (by omega)
      · rw [if_neg hc, if_neg hc]; exact hr k hk)
    exact ⟨c2, by rw [List.map_cons, f1]; exact g1, g2, g3⟩

theorem setElems_len {s : Shape} {len : Nat} : ∀ (ps : List (Nat × AV)) (zs ys : List AV), setElems s len zs ps = some ys → ys.length = zs.length
  | [], zs, ys, h => by simp [setElems] at h; rw [h]
  | (i, v) :: l, zs, ys, h => by
    simp only [setElems] at h
    split at h
    case h_2 => cases h
    split at h
    case h_2 => cases h
    rw [setElems_len l _ ys h, List.length_set]

theorem fill_elems {s : Shape} {len : Nat} :
    ∀ (l : List (Nat × Operand)) (ps : List (Nat × AV)) (zs ys : List AV) (cells : Array Value), evParts e l = some ps → setElems s len zs ps = some ys → (∀ p ∈ l, ∀ u, e p.2 = some u → Rep w F φ (a.eval p.2) u) → cells.size = len * s.size → zs.length = len →
    (∀ i, i < len → ∀ j, j < s.size → RepS w F (cells.getD (i * s.size + j) undef) (leafAt s (zs.getD i .any) j)) →
    ∃ cells', Instr.fill (fun i => some (i * s.size, s.size)) cells (l.map fun p => (p.1, a.eval p.2)) = some cells' ∧ cells'.size = len * s.size ∧ ∀ i, i < len → ∀ j, j < s.size → RepS w F (cells'.getD (i * s.size + j) undef) (leafAt s (ys.getD i .any) j)
  | [], ps, zs, ys, cells, h1, h2, _, hs, _, hr => by
    simp [evParts] at h1; subst h1
    simp [setElems] at h2; subst h2
    exact ⟨cells, by simp [Instr.fill], hs, hr⟩
  | (i, x) :: l, ps, zs, ys, cells, h1, h2, hx, hs, hz, hr => by
    simp only [evParts] at h1
    split at h1
    case h_2 => cases h1
    rename_i v vs hv hvs
    cases h1
    simp only [setElems] at h2
    split at h2
    case h_2 => cases h2
    rename_i y hy
    split at h2
    case h_2 => cases h2
    rename_i hc
    simp only [Bool.and_eq_true] at hc
    have hi : i < len := by have := hc.2; simp [Nat.blt] at this; omega
    obtain ⟨u1, u2⟩ := unw_rep hy (hx (i, x) (by simp) v hv)
    have hmul : (i + 1) * s.size ≤ len * s.size := Nat.mul_le_mul_right _ hi
    rw [Nat.add_mul] at hmul
    obtain ⟨cells', f1, f2, f3⟩ := fill_step (fun i => some (i * s.size, s.size)) cells i _ _ (a.eval x) (l.map fun p => (p.1, a.eval p.2)) rfl u1 (by omega)
    obtain ⟨c2, g1, g2, g3⟩ := fill_elems l vs (zs.set i y) ys cells' hvs h2 (fun p hp => hx p (by simp [hp])) (f2.trans hs) (by simpa using hz) (fun k hk j hj => by
      have hk2 : (k + 1) * s.size ≤ len * s.size := Nat.mul_le_mul_right _ hk
      rw [Nat.add_mul] at hk2
      rw [f3 _ (by omega)]
      by_cases hki : k = i
      · subst hki
        rw [if_pos (by omega), show k * s.size + j - k * s.size = j from by omega]
        have : (zs.set k y).getD k .any = y := by simp [hz, hk]
        rw [this]
        exact (u2 j hj).toS (stat_leafAt s y j hc.1)
      · have : (zs.set i y).getD k .any = zs.getD k .any := by simp [List.getElem?_set, Ne.symm hki]
        rw [this, if_neg]
        · exact hr k hk j hj
        · intro ⟨h5, h6⟩
          rcases Nat.lt_or_gt_of_ne hki with h7 | h7
          · have : (k + 1) * s.size ≤ i * s.size := Nat.mul_le_mul_right _ h7
            rw [Nat.add_mul] at this; omega
          · have : (i + 1) * s.size ≤ k * s.size := Nat.mul_le_mul_right _ h7
            rw [Nat.add_mul] at this; omega)
    exact ⟨c2, by rw [List.map_cons, f1]; exact g1, g2, g3⟩

theorem places_ok (hT : TysOK C) : ∀ fs : List Field, (∀ f ∈ fs, ∃ te, tyOf C f.type = some te) →
    ∃ places, fs.mapM (fun f => (C.P.info? f.type).map fun i => (f.offset, i.size)) = some places ∧ places.length = fs.length ∧ ∀ (i : Nat) (f : Field), fs[i]? = some f → ∃ te, tyOf C f.type = some te ∧ places[i]? = some (f.offset, te.sh.size)
  | [], _ => ⟨[], rfl, rfl, fun i f h => by simp at h⟩
  | g :: fs, h => by
    obtain ⟨te, hte⟩ := h g (by simp)
    obtain ⟨d, i, z, _, hi, hs, _⟩ := (hT _ _ hte).info
    obtain ⟨places, h1, h2, h3⟩ := places_ok hT fs fun f hf => h f (by simp [hf])
    refine ⟨(g.offset, te.sh.size) :: places, by simp [List.mapM_cons, hi, h1, hs], by simp [h2], fun j f hj => ?_⟩
    cases j with
    | zero => simp at hj; subst hj; exact ⟨te, hte, rfl⟩
    | succ j => simpa using h3 j f (by simpa using hj)

theorem parts_map (parts : Array (Nat × Operand)) : (parts.map fun (i, x) => (i, a.eval x)).toList = parts.toList.map fun p => (p.1, a.eval p.2) := by simp

theorem pure_build {t : TypeId} {parts : Array (Nat × Operand)} (hT : TysOK C) (ho : o.op = .build t parts) (hr : absOp C st e dst orc CC (.build t parts) = some r)
    (hx : ∀ p ∈ parts.toList, ∀ u, e p.2 = some u → Rep w F φ (a.eval p.2) u) : PureOK C o a w F φ r := by
  simp only [absOp] at hr
  split at hr
  case h_2 => cases hr
  rename_i te ps h1 h2
  have T := hT _ _ h1
  obtain ⟨d, i, z, hd, hi, hs, hb, hz, hzs, hk, hzr⟩ := T.info
  split at hr
  · rename_i ss zs hsh hzero
    split at hr
    case h_2 => cases hr
    rename_i ys hys hlen
    cases hr
    have hstruct : ∃ fields : Array Field, ss.length = fields.size ∧ d = .struct fields ∧ ∀ i : Nat, ∀ f : Field, fields[i]? = some f → ∃ te, tyOf C f.type = some te ∧ ss[i]? = some te.sh ∧ f.offset = Shape.sizes (ss.take i) ∧ f.name ≠ "_" := by
      rw [hsh] at hk
      cases hkk : te.kind <;> rw [hkk] at hk <;> simp only [kindIs] at hk
      all_goals first
        | (obtain ⟨_, h⟩ := hk; cases h; done)
        | (obtain ⟨_, _, _, h⟩ := hk; cases h; done)
        | (obtain ⟨h, _⟩ := hk; cases h; done)
        | skip
      obtain ⟨fields, ss', rfl, hss, hl1, hl2, hf⟩ := hk
      cases hss
      exact ⟨fields, by rw [hl1, hl2]; simp, rfl, hf⟩
    obtain ⟨fields, hlenf, rfl, hf'⟩ := hstruct
    rw [hsh] at hzs hzr
    rw [hzero] at hzr
    simp only [Shape.size] at hzs hzr
    obtain ⟨places, p1, p2, p3⟩ := places_ok hT fields.toList fun f hf => by
      obtain ⟨j, hj⟩ := List.mem_iff_getElem?.1 hf
      obtain ⟨te', h, _⟩ := hf' j f (by simpa using hj)
      exact ⟨te', h⟩
    have hpl : ∀ (i : Nat) (s : Shape), ss[i]? = some s → places[i]? = some (Shape.sizes (ss.take i), s.size) := by
      intro i s his
      have hlt : i < fields.size := by
        have := (List.getElem?_eq_some_iff.1 his).1
        omega
      obtain ⟨tf, a1, a2, a3, _⟩ := hf' i fields[i] (by simp [hlt])
      obtain ⟨tf', b1, b2⟩ := p3 i fields[i] (by simp [hlt])
      rw [a1] at b1; cases b1
      rw [his] at a2; cases a2
      rw [b2, a3]
    obtain ⟨cells, f1, f2, f3⟩ := fill_struct (w := w) (F := F) (φ := φ) (a := a) (place := (places.toArray[·]?)) (by simpa using hpl) parts.toList ps zs ys z.cells h2 hys hx hzs (Nat.eq_of_beq_eq_true hlen) (fun k hk => .stat (hzr k hk).rep)
    have hb' : C.P.built t (parts.map fun (i, x) => (i, a.eval x)).toList = some cells := by
      unfold Program.built
      rw [hi, hd, parts_map]
      simp only [hz, p1]
      exact f1
    refine ⟨rfl, .agg cells, ?_, .mc _ _ _ f2 f3⟩
    simp only [execOp, ho]
    exact run_value (run_build w t _ cells hb')
  · rename_i n s m f hsh hzero
    split at hr
    case h_2 => cases hr
    rename_i ys hys
    cases hr
    have harr : ∃ el tl, d = .array n el ∧ tyOf C el = some tl ∧ s = tl.sh := by
      rw [hsh] at hk
      cases hkk : te.kind <;> rw [hkk] at hk <;> simp only [kindIs] at hk
      all_goals first
        | (obtain ⟨_, h⟩ := hk; cases h; done)
        | (obtain ⟨_, _, _, h, _⟩ := hk; cases h; done)
        | (obtain ⟨h, _⟩ := hk; cases h; done)
        | skip
      obtain ⟨rfl, tl, htl, hs⟩ := hk
      cases hs
      exact ⟨_, tl, rfl, htl, rfl⟩
    obtain ⟨el, tl, rfl, htl, rfl⟩ := harr
    have Tl := hT _ _ htl
    obtain ⟨_, ie, _, _, hie, hse, _⟩ := Tl.info
    rw [hsh] at hzs hzr
    rw [hzero] at hzr
    simp only [Shape.size] at hzs hzr
    have hpos := Tl.pos
    obtain ⟨cells, f1, f2, f3⟩ := fill_elems (w := w) (F := F) (φ := φ) (a := a) parts.toList ps ((List.range n).map f) ys z.cells h2 hys hx hzs (by simp) (fun i hi j hj => by
      have hmul : (i + 1) * tl.sh.size ≤ n * tl.sh.size := Nat.mul_le_mul_right _ hi
      rw [Nat.add_mul] at hmul
      have := (hzr (i * tl.sh.size + j) (by omega)).rep (w := w) (F := F)
      simp only [leafAt] at this
      rw [Nat.mul_comm i, Nat.mul_add_div hpos, Nat.mul_add_mod, Nat.div_eq_of_lt hj, Nat.mod_eq_of_lt hj, Nat.add_zero] at this
      rw [Nat.mul_comm i]
      have hg : ((List.range n).map f).getD i .any = f i := by simp [hi]
      rw [hg]
      exact this.strip (.st (.refl _)))
    have hb' : C.P.built t (parts.map fun (i, x) => (i, a.eval x)).toList = some cells := by
      unfold Program.built
      rw [hi, hd, parts_map]
      simp only [hz, hie, hse]
      exact f1
    refine ⟨rfl, .agg cells, ?_, .stat (.mc _ _ _ f2 fun k hk => ?_)⟩
    · simp only [execOp, ho]
      exact run_value (run_build w t _ cells hb')
    · simp only [Shape.size] at hk
      simp only [leafAt]
      have hkn := (Nat.div_lt_iff_lt_mul hpos).2 hk
      have := f3 (k / tl.sh.size) hkn (k % tl.sh.size) (Nat.mod_lt _ hpos)
      have hlen : ys.length = n := by rw [setElems_len _ _ _ hys]; simp
      have hgd : ys.getD (k / tl.sh.size) .any = ys.getD (k / tl.sh.size) (f 0) := by simp [List.getD_eq_getElem?_getD, List.getElem?_eq_getElem (hlen ▸ hkn)]
      rw [hgd] at this
      rw [Nat.mul_comm (k / tl.sh.size), Nat.div_add_mod] at this
      exact .st this
  · cases hr
end
end Go.AV
