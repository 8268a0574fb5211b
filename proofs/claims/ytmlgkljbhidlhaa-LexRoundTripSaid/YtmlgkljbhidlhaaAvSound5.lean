/- Indexes, fields of values, slices of plain data, lengths, choices. -/
import Derived.Test.YtmlgkljbhidlhaaAvSound4
namespace Go.AV
open Go.RowKit

section
variable {C : Cfg} {W0 : Entry} {F0 : Nat → Prop} {st : St} {a : Act} {w : World} {F : Nat → Prop} {φ : Nat → Place} {e : Operand → Option AV} {dst : Option Nat} {orc : FuncId → List AV → Option AV} {CC : FuncId → List AV → AV → Prop} {r : Res} {o : Oper}

theorem ix_spec {x : Operand} {i : Int} (h : ixAV (e x) = some i) (hx : ∀ u, e x = some u → Rep w F φ (a.eval x) u) : ∃ k, a.eval x = .int k i := by
  unfold ixAV at h
  split at h
  · rename_i k n hn
    cases h
    exact ⟨k, (hx _ hn).int_inv.1⟩
  · cases h

/-- A slice value that reads as a row of plain data. -/
theorem Rep.seq_inv {v : Value} {sh : Shape} {n : Nat} {f : Nat → AV} (h : Rep w F φ v (.seq sh n f) ∨ Rep w F φ v (.seqc sh n f)) : ∃ A cap, v = .slice A n cap ∧
    (0 < n → n ≤ cap ∧ ∃ g o, ∃ cs : Nat → Nat → Value, A = some ⟨g, o, none⟩ ∧ F g ∧ (∀ i, i < n → ∀ j, j < sh.size → w.cell? ⟨g, o + (i * sh.size + j), none⟩ = some (cs i j)) ∧
      (∀ i, i < n → ∀ j, j < sh.size → RepS w F (cs i j) (leafAt sh (f i) j))) := by
  rcases h with h | h
  · cases h with
    | stat h =>
      cases h with
      | seq0 A cap => exact ⟨A, cap, rfl, fun h => absurd h (by omega)⟩
      | seq g o n cap sh f cs hF hn hc hr => exact ⟨_, cap, rfl, fun _ => ⟨hn, g, o, cs, rfl, hF, hc, hr⟩⟩
  · cases h with
    | stat h =>
      cases h with
      | seqc0 A => exact ⟨A, 0, rfl, fun h => absurd h (by omega)⟩
      | seqc g o n sh f cs hF hc hr => exact ⟨_, n, rfl, fun _ => ⟨Nat.le_refl _, g, o, cs, rfl, hF, hc, hr⟩⟩

theorem pure_indexAddr {t : TypeId} {x ix : Operand} (h : Rel C W0 F0 st a w F φ) (hT : TysOK C) (ho : o.op = .indexAddr t x ix) (hr : absOp C st e dst orc CC (.indexAddr t x ix) = some r)
    (hx : ∀ u, e x = some u → Rep w F φ (a.eval x) u) (hi : ∀ u, e ix = some u → Rep w F φ (a.eval ix) u) (hob : ∀ p ∈ r.obs, p) : PureOK C o a w F φ r := by
  simp only [absOp] at hr
  split at hr
  case h_2 => cases hr
  rename_i te v i h1 h2 h3
  have T := hT _ _ h1
  obtain ⟨k, hk⟩ := ix_spec h3 hi
  have hrep := hx _ h2
  split at hr
  · rename_i el hkind
    have hd := kind_slice T hkind
    split at hr
    case h_2 => cases hr
    rename_i tl htl
    have Tl := hT _ _ htl
    have run : ∀ g off n cap, a.eval x = .slice (some ⟨g, off, none⟩) n cap → 0 ≤ i → i < (n : Int) → (execOp a.eval o).run C.P w = .ok (.value (.pointer (some ⟨g, off + i.toNat * tl.sh.size, none⟩))) w := by
      intro g off n cap hv hi0 hin
      simp only [execOp, ho]
      refine run_value ?_
      simp only [Instr.indexAt, hk, asIntOf, Sem.run_bind, Sem.run_pure, Result.andThen_ok, run_underlying hd, hv, hi0, hin, and_self, if_true, Tl.size, add_none]
    have seqs : ∀ (sh : Shape) (n : Nat) (f : Nat → AV), (Rep w F φ (a.eval x) (.seq sh n f) ∨ Rep w F φ (a.eval x) (.seqc sh n f)) → sh = tl.sh → inIx i n → r = ⟨.rptr sh (f i.toNat), .none, [inIx i n]⟩ → PureOK C o a w F φ r := by
      intro sh n f hrep hsh hin hr
      subst hr hsh
      obtain ⟨A, cap, hv, hcells⟩ := Rep.seq_inv hrep
      obtain ⟨hi0, hin⟩ := hin
      obtain ⟨hn, g, off, cs, rfl, hF, hc, hrr⟩ := hcells (by omega)
      refine ⟨rfl, _, run g off n cap hv hi0 hin, .stat (.rptr g _ _ _ (cs i.toNat) hF (fun j hj => ?_) fun j hj => hrr _ (by omega) j hj)⟩
      rw [Nat.add_assoc]; exact hc _ (by omega) j hj
    split at hr
    · rename_i sh n f
      split at hr
      case h_2 => cases hr
      rename_i hs
      cases hr
      exact seqs sh n f (.inl hrep) (Shape.same_eq _ _ hs) (hob _ (by simp)) rfl
    · rename_i sh n f
      split at hr
      case h_2 => cases hr
      rename_i hs
      cases hr
      exact seqs sh n f (.inr hrep) (Shape.same_eq _ _ hs) (hob _ (by simp)) rfl
    · rename_i b n
      split at hr
      case h_2 => cases hr
      rename_i ty sh n' f' hb
      split at hr
      case h_2 => cases hr
      rename_i hs
      cases hr
      have hin : inIx i n := hob _ (by simp)
      have hsz := (h.heap b _ hb).1
      have es := Shape.same_eq _ _ hs
      rcases hrep.own_inv with ⟨g, hg, hv, _⟩ | ⟨_, h0, _⟩
      · refine ⟨rfl, _, run g 0 n _ hv hin.1 hin.2, ?_⟩
        have := Rep.optr (w := w) (F := F) (φ := φ) b g i.toNat [] hg (by simp [pathOK])
        rw [hsz, es] at this
        simpa [pathOff] using this
      · have := hin.2; have := hin.1; omega
    · cases hr
  · rename_i n el hkind
    obtain ⟨hd, tl, htl, hsh⟩ := kind_arr T hkind
    have Tl := hT _ _ htl
    have run : ∀ g off, a.eval x = .pointer (some ⟨g, off, none⟩) → 0 ≤ i → i < (n : Int) → (execOp a.eval o).run C.P w = .ok (.value (.pointer (some ⟨g, off + i.toNat * tl.sh.size, none⟩))) w := by
      intro g off hv hi0 hin
      simp only [execOp, ho]
      refine run_value ?_
      simp only [Instr.indexAt, hk, asIntOf, Sem.run_bind, Sem.run_pure, Result.andThen_ok, run_underlying hd, hv, Instr.sureAddr, hi0, hin, and_self, if_true, Tl.size, add_none]
    have hp1 : inIx i n → pathOK [i.toNat] te.sh ∧ pathOff [i.toNat] te.sh = i.toNat * tl.sh.size := by
      intro hin
      rw [hsh]
      have := hin.1; have := hin.2
      exact ⟨⟨by omega, trivial⟩, by simp [pathOff]⟩
    split at hr
    · rename_i b p
      split at hr
      case h_2 => cases hr
      rename_i s hs
      split at hr
      case h_2 => cases hr
      rename_i hsame
      cases hr
      have hin : inIx i n := hob _ (by simp)
      have := Shape.same_eq _ _ hsame
      subst this
      obtain ⟨g, hg, hp, hv⟩ := hrep.ptr_inv
      obtain ⟨a1, a2⟩ := pathOK_append (i := i.toNat) hp (boxSh_spec h hs)
      refine ⟨rfl, _, run g _ hv hin.1 hin.2, ?_⟩
      have := Rep.ptr (w := w) (F := F) (φ := φ) b g (p ++ [i.toNat]) hg (a1 (hp1 hin).1)
      rw [a2, (hp1 hin).2] at this
      exact this
    · rename_i b k' p
      split at hr
      case h_2 => cases hr
      rename_i s hs
      split at hr
      case h_2 => cases hr
      rename_i hsame
      cases hr
      have hin : inIx i n := hob _ (by simp)
      have := Shape.same_eq _ _ hsame
      subst this
      obtain ⟨g, hg, hp, hv⟩ := hrep.optr_inv
      obtain ⟨a1, a2⟩ := pathOK_append (i := i.toNat) hp (rowSh_spec h hs)
      refine ⟨rfl, _, run g _ hv hin.1 hin.2, ?_⟩
      have := Rep.optr (w := w) (F := F) (φ := φ) b g k' (p ++ [i.toNat]) hg (a1 (hp1 hin).1)
      rw [a2, (hp1 hin).2, ← Nat.add_assoc] at this
      exact this
    · rename_i m s m' f
      split at hr
      case h_2 => cases hr
      rename_i hsame
      cases hr
      have hin : inIx i n := hob _ (by simp)
      have := Shape.same_eq _ _ hsame
      rw [hsh] at this
      obtain ⟨rfl, rfl⟩ : m = n ∧ s = tl.sh := by injection this; exact ⟨by assumption, by assumption⟩
      obtain ⟨g, off, cs, hF, hv, hc, hrr⟩ := hrep.rptr_inv
      have hlt : (i.toNat + 1) * tl.sh.size ≤ m * tl.sh.size := Nat.mul_le_mul_right _ (by have := hin.1; have := hin.2; omega)
      rw [Nat.add_mul] at hlt
      refine ⟨rfl, _, run g _ hv hin.1 hin.2, .stat (.rptr g _ _ _ (fun j => cs (i.toNat * tl.sh.size + j)) hF (fun j hj => ?_) fun j hj => ?_)⟩
      · rw [Nat.add_assoc]; exact hc _ (by simp only [Shape.size]; omega)
      · have h6 := hrr (i.toNat * tl.sh.size + j) (by simp only [Shape.size]; omega)
        simp only [leafAt] at h6
        have ht := Tl.pos
        rw [Nat.mul_comm i.toNat, Nat.mul_add_div ht, Nat.mul_add_mod, Nat.div_eq_of_lt hj, Nat.mod_eq_of_lt hj, Nat.add_zero] at h6
        rw [Nat.mul_comm i.toNat]
        exact h6.strip (.st (.refl _))
    · cases hr
  · cases hr

theorem part_rep {t : TypeId} {te : TyE} (T : TyOK C t te) {cs : Array Value} {off : Nat} {x z : AV} (hl : off + te.sh.size ≤ cs.size) (hz : wrapV te.sh x = some z) (hr : ∀ j, j < te.sh.size → Rep w F φ (cs.getD (off + j) undef) (leafAt te.sh x j)) :
    ∃ v, (part t cs off).run C.P w = .ok v w ∧ Rep w F φ v z := by
  have hw := wrap_rep (f := fun j => cs.getD (off + j) undef) hz hr
  refine ⟨_, ?_, hw⟩
  simp only [part, Sem.run_bind, T.agg, Result.andThen_ok, loadVal]
  cases hs : te.sh.isAgg with
  | false =>
    have hp := T.pos
    have : cs[off]? = some (cs.getD off undef) := by simp [show off < cs.size by omega]
    rw [if_neg (by simp)]
    simp only [this, Sem.run_pure, Nat.add_zero]
  | true =>
    rw [if_pos rfl]
    rw [Sem.run_bind, T.size, Result.andThen_ok, Sem.run_pure]
    congr 2
    apply Array.ext
    · simp only [List.size_toArray, List.length_map, List.length_range, Array.size_extract]; omega
    · intro j h1 h2
      simp only [List.size_toArray, List.length_map, List.length_range] at h2
      simp only [Array.getElem_extract, List.getElem_toArray, List.getElem_map, List.getElem_range, Array.getD_eq_getD_getElem?]
      rw [Array.getElem?_eq_getElem (by omega), Option.getD_some]

theorem pure_field {t : TypeId} {x : Operand} {f : Nat} (hT : TysOK C) (ho : o.op = .field t x f) (hr : absOp C st e dst orc CC (.field t x f) = some r)
    (hx : ∀ u, e x = some u → Rep w F φ (a.eval x) u) : PureOK C o a w F φ r := by
  simp only [absOp] at hr
  split at hr
  case h_2 => cases hr
  rename_i te ss xs h1 h2
  split at hr
  case h_2 => cases hr
  rename_i s y hc hs hy
  split at hr
  case h_2 => cases hr
  rename_i z hz
  cases hr
  have T := hT _ _ h1
  simp only [Bool.and_eq_true] at hc
  have hkind : ∃ fs, te.kind = .struct fs ∧ f < fs.length := by
    have := hc.2
    cases hk : te.kind <;> simp [hk, fieldCount, Nat.blt] at this
    exact ⟨_, rfl, by omega⟩
  obtain ⟨fs, hk, hlt⟩ := hkind
  obtain ⟨fields, ss', hd, hsh, hlen, hfs, hfi⟩ := kind_struct T hk
  have := Shape.same_eq _ _ hc.1
  rw [hsh] at this
  obtain rfl : ss = ss' := by injection this
  have hfl : f < fields.size := by rw [hfs] at hlt; simpa using hlt
  have hff : fields[f]? = some fields[f] := by simp [hfl]
  obtain ⟨tf, htf, hsf, hoff, _⟩ := hfi f _ hff
  rw [hs] at hsf
  cases hsf
  obtain ⟨cs, hv, hsz, hrr⟩ := (hx _ h2).mc_inv
  simp only [Shape.size] at hsz
  have h5 := sizes_take_get hs
  obtain ⟨v, hrun, hrep⟩ := part_rep (hT _ _ htf) (cs := cs) (off := Shape.sizes (ss.take f)) (x := y) (z := z) (by omega) hz (fun j hj => by
    have h6 := hrr (Shape.sizes (ss.take f) + j) (by simp only [Shape.size]; omega)
    simp only [leafAt] at h6
    rwa [leafsAt_get hs hy j hj] at h6)
  refine ⟨rfl, v, ?_, hrep⟩
  simp only [execOp, ho]
  refine run_value ?_
  simp only [Instr.field, Sem.run_bind, run_underlying hd, Result.andThen_ok, hff, hv, asAgg, Sem.run_pure, hoff, hrun]

theorem pure_index {t : TypeId} {x ix : Operand} (hT : TysOK C) (ho : o.op = .index t x ix) (hr : absOp C st e dst orc CC (.index t x ix) = some r)
    (hx : ∀ u, e x = some u → Rep w F φ (a.eval x) u) (hi : ∀ u, e ix = some u → Rep w F φ (a.eval ix) u) (hob : ∀ p ∈ r.obs, p) : PureOK C o a w F φ r := by
  simp only [absOp] at hr
  split at hr
  case h_2 => cases hr
  rename_i te v i h1 h2 h3
  have T := hT _ _ h1
  obtain ⟨k, hk⟩ := ix_spec h3 hi
  have hrep := hx _ h2
  split at hr
  · rename_i l hkind
    cases hr
    have hd := kind_string T hkind
    obtain ⟨s, hv, rfl⟩ := hrep.str_inv
    obtain ⟨hi0, hin⟩ : inIx i s.data.toList.length := hob _ (by simp)
    have hl : s.data.toList.length = s.size := by rw [Array.length_toList]; rfl
    have hlt : i.toNat < s.size := by omega
    have hs : s[i.toNat]? = some (s.data.toList.getD i.toNat 0) := by
      rw [ByteArray.getElem?_lt' s _ hlt, List.getD_eq_getElem?_getD, List.getElem?_eq_getElem (by omega), Option.getD_some]
      rfl
    refine ⟨rfl, .int .u8 ((s.data.toList.getD i.toNat 0).toNat : Int), ?_, .stat (.int _ _ ?_)⟩
    · simp only [execOp, ho]
      refine run_value ?_
      simp only [Instr.index, hk, asIntOf, Sem.run_bind, Sem.run_pure, Result.andThen_ok, run_underlying hd, hv, hi0, if_true, hs]
    · have := UInt8.toNat_lt (s.data.toList.getD i.toNat 0)
      unfold InR
      generalize (s.data.toList.getD i.toNat 0).toNat = q at this
      simp only [IntKind.wrap, IntKind.signed, IntKind.bits]
      simp
      omega
  · rename_i n el m s m' f hkind
    split at hr
    case h_2 => cases hr
    rename_i hsame
    split at hr
    case h_2 => cases hr
    rename_i z hz
    cases hr
    obtain ⟨hd, tl, htl, hsh⟩ := kind_arr T hkind
    have Tl := hT _ _ htl
    have hin : inIx i n := hob _ (by simp)
    have := Shape.same_eq _ _ hsame
    rw [hsh] at this
    obtain ⟨rfl, rfl⟩ : m = n ∧ s = tl.sh := by injection this; exact ⟨by assumption, by assumption⟩
    obtain ⟨cs, hv, hsz, hrr⟩ := hrep.mc_inv
    simp only [Shape.size] at hsz
    have hlt : (i.toNat + 1) * tl.sh.size ≤ m * tl.sh.size := Nat.mul_le_mul_right _ (by have := hin.1; have := hin.2; omega)
    rw [Nat.add_mul] at hlt
    obtain ⟨v, hrun, hrep⟩ := part_rep Tl (cs := cs) (off := i.toNat * tl.sh.size) (x := f i.toNat) (z := z) (by omega) hz (fun j hj => by
      have h6 := hrr (i.toNat * tl.sh.size + j) (by simp only [Shape.size]; omega)
      simp only [leafAt] at h6
      have ht := Tl.pos
      rw [Nat.mul_comm i.toNat, Nat.mul_add_div ht, Nat.mul_add_mod, Nat.div_eq_of_lt hj, Nat.mod_eq_of_lt hj, Nat.add_zero] at h6
      rw [Nat.mul_comm i.toNat]
      exact h6.strip (.st (.refl _)))
    refine ⟨rfl, v, ?_, hrep⟩
    simp only [execOp, ho]
    refine run_value ?_
    simp only [Instr.index, hk, asIntOf, Sem.run_bind, Sem.run_pure, Result.andThen_ok, run_underlying hd, hv, hin.1, hin.2, and_self, if_true, Tl.size, hrun]
  · cases hr

theorem pure_pick {c x y : Operand} {p : Bool} {u v z : AV} (ho : o.op = .pick c x y) (hc : Rep w F φ (a.eval c) (.bool p)) (hx : p = true → Rep w F φ (a.eval x) u) (hy : p = false → Rep w F φ (a.eval y) v)
    (hz : pickAV p (isTrue x) (isFalse y) u v = some z) : ∃ V, (execOp a.eval o).run C.P w = .ok (.value V) w ∧ Rep w F φ V z := by
  have hb := hc.bool_inv
  refine ⟨if p then a.eval x else a.eval y, by simp [execOp, ho, asBool, hb], ?_⟩
  have ht : isTrue x = true → a.eval x = .bool true := by
    intro h; unfold isTrue at h; split at h
    · rfl
    · cases h
  have hf : isFalse y = true → a.eval y = .bool false := by
    intro h; unfold isFalse at h; split at h
    · rfl
    · cases h
  unfold pickAV at hz
  split at hz
  · split at hz
    · rename_i h1
      cases hz
      cases p with
      | true => simpa using hx rfl
      | false => simpa [hf h1] using repB (w := w) (F := F) (φ := φ) false
    · rename_i h1 _
      cases hz
      cases p with
      | true => simpa [ht h1] using repB (w := w) (F := F) (φ := φ) true
      | false => simpa using hy rfl
    · cases hz
      cases p with
      | true => simpa using hx rfl
      | false => simpa using hy rfl
  · split at hz
    · rename_i hk
      have := of_decide_eq_true hk
      subst this
      cases hz
      cases p with
      | true => simpa using hx rfl
      | false => simpa using hy rfl
    · cases hz
  · cases hz
end
end Go.AV
