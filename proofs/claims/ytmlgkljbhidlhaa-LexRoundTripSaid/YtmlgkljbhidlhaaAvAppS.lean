/- append of a string's bytes to a row of the call's own, or to nil. -/
import Derived.Test.YtmlgkljbhidlhaaAvSound13
import Derived.Lib.AppendStr
import Derived.Deep.DeepAppendWide
namespace Go.AV
open Go.RowKit

def strRow (l : List UInt8) (i : Nat) : AV := .int .u8 ((l.getD i 0).toNat : Int)
def absAppS (C : Cfg) (st : St) (o : Oper) : Option (St × List Prop) :=
  match o.op, o.dst, o.guard with
  | .call c, some d, none => match c.callee, c.args.toList, c.argTypes.toList with
    | .builtin .append, [x, y], [t, t'] => match tyOf C t, tyOf C t', ev C st x, ev C st y with
      | some te, some te', some v, some (.str l) => match te.kind, te'.kind with
        | .slice el, .string => match C.P.info? el with
          | some ie => match ie.zero with
            | some (.int .u8 z) => match decide (z = 0) && Nat.beq ie.size 1 && Nat.beq ie.bytes 1 && Nat.blt d C.ntmps, v with
              | true, .nils => match freshBox st d with
                | true => some ({ env := put st.env d (.own d l.length), heap := put st.heap d (.row el .leaf l.length (strRow l)) }, [(l.length : Int) ≤ 225179981368000])
                | false => none
              | true, .own b n => match get st.heap b with
                | some (.row ty sh n' f) => match Nat.beq ty el && sh.same .leaf with
                  | true => some ({ env := put (killEnv b st.env) d (.own b (n + l.length)), heap := put (killHeap b st.heap) b (.row el .leaf (n + l.length) fun i => if i < n then f i else strRow l (i - n)) }, [n = n' ∧ ((n + l.length : Nat) : Int) ≤ 225179981368000])
                  | false => none
                | _ => none
              | _, _ => none
            | _ => none
          | none => none
        | _, _ => none
      | _, _, _, _ => none
    | _, _, _ => none
  | _, _, _ => none

section
variable {C : Cfg} {W0 : Entry} {F0 : Nat → Prop} {st st' : St} {a : Act} {w : World} {F : Nat → Prop} {φ : Nat → Place} {o : Oper} {Q : Exit → Act → World → Prop}

theorem strCells_rep (w : World) (F : Nat → Prop) (l : List UInt8) : ∀ i, i < l.length → ∀ j, j < Shape.leaf.size → ∃ u, (Lib.strCells ⟨l.toArray⟩)[i * Shape.leaf.size + j]? = some u ∧ RepS w F u (leafAt .leaf (strRow l i) j) := by
  intro i hi j hj
  have hj : j = 0 := by simp [Shape.size] at hj; exact hj
  subst hj
  refine ⟨.int .u8 ((l.getD i 0).toNat : Int), ?_, ?_⟩
  · simp [Lib.strCells, Shape.size, List.getD_eq_getElem?_getD, hi]
  · have h1 : (l.getD i 0).toNat < 256 := UInt8.toNat_lt _
    refine .int _ _ ?_
    show IntKind.u8.wrap _ = _
    generalize (l.getD i 0).toNat = k at h1
    have h2 : (k : Int) % 2 ^ 8 = (k : Int) := by omega
    simp only [IntKind.wrap, IntKind.bits, IntKind.signed, h2]
    rfl

/-- Where there is room, and where there is none: a string's bytes behind a row of the call's own. -/
theorem append_str {P : Program} {w : World} {t u ty e : TypeId} {i : TypeInfo} (ht : P.underlying t = some (.slice e)) (hu : P.underlying u = some .string) (hi : P.info? e = some i) (hz : i.zero = some (.int .u8 0))
    (hsize : i.size = 1) (hby : i.bytes = 1) {v : Value} {n : Nat} {xs : List Value} (hown : w.ownsRow 0 e 1 v n xs) (s : ByteArray) (hb : n + s.size ≤ 225179981368000) :
    ∃ v' w', (Builtin.append_ #[t, u] ty #[v, .string s]).run P w = .ok v' w' ∧ w'.ownsRow 0 e 1 v' (n + s.size) (xs ++ Lib.strCells s) ∧ w.grownBy w' v.ownBlock ∧
      (v'.ownBlock = v.ownBlock ∨ ∃ g, v'.ownBlock = some g ∧ w.heap.size ≤ g) := by
  have h63 : n + s.size ≤ maxLen := by unfold maxLen; omega
  have hxl : xs.length = n := by simpa using hown.1
  have hlen : (xs ++ Lib.strCells s).length = (n + s.size) * 1 := by rw [List.length_append, hxl, Lib.strCells_length, Nat.mul_one]
  have grown : ∀ (old : Nat), old < n + s.size → ∀ (row : Option Nat),
      (w.drew.alloc (.cells (xs.toArray ++ (Lib.strCells s).toArray ++ Builtin.zeroCells (Value.int .u8 0).cells (grownCap w (n + s.size) old e - (n + s.size))) e)).ownsRow 0 e 1
        (.slice (some ⟨w.heap.size, 0, none⟩) (n + s.size) (grownCap w (n + s.size) old e)) (n + s.size) (xs ++ Lib.strCells s) ∧
      w.grownBy (w.drew.alloc (.cells (xs.toArray ++ (Lib.strCells s).toArray ++ Builtin.zeroCells (Value.int .u8 0).cells (grownCap w (n + s.size) old e - (n + s.size))) e)) row := by
    intro old ho row
    have hge := grownCap_ge w (n + s.size) old e
    have hcm : grownCap w (n + s.size) old e ≤ maxLen := grownCap_le_maxLen w (n + s.size) old e h63
    refine ⟨⟨hlen, .inr ⟨w.heap.size, _, _, rfl, Nat.zero_le _, heap_alloc_new w.drew _, hge, hcm, ?_, ?_⟩⟩, ⟨rfl, rfl, rfl, by simp, fun k hk _ => Below.heap_alloc w.drew _ k hk⟩⟩
    · have hz1 : (Value.int IntKind.u8 0).cells.size = 1 := rfl
      simp only [Array.size_append, List.size_toArray, size_zeroCells, hz1, hxl, Lib.strCells_length]
      omega
    · simp only [Array.toList_append, List.append_assoc]
      rw [← List.append_assoc, ← hlen]
      exact List.take_left
  rcases hown.2 with ⟨rfl, rfl⟩ | ⟨g, cap, cur, rfl, hbg, hg, hnc, hcm, hcs, htake⟩
  · have hx : xs = [] := List.eq_nil_of_length_eq_zero hxl
    subst hx
    by_cases hm : s.size = 0
    · have hn : Lib.strCells s = [] := List.eq_nil_of_length_eq_zero (by rw [Lib.strCells_length]; exact hm)
      refine ⟨.slice none 0 0, w, ?_, by rw [hm, hn]; exact World.ownsRow_nil w 0 e 1, ⟨rfl, rfl, rfl, Nat.le_refl _, fun _ _ _ => rfl⟩, .inl rfl⟩
      have hf := Lib.run_firstCells_string (P := P) w 1 s
      rw [hm] at hf
      simp [Builtin.append_, run_underlying ht, run_underlying hu, sizeOf, typeInfo, hi, hsize, Builtin.lenOf, hm, hf]
    · have hr := run_append_nil_string (P := P) w t u ty e i (.int .u8 0) ht hu hi hz s (by omega) (by omega) (by rw [hby]; omega)
      have hgr := grown 0 (by omega) (Value.ownBlock (.slice none 0 0))
      simp only [Nat.zero_add, List.nil_append, Array.empty_append] at hgr ⊢
      have e1 : (s.data.map fun b => Value.int .u8 b.toNat) = (Lib.strCells s).toArray := by
        apply Array.ext'
        simp [Lib.strCells]
      rw [e1] at hr
      exact ⟨_, _, hr, hgr.1, hgr.2, .inr ⟨_, rfl, Nat.le_refl _⟩⟩
  · by_cases hroom : n + s.size ≤ cap
    · have hcs' : cur.size = cap := by simpa using hcs
      have hr := Lib.run_append_room_string (P := P) w t u ty e i ht hu hi hsize g n cap cur hg s hroom (by omega)
      refine ⟨_, _, hr, ⟨hlen, .inr ⟨g, cap, _, rfl, hbg, setRow_heap w g cur _ e _ hg, hroom, hcm, ?_, ?_⟩⟩, ⟨rfl, rfl, rfl, by simp, fun k _ hk => setRow_other w g k _ (fun e => hk (by simp [Value.ownBlock, e]))⟩, .inl rfl⟩
      · simp only [List.size_toArray, List.length_append, List.length_take, List.length_drop, Array.length_toList, Lib.strCells_length]
        omega
      · have ht' : cur.toList.take n = xs := by simpa using htake
        rw [ht', ← hlen]
        exact List.take_left
    · have holds : ∀ j u, xs[j]? = some u → w.cell? ((⟨g, 0, none⟩ : Addr).add j) = some u := hown.cells (g := g) rfl
      have hr := Lib.run_append_grow_string (P := P) w t u ty e i (.int .u8 0) ht hu hi hz ⟨g, 0, none⟩ n cap xs (by rw [hsize]; simpa using hxl) holds s (by omega) (by omega) (by rw [hby]; exact growslice_fits_wide (by omega) (by omega))
      have hgr := grown cap (by omega) (Value.ownBlock (.slice (some ⟨g, 0, none⟩) n cap))
      exact ⟨_, _, hr, hgr.1, hgr.2, .inr ⟨_, rfl, Nat.le_refl _⟩⟩

theorem appS_sound {ps : List Prop} {K : Act → World → Prop} (h : Rel C W0 F0 st a w F φ) (hT : TysOK C) (hs : absAppS C st o = some (st', ps)) (hps : ∀ p ∈ ps, p)
    (hK : ∀ a' w' F' φ', Rel C W0 F0 st' a' w' F' φ' → K a' w') : o.guard = none ∧ o.wp C.P a w K Q := by
  unfold absAppS at hs
  split at hs
  case h_2 => cases hs
  rename_i c d ho hdst hg
  split at hs
  case h_2 => cases hs
  rename_i x y t t' hc hargs htys
  split at hs
  case h_2 => cases hs
  rename_i te te' v l h1 h1' h2 h3
  split at hs
  case h_2 => cases hs
  rename_i el k1 k2
  split at hs
  case h_2 => cases hs
  rename_i ie hie
  split at hs
  case h_2 => cases hs
  rename_i z hz
  have ea : c.args = #[x, y] := by rw [← Array.toArray_toList (xs := c.args), hargs]
  have et : c.argTypes = #[t, t'] := by rw [← Array.toArray_toList (xs := c.argTypes), htys]
  have hu := kind_slice (hT _ _ h1) k1
  have hu' := kind_string (hT _ _ h1') k2
  have hg' := hg
  have hV := h.ev h2
  obtain ⟨s, hsv, hsl⟩ : ∃ s : ByteArray, a.eval y = .string s ∧ s.data.toList = l := by
    have := h.ev h3
    generalize a.eval y = u at this
    cases this with
    | stat h => cases h with | str s => exact ⟨s, rfl, rfl⟩
  subst hsl
  have hsize : s.size = s.data.toList.length := by rw [Array.length_toList]; rfl
  have fin : ∀ {v' : Value} {w' : World}, (Builtin.append_ #[t, t'] o.type #[a.eval x, .string s]).run C.P w = .ok v' w' → K (a.put o.dst v') w' → o.wp C.P a w K Q := by
    intro v' w' hrun hnx
    unfold Oper.wp
    have : (execOp a.eval o).run C.P w = .ok (.value v') w' := by
      refine call_builtin ho hc ?_
      rw [ea, et]
      simp only [builtin, Sem.run_bind]
      have : (#[x, y].map a.eval) = #[a.eval x, a.eval y] := by simp
      rw [this, hsv, hrun]
      rfl
    rw [this]
    exact hnx
  have grow2 : ∀ {w' : World}, w.grownBy w' none → Below w.heap.size w w' := fun hg => (Below.refl _ _).grown hg (Nat.le_refl _) (by simp)
  have fresh8 : ∀ {v v' : Value}, True := fun {_ _} => trivial
  split at hs
  · -- nil
    rename_i hcond
    split at hs
    case h_2 => cases hs
    rename_i hfr
    cases hs
    simp only [Bool.and_eq_true, decide_eq_true_eq] at hcond
    obtain ⟨⟨⟨z0, z1⟩, z2⟩, hd⟩ := hcond
    subst z0
    have z1 := Nat.eq_of_beq_eq_true z1
    have z2 := Nat.eq_of_beq_eq_true z2
    have hd := Nat.le_of_ble_eq_true hd
    have o1 : (s.data.toList.length : Int) ≤ 225179981368000 := hps _ (by simp)
    have hVn : a.eval x = .slice none 0 0 := by
      generalize a.eval x = v at hV
      cases hV with | stat hV => cases hV; rfl
    obtain ⟨v', w', hrun, h4, h5, h6⟩ := append_str (ty := o.type) hu hu' hie hz z1 z2 (World.ownsRow_nil w 0 el 1) s (by omega)
    rw [Nat.zero_add, List.nil_append, hsize] at h4
    have hblk : v'.ownBlock = none ∨ ∃ g, v'.ownBlock = some g ∧ w.heap.size ≤ g := h6
    rw [← hVn] at hrun
    refine ⟨hg, fin hrun ?_⟩
    have hb := grow2 h5
    have hR := h.grown hb (fun _ hk => hk) (fun k hk => .inl hk) fun k hk => Nat.lt_of_lt_of_le (h.ro k hk) hb.size
    obtain ⟨pl, p1, p2, p3, p4⟩ := boxOK_of_own (F := F) (B := W0.B) (base := 0) (b := d) (f := strRow s.data.toList) (φ := φ) (sh := .leaf) h4 (fun k hk => by
      rcases hblk with h6 | ⟨g, h6, h7⟩
      · rw [h6] at hk; cases hk
      · rw [h6] at hk; cases hk; exact h.bnew h7) (fun k hk hF => by
      rcases hblk with h6 | ⟨g, h6, h7⟩
      · rw [h6] at hk; cases hk
      · rw [h6] at hk; cases hk; have := h.ro _ hF; omega) (strCells_rep w' F s.data.toList)
    obtain ⟨B1, B2⟩ := p4 (fun k => if k = d then pl else φ k) (by simp)
    rw [hdst]
    exact hK _ _ _ _ ((hR.addBox hfr rfl pl (fun b c' gg hb' hg' hp => by
      rw [p1] at hp
      rcases hblk with h6 | ⟨g, h6, h7⟩
      · rw [h6] at hp; cases hp
      · rw [h6] at hp; cases hp; have := ((h.heap b c' hb').lt hg').1; omega) B1).putV hd B2)
  · -- the call's own
    rename_i b n hcond
    split at hs
    case h_2 => cases hs
    rename_i ty sh n' f hb
    split at hs
    case h_2 => cases hs
    rename_i hcnd
    cases hs
    simp only [Bool.and_eq_true, decide_eq_true_eq] at hcond hcnd
    obtain ⟨⟨⟨z0, z1⟩, z2⟩, hd⟩ := hcond
    subst z0
    have z1 := Nat.eq_of_beq_eq_true z1
    have z2 := Nat.eq_of_beq_eq_true z2
    have hd := Nat.le_of_ble_eq_true hd
    have e1 := Nat.eq_of_beq_eq_true hcnd.1
    have es := Shape.same_eq _ _ hcnd.2
    subst e1 es
    obtain ⟨o0, o1⟩ : n = n' ∧ ((n + s.data.toList.length : Nat) : Int) ≤ 225179981368000 := hps _ (by simp)
    subst o0
    obtain ⟨xs, hown, hob1, hxs⟩ := own_of_box (h.heap b _ hb) hV rfl
    obtain ⟨v', w', hrun, h4, h5, hblk⟩ := append_str (ty := o.type) hu hu' hie hz z1 z2 hown s (by omega)
    refine ⟨hg, fin hrun ?_⟩
    rw [hsize] at h4
    have hFn : ∀ k, v'.ownBlock = some k → ¬ F k := by
      intro k hk hF
      rcases hblk with h6 | ⟨g, h6, h7⟩
      · rw [h6] at hk; exact ((h.heap b _ hb).lt (hob1 k hk)).2.1 hF
      · rw [h6] at hk; cases hk; have := h.ro _ hF; omega
    have hkeep : ∀ k, F k → w'.heap[k]? = w.heap[k]? := fun k hk => h5.block k (h.ro k hk) fun e => ((h.heap b _ hb).lt (hob1 k e.symm)).2.1 hk
    obtain ⟨pl, p1, p2, p3, p4⟩ := boxOK_of_own (F := F) (B := W0.B) (base := 0) (b := b) (f := fun i => if i < n then f i else strRow s.data.toList (i - n)) (φ := φ) (sh := .leaf) h4 (fun k hk => by
      rcases hblk with h6 | ⟨g, h6, h7⟩
      · rw [h6] at hk; exact ((h.heap b _ hb).lt (hob1 k hk)).2.2
      · rw [h6] at hk; cases hk; exact h.bnew h7) hFn (fun i hi j hj => by
      obtain ⟨uu, hu1, hu2⟩ := append_elems hown.1 hxs (strCells_rep w F s.data.toList) i hi j hj
      exact ⟨uu, hu1, hu2.keep hkeep fun _ hk => hk⟩)
    obtain ⟨B1, B2⟩ := p4 (fun k => if k = b then pl else φ k) (by simp)
    rw [hdst]
    exact hK _ _ _ _ ((h.growBox hb h5 rfl (fun gg hg => hob1 gg hg) pl (fun gg hg => by
      rw [p1] at hg
      rcases hblk with h6 | ⟨g, h6, h7⟩
      · rw [h6] at hg; exact .inl (hob1 gg hg)
      · rw [h6] at hg; cases hg; exact .inr h7) B1).putV hd B2)
  · cases hs
end
end Go.AV
