/- Arithmetic, comparisons, conversions, parts, indexes, slices of plain data. -/
import Derived.Test.YtmlgkljbhidlhaaAvSound2
import Derived.Laws.StructEq
namespace Go.AV
open Go.RowKit

section
variable {C : Cfg} {W0 : Entry} {F0 : Nat → Prop} {st : St} {a : Act} {w : World} {F : Nat → Prop} {φ : Nat → Place} {e : Operand → Option AV} {dst : Option Nat} {orc : FuncId → List AV → Option AV} {CC : FuncId → List AV → AV → Prop} {r : Res} {o : Oper}

theorem arith_rep {k : IntKind} {n : Int} (hob : ∀ p ∈ (arith C k n).obs, p) : Rep w F φ (.int k (k.wrap n)) (arith C k n).val := by
  unfold arith at *
  split
  · exact .stat (.int _ _ (inR_bits n))
  · rename_i hw
    simp only [hw] at hob
    have := hob _ (List.mem_singleton.2 rfl)
    unfold InR at this
    exact .stat (by rw [this]; exact .int _ _ this)

theorem arith_eff {k : IntKind} {n : Int} : (arith C k n).eff = .none := by unfold arith; split <;> rfl

theorem eqGuard_int (op : BinOp) (t : TypeId) (x y : Operand) (k k' : IntKind) (m n : Int) : (eqGuard op t x y (.int k m) (.int k' n)).run C.P w = .ok () w := by cases op <;> simp [eqGuard]
theorem eqGuard_bool (op : BinOp) (t : TypeId) (x y : Operand) (m n : Bool) : (eqGuard op t x y (.bool m) (.bool n)).run C.P w = .ok () w := by cases op <;> simp [eqGuard]
theorem eqGuard_str (op : BinOp) (t : TypeId) (x y : Operand) (m n : ByteArray) : (eqGuard op t x y (.string m) (.string n)).run C.P w = .ok () w := by cases op <;> simp [eqGuard]

theorem str_beq (s t : ByteArray) : (s.toList == t.toList) = (s.data.toList == t.data.toList) := by rw [ByteArray.toList_eq, ByteArray.toList_eq]

theorem repB (b : Bool) : Rep w F φ (.bool b) (.bool b) := .stat (.bool b)

theorem eqAV_spec {P : Program} {d : Nat} {t : TypeId} {te : TyE} {dd : TypeDesc} (hd : P.underlying t = some dd) (hk : kindIs C te.sh dd te.kind) {x y : AV} {u v : Value} {b : Bool} (hb : eqAV te.kind x y = some b)
    (rx : Rep w F φ u x) (ry : Rep w F φ v y) : (Op.equalIn (d + 1) t u v).run P w = .ok b w := by
  unfold eqAV at hb
  split at hb
  · rename_i h1
    rw [h1] at hk
    split at hb
    · rename_i e
      cases hb
      obtain ⟨rfl, _⟩ := rx.int_inv
      obtain ⟨rfl, _⟩ := ry.int_inv
      obtain ⟨rfl, _⟩ := hk
      rw [of_decide_eq_true e]
      exact run_equalIn_int w d t _ _ _ _ hd
    · cases hb
  · rename_i h1
    rw [h1] at hk
    cases hb
    obtain rfl := rx.bool_inv
    obtain rfl := ry.bool_inv
    obtain ⟨rfl, _⟩ := hk
    exact run_equalIn_bool' w d t _ _ hd
  · rename_i h1
    rw [h1] at hk
    cases hb
    obtain ⟨s1, rfl, rfl⟩ := rx.str_inv
    obtain ⟨s2, rfl, rfl⟩ := ry.str_inv
    obtain ⟨rfl, _⟩ := hk
    rw [run_equalIn_string w d t _ _ hd, str_beq]
  · cases hb

theorem eqAV_one {k : TyK} {x y : AV} {b : Bool} (h : eqAV k x y = some b) : x.isOne = true ∧ y.isOne = true := by
  unfold eqAV at h
  split at h <;> first | exact ⟨rfl, rfl⟩ | cases h

theorem eqAVs_spec {d : Nat} {xs ys : Array Value} (hT : TysOK C) :
    ∀ (fs : List Field) (ss : List Shape) (l m : List AV) (off : Nat) (b : Bool), eqAVs C (fs.map (·.type)) l m = some b →
    (∀ (i : Nat) (f : Field), fs[i]? = some f → ∃ te, tyOf C f.type = some te ∧ ss[i]? = some te.sh ∧ f.offset = off + Shape.sizes (ss.take i) ∧ f.name ≠ "_") →
    (∀ f ∈ fs, ∃ tf, tyOf C f.type = some tf ∧ tf.sh = .leaf) →
    (∀ j, j < Shape.sizes ss → Rep w F φ (xs.getD (off + j) undef) (leafsAt ss l j) ∧ off + j < xs.size) →
    (∀ j, j < Shape.sizes ss → Rep w F φ (ys.getD (off + j) undef) (leafsAt ss m j) ∧ off + j < ys.size) →
    (Op.eqFields (d + 1) xs ys fs).run C.P w = .ok b w := by
  intro fs
  induction fs with
  | nil =>
    intro ss l m off b hb _ _ _ _
    cases l <;> cases m <;> simp [eqAVs] at hb
    subst hb
    simp [Op.eqFields]
  | cons f fs ih =>
    intro ss l m off b hb hf hk hx hy
    cases l with
    | nil => simp [eqAVs] at hb
    | cons x l =>
      cases m with
      | nil => simp [eqAVs] at hb
      | cons y m =>
        obtain ⟨te, ht, hs0, hoff, hname⟩ := hf 0 f rfl
        obtain ⟨tf, htf, hleaf⟩ := hk f (by simp)
        rw [ht] at htf; cases htf
        cases ss with
        | nil => simp at hs0
        | cons s ss =>
          simp at hs0
          subst hs0
          rw [hleaf] at hf hx hy hoff
          simp only [List.map_cons, eqAVs, ht] at hb
          split at hb
          · rename_i b1 b2 hb1 hb2
            cases hb
            have hx0 := hx 0 (by simp [Shape.sizes, Shape.size]; omega)
            have hy0 := hy 0 (by simp [Shape.sizes, Shape.size]; omega)
            obtain ⟨ox, oy⟩ := eqAV_one hb1
            simp only [Nat.add_zero, leafsAt, Shape.size, Nat.lt_add_one, if_true, leafAt, asLeaf, ox, oy] at hx0 hy0
            have T := hT _ _ ht
            have hagg : (isAgg f.type).run C.P w = .ok false w := by rw [T.agg, hleaf]; rfl
            have hoff' : f.offset = off := by simpa [Shape.sizes] using hoff
            have gx : xs[off]? = some (xs.getD off undef) := by simp [hx0.2]
            have gy : ys[off]? = some (ys.getD off undef) := by simp [hy0.2]
            have px : (part f.type xs f.offset).run C.P w = .ok (xs.getD off undef) w := by simp only [part, Sem.run_bind, hagg, hoff', gx, Result.andThen_ok, Bool.false_eq_true, if_false, Sem.run_pure]
            have py : (part f.type ys f.offset).run C.P w = .ok (ys.getD off undef) w := by simp only [part, Sem.run_bind, hagg, hoff', gy, Result.andThen_ok, Bool.false_eq_true, if_false, Sem.run_pure]
            have hrest : (Op.eqFields (d + 1) xs ys fs).run C.P w = .ok b2 w := by
              refine ih ss l m (off + 1) b2 hb2 (fun i f' hi => ?_) (fun f' hf' => hk f' (by simp [hf'])) (fun j hj => ?_) (fun j hj => ?_)
              · obtain ⟨te', a1, a2, a3, a4⟩ := hf (i + 1) f' (by simpa using hi)
                exact ⟨te', a1, by simpa using a2, by rw [a3]; simp [Shape.sizes, Shape.size, Nat.add_assoc], a4⟩
              · have := hx (1 + j) (by simp [Shape.sizes, Shape.size]; omega)
                simp only [leafsAt] at this
                rw [if_neg (show ¬ 1 + j < Shape.leaf.size by simp [Shape.size]), show 1 + j - Shape.leaf.size = j from by simp [Shape.size], show off + (1 + j) = off + 1 + j from by omega] at this
                exact this
              · have := hy (1 + j) (by simp [Shape.sizes, Shape.size]; omega)
                simp only [leafsAt] at this
                rw [if_neg (show ¬ 1 + j < Shape.leaf.size by simp [Shape.size]), show 1 + j - Shape.leaf.size = j from by simp [Shape.size], show off + (1 + j) = off + 1 + j from by omega] at this
                exact this
            have heq : (Op.equalIn (d + 1) f.type (xs.getD off undef) (ys.getD off undef)).run C.P w = .ok b1 w := by
              obtain ⟨ds, i, z, hd, _, _, _, _, _, hki, _⟩ := T.info
              exact eqAV_spec hd hki hb1 hx0.1 hy0.1
            rw [Op.eqFields]
            simp only [hname, ne_eq, not_false_eq_true, if_true, Sem.run_bind, px, py, heq, Result.andThen_ok, Sem.run_ite, Sem.run_pure, hrest]
            cases b1 <;> simp
          · cases hb

theorem struct_eq {t : TypeId} {te : TyE} {ss ts : List Shape} {l m : List AV} {u v : Value} {b : Bool} (hT : TysOK C) (hte : tyOf C t = some te) (hq : te.eqs = true) (h1 : Shape.agg ss = te.sh) (h2 : Shape.agg ts = te.sh)
    (hb : eqAVs C (fieldsOf te.kind) l m = some b) (rx : Rep w F φ u (.mc (.agg ss) (.agg l))) (ry : Rep w F φ v (.mc (.agg ts) (.agg m))) :
    ∃ xs ys, u = .agg xs ∧ v = .agg ys ∧ C.P.eqGuardType C.P.depth t = false ∧ (Op.equalIn 10000 t (.agg xs) (.agg ys)).run C.P w = .ok b w := by
  have T := hT t te hte
  obtain ⟨e1, e2, fs, hk, hfs⟩ := T.eqs hq
  obtain ⟨d, i, z, hd, _, _, _, _, _, hki, _⟩ := T.info
  rw [hk] at hki hb
  obtain ⟨fields, ss', rfl, hsh, hlen, rfl, hf⟩ := hki
  rw [hsh] at h1 h2
  obtain rfl : ss' = ss := by injection h1 with h; exact h.symm
  obtain rfl : ss' = ts := by injection h2 with h; exact h.symm
  obtain ⟨xs, rfl, hxs, hrx⟩ := rx.mc_inv
  obtain ⟨ys, rfl, hys, hry⟩ := ry.mc_inv
  refine ⟨xs, ys, rfl, rfl, e1, ?_⟩
  have hfo : C.P.fieldsOf t = fields := by simp [Program.fieldsOf, hd]
  rw [run_equalIn_struct w 9999 t xs ys (by rw [hfo]; exact hd) e2, hfo]
  simp only [Shape.size] at hxs hys hrx hry
  refine eqAVs_spec (F := F) (φ := φ) hT fields.toList ss' l m 0 b hb (fun i f hi => ?_) (fun f hfm => ?_) (fun j hj => ?_) (fun j hj => ?_)
  · obtain ⟨te', a1, a2, a3, a4⟩ := hf i f (by simpa using hi)
    exact ⟨te', a1, a2, by rw [a3]; simp, a4⟩
  · obtain ⟨tf, a1, a2, _⟩ := hfs f.type (List.mem_map.2 ⟨f, hfm, rfl⟩)
    exact ⟨tf, a1, a2⟩
  · rw [Nat.zero_add]; exact ⟨hrx j hj, by omega⟩
  · rw [Nat.zero_add]; exact ⟨hry j hj, by omega⟩

theorem pure_bin {op : BinOp} {t t' : TypeId} {x y : Operand} {te : TyE} {u v : AV} (hT : TysOK C) (hte : tyOf C t = some te) (ho : o.op = .binOp op t x y t') (hsh : op ≠ .shl ∧ op ≠ .shr) (hr : binAV C te op u v = some r)
    (hx : Rep w F φ (a.eval x) u) (hy : Rep w F φ (a.eval y) v) (hob : ∀ p ∈ r.obs, p) : PureOK C o a w F φ r := by
  have T := hT t te hte
  unfold PureOK
  simp only [execOp, ho]
  have wr : ∀ {s : Sem Value} {V : Value}, (eqGuard op t x y (a.eval x) (a.eval y)).run C.P w = .ok () w → (binOp op t (a.eval x) (a.eval y)).run C.P w = .ok V w →
      (do let v ← (do eqGuard op t x y (a.eval x) (a.eval y); binOp op t (a.eval x) (a.eval y) : Sem Value); pure (Next.value v) : Sem Next).run C.P w = .ok (.value V) w := by
    intro s V h1 h2
    simp [h1, h2]
  unfold binAV at hr
  split at hr
  · rename_i k m k' n
    split at hr
    case h_2 => cases hr
    rename_i hk
    have hk := of_decide_eq_true hk
    subst hk
    obtain ⟨ex, _⟩ := hx.int_inv
    obtain ⟨ey, _⟩ := hy.int_inv
    rw [ex, ey] at wr ⊢
    have G := fun V => wr (s := pure .nilIface) (V := V) (eqGuard_int op t x y k k m n)
    clear wr
    split at hr <;> first | cases hr | skip
    · exact ⟨arith_eff, _, G (.int k (k.wrap (m + n))) (by simp [binOp, Op.intArith]), arith_rep hob⟩
    · exact ⟨arith_eff, _, G (.int k (k.wrap (m - n))) (by simp [binOp, Op.intArith]), arith_rep hob⟩
    · exact ⟨arith_eff, _, G (.int k (k.wrap (m * n))) (by simp [binOp, Op.intArith]), arith_rep hob⟩
    · have hz : n ≠ 0 := hob _ (by simp)
      exact ⟨arith_eff, _, G (.int k (k.wrap (m.tdiv n))) (by simp [binOp, Op.intDiv, hz]), arith_rep fun p hp => hob p (by simp [hp])⟩
    · have hz : n ≠ 0 := hob _ (by simp)
      have hi : InR k (m.tmod n) := hob _ (by simp)
      exact ⟨rfl, _, G (.int k (m.tmod n)) (by simp [binOp, Op.intDiv, hz]), .stat (.int _ _ hi)⟩
    · exact ⟨rfl, _, G (.bool (m == n)) (by simp [binOp, Op.intCmp]), repB _⟩
    · exact ⟨rfl, _, G (.bool (m != n)) (by simp [binOp, Op.intCmp]), repB _⟩
    · exact ⟨rfl, _, G (.bool (decide (m < n))) (by simp [binOp, Op.intCmp]), repB _⟩
    · exact ⟨rfl, _, G (.bool (decide (m ≤ n))) (by simp [binOp, Op.intCmp]), repB _⟩
    · exact ⟨rfl, _, G (.bool (decide (n < m))) (by simp [binOp, Op.intCmp]), repB _⟩
    · exact ⟨rfl, _, G (.bool (decide (n ≤ m))) (by simp [binOp, Op.intCmp]), repB _⟩
    · exact ⟨rfl, _, G (.int k (bits .and k m n)) (by simp [binOp, intBits_and]), .stat (.int _ _ (inR_bits _))⟩
    · exact ⟨rfl, _, G (.int k (bits .or k m n)) (by simp [binOp, intBits_or]), .stat (.int _ _ (inR_bits _))⟩
    · exact ⟨rfl, _, G (.int k (bits .xor k m n)) (by simp [binOp, intBits_xor]), .stat (.int _ _ (inR_bits _))⟩
  · rename_i m n
    split at hr
    case h_2 => cases hr
    rename_i hk
    obtain ⟨d, i, z, hd, _, _, _, _, _, hki, _⟩ := T.info
    rw [hk] at hki
    obtain ⟨rfl, _⟩ := hki
    have ex := hx.bool_inv
    have ey := hy.bool_inv
    rw [ex, ey] at wr ⊢
    have G := fun V => wr (s := pure .nilIface) (V := V) (eqGuard_bool op t x y m n)
    clear wr
    split at hr <;> first | cases hr | skip
    · exact ⟨rfl, _, G (.bool (m == n)) (by simp [binOp, Op.equal, Op.maxDepth, run_equalIn_bool' w 9999 t m n hd]), repB _⟩
    · exact ⟨rfl, _, G (.bool (!(m == n))) (by simp [binOp, Op.equal, Op.maxDepth, run_equalIn_bool' w 9999 t m n hd]), repB _⟩
  · rename_i m n
    obtain ⟨s1, ex, e1⟩ := hx.str_inv
    obtain ⟨s2, ey, e2⟩ := hy.str_inv
    subst e1 e2
    rw [ex, ey] at wr ⊢
    have G := fun V => wr (s := pure .nilIface) (V := V) (eqGuard_str op t x y s1 s2)
    clear wr
    split at hr <;> first | cases hr | skip
    · exact ⟨rfl, _, G (.bool (s1.data.toList == s2.data.toList)) (by simp only [binOp, Op.stringOp, str_beq, Sem.run_pure]), repB _⟩
    · exact ⟨rfl, _, G (.bool (!(s1.data.toList == s2.data.toList))) (by simp only [binOp, Op.stringOp, str_beq, Sem.run_pure]), repB _⟩
    · have hl := hob _ (List.mem_singleton.2 rfl)
      refine ⟨rfl, .string (s1 ++ s2), G _ ?_, ?_⟩
      · have : ¬ ((s1.size + s2.size : Nat) : Int) > IntKind.i64.max := by
          have e1 : s1.data.toList.length = s1.size := by rw [Array.length_toList]; rfl
          have e2 : s2.data.toList.length = s2.size := by rw [Array.length_toList]; rfl
          rw [e1, e2] at hl
          have : IntKind.i64.max = 9223372036854775807 := by decide
          omega
        simp only [binOp, Op.stringOp, this, if_false, Sem.run_pure]
      · have : (s1 ++ s2).data.toList = s1.data.toList ++ s2.data.toList := by simp
        rw [← this]
        exact .stat (.str _)
  · rename_i ss xs ts ys
    split at hr
    case h_2 => cases hr
    rename_i b hc hb
    simp only [Bool.and_eq_true] at hc
    obtain ⟨us, vs, ex, ey, hg, hq⟩ := struct_eq hT hte hc.1 (Shape.same_eq _ _ hc.2.1) (Shape.same_eq _ _ hc.2.2) hb hx hy
    rw [ex, ey] at wr ⊢
    have G := fun V => wr (s := pure .nilIface) (V := V) (run_eqGuard_agg w op t x y us vs hg)
    clear wr
    split at hr <;> first | cases hr | skip
    · exact ⟨rfl, _, G (.bool b) (by rw [run_eql_struct, hq]; rfl), repB _⟩
    · exact ⟨rfl, _, G (.bool (!b)) (by rw [run_neq_struct, hq]; rfl), repB _⟩
  · cases hr
end
end Go.AV
