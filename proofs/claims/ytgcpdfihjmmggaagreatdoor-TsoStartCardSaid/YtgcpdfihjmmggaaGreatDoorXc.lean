import Derived.Test.YtgcpdfihjmmggaaGreatDoorXb
import Derived.Laws.StructEq
import Derived.ChangeKeysEq
import Derived.Lib.Strings
namespace Go.AV
open Go.RowKit
section
variable {C : Cfg} {W0 : Entry} {F0 : Nat -> Prop} {st : St} {a : Act} {w : World} {F : Nat -> Prop} {φ : Nat -> Place} {e : Operand -> Option AV} {dst : Option Nat} {orc : FuncId -> List AV -> Option AV} {CC : FuncId -> List AV -> AV -> Prop} {r : Res} {o : Oper}
theorem z5w {k : IntKind} {n : Int} (hob : ∀ p ∈ (z8j C k n).obs, p) : Rep w F φ (.int k (k.wrap n)) (z8j C k n).val := by
  unfold z8j at *
  split
  . exact .stat (.int _ _ (z6q n))
  . rename_i hw
    simp only [hw] at hob
    have := hob _ (List.mem_singleton.2 rfl)
    unfold InR at this
    exact .stat (by rw [this]; exact .int _ _ this)
theorem z5x {k : IntKind} {n : Int} : (z8j C k n).eff = .none := by unfold z8j; split <;> rfl
theorem zfr (op : BinOp) (t : TypeId) (x y : Operand) (k k' : IntKind) (m n : Int) : (eqGuard op t x y (.int k m) (.int k' n)).run C.P w = .ok () w := by cases op <;> simp [eqGuard]
theorem ze6 (op : BinOp) (t : TypeId) (x y : Operand) (m n : Bool) : (eqGuard op t x y (.bool m) (.bool n)).run C.P w = .ok () w := by cases op <;> simp [eqGuard]
theorem zfs (op : BinOp) (t : TypeId) (x y : Operand) (m n : ByteArray) : (eqGuard op t x y (.string m) (.string n)).run C.P w = .ok () w := by cases op <;> simp [eqGuard]
theorem zft (s t : ByteArray) : (s.toList == t.toList) = (s.data.toList == t.data.toList) := by rw [ByteArray.toList_eq, ByteArray.toList_eq]
theorem repB (b : Bool) : Rep w F φ (.bool b) (.bool b) := .stat (.bool b)
theorem ze7 {P : Program} {d : Nat} {t : TypeId} {te : TyE} {dd : TypeDesc} (hd : P.underlying t = some dd) (hk : z5n C te.sh dd te.kind) {x y : AV} {u v : Value} {b : Bool} (hb : eqAV te.kind x y = some b)
    (rx : Rep w F φ u x) (ry : Rep w F φ v y) : (Op.equalIn (d + 1) t u v).run P w = .ok b w := by
  unfold eqAV at hb
  split at hb
  . rename_i h1
    rw [h1] at hk
    split at hb
    . rename_i e
      cases hb
      obtain ⟨rfl, _⟩ := rx.int_inv
      obtain ⟨rfl, _⟩ := ry.int_inv
      obtain ⟨rfl, _⟩ := hk
      rw [of_decide_eq_true e]
      exact run_equalIn_int w d t _ _ _ _ hd
    . cases hb
  . rename_i h1
    rw [h1] at hk
    cases hb
    obtain rfl := rx.bool_inv
    obtain rfl := ry.bool_inv
    obtain ⟨rfl, _⟩ := hk
    exact run_equalIn_bool' w d t _ _ hd
  . rename_i h1
    rw [h1] at hk
    cases hb
    obtain ⟨s1, rfl, rfl⟩ := rx.str_inv
    obtain ⟨s2, rfl, rfl⟩ := ry.str_inv
    obtain ⟨rfl, _⟩ := hk
    rw [run_equalIn_string w d t _ _ hd, zft]
  . cases hb
theorem zgy {k : TyK} {x y : AV} {b : Bool} (h : eqAV k x y = some b) : x.isOne = true /\ y.isOne = true := by
  unfold eqAV at h
  split at h <;> first | exact ⟨rfl, rfl⟩ | cases h
theorem zim {d : Nat} {xs ys : Array Value} (hT : z12 C) :
    ∀ (fs : List Field) (ss : List Shape) (l m : List AV) (off : Nat) (b : Bool), ze0 C (fs.map (·.type)) l m = some b ->
    (∀ (i : Nat) (f : Field), fs[i]? = some f -> ∃ te, tyOf C f.type = some te /\ ss[i]? = some te.sh /\ f.offset = off + Shape.sizes (ss.take i) /\ f.name ≠ "_") ->
    (∀ f ∈ fs, ∃ tf, tyOf C f.type = some tf /\ tf.sh = .leaf) ->
    (∀ j, j < Shape.sizes ss -> Rep w F φ (xs.getD (off + j) undef) (zf ss l j) /\ off + j < xs.size) ->
    (∀ j, j < Shape.sizes ss -> Rep w F φ (ys.getD (off + j) undef) (zf ss m j) /\ off + j < ys.size) ->
    (Op.eqFields (d + 1) xs ys fs).run C.P w = .ok b w := by
  intro fs
  induction fs with
  | nil =>
    intro ss l m off b hb _ _ _ _
    cases l <;> cases m <;> simp [ze0] at hb
    subst hb
    simp [Op.eqFields]
  | cons f fs ih =>
    intro ss l m off b hb hf hk hx hy
    cases l with
    | nil => simp [ze0] at hb
    | cons x l =>
      cases m with
      | nil => simp [ze0] at hb
      | cons y m =>
        obtain ⟨te, ht, hs0, hoff, hname⟩ := hf 0 f rfl
        obtain ⟨tf, htf, hleaf⟩ := hk f (by simp)
        rw [ht] at htf; cases htf
        cases ss with
        | nil => simp at hs0
        | cons s ss =>
          simp at hs0
          subst hs0
          rw [hleaf] at hf hx hy hoff
          simp only [List.map_cons, ze0, ht] at hb
          split at hb
          . rename_i b1 b2 hb1 hb2
            cases hb
            have hx0 := hx 0 (by simp [Shape.sizes, Shape.size]; omega)
            have hy0 := hy 0 (by simp [Shape.sizes, Shape.size]; omega)
            obtain ⟨ox, oy⟩ := zgy hb1
            simp only [Nat.add_zero, zf, Shape.size, Nat.lt_add_one, if_true, z6, z10, ox, oy] at hx0 hy0
            have T := hT _ _ ht
            have hagg : (isAgg f.type).run C.P w = .ok false w := by rw [T.agg, hleaf]; rfl
            have hoff' : f.offset = off := by simpa [Shape.sizes] using hoff
            have gx : xs[off]? = some (xs.getD off undef) := by simp [hx0.2]
            have gy : ys[off]? = some (ys.getD off undef) := by simp [hy0.2]
            have px : (part f.type xs f.offset).run C.P w = .ok (xs.getD off undef) w := by simp only [part, Sem.run_bind, hagg, hoff', gx, Result.andThen_ok, Bool.false_eq_true, if_false, Sem.run_pure]
            have py : (part f.type ys f.offset).run C.P w = .ok (ys.getD off undef) w := by simp only [part, Sem.run_bind, hagg, hoff', gy, Result.andThen_ok, Bool.false_eq_true, if_false, Sem.run_pure]
            have hrest : (Op.eqFields (d + 1) xs ys fs).run C.P w = .ok b2 w := by
              refine ih ss l m (off + 1) b2 hb2 (fun i f' hi => ?_) (fun f' hf' => hk f' (by simp [hf'])) (fun j hj => ?_) (fun j hj => ?_)
              . obtain ⟨te', a1, a2, a3, a4⟩ := hf (i + 1) f' (by simpa using hi)
                exact ⟨te', a1, by simpa using a2, by rw [a3]; simp [Shape.sizes, Shape.size, Nat.add_assoc], a4⟩
              . have := hx (1 + j) (by simp [Shape.sizes, Shape.size]; omega)
                simp only [zf] at this
                rw [if_neg (show ¬ 1 + j < Shape.leaf.size by simp [Shape.size]), show 1 + j - Shape.leaf.size = j from by simp [Shape.size], show off + (1 + j) = off + 1 + j from by omega] at this
                exact this
              . have := hy (1 + j) (by simp [Shape.sizes, Shape.size]; omega)
                simp only [zf] at this
                rw [if_neg (show ¬ 1 + j < Shape.leaf.size by simp [Shape.size]), show 1 + j - Shape.leaf.size = j from by simp [Shape.size], show off + (1 + j) = off + 1 + j from by omega] at this
                exact this
            have heq : (Op.equalIn (d + 1) f.type (xs.getD off undef) (ys.getD off undef)).run C.P w = .ok b1 w := by
              obtain ⟨ds, i, z, hd, _, _, _, _, _, hki, _⟩ := T.info
              exact ze7 hd hki hb1 hx0.1 hy0.1
            rw [Op.eqFields]
            simp only [hname, ne_eq, not_false_eq_true, if_true, Sem.run_bind, px, py, heq, Result.andThen_ok, Sem.run_ite, Sem.run_pure, hrest]
            cases b1 <;> simp
          . cases hb
theorem zjk {t : TypeId} {te : TyE} {ss ts : List Shape} {l m : List AV} {u v : Value} {b : Bool} (hT : z12 C) (hte : tyOf C t = some te) (hq : te.eqs = true) (h1 : Shape.agg ss = te.sh) (h2 : Shape.agg ts = te.sh)
    (hb : ze0 C (fieldsOf te.kind) l m = some b) (rx : Rep w F φ u (.mc (.agg ss) (.agg l))) (ry : Rep w F φ v (.mc (.agg ts) (.agg m))) :
    ∃ xs ys, u = .agg xs /\ v = .agg ys /\ C.P.eqGuardType C.P.depth t = false /\ (Op.equalIn 10000 t (.agg xs) (.agg ys)).run C.P w = .ok b w := by
  have T := hT t te hte
  obtain ⟨e1, e2, hq⟩ := T.eqs hq
  obtain ⟨d, i, z, hd, _, _, _, _, _, hki, _⟩ := T.info
  rcases hq with ⟨fs, hk, hfs⟩ | ⟨n, e, tf, hk, _, _⟩
  case inr =>
    rw [hk] at hki
    obtain ⟨_, te', _, hs⟩ := hki
    rw [hs] at h1; cases h1
  rw [hk] at hki hb
  obtain ⟨fields, ss', rfl, hsh, hlen, rfl, hf⟩ := hki
  rw [hsh] at h1 h2
  obtain rfl : ss' = ss := by injection h1 with h; exact h.symm
  obtain rfl : ss' = ts := by injection h2 with h; exact h.symm
  obtain ⟨xs, rfl, hxs, hrx⟩ := rx.mc_inv
  obtain ⟨ys, rfl, hys, hry⟩ := ry.mc_inv
  refine ⟨xs, ys, rfl, rfl, e1, ?_⟩
  have hfo : C.P.fieldsOf t = fields := by simp [Program.fieldsOf, hd]
  rw [run_equalIn_struct w 9999 t xs ys (by rw [hfo]; exact hd) e2, hfo]
  simp only [Shape.size] at hxs hys hrx hry
  refine zim (F := F) (φ := φ) hT fields.toList ss' l m 0 b hb (fun i f hi => ?_) (fun f hfm => ?_) (fun j hj => ?_) (fun j hj => ?_)
  . obtain ⟨te', a1, a2, a3, a4⟩ := hf i f (by simpa using hi)
    exact ⟨te', a1, a2, by rw [a3]; simp, a4⟩
  . obtain ⟨tf, a1, a2, _⟩ := hfs f.type (List.mem_map.2 ⟨f, hfm, rfl⟩)
    exact ⟨tf, a1, a2⟩
  . rw [Nat.zero_add]; exact ⟨hrx j hj, by omega⟩
  . rw [Nat.zero_add]; exact ⟨hry j hj, by omega⟩
theorem za9 {d : Nat} {e : TypeId} {tf : TyE} {dd : TypeDesc} {xs ys : Array Value} {f g : Nat -> AV} (hd : C.P.underlying e = some dd) (hk : z5n C tf.sh dd tf.kind) (hl : tf.sh = .leaf) (hc : C.P.cellsOf e = 1) :
    ∀ (l : List Nat) (b : Bool), za5 tf.kind f g l = some b -> (∀ j ∈ l, j < xs.size /\ Rep w F φ (xs.getD j undef) (f j)) -> (∀ j ∈ l, j < ys.size /\ Rep w F φ (ys.getD j undef) (g j)) ->
    (Op.eqItems (d + 1) e (C.P.cellsOf e) xs ys l).run C.P w = .ok b w
  | [], b, hb, _, _ => by
    simp only [za5, Option.some.injEq] at hb
    subst hb
    simp [Op.eqItems]
  | i :: l, b, hb, hx, hy => by
    simp only [za5] at hb
    split at hb
    case h_2 => cases hb
    rename_i b1 b2 h1 h2
    cases hb
    obtain ⟨x1, x2⟩ := hx i (by simp)
    obtain ⟨y1, y2⟩ := hy i (by simp)
    have hagg : (isAgg e).run C.P w = .ok false w := by rw [ze4 hd, zbt hk, hl]; rfl
    have gx : xs[i]? = some (xs.getD i undef) := by simp [x1]
    have gy : ys[i]? = some (ys.getD i undef) := by simp [y1]
    have px : (part e xs (i * C.P.cellsOf e)).run C.P w = .ok (xs.getD i undef) w := by simp only [part, Sem.run_bind, hagg, hc, Nat.mul_one, gx, Result.andThen_ok, Bool.false_eq_true, if_false, Sem.run_pure]
    have py : (part e ys (i * C.P.cellsOf e)).run C.P w = .ok (ys.getD i undef) w := by simp only [part, Sem.run_bind, hagg, hc, Nat.mul_one, gy, Result.andThen_ok, Bool.false_eq_true, if_false, Sem.run_pure]
    have hrest := za9 (d := d) hd hk hl hc l b2 h2 (fun j hj => hx j (by simp [hj])) (fun j hj => hy j (by simp [hj]))
    have heq : (Op.equalIn (d + 1) e (xs.getD i undef) (ys.getD i undef)).run C.P w = .ok b1 w := ze7 hd hk h1 x2 y2
    rw [Op.eqItems]
    simp only [Sem.run_bind, px, py, heq, Result.andThen_ok]
    cases b1
    . simp
    . simpa using hrest
theorem zua {t : TypeId} {te : TyE} {n m n1 m1 : Nat} {s s' : Shape} {f g : Nat -> AV} {u v : Value} {b : Bool} (hT : z12 C) (hte : tyOf C t = some te) (hq : te.eqs = true) (h1 : Shape.arr n s = te.sh) (h2 : Shape.arr m s' = te.sh)
    (hb : zrd C te n f g = some b) (rx : Rep w F φ u (.mc (.arr n s) (.arr n1 f))) (ry : Rep w F φ v (.mc (.arr m s') (.arr m1 g))) :
    ∃ xs ys, u = .agg xs /\ v = .agg ys /\ C.P.eqGuardType C.P.depth t = false /\ (Op.equalIn 10000 t (.agg xs) (.agg ys)).run C.P w = .ok b w := by
  have T := hT t te hte
  obtain ⟨e1, e2, hq⟩ := T.eqs hq
  obtain ⟨d, i, z, hd, _, _, _, _, _, hki, _⟩ := T.info
  unfold zrd at hb
  split at hb
  case h_2 => cases hb
  rename_i k e hk
  split at hb
  case h_2 => cases hb
  rename_i tf hkn htf
  obtain rfl := Nat.eq_of_beq_eq_true hkn
  rcases hq with ⟨fs, hk', _⟩ | ⟨n', e', tf', hk', htf', hl⟩
  . rw [hk] at hk'; cases hk'
  rw [hk] at hk'
  cases hk'
  rw [htf] at htf'
  cases htf'
  rw [hk] at hki
  obtain ⟨rfl, te2, hte2, hsh⟩ := hki
  rw [htf] at hte2
  cases hte2
  rw [hl] at hsh
  obtain ⟨rfl, rfl⟩ : s = .leaf /\ s' = .leaf := by
    rw [hsh] at h1 h2
    cases h1; cases h2
    exact ⟨rfl, rfl⟩
  obtain rfl : k = m := by
    rw [<- h2] at h1
    cases h1; rfl
  obtain ⟨xs, rfl, hxs, hrx⟩ := rx.mc_inv
  obtain ⟨ys, rfl, hys, hry⟩ := ry.mc_inv
  obtain ⟨d2, i2, z2, hd2, hi2, hsz2, _, _, _, hki2, _⟩ := (hT e tf htf).info
  have hc : C.P.cellsOf e = 1 := by
    rw [hl] at hsz2
    simp [Program.cellsOf, hi2, hsz2, Shape.size]
  refine ⟨xs, ys, rfl, rfl, e1, ?_⟩
  rw [run_equalIn_array w 9999 xs ys hd hi2]
  simp only [Shape.size, Nat.mul_one] at hxs hys hrx hry
  have key : ∀ (q : Nat -> AV) (zs : Array Value) (n0 : Nat), zs.size = k -> (∀ j, j < k -> Rep w F φ (zs.getD j undef) (z6 (.arr k .leaf) (.arr n0 q) j)) -> (∀ j ∈ List.range k, (q j).isOne = true) -> ∀ j ∈ List.range k, j < zs.size /\ Rep w F φ (zs.getD j undef) (q j) := by
    intro q zs n0 hs hr h1 j hj
    have hj' := List.mem_range.1 hj
    refine ⟨by omega, ?_⟩
    have := hr j hj'
    simp only [z6, Shape.size, Nat.div_one, z10, h1 j hj] at this
    exact this.strip (.st (.refl _))
  have one : ∀ (l : List Nat) (b : Bool), za5 tf.kind f g l = some b -> ∀ j ∈ l, (f j).isOne = true /\ (g j).isOne = true := by
    intro l
    induction l with
    | nil => intro b _ j hj; cases hj
    | cons a l ih =>
      intro b hb j hj
      simp only [za5] at hb
      split at hb
      case h_2 => cases hb
      rename_i b1 b2 q1 q2
      rcases List.mem_cons.1 hj with rfl | hj
      . exact zgy q1
      . exact ih _ q2 j hj
  have ho := one _ _ hb
  exact za9 (d := 9998) hd2 hki2 hl hc _ b hb (key f xs _ hxs hrx fun j hj => (ho j hj).1) (key g ys _ hys hry fun j hj => (ho j hj).2)
theorem zn5 {op : BinOp} {t t' : TypeId} {x y : Operand} {te : TyE} {u v : AV} (hT : z12 C) (hte : tyOf C t = some te) (ho : o.op = .binOp op t x y t') (hsh : op ≠ .shl /\ op ≠ .shr) (hr : zjg C te op u v = some r)
    (hx : Rep w F φ (a.eval x) u) (hy : Rep w F φ (a.eval y) v) (hob : ∀ p ∈ r.obs, p) : z2f C o a w F φ r := by
  have T := hT t te hte
  unfold z2f
  simp only [execOp, ho]
  have wr : ∀ {s : Sem Value} {V : Value}, (eqGuard op t x y (a.eval x) (a.eval y)).run C.P w = .ok () w -> (binOp op t (a.eval x) (a.eval y)).run C.P w = .ok V w ->
      (do let v <- (do eqGuard op t x y (a.eval x) (a.eval y); binOp op t (a.eval x) (a.eval y) : Sem Value); pure (Next.value v) : Sem Next).run C.P w = .ok (.value V) w := by
    intro s V h1 h2
    simp [h1, h2]
  unfold zjg at hr
  split at hr
  . rename_i k m k' n
    split at hr
    case h_2 => cases hr
    rename_i hk
    have hk := of_decide_eq_true hk
    subst hk
    obtain ⟨ex, _⟩ := hx.int_inv
    obtain ⟨ey, _⟩ := hy.int_inv
    rw [ex, ey] at wr ⊢
    have G := fun V => wr (s := pure .nilIface) (V := V) (zfr op t x y k k m n)
    clear wr
    split at hr <;> first | cases hr | skip
    . exact ⟨z5x, _, G (.int k (k.wrap (m + n))) (by simp [binOp, Op.intArith]), z5w hob⟩
    . exact ⟨z5x, _, G (.int k (k.wrap (m - n))) (by simp [binOp, Op.intArith]), z5w hob⟩
    . exact ⟨z5x, _, G (.int k (k.wrap (m * n))) (by simp [binOp, Op.intArith]), z5w hob⟩
    . have hz : n ≠ 0 := hob _ (by simp)
      exact ⟨z5x, _, G (.int k (k.wrap (m.tdiv n))) (by simp [binOp, Op.intDiv, hz]), z5w fun p hp => hob p (by simp [hp])⟩
    . have hz : n ≠ 0 := hob _ (by simp)
      have hi : InR k (m.tmod n) := hob _ (by simp)
      exact ⟨rfl, _, G (.int k (m.tmod n)) (by simp [binOp, Op.intDiv, hz]), .stat (.int _ _ hi)⟩
    . exact ⟨rfl, _, G (.bool (m == n)) (by simp [binOp, Op.intCmp]), repB _⟩
    . exact ⟨rfl, _, G (.bool (m != n)) (by simp [binOp, Op.intCmp]), repB _⟩
    . exact ⟨rfl, _, G (.bool (decide (m < n))) (by simp [binOp, Op.intCmp]), repB _⟩
    . exact ⟨rfl, _, G (.bool (decide (m <= n))) (by simp [binOp, Op.intCmp]), repB _⟩
    . exact ⟨rfl, _, G (.bool (decide (n < m))) (by simp [binOp, Op.intCmp]), repB _⟩
    . exact ⟨rfl, _, G (.bool (decide (n <= m))) (by simp [binOp, Op.intCmp]), repB _⟩
    . exact ⟨rfl, _, G (.int k (bits .and k m n)) (by simp [binOp, intBits_and]), .stat (.int _ _ (z6q _))⟩
    . exact ⟨rfl, _, G (.int k (bits .or k m n)) (by simp [binOp, intBits_or]), .stat (.int _ _ (z6q _))⟩
    . exact ⟨rfl, _, G (.int k (bits .xor k m n)) (by simp [binOp, intBits_xor]), .stat (.int _ _ (z6q _))⟩
  . rename_i m n
    split at hr
    case h_2 => cases hr
    rename_i hk
    obtain ⟨d, i, z, hd, _, _, _, _, _, hki, _⟩ := T.info
    rw [hk] at hki
    obtain ⟨rfl, _⟩ := hki
    have ex := hx.bool_inv
    have ey := hy.bool_inv
    rw [ex, ey] at wr ⊢
    have G := fun V => wr (s := pure .nilIface) (V := V) (ze6 op t x y m n)
    clear wr
    split at hr <;> first | cases hr | skip
    . exact ⟨rfl, _, G (.bool (m == n)) (by simp [binOp, Op.equal, Op.maxDepth, run_equalIn_bool' w 9999 t m n hd]), repB _⟩
    . exact ⟨rfl, _, G (.bool (!(m == n))) (by simp [binOp, Op.equal, Op.maxDepth, run_equalIn_bool' w 9999 t m n hd]), repB _⟩
  . rename_i m n
    obtain ⟨s1, ex, e1⟩ := hx.str_inv
    obtain ⟨s2, ey, e2⟩ := hy.str_inv
    subst e1 e2
    rw [ex, ey] at wr ⊢
    have G := fun V => wr (s := pure .nilIface) (V := V) (zfs op t x y s1 s2)
    clear wr
    split at hr <;> first | cases hr | skip
    . exact ⟨rfl, _, G (.bool (s1.data.toList == s2.data.toList)) (by simp only [binOp, Op.stringOp, zft, Sem.run_pure]), repB _⟩
    . exact ⟨rfl, _, G (.bool (!(s1.data.toList == s2.data.toList))) (by simp only [binOp, Op.stringOp, zft, Sem.run_pure]), repB _⟩
    . have hl := hob _ (List.mem_singleton.2 rfl)
      refine ⟨rfl, .string (s1 ++ s2), G _ ?_, ?_⟩
      . have : ¬ ((s1.size + s2.size : Nat) : Int) > IntKind.i64.max := by
          have e1 : s1.data.toList.length = s1.size := by rw [Array.length_toList]; rfl
          have e2 : s2.data.toList.length = s2.size := by rw [Array.length_toList]; rfl
          rw [e1, e2] at hl
          have : IntKind.i64.max = 9223372036854775807 := by decide
          omega
        simp only [binOp, Op.stringOp, this, if_false, Sem.run_pure]
      . have : (s1 ++ s2).data.toList = s1.data.toList ++ s2.data.toList := by simp
        rw [<- this]
        exact .stat (.str _)
  . rename_i ss xs ts ys
    split at hr
    case h_2 => cases hr
    rename_i b hc hb
    simp only [Bool.and_eq_true] at hc
    obtain ⟨us, vs, ex, ey, hg, hq⟩ := zjk hT hte hc.1 (Shape.same_eq _ _ hc.2.1) (Shape.same_eq _ _ hc.2.2) hb hx hy
    rw [ex, ey] at wr ⊢
    have G := fun V => wr (s := pure .nilIface) (V := V) (run_eqGuard_agg w op t x y us vs hg)
    clear wr
    split at hr <;> first | cases hr | skip
    . exact ⟨rfl, _, G (.bool b) (by rw [run_eql_struct, hq]; rfl), repB _⟩
    . exact ⟨rfl, _, G (.bool (!b)) (by rw [run_neq_struct, hq]; rfl), repB _⟩
  . rename_i n s n1 f m s' m1 g
    split at hr
    case h_2 => cases hr
    rename_i b hc hb
    simp only [Bool.and_eq_true] at hc
    obtain ⟨us, vs, ex, ey, hg, hq⟩ := zua hT hte hc.1 (Shape.same_eq _ _ hc.2.1) (Shape.same_eq _ _ hc.2.2) hb hx hy
    rw [ex, ey] at wr ⊢
    have G := fun V => wr (s := pure .nilIface) (V := V) (run_eqGuard_agg w op t x y us vs hg)
    clear wr
    split at hr <;> first | cases hr | skip
    . exact ⟨rfl, _, G (.bool b) (by rw [run_eql_struct, hq]; rfl), repB _⟩
    . exact ⟨rfl, _, G (.bool (!b)) (by rw [run_neq_struct, hq]; rfl), repB _⟩
  . cases hr
end
end Go.AV
namespace Go.AV
open Go.RowKit
section
variable {C : Cfg} {W0 : Entry} {F0 : Nat -> Prop} {st : St} {a : Act} {w : World} {F : Nat -> Prop} {φ : Nat -> Place} {e : Operand -> Option AV} {dst : Option Nat} {orc : FuncId -> List AV -> Option AV} {CC : FuncId -> List AV -> AV -> Prop} {r : Res} {o : Oper}
theorem zbu {op : BinOp} {t t' : TypeId} {x y : Operand} {u v : AV} (ho : o.op = .binOp op t x y t') (hr : za6 op u v = some r)
    (hx : Rep w F φ (a.eval x) u) (hy : Rep w F φ (a.eval y) v) (hob : ∀ p ∈ r.obs, p) : z2f C o a w F φ r := by
  unfold z2f
  simp only [execOp, ho]
  unfold za6 at hr
  split at hr
  case h_2 => cases hr
  rename_i k m k' n
  obtain ⟨ex, _⟩ := hx.int_inv
  obtain ⟨ey, _⟩ := hy.int_inv
  rw [ex, ey]
  split at hr <;> first | cases hr | skip
  . have hb : 0 <= n /\ n <= k.bits := hob _ (by simp)
    exact ⟨rfl, .int k (k.wrap (m * 2 ^ n.toNat)), by simp [eqGuard, binOp, shift_shl k k' m n hb.1 hb.2], .stat (.int _ _ (z6q _))⟩
  . have hb : 0 <= n /\ n <= k.bits := hob _ (by simp)
    have hi : InR k (m / 2 ^ n.toNat) := hob _ (by simp)
    exact ⟨rfl, .int k (m / 2 ^ n.toNat), by simp [eqGuard, binOp, shift_shr k k' m n hb.1 hb.2], .stat (.int _ _ hi)⟩
theorem zin {op : BinOp} {t t' : TypeId} {x y : Operand} (hT : z12 C) (ho : o.op = .binOp op t x y t') (hr : zj C st e dst orc CC (.binOp op t x y t') = some r)
    (hx : ∀ u, e x = some u -> Rep w F φ (a.eval x) u) (hy : ∀ u, e y = some u -> Rep w F φ (a.eval y) u) (hob : ∀ p ∈ r.obs, p) : z2f C o a w F φ r := by
  simp only [zj] at hr
  split at hr
  . split at hr
    . rename_i h1 h2; exact zbu ho hr (hx _ h1) (hy _ h2) hob
    . cases hr
  . split at hr
    . rename_i h1 h2; exact zbu ho hr (hx _ h1) (hy _ h2) hob
    . cases hr
  . rename_i n1 n2
    split at hr
    . rename_i h1 h2 h3; exact zn5 hT h1 ho ⟨n1, n2⟩ hr (hx _ h2) (hy _ h3) hob
    . cases hr
theorem zjl {op : UnOp} {t : TypeId} {x : Operand} (ho : o.op = .unOp op t x) (hr : zj C st e dst orc CC (.unOp op t x) = some r) (hx : ∀ u, e x = some u -> Rep w F φ (a.eval x) u) (hob : ∀ p ∈ r.obs, p) :
    z2f C o a w F φ r := by
  simp only [zj] at hr
  split at hr
  . rename_i h1
    cases hr
    have := (hx _ h1).bool_inv
    exact ⟨rfl, .bool (!_), by simp [execOp, ho, Op.unary, this], repB _⟩
  . rename_i k n h1
    cases hr
    obtain ⟨this, _⟩ := (hx _ h1).int_inv
    exact ⟨z5x, .int k (k.wrap (0 - n)), by simp [execOp, ho, Op.unary, Op.intArith, this], z5w hob⟩
  . cases hr
theorem zzm {k k' : IntKind} {n : Int} (hk : zjh k k' = true) (h : InR k n) : k'.wrap n = n := by
  unfold InR at h
  cases k <;> cases k' <;> simp [zjh] at hk <;> first | exact h | (simp only [IntKind.wrap, IntKind.signed, IntKind.bits] at h ⊢; simp at h ⊢; (repeat' split at h) <;> (repeat' split) <;> omega)
theorem zcu {t : TypeId} {te : TyE} {k : IntKind} (T : TyOK C t te) (hk : te.kind = .int k) : C.P.underlying t = some (.int k) := by
  obtain ⟨d, i, z, hd, _, _, _, _, _, hki, _⟩ := T.info
  rw [hk] at hki
  rw [hd, hki.1]
theorem z2x {t : TypeId} {te : TyE} (T : TyOK C t te) (hk : te.kind = .string) : C.P.underlying t = some .string := by
  obtain ⟨d, i, z, hd, _, _, _, _, _, hki, _⟩ := T.info
  rw [hk] at hki
  rw [hd, hki.1]
theorem z2m {t : TypeId} {te : TyE} {el : TypeId} (T : TyOK C t te) (hk : te.kind = .slice el) : C.P.underlying t = some (.slice el) := by
  obtain ⟨d, i, z, hd, _, _, _, _, _, hki, _⟩ := T.info
  rw [hk] at hki
  rw [hd, hki.1]
theorem zcv {t : TypeId} {te : TyE} {n : Nat} {el : TypeId} (T : TyOK C t te) (hk : te.kind = .arr n el) : C.P.underlying t = some (.array n el) /\ ∃ tl, tyOf C el = some tl /\ te.sh = .arr n tl.sh := by
  obtain ⟨d, i, z, hd, _, _, _, _, _, hki, _⟩ := T.info
  rw [hk] at hki
  exact ⟨by rw [hd, hki.1], hki.2⟩
theorem zaa {t : TypeId} {te : TyE} {fs : List TypeId} (T : TyOK C t te) (hk : te.kind = .struct fs) : ∃ (fields : Array Field) (ss : List Shape), C.P.underlying t = some (.struct fields) /\ te.sh = .agg ss /\ ss.length = fs.length /\ fs = fields.toList.map (·.type) /\
      ∀ i : Nat, ∀ f : Field, fields[i]? = some f -> ∃ te, tyOf C f.type = some te /\ ss[i]? = some te.sh /\ f.offset = Shape.sizes (ss.take i) /\ f.name ≠ "_" := by
  obtain ⟨d, i, z, hd, _, _, _, _, _, hki, _⟩ := T.info
  rw [hk] at hki
  obtain ⟨fields, ss, rfl, h⟩ := hki
  exact ⟨fields, ss, hd, h⟩
theorem ze8 {s d : TypeId} {x : Operand} (hT : z12 C) (ho : o.op = .convert s d x) (hr : zj C st e dst orc CC (.convert s d x) = some r) (hx : ∀ u, e x = some u -> Rep w F φ (a.eval x) u) : z2f C o a w F φ r := by
  simp only [zj] at hr
  split at hr
  . rename_i ts td k n h1 h2 h3
    obtain ⟨ev, hin⟩ := (hx _ h3).int_inv
    split at hr
    . rename_i k0 k' e1 e2
      have u1 := zcu (hT _ _ h1) e1
      have u2 := zcu (hT _ _ h2) e2
      have run : (execOp a.eval o).run C.P w = .ok (.value (.int k' (k'.wrap n))) w := by
        simp [execOp, ho, ev, convert, run_underlying u1, run_underlying u2, Conv.intToInt]
      split at hr
      . rename_i hw
        cases hr
        simp only [Bool.and_eq_true] at hw
        have hk0 := of_decide_eq_true hw.1
        subst hk0
        have := zzm hw.2 hin
        exact ⟨rfl, _, run, by rw [this]; exact .stat (.int _ _ this)⟩
      . cases hr
        exact ⟨rfl, _, run, .stat (.int _ _ (z6q _))⟩
    . cases hr
  . rename_i ts td l h1 h2 h3
    obtain ⟨s', ev, rfl⟩ := (hx _ h3).str_inv
    split at hr
    . rename_i e1 e2
      cases hr
      have u1 := z2x (hT _ _ h1) e1
      have u2 := z2x (hT _ _ h2) e2
      exact ⟨rfl, .string s', by simp [execOp, ho, ev, convert, run_underlying u1, run_underlying u2], .stat (.str _)⟩
    . cases hr
  . cases hr
theorem z7g : ∀ {l : List Operand} {m : List AV}, z2e e l = some m -> (∀ x ∈ l, ∀ u, e x = some u -> Rep w F φ (a.eval x) u) -> l.length = m.length /\ ∀ j, j < m.length -> Rep w F φ ((l.map a.eval).getD j undef) (m.getD j .any)
  | [], m, h, _ => by simp [z2e] at h; subst h; exact ⟨rfl, fun j hj => by simp at hj⟩
  | x :: l, m, h, hx => by
    simp only [z2e] at h
    split at h
    . rename_i v vs h1 h2
      cases h
      obtain ⟨a1, a2⟩ := z7g h2 fun y hy => hx y (by simp [hy])
      refine ⟨by simp [a1], fun j hj => ?_⟩
      cases j with
      | zero => simpa using hx x (by simp) v h1
      | succ j => simpa using a2 j (by simpa using hj)
    . cases h
theorem zcw {fn : Fn} {first caps : Array Operand} (ho : o.op = .makeFunc fn first caps) (hr : zj C st e dst orc CC (.makeFunc fn first caps) = some r)
    (hx : ∀ x ∈ caps.toList, ∀ u, e x = some u -> Rep w F φ (a.eval x) u) : z2f C o a w F φ r := by
  cases fn <;> simp only [zj] at hr <;> try cases hr
  rename_i f
  split at hr
  . rename_i l h1 h2
    cases hr
    obtain ⟨a1, a2⟩ := z7g h2 hx
    have hf : first = #[] := Array.eq_empty_of_size_eq_zero h1
    subst hf
    refine ⟨rfl, .func (.func f) #[] (caps.map a.eval), by simp [execOp, ho, Instr.makeFunc], .clo f _ l (by simpa using a1) fun j hj => ?_⟩
    have := a2 j hj
    simpa [Array.getD_eq_getD_getElem?, List.getD_eq_getElem?_getD] using this
  . cases hr
theorem ze9 {x : Operand} {i : Nat} (ho : o.op = .extract x i) (hr : zj C st e dst orc CC (.extract x i) = some r) (hx : ∀ u, e x = some u -> Rep w F φ (a.eval x) u) : z2f C o a w F φ r := by
  simp only [zj] at hr
  split at hr
  . rename_i l h1
    split at hr
    . rename_i v h2
      cases hr
      have h3 := hx _ h1
      generalize hg : a.eval x = u at h3
      cases h3 with
      | stat h => cases h
      | tup vs _ hs hc =>
        have hi := (List.getElem?_eq_some_iff.1 h2).1
        have := hc i hi
        rw [List.getD_eq_getElem?_getD, h2] at this
        have h4 : vs[i]? = some (vs.getD i undef) := by simp [hs, hi]
        exact ⟨rfl, _, by simp only [execOp, ho, hg, Instr.extract, h4, Sem.run_bind, Sem.run_pure, Result.andThen_ok], this⟩
    . cases hr
  . cases hr
theorem z3v {p : List Nat} {sh s : Shape} {i : Nat} (h : z1h p sh) (hs : z1m p sh = some s) : (z1h [i] s -> z1h (p ++ [i]) sh) /\ zk (p ++ [i]) sh = zk p sh + zk [i] s := by
  induction p generalizing sh with
  | nil => simp [z1m] at hs; subst hs; simp [zk]
  | cons k p ih =>
    cases sh with
    | leaf => simp [z1h] at h
    | agg ss =>
      simp only [List.cons_append, z1h, z1m, zk] at *
      cases hk : ss[k]? with
      | none => simp [hk] at h
      | some t =>
        simp only [hk] at h hs ⊢
        obtain ⟨a1, a2⟩ := ih h hs
        exact ⟨a1, by rw [a2]; omega⟩
    | arr n t =>
      simp only [List.cons_append, z1h, z1m, zk] at *
      obtain ⟨a1, a2⟩ := ih h.2 hs
      exact ⟨fun hp => ⟨h.1, a1 hp⟩, by rw [a2]; omega⟩
theorem zbv (h : Rel C W0 F0 st a w F φ) {b : Nat} {p : List Nat} {s : Shape} (hb : zik st b p = some s) : z1m p (φ b).sh = some s := by
  unfold zik at hb
  split at hb
  . rename_i sh x hx
    rw [(h.cells hx).1]; exact hb
  . cases hb
theorem zbw (h : Rel C W0 F0 st a w F φ) {b : Nat} {p : List Nat} {s : Shape} (hb : rowSh st b p = some s) : z1m p (φ b).sh = some s := by
  unfold rowSh at hb
  split at hb
  . rename_i ty sh n f hx
    rw [(h.heap b _ hx).1]; exact hb
  . cases hb
theorem zbj {t : TypeId} {x : Operand} {f : Nat} (h : Rel C W0 F0 st a w F φ) (hT : z12 C) (ho : o.op = .fieldAddr t x f) (hr : zj C st e dst orc CC (.fieldAddr t x f) = some r)
    (hx : ∀ u, e x = some u -> Rep w F φ (a.eval x) u) : z2f C o a w F φ r := by
  simp only [zj] at hr
  split at hr
  case h_2 => cases hr
  rename_i te v h1 h2
  split at hr
  case h_2 => cases hr
  rename_i hf
  split at hr
  case h_2 => cases hr
  rename_i r' hr'
  cases hr
  have T := hT _ _ h1
  have hkind : ∃ fs, te.kind = .struct fs /\ f < fs.length := by
    cases hk : te.kind <;> simp [hk, z6o, Nat.blt] at hf
    exact ⟨_, rfl, by omega⟩
  obtain ⟨fs, hk, hlt⟩ := hkind
  obtain ⟨fields, ss, hd, hsh, hlen, hfs, hfi⟩ := zaa T hk
  have hfl : f < fields.size := by rw [hfs] at hlt; simpa using hlt
  have hff : fields[f]? = some fields[f] := by simp [hfl]
  obtain ⟨tf, htf, hsf, hoff, _⟩ := hfi f _ hff
  have Tf := hT _ _ htf
  have run : ∀ g off, a.eval x = .pointer (some ⟨g, off, none⟩) -> (execOp a.eval o).run C.P w = .ok (.value (.pointer (some ⟨g, off + Shape.sizes (ss.take f), none⟩))) w := by
    intro g off hv
    have hpos := Tf.pos
    simp only [execOp, ho]
    refine z1j ?_
    simp only [Instr.fieldAt, Sem.run_bind, run_underlying hd, Result.andThen_ok, hff, hv, Instr.sureAddr, Sem.run_pure, fieldPlace, Tf.size]
    rw [if_neg (by omega)]
    simp [hoff, z4d]
  have hp1 : z1h [f] te.sh /\ zk [f] te.sh = Shape.sizes (ss.take f) := by
    rw [hsh]; simp [z1h, zk, hsf]
  unfold z7d at hr'
  have hrep := hx _ h2
  split at hr'
  . rename_i b p
    split at hr'
    case h_2 => cases hr'
    rename_i s hs
    split at hr'
    case h_2 => cases hr'
    rename_i hsame
    cases hr'
    have := Shape.same_eq _ _ hsame
    subst this
    obtain ⟨g, hg, hp, hv⟩ := hrep.ptr_inv
    obtain ⟨a1, a2⟩ := z3v (i := f) hp (zbv h hs)
    refine ⟨rfl, _, run g _ hv, ?_⟩
    have := Rep.ptr (w := w) (F := F) (φ := φ) b g (p ++ [f]) hg (a1 hp1.1)
    rw [a2, hp1.2] at this
    exact this
  . rename_i b i p
    split at hr'
    case h_2 => cases hr'
    rename_i s hs
    split at hr'
    case h_2 => cases hr'
    rename_i hsame
    cases hr'
    have := Shape.same_eq _ _ hsame
    subst this
    obtain ⟨g, hg, hp, hv⟩ := hrep.optr_inv
    obtain ⟨a1, a2⟩ := z3v (i := f) hp (zbw h hs)
    refine ⟨rfl, _, run g _ hv, ?_⟩
    have := Rep.optr (w := w) (F := F) (φ := φ) b g i (p ++ [f]) hg (a1 hp1.1)
    rw [a2, hp1.2, <- Nat.add_assoc] at this
    exact this
  . rename_i ss' xs
    split at hr'
    case h_2 => cases hr'
    rename_i hsame
    have := Shape.same_eq _ _ hsame
    rw [hsh] at this
    obtain rfl : ss' = ss := by injection this
    split at hr'
    case h_2 => cases hr'
    rename_i s y hs hy
    cases hr'
    obtain ⟨g, off, cs, hF, hv, hc, hrr⟩ := hrep.rptr_inv
    refine ⟨rfl, _, run g _ hv, .stat (.rptr g _ s y (fun j => cs (Shape.sizes (ss'.take f) + j)) hF (fun j hj => ?_) fun j hj => ?_)⟩
    . have := z2s hs
      rw [Nat.add_assoc]; exact hc _ (by simp only [Shape.size]; omega)
    . have h5 := z2s hs
      have h6 := hrr (Shape.sizes (ss'.take f) + j) (by simp only [Shape.size]; omega)
      simp only [z6] at h6
      rwa [z50 hs hy j hj] at h6
  . cases hr'
end
end Go.AV
namespace Go.AV
open Go.RowKit
section
variable {C : Cfg} {W0 : Entry} {F0 : Nat -> Prop} {st : St} {a : Act} {w : World} {F : Nat -> Prop} {φ : Nat -> Place} {e : Operand -> Option AV} {dst : Option Nat} {orc : FuncId -> List AV -> Option AV} {CC : FuncId -> List AV -> AV -> Prop} {r : Res} {o : Oper}
theorem z8k {x : Operand} {i : Int} (h : ixAV (e x) = some i) (hx : ∀ u, e x = some u -> Rep w F φ (a.eval x) u) : ∃ k, a.eval x = .int k i := by
  unfold ixAV at h
  split at h
  . rename_i k n hn
    cases h
    exact ⟨k, (hx _ hn).int_inv.1⟩
  . cases h
theorem Rep.nseq_seq {N : Nat -> Prop} {sh : Shape} {n : Nat} {f : Nat -> AV} {v : Value} (h : Rep w F φ v (.nseq N sh n f)) : Rep w F φ v (.seq sh n f) := by
  cases h with
  | stat h => cases h with
    | nseq0 => exact .stat (.seq0 _ _ _ _)
    | nseq _ g o _ cap _ _ cs hF _ _ hn hc hr => exact .stat (.seq g o n cap sh f cs hF hn hc hr)
theorem Rep.seq_inv {v : Value} {sh : Shape} {n : Nat} {f : Nat -> AV} (h : Rep w F φ v (.seq sh n f) ∨ Rep w F φ v (.seqc sh n f)) : ∃ A cap, v = .slice A n cap /\
    (0 < n -> n <= cap /\ ∃ g o, ∃ cs : Nat -> Nat -> Value, A = some ⟨g, o, none⟩ /\ F g /\ (∀ i, i < n -> ∀ j, j < sh.size -> w.cell? ⟨g, o + (i * sh.size + j), none⟩ = some (cs i j)) /\
      (∀ i, i < n -> ∀ j, j < sh.size -> RepS w F (cs i j) (z6 sh (f i) j))) := by
  rcases h with h | h
  . cases h with
    | stat h =>
      cases h with
      | seq0 A cap => exact ⟨A, cap, rfl, fun h => absurd h (by omega)⟩
      | seq g o n cap sh f cs hF hn hc hr => exact ⟨_, cap, rfl, fun _ => ⟨hn, g, o, cs, rfl, hF, hc, hr⟩⟩
  . cases h with
    | stat h =>
      cases h with
      | seqc0 A => exact ⟨A, 0, rfl, fun h => absurd h (by omega)⟩
      | seqc g o n sh f cs hF hc hr => exact ⟨_, n, rfl, fun _ => ⟨Nat.le_refl _, g, o, cs, rfl, hF, hc, hr⟩⟩
theorem zbk {t : TypeId} {x ix : Operand} (h : Rel C W0 F0 st a w F φ) (hT : z12 C) (ho : o.op = .indexAddr t x ix) (hr : zj C st e dst orc CC (.indexAddr t x ix) = some r)
    (hx : ∀ u, e x = some u -> Rep w F φ (a.eval x) u) (hi : ∀ u, e ix = some u -> Rep w F φ (a.eval ix) u) (hob : ∀ p ∈ r.obs, p) : z2f C o a w F φ r := by
  simp only [zj] at hr
  split at hr
  case h_2 => cases hr
  rename_i te v i h1 h2 h3
  have T := hT _ _ h1
  obtain ⟨k, hk⟩ := z8k h3 hi
  have hrep := hx _ h2
  split at hr
  . rename_i el hkind
    have hd := z2m T hkind
    split at hr
    case h_2 => cases hr
    rename_i tl htl
    have Tl := hT _ _ htl
    have run : ∀ g off n cap, a.eval x = .slice (some ⟨g, off, none⟩) n cap -> 0 <= i -> i < (n : Int) -> (execOp a.eval o).run C.P w = .ok (.value (.pointer (some ⟨g, off + i.toNat * tl.sh.size, none⟩))) w := by
      intro g off n cap hv hi0 hin
      simp only [execOp, ho]
      refine z1j ?_
      simp only [Instr.indexAt, hk, asIntOf, Sem.run_bind, Sem.run_pure, Result.andThen_ok, run_underlying hd, hv, hi0, hin, and_self, if_true, Tl.size, z4d]
    have seqs : ∀ (sh : Shape) (n : Nat) (f : Nat -> AV), (Rep w F φ (a.eval x) (.seq sh n f) ∨ Rep w F φ (a.eval x) (.seqc sh n f)) -> sh = tl.sh -> inIx i n -> r = ⟨.rptr sh (f i.toNat), .none, [inIx i n]⟩ -> z2f C o a w F φ r := by
      intro sh n f hrep hsh hin hr
      subst hr hsh
      obtain ⟨A, cap, hv, hcells⟩ := Rep.seq_inv hrep
      obtain ⟨hi0, hin⟩ := hin
      obtain ⟨hn, g, off, cs, rfl, hF, hc, hrr⟩ := hcells (by omega)
      refine ⟨rfl, _, run g off n cap hv hi0 hin, .stat (.rptr g _ _ _ (cs i.toNat) hF (fun j hj => ?_) fun j hj => hrr _ (by omega) j hj)⟩
      rw [Nat.add_assoc]; exact hc _ (by omega) j hj
    split at hr
    . rename_i sh n f
      split at hr
      case h_2 => cases hr
      rename_i hs
      cases hr
      exact seqs sh n f (.inl hrep) (Shape.same_eq _ _ hs) (hob _ (by simp)) rfl
    . rename_i sh n f
      split at hr
      case h_2 => cases hr
      rename_i hs
      cases hr
      exact seqs sh n f (.inr hrep) (Shape.same_eq _ _ hs) (hob _ (by simp)) rfl
    . rename_i N sh n f
      split at hr
      case h_2 => cases hr
      rename_i hs
      cases hr
      exact seqs sh n f (.inl hrep.nseq_seq) (Shape.same_eq _ _ hs) (hob _ (by simp)) rfl
    . rename_i b n
      split at hr
      case h_2 => cases hr
      rename_i ty sh n' f' hb
      split at hr
      case h_2 => cases hr
      rename_i hs
      cases hr
      have hin : inIx i n := hob _ (by simp)
      have hsz := (h.heap b _ hb).1
      have es := Shape.same_eq _ _ hs
      rcases hrep.own_inv with ⟨g, hg, hv, _⟩ | ⟨_, h0, _⟩
      . refine ⟨rfl, _, run g 0 n _ hv hin.1 hin.2, ?_⟩
        have := Rep.optr (w := w) (F := F) (φ := φ) b g i.toNat [] hg (by simp [z1h])
        rw [hsz, es] at this
        simpa [zk] using this
      . have := hin.2; have := hin.1; omega
    . cases hr
  . rename_i n el hkind
    obtain ⟨hd, tl, htl, hsh⟩ := zcv T hkind
    have Tl := hT _ _ htl
    have run : ∀ g off, a.eval x = .pointer (some ⟨g, off, none⟩) -> 0 <= i -> i < (n : Int) -> (execOp a.eval o).run C.P w = .ok (.value (.pointer (some ⟨g, off + i.toNat * tl.sh.size, none⟩))) w := by
      intro g off hv hi0 hin
      simp only [execOp, ho]
      refine z1j ?_
      simp only [Instr.indexAt, hk, asIntOf, Sem.run_bind, Sem.run_pure, Result.andThen_ok, run_underlying hd, hv, Instr.sureAddr, hi0, hin, and_self, if_true, Tl.size, z4d]
    have hp1 : inIx i n -> z1h [i.toNat] te.sh /\ zk [i.toNat] te.sh = i.toNat * tl.sh.size := by
      intro hin
      rw [hsh]
      have := hin.1; have := hin.2
      exact ⟨⟨by omega, trivial⟩, by simp [zk]⟩
    split at hr
    . rename_i b p
      split at hr
      case h_2 => cases hr
      rename_i s hs
      split at hr
      case h_2 => cases hr
      rename_i hsame
      cases hr
      have hin : inIx i n := hob _ (by simp)
      have := Shape.same_eq _ _ hsame
      subst this
      obtain ⟨g, hg, hp, hv⟩ := hrep.ptr_inv
      obtain ⟨a1, a2⟩ := z3v (i := i.toNat) hp (zbv h hs)
      refine ⟨rfl, _, run g _ hv hin.1 hin.2, ?_⟩
      have := Rep.ptr (w := w) (F := F) (φ := φ) b g (p ++ [i.toNat]) hg (a1 (hp1 hin).1)
      rw [a2, (hp1 hin).2] at this
      exact this
    . rename_i b k' p
      split at hr
      case h_2 => cases hr
      rename_i s hs
      split at hr
      case h_2 => cases hr
      rename_i hsame
      cases hr
      have hin : inIx i n := hob _ (by simp)
      have := Shape.same_eq _ _ hsame
      subst this
      obtain ⟨g, hg, hp, hv⟩ := hrep.optr_inv
      obtain ⟨a1, a2⟩ := z3v (i := i.toNat) hp (zbw h hs)
      refine ⟨rfl, _, run g _ hv hin.1 hin.2, ?_⟩
      have := Rep.optr (w := w) (F := F) (φ := φ) b g k' (p ++ [i.toNat]) hg (a1 (hp1 hin).1)
      rw [a2, (hp1 hin).2, <- Nat.add_assoc] at this
      exact this
    . rename_i m s m' f
      split at hr
      case h_2 => cases hr
      rename_i hsame
      cases hr
      have hin : inIx i n := hob _ (by simp)
      have := Shape.same_eq _ _ hsame
      rw [hsh] at this
      obtain ⟨rfl, rfl⟩ : m = n /\ s = tl.sh := by injection this; exact ⟨by assumption, by assumption⟩
      obtain ⟨g, off, cs, hF, hv, hc, hrr⟩ := hrep.rptr_inv
      have hlt : (i.toNat + 1) * tl.sh.size <= m * tl.sh.size := Nat.mul_le_mul_right _ (by have := hin.1; have := hin.2; omega)
      rw [Nat.add_mul] at hlt
      refine ⟨rfl, _, run g _ hv hin.1 hin.2, .stat (.rptr g _ _ _ (fun j => cs (i.toNat * tl.sh.size + j)) hF (fun j hj => ?_) fun j hj => ?_)⟩
      . rw [Nat.add_assoc]; exact hc _ (by simp only [Shape.size]; omega)
      . have h6 := hrr (i.toNat * tl.sh.size + j) (by simp only [Shape.size]; omega)
        simp only [z6] at h6
        have ht := Tl.pos
        rw [Nat.mul_comm i.toNat, Nat.mul_add_div ht, Nat.mul_add_mod, Nat.div_eq_of_lt hj, Nat.mod_eq_of_lt hj, Nat.add_zero] at h6
        rw [Nat.mul_comm i.toNat]
        exact h6.strip (.st (.refl _))
    . cases hr
  . cases hr
theorem zgz {t : TypeId} {te : TyE} (T : TyOK C t te) {cs : Array Value} {off : Nat} {x z : AV} (hl : off + te.sh.size <= cs.size) (hz : z9k te.sh x = some z) (hr : ∀ j, j < te.sh.size -> Rep w F φ (cs.getD (off + j) undef) (z6 te.sh x j)) :
    ∃ v, (part t cs off).run C.P w = .ok v w /\ Rep w F φ v z := by
  have hw := zcq (f := fun j => cs.getD (off + j) undef) hz hr
  refine ⟨_, ?_, hw⟩
  simp only [part, Sem.run_bind, T.agg, Result.andThen_ok, z7f]
  cases hs : te.sh.isAgg with
  | false =>
    have hp := T.pos
    have : cs[off]? = some (cs.getD off undef) := by simp [show off < cs.size by omega]
    rw [if_neg (by simp)]
    simp only [this, Sem.run_pure, Nat.add_zero]
  | true =>
    rw [if_pos rfl]
    rw [Sem.run_bind, T.size, Result.andThen_ok, Sem.run_pure]
    congr 2
    apply Array.ext
    . simp only [List.size_toArray, List.length_map, List.length_range, Array.size_extract]; omega
    . intro j h1 h2
      simp only [List.size_toArray, List.length_map, List.length_range] at h2
      simp only [Array.getElem_extract, List.getElem_toArray, List.getElem_map, List.getElem_range, Array.getD_eq_getD_getElem?]
      rw [Array.getElem?_eq_getElem (by omega), Option.getD_some]
theorem zio {t : TypeId} {x : Operand} {f : Nat} (hT : z12 C) (ho : o.op = .field t x f) (hr : zj C st e dst orc CC (.field t x f) = some r)
    (hx : ∀ u, e x = some u -> Rep w F φ (a.eval x) u) : z2f C o a w F φ r := by
  simp only [zj] at hr
  split at hr
  case h_2 => cases hr
  rename_i te ss xs h1 h2
  split at hr
  case h_2 => cases hr
  rename_i s y hc hs hy
  split at hr
  case h_2 => cases hr
  rename_i z hz
  cases hr
  have T := hT _ _ h1
  simp only [Bool.and_eq_true] at hc
  have hkind : ∃ fs, te.kind = .struct fs /\ f < fs.length := by
    have := hc.2
    cases hk : te.kind <;> simp [hk, z6o, Nat.blt] at this
    exact ⟨_, rfl, by omega⟩
  obtain ⟨fs, hk, hlt⟩ := hkind
  obtain ⟨fields, ss', hd, hsh, hlen, hfs, hfi⟩ := zaa T hk
  have := Shape.same_eq _ _ hc.1
  rw [hsh] at this
  obtain rfl : ss = ss' := by injection this
  have hfl : f < fields.size := by rw [hfs] at hlt; simpa using hlt
  have hff : fields[f]? = some fields[f] := by simp [hfl]
  obtain ⟨tf, htf, hsf, hoff, _⟩ := hfi f _ hff
  rw [hs] at hsf
  cases hsf
  obtain ⟨cs, hv, hsz, hrr⟩ := (hx _ h2).mc_inv
  simp only [Shape.size] at hsz
  have h5 := z2s hs
  obtain ⟨v, hrun, hrep⟩ := zgz (hT _ _ htf) (cs := cs) (off := Shape.sizes (ss.take f)) (x := y) (z := z) (by omega) hz (fun j hj => by
    have h6 := hrr (Shape.sizes (ss.take f) + j) (by simp only [Shape.size]; omega)
    simp only [z6] at h6
    rwa [z50 hs hy j hj] at h6)
  refine ⟨rfl, v, ?_, hrep⟩
  simp only [execOp, ho]
  refine z1j ?_
  simp only [Instr.field, Sem.run_bind, run_underlying hd, Result.andThen_ok, hff, hv, asAgg, Sem.run_pure, hoff, hrun]
theorem ziq {t : TypeId} {x ix : Operand} (hT : z12 C) (ho : o.op = .index t x ix) (hr : zj C st e dst orc CC (.index t x ix) = some r)
    (hx : ∀ u, e x = some u -> Rep w F φ (a.eval x) u) (hi : ∀ u, e ix = some u -> Rep w F φ (a.eval ix) u) (hob : ∀ p ∈ r.obs, p) : z2f C o a w F φ r := by
  simp only [zj] at hr
  split at hr
  case h_2 => cases hr
  rename_i te v i h1 h2 h3
  have T := hT _ _ h1
  obtain ⟨k, hk⟩ := z8k h3 hi
  have hrep := hx _ h2
  split at hr
  . rename_i l hkind
    cases hr
    have hd := z2x T hkind
    obtain ⟨s, hv, rfl⟩ := hrep.str_inv
    obtain ⟨hi0, hin⟩ : inIx i s.data.toList.length := hob _ (by simp)
    have hl : s.data.toList.length = s.size := by rw [Array.length_toList]; rfl
    have hlt : i.toNat < s.size := by omega
    have hs : s[i.toNat]? = some (s.data.toList.getD i.toNat 0) := by
      rw [ByteArray.getElem?_lt' s _ hlt, List.getD_eq_getElem?_getD, List.getElem?_eq_getElem (by omega), Option.getD_some]
      rfl
    refine ⟨rfl, .int .u8 ((s.data.toList.getD i.toNat 0).toNat : Int), ?_, .stat (.int _ _ ?_)⟩
    . simp only [execOp, ho]
      refine z1j ?_
      simp only [Instr.index, hk, asIntOf, Sem.run_bind, Sem.run_pure, Result.andThen_ok, run_underlying hd, hv, hi0, if_true, hs]
    . have := UInt8.toNat_lt (s.data.toList.getD i.toNat 0)
      unfold InR
      generalize (s.data.toList.getD i.toNat 0).toNat = q at this
      simp only [IntKind.wrap, IntKind.signed, IntKind.bits]
      simp
      omega
  . rename_i n el m s m' f hkind
    split at hr
    case h_2 => cases hr
    rename_i hsame
    split at hr
    case h_2 => cases hr
    rename_i z hz
    cases hr
    obtain ⟨hd, tl, htl, hsh⟩ := zcv T hkind
    have Tl := hT _ _ htl
    have hin : inIx i n := hob _ (by simp)
    have := Shape.same_eq _ _ hsame
    rw [hsh] at this
    obtain ⟨rfl, rfl⟩ : m = n /\ s = tl.sh := by injection this; exact ⟨by assumption, by assumption⟩
    obtain ⟨cs, hv, hsz, hrr⟩ := hrep.mc_inv
    simp only [Shape.size] at hsz
    have hlt : (i.toNat + 1) * tl.sh.size <= m * tl.sh.size := Nat.mul_le_mul_right _ (by have := hin.1; have := hin.2; omega)
    rw [Nat.add_mul] at hlt
    obtain ⟨v, hrun, hrep⟩ := zgz Tl (cs := cs) (off := i.toNat * tl.sh.size) (x := f i.toNat) (z := z) (by omega) hz (fun j hj => by
      have h6 := hrr (i.toNat * tl.sh.size + j) (by simp only [Shape.size]; omega)
      simp only [z6] at h6
      have ht := Tl.pos
      rw [Nat.mul_comm i.toNat, Nat.mul_add_div ht, Nat.mul_add_mod, Nat.div_eq_of_lt hj, Nat.mod_eq_of_lt hj, Nat.add_zero] at h6
      rw [Nat.mul_comm i.toNat]
      exact h6.strip (.st (.refl _)))
    refine ⟨rfl, v, ?_, hrep⟩
    simp only [execOp, ho]
    refine z1j ?_
    simp only [Instr.index, hk, asIntOf, Sem.run_bind, Sem.run_pure, Result.andThen_ok, run_underlying hd, hv, hin.1, hin.2, and_self, if_true, Tl.size, hrun]
  . cases hr
theorem zjm {c x y : Operand} {p : Bool} {u v z : AV} (ho : o.op = .pick c x y) (hc : Rep w F φ (a.eval c) (.bool p)) (hx : p = true -> Rep w F φ (a.eval x) u) (hy : p = false -> Rep w F φ (a.eval y) v)
    (hz : zjf p (zgw x) (zcn y) u v = some z) : ∃ V, (execOp a.eval o).run C.P w = .ok (.value V) w /\ Rep w F φ V z := by
  have hb := hc.bool_inv
  refine ⟨if p then a.eval x else a.eval y, by simp [execOp, ho, asBool, hb], ?_⟩
  have ht : zgw x = true -> a.eval x = .bool true := by
    intro h; unfold zgw at h; split at h
    . rfl
    . cases h
  have hf : zcn y = true -> a.eval y = .bool false := by
    intro h; unfold zcn at h; split at h
    . rfl
    . cases h
  unfold zjf at hz
  split at hz
  . split at hz
    . rename_i h1
      cases hz
      cases p with
      | true => simpa using hx rfl
      | false => simpa [hf h1] using repB (w := w) (F := F) (φ := φ) false
    . rename_i h1 _
      cases hz
      cases p with
      | true => simpa [ht h1] using repB (w := w) (F := F) (φ := φ) true
      | false => simpa using hy rfl
    . cases hz
      cases p with
      | true => simpa using hx rfl
      | false => simpa using hy rfl
  . split at hz
    . rename_i hk
      have := of_decide_eq_true hk
      subst this
      cases hz
      cases p with
      | true => simpa using hx rfl
      | false => simpa using hy rfl
    . cases hz
  . cases hz
end
end Go.AV
namespace Go.AV
open Go.RowKit
section
variable {C : Cfg} {W0 : Entry} {F0 : Nat -> Prop} {st : St} {a : Act} {w : World} {F : Nat -> Prop} {φ : Nat -> Place} {e : Operand -> Option AV} {dst : Option Nat} {orc : FuncId -> List AV -> Option AV} {CC : FuncId -> List AV -> AV -> Prop} {r : Res} {o : Oper}
def z8l (x : Option Value) (d i : Int) : Prop := (x = none /\ i = d) ∨ ∃ k, x = some (.int k i)
theorem z26 {x : Option Operand} {d i : Int} (h : z71 e d x = some i) (hx : ∀ y ∈ x.toList, ∀ u, e y = some u -> Rep w F φ (a.eval y) u) : z8l (x.map a.eval) d i := by
  cases x with
  | none => simp [z71] at h; exact .inl ⟨rfl, h.symm⟩
  | some y =>
    obtain ⟨k, hk⟩ := z8k (x := y) h (hx y (by simp))
    exact .inr ⟨k, by simp [hk]⟩
theorem z5y {P : Program} {k : IntKind} {i : Int} {y : Nat} {code : BoundsCode} (h0 : 0 <= i) (h1 : i <= (y : Int)) : (Instr.sliceBound (.int k i) y code).run P w = .ok i.toNat w := by
  simp [Instr.sliceBound, asIntOf, h0, h1]
theorem z8m {P : Program} {isSlice : Bool} {len cap : Nat} {lo hi : Option Value} {l h : Int} (hlo : z8l lo 0 l) (hhi : z8l hi len h) (h0 : 0 <= l) (h1 : l <= h) (h2 : h <= (cap : Int)) :
    (Instr.sliceBounds isSlice len cap lo hi none).run P w = .ok (l.toNat, h.toNat, cap) w := by
  have b1 := fun k code => z5y (w := w) (P := P) (k := k) (i := l) (y := h.toNat) (code := code) h0 (by omega)
  have b2 := fun k code => z5y (w := w) (P := P) (k := k) (i := h) (y := cap) (code := code) (by omega) h2
  rcases hlo with ⟨rfl, rfl⟩ | ⟨k, rfl⟩ <;> rcases hhi with ⟨rfl, rfl⟩ | ⟨k', rfl⟩ <;> (try simp only [Int.toNat_natCast] at b1 b2)
  . simp [Instr.sliceBounds]
  . simp [Instr.sliceBounds, b2]
  . simp [Instr.sliceBounds, b1]
  . simp [Instr.sliceBounds, b1, b2]
theorem zfu {P : Program} {len cap : Nat} {lo : Option Value} {k' km : IntKind} {l h m : Int} (hlo : z8l lo 0 l) (h0 : 0 <= l) (h1 : l <= h) (h2 : h <= m) (h3 : m <= (cap : Int)) :
    (Instr.sliceBounds true len cap lo (some (.int k' h)) (some (.int km m))).run P w = .ok (l.toNat, h.toNat, m.toNat) w := by
  have b1 := fun k code => z5y (w := w) (P := P) (k := k) (i := l) (y := h.toNat) (code := code) h0 (by omega)
  have b2 := fun k code => z5y (w := w) (P := P) (k := k) (i := h) (y := m.toNat) (code := code) (by omega) (by omega)
  have b3 := fun k code => z5y (w := w) (P := P) (k := k) (i := m) (y := cap) (code := code) (by omega) h3
  rcases hlo with ⟨rfl, rfl⟩ | ⟨k, rfl⟩
  . simp [Instr.sliceBounds, b2, b3]
  . simp [Instr.sliceBounds, b1, b2, b3]
theorem z54 {P : Program} {t : TypeId} {d : TypeDesc} (hd : P.underlying t = some d) (hn : zcp d = false) (x : Value) (lo hi mx : Option Value) : (Instr.sliceAt t x lo hi mx).run P w = (Instr.slice t x lo hi mx).run P w := by
  simp only [Instr.sliceAt, Sem.run_bind, run_underlying hd, Result.andThen_ok]
  cases d <;> first | rfl | simp [zcp] at hn
theorem zjn {A : Option Addr} {n cap m : Nat} {sh : Shape} {f : Nat -> AV} {l h : Int} (hcells : 0 < n -> n <= cap /\ ∃ g o, ∃ cs : Nat -> Nat -> Value, A = some ⟨g, o, none⟩ /\ F g /\ (∀ i, i < n -> ∀ j, j < sh.size -> w.cell? ⟨g, o + (i * sh.size + j), none⟩ = some (cs i j)) /\
      (∀ i, i < n -> ∀ j, j < sh.size -> RepS w F (cs i j) (z6 sh (f i) j))) (h0 : 0 <= l) (h1 : l <= h) (h2 : h <= (n : Int)) (hm : h.toNat <= m) :
    RepS w F (.slice (if m = l.toNat then A else A.map (·.add (l.toNat * sh.size))) (h.toNat - l.toNat) (m - l.toNat)) (.seq sh (h - l).toNat (fun i => f (l.toNat + i))) /\
    (m = h.toNat -> RepS w F (.slice (if m = l.toNat then A else A.map (·.add (l.toNat * sh.size))) (h.toNat - l.toNat) (m - l.toNat)) (.seqc sh (h - l).toNat (fun i => f (l.toNat + i)))) := by
  have en : (h - l).toNat = h.toNat - l.toNat := by omega
  rw [en]
  by_cases hz : h.toNat - l.toNat = 0
  . rw [hz]
    refine ⟨.seq0 _ _ _ _, fun hm' => ?_⟩
    rw [show m - l.toNat = 0 from by omega]
    exact .seqc0 _ _ _
  . obtain ⟨hn, g, o', cs, rfl, hF, hc, hr⟩ := hcells (by omega)
    rw [if_neg (by omega)]
    simp only [Option.map_some, z4d]
    have c1 : ∀ i, i < h.toNat - l.toNat -> ∀ j, j < sh.size -> w.cell? ⟨g, o' + l.toNat * sh.size + (i * sh.size + j), none⟩ = some (cs (l.toNat + i) j) := by
      intro i hi j hj
      have := hc (l.toNat + i) (by omega) j hj
      rw [Nat.add_mul] at this
      rw [show o' + l.toNat * sh.size + (i * sh.size + j) = o' + (l.toNat * sh.size + i * sh.size + j) from by omega]
      exact this
    have c2 : ∀ i, i < h.toNat - l.toNat -> ∀ j, j < sh.size -> RepS w F (cs (l.toNat + i) j) (z6 sh (f (l.toNat + i)) j) := fun i hi j hj => hr (l.toNat + i) (by omega) j hj
    refine ⟨.seq g _ _ _ sh _ (fun i => cs (l.toNat + i)) hF (by omega) c1 c2, fun hm' => ?_⟩
    rw [show m - l.toNat = h.toNat - l.toNat from by omega]
    exact .seqc g _ _ sh _ (fun i => cs (l.toNat + i)) hF c1 c2
theorem zir {t : TypeId} {x : Operand} {lo hi mx : Option Operand} (_ : Rel C W0 F0 st a w F φ) (hT : z12 C) (ho : o.op = .slice t x lo hi mx) (hr : zj C st e dst orc CC (.slice t x lo hi mx) = some r)
    (hx : ∀ u, e x = some u -> Rep w F φ (a.eval x) u) (hlo : ∀ y ∈ lo.toList, ∀ u, e y = some u -> Rep w F φ (a.eval y) u) (hhi : ∀ y ∈ hi.toList, ∀ u, e y = some u -> Rep w F φ (a.eval y) u)
    (hmx : ∀ y ∈ mx.toList, ∀ u, e y = some u -> Rep w F φ (a.eval y) u) (hob : ∀ p ∈ r.obs, p) : z2f C o a w F φ r := by
  simp only [zj] at hr
  split at hr
  case h_2 => cases hr
  rename_i te v h1 h2
  have T := hT _ _ h1
  have hrep := hx _ h2
  split at hr
  . rename_i hkind
    have hd := z2x T hkind
    split at hr
    case h_2 => cases hr
    rename_i l
    split at hr
    case h_2 => cases hr
    rename_i p q hp hq
    cases hr
    obtain ⟨s, hv, rfl⟩ := hrep.str_inv
    have hl : s.data.toList.length = s.size := by rw [Array.length_toList]; rfl
    obtain ⟨b0, b1, b2⟩ : 0 <= p /\ p <= q /\ q <= (s.data.toList.length : Int) := hob _ (by simp)
    rw [hl] at b2 hq
    refine ⟨rfl, .string (s.extract p.toNat q.toNat), ?_, ?_⟩
    . simp only [execOp, ho]
      refine z1j ?_
      rw [z54 hd rfl]
      simp only [Option.map_none, Instr.slice, Sem.run_bind, run_underlying hd, Result.andThen_ok, hv, Option.isSome_none, Bool.false_eq_true, if_false, Sem.run_pure,
        z8m (z26 hp hlo) (z26 hq hhi) b0 b1 b2]
    . have : (s.data.toList.drop p.toNat).take (q - p).toNat = (s.extract p.toNat q.toNat).data.toList := by
        rw [Lib.extract_data, show (q - p).toNat = q.toNat - p.toNat from by omega]
      simp only [this]
      exact .stat (.str _)
  . rename_i el hkind
    have hd := z2m T hkind
    have run2 : ∀ {tl : TyE} {A : Option Addr} {n cap : Nat} {p q : Int}, tyOf C el = some tl -> a.eval x = .slice A n cap -> z8l (lo.map a.eval) 0 p -> z8l (hi.map a.eval) n q -> mx = none -> 0 <= p -> p <= q -> q <= (cap : Int) ->
        (execOp a.eval o).run C.P w = .ok (.value (.slice (if cap = p.toNat then A else A.map (·.add (p.toNat * tl.sh.size))) (q.toNat - p.toNat) (cap - p.toNat))) w := by
      intro tl A n cap p q htl hv bl bh hm b0 b1 b2
      subst hm
      simp only [execOp, ho]
      refine z1j ?_
      rw [z54 hd rfl]
      simp only [Option.map_none, Instr.slice, Sem.run_bind, run_underlying hd, Result.andThen_ok, hv, Sem.run_pure, z8m bl bh b0 b1 b2, (hT _ _ htl).size]
    split at hr
    . rename_i tl sh n f htl
      split at hr
      . rename_i p q hs hp hq
        cases hr
        have es := Shape.same_eq _ _ hs
        subst es
        obtain ⟨b0, b1, b2⟩ : 0 <= p /\ p <= q /\ q <= (n : Int) := hob _ (by simp)
        obtain ⟨A, cap, hv, hcells⟩ := Rep.seq_inv (.inl hrep)
        have hcap : q.toNat <= cap := by
          rcases Nat.eq_zero_or_pos n with h0 | h0
          . have : q.toNat = 0 := by omega
            omega
          . have := (hcells h0).1; omega
        exact ⟨rfl, _, run2 htl hv (z26 hp hlo) (z26 hq hhi) rfl b0 b1 (by omega), .stat (zjn hcells b0 b1 b2 hcap).1⟩
      . rename_i p q m hs hp hq
        split at hr
        case h_2 => cases hr
        rename_i mm hmm hsome
        cases hr
        have es := Shape.same_eq _ _ hs
        subst es
        obtain ⟨b0, b1, b2, b3⟩ : 0 <= p /\ p <= q /\ q <= (n : Int) /\ mm = q := hob _ (by simp)
        subst b3
        obtain ⟨A, cap, hv, hcells⟩ := Rep.seq_inv (.inl hrep)
        have hcap : mm.toNat <= cap := by
          rcases Nat.eq_zero_or_pos n with h0 | h0
          . have : mm.toNat = 0 := by omega
            omega
          . have := (hcells h0).1; omega
        obtain ⟨km, hkm⟩ := z8k hmm (hmx m (by simp))
        have hhi' : ∃ kh, hi.map a.eval = some (.int kh mm) := by
          rcases z26 hq hhi with ⟨h3, h4⟩ | h3
          . rw [Option.map_eq_none_iff] at h3
            rw [h3] at hsome; cases hsome
          . exact h3
        obtain ⟨kh, hkh⟩ := hhi'
        refine ⟨rfl, _, ?_, .stat ((zjn (m := mm.toNat) hcells b0 b1 b2 (Nat.le_refl _)).2 rfl)⟩
        simp only [execOp, ho]
        refine z1j ?_
        rw [z54 hd rfl]
        simp only [Option.map_some, Instr.slice, Sem.run_bind, run_underlying hd, Result.andThen_ok, hv, Sem.run_pure, hkm, hkh, zfu (z26 hp hlo) b0 b1 (Int.le_refl _) (show mm <= (cap : Int) by omega), (hT _ _ htl).size]
      . cases hr
    . rename_i tl b n htl
      split at hr
      case h_2 => cases hr
      rename_i ty sh n' f' hb
      split at hr
      case h_2 => cases hr
      rename_i q hs hp hq
      cases hr
      obtain ⟨b0, b1⟩ : 0 <= q /\ q <= (n : Int) := hob _ (by simp)
      rcases hrep.own_inv with ⟨g, hg, hv, hn⟩ | ⟨hg, h0, hv⟩
      . refine ⟨rfl, _, run2 htl hv (z26 hp hlo) (z26 hq hhi) rfl (Int.le_refl _) b0 (by omega), ?_⟩
        have hA : (if (φ b).cap = (0 : Int).toNat then some (⟨g, 0, none⟩ : Addr) else (some (⟨g, 0, none⟩ : Addr)).map (·.add ((0 : Int).toNat * tl.sh.size))) = some ⟨g, 0, none⟩ := by
          split <;> simp [z4d]
        rw [hA]
        exact .own b g q.toNat hg (by omega)
      . subst h0
        have hq0 : q = 0 := by omega
        subst hq0
        refine ⟨rfl, _, run2 htl hv (z26 hp hlo) (z26 hq hhi) rfl (Int.le_refl _) (Int.le_refl _) (by simp), ?_⟩
        simp
        exact .own0 b hg
    . cases hr
  . cases hr
end
end Go.AV
