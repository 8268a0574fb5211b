import Derived.Test.YtgcpdfihjmmggaaGreatDoorXc
import Derived.Great.BuildSlice
namespace Go.AV
open Go.RowKit
section
variable {C : Cfg} {W0 : Entry} {F0 : Nat -> Prop} {st st' : St} {a : Act} {w : World} {F : Nat -> Prop} {φ : Nat -> Place} {e : Operand -> Option AV} {dst : Option Nat} {orc : FuncId -> List AV -> Option AV} {CC : FuncId -> List AV -> AV -> Prop} {r : Res} {o : Oper}
  {next : Act -> World -> Prop} {Q : Exit -> Act -> World -> Prop}
def Next (C : Cfg) (W0 : Entry) (F0 : Nat -> Prop) (st' : St) (a : Act) (o : Oper) (x : AV) (next : Act -> World -> Prop) : Prop :=
  ∀ v w' F' φ', Rel C W0 F0 st' a w' F' φ' -> (o.dst.isSome = true -> Rep w' F' φ' v x) -> next (a.put o.dst v) w'
theorem z11 (h : Rel C W0 F0 st a w F φ) (hp : z2f C o a w F φ r) (hst : zq st o.dst r.eff = some st') (hn : Next C W0 F0 st' a o r.val next) : o.wp C.P a w next Q := by
  obtain ⟨he, v, hrun, hrep⟩ := hp
  rw [he] at hst
  simp only [zq, Option.some.injEq] at hst
  subst hst
  unfold Oper.wp
  rw [hrun]
  exact hn v w F φ h fun _ => hrep
theorem RepS.unstrip {v : Value} {x y : AV} (hs : Strip x y) (h : RepS w F v y) : RepS w F v x := by
  induction hs with
  | refl => exact h
  | st _ ih => exact .st (ih h)
theorem z8n {cur new : Array Value} {off n : Nat} (hn : new.size = n) (hl : off + n <= cur.size) (j : Nat) :
    ((cur.toList.take off ++ new.toList ++ cur.toList.drop (off + n)).toArray).getD j undef = if off <= j /\ j < off + n then new.getD (j - off) undef else cur.getD j undef := by
  have l1 : (cur.toList.take off).length = off := by simp; omega
  have l2 : new.toList.length = n := by simpa using hn
  rw [Array.getD_eq_getD_getElem?, List.getElem?_toArray]
  by_cases h1 : j < off
  . rw [List.append_assoc, List.getElem?_append_left (by omega), List.getElem?_take_of_lt h1, if_neg (by omega), Array.getD_eq_getD_getElem?, Array.getElem?_toList]
  . rw [List.append_assoc, List.getElem?_append_right (by omega), l1]
    by_cases h2 : j < off + n
    . rw [List.getElem?_append_left (by omega), if_pos (by omega), Array.getD_eq_getD_getElem?, Array.getElem?_toList]
    . rw [List.getElem?_append_right (by omega), l2, List.getElem?_drop, if_neg (by omega), Array.getD_eq_getD_getElem?, Array.getElem?_toList]
      congr 2
      omega
theorem z7h {cur new : Array Value} {off n : Nat} (hn : new.size = n) (hl : off + n <= cur.size) : ((cur.toList.take off ++ new.toList ++ cur.toList.drop (off + n)).toArray).size = cur.size := by
  simp; omega
theorem zrf {p : List Nat} {sh s : Shape} {x y x' : AV} {cs : Array Value} {V : Array Value} (hp : z1h p sh) (hs : z1m p sh = some s) (hx : z7t p sh x y = some x') (hold : ∀ j, j < sh.size -> Rep w F φ (cs.getD j undef) (z6 sh x j))
    (hnew : ∀ j, j < s.size -> Rep w F φ (V.getD j undef) (z6 s y j)) (j : Nat) (hj : j < sh.size) :
    Rep w F φ (if zk p sh <= j /\ j < zk p sh + s.size then V.getD (j - zk p sh) undef else cs.getD j undef) (z6 sh x' j) := by
  obtain ⟨h1, h2⟩ := z4b p sh s x y x' hp hs hx j
  split
  . rename_i hin
    obtain ⟨z, hz, rfl, h3⟩ := h1 hin
    have hr := hnew (j - zk p sh) (by omega)
    rcases h3 with h3 | h3
    . rw [h3]; exact hr
    . exact .stat (.unstrip hz (hr.toS (z1w s y _ h3)))
  . rename_i hin
    rw [h2 hj hin]
    exact hold j hj
theorem zn6 {p : List Nat} {sh s : Shape} {x y x' : AV} {f : Nat -> Value} {V : Array Value} (hp : z1h p sh) (hs : z1m p sh = some s) (hx : z7t p sh x y = some x') (hold : ∀ j, j < sh.size -> RepS w F (f j) (z6 sh x j))
    (hnew : ∀ j, j < s.size -> RepS w F (V.getD j undef) (z6 s y j)) (j : Nat) (hj : j < sh.size) :
    RepS w F (if zk p sh <= j /\ j < zk p sh + s.size then V.getD (j - zk p sh) undef else f j) (z6 sh x' j) := by
  obtain ⟨h1, h2⟩ := z4b p sh s x y x' hp hs hx j
  split
  . rename_i hin
    obtain ⟨z, hz, rfl, h3⟩ := h1 hin
    exact .unstrip hz (hnew (j - zk p sh) (by omega))
  . rename_i hin
    rw [h2 hj hin]
    exact hold j hj
theorem z3g {g : Nat} {cs : Array Value} {k : Nat} (hk : k ≠ g) : (w.setRow g cs).heap[k]? = w.heap[k]? := setRow_other w g k cs hk
theorem zn7 {t : TypeId} {x v : Operand} (h : Rel C W0 F0 st a w F φ) (hT : z12 C) (ho : o.op = .store t x v) (hr : zj C st e o.dst orc CC (.store t x v) = some r)
    (hx : ∀ u, e x = some u -> Rep w F φ (a.eval x) u) (hv : ∀ u, e v = some u -> Rep w F φ (a.eval v) u) (hob : ∀ p ∈ r.obs, p) (hst : zq st o.dst r.eff = some st') (hn : Next C W0 F0 st' a o r.val next) : o.wp C.P a w next Q := by
  simp only [zj] at hr
  split at hr
  case h_2 => cases hr
  rename_i te u h1 h2 hd
  split at hr
  case h_2 => cases hr
  rename_i y hy
  have T := hT _ _ h1
  obtain ⟨hvs, hvr⟩ := zcr hy (hv _ h2)
  have hone : ∀ j, j < te.sh.size -> ((a.eval v).cells.getD j undef).oneCell' = true := fun j hj => (hvr j hj).leaf1 te.sh y j
  have fin : ∀ {g off : Nat} {cs : Array Value} {ty : TypeId}, a.eval x = .pointer (some ⟨g, off, none⟩) -> w.heap[g]? = some (.cells cs ty (0, 0)) -> off + te.sh.size <= cs.size ->
      Rel C W0 F0 st' a (w.setRow g (cs.toList.take off ++ (a.eval v).cells.toList ++ cs.toList.drop (off + te.sh.size)).toArray) F φ -> o.wp C.P a w next Q := by
    intro g off cs ty hxv hg hl hR
    unfold Oper.wp
    have : (execOp a.eval o).run C.P w = .ok .skip (w.setRow g (cs.toList.take off ++ (a.eval v).cells.toList ++ cs.toList.drop (off + te.sh.size)).toArray) := by
      simp only [execOp, ho, Instr.storeAt, hxv, Instr.sureAddr, Sem.run_bind, Sem.run_pure, Result.andThen_ok, T.runStore g off cs ty (a.eval v) hg hl hvs hone]
    rw [this]
    exact hn undef _ F φ hR (by rw [hd]; simp)
  split at hr
  . rename_i b p hxe
    split at hr
    case h_2 => cases hr
    rename_i sh z hb
    split at hr
    case h_2 => cases hr
    rename_i s z' hs hz
    split at hr
    case h_2 => cases hr
    rename_i hsame
    cases hr
    have es := Shape.same_eq _ _ hsame
    subst es
    obtain ⟨g, hg, hp, hxv⟩ := (hx _ hxe).ptr_inv
    obtain ⟨hsh, g', cs, hg', hbase, hnF, hh, hsz, hrep⟩ := h.cells hb
    rw [hg] at hg'; cases hg'
    rw [hsh] at hp hxv
    have hlt := z1n p sh te.sh hp hs
    refine fin hxv hh (by omega) ?_
    simp only [zq, Option.some.injEq] at hst
    subst hst
    refine h.setBox hb hg rfl rfl rfl (by simp) (fun k hk => z3g hk) rfl ⟨hsh, g, _, hg, hbase, hnF, setRow_heap w g cs _ _ _ hh, by rw [z7h hvs (by omega)]; exact hsz, fun j hj => ?_⟩
    rw [z8n hvs (by omega)]
    exact (zrf hp hs hz hrep hvr j hj).keep (fun k hk => z3g fun e => hnF (e ▸ hk)) (fun _ hk => hk) fun _ _ => rfl
  . rename_i b i p hxe
    split at hr
    case h_2 => cases hr
    rename_i ty sh n f hb
    split at hr
    case h_2 => cases hr
    rename_i s z' hs hz
    split at hr
    case h_2 => cases hr
    rename_i hsame
    cases hr
    simp only [Bool.and_eq_true] at hsame
    have es := Shape.same_eq _ _ hsame.1
    subst es
    have hin : i < n := hob _ (by simp)
    obtain ⟨g, hg, hp, hxv⟩ := (hx _ hxe).optr_inv
    obtain ⟨hsh, hty, hrow⟩ := h.heap b _ hb
    rcases hrow with ⟨h1, _⟩ | ⟨g', cs, hg', hbase, hnF, hh, hsz, hncap, hmax, hrep⟩
    . rw [hg] at h1; cases h1
    rw [hg] at hg'; cases hg'
    rw [hsh] at hp hxv
    have hlt := z1n p sh te.sh hp hs
    have hmul : (i + 1) * sh.size <= (φ b).cap * sh.size := Nat.mul_le_mul_right _ (by omega)
    rw [Nat.add_mul] at hmul
    refine fin hxv hh (by omega) ?_
    simp only [zq, Option.some.injEq] at hst
    subst hst
    refine h.setBox hb hg rfl rfl rfl (by simp) (fun k hk => z3g hk) rfl ⟨hsh, hty, .inr ⟨g, _, hg, hbase, hnF, setRow_heap w g cs _ _ _ hh, by rw [z7h hvs (by omega)]; exact hsz, hncap, hmax, fun k hk j hj => ?_⟩⟩
    rw [z8n hvs (by omega)]
    refine RepS.keep (w := w) (F := F) ?_ (fun k hk => z3g fun e => hnF (e ▸ hk)) (fun _ hk => hk)
    by_cases hki : k = i
    . subst hki
      rw [show (fun j => if j = k then z' else f j) k = z' from by simp]
      have h5 := zn6 (V := (a.eval v).cells) hp hs hz (fun j hj => hrep k hk j hj) (fun j hj => (hvr j hj).toS (z1w te.sh y j hsame.2)) j hj
      have e1 : (k * sh.size + zk p sh <= k * sh.size + j /\ k * sh.size + j < k * sh.size + zk p sh + te.sh.size) ↔ (zk p sh <= j /\ j < zk p sh + te.sh.size) := by omega
      have e2 : k * sh.size + j - (k * sh.size + zk p sh) = j - zk p sh := by omega
      simp only [e1, e2]
      exact h5
    . rw [show (fun j => if j = i then z' else f j) k = f k from by simp [hki], if_neg]
      . exact hrep k hk j hj
      . intro ⟨h5, h6⟩
        rcases Nat.lt_or_gt_of_ne hki with h7 | h7
        . have : (k + 1) * sh.size <= i * sh.size := Nat.mul_le_mul_right _ h7
          rw [Nat.add_mul] at this; omega
        . have : (i + 1) * sh.size <= k * sh.size := Nat.mul_le_mul_right _ h7
          rw [Nat.add_mul] at this; omega
  . cases hr
theorem z9o (cs : Array Value) (t : TypeId) : (w.alloc (.cells cs t)).heap[w.heap.size]? = some (.cells cs t (0, 0)) := heap_alloc_new w _
theorem Rel.newCell (h : Rel C W0 F0 st a w F φ) {d : Nat} {sh : Shape} {x : AV} {cs : Array Value} {t : TypeId} (hst : zq st (some d) (.new (.cell t sh x)) = some st') (hs : cs.size = sh.size)
    (hr : ∀ j, j < sh.size -> Rep w F φ (cs.getD j undef) (z6 sh x j)) :
    ∃ φ', Rel C W0 F0 st' a (w.alloc (.cells cs t)) F φ' /\ Rep (w.alloc (.cells cs t)) F φ' (.pointer (some ⟨w.heap.size, 0, none⟩)) (.ptr d []) := by
  simp only [zq] at hst
  split at hst
  case h_2 => cases hst
  rename_i hc
  cases hst
  simp only [Bool.and_eq_true, Bool.not_eq_true'] at hc
  have hk : ∀ k, F k -> (w.alloc (.cells cs t)).heap[k]? = w.heap[k]? := fun k hk => Below.heap_alloc w _ k (h.ro k hk)
  refine ⟨fun k => if k = d then ⟨some w.heap.size, 0, sh, t⟩ else φ k, h.newBox hc.1 hc.2 _ _ rfl ⟨by simp, w.heap.size, cs, by simp, h.bnew (Nat.le_refl _), fun hF => ?_, z9o cs t, hs, fun j hj => ?_⟩, ?_⟩
  . have := h.ro _ hF; omega
  . refine (hr j hj).keep hk (fun _ hk => hk) fun b hb => z17 φ d _ fun e => ?_
    subst e
    have := z32 sh x j hb
    rw [show x.names b = false from hc.2] at this
    cases this
  . have := Rep.ptr (w := w.alloc (.cells cs t)) (F := F) (φ := fun k => if k = d then ⟨some w.heap.size, 0, sh, t⟩ else φ k) d w.heap.size [] (by simp) (by simp [z1h])
    simpa [zk] using this
theorem Rel.newRow (h : Rel C W0 F0 st a w F φ) {d : Nat} {sh : Shape} {n cap : Nat} {f : Nat -> AV} {cs : Array Value} {t : TypeId} (hst : zq st (some d) (.new (.row t sh n f)) = some st') (hs : cs.size = cap * sh.size) (hn : n <= cap) (hm : cap <= maxLen)
    (hr : ∀ i, i < n -> ∀ j, j < sh.size -> RepS w F (cs.getD (i * sh.size + j) undef) (z6 sh (f i) j)) :
    ∃ φ', Rel C W0 F0 st' a (w.alloc (.cells cs t)) F φ' /\ Rep (w.alloc (.cells cs t)) F φ' (.slice (some ⟨w.heap.size, 0, none⟩) n cap) (.own d n) := by
  simp only [zq] at hst
  split at hst
  case h_2 => cases hst
  rename_i hc
  cases hst
  simp only [Bool.and_eq_true, Bool.not_eq_true'] at hc
  have hk : ∀ k, F k -> (w.alloc (.cells cs t)).heap[k]? = w.heap[k]? := fun k hk => Below.heap_alloc w _ k (h.ro k hk)
  refine ⟨fun k => if k = d then ⟨some w.heap.size, cap, sh, t⟩ else φ k, h.newBox hc.1 hc.2 _ _ rfl ⟨by simp, by simp, .inr ⟨w.heap.size, cs, by simp, h.bnew (Nat.le_refl _), fun hF => ?_, z9o cs t, by simpa using hs, by simpa using hn, by simpa using hm, fun i hi j hj => ?_⟩⟩, ?_⟩
  . have := h.ro _ hF; omega
  . exact (hr i hi j hj).keep hk (fun _ hk => hk)
  . have := Rep.own (w := w.alloc (.cells cs t)) (F := F) (φ := fun k => if k = d then ⟨some w.heap.size, cap, sh, t⟩ else φ k) d w.heap.size n (by simp) (by simpa using hn)
    simpa using this
theorem zn8 {t : TypeId} (h : Rel C W0 F0 st a w F φ) (hT : z12 C) (ho : o.op = .alloc t) (hr : zj C st e o.dst orc CC (.alloc t) = some r) (hst : zq st o.dst r.eff = some st') (hn : Next C W0 F0 st' a o r.val next) : o.wp C.P a w next Q := by
  simp only [zj] at hr
  split at hr
  case h_2 => cases hr
  rename_i te d h1 hd
  cases hr
  rw [hd] at hst
  have T := hT _ _ h1
  obtain ⟨dd, i, z, hu, hi, hs, hb, hz, hc, hk, hzr⟩ := T.info
  obtain ⟨φ', hR, hrep⟩ := h.newCell (t := t) hst hc fun j hj => .stat (hzr j hj).rep
  unfold Oper.wp
  have : (execOp a.eval o).run C.P w = .ok (.value (.pointer (some ⟨w.heap.size, 0, none⟩))) (w.alloc (.cells z.cells t)) := by
    simp only [execOp, ho, Instr.alloc, newVar, Go.newRow, Sem.run_bind, zeroValue, typeInfo, run_program, Result.andThen_ok, hi, Sem.run_pure, hz, run_newObj]
    rfl
  rw [this]
  exact hn _ _ _ _ hR fun _ => hrep
theorem zub {t : TypeId} {x : Operand} (h : Rel C W0 F0 st a w F φ) (ho : o.op = .box t x) (hr : zj C st e o.dst orc CC (.box t x) = some r) (hx : ∀ u, e x = some u -> Rep w F φ (a.eval x) u) (hst : zq st o.dst r.eff = some st')
    (hn : Next C W0 F0 st' a o r.val next) : o.wp C.P a w next Q := by
  simp only [zj] at hr
  split at hr
  case h_2 => cases hr
  rename_i te d v h1 hd h2
  split at hr
  case h_2 => cases hr
  rename_i y hy
  cases hr
  rw [hd] at hst
  obtain ⟨hs, hrr⟩ := zcr hy (hx _ h2)
  obtain ⟨φ', hR, hrep⟩ := h.newCell (t := t) hst hs hrr
  unfold Oper.wp
  have : (execOp a.eval o).run C.P w = .ok (.value (.pointer (some ⟨w.heap.size, 0, none⟩))) (w.alloc (.cells (a.eval x).cells t)) := by
    simp only [execOp, ho, Instr.box, newVar, Go.newRow, Sem.run_bind, Result.andThen_ok, Sem.run_pure, run_newObj]
    rfl
  rw [this]
  exact hn _ _ _ _ hR fun _ => hrep
end
end Go.AV
namespace Go.AV
open Go.RowKit
section
variable {C : Cfg} {W0 : Entry} {F0 : Nat -> Prop} {st st' : St} {a : Act} {w : World} {F : Nat -> Prop} {φ : Nat -> Place} {e : Operand -> Option AV} {dst : Option Nat} {orc : FuncId -> List AV -> Option AV} {CC : FuncId -> List AV -> AV -> Prop} {r : Res} {o : Oper}
  {next : Act -> World -> Prop} {Q : Exit -> Act -> World -> Prop}
theorem zea (place : Nat -> Option (Nat × Nat)) (cells : Array Value) (i off size : Nat) (v : Value) (rest : List (Nat × Value)) (hp : place i = some (off, size)) (hv : v.cells.size = size) (hl : off + size <= cells.size) :
    ∃ cells', Instr.fill place cells ((i, v) :: rest) = Instr.fill place cells' rest /\ cells'.size = cells.size /\
      ∀ k, k < cells.size -> cells'.getD k undef = if off <= k /\ k < off + size then v.cells.getD (k - off) undef else cells.getD k undef := by
  obtain ⟨h1, h2⟩ := Great.foldl_set off v.cells.toList 0 cells
  refine ⟨_, ?_, h1, fun k hk => ?_⟩
  . rw [Instr.fill, hp]
    simp only [hv, ne_eq, not_true_eq_false, decide_false, Bool.false_or, gt_iff_lt, decide_eq_true_eq]
    rw [if_neg (by simp; omega)]
    congr 1
    rw [<- Array.foldl_toList, Array.toList_zipIdx]
  . rw [Array.getD_eq_getD_getElem?, h2 k]
    simp only [Nat.add_zero, Array.length_toList, hv]
    by_cases hc : off <= k /\ k < off + size
    . rw [if_pos ⟨hc.1, hc.2, hk⟩, if_pos hc, Array.getElem?_toList, Array.getD_eq_getD_getElem?]
    . rw [if_neg (fun h => hc ⟨h.1, h.2.1⟩), if_neg hc, Array.getD_eq_getD_getElem?]
theorem zab {ss : List Shape} {place : Nat -> Option (Nat × Nat)} (hpl : ∀ i s, ss[i]? = some s -> place i = some (Shape.sizes (ss.take i), s.size)) :
    ∀ (l : List (Nat × Operand)) (ps : List (Nat × AV)) (zs ys : List AV) (cells : Array Value), z3f e l = some ps -> za7 ss zs ps = some ys -> (∀ p ∈ l, ∀ u, e p.2 = some u -> Rep w F φ (a.eval p.2) u) -> cells.size = Shape.sizes ss -> zs.length = ss.length ->
    (∀ k, k < Shape.sizes ss -> Rep w F φ (cells.getD k undef) (zf ss zs k)) ->
    ∃ cells', Instr.fill place cells (l.map fun p => (p.1, a.eval p.2)) = some cells' /\ cells'.size = Shape.sizes ss /\ ∀ k, k < Shape.sizes ss -> Rep w F φ (cells'.getD k undef) (zf ss ys k)
  | [], ps, zs, ys, cells, h1, h2, _, hs, _, hr => by
    simp [z3f] at h1; subst h1
    simp [za7] at h2; subst h2
    exact ⟨cells, by simp [Instr.fill], hs, hr⟩
  | (i, x) :: l, ps, zs, ys, cells, h1, h2, hx, hs, hz, hr => by
    simp only [z3f] at h1
    split at h1
    case h_2 => cases h1
    rename_i v vs hv hvs
    cases h1
    simp only [za7] at h2
    split at h2
    case h_2 => cases h2
    rename_i s hsi
    split at h2
    case h_2 => cases h2
    rename_i y hy
    obtain ⟨u1, u2⟩ := zcr hy (hx (i, x) (by simp) v hv)
    have hsz := z2s hsi
    obtain ⟨cells', f1, f2, f3⟩ := zea place cells i _ _ (a.eval x) (l.map fun p => (p.1, a.eval p.2)) (hpl i s hsi) u1 (by omega)
    obtain ⟨c2, g1, g2, g3⟩ := zab hpl l vs (zs.set i y) ys cells' hvs h2 (fun p hp => hx p (by simp [hp])) (f2.trans hs) (by simpa using hz) (fun k hk => by
      rw [f3 k (by omega), za4 hsi y k (by rw [hz]; exact (List.getElem?_eq_some_iff.1 hsi).1)]
      by_cases hc : Shape.sizes (ss.take i) <= k /\ k < Shape.sizes (ss.take i) + s.size
      . rw [if_pos hc, if_pos hc]; exact u2 _ (by omega)
      . rw [if_neg hc, if_neg hc]; exact hr k hk)
    exact ⟨c2, by rw [List.map_cons, f1]; exact g1, g2, g3⟩
theorem z97 {s : Shape} {len : Nat} : ∀ (ps : List (Nat × AV)) (zs ys : List AV), z3n s len zs ps = some ys -> ys.length = zs.length
  | [], zs, ys, h => by simp [z3n] at h; rw [h]
  | (i, v) :: l, zs, ys, h => by
    simp only [z3n] at h
    split at h
    case h_2 => cases h
    split at h
    case h_2 => cases h
    rw [z97 l _ ys h, List.length_set]
theorem z8o {s : Shape} {len : Nat} :
    ∀ (l : List (Nat × Operand)) (ps : List (Nat × AV)) (zs ys : List AV) (cells : Array Value), z3f e l = some ps -> z3n s len zs ps = some ys -> (∀ p ∈ l, ∀ u, e p.2 = some u -> Rep w F φ (a.eval p.2) u) -> cells.size = len * s.size -> zs.length = len ->
    (∀ i, i < len -> ∀ j, j < s.size -> RepS w F (cells.getD (i * s.size + j) undef) (z6 s (zs.getD i .any) j)) ->
    ∃ cells', Instr.fill (fun i => some (i * s.size, s.size)) cells (l.map fun p => (p.1, a.eval p.2)) = some cells' /\ cells'.size = len * s.size /\ ∀ i, i < len -> ∀ j, j < s.size -> RepS w F (cells'.getD (i * s.size + j) undef) (z6 s (ys.getD i .any) j)
  | [], ps, zs, ys, cells, h1, h2, _, hs, _, hr => by
    simp [z3f] at h1; subst h1
    simp [z3n] at h2; subst h2
    exact ⟨cells, by simp [Instr.fill], hs, hr⟩
  | (i, x) :: l, ps, zs, ys, cells, h1, h2, hx, hs, hz, hr => by
    simp only [z3f] at h1
    split at h1
    case h_2 => cases h1
    rename_i v vs hv hvs
    cases h1
    simp only [z3n] at h2
    split at h2
    case h_2 => cases h2
    rename_i y hy
    split at h2
    case h_2 => cases h2
    rename_i hc
    simp only [Bool.and_eq_true] at hc
    have hi : i < len := by have := hc.2; simp [Nat.blt] at this; omega
    obtain ⟨u1, u2⟩ := zcr hy (hx (i, x) (by simp) v hv)
    have hmul : (i + 1) * s.size <= len * s.size := Nat.mul_le_mul_right _ hi
    rw [Nat.add_mul] at hmul
    obtain ⟨cells', f1, f2, f3⟩ := zea (fun i => some (i * s.size, s.size)) cells i _ _ (a.eval x) (l.map fun p => (p.1, a.eval p.2)) rfl u1 (by omega)
    obtain ⟨c2, g1, g2, g3⟩ := z8o l vs (zs.set i y) ys cells' hvs h2 (fun p hp => hx p (by simp [hp])) (f2.trans hs) (by simpa using hz) (fun k hk j hj => by
      have hk2 : (k + 1) * s.size <= len * s.size := Nat.mul_le_mul_right _ hk
      rw [Nat.add_mul] at hk2
      rw [f3 _ (by omega)]
      by_cases hki : k = i
      . subst hki
        rw [if_pos (by omega), show k * s.size + j - k * s.size = j from by omega]
        have : (zs.set k y).getD k .any = y := by simp [hz, hk]
        rw [this]
        exact (u2 j hj).toS (z1w s y j hc.1)
      . have : (zs.set i y).getD k .any = zs.getD k .any := by simp [Ne.symm hki]
        rw [this, if_neg]
        . exact hr k hk j hj
        . intro ⟨h5, h6⟩
          rcases Nat.lt_or_gt_of_ne hki with h7 | h7
          . have : (k + 1) * s.size <= i * s.size := Nat.mul_le_mul_right _ h7
            rw [Nat.add_mul] at this; omega
          . have : (i + 1) * s.size <= k * s.size := Nat.mul_le_mul_right _ h7
            rw [Nat.add_mul] at this; omega)
    exact ⟨c2, by rw [List.map_cons, f1]; exact g1, g2, g3⟩
theorem zeb (hT : z12 C) : ∀ fs : List Field, (∀ f ∈ fs, ∃ te, tyOf C f.type = some te) ->
    ∃ places, fs.mapM (fun f => (C.P.info? f.type).map fun i => (f.offset, i.size)) = some places /\ places.length = fs.length /\ ∀ (i : Nat) (f : Field), fs[i]? = some f -> ∃ te, tyOf C f.type = some te /\ places[i]? = some (f.offset, te.sh.size)
  | [], _ => ⟨[], rfl, rfl, fun i f h => by simp at h⟩
  | g :: fs, h => by
    obtain ⟨te, hte⟩ := h g (by simp)
    obtain ⟨d, i, z, _, hi, hs, _⟩ := (hT _ _ hte).info
    obtain ⟨places, h1, h2, h3⟩ := zeb hT fs fun f hf => h f (by simp [hf])
    refine ⟨(g.offset, te.sh.size) :: places, by simp [List.mapM_cons, hi, h1, hs], by simp [h2], fun j f hj => ?_⟩
    cases j with
    | zero => simp at hj; subst hj; exact ⟨te, hte, rfl⟩
    | succ j => simpa using h3 j f (by simpa using hj)
theorem zac (parts : Array (Nat × Operand)) : (parts.map fun (i, x) => (i, a.eval x)).toList = parts.toList.map fun p => (p.1, a.eval p.2) := by simp
theorem zis {t : TypeId} {parts : Array (Nat × Operand)} (hT : z12 C) (ho : o.op = .build t parts) (hr : zj C st e dst orc CC (.build t parts) = some r)
    (hx : ∀ p ∈ parts.toList, ∀ u, e p.2 = some u -> Rep w F φ (a.eval p.2) u) : z2f C o a w F φ r := by
  simp only [zj] at hr
  split at hr
  case h_2 => cases hr
  rename_i te ps h1 h2
  have T := hT _ _ h1
  obtain ⟨d, i, z, hd, hi, hs, hb, hz, hzs, hk, hzr⟩ := T.info
  split at hr
  . rename_i ss zs hsh hzero
    split at hr
    case h_2 => cases hr
    rename_i ys hys hlen
    cases hr
    have hstruct : ∃ fields : Array Field, ss.length = fields.size /\ d = .struct fields /\ ∀ i : Nat, ∀ f : Field, fields[i]? = some f -> ∃ te, tyOf C f.type = some te /\ ss[i]? = some te.sh /\ f.offset = Shape.sizes (ss.take i) /\ f.name ≠ "_" := by
      rw [hsh] at hk
      cases hkk : te.kind <;> rw [hkk] at hk <;> simp only [z5n] at hk
      all_goals first
        | (obtain ⟨_, h⟩ := hk; cases h; done)
        | (obtain ⟨_, _, _, h⟩ := hk; cases h; done)
        | (obtain ⟨h, _⟩ := hk; cases h; done)
        | skip
      obtain ⟨fields, ss', rfl, hss, hl1, hl2, hf⟩ := hk
      cases hss
      exact ⟨fields, by rw [hl1, hl2]; simp, rfl, hf⟩
    obtain ⟨fields, hlenf, rfl, hf'⟩ := hstruct
    rw [hsh] at hzs hzr
    rw [hzero] at hzr
    simp only [Shape.size] at hzs hzr
    obtain ⟨places, p1, p2, p3⟩ := zeb hT fields.toList fun f hf => by
      obtain ⟨j, hj⟩ := List.mem_iff_getElem?.1 hf
      obtain ⟨te', h, _⟩ := hf' j f (by simpa using hj)
      exact ⟨te', h⟩
    have hpl : ∀ (i : Nat) (s : Shape), ss[i]? = some s -> places[i]? = some (Shape.sizes (ss.take i), s.size) := by
      intro i s his
      have hlt : i < fields.size := by
        have := (List.getElem?_eq_some_iff.1 his).1
        omega
      obtain ⟨tf, a1, a2, a3, _⟩ := hf' i fields[i] (by simp [hlt])
      obtain ⟨tf', b1, b2⟩ := p3 i fields[i] (by simp [hlt])
      rw [a1] at b1; cases b1
      rw [his] at a2; cases a2
      rw [b2, a3]
    obtain ⟨cells, f1, f2, f3⟩ := zab (w := w) (F := F) (φ := φ) (a := a) (place := (places.toArray[·]?)) (by simpa using hpl) parts.toList ps zs ys z.cells h2 hys hx hzs (Nat.eq_of_beq_eq_true hlen) (fun k hk => .stat (hzr k hk).rep)
    have hb' : C.P.built t (parts.map fun (i, x) => (i, a.eval x)).toList = some cells := by
      unfold Program.built
      rw [hi, hd, zac]
      simp only [hz, p1]
      exact f1
    refine ⟨rfl, .agg cells, ?_, .mc _ _ _ f2 f3⟩
    simp only [execOp, ho]
    exact z1j (run_build w t _ cells hb')
  . rename_i n s m f hsh hzero
    split at hr
    case h_2 => cases hr
    rename_i ys hys
    cases hr
    have harr : ∃ el tl, d = .array n el /\ tyOf C el = some tl /\ s = tl.sh := by
      rw [hsh] at hk
      cases hkk : te.kind <;> rw [hkk] at hk <;> simp only [z5n] at hk
      all_goals first
        | (obtain ⟨_, h⟩ := hk; cases h; done)
        | (obtain ⟨_, _, _, h, _⟩ := hk; cases h; done)
        | (obtain ⟨h, _⟩ := hk; cases h; done)
        | skip
      obtain ⟨rfl, tl, htl, hs⟩ := hk
      cases hs
      exact ⟨_, tl, rfl, htl, rfl⟩
    obtain ⟨el, tl, rfl, htl, rfl⟩ := harr
    have Tl := hT _ _ htl
    obtain ⟨_, ie, _, _, hie, hse, _⟩ := Tl.info
    rw [hsh] at hzs hzr
    rw [hzero] at hzr
    simp only [Shape.size] at hzs hzr
    have hpos := Tl.pos
    obtain ⟨cells, f1, f2, f3⟩ := z8o (w := w) (F := F) (φ := φ) (a := a) parts.toList ps ((List.range n).map f) ys z.cells h2 hys hx hzs (by simp) (fun i hi j hj => by
      have hmul : (i + 1) * tl.sh.size <= n * tl.sh.size := Nat.mul_le_mul_right _ hi
      rw [Nat.add_mul] at hmul
      have := (hzr (i * tl.sh.size + j) (by omega)).rep (w := w) (F := F)
      simp only [z6] at this
      rw [Nat.mul_comm i, Nat.mul_add_div hpos, Nat.mul_add_mod, Nat.div_eq_of_lt hj, Nat.mod_eq_of_lt hj, Nat.add_zero] at this
      rw [Nat.mul_comm i]
      have hg : ((List.range n).map f).getD i .any = f i := by simp [hi]
      rw [hg]
      exact this.strip (.st (.refl _)))
    have hb' : C.P.built t (parts.map fun (i, x) => (i, a.eval x)).toList = some cells := by
      unfold Program.built
      rw [hi, hd, zac]
      simp only [hz, hie, hse]
      exact f1
    refine ⟨rfl, .agg cells, ?_, .stat (.mc _ _ _ f2 fun k hk => ?_)⟩
    . simp only [execOp, ho]
      exact z1j (run_build w t _ cells hb')
    . simp only [Shape.size] at hk
      simp only [z6]
      have hkn := (Nat.div_lt_iff_lt_mul hpos).2 hk
      have := f3 (k / tl.sh.size) hkn (k % tl.sh.size) (Nat.mod_lt _ hpos)
      have hlen : ys.length = n := by rw [z97 _ _ _ hys]; simp
      have hgd : ys.getD (k / tl.sh.size) .any = ys.getD (k / tl.sh.size) (f 0) := by simp [List.getD_eq_getElem?_getD, List.getElem?_eq_getElem (hlen ▸ hkn)]
      rw [hgd] at this
      rw [Nat.mul_comm (k / tl.sh.size), Nat.div_add_mod] at this
      exact .st this
  . cases hr
end
end Go.AV
namespace Go.AV
open Go.RowKit
section
variable {C : Cfg} {W0 : Entry} {F0 : Nat -> Prop} {st st' : St} {a : Act} {w : World} {F : Nat -> Prop} {φ : Nat -> Place} {e : Operand -> Option AV} {dst : Option Nat} {orc : FuncId -> List AV -> Option AV} {CC : FuncId -> List AV -> AV -> Prop} {r : Res} {o : Oper}
  {next : Act -> World -> Prop} {Q : Exit -> Act -> World -> Prop}
theorem zbl (z : Array Value) (n k : Nat) (hk : k < n) : (madeCells z n).getD k undef = z[k % z.size]! := by
  simp [madeCells, hk]
theorem zh0 {z : Array Value} {n i j : Nat} (hi : i < n) (hj : j < z.size) : (madeCells z (n * z.size)).getD (i * z.size + j) undef = z.getD j undef := by
  have hmul : (i + 1) * z.size <= n * z.size := Nat.mul_le_mul_right _ hi
  rw [Nat.add_mul] at hmul
  rw [zbl _ _ _ (by omega), Nat.mul_comm i, Nat.mul_add_mod, Nat.mod_eq_of_lt hj]
  rw [getElem!_pos z j hj, Array.getD_eq_getD_getElem?, Array.getElem?_eq_getElem hj, Option.getD_some]
theorem wp_buildSlice' {t : TypeId} {len : Nat} {parts : Array (Nat × Operand)} (h : Rel C W0 F0 st a w F φ) (hT : z12 C) (ho : o.op = .buildSlice t len parts) (hr : zj C st e o.dst orc CC (.buildSlice t len parts) = some r)
    (hx : ∀ p ∈ parts.toList, ∀ u, e p.2 = some u -> Rep w F φ (a.eval p.2) u) (hob : ∀ p ∈ r.obs, p) (hst : zq st o.dst r.eff = some st') (hn : Next C W0 F0 st' a o r.val next) : o.wp C.P a w next Q := by
  simp only [zj] at hr
  split at hr
  case h_2 => cases hr
  rename_i te ps d h1 h2 hd
  split at hr
  case h_2 => cases hr
  rename_i el hkind
  split at hr
  case h_2 => cases hr
  rename_i tl htl
  split at hr
  case h_2 => cases hr
  rename_i ys hys hzst
  have hsmall : len * tl.sh.size <= 16777216 := hob _ (by split at hr <;> (cases hr; simp))
  have T := hT _ _ h1
  have Tl := hT _ _ htl
  have hu := z2m T hkind
  obtain ⟨dd, ie, z, hue, hie, hse, _, hz, hzs, _, hzr⟩ := Tl.info
  have hpos := Tl.pos
  obtain ⟨cells, f1, f2, f3⟩ := z8o (w := w) (F := F) (φ := φ) (a := a) (len := len) parts.toList ps (List.replicate len tl.zero) ys (madeCells z.cells (len * z.cells.size)) h2 hys hx (by rw [size_madeCells, hzs]) (by simp) (fun i hi j hj => by
    have := zh0 (z := z.cells) hi (show j < z.cells.size by omega)
    rw [hzs] at this
    rw [hzs, this]
    have hg : (List.replicate len tl.zero).getD i .any = tl.zero := by simp [hi]
    rw [hg]
    exact (hzr j hj).rep)
  have hrun : (Instr.buildSlice t len (parts.map fun (i, x) => (i, a.eval x))).run C.P w = .ok (.slice (some ⟨w.heap.size, 0, none⟩) len len) (w.alloc (.cells cells el)) := by
    by_cases h0 : len * tl.sh.size = 0
    . have hlen : len = 0 := by
        rcases Nat.mul_eq_zero.1 h0 with h | h
        . exact h
        . omega
      subst hlen
      have hp : parts.toList = [] := by
        cases hpp : parts.toList with
        | nil => rfl
        | cons p l =>
          obtain ⟨i, x⟩ := p
          rw [hpp] at h2
          simp only [z3f] at h2
          split at h2
          . cases h2
            simp only [z3n] at hys
            split at hys
            . split at hys
              . rename_i hc
                simp [Nat.blt] at hc
              . cases hys
            . cases hys
          . cases h2
      have hp' : parts = #[] := by
        rw [<- Array.toList_eq_nil_iff]; exact hp
      subst hp'
      have hc : cells = #[] := by
        apply Array.eq_empty_of_size_eq_zero
        simpa using f2
      subst hc
      simp [Instr.buildSlice, run_underlying hu, sizeOf, typeInfo, hie, Instr.fill, Go.newRow, Array.range_zero']
    . refine run_buildSlice w t el len _ cells ie z hu hie hz (by rw [hse]; omega) (by rw [hse]; exact h0) ?_
      rw [zac, hse]
      have : (Array.range (len * tl.sh.size)).map (z.cells[· % z.cells.size]!) = madeCells z.cells (len * z.cells.size) := by unfold madeCells; rw [hzs]
      rw [this]
      exact f1
  have hex : (execOp a.eval o).run C.P w = .ok (.value (.slice (some ⟨w.heap.size, 0, none⟩) len len)) (w.alloc (.cells cells el)) := by
    simp only [execOp, ho, Sem.run_bind, hrun, Result.andThen_ok, Sem.run_pure]
  have hmax : len <= maxLen := by unfold maxLen; have := Nat.le_mul_of_pos_right len hpos; omega
  unfold Oper.wp
  rw [hex]
  split at hr
  . cases hr
    rw [hd] at hst
    obtain ⟨φ', hR, hrep⟩ := h.newRow (t := el) (cap := len) hst f2 (Nat.le_refl _) hmax f3
    exact hn _ _ _ _ hR fun _ => hrep
  . cases hr
    simp only [zq, Option.some.injEq] at hst
    subst hst
    have hb : Below w.heap.size w (w.alloc (.cells cells el)) := (Below.refl _ w).alloc (Nat.le_refl _) _
    have hk : ∀ k, F k -> (w.alloc (.cells cells el)).heap[k]? = w.heap[k]? := fun k hk => Below.heap_alloc w _ k (h.ro k hk)
    have hsz : w.heap.size < (w.alloc (.cells cells el)).heap.size := by
      have := (Array.getElem?_eq_some_iff.1 (z9o (w := w) cells el)).1
      exact this
    refine hn _ _ (fun k => F k ∨ k = w.heap.size) φ (h.grown hb (fun k hk => .inl hk) (fun k hk => hk.imp id fun e => by omega) fun k hk => ?_) fun _ => ?_
    . rcases hk with hk | rfl
      . exact Nat.lt_of_lt_of_le (h.ro k hk) hb.size
      . exact hsz
    . refine .stat (.seq w.heap.size 0 len len _ _ (fun i j => cells.getD (i * tl.sh.size + j) undef) (.inr rfl) (Nat.le_refl _) (fun i hi j hj => ?_) fun i hi j hj => (f3 i hi j hj).keep hk fun _ hk => .inl hk)
      have hmul := Nat.mul_le_mul_right tl.sh.size (show i + 1 <= len from hi)
      rw [Nat.add_mul] at hmul
      rw [Nat.zero_add]; exact z4j (z9o cells el) (by omega)
theorem zec {t : TypeId} {ln cp : Operand} (h : Rel C W0 F0 st a w F φ) (hT : z12 C) (ho : o.op = .makeSlice t ln cp) (hr : zj C st e o.dst orc CC (.makeSlice t ln cp) = some r)
    (hl : ∀ u, e ln = some u -> Rep w F φ (a.eval ln) u) (hc : ∀ u, e cp = some u -> Rep w F φ (a.eval cp) u) (hob : ∀ p ∈ r.obs, p) (hst : zq st o.dst r.eff = some st') (hn : Next C W0 F0 st' a o r.val next) : o.wp C.P a w next Q := by
  simp only [zj] at hr
  split at hr
  case h_2 => cases hr
  rename_i te n c d h1 h2 h3 hd
  split at hr
  case h_2 => cases hr
  rename_i el hkind
  split at hr
  case h_2 => cases hr
  rename_i tl htl
  split at hr
  case h_2 => cases hr
  rename_i hzst
  cases hr
  rw [hd] at hst
  have T := hT _ _ h1
  have Tl := hT _ _ htl
  have hu := z2m T hkind
  obtain ⟨dd, ie, z, hue, hie, hse, hbe, hz, hzs, _, hzr⟩ := Tl.info
  obtain ⟨o1, o2, o3, o4⟩ : 0 <= n /\ n <= c /\ (tl.bytes : Int) * c <= 140737488355328 /\ c <= 9223372036854775807 := hob _ (by simp)
  obtain ⟨kl, ekl⟩ := z8k h2 hl
  obtain ⟨kc, ekc⟩ := z8k h3 hc
  have hrun := run_make (P := C.P) w t el ie z hu hie hz kl kc n c o1 o2 (by rw [hbe]; omega) o4
  rw [hse, <- hzs] at hrun
  obtain ⟨φ', hR, hrep⟩ := h.newRow (t := el) (cap := c.toNat) (cs := madeCells z.cells (c.toNat * z.cells.size)) hst (by rw [size_madeCells, hzs]) (by omega) (by unfold maxLen; omega) (fun i hi j hj => by
    have := zh0 (z := z.cells) (n := c.toNat) (i := i) (by omega) (show j < z.cells.size by omega)
    rw [hzs] at this
    rw [hzs, this]
    exact (hzr j hj).rep)
  unfold Oper.wp
  have : (execOp a.eval o).run C.P w = .ok (.value (.slice (some ⟨w.heap.size, 0, none⟩) n.toNat c.toNat)) (w.alloc (.cells (madeCells z.cells (c.toNat * z.cells.size)) el)) := by
    simp only [execOp, ho, ekl, ekc, Sem.run_bind, hrun, Result.andThen_ok, Sem.run_pure]
  rw [this]
  exact hn _ _ _ _ hR fun _ => hrep
theorem z34 {c : Call} {b : Builtin} (ho : o.op = .call c) (hc : c.callee = .builtin b) {V : Value} {w' : World}
    (hrun : (builtin b c.argTypes o.type (c.args.map fun | .const _ => true | _ => false) (c.args.map a.eval)).run C.P w = .ok (.value V) w') : (execOp a.eval o).run C.P w = .ok (.value V) w' := by
  obtain ⟨callee, args, tys⟩ := c
  cases hc
  simp only [execOp, ho, resolve, Sem.run_bind, Sem.run_pure, Result.andThen_ok, invoke]
  exact hrun
theorem zcx {n : Nat} (h : (n : Int) <= 9223372036854775807) : InR .i64 (n : Int) := by
  unfold InR; rw [IntKind.wrap_i64]; omega
theorem zit {v : Value} {x : AV} {n : Nat} (h : zre x = some n) (hr : Rep w F φ v x) : ∃ A c, v = .slice A n c := by
  unfold zre at h
  split at h
  . cases h; obtain ⟨A, c, hv, _⟩ := Rep.seq_inv (.inl hr); exact ⟨A, c, hv⟩
  . cases h; obtain ⟨A, c, hv, _⟩ := Rep.seq_inv (.inr hr); exact ⟨A, c, hv⟩
  . cases h
    rcases hr.own_inv with ⟨g, _, hv, _⟩ | ⟨_, h0, hv⟩
    . exact ⟨_, _, hv⟩
    . subst h0; exact ⟨_, _, hv⟩
  . cases h; obtain ⟨A, c, hv, _⟩ := Rep.seq_inv (.inl hr.nseq_seq); exact ⟨A, c, hv⟩
  . cases h
    cases hr with
    | stat h => cases h; exact ⟨_, _, rfl⟩
  . cases h
theorem zn9 {c : Call} (hT : z12 C) (ho : o.op = .call c) (hc : c.callee = .builtin .len) (hr : zj C st e dst orc CC (.call c) = some r) (hx : ∀ x ∈ c.args.toList, ∀ u, e x = some u -> Rep w F φ (a.eval x) u)
    (hob : ∀ p ∈ r.obs, p) : z2f C o a w F φ r := by
  simp only [zj, hc] at hr
  split at hr
  case h_2 => cases hr
  rename_i x t hargs htys
  split at hr
  case h_2 => cases hr
  rename_i te v h1 h2
  have T := hT _ _ h1
  have hrep := hx x (by rw [hargs]; simp) v h2
  have ea : c.args = #[x] := by rw [<- Array.toArray_toList (xs := c.args), hargs]
  have et : c.argTypes = #[t] := by rw [<- Array.toArray_toList (xs := c.argTypes), htys]
  have run : ∀ n : Nat, (Builtin.len_ #[t] o.type #[a.eval x]).run C.P w = .ok (goInt n) w -> (execOp a.eval o).run C.P w = .ok (.value (.int .i64 n)) w := by
    intro n hl
    refine z34 ho hc ?_
    rw [ea, et]
    simp only [builtin, Sem.run_bind]
    have : (#[x].map a.eval) = #[a.eval x] := by simp
    rw [this, hl]
    rfl
  split at hr
  . rename_i el hkind
    split at hr
    case h_2 => cases hr
    rename_i n hn
    cases hr
    have hu := z2m T hkind
    have hin : (n : Int) <= 9223372036854775807 := hob _ (by simp)
    obtain ⟨A, cp, hv⟩ := zit hn hrep
    exact ⟨rfl, _, run n (by simp [Builtin.len_, run_underlying hu, hv]), .stat (.int _ _ (zcx hin))⟩
  . rename_i hkind
    split at hr
    case h_2 => cases hr
    rename_i l
    cases hr
    have hu := z2x T hkind
    have hin : (l.length : Int) <= 9223372036854775807 := hob _ (by simp)
    obtain ⟨s, hv, rfl⟩ := hrep.str_inv
    have hs : s.data.toList.length = s.size := by rw [Array.length_toList]; rfl
    exact ⟨rfl, _, run _ (by simp only [Builtin.len_, run_underlying hu, hv, hs, Sem.run_bind, Sem.run_pure, Result.andThen_ok, List.getElem?_toArray, List.getElem?_cons_zero]), .stat (.int _ _ (zcx hin))⟩
  . rename_i n el hkind
    split at hr
    case h_2 => cases hr
    rename_i hn
    cases hr
    obtain ⟨hu, _⟩ := zcv T hkind
    have hin : (n : Int) <= 9223372036854775807 := by have := Nat.le_of_ble_eq_true hn; omega
    exact ⟨rfl, _, run n (by simp [Builtin.len_, run_underlying hu]), .stat (.int _ _ (zcx hin))⟩
  . cases hr
theorem zna {c : Call} (ho : o.op = .call c) (hc : c.callee = .builtin .min) (hr : zj C st e dst orc CC (.call c) = some r) (hx : ∀ x ∈ c.args.toList, ∀ u, e x = some u -> Rep w F φ (a.eval x) u) : z2f C o a w F φ r := by
  simp only [zj, hc] at hr
  split at hr
  case h_2 => cases hr
  rename_i x y hargs
  split at hr
  case h_2 => cases hr
  rename_i k m k' n h1 h2
  split at hr
  case h_2 => cases hr
  rename_i hk
  have := of_decide_eq_true hk
  subst this
  cases hr
  have ea : c.args = #[x, y] := by rw [<- Array.toArray_toList (xs := c.args), hargs]
  obtain ⟨e1, i1⟩ := (hx x (by rw [hargs]; simp) _ h1).int_inv
  obtain ⟨e2, i2⟩ := (hx y (by rw [hargs]; simp) _ h2).int_inv
  refine ⟨rfl, .int k (if n < m then n else m), z34 ho hc ?_, ?_⟩
  . rw [ea]
    simp [builtin, Builtin.min_, e1, e2, Builtin.min2]
  . split
    . exact .stat (.int _ _ i2)
    . exact .stat (.int _ _ i1)
theorem znb {c : Call} (ho : o.op = .call c) (hc : c.callee = .builtin .max) (hr : zj C st e dst orc CC (.call c) = some r) (hx : ∀ x ∈ c.args.toList, ∀ u, e x = some u -> Rep w F φ (a.eval x) u) : z2f C o a w F φ r := by
  simp only [zj, hc] at hr
  split at hr
  case h_2 => cases hr
  rename_i x y hargs
  split at hr
  case h_2 => cases hr
  rename_i k m k' n h1 h2
  split at hr
  case h_2 => cases hr
  rename_i hk
  have := of_decide_eq_true hk
  subst this
  cases hr
  have ea : c.args = #[x, y] := by rw [<- Array.toArray_toList (xs := c.args), hargs]
  obtain ⟨e1, i1⟩ := (hx x (by rw [hargs]; simp) _ h1).int_inv
  obtain ⟨e2, i2⟩ := (hx y (by rw [hargs]; simp) _ h2).int_inv
  refine ⟨rfl, .int k (if m < n then n else m), z34 ho hc ?_, ?_⟩
  . rw [ea]
    simp [builtin, Builtin.max_, e1, e2, Builtin.max2]
  . split
    . exact .stat (.int _ _ i2)
    . exact .stat (.int _ _ i1)
end
end Go.AV
namespace Go.AV
open Go.RowKit
def RepR (w : World) (F : Nat -> Prop) (v : Value) : AV -> Prop
  | .tup l => ∃ vs : Array Value, v = .tuple vs /\ vs.size = l.length /\ ∀ j, j < l.length -> RepS w F (vs.getD j undef) (l.getD j .any)
  | x => RepS w F v x
def z76 (P : Program) (G : List (Nat × AV)) (f : FuncId) (args : List AV) (r : AV) : Prop :=
  ∀ (w : World) (F : Nat -> Prop) (vs : Array Value), (∀ k, F k -> k < w.heap.size) -> (∀ g x, get G g = some x -> RepS w F (.pointer (some ⟨g, 0, none⟩)) x) -> vs.size = args.length ->
    (∀ j, j < args.length -> RepS w F (vs.getD j undef) (args.getD j .any)) ->
    Calls P f vs w fun en w' => ∃ v F', en = .returned v /\ Below w.heap.size w w' /\ (∀ k, F k -> F' k) /\ (∀ k, F' k -> F k ∨ w.heap.size <= k) /\ (∀ k, F' k -> k < w'.heap.size) /\ RepR w' F' v r
section
variable {C : Cfg} {W0 : Entry} {F0 : Nat -> Prop} {st st' : St} {a : Act} {w : World} {F : Nat -> Prop} {φ : Nat -> Place} {e : Operand -> Option AV} {dst : Option Nat} {orc : FuncId -> List AV -> Option AV} {CC : FuncId -> List AV -> AV -> Prop} {r : Res} {o : Oper}
  {next : Act -> World -> Prop} {Q : Exit -> Act -> World -> Prop}
def Lent (st : St) (F : Nat -> Prop) (φ : Nat -> Place) (k : Nat) : Prop := F k ∨ ∃ b c, get st.heap b = some c /\ (φ b).blk = some k
mutual
theorem z4k (h : Rel C W0 F0 st a w F φ) : ∀ (x : AV) (y : AV) (ps : List Prop), frz st.heap x = some (y, ps) -> (∀ p ∈ ps, p) ->
    (∀ v, Rep w F φ v x -> RepS w (Lent st F φ) v y) /\ (∀ sh j v, Rep w F φ v (z6 sh x j) -> RepS w (Lent st F φ) v (z6 sh y j))
  | .own b n, y, ps, hf, hps => by
    simp only [frz] at hf
    split at hf
    case h_2 => cases hf
    rename_i ty sh n' f hb
    cases hf
    have hn : n <= n' := hps _ (by simp)
    have key : ∀ v, Rep w F φ v (.own b n) -> RepS w (Lent st F φ) v (.seq sh n f) := by
      intro v hv
      obtain ⟨hsh, _, hrow⟩ := h.heap b _ hb
      rcases hv.own_inv with ⟨g, hg, rfl, hc⟩ | ⟨hg, h0, rfl⟩
      . rcases hrow with ⟨h1, _⟩ | ⟨g', cs, hg', _, _, hh, hsz, hnc, _, hrep⟩
        . rw [hg] at h1; cases h1
        . obtain rfl : g' = g := by rw [hg] at hg'; injection hg' with e; exact e.symm
          refine .seq g' 0 n _ sh f (fun i j => cs.getD (i * sh.size + j) undef) (.inr ⟨b, _, hb, hg⟩) hc (fun i hi j hj => ?_) fun i hi j hj => ?_
          . have hmul : (i + 1) * sh.size <= (φ b).cap * sh.size := Nat.mul_le_mul_right _ (by omega)
            rw [Nat.add_mul] at hmul
            rw [Nat.zero_add]; exact z4j hh (by omega)
          . exact (hrep i (by omega) j hj).keep (fun _ _ => rfl) fun k hk => .inl hk
      . subst h0; exact .seq0 _ _ _ _
    refine ⟨key, fun s j v hv => ?_⟩
    cases s with
    | leaf => simp only [z6, z10, AV.isOne] at hv ⊢; exact key v hv
    | agg ss => simp only [z6] at hv ⊢; exact .any _ (hv.one rfl)
    | arr m s => simp only [z6] at hv ⊢; exact .any _ (hv.one rfl)
  | .ptr b p, y, ps, hf, hps => by
    simp only [frz] at hf
    split at hf
    case h_2 => cases hf
    rename_i sh x hb
    split at hf
    case h_2 => cases hf
    rename_i s z hs hz
    split at hf
    case h_2 => cases hf
    rename_i hst
    cases hf
    have key : ∀ v, Rep w F φ v (.ptr b p) -> RepS w (Lent st F φ) v (.rptr s z) := by
      intro v hv
      obtain ⟨hsh, g', cs, hg', _, _, hh, hsz, hrep⟩ := h.cells hb
      obtain ⟨g, hg, hp, rfl⟩ := hv.ptr_inv
      obtain rfl : g' = g := by rw [hg] at hg'; injection hg' with e; exact e.symm
      rw [hsh] at hp ⊢
      have hlt := z1n p sh s hp hs
      refine .rptr g' _ s z (fun j => cs.getD (zk p sh + j) undef) (.inr ⟨b, _, hb, hg⟩) (fun j hj => z4j hh (by omega)) fun j hj => ?_
      exact (((hrep _ (by omega)).strip (z41 p sh s x z hp hs hz j hj)).toS (z1w s z j hst)).keep (fun _ _ => rfl) fun k hk => .inl hk
    refine ⟨key, fun s' j v hv => ?_⟩
    cases s' with
    | leaf => simp only [z6, z10, AV.isOne] at hv ⊢; exact key v hv
    | agg ss => simp only [z6] at hv ⊢; exact .any _ (hv.one rfl)
    | arr m s => simp only [z6] at hv ⊢; exact .any _ (hv.one rfl)
  | .agg l, y, ps, hf, hps => by
    simp only [frz] at hf
    split at hf
    case h_2 => cases hf
    rename_i m qs hm
    cases hf
    refine ⟨fun v hv => ?_, fun s j v hv => ?_⟩
    . cases hv with | stat hv => cases hv
    . cases s with
      | leaf => simp only [z6, z10, AV.isOne] at hv ⊢; exact .any _ (hv.one rfl)
      | agg ss => simp only [z6] at hv ⊢; exact zbx h l m ps hm hps ss j v hv
      | arr m s => simp only [z6] at hv ⊢; exact .any _ (hv.one rfl)
  | .clo f l, y, ps, hf, hps => by
    simp only [frz] at hf
    split at hf
    case h_2 => cases hf
    rename_i m qs hm
    cases hf
    have key : ∀ v, Rep w F φ v (.clo f l) -> RepS w (Lent st F φ) v (.clo f m) := by
      intro v hv
      obtain ⟨l1, l2⟩ := z7y h l m ps hm hps
      cases hv with
      | stat hv =>
        cases hv with
        | clo _ caps _ hs hc => exact .clo f caps m (by omega) fun j hj => l2 j hj _ (.stat (hc j (by omega)))
      | clo _ caps _ hs hc => exact .clo f caps m (by omega) fun j hj => l2 j hj _ (hc j (by omega))
    refine ⟨key, fun s' j v hv => ?_⟩
    cases s' with
    | leaf => simp only [z6, z10, AV.isOne] at hv ⊢; exact key v hv
    | agg ss => simp only [z6] at hv ⊢; exact .any _ (hv.one rfl)
    | arr m s => simp only [z6] at hv ⊢; exact .any _ (hv.one rfl)
  | .mc sh x, y, ps, hf, hps => by
    simp only [frz] at hf
    split at hf
    case h_2 => cases hf
    rename_i z qs hz
    cases hf
    obtain ⟨_, k2⟩ := z4k h x z ps hz hps
    refine ⟨fun v hv => ?_, fun s' j v hv => ?_⟩
    . obtain ⟨cs, rfl, hsz, hr⟩ := hv.mc_inv
      exact .mc cs sh z hsz fun j hj => k2 sh j _ (hr j hj)
    . cases s' with
      | leaf => simp only [z6, z10, AV.isOne] at hv ⊢; exact .any _ (hv.one rfl)
      | agg ss => simp only [z6] at hv ⊢; exact .any _ (hv.one rfl)
      | arr m s => simp only [z6] at hv ⊢; exact .any _ (hv.one rfl)
  | .any, y, ps, hf, hps | .int _ _, y, ps, hf, hps | .bool _, y, ps, hf, hps | .str _, y, ps, hf, hps | .nils, y, ps, hf, hps | .nilp, y, ps, hf, hps | .seq _ _ _, y, ps, hf, hps | .seqc _ _ _, y, ps, hf, hps
  | .nseq _ _ _ _, y, ps, hf, hps | .cov _, y, ps, hf, hps | .rptr _ _, y, ps, hf, hps | .arr _ _, y, ps, hf, hps | .st _, y, ps, hf, hps => by
    simp only [frz, Option.some.injEq, Prod.mk.injEq] at hf
    obtain ⟨rfl, rfl⟩ := hf
    exact ⟨fun v hv => (hv.toS rfl).keep (fun _ _ => rfl) fun k hk => .inl hk, fun s j v hv => (hv.toS (z1w s _ j rfl)).keep (fun _ _ => rfl) fun k hk => .inl hk⟩
  | .optr _ _ _, y, ps, hf, _ | .tup _, y, ps, hf, _ | .when _ _, y, ps, hf, _ => by simp [frz] at hf
theorem z7y (h : Rel C W0 F0 st a w F φ) : ∀ (l m : List AV) (ps : List Prop), frzs st.heap l = some (m, ps) -> (∀ p ∈ ps, p) -> l.length = m.length /\ ∀ j, j < m.length -> ∀ v, Rep w F φ v (l.getD j .any) -> RepS w (Lent st F φ) v (m.getD j .any)
  | [], m, ps, hf, _ => by simp [frzs] at hf; obtain ⟨rfl, rfl⟩ := hf; exact ⟨rfl, fun j hj => by simp at hj⟩
  | x :: l, m, ps, hf, hps => by
    simp only [frzs] at hf
    split at hf
    case h_2 => cases hf
    rename_i y ps1 m' ps2 h1 h2
    cases hf
    obtain ⟨l1, l2⟩ := z7y h l m' ps2 h2 fun p hp => hps p (by simp [hp])
    refine ⟨by simp [l1], fun j hj v hv => ?_⟩
    cases j with
    | zero => exact (z4k h x y ps1 h1 fun p hp => hps p (by simp [hp])).1 v (by simpa using hv)
    | succ j => simpa using l2 j (by simpa using hj) v (by simpa using hv)
theorem zbx (h : Rel C W0 F0 st a w F φ) : ∀ (l m : List AV) (ps : List Prop), frzs st.heap l = some (m, ps) -> (∀ p ∈ ps, p) -> ∀ ss j v, Rep w F φ v (zf ss l j) -> RepS w (Lent st F φ) v (zf ss m j)
  | [], m, ps, hf, _, ss, j, v, hv => by
    simp [frzs] at hf; obtain ⟨rfl, rfl⟩ := hf
    cases ss <;> simp only [zf] at hv ⊢ <;> exact .any _ (hv.one rfl)
  | x :: l, m, ps, hf, hps, ss, j, v, hv => by
    simp only [frzs] at hf
    split at hf
    case h_2 => cases hf
    rename_i y ps1 m' ps2 h1 h2
    cases hf
    cases ss with
    | nil => simp only [zf] at hv ⊢; exact .any _ (hv.one rfl)
    | cons s ss =>
      simp only [zf] at hv ⊢
      split
      . rename_i hj
        rw [if_pos hj] at hv
        exact (z4k h x y ps1 h1 fun p hp => hps p (by simp [hp])).2 s j v hv
      . rename_i hj
        rw [if_neg hj] at hv
        exact zbx h l m' ps2 h2 (fun p hp => hps p (by simp [hp])) ss _ v hv
end
mutual
theorem zh1 (h : List (Nat × BoxC)) : ∀ x : AV, x.isStat = true -> frz h x = some (x, [])
  | .agg l, hs => by simp only [frz]; rw [z5z h l (by simpa [AV.isStat] using hs)]
  | .clo f l, hs => by simp only [frz]; rw [z5z h l (by simpa [AV.isStat] using hs)]
  | .mc sh x, hs => by simp only [frz]; rw [zh1 h x (by simpa [AV.isStat] using hs)]
  | .any, _ | .int _ _, _ | .bool _, _ | .str _, _ | .nils, _ | .nilp, _ | .seq _ _ _, _ | .seqc _ _ _, _ | .nseq _ _ _ _, _ | .cov _, _ | .rptr _ _, _ | .arr _ _, _ | .st _, _ => by simp [frz]
  | .own _ _, hs | .ptr _ _, hs | .optr _ _ _, hs | .tup _, hs | .when _ _, hs => by simp [AV.isStat] at hs
theorem z5z (h : List (Nat × BoxC)) : ∀ l : List AV, AV.areStat l = true -> frzs h l = some (l, [])
  | [], _ => by simp [frzs]
  | x :: l, hs => by
    simp only [AV.areStat, Bool.and_eq_true] at hs
    simp only [frzs]
    rw [zh1 h x hs.1, z5z h l hs.2]
    rfl
end
mutual
theorem zad : ∀ (sh : Shape) (x : AV) (j : Nat) {w w' : World} {F F' : Nat -> Prop} {v : Value}, x.isScalar = true -> RepS w F v (z6 sh x j) -> RepS w' F' v (z6 sh x j)
  | .leaf, x, j, w, w', F, F', v, hs, h => by
    cases x <;> simp [AV.isScalar] at hs <;> simp only [z6, z10, AV.isOne] at h ⊢
    all_goals first
      | (cases h with | any _ h => exact .any _ h)
      | (cases h with | int _ _ h => exact .int _ _ h)
      | (cases h; exact .bool _)
      | (cases h; exact .str _)
      | (cases h; exact .nils)
      | (cases h; exact .nilp)
  | .agg ss, x, j, w, w', F, F', v, hs, h => by
    cases x with
    | agg l => simp only [z6] at h ⊢; exact z98 ss l j (by simpa [AV.isScalar] using hs) h
    | _ => simp only [z6] at h ⊢; exact .any _ (h.one rfl)
  | .arr n s, x, j, w, w', F, F', v, hs, h => by
    cases x with
    | arr m f => simp [AV.isScalar] at hs
    | _ => simp only [z6] at h ⊢; exact .any _ (h.one rfl)
theorem z98 : ∀ (ss : List Shape) (l : List AV) (j : Nat) {w w' : World} {F F' : Nat -> Prop} {v : Value}, AV.areScalar l = true -> RepS w F v (zf ss l j) -> RepS w' F' v (zf ss l j)
  | s :: ss, x :: l, j, w, w', F, F', v, hs, h => by
    simp only [AV.areScalar, Bool.and_eq_true] at hs
    simp only [zf] at h ⊢
    split
    . rename_i hj; rw [if_pos hj] at h; exact zad s x j hs.1 h
    . rename_i hj; rw [if_neg hj] at h; exact z98 ss l _ hs.2 h
  | [], _, _, _, _, _, _, _, _, h => by simp only [zf] at h ⊢; exact .any _ (h.one rfl)
  | _ :: _, [], _, _, _, _, _, _, _, h => by simp only [zf] at h ⊢; exact .any _ (h.one rfl)
end
theorem z6r {w w' : World} {F F' : Nat -> Prop} {v : Value} {x : AV} (hs : x.isScalar = true) (h : RepS w F v x) : RepS w' F' v x := by
  cases h with
  | int _ _ h => exact .int _ _ h
  | bool => exact .bool _
  | str => exact .str _
  | nils => exact .nils
  | nilp => exact .nilp
  | mc cs sh x hz hr => exact .mc cs sh x hz fun j hj => zad sh x j (by simpa [AV.isScalar] using hs) (hr j hj)
  | _ => simp [AV.isScalar] at hs
theorem z99 : ∀ {l : List AV} {j : Nat}, AV.areScalar l = true -> j < l.length -> (l.getD j .any).isScalar = true
  | x :: l, 0, h, _ => by simp only [AV.areScalar, Bool.and_eq_true] at h; simpa using h.1
  | x :: l, j + 1, h, hj => by simp only [AV.areScalar, Bool.and_eq_true] at h; simpa using z99 h.2 (by simpa using hj)
  | [], _, _, hj => by simp at hj
theorem RepR.rep {w' : World} {F' : Nat -> Prop} {v : Value} {x : AV} (h : RepR w' F' v x) : Rep w' F' φ v x := by
  cases x with
  | tup l =>
    obtain ⟨vs, rfl, hs, hr⟩ := h
    exact .tup vs l hs fun j hj => .stat (hr j hj)
  | _ => exact .stat h
theorem RepR.scalar {w w' : World} {F F' : Nat -> Prop} {v : Value} {x : AV} (hs : x.isScalar = true) (h : RepR w F v x) : RepR w' F' v x := by
  cases x with
  | tup l =>
    obtain ⟨vs, rfl, hz, hr⟩ := h
    exact ⟨vs, rfl, hz, fun j hj => z6r (z99 (by simpa [AV.isScalar] using hs) hj) (hr j hj)⟩
  | _ => exact z6r hs h
theorem z42 {l : List Operand} {m : List AV} (h : z2e e l = some m) (hx : ∀ x ∈ l, ∀ u, e x = some u -> Rep w F φ (a.eval x) u) : l.length = m.length /\ ∀ j, j < m.length -> Rep w F φ ((l.map a.eval).getD j undef) (m.getD j .any) := z7g h hx
theorem z9l {vs caps : Array Value} {args l : List AV} (h1 : vs.size = args.length) (_ : caps.size = l.length) (p1 : ∀ j, j < args.length -> Rep w F φ (vs.getD j undef) (args.getD j .any)) (p2 : ∀ j, j < l.length -> Rep w F φ (caps.getD j undef) (l.getD j .any)) :
    ∀ j, j < (args ++ l).length -> Rep w F φ ((vs ++ caps).getD j undef) ((args ++ l).getD j .any) := by
  intro j hj
  rw [List.length_append] at hj
  by_cases hlt : j < args.length
  . have := p1 j hlt
    rw [Array.getD_eq_getD_getElem?, Array.getElem?_append_left (by omega), <- Array.getD_eq_getD_getElem?, List.getD_eq_getElem?_getD, List.getElem?_append_left hlt, <- List.getD_eq_getElem?_getD]
    exact this
  . have := p2 (j - args.length) (by omega)
    rw [Array.getD_eq_getD_getElem?, Array.getElem?_append_right (by omega), h1, <- Array.getD_eq_getD_getElem?, List.getD_eq_getElem?_getD, List.getElem?_append_right (by omega), <- List.getD_eq_getElem?_getD]
    exact this
def z1d (P : Program) (f : FuncId) : Prop := ∀ args w, (callFunc f args).run P w = .ok (.enter f args) w
def RExt (P : Program) (f : FuncId) (args : List AV) (r : AV) : Prop :=
  ∀ (w : World) (F : Nat -> Prop) (vs : Array Value), vs.size = args.length -> (∀ j, j < args.length -> RepS w F (vs.getD j undef) (args.getD j .any)) ->
    ∃ v, (callFunc f vs).run P w = .ok (.value v) w /\ RepR w F v r
theorem zjo {c : Call} {fx : Operand} (h : Rel C W0 F0 st a w F φ) (ho : o.op = .call c) (hc : c.callee = .value fx) (hk : mkAt C fx o.dst = none) (hr : zj C st e o.dst orc CC (.call c) = some r)
    (hfx : ∀ u, e fx = some u -> Rep w F φ (a.eval fx) u) (hx : ∀ x ∈ c.args.toList, ∀ u, e x = some u -> Rep w F φ (a.eval x) u) (hob : ∀ p ∈ r.obs, p)
    (hCC : ∀ f as r, CC f as r -> (z1d C.P f /\ z76 C.P C.G f as r) ∨ RExt C.P f as r)
    (hst : zq st o.dst r.eff = some st') (hn : Next C W0 F0 st' a o r.val next) : o.wp C.P a w next Q := by
  simp only [zj, hc, hk] at hr
  split at hr
  case h_2 => cases hr
  rename_i f caps args h1 h2
  split at hr
  case h_2 => cases hr
  rename_i as ps hfz
  split at hr
  case h_2 => cases hr
  rename_i rv hrv
  split at hr
  case h_2 => cases hr
  rename_i hcond
  cases hr
  simp only [zq, Option.some.injEq] at hst
  subst hst
  have hps : ∀ p ∈ ps, p := fun p hp => hob p (by simp [hp])
  have hcc := hCC f as rv (hob _ (by simp))
  obtain ⟨n1, n2⟩ := z42 h2 hx
  have hclo : ∃ cv : Array Value, a.eval fx = .func (.func f) #[] cv /\ cv.size = caps.length /\ ∀ j, j < caps.length -> Rep w F φ (cv.getD j undef) (caps.getD j .any) := by
    have := hfx _ h1
    generalize a.eval fx = v at this
    cases this with
    | stat hv => cases hv with | clo _ cv _ hs hc => exact ⟨cv, rfl, hs, fun j hj => .stat (hc j hj)⟩
    | clo _ cv _ hs hc => exact ⟨cv, rfl, hs, hc⟩
  obtain ⟨cv, hfv, hcs, hcr⟩ := hclo
  have hargs := z9l (vs := c.args.map a.eval) (caps := cv) (args := args) (l := caps) (by simpa using n1) hcs (fun j hj => by
    have := n2 j hj
    simpa [Array.getD_eq_getD_getElem?, List.getD_eq_getElem?_getD] using this) hcr
  have hrun : ∀ nx, (callFunc f (c.args.map a.eval ++ cv)).run C.P w = .ok nx w -> (execOp a.eval o).run C.P w = .ok nx w := fun nx hnx => by
    obtain ⟨callee, args', tys⟩ := c
    cases hc
    simp only [execOp, ho, resolve, Sem.run_bind, hfv]
    simp only [Deferred.ofValue, Sem.run_pure, Result.andThen_ok, invoke, Array.empty_append]
    exact hnx
  have hlen : (c.args.map a.eval ++ cv).size = (args ++ caps).length := by
    rw [List.length_append, Array.size_append, hcs]; simpa using n1
  rcases hcc with ⟨hok, hcall⟩ | hext
  rotate_left
  . simp only [Bool.or_eq_true, Bool.and_eq_true] at hcond
    unfold Oper.wp
    by_cases hsc : rv.isScalar = true
    . obtain ⟨l1, l2⟩ := z7y h _ _ _ hfz hps
      obtain ⟨v, hv1, hv2⟩ := hext w (Lent st F φ) _ (by rw [<- l1]; exact hlen) fun j hj => l2 j hj _ (hargs j (by omega))
      rw [hrun _ hv1]
      exact hn v w F φ h fun _ => (hv2.scalar hsc).rep
    . obtain ⟨hst, _⟩ := hcond.resolve_left hsc
      rw [z5z _ _ hst] at hfz
      cases hfz
      obtain ⟨v, hv1, hv2⟩ := hext w F _ hlen fun j hj => (hargs j hj).toS (z1g hst j)
      rw [hrun _ hv1]
      exact hn v w F φ h fun _ => hv2.rep
  unfold Oper.wp
  rw [hrun _ (hok _ w)]
  show Calls C.P f _ w _
  simp only [Bool.or_eq_true, Bool.and_eq_true] at hcond
  by_cases hsc : rv.isScalar = true
  . obtain ⟨l1, l2⟩ := z7y h _ _ _ hfz hps
    refine (hcall w (Lent st F φ) _ ?_ ?_ ?_ ?_).mono ?_
    . rintro k (hk | ⟨b, c', hb, hk⟩)
      . exact h.ro k hk
      . exact ((h.heap b c' hb).lt hk).1
    . exact fun g x hg => (h.glob g x hg).keep (fun _ _ => rfl) fun k hk => .inl hk
    . rw [<- l1, List.length_append, Array.size_append, hcs]; simpa using n1
    . exact fun j hj => l2 j hj _ (hargs j (by omega))
    . rintro en w' ⟨v, F', rfl, hb, f1, f2, f3, hv⟩
      exact hn v w' F φ (h.grown hb (fun _ hk => hk) (fun k hk => .inl hk) fun k hk => Nat.lt_of_lt_of_le (h.ro k hk) hb.size) fun _ => (hv.scalar hsc).rep
  . obtain ⟨hst, _⟩ := hcond.resolve_left hsc
    rw [z5z _ _ hst] at hfz
    cases hfz
    refine (hcall w F _ h.ro h.glob ?_ fun j hj => ?_).mono ?_
    . rw [List.length_append, Array.size_append, hcs]; simpa using n1
    . exact (hargs j hj).toS (z1g hst j)
    . rintro en w' ⟨v, F', rfl, hb, f1, f2, f3, hv⟩
      exact hn v w' F' φ (h.grown hb f1 f2 f3) fun _ => hv.rep
end
end Go.AV
