/- Copies; every operation; steps; a region in the order of its text. -/
import Derived.Test.YtmlgkljbhidlhaaAvSound11
namespace Go.AV
open Go.RowKit

section
variable {C : Cfg} {W0 : Entry} {F0 : Nat → Prop} {st st' : St} {a : Act} {w : World} {F : Nat → Prop} {φ : Nat → Place} {e : Operand → Option AV} {dst : Option Nat} {orc : FuncId → List AV → Option AV} {CC : FuncId → List AV → AV → Prop} {r : Res} {o : Oper}
  {next : Act → World → Prop} {Q : Exit → Act → World → Prop}

theorem wp_copy {c : Call} (h : Rel C W0 F0 st a w F φ) (hT : TysOK C) (ho : o.op = .call c) (hc : c.callee = .builtin .copy) (hr : absOp C st e o.dst orc CC (.call c) = some r)
    (hx : ∀ x ∈ c.args.toList, ∀ u, e x = some u → Rep w F φ (a.eval x) u) (hob : ∀ p ∈ r.obs, p) (hst : applyEff st o.dst r.eff = some st') (hn : Next C W0 F0 st' a o r.val next) : o.wp C.P a w next Q := by
  simp only [absOp, hc] at hr
  split at hr
  case h_2 => cases hr
  rename_i x y t t' hargs htys
  split at hr
  case h_2 => cases hr
  rename_i te te' b n u h1 h1' h2 h3
  split at hr
  case h_2 => cases hr
  rename_i el el' hkind hkind'
  split at hr
  case h_2 => cases hr
  rename_i tl ty sh n' f htl heq hb
  split at hr
  case h_2 => cases hr
  rename_i su m g hsrc
  split at hr
  case h_2 => cases hr
  rename_i hcond
  simp only [Bool.and_eq_true] at hcond
  have es := Shape.same_eq _ _ hcond.1
  have es2 := Shape.same_eq _ _ hcond.2
  cases hr
  have ea : c.args = #[x, y] := by rw [← Array.toArray_toList (xs := c.args), hargs]
  have et : c.argTypes = #[t, t'] := by rw [← Array.toArray_toList (xs := c.argTypes), htys]
  have T := hT _ _ h1
  have Tl := hT _ _ htl
  have hu := kind_slice T hkind
  have hV := hx x (by rw [hargs]; simp) _ h2
  have hU := hx y (by rw [hargs]; simp) u h3
  obtain ⟨o1, o2⟩ : n ≤ n' ∧ (n : Int) ≤ 9223372036854775807 := hob _ (by simp)
  simp only [applyEff, Option.some.injEq] at hst
  have hs : SrcIs w F (a.eval y) su m g := by
    cases u <;> simp only [Option.some.injEq, Prod.mk.injEq, reduceCtorEq] at hsrc
    · obtain ⟨rfl, rfl, rfl⟩ := hsrc; exact src_nils hU
    · obtain ⟨rfl, rfl, rfl⟩ := hsrc; exact src_seq (.inl hU)
    · obtain ⟨rfl, rfl, rfl⟩ := hsrc; exact src_seq (.inr hU)
  have hpos := Tl.pos
  obtain ⟨A, cp, news, hUv, hl, hA, hnw, hone⟩ := src_news hs (by rw [es]; exact hpos)
  have hin : InR .i64 ((min m n : Nat) : Int) := inR_nat (by omega)
  have fin : ∀ {w' : World}, (Builtin.copy_ #[t, t'] o.type #[a.eval x, a.eval y]).run C.P w = .ok (.int .i64 ((min m n : Nat) : Int)) w' → Rel C W0 F0 st' a w' F φ → o.wp C.P a w next Q := by
    intro w' hrun hR
    unfold Oper.wp
    have : (execOp a.eval o).run C.P w = .ok (.value (.int .i64 ((min m n : Nat) : Int))) w' := by
      refine call_builtin ho hc ?_
      rw [ea, et]
      simp only [builtin, Sem.run_bind]
      have : (#[x, y].map a.eval) = #[a.eval x, a.eval y] := by simp
      rw [this, hrun]
      rfl
    rw [this]
    exact hn _ w' F φ hR fun _ => .stat (.int _ _ hin)
  have hsz2 : (sizeOf el).run C.P w = .ok tl.sh.size w := Tl.size
  obtain ⟨hsh, hty, hrow⟩ := h.heap b _ hb
  -- the cells that are read
  have hfc : (Builtin.firstCells tl.sh.size (min m n) (a.eval y)).run C.P w = .ok ((news.take (min m n * tl.sh.size)).toArray) w := by
    rw [hUv]
    cases A with
    | none =>
      have h0 : m = 0 := by
        rcases Nat.eq_zero_or_pos m with h0 | h0
        · exact h0
        · obtain ⟨ad, e, _⟩ := hA h0; cases e
      subst h0
      have : news = [] := List.eq_nil_of_length_eq_zero (by simpa using hl)
      subst this
      simp [Builtin.firstCells]
    | some ad =>
      have hlen : (news.take (min m n * tl.sh.size)).length = min m n * tl.sh.size := by
        have : min m n * tl.sh.size ≤ m * tl.sh.size := Nat.mul_le_mul_right _ (Nat.min_le_left _ _)
        rw [List.length_take, hl, es]; omega
      simp only [Builtin.firstCells]
      have hrl := run_loadCells_list (P := C.P) w ad (news.take (min m n * tl.sh.size)) fun j v hj => by
        rcases Nat.eq_zero_or_pos m with h0 | h0
        · subst h0
          have : news = [] := List.eq_nil_of_length_eq_zero (by simpa using hl)
          subst this; simp at hj
        · obtain ⟨ad', e, hcs⟩ := hA h0
          cases e
          rw [List.getElem?_take] at hj
          split at hj
          · exact hcs j v hj
          · cases hj
      rw [hlen] at hrl
      exact hrl
  have key : ∀ {base : Option Addr} {cap : Nat}, a.eval x = .slice base n cap → (Builtin.copy_ #[t, t'] o.type #[a.eval x, a.eval y]).run C.P w =
      ((match base with | some ad => storeCells ad (news.take (min m n * tl.sh.size)) | none => pure ()).run C.P w).andThen fun _ w' => .ok (.int .i64 ((min m n : Nat) : Int)) w' := by
    intro base cap hv
    have hU2 := hUv
    rw [hv]
    simp only [Builtin.copy_, List.getElem?_toArray, List.getElem?_cons_zero, List.getElem?_cons_succ, Sem.run_bind, run_underlying hu, Result.andThen_ok, hsz2]
    have hlo : (Builtin.lenOf (a.eval y)).run C.P w = .ok m w := by rw [hUv]; rfl
    rw [hlo]
    simp only [Result.andThen_ok]
    have : Nat.min m n = min m n := rfl
    rw [this, hsz2]
    simp only [Result.andThen_ok]
    rw [hfc]
    simp only [Result.andThen_ok]
    cases base <;> simp [goInt]
  rcases hV.own_inv with ⟨gb, hg, hv, hnc⟩ | ⟨hg, h0, hv⟩
  · rcases hrow with ⟨h4, _⟩ | ⟨g', cs, hg', hbase, hnF, hh, hsz, hncap, hmax, hrep⟩
    · rw [hg] at h4; cases h4
    obtain rfl : g' = gb := by rw [hg] at hg'; injection hg' with e; exact e.symm
    have hlen : (news.take (min m n * tl.sh.size)).length = min m n * tl.sh.size := by
      have : min m n * tl.sh.size ≤ m * tl.sh.size := Nat.mul_le_mul_right _ (Nat.min_le_left _ _)
      rw [List.length_take, hl, es]; omega
    have hle : min m n * tl.sh.size ≤ cs.size := by
      rw [hsz, es2]; exact Nat.mul_le_mul_right _ (Nat.le_trans (Nat.min_le_right _ _) hnc)
    have hsc := run_storeCells_at (P := C.P) g' 0 ty (news.take (min m n * tl.sh.size)) 0 cs w hh (by rw [hlen]; omega) (fun v hv => hone v (List.mem_of_mem_take hv))
    rw [Nat.add_zero, hlen] at hsc
    refine fin (w' := w.setRow g' (cs.toList.take 0 ++ news.take (min m n * tl.sh.size) ++ cs.toList.drop (0 + min m n * tl.sh.size)).toArray) ?_ ?_
    · rw [key hv, hsc]
      rfl
    · subst hst
      have hna : ((news.take (min m n * tl.sh.size)).toArray).size = min m n * tl.sh.size := by simpa using hlen
      have hsp : (cs.toList.take 0 ++ news.take (min m n * tl.sh.size) ++ cs.toList.drop (0 + min m n * tl.sh.size)) = (cs.toList.take 0 ++ (news.take (min m n * tl.sh.size)).toArray.toList ++ cs.toList.drop (0 + min m n * tl.sh.size)) := by simp
      rw [hsp]
      refine h.setBox hb hg rfl rfl rfl (by simp) (fun k hk => setRow_keep hk) rfl ⟨hsh, hty, .inr ⟨g', _, hg, hbase, hnF, setRow_heap w g' cs _ _ _ hh, by rw [splice_size hna (by omega)]; exact hsz, hncap, hmax, fun i hi j hj => ?_⟩⟩
      rw [splice_get hna (by omega)]
      refine RepS.keep (w := w) (F := F) ?_ (fun k hk => setRow_keep fun e => hnF (e ▸ hk)) (fun _ hk => hk)
      by_cases hik : i < min m n
      · have hmul : (i + 1) * tl.sh.size ≤ min m n * tl.sh.size := Nat.mul_le_mul_right _ hik
        rw [Nat.add_mul] at hmul
        rw [es2] at hj ⊢
        rw [if_pos (by omega), show (fun i => if i < min m n then g i else f i) i = g i from by simp [hik], Nat.sub_zero]
        obtain ⟨uu, hu1, hu2⟩ := hnw i (by omega) j (by rw [es]; exact hj)
        rw [es] at hu1 hu2
        rw [Array.getD_eq_getD_getElem?, List.getElem?_toArray, List.getElem?_take_of_lt (by omega), hu1]
        exact hu2
      · have hmul : min m n * tl.sh.size ≤ i * tl.sh.size := Nat.mul_le_mul_right _ (by omega)
        rw [if_neg (by rw [es2]; omega), show (fun i => if i < min m n then g i else f i) i = f i from by simp [hik]]
        exact hrep i hi j hj
  · subst h0
    refine fin (w' := w) ?_ ?_
    · rw [key hv]; rfl
    · subst hst
      refine ⟨h.env, fun b' c1 hc1 => ?_, ?_, h.ro, h.base, h.sub, h.new, h.dfr, h.tsz, h.glob, fun b' p hp => ?_⟩
      · by_cases e : b' = b
        · subst e
          rw [get_put_same] at hc1
          cases hc1
          refine ⟨hsh, hty, ?_⟩
          rcases hrow with h4 | ⟨g', cs, hg', _⟩
          · exact .inl h4
          · rw [hg] at hg'; cases hg'
        · rw [get_put_other _ _ _ _ e] at hc1
          exact h.heap b' c1 hc1
      · intro b1 b2 c1 c2 g2 k1 k2 k3 k4
        have i1 : ∃ c1', get st.heap b1 = some c1' := by
          by_cases e : b1 = b
          · exact ⟨_, e ▸ hb⟩
          · rw [get_put_other _ _ _ _ e] at k1; exact ⟨c1, k1⟩
        have i2 : ∃ c2', get st.heap b2 = some c2' := by
          by_cases e : b2 = b
          · exact ⟨_, e ▸ hb⟩
          · rw [get_put_other _ _ _ _ e] at k2; exact ⟨c2, k2⟩
        obtain ⟨c1', i1⟩ := i1
        obtain ⟨c2', i2⟩ := i2
        exact h.inj b1 b2 c1' c2' g2 i1 i2 k3 k4
      · obtain ⟨a1, a2, a3⟩ := h.anc b' p hp
        refine ⟨a1, a2, fun c1 hc1 => ?_⟩
        by_cases e : b' = b
        · subst e; exact absurd (a3 _ hb) (by simp [BoxC.isRow])
        · rw [get_put_other _ _ _ _ e] at hc1; exact a3 c1 hc1
end
end Go.AV
