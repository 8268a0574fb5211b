import Derived.Test.YtgcpdfihjmmggaaGreatDoorXj
import Derived.Defers
import Derived.Test.YtgcpdfihjmmggaaGreatDoorProg
import Derived.KernelRfl
namespace Go.AV
open Go.RowKit
mutual
def frzK (ks : List Nat) (h : List (Nat × BoxC)) : AV -> Option (AV × List Prop)
  | .own b n => match inN b ks with
    | true => some (.own b n, [])
    | false => frz h (.own b n)
  | .ptr b p => match inN b ks with
    | true => some (.ptr b p, [])
    | false => frz h (.ptr b p)
  | .optr b i p => match inN b ks with
    | true => some (.optr b i p, [])
    | false => frz h (.optr b i p)
  | .agg l => match zj2 ks h l with | some (m, ps) => some (.agg m, ps) | none => none
  | .mc sh x => match frzK ks h x with | some (y, ps) => some (.mc sh y, ps) | none => none
  | .tup l => match zj2 ks h l with | some (m, ps) => some (.tup m, ps) | none => none
  | x => frz h x
def zj2 (ks : List Nat) (h : List (Nat × BoxC)) : List AV -> Option (List AV × List Prop)
  | [] => some ([], [])
  | x :: l => match frzK ks h x, zj2 ks h l with
    | some (y, ps), some (m, qs) => some (y :: m, ps ++ qs)
    | _, _ => none
end
mutual
def zbp : AV -> AV -> List (Nat × Nat)
  | .own b _, .own i _ => [(i, b)]
  | .agg l, .agg m => zk4 l m
  | .tup l, .tup m => zk4 l m
  | .mc _ x, .mc _ y => zbp x y
  | _, _ => []
def zk4 : List AV -> List AV -> List (Nat × Nat)
  | x :: l, y :: m => zbp x y ++ zk4 l m
  | _, _ => []
end
def nameF (prs : List (Nat × Nat)) (i : Nat) : Nat := match get prs i with | some b => b | none => 1048576 + i
def z72 (prs : List (Nat × Nat)) : Nat -> List BoxC -> List (Nat × BoxC)
  | _, [] => []
  | i, c :: cs => (nameF prs i, c) :: z72 prs (i + 1) cs
def zay : List BoxC -> Bool
  | [] => true
  | c :: cs => c.isRow && zay cs
def z3x : List (Nat × BoxC) -> List Nat
  | [] => []
  | (k, _) :: l => k :: z3x l
def zp5 (C : Cfg) (st : St) (rs : List ResultVar) (r : AV) (cs : List BoxC) : Option (List Prop × St × St) :=
  match zbo C st rs with
  | some l => match z3u (z3x (z72 (zbp (z5s l) r) 0 cs)) && (z45 (below cs.length) r && zay cs), frzK (z3x (z72 (zbp (z5s l) r) 0 cs)) (z1c (z3x (z72 (zbp (z5s l) r) 0 cs)) st.heap) (z5s l) with
    | true, some (m, ps) => some (ps, ⟨[(0, m)], z1r (z3x (z72 (zbp (z5s l) r) 0 cs)) st.heap⟩, ⟨[(0, r.sub (nameF (zbp (z5s l) r)))], z72 (zbp (z5s l) r) 0 cs⟩)
    | _, _ => none
  | none => none
def zgd (V : VCtx) (fn : Func) (r : AV) (cs : List BoxC) (e : Exit) (st : St) : Prop :=
  match e with
  | .ret | .normal => match zp5 V.C st fn.results.toList r cs with
    | some (ps, s1, s2) => conj ps (St.le s1 s2)
    | none => False
  | _ => False
def zj3 (V : VCtx) (fn : Func) (args : List AV) (r : AV) (cs : List BoxC) : Prop :=
  match fn.body with
  | some c => vc V c ⟨z69 0 args, []⟩ (zgd V fn r cs)
  | none => False
section
variable {C : Cfg} {W0 : Entry} {F0 : Nat -> Prop} {st st' : St} {a : Act} {w : World} {F : Nat -> Prop} {φ : Nat -> Place}
mutual
theorem z85 {ks : List Nat} {st : St} (h : Rel C W0 F0 st a w F φ) : ∀ (x y : AV) (ps : List Prop), frzK ks st.heap x = some (y, ps) -> (∀ p ∈ ps, p) ->
    (∀ v, Rep w F φ v x -> Rep w (Lent st F φ) φ v y) /\ (∀ sh j v, Rep w F φ v (z6 sh x j) -> Rep w (Lent st F φ) φ v (z6 sh y j))
  | .own b n, y, ps, hf, hps => by
    simp only [frzK] at hf
    split at hf
    . cases hf
      exact ⟨fun v hv => hv.keep (fun _ _ => rfl) (fun k hk => .inl hk) fun _ _ => rfl, fun sh j v hv => hv.keep (fun _ _ => rfl) (fun k hk => .inl hk) fun _ _ => rfl⟩
    . obtain ⟨h1, h2⟩ := z4k h _ _ _ hf hps
      exact ⟨fun v hv => .stat (h1 v hv), fun sh j v hv => .stat (h2 sh j v hv)⟩
  | .ptr b p, y, ps, hf, hps => by
    simp only [frzK] at hf
    split at hf
    . cases hf
      exact ⟨fun v hv => hv.keep (fun _ _ => rfl) (fun k hk => .inl hk) fun _ _ => rfl, fun sh j v hv => hv.keep (fun _ _ => rfl) (fun k hk => .inl hk) fun _ _ => rfl⟩
    . obtain ⟨h1, h2⟩ := z4k h _ _ _ hf hps
      exact ⟨fun v hv => .stat (h1 v hv), fun sh j v hv => .stat (h2 sh j v hv)⟩
  | .optr b i p, y, ps, hf, hps => by
    simp only [frzK] at hf
    split at hf
    . cases hf
      exact ⟨fun v hv => hv.keep (fun _ _ => rfl) (fun k hk => .inl hk) fun _ _ => rfl, fun sh j v hv => hv.keep (fun _ _ => rfl) (fun k hk => .inl hk) fun _ _ => rfl⟩
    . obtain ⟨h1, h2⟩ := z4k h _ _ _ hf hps
      exact ⟨fun v hv => .stat (h1 v hv), fun sh j v hv => .stat (h2 sh j v hv)⟩
  | .agg l, y, ps, hf, hps => by
    simp only [frzK] at hf
    split at hf
    case h_2 => cases hf
    rename_i m qs hm
    cases hf
    refine ⟨fun v hv => (by cases hv with | stat hv => cases hv), fun s j v hv => ?_⟩
    cases s with
    | leaf => simp only [z6, z10, AV.isOne] at hv ⊢; exact .stat (.any _ (hv.one rfl))
    | agg ss => simp only [z6] at hv ⊢; exact (zaz h l m ps hm hps).2 ss j v hv
    | arr n s => simp only [z6] at hv ⊢; exact .stat (.any _ (hv.one rfl))
  | .mc sh x, y, ps, hf, hps => by
    simp only [frzK] at hf
    split at hf
    case h_2 => cases hf
    rename_i z qs hz
    cases hf
    obtain ⟨_, k2⟩ := z85 h x z ps hz hps
    refine ⟨fun v hv => ?_, fun s' j v hv => ?_⟩
    . obtain ⟨cs, rfl, hsz, hr⟩ := hv.mc_inv
      exact .mc cs sh z hsz fun j hj => k2 sh j _ (hr j hj)
    . cases s' with
      | leaf => simp only [z6, z10, AV.isOne] at hv ⊢; exact .stat (.any _ (hv.one rfl))
      | agg ss => simp only [z6] at hv ⊢; exact .stat (.any _ (hv.one rfl))
      | arr m s => simp only [z6] at hv ⊢; exact .stat (.any _ (hv.one rfl))
  | .tup l, y, ps, hf, hps => by
    simp only [frzK] at hf
    split at hf
    case h_2 => cases hf
    rename_i m qs hm
    cases hf
    obtain ⟨⟨k0, k1⟩, k2⟩ := zaz h l m ps hm hps
    refine ⟨fun v hv => ?_, fun s j v hv => ?_⟩
    . cases hv with
      | stat hv => cases hv
      | tup vs _ h1 h2 => exact .tup vs m (by omega) fun j hj => k1 j hj _ (h2 j (by omega))
    . cases s with
      | leaf => simp only [z6, z10, AV.isOne] at hv ⊢; exact .stat (.any _ (hv.one rfl))
      | agg ss => simp only [z6] at hv ⊢; exact .stat (.any _ (hv.one rfl))
      | arr n s => simp only [z6] at hv ⊢; exact .stat (.any _ (hv.one rfl))
  | .any, y, ps, hf, hps | .int _ _, y, ps, hf, hps | .bool _, y, ps, hf, hps | .str _, y, ps, hf, hps | .nils, y, ps, hf, hps | .nilp, y, ps, hf, hps | .seq _ _ _, y, ps, hf, hps | .seqc _ _ _, y, ps, hf, hps
  | .nseq _ _ _ _, y, ps, hf, hps | .cov _, y, ps, hf, hps | .rptr _ _, y, ps, hf, hps | .arr _ _, y, ps, hf, hps | .st _, y, ps, hf, hps | .clo _ _, y, ps, hf, hps | .when _ _, y, ps, hf, hps => by
    simp only [frzK] at hf
    obtain ⟨h1, h2⟩ := z4k h _ _ _ hf hps
    exact ⟨fun v hv => .stat (h1 v hv), fun sh j v hv => .stat (h2 sh j v hv)⟩
theorem zaz {ks : List Nat} {st : St} (h : Rel C W0 F0 st a w F φ) : ∀ (l m : List AV) (ps : List Prop), zj2 ks st.heap l = some (m, ps) -> (∀ p ∈ ps, p) ->
    (l.length = m.length /\ ∀ j, j < m.length -> ∀ v, Rep w F φ v (l.getD j .any) -> Rep w (Lent st F φ) φ v (m.getD j .any)) /\
    ∀ ss j v, Rep w F φ v (zf ss l j) -> Rep w (Lent st F φ) φ v (zf ss m j)
  | [], m, ps, hf, _ => by
    simp [zj2] at hf; obtain ⟨rfl, rfl⟩ := hf
    refine ⟨⟨rfl, fun j hj => by simp at hj⟩, fun ss j v hv => ?_⟩
    cases ss <;> simp only [zf] at hv ⊢ <;> exact .stat (.any _ (hv.one rfl))
  | x :: l, m, ps, hf, hps => by
    simp only [zj2] at hf
    split at hf
    case h_2 => cases hf
    rename_i y ps1 m' ps2 h1 h2
    cases hf
    obtain ⟨⟨l1, l2⟩, l3⟩ := zaz h l m' ps2 h2 fun p hp => hps p (by simp [hp])
    obtain ⟨k1, k2⟩ := z85 h x y ps1 h1 fun p hp => hps p (by simp [hp])
    refine ⟨⟨by simp [l1], fun j hj v hv => ?_⟩, fun ss j v hv => ?_⟩
    . cases j with
      | zero => exact k1 v (by simpa using hv)
      | succ j => simpa using l2 j (by simpa using hj) v (by simpa using hv)
    . cases ss with
      | nil => simp only [zf] at hv ⊢; exact .stat (.any _ (hv.one rfl))
      | cons s ss =>
        simp only [zf] at hv ⊢
        split
        . rename_i hj; rw [if_pos hj] at hv; exact k2 s j v hv
        . rename_i hj; rw [if_neg hj] at hv; exact l3 ss _ v hv
end
theorem z6a {prs : List (Nat × Nat)} : ∀ (cs : List BoxC) (i j : Nat) (c : BoxC), z3u (z3x (z72 prs i cs)) = true -> cs[j]? = some c -> get (z72 prs i cs) (nameF prs (i + j)) = some c /\ nameF prs (i + j) ∈ z3x (z72 prs i cs)
  | [], i, j, c, _, h => by simp at h
  | d :: cs, i, 0, c, _, h => by
    simp at h; subst h
    simp [z72, get, z3x]
  | d :: cs, i, j + 1, c, hn, h => by
    simp only [z72, z3x, z3u, Bool.and_eq_true, Bool.not_eq_true'] at hn
    obtain ⟨h1, h2⟩ := z6a cs (i + 1) j c hn.2 (by simpa using h)
    rw [show i + 1 + j = i + (j + 1) from by omega] at h1 h2
    have hne : Nat.beq (nameF prs i) (nameF prs (i + (j + 1))) = false := by
      cases e : Nat.beq (nameF prs i) (nameF prs (i + (j + 1))) with
      | false => rfl
      | true =>
        rw [Nat.eq_of_beq_eq_true e, z2y.2 h2] at hn; cases hn.1
    simp only [z72, get, hne, z3x]
    exact ⟨h1, List.mem_cons_of_mem _ h2⟩
theorem zb0 {prs : List (Nat × Nat)} : ∀ (cs : List BoxC) (i j j' : Nat), z3u (z3x (z72 prs i cs)) = true -> j < cs.length -> j' < cs.length -> nameF prs (i + j) = nameF prs (i + j') -> j = j'
  | [], _, _, _, _, h, _, _ => by simp at h
  | d :: cs, i, j, j', hn, hj, hj', e => by
    have hn' := hn
    simp only [z72, z3x, z3u, Bool.and_eq_true, Bool.not_eq_true'] at hn
    have mem : ∀ k, k < cs.length -> nameF prs (i + (k + 1)) ∈ z3x (z72 prs (i + 1) cs) := fun k hk => by
      have := (z6a cs (i + 1) k _ hn.2 (List.getElem?_eq_getElem hk)).2
      rwa [show i + 1 + k = i + (k + 1) from by omega] at this
    have ne : ∀ k, k < cs.length -> nameF prs (i + 0) ≠ nameF prs (i + (k + 1)) := fun k hk e => by
      rw [Nat.add_zero] at e
      rw [e, z2y.2 (mem k hk)] at hn; cases hn.1
    cases j with
    | zero => cases j' with
      | zero => rfl
      | succ j' => exact absurd e (ne j' (by simpa using hj'))
    | succ j => cases j' with
      | zero => exact absurd e.symm (ne j (by simpa using hj))
      | succ j' =>
        have := zb0 cs (i + 1) j j' hn.2 (by simpa using hj) (by simpa using hj') (by rw [show i + 1 + j = i + (j + 1) from by omega, show i + 1 + j' = i + (j' + 1) from by omega]; exact e)
        omega
theorem zb1 : ∀ (cs : List BoxC) {i : Nat} {c : BoxC}, zay cs = true -> cs[i]? = some c -> c.isRow = true
  | [], _, _, _, h => by simp at h
  | d :: cs, 0, c, hr, h => by simp only [zay, Bool.and_eq_true] at hr; simp at h; subst h; exact hr.1
  | d :: cs, i + 1, c, hr, h => by simp only [zay, Bool.and_eq_true] at hr; exact zb1 cs hr.2 (by simpa using h)
theorem zc8 {us : List Value} {l : List AV} (hl : us.length = l.length) (h : ∀ j, j < l.length -> Rep w F φ (us.getD j undef) (l.getD j .any)) : Rep w F φ (zc7 us) (z5s l) := by
  match l, us, hl, h with
  | [], us, hl, h =>
    have : us = [] := List.eq_nil_of_length_eq_zero (by simpa using hl)
    subst this
    exact .tup #[] [] rfl fun j hj => by simp at hj
  | [y], us, hl, h =>
    match us, (hl : us.length = 1) with
    | [v], _ =>
      show Rep w F φ v y
      simpa using h 0 (by simp)
  | y :: z :: m, us, hl, h =>
    match us, (hl : us.length = m.length + 1 + 1) with
    | v :: u :: us, hlen => exact .tup _ _ (by simpa using hlen) fun j hj => by simpa [Array.getD_eq_getD_getElem?, List.getD_eq_getElem?_getD] using h j hj
theorem zai.of_vc {V : VCtx} {f : FuncId} {fn : Func} {args : List AV} {r : AV} {cs : List BoxC} (hf : V.C.P.funcs[f]? = some fn) (hn : fn.ntmps = V.C.ntmps) (hl : args.length <= V.C.ntmps) (hT : z12 V.C) (hCC : CCOK V.C V.CC) (h : zj3 V fn args r cs) :
    zai V.C.P V.C.G f args r cs := by
  intro w F vs hro hglob hsz hr
  unfold zj3 at h
  split at h
  case h_2 => exact h.elim
  rename_i c hb
  refine calls_of_wp hf hb (wp_mono (z9s hT hCC c _ _ _ _ _ _ h (Rel.start hn hl hro hglob hsz hr)) ?_)
  rintro e a' w' ⟨st, F', φ', hR, hq⟩
  have fin : zgd V fn r cs .ret st -> bodyPost V.C.P fn (fun en w' => ∃ v F' φ', en = .returned v /\ Below w.heap.size w w' /\ (∀ k, F k -> F' k) /\ (∀ k, F' k -> F k ∨ w.heap.size <= k) /\ (∀ k, F' k -> k < w'.heap.size) /\ Rep w' F' φ' v r /\
      (∀ i c, cs[i]? = some c -> z1i w' F' φ' (fun k => w.heap.size <= k) i c) /\ ∀ i i' g, i < cs.length -> i' < cs.length -> (φ' i).blk = some g -> (φ' i').blk = some g -> i = i') .ret a' w' := by
    intro hq
    unfold zgd at hq
    dsimp only at hq
    split at hq
    case h_2 => exact hq.elim
    rename_i ps s1 s2 hret
    unfold zp5 at hret
    split at hret
    case h_2 => cases hret
    rename_i l hres
    split at hret
    case h_2 => cases hret
    rename_i m ps' hgood hfz
    cases hret
    simp only [Bool.and_eq_true] at hgood
    obtain ⟨hnd, hgood, hrows⟩ := hgood
    obtain ⟨hps, hle⟩ := z24 hq
    obtain ⟨us, h1, h2, h3⟩ := z4s hR hT _ _ hres
    have hv := zc8 h2 h3
    generalize hks : z3x (z72 (zbp (z5s l) r) 0 cs) = ks at *
    generalize hpr : zbp (z5s l) r = prs at *
    have hR2 : Rel V.C (.of w) F { st with heap := z1c ks st.heap } a' w' F' φ' :=
      ⟨hR.env, fun b c hc => hR.heap b c (zp hc).1, fun b b' c c' g h1 h2 => hR.inj b b' c c' g (zp h1).1 (zp h2).1, hR.ro, hR.base, hR.sub, hR.new, hR.dfr, hR.tsz, hR.glob, fun b p hp => by cases hp⟩
    have hv2 := (z85 (ks := ks) hR2 _ _ _ hfz hps).1 _ hv
    have hlent : ∀ k, Lent { st with heap := z1c ks st.heap } F' φ' k -> F k ∨ w.heap.size <= k := by
      rintro k (hk | ⟨b, c, hb, hk⟩)
      . exact (hR.new k hk).imp_right fun h => h.resolve_right fun hf => hf
      . exact .inr (((hR2.heap b c hb).lt hk).2.2.resolve_right fun hf => hf)
    have hlt : ∀ k, Lent { st with heap := z1c ks st.heap } F' φ' k -> k < w'.heap.size := by
      rintro k (hk | ⟨b, c, hb, hk⟩)
      . exact hR.ro k hk
      . exact ((hR2.heap b c hb).lt hk).1
    have hR3 : Rel { V.C with ntmps := 1 } (.of w) F ⟨[(0, m)], z1r ks st.heap⟩ { tmps := #[zc7 us], defers := [] } w' (Lent { st with heap := z1c ks st.heap } F' φ') φ' := by
      refine ⟨fun s x hs => ?_, fun b c hc => ?_, fun b b' c c' g h1 h2 => hR.inj b b' c c' g (z37 h1).1 (z37 h2).1, hlt, hR.base, fun k hk => .inl (hR.sub k hk), fun k hk => (hlent k hk).imp_right .inl, rfl, rfl, fun g x hg => (hR.glob g x hg).keep (fun _ _ => rfl) fun _ hk => .inl hk, fun b p hp => by cases hp⟩
      . simp only [get] at hs
        split at hs
        . rename_i e
          cases hs
          have := Nat.eq_of_beq_eq_true e
          subst this
          exact ⟨_, rfl, hv2⟩
        . cases hs
      . obtain ⟨k1, k2⟩ := z37 hc
        have hb := hR.heap b c k1
        refine hb.keep (fun _ _ => rfl) (fun _ hk => .inl hk) (fun g hg => ⟨rfl, ?_⟩) rfl fun _ _ => rfl
        rintro (h5 | ⟨b', c', h5, h6⟩)
        . exact (hb.lt hg).2.1 h5
        . obtain ⟨h7, h8⟩ := zp h5
          exact h8 (hR.inj b' b c' c g h7 k1 h6 hg ▸ k2)
    obtain ⟨φ4, hR4⟩ := hR3.weaken hle
    obtain ⟨v, hv4, hrep⟩ := hR4.env 0 (r.sub (nameF prs)) rfl
    simp at hv4
    subst hv4
    refine ⟨hR.dfr, _, z5f h1, _, _, fun i => φ4 (nameF prs i), rfl, hR.base.toBelow, fun k hk => .inl (hR.sub k hk), hlent, hlt, zjs (m := below cs.length) (n := nameF prs) (φ2 := φ4) (fun _ _ => rfl) hgood hrep, fun i c hc => ?_, fun i i' g hi hi' e e' => ?_⟩
    . have hg := (z6a cs 0 i c (by rw [hks]; exact hnd) hc).1
      rw [Nat.zero_add] at hg
      have hB := (hR4.heap _ c hg).base (base' := fun k => w.heap.size <= k) fun k hk => hk.resolve_right fun hf => hf
      have hrow := zb1 cs hrows hc
      cases c with
      | cell tc sh x => cases hrow
      | row ty sh n f => exact hB
    . have k1 := (z6a cs 0 i _ (by rw [hks]; exact hnd) (List.getElem?_eq_getElem hi)).1
      have k2 := (z6a cs 0 i' _ (by rw [hks]; exact hnd) (List.getElem?_eq_getElem hi')).1
      rw [Nat.zero_add] at k1 k2
      have := hR4.inj _ _ _ _ g k1 k2 e e'
      have := zb0 cs 0 i i' (prs := prs) (by rw [hks]; exact hnd) hi hi' (by rw [Nat.zero_add, Nat.zero_add]; exact this)
      exact this
  cases e with
  | normal => exact fin hq
  | ret => exact fin hq
  | _ => exact hq.elim
end
end Go.AV
namespace Go.AV
open Go.RowKit
section
variable {C : Cfg} {W0 : Entry} {F0 : Nat -> Prop} {st st' : St} {a : Act} {w : World} {F : Nat -> Prop} {φ : Nat -> Place}
theorem zdd : ∀ {os : List (Option BoxC)} {i : Nat} {c : BoxC}, os[i]? = some (some c) -> isAt os i = true
  | [], _, _, h => by simp at h
  | o :: os, 0, c, h => by simp at h; subst h; rfl
  | o :: os, i + 1, c, h => zdd (os := os) (c := c) (by simpa using h)
end
end Go.AV
namespace Go.AV
open Go.RowKit
structure Catcher where
  f : FuncId
  tf : TypeId
  t1 : TypeId
  s1 : Shape
  z1 : AV
  t2 : TypeId
  s2 : Shape
def fault (e a : Int) : AV := .agg [.int .i64 e, .int .i64 a]
def lowN (b : Nat) : Bool := Nat.blt b 1099511627776
section
variable {C : Cfg} {W0 : Entry} {F0 : Nat -> Prop} {st : St} {a : Act} {w : World} {F : Nat -> Prop} {φ : Nat -> Place}
theorem low_lt {b : Nat} (h : lowN b = true) : b < 1099511627776 := Nat.le_of_ble_eq_true h
end
end Go.AV
namespace Go.AV
open Go.RowKit
theorem z1d.of {P : Program} {f : FuncId} {fn : Func} (hf : P.funcs[f]? = some fn) (hn : (fn.name == "runtime.NumGoroutine") = false) (hb : fn.body.isNone = false) : z1d P f := by
  intro args w
  simp only [callFunc, Sem.run_bind, run_program, Result.andThen_ok, hf, hn, hb, Bool.false_eq_true, if_false]
  rfl
def Known (P : Program) (G : List (Nat × AV)) (f : FuncId) (args : List AV) (r : AV) : Prop := (z1d P f /\ z76 P G f args r) ∨ RExt P f args r
def KnownF (P : Program) (G : List (Nat × AV)) (f : FuncId) (args : List AV) (r : AV) (cs : List BoxC) : Prop := z1d P f /\ zai P G f args r cs
def z9j (P : Program) (G : List (Nat × AV)) (f : FuncId) (args : List AV) (hs : List BoxC) (r : AV) (os : List (Option BoxC)) : Prop := z1d P f /\ ziv P G f args hs r os
def zb3 (P : Program) (G : List (Nat × AV)) (f : FuncId) (args : List AV) (hs : List BoxC) (p : Bool) (v : Value) : Prop := p = true -> z1d P f /\ RPan P G f args hs v
theorem z6w (C : Cfg) (hF : ∀ f ga r cs, C.CCF f ga r cs -> KnownF C.P C.G f ga r cs) (hL : ∀ f ga hs r os, C.CCL f ga hs r os -> z9j C.P C.G f ga hs r os) (hP : ∀ f ga hs p v, C.CCP f ga hs p v -> zb3 C.P C.G f ga hs p v) : CCOK C (Known C.P C.G) := ⟨fun _ _ _ h => h, hF, hL, hP⟩
theorem Known.of {V : VCtx} {f : FuncId} {fn : Func} {args : List AV} {r : AV} (hf : V.C.P.funcs[f]? = some fn) (hok : ((fn.name == "runtime.NumGoroutine") || fn.body.isNone || !Nat.beq fn.ntmps V.C.ntmps || !Nat.ble args.length V.C.ntmps) = false) (hT : z12 V.C) (hCC : V.CC = Known V.C.P V.C.G) (h : fnVc V fn args r)
    (hF : ∀ f ga r cs, V.C.CCF f ga r cs -> KnownF V.C.P V.C.G f ga r cs := by first | exact fun _ _ _ _ h => False.elim h | exact fun _ _ _ _ h => h)
    (hL : ∀ f ga hs r os, V.C.CCL f ga hs r os -> z9j V.C.P V.C.G f ga hs r os := by first | exact fun _ _ _ _ _ h => False.elim h | exact fun _ _ _ _ _ h => h)
    (hP : ∀ f ga hs p v, V.C.CCP f ga hs p v -> zb3 V.C.P V.C.G f ga hs p v := by first | exact fun _ _ _ _ _ h => False.elim h | exact fun _ _ _ _ _ h => h) :
    Known V.C.P V.C.G f args r := by
  simp only [Bool.or_eq_false_iff, Bool.not_eq_false'] at hok
  obtain ⟨⟨⟨h1, h2⟩, h3⟩, h4⟩ := hok
  exact .inl ⟨z1d.of hf h1 h2, z76.of_vc hf (Nat.eq_of_beq_eq_true h3) (Nat.le_of_ble_eq_true h4) hT (by rw [hCC]; exact z6w V.C hF hL hP) h⟩
theorem KnownF.of {V : VCtx} {f : FuncId} {fn : Func} {args : List AV} {r : AV} {cs : List BoxC} (hf : V.C.P.funcs[f]? = some fn) (hok : ((fn.name == "runtime.NumGoroutine") || fn.body.isNone || !Nat.beq fn.ntmps V.C.ntmps || !Nat.ble args.length V.C.ntmps) = false) (hT : z12 V.C) (hCC : V.CC = Known V.C.P V.C.G) (h : zj3 V fn args r cs)
    (hF : ∀ f ga r cs, V.C.CCF f ga r cs -> KnownF V.C.P V.C.G f ga r cs := by first | exact fun _ _ _ _ h => False.elim h | exact fun _ _ _ _ h => h)
    (hL : ∀ f ga hs r os, V.C.CCL f ga hs r os -> z9j V.C.P V.C.G f ga hs r os := by first | exact fun _ _ _ _ _ h => False.elim h | exact fun _ _ _ _ _ h => h)
    (hP : ∀ f ga hs p v, V.C.CCP f ga hs p v -> zb3 V.C.P V.C.G f ga hs p v := by first | exact fun _ _ _ _ _ h => False.elim h | exact fun _ _ _ _ _ h => h) :
    KnownF V.C.P V.C.G f args r cs := by
  simp only [Bool.or_eq_false_iff, Bool.not_eq_false'] at hok
  obtain ⟨⟨⟨h1, h2⟩, h3⟩, h4⟩ := hok
  exact ⟨z1d.of hf h1 h2, zai.of_vc hf (Nat.eq_of_beq_eq_true h3) (Nat.le_of_ble_eq_true h4) hT (by rw [hCC]; exact z6w V.C hF hL hP) h⟩
theorem Known.weaken {P : Program} {G : List (Nat × AV)} {f : FuncId} {args args' : List AV} {r : AV} (h : Known P G f args r) (hs : AV.areStat args' = true) (hl : AV.les [] [] args' args) : Known P G f args' r := by
  obtain ⟨l1, l2⟩ := zgc hl
  rcases h with ⟨h1, h2⟩ | h
  . exact .inl ⟨h1, fun w F vs a1 a2 a3 a4 => h2 w F vs a1 a2 (by omega) fun j hj => zdc (z1g hs j) (l2 j (by omega)) (a4 j (by omega))⟩
  . exact .inr fun w F vs a3 a4 => h w F vs (by omega) fun j hj => zdc (z1g hs j) (l2 j (by omega)) (a4 j (by omega))
theorem Known.calls {P : Program} {G : List (Nat × AV)} {f : FuncId} {fn : Func} {args : List AV} {r : AV} (h : Known P G f args r) (hf : P.funcs[f]? = some fn) (hok : ((fn.name == "runtime.NumGoroutine") || fn.body.isNone) = false) : z76 P G f args r := by
  simp only [Bool.or_eq_false_iff] at hok
  rcases h with ⟨_, h⟩ | h
  . exact h
  . intro w F vs _ _ a3 a4
    obtain ⟨v, h1, _⟩ := h w F vs a3 a4
    rw [z1d.of hf hok.1 hok.2] at h1
    cases h1
end Go.AV
namespace Go.Proofs.S25
open Go Go.AV
open Go.IntKind renaming i64 -> j6
open Go.AV.Shape (leaf)
noncomputable section
structure Inst where
  op : Int
  a : Int
  b : Int
  c : Int
  obj : Int
  n : Int
  fn : Int
  ord : Int
  deriving Inhabited, DecidableEq
structure PVar where
  name : List UInt8
  init : Int
  deriving Inhabited, DecidableEq
structure PFun where
  name : List UInt8
  code : List Inst
  deriving Inhabited, DecidableEq
structure PStart where
  fn : Int
  arg : Int
  deriving Inhabited, DecidableEq
structure PProg where
  vars : List PVar
  muts : List (List UInt8)
  conds : List (List UInt8)
  funs : List PFun
  thr : List PStart
  deriving Inhabited, DecidableEq
structure Thr where
  id : Int
  fn : Int
  pc : Int
  regs : List Int
  steps : Int
  kids : Int
  phase : Int
  status : Int
  fault : Int
  held : List Int
  deriving Inhabited, DecidableEq
structure Mem where
  vars : List Int
  owners : List Int
  queues : List (List Int)
  sig : List Int
  deriving Inhabited, DecidableEq
structure BEnt where
  var : Int
  val : Int
  deriving Inhabited, DecidableEq
structure Buf where
  thread : Int
  first : Int
  entries : List BEnt
  deriving Inhabited, DecidableEq
structure SState where
  thr : List Thr
  mem : Mem
  bufs : List Buf
  deriving Inhabited, DecidableEq
structure Ev where
  agent : Int
  idx : Int
  kind : Int
  obj : Int
  mutex : Int
  entry : Int
  ord : Int
  read : Int
  wrote : Int
  deriving Inhabited, DecidableEq
def c0i : Inst := ⟨0, 0, 0, 0, 0, 0, 0, 0⟩
def c0v : PVar := ⟨[], 0⟩
def c0f : PFun := ⟨[], []⟩
def c0s : PStart := ⟨0, 0⟩
def c0p : PProg := ⟨[], [], [], [], []⟩
def c0t : Thr := ⟨0, 0, 0, List.replicate 8 0, 0, 0, 0, 0, 0, []⟩
def c0m : Mem := ⟨[], [], [], []⟩
def c0e : BEnt := ⟨0, 0⟩
def c0b : Buf := ⟨0, 0, []⟩
def c0st : SState := ⟨[], c0m, []⟩
def c0ev : Ev := ⟨0, 0, 0, 0, 0, 0, 0, 0, 0⟩
def zt : Shape := .agg [.leaf, .leaf, .leaf, .leaf, .leaf, .leaf, .leaf, .leaf]
def ze : Shape := .agg [.leaf, .leaf]
def za : Shape := .agg [.leaf, .leaf, .leaf, .leaf, .leaf]
def zd : Shape := .agg [.leaf, .leaf, .leaf, .arr 8 .leaf, .leaf, .leaf, .leaf, .leaf, .leaf, .leaf]
def zw : Shape := .agg [.leaf, .leaf, .leaf, .leaf]
def zo : Shape := .agg [.leaf, .leaf, .leaf]
def stSh : Shape := .agg [.leaf, zw, .leaf]
def evSh : Shape := .agg [.leaf, .leaf, .leaf, .leaf, .leaf, .leaf, .leaf, .leaf, .leaf]
abbrev i64 (n : Int) : AV := .int .i64 n
def rowI (l : List Int) : AV := .seq .leaf l.length fun i => .int .i64 (l.getD i 0)
def rowS (l : List (List UInt8)) : AV := .seq .leaf l.length fun i => .str (l.getD i [])
def encI (i : Inst) : AV := .agg [.int .i64 i.op, .int .i64 i.a, .int .i64 i.b, .int .i64 i.c, .int .i64 i.obj, .int .i64 i.n, .int .i64 i.fn, .int .i64 i.ord]
def z9m (l : List Inst) : AV := .seq zt l.length fun i => encI (l.getD i c0i)
def encV (v : PVar) : AV := .agg [.str v.name, .int .i64 v.init]
def rowV (l : List PVar) : AV := .seq ze l.length fun i => encV (l.getD i c0v)
def encF (f : PFun) : AV := .agg [.str f.name, z9m f.code]
def rowF (l : List PFun) : AV := .seq ze l.length fun i => encF (l.getD i c0f)
def encS (s : PStart) : AV := .agg [.int .i64 s.fn, .int .i64 s.arg]
def zde (l : List PStart) : AV := .seq ze l.length fun i => encS (l.getD i c0s)
def encP (p : PProg) : AV := .agg [rowV p.vars, rowS p.muts, rowS p.conds, rowF p.funs, zde p.thr]
def arr8 (l : List Int) : AV := .arr 8 fun i => .int .i64 (l.getD i 0)
def encT (t : Thr) : AV := .agg [.int .i64 t.id, .int .i64 t.fn, .int .i64 t.pc, arr8 t.regs, .int .i64 t.steps, .int .i64 t.kids, .int .i64 t.phase, .int .i64 t.status, .int .i64 t.fault, rowI t.held]
def rowT (l : List Thr) : AV := .seq zd l.length fun i => encT (l.getD i c0t)
def rowQ (l : List (List Int)) : AV := .seq .leaf l.length fun i => rowI (l.getD i [])
def encM (m : Mem) : AV := .agg [rowI m.vars, rowI m.owners, rowQ m.queues, rowI m.sig]
def encE (e : BEnt) : AV := .agg [.int .i64 e.var, .int .i64 e.val]
def rowE (l : List BEnt) : AV := .seq ze l.length fun i => encE (l.getD i c0e)
def encB (b : Buf) : AV := .agg [.int .i64 b.thread, .int .i64 b.first, rowE b.entries]
def rowB (l : List Buf) : AV := .seq zo l.length fun i => encB (l.getD i c0b)
def z15 (s : SState) : AV := .agg [rowT s.thr, encM s.mem, rowB s.bufs]
def z6c (e : Ev) : AV := .agg [.int .i64 e.agent, .int .i64 e.idx, .int .i64 e.kind, .int .i64 e.obj, .int .i64 e.mutex, .int .i64 e.entry, .int .i64 e.ord, .int .i64 e.read, .int .i64 e.wrote]
def vI (i : Inst) : AV := .mc zt (encI i)
def vP (p : PProg) : AV := .mc za (encP p)
def vT (t : Thr) : AV := .mc zd (encT t)
def vM (m : Mem) : AV := .mc zw (encM m)
def vB (b : Buf) : AV := .mc zo (encB b)
def vSt (s : SState) : AV := .mc stSh (z15 s)
def vEv (e : Ev) : AV := .mc evSh (z6c e)
def dI : AV -> Int
  | .int _ a => a
  | _ => 0
def dStr : AV -> List UInt8
  | .str a => a
  | _ => []
def dR {α : Type} (d : AV -> α) : AV -> List α
  | .seq _ n f | .seqc _ n f => (List.range n).map fun i => d (f i)
  | _ => []
def dA {α : Type} (d : AV -> α) : AV -> List α
  | .arr n f => (List.range n).map fun i => d (f i)
  | _ => []
def dIn : AV -> Inst
  | .agg [.int _ a, .int _ b, .int _ c, .int _ d, .int _ e, .int _ f, .int _ g, .int _ h] => ⟨a, b, c, d, e, f, g, h⟩
  | _ => c0i
def dV : AV -> PVar
  | .agg [.str s, .int _ n] => ⟨s, n⟩
  | _ => c0v
def dF : AV -> PFun
  | .agg [.str s, x] => ⟨s, dR dIn x⟩
  | _ => c0f
def dS : AV -> PStart
  | .agg [.int _ a, .int _ b] => ⟨a, b⟩
  | _ => c0s
def dP : AV -> PProg
  | .agg [a, b, c, d, e] => ⟨dR dV a, dR dStr b, dR dStr c, dR dF d, dR dS e⟩
  | _ => c0p
def dT : AV -> Thr
  | .agg [.int _ a, .int _ b, .int _ c, r, .int _ d, .int _ e, .int _ f, .int _ g, .int _ h, x] => ⟨a, b, c, dA dI r, d, e, f, g, h, dR dI x⟩
  | _ => c0t
def dM : AV -> Mem
  | .agg [a, b, c, d] => ⟨dR dI a, dR dI b, dR (dR dI) c, dR dI d⟩
  | _ => c0m
def dE : AV -> BEnt
  | .agg [.int _ a, .int _ b] => ⟨a, b⟩
  | _ => c0e
def dB : AV -> Buf
  | .agg [.int _ a, .int _ b, x] => ⟨a, b, dR dE x⟩
  | _ => c0b
def dSt : AV -> SState
  | .agg [a, m, b] => ⟨dR dT a, dM m, dR dB b⟩
  | _ => c0st
def dEv : AV -> Ev
  | .agg [.int _ a, .int _ b, .int _ c, .int _ d, .int _ e, .int _ f, .int _ g, .int _ h, .int _ i] => ⟨a, b, c, d, e, f, g, h, i⟩
  | _ => c0ev
theorem zhe {α : Type} (l : List α) (d : α) : (List.range l.length).map (fun i => l.getD i d) = l := by
  apply List.ext_getElem (by simp)
  intro i h1 h2
  simp at h1
  simp [h1]
theorem z87 {α : Type} {d : AV -> α} {enc : α -> AV} {z : α} {sh : Shape} (h : ∀ a, d (enc a) = a) (l : List α) : dR d (.seq sh l.length fun i => enc (l.getD i z)) = l := by
  simp only [dR, h]; exact zhe l z
theorem zgf (i : Inst) : dIn (encI i) = i := rfl
theorem zk7 (i : PVar) : dV (encV i) = i := rfl
theorem zk8 (i : PStart) : dS (encS i) = i := rfl
theorem zk9 (i : BEnt) : dE (encE i) = i := rfl
theorem zka (i : Ev) : dEv (z6c i) = i := rfl
theorem dR_I (l : List Int) : dR dI (rowI l) = l := z87 (enc := fun n => .int .i64 n) (fun _ => rfl) l
theorem dR_S (l : List (List UInt8)) : dR dStr (rowS l) = l := z87 (enc := fun n => .str n) (fun _ => rfl) l
theorem zru (l : List Inst) : dR dIn (z9m l) = l := z87 zgf l
theorem dR_V (l : List PVar) : dR dV (rowV l) = l := z87 zk7 l
theorem zhf (f : PFun) : dF (encF f) = f := by
  show (⟨f.name, dR dIn (z9m f.code)⟩ : PFun) = f
  rw [zru]
theorem dR_F (l : List PFun) : dR dF (rowF l) = l := z87 zhf l
theorem zrv (l : List PStart) : dR dS (zde l) = l := z87 zk8 l
theorem zp7 (p : PProg) : dP (encP p) = p := by
  show (⟨dR dV (rowV p.vars), dR dStr (rowS p.muts), dR dStr (rowS p.conds), dR dF (rowF p.funs), dR dS (zde p.thr)⟩ : PProg) = p
  rw [dR_V, dR_S, dR_S, dR_F, zrv]
theorem dA_8 {l : List Int} (h : l.length = 8) : dA dI (arr8 l) = l := by
  show (List.range 8).map (fun i => l.getD i 0) = l
  rw [<- h]; exact zhe l 0
theorem dR_E (l : List BEnt) : dR dE (rowE l) = l := z87 zk9 l
theorem zhg (b : Buf) : dB (encB b) = b := by
  show (⟨b.thread, b.first, dR dE (rowE b.entries)⟩ : Buf) = b
  rw [dR_E]
theorem dR_B (l : List Buf) : dR dB (rowB l) = l := z87 zhg l
theorem dR_Q (l : List (List Int)) : dR (dR dI) (rowQ l) = l := z87 (enc := rowI) dR_I l
theorem zkb (m : Mem) : dM (encM m) = m := by
  show (⟨dR dI (rowI m.vars), dR dI (rowI m.owners), dR (dR dI) (rowQ m.queues), dR dI (rowI m.sig)⟩ : Mem) = m
  rw [dR_I, dR_I, dR_Q, dR_I]
theorem z2u (t : Thr) (h : t.regs.length = 8) : dT (encT t) = t := by
  show (⟨t.id, t.fn, t.pc, dA dI (arr8 t.regs), t.steps, t.kids, t.phase, t.status, t.fault, dR dI (rowI t.held)⟩ : Thr) = t
  rw [dA_8 h, dR_I]
def znk : List (List UInt8) := [[99, 111, 110, 115, 116], [99, 111, 112, 121], [99, 97, 108, 99], [106, 117, 109, 112], [98, 114, 97, 110, 99, 104], [97, 115, 115, 101, 114, 116], [115, 116, 111, 112], [108, 111, 97, 100], [115, 116, 111, 114, 101], [115, 119, 97, 112], [102, 101, 116, 99, 104, 97, 100, 100], [99, 97, 115], [102, 101, 110, 99, 101], [97, 119, 97, 105, 116], [108, 111, 99, 107], [117, 110, 108, 111, 99, 107], [116, 114, 121, 108, 111, 99, 107], [119, 97, 105, 116], [115, 105, 103, 110, 97, 108], [98, 114, 111, 97, 100, 99, 97, 115, 116], [115, 112, 97, 119, 110], [106, 111, 105, 110]]
def zdf : List (List Bool) := [[true, false, false, false, true, false, false], [true, true, false, false, false, false, false], [true, true, true, false, false, true, false], [false, false, false, false, true, false, false], [false, true, false, false, true, false, false], [false, true, false, false, false, false, false], [false, false, false, false, false, false, false], [true, false, false, true, false, false, true], [false, true, false, true, false, false, true], [true, true, false, true, false, false, true], [true, true, false, true, false, false, true], [true, true, true, true, false, false, true], [false, false, false, false, false, false, false], [true, true, false, true, false, true, true], [false, false, false, true, false, false, false], [false, false, false, true, false, false, false], [true, false, false, true, false, false, false], [false, false, false, true, true, false, false], [false, false, false, true, false, false, false], [false, false, false, true, false, false, false], [true, true, false, true, false, false, false], [false, true, false, false, false, false, false]]
def rowSh : Shape := .agg [.leaf, .arr 7 .leaf]
def z1l (op : Int) (k : Nat) : Bool := (zdf.getD (op - 1).toNat []).getD k false
def nameL : List (List UInt8) := [[97, 100, 100], [115, 117, 98], [109, 117, 108], [97, 110, 100], [111, 114], [120, 111, 114], [101, 113], [110, 101], [108, 116], [108, 101]]
def nameF (f : Int) : List UInt8 := if f < 1 ∨ 10 < f then [] else nameL.getD (f - 1).toNat []
structure ERow where
  most : Int
  order : Bool
  low : Int
  high : Int
  wrote : Bool
  least : Int
  access : Int
  write : Bool
def GG : List (Nat × AV) := [
  (1, .rptr (.arr 22 rowSh) (.arr 22 fun i => .agg [.str (znk.getD i []), .arr 7 fun k => .bool ((zdf.getD i []).getD k false)])),
  (2, .rptr (.arr 10 .leaf) (.arr 10 fun i => .str (nameL.getD i [])))]
def TT : List (Nat × TyE) := [
  (3, ⟨.leaf, .int .i64 0, 8, .int .i64, false⟩),
  (4, ⟨.leaf, .bool false, 1, .bool, false⟩),
  (5, ⟨.leaf, .int .u8 0, 1, .int .u8, false⟩),
  (9, ⟨.leaf, .str [], 16, .string, false⟩),
  (21, ⟨.leaf, .int .i32 0, 4, .int .i32, false⟩),
  (208, ⟨.leaf, .int .u32 0, 4, .int .u32, false⟩),
  (39, ⟨.leaf, .int .i64 0, 8, .int .i64, false⟩),
  (48, ⟨.leaf, .int .i64 0, 8, .int .i64, false⟩),
  (49, ⟨.leaf, .int .i64 0, 8, .int .i64, false⟩),
  (54, ⟨.leaf, .int .i64 0, 8, .int .i64, false⟩),
  (55, ⟨.leaf, .int .i64 0, 8, .int .i64, false⟩),
  (89, ⟨.leaf, .int .i64 0, 8, .int .i64, false⟩),
  (90, ⟨.leaf, .int .i64 0, 8, .int .i64, false⟩),
  (22, ⟨.leaf, .nils, 24, .slice 114, false⟩),
  (23, ⟨.leaf, .nils, 24, .slice 9, false⟩),
  (183, ⟨.leaf, .nils, 24, .slice 23, false⟩),
  (24, ⟨.leaf, .nils, 24, .slice 65, false⟩),
  (25, ⟨.leaf, .nils, 24, .slice 85, false⟩),
  (63, ⟨.leaf, .nils, 24, .slice 92, false⟩),
  (28, ⟨.leaf, .nils, 24, .slice 51, false⟩),
  (33, ⟨.leaf, .nils, 24, .slice 68, false⟩),
  (66, ⟨.leaf, .nils, 24, .slice 118, false⟩),
  (29, ⟨.leaf, .nils, 24, .slice 3, false⟩),
  (30, ⟨.leaf, .nils, 24, .slice 29, false⟩),
  (114, ⟨ze, .agg [.str [], .int .i64 0], 24, .struct [9, 3], true⟩),
  (92, ⟨zt, .agg [.int .i64 0, .int .i64 0, .int .i64 0, .int .i64 0, .int .i64 0, .int .i64 0, .int .i64 0, .int .i64 0], 64, .struct [89, 3, 3, 3, 3, 3, 90, 55], true⟩),
  (65, ⟨ze, .agg [.str [], .nils], 40, .struct [9, 63], false⟩),
  (85, ⟨ze, .agg [.int .i64 0, .int .i64 0], 16, .struct [3, 3], true⟩),
  (27, ⟨za, .agg [.nils, .nils, .nils, .nils, .nils], 120, .struct [22, 23, 23, 24, 25], false⟩),
  (47, ⟨.arr 8 .leaf, .arr 8 (fun _ => .int .i64 0), 64, .arr 8 3, true⟩),
  (234, ⟨.arr 7 .leaf, .arr 7 (fun _ => .int .i64 0), 56, .arr 7 3, false⟩),
  (216, ⟨.arr 4 .leaf, .arr 4 (fun _ => .int .i64 0), 32, .arr 4 3, false⟩),
  (240, ⟨.arr 10 .leaf, .arr 10 (fun _ => .str []), 160, .arr 10 9, false⟩),
  (226, ⟨rowSh, .agg [.str [], .arr 7 (fun _ => .bool false)], 24, .struct [9, 224], false⟩),
  (227, ⟨.arr 22 rowSh, .arr 22 (fun _ => .agg [.str [], .arr 7 (fun _ => .bool false)]), 528, .arr 22 226, false⟩),
  (236, ⟨.arr 3 .leaf, .arr 3 (fun _ => .int .i64 0), 24, .arr 3 3, false⟩),
  (224, ⟨.arr 7 .leaf, .arr 7 (fun _ => .bool false), 7, .arr 7 4, false⟩),
  (51, ⟨zd, .agg [.int .i64 0, .int .i64 0, .int .i64 0, .arr 8 (fun _ => .int .i64 0), .int .i64 0, .int .i64 0, .int .i64 0, .int .i64 0, .int .i64 0, .nils], 152,
    .struct [3, 3, 3, 47, 3, 3, 48, 49, 39, 29], false⟩),
  (32, ⟨zw, .agg [.nils, .nils, .nils, .nils], 96, .struct [29, 29, 30, 29], false⟩),
  (68, ⟨zo, .agg [.int .i64 0, .int .i64 0, .nils], 40, .struct [3, 3, 66], false⟩),
  (118, ⟨ze, .agg [.int .i64 0, .int .i64 0], 16, .struct [3, 3], true⟩),
  (35, ⟨stSh, .agg [.nils, .agg [.nils, .nils, .nils, .nils], .nils], 144, .struct [28, 32, 33], false⟩),
  (57, ⟨evSh, .agg [.int .i64 0, .int .i64 0, .int .i64 0, .int .i64 0, .int .i64 0, .int .i64 0, .int .i64 0, .int .i64 0, .int .i64 0], 72,
    .struct [3, 3, 54, 3, 3, 3, 55, 3, 3], true⟩),
  (150, ⟨ze, .agg [.int .i64 0, .int .i64 0], 16, .struct [3, 3], true⟩),
  (102, ⟨.agg [stSh, .leaf], .agg [.agg [.nils, .agg [.nils, .nils, .nils, .nils], .nils], .int .i64 0], 152, .struct [35, 3], false⟩),
  (108, ⟨.leaf, .int .i64 0, 8, .int .i64, false⟩),
  (202, ⟨.leaf, .nils, 24, .slice 205, false⟩),
  (206, ⟨.leaf, .nils, 24, .slice 4, false⟩),
  (205, ⟨zw, .agg [.int .i64 0, .int .i64 0, .int .i64 0, .bool false], 32, .struct [108, 3, 3, 4], true⟩),
  (110, ⟨zt, .agg [.int .i64 0, .bool false, .int .i64 0, .int .i64 0, .bool false, .int .i64 0, .int .i64 0, .bool false], 64, .struct [3, 4, 3, 3, 4, 3, 108, 4], false⟩),
  (111, ⟨.arr 17 zt, .arr 17 (fun _ => .agg [.int .i64 0, .bool false, .int .i64 0, .int .i64 0, .bool false, .int .i64 0, .int .i64 0, .bool false]), 1088, .arr 17 110, false⟩)]
theorem zg {n : Int} (h1 : -9223372036854775808 <= n) (h2 : n <= 9223372036854775807) : InR .i64 n := by
  show (if (true && decide (n % 18446744073709551616 >= 9223372036854775808)) = true then n % 18446744073709551616 - 18446744073709551616 else n % 18446744073709551616) = n
  rw [Bool.true_and]
  by_cases h : n % 18446744073709551616 >= 9223372036854775808
  . rw [decide_eq_true h, if_pos rfl]; omega
  . rw [decide_eq_false h, if_neg (by simp)]; omega
theorem z1u {α : Type} (l : List α) (p : α -> Bool) (d : α) : l.all p = true ↔ ∀ i, i < l.length -> p (l.getD i d) = true := by
  rw [List.all_eq_true]
  constructor
  . intro h i hi
    have : l.getD i d = l[i] := by simp [hi]
    rw [this]; exact h _ (List.getElem_mem hi)
  . intro h x hx
    obtain ⟨i, hi, rfl⟩ := List.mem_iff_getElem.1 hx
    have := h i hi
    simpa [hi] using this
theorem zhh {α : Type} (l : List α) (p : α -> Bool) (d : α) : l.any p = true ↔ ∃ i, i < l.length /\ p (l.getD i d) = true := by
  rw [List.any_eq_true]
  constructor
  . rintro ⟨x, hx, hp⟩
    obtain ⟨i, hi, rfl⟩ := List.mem_iff_getElem.1 hx
    exact ⟨i, hi, by simpa [hi] using hp⟩
  . rintro ⟨i, hi, hp⟩
    exact ⟨l[i], List.getElem_mem hi, by simpa [hi] using hp⟩
theorem z2q {α : Type} {a b : List α} {d : α} (hl : a.length = b.length) (h : ∀ j, j < a.length -> a.getD j d = b.getD j d) : a = b := by
  apply List.ext_getElem hl
  intro i h1 h2
  have := h i h1
  simpa [h1, h2] using this
theorem f_eq {p : Bool} (h : p = true -> False) : false = p := by cases p; rfl; exact (h rfl).elim
theorem t_eq {p : Bool} (h : p = false -> False) : true = p := by cases p; exact (h rfl).elim; rfl
theorem zc9 (sh : Shape) (n : Nat) (f : Nat -> AV) : strip1 (.seq sh n f) = .seq sh n f := rfl
theorem zca (k : IntKind) (n : Int) : strip1 (.int k n) = .int k n := rfl
theorem zcb (l : List UInt8) : strip1 (.str l) = .str l := rfl
theorem tri1 {a b : Prop} : (a -> b -> a /\ b) ↔ True := ⟨fun _ => trivial, fun _ x y => ⟨x, y⟩⟩
theorem sI : Shape.agg [Shape.leaf, Shape.leaf, Shape.leaf, Shape.leaf, Shape.leaf, Shape.leaf, Shape.leaf, Shape.leaf] = zt := rfl
theorem s2 : Shape.agg [Shape.leaf, Shape.leaf] = ze := rfl
theorem s3 : Shape.agg [Shape.leaf, Shape.leaf, Shape.leaf] = zo := rfl
theorem s4 : Shape.agg [Shape.leaf, Shape.leaf, Shape.leaf, Shape.leaf] = zw := rfl
theorem s5 : Shape.agg [Shape.leaf, Shape.leaf, Shape.leaf, Shape.leaf, Shape.leaf] = za := rfl
theorem s9 : Shape.agg [Shape.leaf, Shape.leaf, Shape.leaf, Shape.leaf, Shape.leaf, Shape.leaf, Shape.leaf, Shape.leaf, Shape.leaf] = evSh := rfl
theorem sT : Shape.agg [Shape.leaf, Shape.leaf, Shape.leaf, Shape.arr 8 Shape.leaf, Shape.leaf, Shape.leaf, Shape.leaf, Shape.leaf, Shape.leaf, Shape.leaf] = zd := rfl
theorem sS : Shape.agg [Shape.leaf, zw, Shape.leaf] = stSh := rfl
theorem rI (l : List Int) : (AV.seq Shape.leaf l.length fun i => AV.int IntKind.i64 (l.getD i 0)) = rowI l := rfl
theorem rS (l : List (List UInt8)) : (AV.seq Shape.leaf l.length fun i => AV.str (l.getD i [])) = rowS l := rfl
theorem rIn (l : List Inst) : (AV.seq zt l.length fun i => encI (l.getD i c0i)) = z9m l := rfl
theorem rV (l : List PVar) : (AV.seq ze l.length fun i => encV (l.getD i c0v)) = rowV l := rfl
theorem rF (l : List PFun) : (AV.seq ze l.length fun i => encF (l.getD i c0f)) = rowF l := rfl
theorem rSt (l : List PStart) : (AV.seq ze l.length fun i => encS (l.getD i c0s)) = zde l := rfl
theorem rT (l : List Thr) : (AV.seq zd l.length fun i => encT (l.getD i c0t)) = rowT l := rfl
theorem rQ (l : List (List Int)) : (AV.seq Shape.leaf l.length fun i => rowI (l.getD i [])) = rowQ l := rfl
theorem rE (l : List BEnt) : (AV.seq ze l.length fun i => encE (l.getD i c0e)) = rowE l := rfl
theorem rB (l : List Buf) : (AV.seq zo l.length fun i => encB (l.getD i c0b)) = rowB l := rfl
theorem fI (i : Inst) : AV.agg [AV.int IntKind.i64 i.op, AV.int IntKind.i64 i.a, AV.int IntKind.i64 i.b, AV.int IntKind.i64 i.c, AV.int IntKind.i64 i.obj, AV.int IntKind.i64 i.n, AV.int IntKind.i64 i.fn, AV.int IntKind.i64 i.ord] = encI i := rfl
theorem fV (i : PVar) : AV.agg [AV.str i.name, AV.int IntKind.i64 i.init] = encV i := rfl
theorem fF (i : PFun) : AV.agg [AV.str i.name, z9m i.code] = encF i := rfl
theorem fS (i : PStart) : AV.agg [AV.int IntKind.i64 i.fn, AV.int IntKind.i64 i.arg] = encS i := rfl
theorem fP (p : PProg) : AV.agg [rowV p.vars, rowS p.muts, rowS p.conds, rowF p.funs, zde p.thr] = encP p := rfl
theorem fA (l : List Int) : (AV.arr 8 fun i => AV.int IntKind.i64 (l.getD i 0)) = arr8 l := rfl
theorem fT (t : Thr) : AV.agg [AV.int IntKind.i64 t.id, AV.int IntKind.i64 t.fn, AV.int IntKind.i64 t.pc, arr8 t.regs, AV.int IntKind.i64 t.steps, AV.int IntKind.i64 t.kids, AV.int IntKind.i64 t.phase, AV.int IntKind.i64 t.status, AV.int IntKind.i64 t.fault, rowI t.held] = encT t := rfl
theorem fM (m : Mem) : AV.agg [rowI m.vars, rowI m.owners, rowQ m.queues, rowI m.sig] = encM m := rfl
theorem fE (e : BEnt) : AV.agg [AV.int IntKind.i64 e.var, AV.int IntKind.i64 e.val] = encE e := rfl
theorem fB (b : Buf) : AV.agg [AV.int IntKind.i64 b.thread, AV.int IntKind.i64 b.first, rowE b.entries] = encB b := rfl
theorem fSt (s : SState) : AV.agg [rowT s.thr, encM s.mem, rowB s.bufs] = z15 s := rfl
theorem fEv (e : Ev) : AV.agg [AV.int IntKind.i64 e.agent, AV.int IntKind.i64 e.idx, AV.int IntKind.i64 e.kind, AV.int IntKind.i64 e.obj, AV.int IntKind.i64 e.mutex, AV.int IntKind.i64 e.entry, AV.int IntKind.i64 e.ord, AV.int IntKind.i64 e.read, AV.int IntKind.i64 e.wrote] = z6c e := rfl
noncomputable def cfgT (n : Nat) : Cfg := { P := Tryz.prog, T := TT, G := GG, wraps := false, ntmps := n }
theorem zn (n : Nat) : z12 (cfgT n) := z74 (by kernel_rfl)
def RR.{u} {α : Sort u} (a : α) : Prop := a = a
def RW (sh : Shape) (n : Nat) (f : Nat -> AV) : Prop := RR sh /\ RR n /\ ∀ i : Nat, i < n -> RR (f i)
def RI (n : Int) : Prop := RR IntKind.i64 /\ RR n
theorem RR_t.{u} {α : Sort u} (a : α) : RR a ↔ True := ⟨fun _ => trivial, fun _ => rfl⟩
theorem RW_t (sh : Shape) (n : Nat) (f : Nat -> AV) : RW sh n f ↔ True := ⟨fun _ => trivial, fun _ => ⟨rfl, rfl, fun _ _ => rfl⟩⟩
theorem RI_t (n : Int) : RI n ↔ True := ⟨fun _ => trivial, fun _ => ⟨rfl, rfl⟩⟩
theorem SB : type_of% @and_true /\ type_of% @true_and /\ type_of% @implies_true.{0} /\ type_of% @implies_true.{1} /\ type_of% @Int.toNat_natCast /\ type_of% @Bool.or_eq_true /\ type_of% @Bool.and_eq_true /\ type_of% @Bool.or_eq_false_iff /\ type_of% @Bool.and_eq_false_iff /\ type_of% @Bool.not_eq_true' /\ type_of% @decide_eq_true_eq /\ type_of% @decide_eq_false_iff_not /\ type_of% @Bool.not_eq_false' /\ type_of% @imp_self /\ type_of% @beq_iff_eq.{0} /\ type_of% @beq_eq_false_iff_ne.{0} /\ type_of% @bne_iff_ne.{0} /\ type_of% @bne_eq_false_iff_eq.{0} /\ type_of% @ne_eq.{1} /\ type_of% @Decidable.not_not /\ type_of% @zc9 /\ type_of% @zca /\ type_of% @zcb /\ type_of% @Int.ofNat_lt /\ type_of% @Int.ofNat_le /\ type_of% @Int.natCast_nonneg /\ type_of% @Nat.le_refl /\ type_of% @Nat.one_mul /\ type_of% @false_implies /\ type_of% @tri1 /\ type_of% @Int.toNat_zero /\ type_of% @Int.toNat_one /\ type_of% @sI /\ type_of% @s2 /\ type_of% @s3 /\ type_of% @s4 /\ type_of% @s5 /\ type_of% @s9 /\ type_of% @sT /\ type_of% @sS /\ type_of% @rI /\ type_of% @rS /\ type_of% @rIn /\ type_of% @rV /\ type_of% @rF /\ type_of% @rSt /\ type_of% @rT /\ type_of% @rQ /\ type_of% @rE /\ type_of% @rB /\ type_of% @fI /\ type_of% @fV /\ type_of% @fF /\ type_of% @fS /\ type_of% @fP /\ type_of% @fA /\ type_of% @fT /\ type_of% @fM /\ type_of% @fE /\ type_of% @fB /\ type_of% @fSt /\ type_of% @fEv /\ type_of% @zgf /\ type_of% @zk7 /\ type_of% @zk8 /\ type_of% @zk9 /\ type_of% @zka /\ type_of% @dR_I /\ type_of% @dR_S /\ type_of% @zru /\ type_of% @dR_V /\ type_of% @zhf /\ type_of% @dR_F /\ type_of% @zrv /\ type_of% @zp7 /\ type_of% @dR_E /\ type_of% @zhg /\ type_of% @dR_B /\ type_of% @dR_Q /\ type_of% @zkb /\ type_of% @Int.sub_zero /\ type_of% @Nat.zero_add /\ type_of% @RR_t.{1} /\ type_of% @RW_t /\ type_of% @RI_t :=
  ⟨@and_true, @true_and, @implies_true.{0}, @implies_true.{1}, @Int.toNat_natCast, @Bool.or_eq_true, @Bool.and_eq_true, @Bool.or_eq_false_iff, @Bool.and_eq_false_iff, @Bool.not_eq_true', @decide_eq_true_eq, @decide_eq_false_iff_not, @Bool.not_eq_false', @imp_self, @beq_iff_eq.{0}, @beq_eq_false_iff_ne.{0}, @bne_iff_ne.{0}, @bne_eq_false_iff_eq.{0}, @ne_eq.{1}, @Decidable.not_not, @zc9, @zca, @zcb, @Int.ofNat_lt, @Int.ofNat_le, @Int.natCast_nonneg, @Nat.le_refl, @Nat.one_mul, @false_implies, @tri1, @Int.toNat_zero, @Int.toNat_one, @sI, @s2, @s3, @s4, @s5, @s9, @sT, @sS, @rI, @rS, @rIn, @rV, @rF, @rSt, @rT, @rQ, @rE, @rB, @fI, @fV, @fF, @fS, @fP, @fA, @fT, @fM, @fE, @fB, @fSt, @fEv, @zgf, @zk7, @zk8, @zk9, @zka, @dR_I, @dR_S, @zru, @dR_V, @zhf, @dR_F, @zrv, @zp7, @dR_E, @zhg, @dR_B, @dR_Q, @zkb, @Int.sub_zero, @Nat.zero_add, @RR_t.{1}, @RW_t, @RI_t⟩
abbrev KN (f : FuncId) (a : List AV) (r : AV) : Prop := Known Tryz.prog GG f a r
def wr (n : Int) : Int := (n + 2147483648) % 4294967296 - 2147483648
def tru (b : Bool) : Int := bif b then 1 else 0
def low (n : Int) : Nat := (n % 4294967296).toNat
def bop (g : Nat -> Nat -> Nat) (x y : Int) : Int := wr (g (low x) (low y) : Nat)
def app (f a b : Int) : Int × Int :=
  if f = 1 then (wr (wr a + wr b), 0)
  else if f = 2 then (wr (wr a - wr b), 0)
  else if f = 3 then (wr (wr a * wr b), 0)
  else if f = 4 then (bop (· &&& ·) a b, 0)
  else if f = 5 then (bop (· ||| ·) a b, 0)
  else if f = 6 then (bop (· ^^^ ·) a b, 0)
  else if f = 7 then (tru (wr a == wr b), 0)
  else if f = 8 then (tru (wr a != wr b), 0)
  else if f = 9 then (tru (decide (wr a < wr b)), 0)
  else if f = 10 then (tru (decide (wr a <= wr b)), 0)
  else (0, 8)
def z3c (r : Nat -> Int) (X Y : Nat) : Nat -> Int
  | 0 => 0
  | n + 1 => z3c r X Y n + 2 ^ n * r (2 * (X / 2 ^ n % 2) + Y / 2 ^ n % 2)
def spV : FuncId -> List AV -> Option AV
  | 138, [.int _ n] | 209, [.int _ n] => some (.int .i64 (wr n))
  | 230, [.bool b] | 211, [.bool b] => some (.int .i64 (tru b))
  | 180, [.int _ f, .int _ a, .int _ b] | 150, [.int _ f, .int _ a, .int _ b] => some (.tup [.int .i64 (app f a b).1, .int .i64 (app f a b).2])
  | 210, [.int _ x, .int _ y, .mc _ (.arr _ r)] => some (.int .i64 (wr (z3c (fun i => dI (r i)) (low x) (low y) 32)))
  | 249, [.int _ f] | 217, [.int _ f] => some (.str (nameF f))
  | _, _ => none
noncomputable def vV (n : Nat) (inv : Nat -> Option Inv) : VCtx := { C := cfgT n, CC := Known Tryz.prog GG, orc := fun _ _ => spV, inv := inv }
noncomputable def zuk (n : Int) : Prop := fnVc (vV 7 fun _ => none) Tryz.f138 [.int .i64 n] (.int .i64 (wr n))
noncomputable def zp8 (n : Int) : Prop := fnVc (vV 15 fun _ => none) Tryz.f209 [.int .i64 n] (.int .i64 (wr n))
noncomputable def gtru (b : Bool) : Prop := fnVc (vV 4 fun _ => none) Tryz.f230 [.bool b] (.int .i64 (tru b))
noncomputable def zul (b : Bool) : Prop := fnVc (vV 4 fun _ => none) Tryz.f211 [.bool b] (.int .i64 (tru b))
def zhi (x y : Int) (r : Nat -> Int) (k : Nat) : Option Inv := match Nat.beq k 8 with
  | true => some { ι := Nat, S := fun i => ⟨[(0, .int .i64 ((low x / 2 ^ i : Nat) : Int)), (1, .int .i64 ((low y / 2 ^ i : Nat) : Int)), (5, .ptr 5 []), (7, .int .i64 (z3c r (low x) (low y) i)), (8, .int .i64 (2 ^ i)), (9, .int .i64 i)], [(5, .cell 216 (.arr 4 .leaf) (.arr 4 fun i => .int .i64 (r i)))]⟩, μ := fun i => 32 - i, ok := fun i => i <= 32 }
  | false => none
noncomputable def zp9 (x y : Int) (r : Nat -> Int) : Prop := fnVc (vV 42 (zhi x y r)) Tryz.f210 [.int .i64 x, .int .i64 y, .mc (.arr 4 .leaf) (.arr 4 fun i => .int .i64 (r i))] (.int .i64 (wr (z3c r (low x) (low y) 32)))
noncomputable def gApp (f a b : Int) : Prop := fnVc (vV 75 fun _ => none) Tryz.f180 [.int .i64 f, .int .i64 a, .int .i64 b] (.tup [.int .i64 (app f a b).1, .int .i64 (app f a b).2])
noncomputable def zum (f a b : Int) : Prop := fnVc (vV 75 fun _ => none) Tryz.f150 [.int .i64 f, .int .i64 a, .int .i64 b] (.tup [.int .i64 (app f a b).1, .int .i64 (app f a b).2])
noncomputable def zun (f : Int) : Prop := fnVc (vV 13 fun _ => none) Tryz.f249 [.int .i64 f] (.str (nameF f))
noncomputable def zpa (f : Int) : Prop := fnVc (vV 24 fun _ => none) Tryz.f217 [.int .i64 f] (.str (nameF f))
end
end Go.Proofs.S25
