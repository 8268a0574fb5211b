/- What is owed for a piece of code, as a plain statement; and that it suffices. -/
import Derived.Test.YtmlgkljbhidlhaaAvDraw2
import Derived.Test.YtmlgkljbhidlhaaAvPair
import Derived.Deep.LoopGhost
import Derived.LoopN
namespace Go.AV
open Go.RowKit

/-- A loop's states: one for each index, with a number that every round lowers. -/
structure Inv where
  ι : Type
  S : ι → St
  μ : ι → Nat
  ok : ι → Prop

/-- The same for a loop within a loop: one for each choice made where it is entered. -/
structure InvP where
  π : Type
  I : π → Inv

/- What one fact says at least as much as another. -/
mutual
def AV.le (h h' : List (Nat × BoxC)) : AV → AV → Prop
  | .int k n, .int k' n' => k = k' ∧ n = n'
  | .bool b, .bool b' => b = b'
  | .str l, .str l' => l = l'
  | .nils, .own b n => n = 0 ∧ (get h b).isNone = true ∧ (get h' b).isSome = true
  | .nils, .seq _ n _ => n = 0
  | .seq sh n f, .seq sh' n' f' => sh = sh' ∧ n = n' ∧ ∀ i, i < n → f i = f' i
  | .seqc sh n f, .seq sh' n' f' => sh = sh' ∧ n = n' ∧ ∀ i, i < n → f i = f' i
  | .own b n, .own b' n' => b = b' ∧ n = n'
  | .agg l, .agg m => AV.les h h' l m
  | .arr n f, .arr n' f' => n = n' ∧ ∀ i, f i = f' i
  | .mc sh x, .mc sh' y => sh = sh' ∧ AV.le h h' x y
  | .tup l, .tup m => AV.les h h' l m
  | x, .any => x.isOne = true
  | x, y => x = y
def AV.les (h h' : List (Nat × BoxC)) : List AV → List AV → Prop
  | [], [] => True
  | x :: l, y :: m => AV.le h h' x y ∧ AV.les h h' l m
  | _, _ => False
end

def BoxC.le (h h' : List (Nat × BoxC)) : BoxC → BoxC → Prop
  | .row t sh n f, .row t' sh' n' f' => t = t' ∧ sh = sh' ∧ n = n' ∧ ∀ i, i < n → f i = f' i
  | .cell tc sh x, .cell tc' sh' y => tc = tc' ∧ sh = sh' ∧ AV.le h h' x y
  | _, _ => False

def leEnv (st st' : St) : List (Nat × AV) → Prop
  | [] => True
  | (s, y) :: m => (match get st.env s with | some x => AV.le st.heap st'.heap x y | none => False) ∧ leEnv st st' m

def leHeap (st st' : St) : List (Nat × BoxC) → Prop
  | [] => True
  | (b, d) :: m => (match get st.heap b with
    | some c => BoxC.le st.heap st'.heap c d
    | none => match d with | .row _ _ n _ => n = 0 ∧ freshBox st b = true | _ => False) ∧ leHeap st st' m

def St.le (st st' : St) : Prop := leEnv st st' st'.env ∧ leHeap st st' st'.heap

def conj : List Prop → Prop → Prop
  | [], Q => Q
  | p :: l, Q => p ∧ conj l Q

theorem conj_spec : ∀ {l : List Prop} {Q : Prop}, conj l Q → (∀ p ∈ l, p) ∧ Q
  | [], _, h => ⟨fun p hp => by simp at hp, h⟩
  | x :: l, Q, h => by
    obtain ⟨h1, h2⟩ := conj_spec h.2
    exact ⟨fun p hp => by rcases List.mem_cons.1 hp with rfl | hp; exact h.1; exact h1 p hp, h2⟩

def firstRegion : Code → Option Nat
  | .region id _ _ => some id
  | .seq x y => match firstRegion x with | some i => some i | none => firstRegion y
  | .cond _ x y => match firstRegion x with | some i => some i | none => firstRegion y
  | .block _ c | .loop c | .scope c => firstRegion c
  | _ => none

structure VCtx where
  C : Cfg
  CC : FuncId → List AV → AV → Prop
  orc : Nat → Nat → FuncId → List AV → Option AV
  inv : Nat → Option Inv
  invP : Nat → Option InvP := fun _ => none
  /-- the first round is walked from where the loop is entered -/
  peel : Nat → Option Inv := fun _ => none

def vc (V : VCtx) : Code → St → (Exit → St → Prop) → Prop
  | .skip, st, Q => Q .normal st
  | .region id ops draw, st, Q => match draw with
    | false => match absOpsF V.C V.CC (V.orc id) ops.toList ops.toList 0 st with
      | some (st', ps) => conj ps (Q .normal st')
      | none => False
    | true => match absOps V.C V.CC (V.orc id) ops.toList ops.toList 0 st with
      | some (st', ps) => match orderOK V.C V.CC (V.orc id) ops.toList st with
        | true => conj ps (Q .normal st')
        | false => False
      | none => False
  | .seq x y, st, Q => vc V x st (fun e st' => match e with | .normal => vc V y st' Q | e => Q e st')
  | .cond c x y, st, Q => match ev V.C st c with
    | some (.bool p) => (p = true → vc V x st Q) ∧ (p = false → vc V y st Q)
    | _ => False
  | .block id c, st, Q => vc V c st (fun e st' => match e with
    | .exit i => match Nat.beq i id with | true => Q .normal st' | false => Q (.exit i) st'
    | e => Q e st')
  | .loop c, st, Q => match firstRegion c with
    | some k => match V.inv k with
      | some I => (∃ i, I.ok i ∧ st.le (I.S i)) ∧ ∀ i, I.ok i → vc V c (I.S i) (fun e st' => match e with
        | .normal => ∃ j, I.ok j ∧ I.μ j < I.μ i ∧ st'.le (I.S j)
        | e => Q e st')
      | none => match V.invP k with
        | some J => ∃ p, (∃ i, (J.I p).ok i ∧ st.le ((J.I p).S i)) ∧ ∀ i, (J.I p).ok i → vc V c ((J.I p).S i) (fun e st' => match e with
          | .normal => ∃ j, (J.I p).ok j ∧ (J.I p).μ j < (J.I p).μ i ∧ st'.le ((J.I p).S j)
          | e => Q e st')
        | none => match V.peel k with
          | some I => vc V c st (fun e st' => match e with
            | .normal => ∃ j, I.ok j ∧ st'.le (I.S j)
            | e => Q e st') ∧ ∀ i, I.ok i → vc V c (I.S i) (fun e st' => match e with
            | .normal => ∃ j, I.ok j ∧ I.μ j < I.μ i ∧ st'.le (I.S j)
            | e => Q e st')
          | none => False
    | none => False
  | .exit id, st, Q => Q (.exit id) st
  | .ret, st, Q => Q .ret st
  | .scope c, st, Q => vc V c st (fun e st' => match e with | .goto _ => False | e => Q e st')
  | .label _, st, Q => Q .normal st
  | _, _, _ => False

/-- What a function hands back. -/
def resAV (C : Cfg) (st : St) : List ResultVar → Option (List AV)
  | [] => some []
  | .tmp t :: l => match get st.env t, resAV C st l with
    | some x, some m => some (x :: m)
    | _, _ => none
  | .cell s t :: l => match get st.env s, tyOf C t, resAV C st l with
    | some (.ptr b p), some te, some m => match get st.heap b with
      | some (.cell tc sh x) => match pathSh p sh, nav p sh x with
        | some s', some y => match s'.same te.sh with
          | true => match wrapV te.sh y with
            | some z => some (z :: m)
            | none => none
          | false => none
        | _, _ => none
      | _ => none
    | _, _, _ => none

def tupOf : List AV → AV
  | [x] => x
  | l => .tup l

def retOf (C : Cfg) (st : St) (rs : List ResultVar) : Option (AV × List Prop) :=
  match resAV C st rs with
  | some l => match frzs st.heap l with
    | some (m, ps) => match AV.areStat m with
      | true => some (tupOf m, ps)
      | false => none
    | none => none
  | none => none

def argEnv : Nat → List AV → List (Nat × AV)
  | _, [] => []
  | i, x :: l => (i, x) :: argEnv (i + 1) l

def fnPost (V : VCtx) (fn : Func) (r : AV) (e : Exit) (st : St) : Prop :=
  match e with
  | .ret | .normal => match retOf V.C st fn.results.toList with
    | some (x, ps) => conj ps (AV.le [] [] x r)
    | none => False
  | _ => False

def fnVc (V : VCtx) (fn : Func) (args : List AV) (r : AV) : Prop :=
  match fn.body with
  | some c => vc V c ⟨argEnv 0 args, []⟩ (fnPost V fn r)
  | none => False

section
variable {V : VCtx} {W0 : Entry} {F0 : Nat → Prop} {st st' : St} {a : Act} {w : World} {F : Nat → Prop} {φ : Nat → Place}

/-- What the places are where nil rows are laid. -/
def nilPlace (st st' : St) (φ : Nat → Place) (b : Nat) : Place :=
  match get st.heap b, get st'.heap b with
  | none, some (.row t sh _ _) => ⟨none, 0, sh, t⟩
  | _, _ => φ b

theorem AV.le_one {h h' : List (Nat × BoxC)} {x y : AV} (hl : AV.le h h' x y) : (x.isOne = true → y.isOne = true) := by
  intro hx
  cases x <;> cases y <;> simp_all [AV.le, AV.isOne]

def Both (w : World) (F : Nat → Prop) (φ φ' : Nat → Place) (x y : AV) : Prop :=
  (∀ v, Rep w F φ v x → Rep w F φ' v y) ∧ ∀ sh j v, Rep w F φ v (leafAt sh x j) → Rep w F φ' v (leafAt sh y j)

theorem both_one {φ' : Nat → Place} {x y : AV} (hx : x.isOne = true) (hy : y.isOne = true) (h : ∀ v, Rep w F φ v x → Rep w F φ' v y) : Both w F φ φ' x y := by
  refine ⟨h, fun sh j v hv => ?_⟩
  cases sh with
  | leaf => simp only [leafAt, asLeaf, hx, hy] at hv ⊢; exact h v hv
  | agg ss =>
    have hb : v.oneCell' = true := hv.leaf1
    cases y <;> simp only [leafAt] <;> first | exact .stat (.any _ hb) | simp [AV.isOne] at hy
  | arr n s =>
    have hb : v.oneCell' = true := hv.leaf1
    cases y <;> simp only [leafAt] <;> first | exact .stat (.any _ hb) | simp [AV.isOne] at hy

theorem both_any {φ' : Nat → Place} {x : AV} (hx : x.isOne = true) : Both w F φ φ' x .any := both_one hx rfl fun _ hv => .stat (.any _ (hv.one hx))

theorem both_keep {φ' : Nat → Place} {x : AV} (hφ : ∀ b, x.names b = true → φ' b = φ b) : Both w F φ φ' x x :=
  ⟨fun _ hv => hv.keep (fun _ _ => rfl) (fun _ hk => hk) hφ, fun sh j _ hv => hv.keep (fun _ _ => rfl) (fun _ hk => hk) fun b hb => hφ b (names_leafAt sh x j hb)⟩

theorem nilPlace_nil {b : Nat} (h : (get st.heap b).isNone = true) (h' : (get st'.heap b).isSome = true) (hr : ∀ c, get st'.heap b = some c → get st.heap b = none → ∃ t sh n f, c = .row t sh n f) : (nilPlace st st' φ b).blk = none := by
  unfold nilPlace
  cases h1 : get st.heap b with
  | some c => rw [h1] at h; cases h
  | none =>
    cases h2 : get st'.heap b with
    | none => rw [h2] at h'; cases h'
    | some c =>
      obtain ⟨t, sh, n, f, rfl⟩ := hr c h2 h1
      rfl

mutual
theorem le_rep (hr : ∀ b c, get st'.heap b = some c → get st.heap b = none → ∃ t sh n f, c = .row t sh n f) : ∀ (x y : AV), (∀ b, x.names b = true → nilPlace st st' φ b = φ b) → AV.le st.heap st'.heap x y → Both w F φ (nilPlace st st' φ) x y
  | .agg l, y, hφ, hl => by
    cases y <;> simp only [AV.le] at hl
    case any => simp [AV.isOne] at hl
    case agg m =>
      refine ⟨fun v hv => (by cases hv with | stat hv => (cases hv)), fun sh j v hv => ?_⟩
      cases sh with
      | leaf => simp only [leafAt, asLeaf, AV.isOne] at hv ⊢; exact .stat (.any _ (hv.one rfl))
      | agg ss => simp only [leafAt] at hv ⊢; exact les_rep hr l m (fun b hb => hφ b (by simpa [AV.names] using hb)) hl ss j v hv
      | arr n s => simp only [leafAt] at hv ⊢; exact .stat (.any _ (hv.one rfl))
    all_goals cases hl
  | .mc sh x, y, hφ, hl => by
    cases y <;> simp only [AV.le] at hl
    case any => simp [AV.isOne] at hl
    case mc sh' y' =>
      obtain ⟨rfl, hl⟩ := hl
      have hb := le_rep hr x y' (fun b hb => hφ b (by simpa [AV.names] using hb)) hl
      refine ⟨fun v hv => ?_, fun s j v hv => ?_⟩
      · obtain ⟨cs, rfl, hs, hc⟩ := hv.mc_inv
        exact .mc cs sh y' hs fun j hj => hb.2 sh j _ (hc j hj)
      · cases s with
        | leaf => simp only [leafAt, asLeaf, AV.isOne] at hv ⊢; exact .stat (.any _ (hv.one rfl))
        | agg ss => simp only [leafAt] at hv ⊢; exact .stat (.any _ (hv.one rfl))
        | arr n s => simp only [leafAt] at hv ⊢; exact .stat (.any _ (hv.one rfl))
    all_goals cases hl
  | .tup l, y, hφ, hl => by
    cases y <;> simp only [AV.le] at hl
    case any => simp [AV.isOne] at hl
    case tup m =>
      refine ⟨fun v hv => ?_, fun s j v hv => ?_⟩
      · have hv' : ∃ vs : Array Value, v = .tuple vs ∧ vs.size = l.length ∧ ∀ j, j < l.length → Rep w F φ (vs.getD j undef) (l.getD j .any) := by
          cases hv with
          | stat hv => cases hv
          | tup vs _ h1 h2 => exact ⟨vs, rfl, h1, h2⟩
        obtain ⟨vs, rfl, h1, h2⟩ := hv'
        obtain ⟨h3, h4⟩ := les_each hr l m (fun b hb => hφ b (by simpa [AV.names] using hb)) hl
        exact .tup vs m (by omega) fun j hj => h4 j (by omega) _ (h2 j (by omega))
      · cases s with
        | leaf => simp only [leafAt, asLeaf, AV.isOne] at hv ⊢; exact .stat (.any _ (hv.one rfl))
        | agg ss => simp only [leafAt] at hv ⊢; exact .stat (.any _ (hv.one rfl))
        | arr n s => simp only [leafAt] at hv ⊢; exact .stat (.any _ (hv.one rfl))
    all_goals cases hl
  | .nils, y, hφ, hl => by
    cases y <;> simp only [AV.le] at hl
    case any => exact both_any rfl
    case nils => exact both_keep hφ
    case seq sh n f =>
      subst hl
      refine both_one rfl rfl fun v hv => ?_
      cases hv with | stat hv => cases hv; exact .stat (.seq0 _ _ _ _)
    case own b n =>
      obtain ⟨rfl, h1, h2⟩ := hl
      refine both_one rfl rfl fun v hv => ?_
      cases hv with | stat hv => cases hv; exact .own0 b (nilPlace_nil h1 h2 (hr b))
    all_goals cases hl
  | .seq sh n f, y, hφ, hl => by
    cases y <;> simp only [AV.le] at hl
    case any => exact both_any rfl
    case seq sh' n' f' =>
      obtain ⟨rfl, rfl, hf⟩ := hl
      refine both_one rfl rfl fun v hv => ?_
      cases hv with
      | stat hv =>
        cases hv with
        | seq0 => exact .stat (.seq0 _ _ _ _)
        | seq g o n cap sh f cs h1 h2 h3 h4 => exact .stat (.seq g o n cap sh f' cs h1 h2 h3 fun i hi j hj => by rw [← hf i hi]; exact h4 i hi j hj)
    all_goals cases hl
  | .seqc sh n f, y, hφ, hl => by
    cases y <;> simp only [AV.le] at hl
    case any => exact both_any rfl
    case seqc sh' n' f' => cases hl; exact both_keep hφ
    case seq sh' n' f' =>
      obtain ⟨rfl, rfl, hf⟩ := hl
      refine both_one rfl rfl fun v hv => ?_
      cases hv with
      | stat hv =>
        cases hv with
        | seqc0 => exact .stat (.seq0 _ _ _ _)
        | seqc g o n sh f cs h1 h3 h4 => exact .stat (.seq g o n n sh f' cs h1 (Nat.le_refl _) h3 fun i hi j hj => by rw [← hf i hi]; exact h4 i hi j hj)
    all_goals cases hl
  | .arr n f, y, hφ, hl => by
    cases y <;> simp only [AV.le] at hl
    case any => simp [AV.isOne] at hl
    case arr n' f' =>
      obtain ⟨rfl, hf⟩ := hl
      have : f = f' := funext hf
      subst this
      exact both_keep hφ
    all_goals cases hl
  | .int k n, y, hφ, hl => by
    cases y <;> simp only [AV.le] at hl
    case any => exact both_any rfl
    case int => obtain ⟨rfl, rfl⟩ := hl; exact both_keep hφ
    all_goals cases hl
  | .bool b, y, hφ, hl => by
    cases y <;> simp only [AV.le] at hl
    case any => exact both_any rfl
    case bool => subst hl; exact both_keep hφ
    all_goals cases hl
  | .str b, y, hφ, hl => by
    cases y <;> simp only [AV.le] at hl
    case any => exact both_any rfl
    case str => subst hl; exact both_keep hφ
    all_goals cases hl
  | .own b n, y, hφ, hl => by
    cases y <;> simp only [AV.le] at hl
    case any => exact both_any rfl
    case own => obtain ⟨rfl, rfl⟩ := hl; exact both_keep hφ
    all_goals cases hl
  | .any, y, hφ, hl => by
    cases y <;> simp only [AV.le] at hl
    case any => exact both_any rfl
    all_goals cases hl
  | .nilp, y, hφ, hl => by
    cases y <;> simp only [AV.le] at hl
    case any => exact both_any rfl
    case nilp => exact both_keep hφ
    all_goals cases hl
  | .rptr s x, y, hφ, hl => by
    cases y <;> simp only [AV.le] at hl
    case any => exact both_any rfl
    case rptr => cases hl; exact both_keep hφ
    all_goals cases hl
  | .ptr b p, y, hφ, hl => by
    cases y <;> simp only [AV.le] at hl
    case any => exact both_any rfl
    case ptr => cases hl; exact both_keep hφ
    all_goals cases hl
  | .optr b i p, y, hφ, hl => by
    cases y <;> simp only [AV.le] at hl
    case any => exact both_any rfl
    case optr => cases hl; exact both_keep hφ
    all_goals cases hl
  | .clo f l, y, hφ, hl => by
    cases y <;> simp only [AV.le] at hl
    case any => exact both_any rfl
    case clo => cases hl; exact both_keep hφ
    all_goals cases hl
  | .st x, y, hφ, hl => by
    cases y <;> simp only [AV.le] at hl
    case any => simp [AV.isOne] at hl
    case st => cases hl; exact both_keep hφ
    all_goals cases hl
  | .when q x, y, hφ, hl => by
    cases y <;> simp only [AV.le] at hl
    case any => simp [AV.isOne] at hl
    case when => cases hl; exact both_keep hφ
    all_goals cases hl
theorem les_rep (hr : ∀ b c, get st'.heap b = some c → get st.heap b = none → ∃ t sh n f, c = .row t sh n f) : ∀ (l m : List AV), (∀ b, AV.namesL b l = true → nilPlace st st' φ b = φ b) → AV.les st.heap st'.heap l m → ∀ ss j v, Rep w F φ v (leafsAt ss l j) → Rep w F (nilPlace st st' φ) v (leafsAt ss m j)
  | [], m, hφ, hl, ss, j, v, hv => by
    cases m with
    | nil => cases ss <;> simp only [leafsAt] at hv ⊢ <;> exact .stat (.any _ (hv.one rfl))
    | cons y m => simp [AV.les] at hl
  | x :: l, m, hφ, hl, ss, j, v, hv => by
    cases m with
    | nil => simp [AV.les] at hl
    | cons y m =>
      simp only [AV.les] at hl
      cases ss with
      | nil => simp only [leafsAt] at hv ⊢; exact .stat (.any _ (hv.one rfl))
      | cons s ss =>
        simp only [leafsAt] at hv ⊢
        split
        · rename_i hj; rw [if_pos hj] at hv; exact (le_rep hr x y (fun b hb => hφ b (by simp [AV.namesL, hb])) hl.1).2 s j v hv
        · rename_i hj; rw [if_neg hj] at hv; exact les_rep hr l m (fun b hb => hφ b (by simp [AV.namesL, hb])) hl.2 ss _ v hv
theorem les_each (hr : ∀ b c, get st'.heap b = some c → get st.heap b = none → ∃ t sh n f, c = .row t sh n f) : ∀ (l m : List AV), (∀ b, AV.namesL b l = true → nilPlace st st' φ b = φ b) → AV.les st.heap st'.heap l m → l.length = m.length ∧ ∀ j, j < l.length → ∀ v, Rep w F φ v (l.getD j .any) → Rep w F (nilPlace st st' φ) v (m.getD j .any)
  | [], m, hφ, hl => by
    cases m with
    | nil => exact ⟨rfl, fun j hj => by simp at hj⟩
    | cons y m => simp [AV.les] at hl
  | x :: l, m, hφ, hl => by
    cases m with
    | nil => simp [AV.les] at hl
    | cons y m =>
      simp only [AV.les] at hl
      obtain ⟨h1, h2⟩ := les_each hr l m (fun b hb => hφ b (by simp [AV.namesL, hb])) hl.2
      refine ⟨by simp [h1], fun j hj v hv => ?_⟩
      cases j with
      | zero => simpa using (le_rep hr x y (fun b hb => hφ b (by simp [AV.namesL, hb])) hl.1).1 v (by simpa using hv)
      | succ j => simpa using h2 j (by simpa using hj) v (by simpa using hv)
end

theorem leEnv_get {st st' : St} : ∀ {m : List (Nat × AV)} {s : Nat} {y : AV}, leEnv st st' m → get m s = some y → ∃ x, get st.env s = some x ∧ AV.le st.heap st'.heap x y
  | [], _, _, _, h => by simp [get] at h
  | (k, v) :: m, s, y, hl, h => by
    simp only [leEnv] at hl
    simp only [get] at h
    split at h
    · rename_i hk
      cases h
      obtain ⟨h1, _⟩ := hl
      rw [← Nat.eq_of_beq_eq_true hk]
      split at h1
      · rename_i x hx; exact ⟨x, hx, h1⟩
      · exact h1.elim
    · exact leEnv_get hl.2 h

theorem leHeap_get {st st' : St} : ∀ {m : List (Nat × BoxC)} {b : Nat} {d : BoxC}, leHeap st st' m → get m b = some d → (∃ c, get st.heap b = some c ∧ BoxC.le st.heap st'.heap c d) ∨ (get st.heap b = none ∧ freshBox st b = true ∧ ∃ t sh f, d = .row t sh 0 f)
  | [], _, _, _, h => by simp [get] at h
  | (k, v) :: m, b, d, hl, h => by
    simp only [leHeap] at hl
    simp only [get] at h
    split at h
    · rename_i hk
      cases h
      obtain ⟨h1, _⟩ := hl
      rw [← Nat.eq_of_beq_eq_true hk]
      split at h1
      · rename_i c hc; exact .inl ⟨c, hc, h1⟩
      · rename_i hc
        split at h1
        · rename_i t sh n f
          obtain ⟨rfl, h2⟩ := h1
          exact .inr ⟨hc, h2, t, sh, f, rfl⟩
        · exact h1.elim
    · exact leHeap_get hl.2 h

/-- Facts that say less. -/
theorem Rel.weaken {C : Cfg} (h : Rel C W0 F0 st a w F φ) (hl : st.le st') : ∃ φ', Rel C W0 F0 st' a w F φ' := by
  obtain ⟨he, hh⟩ := hl
  have hr : ∀ b c, get st'.heap b = some c → get st.heap b = none → ∃ t sh n f, c = .row t sh n f := by
    intro b c h1 h2
    rcases leHeap_get hh h1 with ⟨c', h3, _⟩ | ⟨_, _, t, sh, f, rfl⟩
    · rw [h2] at h3; cases h3
    · exact ⟨t, sh, 0, f, rfl⟩
  have new : ∀ b, nilPlace st st' φ b ≠ φ b → freshBox st b = true := by
    intro b hb
    unfold nilPlace at hb
    split at hb
    · rename_i h1 h2
      rcases leHeap_get hh h2 with ⟨c', h3, _⟩ | ⟨_, h4, _⟩
      · rw [h1] at h3; cases h3
      · exact h4
    · exact absurd rfl hb
  have namesE : ∀ s x, get st.env s = some x → ∀ b, x.names b = true → nilPlace st st' φ b = φ b := by
    intro s x hs b hb
    refine Classical.byContradiction fun hne => ?_
    have := new b hne
    simp only [freshBox, Bool.not_eq_true', Bool.or_eq_false_iff] at this
    rw [namesEnv_get hs this.1] at hb; cases hb
  have namesH : ∀ s c, get st.heap s = some c → (∀ b, c.names b = true → nilPlace st st' φ b = φ b) ∧ nilPlace st st' φ s = φ s := by
    intro s c hs
    refine ⟨fun b hb => Classical.byContradiction fun hne => ?_, by unfold nilPlace; rw [hs]⟩
    have := new b hne
    simp only [freshBox, Bool.not_eq_true', Bool.or_eq_false_iff] at this
    rw [(namesHeap_get hs this.2.1).1] at hb; cases hb
  refine ⟨nilPlace st st' φ, fun s y hs => ?_, fun b d hd => ?_, ?_, h.ro, h.base, h.sub, h.new, h.dfr, h.tsz, h.glob, fun b p hp => ?_⟩
  · obtain ⟨x, hx, hxy⟩ := leEnv_get he hs
    obtain ⟨v, hv, hrep⟩ := h.env s x hx
    exact ⟨v, hv, (le_rep hr x y (namesE s x hx) hxy).1 v hrep⟩
  · rcases leHeap_get hh hd with ⟨c, hc, hcd⟩ | ⟨h1, h2, t, sh, f, rfl⟩
    · obtain ⟨n1, n2⟩ := namesH b c hc
      have hb := h.heap b c hc
      cases c with
      | cell tc sh x =>
        cases d with
        | cell tc' sh' y =>
          obtain ⟨rfl, rfl, hxy⟩ := hcd
          obtain ⟨h0, g, cs, h1, h2, h3, h4, h5, h6⟩ := hb
          refine ⟨by rw [n2]; exact h0, g, cs, by rw [n2]; exact h1, h2, h3, h4, h5, fun j hj => ?_⟩
          exact (le_rep hr x y (fun b hb => n1 b (by simpa [BoxC.names] using hb)) hxy).2 sh j _ (h6 j hj)
        | row => cases hcd
      | row t sh n f =>
        cases d with
        | cell => cases hcd
        | row t' sh' n' f' =>
          obtain ⟨rfl, rfl, rfl, hf⟩ := hcd
          obtain ⟨h0, h0', hrow⟩ := hb
          refine ⟨by rw [n2]; exact h0, by rw [n2]; exact h0', ?_⟩
          rw [n2]
          rcases hrow with h1 | ⟨g, cs, h1, h2, h3, h4, h5, h6, h7, h8⟩
          · exact .inl h1
          · exact .inr ⟨g, cs, h1, h2, h3, h4, h5, h6, h7, fun i hi j hj => by rw [← hf i hi]; exact h8 i hi j hj⟩
    · have : nilPlace st st' φ b = ⟨none, 0, sh, t⟩ := by unfold nilPlace; rw [h1, hd]
      exact ⟨by rw [this], by rw [this], .inl ⟨by rw [this], rfl⟩⟩
  · intro b b' d d' g h1 h2 h3 h4
    have old : ∀ b d, get st'.heap b = some d → (nilPlace st st' φ b).blk = some g → ∃ c, get st.heap b = some c ∧ (φ b).blk = some g := by
      intro b d hd hg
      rcases leHeap_get hh hd with ⟨c, hc, _⟩ | ⟨k1, _, t, sh, f, rfl⟩
      · rw [(namesH b c hc).2] at hg; exact ⟨c, hc, hg⟩
      · unfold nilPlace at hg; rw [k1, hd] at hg; cases hg
    obtain ⟨c, k1, k2⟩ := old b d h1 h3
    obtain ⟨c', k3, k4⟩ := old b' d' h2 h4
    exact h.inj b b' c c' g k1 k3 k2 k4
  · obtain ⟨a1, a2, a3⟩ := h.anc b p hp
    refine ⟨a1, ?_, fun d hd => ?_⟩
    · refine Eq.trans (Classical.byContradiction fun hne => ?_) a2
      have := new b hne
      simp only [freshBox, Bool.not_eq_true', Bool.or_eq_false_iff] at this
      have h3 := this.2.2
      rw [Bool.not_eq_false'] at h3
      have h4 : b < 1099511627776 := Nat.le_of_ble_eq_true h3
      omega
    · rcases leHeap_get hh hd with ⟨c, hc, hcd⟩ | ⟨_, h2, _⟩
      · have := a3 c hc
        cases c with
        | row => cases this
        | cell => cases d with
          | cell => rfl
          | row => cases hcd
      · simp only [freshBox, Bool.not_eq_true', Bool.or_eq_false_iff] at h2
        have h3 := h2.2.2
        rw [Bool.not_eq_false'] at h3
        have h4 : b < 1099511627776 := Nat.le_of_ble_eq_true h3
        omega

/-- A loop's first round, and the rounds behind it. -/
theorem wp_loop_peel {P : Program} {c : Code} {Q : Exit → Act → World → Prop} {a : Act} {w : World} (h : c.wp P (Exit.then (fun a w => ∃ n, Code.rounds P c Q n a w) Q) a w) : (Code.loop c).wp P Q a w := by
  intro b k cs
  have key : ∀ n a w, Code.rounds P c Q n a w →
      ∃ e a' w', Q e a' w' ∧ Arrives P (lone (b.at a (.code c :: .inLoop c :: k)) cs w) b k cs e a' w' := by
    intro n
    induction n with
    | zero => intro a w h; exact h.elim
    | succ n ih =>
      intro a w h
      obtain ⟨e, a₁, w₁, hq, harr⟩ := h b (.inLoop c :: k) cs
      cases e with
      | normal =>
        obtain ⟨e₂, a₂, w₂, hq₂, harr₂⟩ := ih a₁ w₁ hq
        exact ⟨e₂, a₂, w₂, hq₂, .of_steps (Steps.trans harr (.one step_inLoop)) harr₂⟩
      | exit id => exact ⟨_, a₁, w₁, hq, .pass (x := .inLoop c) rfl (fun _ _ => .inl (by simp)) harr⟩
      | goto l => exact ⟨_, a₁, w₁, hq, .pass (x := .inLoop c) rfl (fun _ _ => .inl (by simp)) harr⟩
      | ret => exact ⟨_, a₁, w₁, hq, .pass (x := .inLoop c) rfl (fun _ _ => .inl (by simp)) harr⟩
      | panic ch => exact ⟨_, a₁, w₁, hq, .pass (x := .inLoop c) rfl (fun _ _ => .inl (by simp)) harr⟩
      | outgrown => exact ⟨_, a₁, w₁, hq, .pass (x := .inLoop c) rfl (fun _ _ => .inl (by simp)) harr⟩
  obtain ⟨e, a₁, w₁, hq, harr⟩ := h b (.inLoop c :: k) cs
  cases e with
  | normal =>
    obtain ⟨n, hn⟩ := hq
    obtain ⟨e₂, a₂, w₂, hq₂, harr₂⟩ := key n a₁ w₁ hn
    exact ⟨e₂, a₂, w₂, hq₂, .of_steps (.one step_loop) (.of_steps (Steps.trans harr (.one step_inLoop)) harr₂)⟩
  | exit id => exact ⟨_, a₁, w₁, hq, .of_steps (.one step_loop) (.pass (x := .inLoop c) rfl (fun _ _ => .inl (by simp)) harr)⟩
  | goto l => exact ⟨_, a₁, w₁, hq, .of_steps (.one step_loop) (.pass (x := .inLoop c) rfl (fun _ _ => .inl (by simp)) harr)⟩
  | ret => exact ⟨_, a₁, w₁, hq, .of_steps (.one step_loop) (.pass (x := .inLoop c) rfl (fun _ _ => .inl (by simp)) harr)⟩
  | panic ch => exact ⟨_, a₁, w₁, hq, .of_steps (.one step_loop) (.pass (x := .inLoop c) rfl (fun _ _ => .inl (by simp)) harr)⟩
  | outgrown => exact ⟨_, a₁, w₁, hq, .of_steps (.one step_loop) (.pass (x := .inLoop c) rfl (fun _ _ => .inl (by simp)) harr)⟩

/-- What a piece of code leaves: a state of facts that fits. -/
def Fits (C : Cfg) (W0 : Entry) (F0 : Nat → Prop) (Q : Exit → St → Prop) (e : Exit) (a : Act) (w : World) : Prop := ∃ st F φ, Rel C W0 F0 st a w F φ ∧ Q e st

theorem vc_sound (hT : TysOK V.C) (hCC : CCOK V.C V.CC) : ∀ (c : Code) (st : St) (Q : Exit → St → Prop) (a : Act) (w : World) (F : Nat → Prop) (φ : Nat → Place), vc V c st Q → Rel V.C W0 F0 st a w F φ → c.wp V.C.P (Fits V.C W0 F0 Q) a w := by
  intro c
  induction c with
  | skip => intro st Q a w F φ h hR; exact wp_skip ⟨st, F, φ, hR, h⟩
  | region id ops draw =>
    intro st Q a w F φ h hR
    cases draw with
    | true =>
      simp only [vc] at h
      split at h
      case h_2 => exact h.elim
      rename_i st' ps hops
      split at h
      case h_2 => exact h.elim
      rename_i hd
      obtain ⟨h1, h2⟩ := conj_spec h
      exact draw_sound hT hCC hops h1 hd hR fun a' w' F' φ' hR' => ⟨st', F', φ', hR', h2⟩
    | false =>
      simp only [vc] at h
      split at h
      case h_2 => exact h.elim
      rename_i st' ps hops
      obtain ⟨h1, h2⟩ := conj_spec h
      refine wp_region ?_
      have := ops_soundF (Q := Fits V.C W0 F0 Q) (ops := ops) ops.toList 0 st st' ps a w F φ hT hCC (fun j => by simp) hops h1 hR fun a' w' F' φ' hR' => ⟨st', F', φ', hR', h2⟩
      rw [Array.length_toList, ← List.range_eq_range'] at this
      exact this
  | seq x y ihx ihy =>
    intro st Q a w F φ h hR
    refine wp_seq (wp_mono (ihx _ _ _ _ _ _ h hR) ?_)
    rintro e a' w' ⟨st', F', φ', hR', hq⟩
    cases e with
    | normal => exact ihy _ _ _ _ _ _ hq hR'
    | _ => exact ⟨st', F', φ', hR', hq⟩
  | cond c x y ihx ihy =>
    intro st Q a w F φ h hR
    simp only [vc] at h
    split at h
    case h_2 => exact h.elim
    rename_i p hp
    have hb := (hR.ev hp).bool_inv
    exact wp_cond_split hb (fun hp => ihx _ _ _ _ _ _ (h.1 hp) hR) (fun hp => ihy _ _ _ _ _ _ (h.2 hp) hR)
  | block id c ih =>
    intro st Q a w F φ h hR
    refine wp_block (wp_mono (ih _ _ _ _ _ _ h hR) ?_)
    rintro e a' w' ⟨st', F', φ', hR', hq⟩
    cases e with
    | exit i =>
      simp only [Exit.inBlock]
      simp only at hq
      split at hq
      · rename_i hi
        rw [if_pos (Nat.eq_of_beq_eq_true hi)]
        exact ⟨st', F', φ', hR', hq⟩
      · rename_i hi
        rw [if_neg (fun e => by subst e; simp at hi)]
        exact ⟨st', F', φ', hR', hq⟩
    | _ => exact ⟨st', F', φ', hR', hq⟩
  | loop c ih =>
    intro st Q a w F φ h hR
    simp only [vc] at h
    split at h
    case h_2 => exact h.elim
    have core : ∀ I : Inv, ((∃ i, I.ok i ∧ st.le (I.S i)) ∧ ∀ i, I.ok i → vc V c (I.S i) (fun e st' => match e with | .normal => ∃ j, I.ok j ∧ I.μ j < I.μ i ∧ st'.le (I.S j) | e => Q e st')) →
        (Code.loop c).wp V.C.P (Fits V.C W0 F0 Q) a w := by
      intro I h
      obtain ⟨⟨i0, hok, hle⟩, hround⟩ := h
      obtain ⟨φ0, hR0⟩ := hR.weaken hle
      refine wp_loop_ghost (fun n a w => ∃ i F φ, I.ok i ∧ I.μ i = n ∧ Rel V.C W0 F0 (I.S i) a w F φ) (I.μ i0) ⟨i0, F, φ0, hok, rfl, hR0⟩ ?_
      rintro n a' w' ⟨i, F', φ', hoki, rfl, hR'⟩
      refine wp_mono (ih _ _ _ _ _ _ (hround i hoki) hR') ?_
      rintro e a2 w2 ⟨st2, F2, φ2, hR2, hq⟩
      cases e with
      | normal =>
        obtain ⟨j, hj1, hj2, hj3⟩ := hq
        obtain ⟨φ3, hR3⟩ := hR2.weaken hj3
        exact ⟨I.μ j, hj2, j, F2, φ3, hj1, rfl, hR3⟩
      | _ => exact ⟨st2, F2, φ2, hR2, hq⟩
    split at h
    · exact core _ h
    · split at h
      · obtain ⟨p, h⟩ := h
        exact core _ h
      · split at h
        case h_2 => exact h.elim
        rename_i I _
        obtain ⟨h1, hround⟩ := h
        have rounds : ∀ n i a w F φ, I.μ i < n → I.ok i → Rel V.C W0 F0 (I.S i) a w F φ → Code.rounds V.C.P c (Fits V.C W0 F0 Q) n a w := by
          intro n
          induction n with
          | zero => intro i a w F φ h; omega
          | succ n ihn =>
            intro i a' w' F' φ' hlt hoki hR'
            refine wp_mono (ih _ _ _ _ _ _ (hround i hoki) hR') ?_
            rintro e a2 w2 ⟨st2, F2, φ2, hR2, hq⟩
            cases e with
            | normal =>
              obtain ⟨j, hj1, hj2, hj3⟩ := hq
              obtain ⟨φ3, hR3⟩ := hR2.weaken hj3
              exact ihn j a2 w2 F2 φ3 (by omega) hj1 hR3
            | _ => exact ⟨st2, F2, φ2, hR2, hq⟩
        refine wp_loop_peel (wp_mono (ih _ _ _ _ _ _ h1 hR) ?_)
        rintro e a2 w2 ⟨st2, F2, φ2, hR2, hq⟩
        cases e with
        | normal =>
          obtain ⟨j, hj1, hj3⟩ := hq
          obtain ⟨φ3, hR3⟩ := hR2.weaken hj3
          exact ⟨_, rounds (I.μ j + 1) j a2 w2 F2 φ3 (by omega) hj1 hR3⟩
        | _ => exact ⟨st2, F2, φ2, hR2, hq⟩
  | exit id => intro st Q a w F φ h hR; exact wp_exit ⟨st, F, φ, hR, h⟩
  | ret => intro st Q a w F φ h hR; exact wp_ret ⟨st, F, φ, hR, h⟩
  | rangeFunc => intro st Q a w F φ h hR; simp only [vc] at h
  | scope c ih =>
    intro st Q a w F φ h hR
    refine wp_scope_straight (wp_mono (ih _ _ _ _ _ _ h hR) ?_)
    rintro e a' w' ⟨st', F', φ', hR', hq⟩
    cases e with
    | goto => exact hq
    | _ => exact ⟨st', F', φ', hR', hq⟩
  | label l => intro st Q a w F φ h hR; exact wp_label ⟨st, F, φ, hR, h⟩
  | goto => intro st Q a w F φ h hR; simp only [vc] at h
  | refuse => intro st Q a w F φ h hR; simp only [vc] at h
end
end Go.AV
