/- What is owed for a piece of code, as a plain statement; and that it suffices. -/
import Derived.Test.YtihfplgdpbcieaaAvC
import Derived.Deep.LoopGhost
import Derived.LoopN
import Derived.Defers
import Derived.OpenShut
import Derived.ChangeArms
import Derived.DataReads
import Derived.Carry
import Derived.SizedLaws
import Derived.Below
import Derived.ChangeSame
import Derived.WideShapes
import Derived.Handed
namespace Go.AV
open Go.RowKit

/-- A loop's states: one for each index, with a number that every round lowers. -/
structure Inv where
  ι : Type
  S : ι → St
  μ : ι → Nat
  ok : ι → Prop

/-- The same for a loop within a loop: one for each choice made where it is entered. -/
structure InvP where
  π : Type
  I : π → Inv

/- What one fact says at least as much as another. -/
mutual
def AV.le (h h' : List (Nat × BoxC)) : AV → AV → Prop
  | .int k n, .int k' n' => k = k' ∧ n = n'
  | .bool b, .bool b' => b = b'
  | .str l, .str l' => l = l'
  | .nils, .own b n => n = 0 ∧ (get h b).isNone = true ∧ (get h' b).isSome = true
  | .nils, .seq _ n _ => n = 0
  | .nils, .nseq _ _ n _ => n = 0
  | .nseq N sh n f, .nseq N' sh' n' f' => N = N' ∧ sh = sh' ∧ n = n' ∧ ∀ i, i < n → f i = f' i
  | .seq sh n f, .seq sh' n' f' => sh = sh' ∧ n = n' ∧ ∀ i, i < n → f i = f' i
  | .seqc sh n f, .seq sh' n' f' => sh = sh' ∧ n = n' ∧ ∀ i, i < n → f i = f' i
  | .own b n, .own b' n' => b = b' ∧ n = n'
  | .agg l, .agg m => AV.les h h' l m
  | .arr n f, .arr n' f' => n = n' ∧ ∀ i, f i = f' i
  | .mc sh x, .mc sh' y => sh = sh' ∧ AV.le h h' x y
  | .tup l, .tup m => AV.les h h' l m
  | x, .any => x.isOne = true
  | x, y => x = y
def AV.les (h h' : List (Nat × BoxC)) : List AV → List AV → Prop
  | [], [] => True
  | x :: l, y :: m => AV.le h h' x y ∧ AV.les h h' l m
  | _, _ => False
end

def BoxC.le (h h' : List (Nat × BoxC)) : BoxC → BoxC → Prop
  | .row t sh n f, .row t' sh' n' f' => t = t' ∧ sh = sh' ∧ n = n' ∧ ∀ i, i < n → f i = f' i
  | .cell tc sh x, .cell tc' sh' y => tc = tc' ∧ sh = sh' ∧ AV.le h h' x y
  | _, _ => False

def leEnv (st st' : St) : List (Nat × AV) → Prop
  | [] => True
  | (s, y) :: m => (match get st.env s with | some x => AV.le st.heap st'.heap x y | none => False) ∧ leEnv st st' m

def leHeap (st st' : St) : List (Nat × BoxC) → Prop
  | [] => True
  | (b, d) :: m => (match get st.heap b with
    | some c => BoxC.le st.heap st'.heap c d
    | none => match d with | .row _ _ n _ => n = 0 ∧ freshBox st b = true | _ => False) ∧ leHeap st st' m

def St.le (st st' : St) : Prop := leEnv st st' st'.env ∧ leHeap st st' st'.heap

def conj : List Prop → Prop → Prop
  | [], Q => Q
  | p :: l, Q => p ∧ conj l Q

theorem conj_spec : ∀ {l : List Prop} {Q : Prop}, conj l Q → (∀ p ∈ l, p) ∧ Q
  | [], _, h => ⟨fun p hp => by simp at hp, h⟩
  | x :: l, Q, h => by
    obtain ⟨h1, h2⟩ := conj_spec h.2
    exact ⟨fun p hp => by rcases List.mem_cons.1 hp with rfl | hp; exact h.1; exact h1 p hp, h2⟩

def firstRegion : Code → Option Nat
  | .region id _ _ => some id
  | .seq x y => match firstRegion x with | some i => some i | none => firstRegion y
  | .cond _ x y => match firstRegion x with | some i => some i | none => firstRegion y
  | .block _ c | .loop c | .scope c => firstRegion c
  | _ => none

structure VCtx where
  C : Cfg
  CC : FuncId → List AV → AV → Prop
  orc : Nat → Nat → FuncId → List AV → Option AV
  inv : Nat → Option Inv
  invP : Nat → Option InvP := fun _ => none
  /-- the first round is walked from where the loop is entered -/
  peel : Nat → Option Inv := fun _ => none

def vc (V : VCtx) : Code → St → (Exit → St → Prop) → Prop
  | .skip, st, Q => Q .normal st
  | .region id ops draw, st, Q => match draw with
    | false => match hasPan V.C ops.toList with
      | true => panOps V.C V.CC (V.orc id) ops.toList ops.toList 0 st Q
      | false => match absOpsF V.C V.CC (V.orc id) ops.toList ops.toList 0 st with
        | some (st', ps) => conj ps (Q .normal st')
        | none => panOps V.C V.CC (V.orc id) ops.toList ops.toList 0 st Q
    | true => match absOps V.C V.CC (V.orc id) ops.toList ops.toList 0 st with
      | some (st', ps) => match orderOK V.C V.CC (V.orc id) ops.toList st with
        | true => conj ps (Q .normal st')
        | false => False
      | none => False
  | .seq x y, st, Q => vc V x st (fun e st' => match e with | .normal => vc V y st' Q | e => Q e st')
  | .cond c x y, st, Q => match ev V.C st c with
    | some (.bool p) => (p = true → vc V x st Q) ∧ (p = false → vc V y st Q)
    | _ => False
  | .block id c, st, Q => vc V c st (fun e st' => match e with
    | .exit i => match Nat.beq i id with | true => Q .normal st' | false => Q (.exit i) st'
    | e => Q e st')
  | .loop c, st, Q => match firstRegion c with
    | some k => match V.inv k with
      | some I => (∃ i, I.ok i ∧ st.le (I.S i)) ∧ ∀ i, I.ok i → vc V c (I.S i) (fun e st' => match e with
        | .normal => ∃ j, I.ok j ∧ I.μ j < I.μ i ∧ st'.le (I.S j)
        | e => Q e st')
      | none => match V.invP k with
        | some J => ∃ p, (∃ i, (J.I p).ok i ∧ st.le ((J.I p).S i)) ∧ ∀ i, (J.I p).ok i → vc V c ((J.I p).S i) (fun e st' => match e with
          | .normal => ∃ j, (J.I p).ok j ∧ (J.I p).μ j < (J.I p).μ i ∧ st'.le ((J.I p).S j)
          | e => Q e st')
        | none => match V.peel k with
          | some I => vc V c st (fun e st' => match e with
            | .normal => ∃ j, I.ok j ∧ st'.le (I.S j)
            | e => Q e st') ∧ ∀ i, I.ok i → vc V c (I.S i) (fun e st' => match e with
            | .normal => ∃ j, I.ok j ∧ I.μ j < I.μ i ∧ st'.le (I.S j)
            | e => Q e st')
          | none => False
    | none => False
  | .exit id, st, Q => Q (.exit id) st
  | .ret, st, Q => Q .ret st
  | .scope c, st, Q => vc V c st (fun e st' => match e with | .goto _ => False | e => Q e st')
  | .label _, st, Q => Q .normal st
  | _, _, _ => False

/-- What a function hands back. -/
def resAV (C : Cfg) (st : St) : List ResultVar → Option (List AV)
  | [] => some []
  | .tmp t :: l => match get st.env t, resAV C st l with
    | some x, some m => some (x :: m)
    | _, _ => none
  | .cell s t :: l => match get st.env s, tyOf C t, resAV C st l with
    | some (.ptr b p), some te, some m => match get st.heap b with
      | some (.cell tc sh x) => match pathSh p sh, nav p sh x with
        | some s', some y => match s'.same te.sh with
          | true => match wrapV te.sh y with
            | some z => some (z :: m)
            | none => none
          | false => none
        | _, _ => none
      | _ => none
    | _, _, _ => none

def tupOf : List AV → AV
  | [x] => x
  | l => .tup l

def retOf (C : Cfg) (st : St) (rs : List ResultVar) : Option (AV × List Prop) :=
  match resAV C st rs with
  | some l => match frzs st.heap l with
    | some (m, ps) => match AV.areStat m with
      | true => some (tupOf m, ps)
      | false => none
    | none => none
  | none => none

def argEnv : Nat → List AV → List (Nat × AV)
  | _, [] => []
  | i, x :: l => (i, x) :: argEnv (i + 1) l

def fnPost (V : VCtx) (fn : Func) (r : AV) (e : Exit) (st : St) : Prop :=
  match e with
  | .ret | .normal => match retOf V.C st fn.results.toList with
    | some (x, ps) => conj ps (AV.le [] [] x r)
    | none => False
  | _ => False

def fnVc (V : VCtx) (fn : Func) (args : List AV) (r : AV) : Prop :=
  match fn.body with
  | some c => vc V c ⟨argEnv 0 args, []⟩ (fnPost V fn r)
  | none => False

section
variable {V : VCtx} {W0 : Entry} {F0 : Nat → Prop} {st st' : St} {a : Act} {w : World} {F : Nat → Prop} {φ : Nat → Place}

/-- What the places are where nil rows are laid. -/
def nilPlace (st st' : St) (φ : Nat → Place) (b : Nat) : Place :=
  match get st.heap b, get st'.heap b with
  | none, some (.row t sh _ _) => ⟨none, 0, sh, t⟩
  | _, _ => φ b

theorem AV.le_one {h h' : List (Nat × BoxC)} {x y : AV} (hl : AV.le h h' x y) : (x.isOne = true → y.isOne = true) := by
  intro hx
  cases x <;> cases y <;> simp_all [AV.le, AV.isOne]

def Both (w : World) (F : Nat → Prop) (φ φ' : Nat → Place) (x y : AV) : Prop :=
  (∀ v, Rep w F φ v x → Rep w F φ' v y) ∧ ∀ sh j v, Rep w F φ v (leafAt sh x j) → Rep w F φ' v (leafAt sh y j)

theorem both_one {φ' : Nat → Place} {x y : AV} (hx : x.isOne = true) (hy : y.isOne = true) (h : ∀ v, Rep w F φ v x → Rep w F φ' v y) : Both w F φ φ' x y := by
  refine ⟨h, fun sh j v hv => ?_⟩
  cases sh with
  | leaf => simp only [leafAt, asLeaf, hx, hy] at hv ⊢; exact h v hv
  | agg ss =>
    have hb : v.oneCell' = true := hv.leaf1
    cases y <;> simp only [leafAt] <;> first | exact .stat (.any _ hb) | simp [AV.isOne] at hy
  | arr n s =>
    have hb : v.oneCell' = true := hv.leaf1
    cases y <;> simp only [leafAt] <;> first | exact .stat (.any _ hb) | simp [AV.isOne] at hy

theorem both_any {φ' : Nat → Place} {x : AV} (hx : x.isOne = true) : Both w F φ φ' x .any := both_one hx rfl fun _ hv => .stat (.any _ (hv.one hx))

theorem both_keep {φ' : Nat → Place} {x : AV} (hφ : ∀ b, x.names b = true → φ' b = φ b) : Both w F φ φ' x x :=
  ⟨fun _ hv => hv.keep (fun _ _ => rfl) (fun _ hk => hk) hφ, fun sh j _ hv => hv.keep (fun _ _ => rfl) (fun _ hk => hk) fun b hb => hφ b (names_leafAt sh x j hb)⟩

theorem nilPlace_nil {b : Nat} (h : (get st.heap b).isNone = true) (h' : (get st'.heap b).isSome = true) (hr : ∀ c, get st'.heap b = some c → get st.heap b = none → ∃ t sh n f, c = .row t sh n f) : (nilPlace st st' φ b).blk = none := by
  unfold nilPlace
  cases h1 : get st.heap b with
  | some c => rw [h1] at h; cases h
  | none =>
    cases h2 : get st'.heap b with
    | none => rw [h2] at h'; cases h'
    | some c =>
      obtain ⟨t, sh, n, f, rfl⟩ := hr c h2 h1
      rfl

mutual
theorem le_rep (hr : ∀ b c, get st'.heap b = some c → get st.heap b = none → ∃ t sh n f, c = .row t sh n f) : ∀ (x y : AV), (∀ b, x.names b = true → nilPlace st st' φ b = φ b) → AV.le st.heap st'.heap x y → Both w F φ (nilPlace st st' φ) x y
  | .agg l, y, hφ, hl => by
    cases y <;> simp only [AV.le] at hl
    case any => simp [AV.isOne] at hl
    case agg m =>
      refine ⟨fun v hv => (by cases hv with | stat hv => (cases hv)), fun sh j v hv => ?_⟩
      cases sh with
      | leaf => simp only [leafAt, asLeaf, AV.isOne] at hv ⊢; exact .stat (.any _ (hv.one rfl))
      | agg ss => simp only [leafAt] at hv ⊢; exact les_rep hr l m (fun b hb => hφ b (by simpa [AV.names] using hb)) hl ss j v hv
      | arr n s => simp only [leafAt] at hv ⊢; exact .stat (.any _ (hv.one rfl))
    all_goals cases hl
  | .mc sh x, y, hφ, hl => by
    cases y <;> simp only [AV.le] at hl
    case any => simp [AV.isOne] at hl
    case mc sh' y' =>
      obtain ⟨rfl, hl⟩ := hl
      have hb := le_rep hr x y' (fun b hb => hφ b (by simpa [AV.names] using hb)) hl
      refine ⟨fun v hv => ?_, fun s j v hv => ?_⟩
      · obtain ⟨cs, rfl, hs, hc⟩ := hv.mc_inv
        exact .mc cs sh y' hs fun j hj => hb.2 sh j _ (hc j hj)
      · cases s with
        | leaf => simp only [leafAt, asLeaf, AV.isOne] at hv ⊢; exact .stat (.any _ (hv.one rfl))
        | agg ss => simp only [leafAt] at hv ⊢; exact .stat (.any _ (hv.one rfl))
        | arr n s => simp only [leafAt] at hv ⊢; exact .stat (.any _ (hv.one rfl))
    all_goals cases hl
  | .tup l, y, hφ, hl => by
    cases y <;> simp only [AV.le] at hl
    case any => simp [AV.isOne] at hl
    case tup m =>
      refine ⟨fun v hv => ?_, fun s j v hv => ?_⟩
      · have hv' : ∃ vs : Array Value, v = .tuple vs ∧ vs.size = l.length ∧ ∀ j, j < l.length → Rep w F φ (vs.getD j undef) (l.getD j .any) := by
          cases hv with
          | stat hv => cases hv
          | tup vs _ h1 h2 => exact ⟨vs, rfl, h1, h2⟩
        obtain ⟨vs, rfl, h1, h2⟩ := hv'
        obtain ⟨h3, h4⟩ := les_each hr l m (fun b hb => hφ b (by simpa [AV.names] using hb)) hl
        exact .tup vs m (by omega) fun j hj => h4 j (by omega) _ (h2 j (by omega))
      · cases s with
        | leaf => simp only [leafAt, asLeaf, AV.isOne] at hv ⊢; exact .stat (.any _ (hv.one rfl))
        | agg ss => simp only [leafAt] at hv ⊢; exact .stat (.any _ (hv.one rfl))
        | arr n s => simp only [leafAt] at hv ⊢; exact .stat (.any _ (hv.one rfl))
    all_goals cases hl
  | .nils, y, hφ, hl => by
    cases y <;> simp only [AV.le] at hl
    case any => exact both_any rfl
    case nils => exact both_keep hφ
    case seq sh n f =>
      subst hl
      refine both_one rfl rfl fun v hv => ?_
      cases hv with | stat hv => cases hv; exact .stat (.seq0 _ _ _ _)
    case nseq N sh n f =>
      subst hl
      refine both_one rfl rfl fun v hv => ?_
      cases hv with | stat hv => cases hv; exact .stat (.nseq0 _ _ _ _ _)
    case own b n =>
      obtain ⟨rfl, h1, h2⟩ := hl
      refine both_one rfl rfl fun v hv => ?_
      cases hv with | stat hv => cases hv; exact .own0 b (nilPlace_nil h1 h2 (hr b))
    all_goals cases hl
  | .seq sh n f, y, hφ, hl => by
    cases y <;> simp only [AV.le] at hl
    case any => exact both_any rfl
    case seq sh' n' f' =>
      obtain ⟨rfl, rfl, hf⟩ := hl
      refine both_one rfl rfl fun v hv => ?_
      cases hv with
      | stat hv =>
        cases hv with
        | seq0 => exact .stat (.seq0 _ _ _ _)
        | seq g o n cap sh f cs h1 h2 h3 h4 => exact .stat (.seq g o n cap sh f' cs h1 h2 h3 fun i hi j hj => by rw [← hf i hi]; exact h4 i hi j hj)
    all_goals cases hl
  | .seqc sh n f, y, hφ, hl => by
    cases y <;> simp only [AV.le] at hl
    case any => exact both_any rfl
    case seqc sh' n' f' => cases hl; exact both_keep hφ
    case seq sh' n' f' =>
      obtain ⟨rfl, rfl, hf⟩ := hl
      refine both_one rfl rfl fun v hv => ?_
      cases hv with
      | stat hv =>
        cases hv with
        | seqc0 => exact .stat (.seq0 _ _ _ _)
        | seqc g o n sh f cs h1 h3 h4 => exact .stat (.seq g o n n sh f' cs h1 (Nat.le_refl _) h3 fun i hi j hj => by rw [← hf i hi]; exact h4 i hi j hj)
    all_goals cases hl
  | .arr n f, y, hφ, hl => by
    cases y <;> simp only [AV.le] at hl
    case any => simp [AV.isOne] at hl
    case arr n' f' =>
      obtain ⟨rfl, hf⟩ := hl
      have : f = f' := funext hf
      subst this
      exact both_keep hφ
    all_goals cases hl
  | .int k n, y, hφ, hl => by
    cases y <;> simp only [AV.le] at hl
    case any => exact both_any rfl
    case int => obtain ⟨rfl, rfl⟩ := hl; exact both_keep hφ
    all_goals cases hl
  | .bool b, y, hφ, hl => by
    cases y <;> simp only [AV.le] at hl
    case any => exact both_any rfl
    case bool => subst hl; exact both_keep hφ
    all_goals cases hl
  | .str b, y, hφ, hl => by
    cases y <;> simp only [AV.le] at hl
    case any => exact both_any rfl
    case str => subst hl; exact both_keep hφ
    all_goals cases hl
  | .own b n, y, hφ, hl => by
    cases y <;> simp only [AV.le] at hl
    case any => exact both_any rfl
    case own => obtain ⟨rfl, rfl⟩ := hl; exact both_keep hφ
    all_goals cases hl
  | .any, y, hφ, hl => by
    cases y <;> simp only [AV.le] at hl
    case any => exact both_any rfl
    all_goals cases hl
  | .nilp, y, hφ, hl => by
    cases y <;> simp only [AV.le] at hl
    case any => exact both_any rfl
    case nilp => exact both_keep hφ
    all_goals cases hl
  | .nseq N sh n f, y, hφ, hl => by
    cases y <;> simp only [AV.le] at hl
    case any => exact both_any rfl
    case nseq N' sh' n' f' =>
      obtain ⟨rfl, rfl, rfl, hf⟩ := hl
      refine both_one rfl rfl fun v hv => ?_
      cases hv with
      | stat hv =>
        cases hv with
        | nseq0 => exact .stat (.nseq0 _ _ _ _ _)
        | nseq _ g o n cap sh f cs h1 hN hb h2 h3 h4 => exact .stat (.nseq _ g o n cap sh f' cs h1 hN hb h2 h3 fun i hi j hj => by rw [← hf i hi]; exact h4 i hi j hj)
    all_goals cases hl
  | .cov _, y, hφ, hl => by
    cases y <;> simp only [AV.le] at hl
    case any => exact both_any rfl
    case cov => cases hl; exact both_keep hφ
    all_goals cases hl
  | .rptr s x, y, hφ, hl => by
    cases y <;> simp only [AV.le] at hl
    case any => exact both_any rfl
    case rptr => cases hl; exact both_keep hφ
    all_goals cases hl
  | .ptr b p, y, hφ, hl => by
    cases y <;> simp only [AV.le] at hl
    case any => exact both_any rfl
    case ptr => cases hl; exact both_keep hφ
    all_goals cases hl
  | .optr b i p, y, hφ, hl => by
    cases y <;> simp only [AV.le] at hl
    case any => exact both_any rfl
    case optr => cases hl; exact both_keep hφ
    all_goals cases hl
  | .clo f l, y, hφ, hl => by
    cases y <;> simp only [AV.le] at hl
    case any => exact both_any rfl
    case clo => cases hl; exact both_keep hφ
    all_goals cases hl
  | .st x, y, hφ, hl => by
    cases y <;> simp only [AV.le] at hl
    case any => simp [AV.isOne] at hl
    case st => cases hl; exact both_keep hφ
    all_goals cases hl
  | .when q x, y, hφ, hl => by
    cases y <;> simp only [AV.le] at hl
    case any => simp [AV.isOne] at hl
    case when => cases hl; exact both_keep hφ
    all_goals cases hl
theorem les_rep (hr : ∀ b c, get st'.heap b = some c → get st.heap b = none → ∃ t sh n f, c = .row t sh n f) : ∀ (l m : List AV), (∀ b, AV.namesL b l = true → nilPlace st st' φ b = φ b) → AV.les st.heap st'.heap l m → ∀ ss j v, Rep w F φ v (leafsAt ss l j) → Rep w F (nilPlace st st' φ) v (leafsAt ss m j)
  | [], m, hφ, hl, ss, j, v, hv => by
    cases m with
    | nil => cases ss <;> simp only [leafsAt] at hv ⊢ <;> exact .stat (.any _ (hv.one rfl))
    | cons y m => simp [AV.les] at hl
  | x :: l, m, hφ, hl, ss, j, v, hv => by
    cases m with
    | nil => simp [AV.les] at hl
    | cons y m =>
      simp only [AV.les] at hl
      cases ss with
      | nil => simp only [leafsAt] at hv ⊢; exact .stat (.any _ (hv.one rfl))
      | cons s ss =>
        simp only [leafsAt] at hv ⊢
        split
        · rename_i hj; rw [if_pos hj] at hv; exact (le_rep hr x y (fun b hb => hφ b (by simp [AV.namesL, hb])) hl.1).2 s j v hv
        · rename_i hj; rw [if_neg hj] at hv; exact les_rep hr l m (fun b hb => hφ b (by simp [AV.namesL, hb])) hl.2 ss _ v hv
theorem les_each (hr : ∀ b c, get st'.heap b = some c → get st.heap b = none → ∃ t sh n f, c = .row t sh n f) : ∀ (l m : List AV), (∀ b, AV.namesL b l = true → nilPlace st st' φ b = φ b) → AV.les st.heap st'.heap l m → l.length = m.length ∧ ∀ j, j < l.length → ∀ v, Rep w F φ v (l.getD j .any) → Rep w F (nilPlace st st' φ) v (m.getD j .any)
  | [], m, hφ, hl => by
    cases m with
    | nil => exact ⟨rfl, fun j hj => by simp at hj⟩
    | cons y m => simp [AV.les] at hl
  | x :: l, m, hφ, hl => by
    cases m with
    | nil => simp [AV.les] at hl
    | cons y m =>
      simp only [AV.les] at hl
      obtain ⟨h1, h2⟩ := les_each hr l m (fun b hb => hφ b (by simp [AV.namesL, hb])) hl.2
      refine ⟨by simp [h1], fun j hj v hv => ?_⟩
      cases j with
      | zero => simpa using (le_rep hr x y (fun b hb => hφ b (by simp [AV.namesL, hb])) hl.1).1 v (by simpa using hv)
      | succ j => simpa using h2 j (by simpa using hj) v (by simpa using hv)
end

theorem leEnv_get {st st' : St} : ∀ {m : List (Nat × AV)} {s : Nat} {y : AV}, leEnv st st' m → get m s = some y → ∃ x, get st.env s = some x ∧ AV.le st.heap st'.heap x y
  | [], _, _, _, h => by simp [get] at h
  | (k, v) :: m, s, y, hl, h => by
    simp only [leEnv] at hl
    simp only [get] at h
    split at h
    · rename_i hk
      cases h
      obtain ⟨h1, _⟩ := hl
      rw [← Nat.eq_of_beq_eq_true hk]
      split at h1
      · rename_i x hx; exact ⟨x, hx, h1⟩
      · exact h1.elim
    · exact leEnv_get hl.2 h

theorem leHeap_get {st st' : St} : ∀ {m : List (Nat × BoxC)} {b : Nat} {d : BoxC}, leHeap st st' m → get m b = some d → (∃ c, get st.heap b = some c ∧ BoxC.le st.heap st'.heap c d) ∨ (get st.heap b = none ∧ freshBox st b = true ∧ ∃ t sh f, d = .row t sh 0 f)
  | [], _, _, _, h => by simp [get] at h
  | (k, v) :: m, b, d, hl, h => by
    simp only [leHeap] at hl
    simp only [get] at h
    split at h
    · rename_i hk
      cases h
      obtain ⟨h1, _⟩ := hl
      rw [← Nat.eq_of_beq_eq_true hk]
      split at h1
      · rename_i c hc; exact .inl ⟨c, hc, h1⟩
      · rename_i hc
        split at h1
        · rename_i t sh n f
          obtain ⟨rfl, h2⟩ := h1
          exact .inr ⟨hc, h2, t, sh, f, rfl⟩
        · exact h1.elim
    · exact leHeap_get hl.2 h

/-- Facts that say less. -/
theorem Rel.weaken {C : Cfg} (h : Rel C W0 F0 st a w F φ) (hl : st.le st') : ∃ φ', Rel C W0 F0 st' a w F φ' := by
  obtain ⟨he, hh⟩ := hl
  have hr : ∀ b c, get st'.heap b = some c → get st.heap b = none → ∃ t sh n f, c = .row t sh n f := by
    intro b c h1 h2
    rcases leHeap_get hh h1 with ⟨c', h3, _⟩ | ⟨_, _, t, sh, f, rfl⟩
    · rw [h2] at h3; cases h3
    · exact ⟨t, sh, 0, f, rfl⟩
  have new : ∀ b, nilPlace st st' φ b ≠ φ b → freshBox st b = true := by
    intro b hb
    unfold nilPlace at hb
    split at hb
    · rename_i h1 h2
      rcases leHeap_get hh h2 with ⟨c', h3, _⟩ | ⟨_, h4, _⟩
      · rw [h1] at h3; cases h3
      · exact h4
    · exact absurd rfl hb
  have namesE : ∀ s x, get st.env s = some x → ∀ b, x.names b = true → nilPlace st st' φ b = φ b := by
    intro s x hs b hb
    refine Classical.byContradiction fun hne => ?_
    have := new b hne
    simp only [freshBox, Bool.not_eq_true', Bool.or_eq_false_iff] at this
    rw [namesEnv_get hs this.1] at hb; cases hb
  have namesH : ∀ s c, get st.heap s = some c → (∀ b, c.names b = true → nilPlace st st' φ b = φ b) ∧ nilPlace st st' φ s = φ s := by
    intro s c hs
    refine ⟨fun b hb => Classical.byContradiction fun hne => ?_, by unfold nilPlace; rw [hs]⟩
    have := new b hne
    simp only [freshBox, Bool.not_eq_true', Bool.or_eq_false_iff] at this
    rw [(namesHeap_get hs this.2.1).1] at hb; cases hb
  refine ⟨nilPlace st st' φ, fun s y hs => ?_, fun b d hd => ?_, ?_, h.ro, h.base, h.sub, h.new, h.dfr, h.tsz, h.glob, fun b p hp => ?_⟩
  · obtain ⟨x, hx, hxy⟩ := leEnv_get he hs
    obtain ⟨v, hv, hrep⟩ := h.env s x hx
    exact ⟨v, hv, (le_rep hr x y (namesE s x hx) hxy).1 v hrep⟩
  · rcases leHeap_get hh hd with ⟨c, hc, hcd⟩ | ⟨h1, h2, t, sh, f, rfl⟩
    · obtain ⟨n1, n2⟩ := namesH b c hc
      have hb := h.heap b c hc
      cases c with
      | cell tc sh x =>
        cases d with
        | cell tc' sh' y =>
          obtain ⟨rfl, rfl, hxy⟩ := hcd
          obtain ⟨h0, g, cs, h1, h2, h3, h4, h5, h6⟩ := hb
          refine ⟨by rw [n2]; exact h0, g, cs, by rw [n2]; exact h1, h2, h3, h4, h5, fun j hj => ?_⟩
          exact (le_rep hr x y (fun b hb => n1 b (by simpa [BoxC.names] using hb)) hxy).2 sh j _ (h6 j hj)
        | row => cases hcd
      | row t sh n f =>
        cases d with
        | cell => cases hcd
        | row t' sh' n' f' =>
          obtain ⟨rfl, rfl, rfl, hf⟩ := hcd
          obtain ⟨h0, h0', hrow⟩ := hb
          refine ⟨by rw [n2]; exact h0, by rw [n2]; exact h0', ?_⟩
          rw [n2]
          rcases hrow with h1 | ⟨g, cs, h1, h2, h3, h4, h5, h6, h7, h8⟩
          · exact .inl h1
          · exact .inr ⟨g, cs, h1, h2, h3, h4, h5, h6, h7, fun i hi j hj => by rw [← hf i hi]; exact h8 i hi j hj⟩
    · have : nilPlace st st' φ b = ⟨none, 0, sh, t⟩ := by unfold nilPlace; rw [h1, hd]
      exact ⟨by rw [this], by rw [this], .inl ⟨by rw [this], rfl⟩⟩
  · intro b b' d d' g h1 h2 h3 h4
    have old : ∀ b d, get st'.heap b = some d → (nilPlace st st' φ b).blk = some g → ∃ c, get st.heap b = some c ∧ (φ b).blk = some g := by
      intro b d hd hg
      rcases leHeap_get hh hd with ⟨c, hc, _⟩ | ⟨k1, _, t, sh, f, rfl⟩
      · rw [(namesH b c hc).2] at hg; exact ⟨c, hc, hg⟩
      · unfold nilPlace at hg; rw [k1, hd] at hg; cases hg
    obtain ⟨c, k1, k2⟩ := old b d h1 h3
    obtain ⟨c', k3, k4⟩ := old b' d' h2 h4
    exact h.inj b b' c c' g k1 k3 k2 k4
  · obtain ⟨a1, a2, a3⟩ := h.anc b p hp
    refine ⟨a1, ?_, fun d hd => ?_⟩
    · refine Eq.trans (Classical.byContradiction fun hne => ?_) a2
      have := new b hne
      simp only [freshBox, Bool.not_eq_true', Bool.or_eq_false_iff] at this
      have h3 := this.2.2
      rw [Bool.not_eq_false'] at h3
      have h4 : b < 1099511627776 := Nat.le_of_ble_eq_true h3
      omega
    · rcases leHeap_get hh hd with ⟨c, hc, hcd⟩ | ⟨_, h2, _⟩
      · have := a3 c hc
        cases c with
        | row => cases this
        | cell => cases d with
          | cell => rfl
          | row => cases hcd
      · simp only [freshBox, Bool.not_eq_true', Bool.or_eq_false_iff] at h2
        have h3 := h2.2.2
        rw [Bool.not_eq_false'] at h3
        have h4 : b < 1099511627776 := Nat.le_of_ble_eq_true h3
        omega

/-- A loop's first round, and the rounds behind it. -/
theorem wp_loop_peel {P : Program} {c : Code} {Q : Exit → Act → World → Prop} {a : Act} {w : World} (h : c.wp P (Exit.then (fun a w => ∃ n, Code.rounds P c Q n a w) Q) a w) : (Code.loop c).wp P Q a w := by
  intro b k cs
  have key : ∀ n a w, Code.rounds P c Q n a w →
      ∃ e a' w', Q e a' w' ∧ Arrives P (lone (b.at a (.code c :: .inLoop c :: k)) cs w) b k cs e a' w' := by
    intro n
    induction n with
    | zero => intro a w h; exact h.elim
    | succ n ih =>
      intro a w h
      obtain ⟨e, a₁, w₁, hq, harr⟩ := h b (.inLoop c :: k) cs
      cases e with
      | normal =>
        obtain ⟨e₂, a₂, w₂, hq₂, harr₂⟩ := ih a₁ w₁ hq
        exact ⟨e₂, a₂, w₂, hq₂, .of_steps (Steps.trans harr (.one step_inLoop)) harr₂⟩
      | exit id => exact ⟨_, a₁, w₁, hq, .pass (x := .inLoop c) rfl (fun _ _ => .inl (by simp)) harr⟩
      | goto l => exact ⟨_, a₁, w₁, hq, .pass (x := .inLoop c) rfl (fun _ _ => .inl (by simp)) harr⟩
      | ret => exact ⟨_, a₁, w₁, hq, .pass (x := .inLoop c) rfl (fun _ _ => .inl (by simp)) harr⟩
      | panic ch => exact ⟨_, a₁, w₁, hq, .pass (x := .inLoop c) rfl (fun _ _ => .inl (by simp)) harr⟩
      | outgrown => exact ⟨_, a₁, w₁, hq, .pass (x := .inLoop c) rfl (fun _ _ => .inl (by simp)) harr⟩
  obtain ⟨e, a₁, w₁, hq, harr⟩ := h b (.inLoop c :: k) cs
  cases e with
  | normal =>
    obtain ⟨n, hn⟩ := hq
    obtain ⟨e₂, a₂, w₂, hq₂, harr₂⟩ := key n a₁ w₁ hn
    exact ⟨e₂, a₂, w₂, hq₂, .of_steps (.one step_loop) (.of_steps (Steps.trans harr (.one step_inLoop)) harr₂)⟩
  | exit id => exact ⟨_, a₁, w₁, hq, .of_steps (.one step_loop) (.pass (x := .inLoop c) rfl (fun _ _ => .inl (by simp)) harr)⟩
  | goto l => exact ⟨_, a₁, w₁, hq, .of_steps (.one step_loop) (.pass (x := .inLoop c) rfl (fun _ _ => .inl (by simp)) harr)⟩
  | ret => exact ⟨_, a₁, w₁, hq, .of_steps (.one step_loop) (.pass (x := .inLoop c) rfl (fun _ _ => .inl (by simp)) harr)⟩
  | panic ch => exact ⟨_, a₁, w₁, hq, .of_steps (.one step_loop) (.pass (x := .inLoop c) rfl (fun _ _ => .inl (by simp)) harr)⟩
  | outgrown => exact ⟨_, a₁, w₁, hq, .of_steps (.one step_loop) (.pass (x := .inLoop c) rfl (fun _ _ => .inl (by simp)) harr)⟩

/-- What a piece of code leaves: a state of facts that fits. -/
def Fits (C : Cfg) (W0 : Entry) (F0 : Nat → Prop) (Q : Exit → St → Prop) (e : Exit) (a : Act) (w : World) : Prop := ∃ st F φ, Rel C W0 F0 st a w F φ ∧ Q e st

theorem vc_sound (hT : TysOK V.C) (hCC : CCOK V.C V.CC) : ∀ (c : Code) (st : St) (Q : Exit → St → Prop) (a : Act) (w : World) (F : Nat → Prop) (φ : Nat → Place), vc V c st Q → Rel V.C W0 F0 st a w F φ → c.wp V.C.P (Fits V.C W0 F0 Q) a w := by
  intro c
  induction c with
  | skip => intro st Q a w F φ h hR; exact wp_skip ⟨st, F, φ, hR, h⟩
  | region id ops draw =>
    intro st Q a w F φ h hR
    cases draw with
    | true =>
      simp only [vc] at h
      split at h
      case h_2 => exact h.elim
      rename_i st' ps hops
      split at h
      case h_2 => exact h.elim
      rename_i hd
      obtain ⟨h1, h2⟩ := conj_spec h
      exact draw_sound hT hCC hops h1 hd hR fun a' w' F' φ' hR' => ⟨st', F', φ', hR', h2⟩
    | false =>
      have pan : panOps V.C V.CC (V.orc id) ops.toList ops.toList 0 st Q → (Code.region id ops false).wp V.C.P (Fits V.C W0 F0 Q) a w := fun h => by
        refine wp_region ?_
        have := panOps_sound (Q := Fits V.C W0 F0 Q) (ops := ops) ops.toList 0 st a w F φ hT hCC (fun j => by simp) h hR fun e st' a' w' F' φ' hq hR' => ⟨st', F', φ', hR', hq⟩
        rw [Array.length_toList, ← List.range_eq_range'] at this
        exact this
      simp only [vc] at h
      split at h
      · exact pan h
      · split at h
        case h_2 => exact pan h
        rename_i st' ps hops
        obtain ⟨h1, h2⟩ := conj_spec h
        refine wp_region ?_
        have := ops_soundF (Q := Fits V.C W0 F0 Q) (ops := ops) ops.toList 0 st st' ps a w F φ hT hCC (fun j => by simp) hops h1 hR fun a' w' F' φ' hR' => ⟨st', F', φ', hR', h2⟩
        rw [Array.length_toList, ← List.range_eq_range'] at this
        exact this
  | seq x y ihx ihy =>
    intro st Q a w F φ h hR
    refine wp_seq (wp_mono (ihx _ _ _ _ _ _ h hR) ?_)
    rintro e a' w' ⟨st', F', φ', hR', hq⟩
    cases e with
    | normal => exact ihy _ _ _ _ _ _ hq hR'
    | _ => exact ⟨st', F', φ', hR', hq⟩
  | cond c x y ihx ihy =>
    intro st Q a w F φ h hR
    simp only [vc] at h
    split at h
    case h_2 => exact h.elim
    rename_i p hp
    have hb := (hR.ev hp).bool_inv
    exact wp_cond_split hb (fun hp => ihx _ _ _ _ _ _ (h.1 hp) hR) (fun hp => ihy _ _ _ _ _ _ (h.2 hp) hR)
  | block id c ih =>
    intro st Q a w F φ h hR
    refine wp_block (wp_mono (ih _ _ _ _ _ _ h hR) ?_)
    rintro e a' w' ⟨st', F', φ', hR', hq⟩
    cases e with
    | exit i =>
      simp only [Exit.inBlock]
      simp only at hq
      split at hq
      · rename_i hi
        rw [if_pos (Nat.eq_of_beq_eq_true hi)]
        exact ⟨st', F', φ', hR', hq⟩
      · rename_i hi
        rw [if_neg (fun e => by subst e; simp at hi)]
        exact ⟨st', F', φ', hR', hq⟩
    | _ => exact ⟨st', F', φ', hR', hq⟩
  | loop c ih =>
    intro st Q a w F φ h hR
    simp only [vc] at h
    split at h
    case h_2 => exact h.elim
    have core : ∀ I : Inv, ((∃ i, I.ok i ∧ st.le (I.S i)) ∧ ∀ i, I.ok i → vc V c (I.S i) (fun e st' => match e with | .normal => ∃ j, I.ok j ∧ I.μ j < I.μ i ∧ st'.le (I.S j) | e => Q e st')) →
        (Code.loop c).wp V.C.P (Fits V.C W0 F0 Q) a w := by
      intro I h
      obtain ⟨⟨i0, hok, hle⟩, hround⟩ := h
      obtain ⟨φ0, hR0⟩ := hR.weaken hle
      refine wp_loop_ghost (fun n a w => ∃ i F φ, I.ok i ∧ I.μ i = n ∧ Rel V.C W0 F0 (I.S i) a w F φ) (I.μ i0) ⟨i0, F, φ0, hok, rfl, hR0⟩ ?_
      rintro n a' w' ⟨i, F', φ', hoki, rfl, hR'⟩
      refine wp_mono (ih _ _ _ _ _ _ (hround i hoki) hR') ?_
      rintro e a2 w2 ⟨st2, F2, φ2, hR2, hq⟩
      cases e with
      | normal =>
        obtain ⟨j, hj1, hj2, hj3⟩ := hq
        obtain ⟨φ3, hR3⟩ := hR2.weaken hj3
        exact ⟨I.μ j, hj2, j, F2, φ3, hj1, rfl, hR3⟩
      | _ => exact ⟨st2, F2, φ2, hR2, hq⟩
    split at h
    · exact core _ h
    · split at h
      · obtain ⟨p, h⟩ := h
        exact core _ h
      · split at h
        case h_2 => exact h.elim
        rename_i I _
        obtain ⟨h1, hround⟩ := h
        have rounds : ∀ n i a w F φ, I.μ i < n → I.ok i → Rel V.C W0 F0 (I.S i) a w F φ → Code.rounds V.C.P c (Fits V.C W0 F0 Q) n a w := by
          intro n
          induction n with
          | zero => intro i a w F φ h; omega
          | succ n ihn =>
            intro i a' w' F' φ' hlt hoki hR'
            refine wp_mono (ih _ _ _ _ _ _ (hround i hoki) hR') ?_
            rintro e a2 w2 ⟨st2, F2, φ2, hR2, hq⟩
            cases e with
            | normal =>
              obtain ⟨j, hj1, hj2, hj3⟩ := hq
              obtain ⟨φ3, hR3⟩ := hR2.weaken hj3
              exact ihn j a2 w2 F2 φ3 (by omega) hj1 hR3
            | _ => exact ⟨st2, F2, φ2, hR2, hq⟩
        refine wp_loop_peel (wp_mono (ih _ _ _ _ _ _ h1 hR) ?_)
        rintro e a2 w2 ⟨st2, F2, φ2, hR2, hq⟩
        cases e with
        | normal =>
          obtain ⟨j, hj1, hj3⟩ := hq
          obtain ⟨φ3, hR3⟩ := hR2.weaken hj3
          exact ⟨_, rounds (I.μ j + 1) j a2 w2 F2 φ3 (by omega) hj1 hR3⟩
        | _ => exact ⟨st2, F2, φ2, hR2, hq⟩
  | exit id => intro st Q a w F φ h hR; exact wp_exit ⟨st, F, φ, hR, h⟩
  | ret => intro st Q a w F φ h hR; exact wp_ret ⟨st, F, φ, hR, h⟩
  | rangeFunc => intro st Q a w F φ h hR; simp only [vc] at h
  | scope c ih =>
    intro st Q a w F φ h hR
    refine wp_scope_straight (wp_mono (ih _ _ _ _ _ _ h hR) ?_)
    rintro e a' w' ⟨st', F', φ', hR', hq⟩
    cases e with
    | goto => exact hq
    | _ => exact ⟨st', F', φ', hR', hq⟩
  | label l => intro st Q a w F φ h hR; exact wp_label ⟨st, F, φ, hR, h⟩
  | goto => intro st Q a w F φ h hR; simp only [vc] at h
  | refuse => intro st Q a w F φ h hR; simp only [vc] at h
end
end Go.AV
/- A function's contract out of what is owed for its body. -/
namespace Go.AV
open Go.RowKit

section
variable {C : Cfg} {W0 : Entry} {F0 : Nat → Prop} {st st' : St} {a : Act} {w : World} {F : Nat → Prop} {φ : Nat → Place}

theorem resAV_run (h : Rel C W0 F0 st a w F φ) (hT : TysOK C) : ∀ (rs : List ResultVar) (l : List AV), resAV C st rs = some l →
    ∃ vs : List Value, (rs.mapM (fun | .tmp t => pure (a.tmps.getD t undef) | .cell s t => do loadVar t (← asAddr (a.tmps.getD s undef)) : ResultVar → Sem Value)).run C.P w = .ok vs w ∧ vs.length = l.length ∧ ∀ j, j < l.length → Rep w F φ (vs.getD j undef) (l.getD j .any)
  | [], l, hl => by simp [resAV] at hl; subst hl; exact ⟨[], by simp, rfl, fun j hj => by simp at hj⟩
  | .tmp t :: rs, l, hl => by
    simp only [resAV] at hl
    split at hl
    case h_2 => cases hl
    rename_i x m hx hm
    cases hl
    obtain ⟨vs, h1, h2, h3⟩ := resAV_run h hT rs m hm
    obtain ⟨v, hv, hr⟩ := h.env t x hx
    refine ⟨a.tmps.getD t undef :: vs, ?_, by simp [h2], fun j hj => ?_⟩
    · rw [List.mapM_cons]
      simp only [Sem.run_bind, Sem.run_pure, Result.andThen_ok, h1]
    · cases j with
      | zero => simpa [Array.getD_eq_getD_getElem?, hv] using hr
      | succ j => simpa using h3 j (by simpa using hj)
  | .cell s t :: rs, l, hl => by
    simp only [resAV] at hl
    split at hl
    case h_2 => cases hl
    rename_i b p te m hs ht hm
    split at hl
    case h_2 => cases hl
    rename_i sh x hb
    split at hl
    case h_2 => cases hl
    rename_i s' y hp hy
    split at hl
    case h_2 => cases hl
    rename_i hsame
    split at hl
    case h_2 => cases hl
    rename_i z hz
    cases hl
    have es := Shape.same_eq _ _ hsame
    subst es
    obtain ⟨vs, h1, h2, h3⟩ := resAV_run h hT rs m hm
    obtain ⟨v, hv, hr⟩ := h.env s _ hs
    obtain ⟨g, hg, hpo, rfl⟩ := hr.ptr_inv
    obtain ⟨hsh, g', cs, hg', _, _, hh, hsz, hrep⟩ := h.cells hb
    obtain rfl : g' = g := by rw [hg] at hg'; injection hg' with e; exact e.symm
    rw [hsh] at hpo hv
    have hlt := pathOff_lt p sh te.sh hpo hp
    have T := hT _ _ ht
    have hload := T.runLoad (w := w) g' (pathOff p sh) (fun j => cs.getD (pathOff p sh + j) undef) fun j hj => cell_of hh (by omega)
    have hw := wrap_rep (w := w) (F := F) (φ := φ) (f := fun j => cs.getD (pathOff p sh + j) undef) hz fun j hj => (hrep _ (by omega)).strip (nav_leafAt p sh te.sh x y hpo hp hy j hj)
    refine ⟨loadVal te.sh (fun j => cs.getD (pathOff p sh + j) undef) :: vs, ?_, by simp [h2], fun j hj => ?_⟩
    · rw [List.mapM_cons]
      have ha : a.tmps.getD s undef = .pointer (some ⟨g', pathOff p sh, none⟩) := by simp [Array.getD_eq_getD_getElem?, hv]
      have hadr : (asAddr (a.tmps.getD s undef)).run C.P w = .ok ⟨g', pathOff p sh, none⟩ w := by rw [ha]; rfl
      simp only [Sem.run_bind, hadr, Sem.run_pure, Result.andThen_ok, hload, h1]
    · cases j with
      | zero => simpa using hw
      | succ j => simpa using h3 j (by simpa using hj)

/-- Several results are one tuple. -/
def retVal : List Value → Value
  | [v] => v
  | vs => .tuple vs.toArray

theorem results_run {fn : Func} {vs : List Value} (h : (fn.results.toList.mapM (fun | .tmp t => pure (a.tmps.getD t undef) | .cell s t => do loadVar t (← asAddr (a.tmps.getD s undef)) : ResultVar → Sem Value)).run C.P w = .ok vs w) :
    (results fn a.tmps).run C.P w = .ok (retVal vs) w := by
  have hm : (fn.results.mapM (fun | .tmp t => pure (a.tmps.getD t undef) | .cell s t => do loadVar t (← asAddr (a.tmps.getD s undef)) : ResultVar → Sem Value)).run C.P w = .ok vs.toArray w := by
    rw [Array.mapM_eq_mapM_toList, Sem.run_map, h]
    rfl
  unfold results
  rw [Sem.run_bind]
  refine Eq.trans (congrArg (fun r => Result.andThen r _) hm) ?_
  match vs with
  | [] => rfl
  | [v] => rfl
  | v :: u :: l => simp [retVal]

theorem argEnv_get : ∀ (l : List AV) (i s : Nat) (x : AV), get (argEnv i l) s = some x → i ≤ s ∧ s < i + l.length ∧ x = l.getD (s - i) .any
  | [], i, s, x, h => by simp [argEnv, get] at h
  | y :: l, i, s, x, h => by
    simp only [argEnv, get] at h
    split at h
    · rename_i hk
      cases h
      have := Nat.eq_of_beq_eq_true hk
      subst this
      exact ⟨Nat.le_refl _, by simp, by simp⟩
    · obtain ⟨h1, h2, h3⟩ := argEnv_get l (i + 1) s x h
      refine ⟨by omega, by simp only [List.length_cons]; omega, ?_⟩
      rw [h3, show s - i = (s - (i + 1)) + 1 from by omega, List.getD_cons_succ]

/-- Called with values that read as 'args', in a world where the read-only blocks are F. -/
theorem Rel.start {C : Cfg} {fn : Func} {args : List AV} {vs : Array Value} (hn : fn.ntmps = C.ntmps) (hl : args.length ≤ C.ntmps) (hro : ∀ k, F k → k < w.heap.size)
    (hglob : ∀ g x, get C.G g = some x → RepS w F (.pointer (some ⟨g, 0, none⟩)) x) (hsz : vs.size = args.length) (hr : ∀ j, j < args.length → RepS w F (vs.getD j undef) (args.getD j .any)) :
    Rel C (.of w) F ⟨argEnv 0 args, []⟩ { tmps := vs ++ Array.replicate (fn.ntmps - vs.size) undef, defers := [] } w F (fun _ => ⟨none, 0, .leaf, 0⟩) := by
  refine ⟨fun s x hs => ?_, fun b c hc => by simp [get] at hc, fun b b' c c' g h1 => by simp [get] at h1, hro, Kept.refl _ _, fun _ h => h, fun _ h => .inl h, rfl, by simp; omega, hglob, fun b p hp => by cases hp⟩
  obtain ⟨_, h2, rfl⟩ := argEnv_get args 0 s x hs
  rw [Nat.zero_add] at h2
  rw [Nat.sub_zero]
  refine ⟨vs.getD s undef, ?_, .stat (hr s h2)⟩
  rw [Array.getElem?_append_left (by omega), Array.getElem?_eq_getElem (by omega), Array.getD_eq_getD_getElem?, Array.getElem?_eq_getElem (by omega), Option.getD_some]

mutual
theorem le_stat : ∀ (x y : AV), AV.le [] [] x y → x.isStat = true → y.isStat = true
  | .agg l, y, hl, hs => by
    cases y <;> simp only [AV.le] at hl <;> first | rfl | skip
    case agg m => simp only [AV.isStat] at hs ⊢; exact les_stat l m hl hs
    all_goals cases hl
  | .mc sh x, y, hl, hs => by
    cases y <;> simp only [AV.le] at hl <;> first | rfl | skip
    case mc sh' y' => simp only [AV.isStat] at hs ⊢; exact le_stat x y' hl.2 hs
    all_goals cases hl
  | .tup l, y, hl, hs => by simp [AV.isStat] at hs
  | .own b n, y, hl, hs => by simp [AV.isStat] at hs
  | .ptr b n, y, hl, hs => by simp [AV.isStat] at hs
  | .optr b i n, y, hl, hs => by simp [AV.isStat] at hs
  | .when q x, y, hl, hs => by simp [AV.isStat] at hs
  | .clo f l, y, hl, hs => by
    cases y <;> simp only [AV.le] at hl <;> first | rfl | skip
    all_goals cases hl
    exact hs
  | .nils, y, hl, hs => by
    cases y <;> simp only [AV.le, get] at hl <;> first | rfl | skip
    case own => simp at hl
    all_goals cases hl
  | .seq _ _ _, y, hl, hs => by cases y <;> simp only [AV.le] at hl <;> first | rfl | cases hl
  | .seqc _ _ _, y, hl, hs => by cases y <;> simp only [AV.le] at hl <;> first | rfl | cases hl
  | .arr _ _, y, hl, hs => by cases y <;> simp only [AV.le] at hl <;> first | rfl | cases hl
  | .int _ _, y, hl, hs => by cases y <;> simp only [AV.le] at hl <;> first | rfl | cases hl
  | .bool _, y, hl, hs => by cases y <;> simp only [AV.le] at hl <;> first | rfl | cases hl
  | .str _, y, hl, hs => by cases y <;> simp only [AV.le] at hl <;> first | rfl | cases hl
  | .any, y, hl, hs => by cases y <;> simp only [AV.le] at hl <;> first | rfl | cases hl
  | .nilp, y, hl, hs => by cases y <;> simp only [AV.le] at hl <;> first | rfl | cases hl
  | .nseq _ _ _ _, y, hl, hs => by cases y <;> simp only [AV.le] at hl <;> first | rfl | cases hl
  | .cov _, y, hl, hs => by cases y <;> simp only [AV.le] at hl <;> first | rfl | cases hl
  | .rptr _ _, y, hl, hs => by cases y <;> simp only [AV.le] at hl <;> first | rfl | cases hl
  | .st _, y, hl, hs => by cases y <;> simp only [AV.le] at hl <;> first | rfl | cases hl
theorem les_stat : ∀ (l m : List AV), AV.les [] [] l m → AV.areStat l = true → AV.areStat m = true
  | [], m, hl, hs => by cases m <;> simp_all [AV.les, AV.areStat]
  | x :: l, m, hl, hs => by
    cases m with
    | nil => simp [AV.les] at hl
    | cons y m =>
      simp only [AV.les] at hl
      simp only [AV.areStat, Bool.and_eq_true] at hs ⊢
      exact ⟨le_stat x y hl.1 hs.1, les_stat l m hl.2 hs.2⟩
end

theorem le_repS {x y : AV} (hs : x.isStat = true) (hl : AV.le [] [] x y) {v : Value} (h : RepS w F v x) : RepS w F v y := by
  have hb := le_rep (w := w) (F := F) (st := ⟨[], []⟩) (st' := ⟨[], []⟩) (φ := fun _ => ⟨none, 0, .leaf, 0⟩) (fun b c h => by simp [get] at h) x y (fun b _ => by simp [nilPlace, get]) hl
  exact (hb.1 v (.stat h)).toS (le_stat x y hl hs)

theorem les_len : ∀ {l m : List AV}, AV.les [] [] l m → l.length = m.length ∧ ∀ j, j < l.length → AV.le [] [] (l.getD j .any) (m.getD j .any)
  | [], m, hl => by cases m <;> simp_all [AV.les]
  | x :: l, m, hl => by
    cases m with
    | nil => simp [AV.les] at hl
    | cons y m =>
      simp only [AV.les] at hl
      obtain ⟨h1, h2⟩ := les_len hl.2
      refine ⟨by simp [h1], fun j hj => ?_⟩
      cases j with
      | zero => simpa using hl.1
      | succ j => simpa using h2 j (by simpa using hj)

theorem stat_tup {m : List AV} (h : AV.areStat m = true) : (tupOf m).isRes = true := by
  match m with
  | [] => rfl
  | [y] =>
    simp only [AV.areStat, Bool.and_true] at h
    simp only [tupOf]
    cases y <;> first | exact h | simp [AV.isStat] at h
  | y :: z :: m => exact h

theorem le_repR {x y : AV} (hs : x.isRes = true) (hl : AV.le [] [] x y) {v : Value} (h : RepR w F v x) : RepR w F v y := by
  cases x with
  | tup l =>
    cases y <;> simp only [AV.le] at hl
    case tup m =>
      obtain ⟨vs, rfl, h1, h2⟩ := h
      obtain ⟨h3, h4⟩ := les_len hl
      exact ⟨vs, rfl, by omega, fun j hj => le_repS (areStat_getD hs j) (h4 j (by omega)) (h2 j (by omega))⟩
    case any => simp [AV.isOne] at hl
    all_goals cases hl
  | _ =>
    have h1 := le_repS hs hl h
    have h2 := le_stat _ _ hl hs
    cases y <;> first | exact h1 | simp [AV.isStat] at h2

/-- What a function hands back, at its end. -/
theorem post_ret {V : VCtx} {fn : Func} {r : AV} {A : Nat → Option Place} {D : List Deferred} {w w' : World} {a' : Act} {st : St} {F F' : Nat → Prop} {φ' : Nat → Place} (hT : TysOK V.C) (hR : Rel V.C ⟨w, fun _ => False, A, D⟩ F st a' w' F' φ')
    (hq : match retOf V.C st fn.results.toList with | some (x, ps) => conj ps (AV.le [] [] x r) | none => False) :
    ∃ u, (results fn a'.tmps).run V.C.P w' = .ok u w' ∧ ∃ v F', (Ending.returned u) = .returned v ∧ Below w.heap.size w w' ∧ (∀ k, F k → F' k) ∧ (∀ k, F' k → F k ∨ w.heap.size ≤ k) ∧ (∀ k, F' k → k < w'.heap.size) ∧ RepR w' F' v r := by
  split at hq
  case h_2 => exact hq.elim
  rename_i x ps hret
  obtain ⟨hps, hle⟩ := conj_spec hq
  unfold retOf at hret
  split at hret
  case h_2 => cases hret
  rename_i l hres
  split at hret
  case h_2 => cases hret
  rename_i m ps' hfz
  split at hret
  case h_2 => cases hret
  rename_i hst
  cases hret
  obtain ⟨us, h1, h2, h3⟩ := resAV_run hR hT _ _ hres
  obtain ⟨h4, h5⟩ := frzs_rep hR _ _ _ hfz hps
  refine ⟨_, results_run h1, _, Lent st F' φ', rfl, hR.base.toBelow, fun k hk => .inl (hR.sub k hk), ?_, ?_, ?_⟩
  · rintro k (hk | ⟨b, c, hb, hk⟩)
    · exact (hR.new k hk).imp_right fun h => h.resolve_right fun hf => hf
    · exact .inr (((hR.heap b c hb).lt hk).2.2.resolve_right fun hf => hf)
  · rintro k (hk | ⟨b, c, hb, hk⟩)
    · exact hR.ro k hk
    · exact ((hR.heap b c hb).lt hk).1
  · have h6 : ∀ j, j < m.length → RepS w' (Lent st F' φ') (us.getD j undef) (m.getD j .any) := fun j hj => h5 j hj _ (h3 j (by omega))
    have h7 : RepR w' (Lent st F' φ') (retVal us) (tupOf m) := by
      match m, us, h4, h2, h6, hst with
      | [], us, h4, h2, h6, _ =>
        have : us = [] := List.eq_nil_of_length_eq_zero (by simp at h4; rw [h4] at h2; simpa using h2)
        subst this
        exact ⟨#[], rfl, rfl, fun j hj => by simp at hj⟩
      | [y], us, h4, h2, h6, hst =>
        match us, (h2.trans h4 : us.length = 1) with
        | [v], _ =>
          have := h6 0 (by simp)
          simp only [List.getD_cons_zero] at this
          simp only [AV.areStat, Bool.and_true] at hst
          simp only [tupOf]
          cases y <;> first | exact this | simp [AV.isStat] at hst
      | y :: z :: m, us, h4, h2, h6, _ =>
        match us, (h2.trans h4 : us.length = m.length + 1 + 1) with
        | v :: u :: us, hlen => exact ⟨_, rfl, by simpa using hlen, fun j hj => by simpa [Array.getD_eq_getD_getElem?, List.getD_eq_getElem?_getD] using h6 j hj⟩
    exact le_repR (stat_tup hst) hle h7

/-- THE CONTRACT OF A FUNCTION. -/
theorem RCalls.of_vc {V : VCtx} {f : FuncId} {fn : Func} {args : List AV} {r : AV} (hf : V.C.P.funcs[f]? = some fn) (hn : fn.ntmps = V.C.ntmps) (hl : args.length ≤ V.C.ntmps) (hT : TysOK V.C) (hCC : CCOK V.C V.CC) (h : fnVc V fn args r) :
    RCalls V.C.P V.C.G f args r := by
  intro w F vs hro hglob hsz hr
  unfold fnVc at h
  split at h
  case h_2 => exact h.elim
  rename_i c hb
  refine calls_of_wp hf hb (wp_mono (vc_sound hT hCC c _ _ _ _ _ _ h (Rel.start hn hl hro hglob hsz hr)) ?_)
  rintro e a' w' ⟨st, F', φ', hR, hq⟩
  have fin : (match retOf V.C st fn.results.toList with | some (x, ps) => conj ps (AV.le [] [] x r) | none => False) → bodyPost V.C.P fn (fun en w' => ∃ v F', en = .returned v ∧ Below w.heap.size w w' ∧ (∀ k, F k → F' k) ∧ (∀ k, F' k → F k ∨ w.heap.size ≤ k) ∧ (∀ k, F' k → k < w'.heap.size) ∧ RepR w' F' v r) .ret a' w' := fun hq => ⟨hR.dfr, post_ret hT hR hq⟩
  cases e with
  | normal => exact fin hq
  | ret => exact fin hq
  | _ => exact hq.elim
end
end Go.AV
/- The contract of a function that hands back rows of its own making. -/
namespace Go.AV
open Go.RowKit

/- The named rows stay the call's own; all else is laid down. -/
mutual
def frzK (ks : List Nat) (h : List (Nat × BoxC)) : AV → Option (AV × List Prop)
  | .own b n => match inN b ks with
    | true => some (.own b n, [])
    | false => frz h (.own b n)
  | .ptr b p => match inN b ks with
    | true => some (.ptr b p, [])
    | false => frz h (.ptr b p)
  | .optr b i p => match inN b ks with
    | true => some (.optr b i p, [])
    | false => frz h (.optr b i p)
  | .agg l => match frzKs ks h l with | some (m, ps) => some (.agg m, ps) | none => none
  | .mc sh x => match frzK ks h x with | some (y, ps) => some (.mc sh y, ps) | none => none
  | .tup l => match frzKs ks h l with | some (m, ps) => some (.tup m, ps) | none => none
  | x => frz h x
def frzKs (ks : List Nat) (h : List (Nat × BoxC)) : List AV → Option (List AV × List Prop)
  | [] => some ([], [])
  | x :: l => match frzK ks h x, frzKs ks h l with
    | some (y, ps), some (m, qs) => some (y :: m, ps ++ qs)
    | _, _ => none
end

mutual
def pairF : AV → AV → List (Nat × Nat)
  | .own b _, .own i _ => [(i, b)]
  | .agg l, .agg m => pairFs l m
  | .tup l, .tup m => pairFs l m
  | .mc _ x, .mc _ y => pairF x y
  | _, _ => []
def pairFs : List AV → List AV → List (Nat × Nat)
  | x :: l, y :: m => pairF x y ++ pairFs l m
  | _, _ => []
end
def nameF (prs : List (Nat × Nat)) (i : Nat) : Nat := match get prs i with | some b => b | none => 1048576 + i
def rowsF (prs : List (Nat × Nat)) : Nat → List BoxC → List (Nat × BoxC)
  | _, [] => []
  | i, c :: cs => (nameF prs i, c) :: rowsF prs (i + 1) cs
def areRows : List BoxC → Bool
  | [] => true
  | c :: cs => c.isRow && areRows cs
def keysF : List (Nat × BoxC) → List Nat
  | [] => []
  | (k, _) :: l => k :: keysF l

def retOfF (C : Cfg) (st : St) (rs : List ResultVar) (r : AV) (cs : List BoxC) : Option (List Prop × St × St) :=
  match resAV C st rs with
  | some l => match nodupN (keysF (rowsF (pairF (tupOf l) r) 0 cs)) && (goodRes (below cs.length) r && areRows cs), frzK (keysF (rowsF (pairF (tupOf l) r) 0 cs)) (dropAll (keysF (rowsF (pairF (tupOf l) r) 0 cs)) st.heap) (tupOf l) with
    | true, some (m, ps) => some (ps, ⟨[(0, m)], selAll (keysF (rowsF (pairF (tupOf l) r) 0 cs)) st.heap⟩, ⟨[(0, r.sub (nameF (pairF (tupOf l) r)))], rowsF (pairF (tupOf l) r) 0 cs⟩)
    | _, _ => none
  | none => none

def fnPostF (V : VCtx) (fn : Func) (r : AV) (cs : List BoxC) (e : Exit) (st : St) : Prop :=
  match e with
  | .ret | .normal => match retOfF V.C st fn.results.toList r cs with
    | some (ps, s1, s2) => conj ps (St.le s1 s2)
    | none => False
  | _ => False

def fnVcF (V : VCtx) (fn : Func) (args : List AV) (r : AV) (cs : List BoxC) : Prop :=
  match fn.body with
  | some c => vc V c ⟨argEnv 0 args, []⟩ (fnPostF V fn r cs)
  | none => False

section
variable {C : Cfg} {W0 : Entry} {F0 : Nat → Prop} {st st' : St} {a : Act} {w : World} {F : Nat → Prop} {φ : Nat → Place}

mutual
theorem frzK_rep {ks : List Nat} {st : St} (h : Rel C W0 F0 st a w F φ) : ∀ (x y : AV) (ps : List Prop), frzK ks st.heap x = some (y, ps) → (∀ p ∈ ps, p) →
    (∀ v, Rep w F φ v x → Rep w (Lent st F φ) φ v y) ∧ (∀ sh j v, Rep w F φ v (leafAt sh x j) → Rep w (Lent st F φ) φ v (leafAt sh y j))
  | .own b n, y, ps, hf, hps => by
    simp only [frzK] at hf
    split at hf
    · cases hf
      exact ⟨fun v hv => hv.keep (fun _ _ => rfl) (fun k hk => .inl hk) fun _ _ => rfl, fun sh j v hv => hv.keep (fun _ _ => rfl) (fun k hk => .inl hk) fun _ _ => rfl⟩
    · obtain ⟨h1, h2⟩ := frz_rep h _ _ _ hf hps
      exact ⟨fun v hv => .stat (h1 v hv), fun sh j v hv => .stat (h2 sh j v hv)⟩
  | .ptr b p, y, ps, hf, hps => by
    simp only [frzK] at hf
    split at hf
    · cases hf
      exact ⟨fun v hv => hv.keep (fun _ _ => rfl) (fun k hk => .inl hk) fun _ _ => rfl, fun sh j v hv => hv.keep (fun _ _ => rfl) (fun k hk => .inl hk) fun _ _ => rfl⟩
    · obtain ⟨h1, h2⟩ := frz_rep h _ _ _ hf hps
      exact ⟨fun v hv => .stat (h1 v hv), fun sh j v hv => .stat (h2 sh j v hv)⟩
  | .optr b i p, y, ps, hf, hps => by
    simp only [frzK] at hf
    split at hf
    · cases hf
      exact ⟨fun v hv => hv.keep (fun _ _ => rfl) (fun k hk => .inl hk) fun _ _ => rfl, fun sh j v hv => hv.keep (fun _ _ => rfl) (fun k hk => .inl hk) fun _ _ => rfl⟩
    · obtain ⟨h1, h2⟩ := frz_rep h _ _ _ hf hps
      exact ⟨fun v hv => .stat (h1 v hv), fun sh j v hv => .stat (h2 sh j v hv)⟩
  | .agg l, y, ps, hf, hps => by
    simp only [frzK] at hf
    split at hf
    case h_2 => cases hf
    rename_i m qs hm
    cases hf
    refine ⟨fun v hv => (by cases hv with | stat hv => cases hv), fun s j v hv => ?_⟩
    cases s with
    | leaf => simp only [leafAt, asLeaf, AV.isOne] at hv ⊢; exact .stat (.any _ (hv.one rfl))
    | agg ss => simp only [leafAt] at hv ⊢; exact (frzKs_rep h l m ps hm hps).2 ss j v hv
    | arr n s => simp only [leafAt] at hv ⊢; exact .stat (.any _ (hv.one rfl))
  | .mc sh x, y, ps, hf, hps => by
    simp only [frzK] at hf
    split at hf
    case h_2 => cases hf
    rename_i z qs hz
    cases hf
    obtain ⟨_, k2⟩ := frzK_rep h x z ps hz hps
    refine ⟨fun v hv => ?_, fun s' j v hv => ?_⟩
    · obtain ⟨cs, rfl, hsz, hr⟩ := hv.mc_inv
      exact .mc cs sh z hsz fun j hj => k2 sh j _ (hr j hj)
    · cases s' with
      | leaf => simp only [leafAt, asLeaf, AV.isOne] at hv ⊢; exact .stat (.any _ (hv.one rfl))
      | agg ss => simp only [leafAt] at hv ⊢; exact .stat (.any _ (hv.one rfl))
      | arr m s => simp only [leafAt] at hv ⊢; exact .stat (.any _ (hv.one rfl))
  | .tup l, y, ps, hf, hps => by
    simp only [frzK] at hf
    split at hf
    case h_2 => cases hf
    rename_i m qs hm
    cases hf
    obtain ⟨⟨k0, k1⟩, k2⟩ := frzKs_rep h l m ps hm hps
    refine ⟨fun v hv => ?_, fun s j v hv => ?_⟩
    · cases hv with
      | stat hv => cases hv
      | tup vs _ h1 h2 => exact .tup vs m (by omega) fun j hj => k1 j hj _ (h2 j (by omega))
    · cases s with
      | leaf => simp only [leafAt, asLeaf, AV.isOne] at hv ⊢; exact .stat (.any _ (hv.one rfl))
      | agg ss => simp only [leafAt] at hv ⊢; exact .stat (.any _ (hv.one rfl))
      | arr n s => simp only [leafAt] at hv ⊢; exact .stat (.any _ (hv.one rfl))
  | .any, y, ps, hf, hps | .int _ _, y, ps, hf, hps | .bool _, y, ps, hf, hps | .str _, y, ps, hf, hps | .nils, y, ps, hf, hps | .nilp, y, ps, hf, hps | .seq _ _ _, y, ps, hf, hps | .seqc _ _ _, y, ps, hf, hps
  | .nseq _ _ _ _, y, ps, hf, hps | .cov _, y, ps, hf, hps | .rptr _ _, y, ps, hf, hps | .arr _ _, y, ps, hf, hps | .st _, y, ps, hf, hps | .clo _ _, y, ps, hf, hps | .when _ _, y, ps, hf, hps => by
    simp only [frzK] at hf
    obtain ⟨h1, h2⟩ := frz_rep h _ _ _ hf hps
    exact ⟨fun v hv => .stat (h1 v hv), fun sh j v hv => .stat (h2 sh j v hv)⟩
theorem frzKs_rep {ks : List Nat} {st : St} (h : Rel C W0 F0 st a w F φ) : ∀ (l m : List AV) (ps : List Prop), frzKs ks st.heap l = some (m, ps) → (∀ p ∈ ps, p) →
    (l.length = m.length ∧ ∀ j, j < m.length → ∀ v, Rep w F φ v (l.getD j .any) → Rep w (Lent st F φ) φ v (m.getD j .any)) ∧
    ∀ ss j v, Rep w F φ v (leafsAt ss l j) → Rep w (Lent st F φ) φ v (leafsAt ss m j)
  | [], m, ps, hf, _ => by
    simp [frzKs] at hf; obtain ⟨rfl, rfl⟩ := hf
    refine ⟨⟨rfl, fun j hj => by simp at hj⟩, fun ss j v hv => ?_⟩
    cases ss <;> simp only [leafsAt] at hv ⊢ <;> exact .stat (.any _ (hv.one rfl))
  | x :: l, m, ps, hf, hps => by
    simp only [frzKs] at hf
    split at hf
    case h_2 => cases hf
    rename_i y ps1 m' ps2 h1 h2
    cases hf
    obtain ⟨⟨l1, l2⟩, l3⟩ := frzKs_rep h l m' ps2 h2 fun p hp => hps p (by simp [hp])
    obtain ⟨k1, k2⟩ := frzK_rep h x y ps1 h1 fun p hp => hps p (by simp [hp])
    refine ⟨⟨by simp [l1], fun j hj v hv => ?_⟩, fun ss j v hv => ?_⟩
    · cases j with
      | zero => exact k1 v (by simpa using hv)
      | succ j => simpa using l2 j (by simpa using hj) v (by simpa using hv)
    · cases ss with
      | nil => simp only [leafsAt] at hv ⊢; exact .stat (.any _ (hv.one rfl))
      | cons s ss =>
        simp only [leafsAt] at hv ⊢
        split
        · rename_i hj; rw [if_pos hj] at hv; exact k2 s j v hv
        · rename_i hj; rw [if_neg hj] at hv; exact l3 ss _ v hv
end

theorem get_rowsF {prs : List (Nat × Nat)} : ∀ (cs : List BoxC) (i j : Nat) (c : BoxC), nodupN (keysF (rowsF prs i cs)) = true → cs[j]? = some c → get (rowsF prs i cs) (nameF prs (i + j)) = some c ∧ nameF prs (i + j) ∈ keysF (rowsF prs i cs)
  | [], i, j, c, _, h => by simp at h
  | d :: cs, i, 0, c, _, h => by
    simp at h; subst h
    simp [rowsF, get, keysF]
  | d :: cs, i, j + 1, c, hn, h => by
    simp only [rowsF, keysF, nodupN, Bool.and_eq_true, Bool.not_eq_true'] at hn
    obtain ⟨h1, h2⟩ := get_rowsF cs (i + 1) j c hn.2 (by simpa using h)
    rw [show i + 1 + j = i + (j + 1) from by omega] at h1 h2
    have hne : Nat.beq (nameF prs i) (nameF prs (i + (j + 1))) = false := by
      cases e : Nat.beq (nameF prs i) (nameF prs (i + (j + 1))) with
      | false => rfl
      | true =>
        rw [Nat.eq_of_beq_eq_true e, inN_iff.2 h2] at hn; cases hn.1
    simp only [rowsF, get, hne, keysF]
    exact ⟨h1, List.mem_cons_of_mem _ h2⟩
theorem nodup_rowsF {prs : List (Nat × Nat)} : ∀ (cs : List BoxC) (i j j' : Nat), nodupN (keysF (rowsF prs i cs)) = true → j < cs.length → j' < cs.length → nameF prs (i + j) = nameF prs (i + j') → j = j'
  | [], _, _, _, _, h, _, _ => by simp at h
  | d :: cs, i, j, j', hn, hj, hj', e => by
    have hn' := hn
    simp only [rowsF, keysF, nodupN, Bool.and_eq_true, Bool.not_eq_true'] at hn
    have mem : ∀ k, k < cs.length → nameF prs (i + (k + 1)) ∈ keysF (rowsF prs (i + 1) cs) := fun k hk => by
      have := (get_rowsF cs (i + 1) k _ hn.2 (List.getElem?_eq_getElem hk)).2
      rwa [show i + 1 + k = i + (k + 1) from by omega] at this
    have ne : ∀ k, k < cs.length → nameF prs (i + 0) ≠ nameF prs (i + (k + 1)) := fun k hk e => by
      rw [Nat.add_zero] at e
      rw [e, inN_iff.2 (mem k hk)] at hn; cases hn.1
    cases j with
    | zero => cases j' with
      | zero => rfl
      | succ j' => exact absurd e (ne j' (by simpa using hj'))
    | succ j => cases j' with
      | zero => exact absurd e.symm (ne j (by simpa using hj))
      | succ j' =>
        have := nodup_rowsF cs (i + 1) j j' hn.2 (by simpa using hj) (by simpa using hj') (by rw [show i + 1 + j = i + (j + 1) from by omega, show i + 1 + j' = i + (j' + 1) from by omega]; exact e)
        omega

theorem areRows_get : ∀ (cs : List BoxC) {i : Nat} {c : BoxC}, areRows cs = true → cs[i]? = some c → c.isRow = true
  | [], _, _, _, h => by simp at h
  | d :: cs, 0, c, hr, h => by simp only [areRows, Bool.and_eq_true] at hr; simp at h; subst h; exact hr.1
  | d :: cs, i + 1, c, hr, h => by simp only [areRows, Bool.and_eq_true] at hr; exact areRows_get cs hr.2 (by simpa using h)

theorem retVal_rep {us : List Value} {l : List AV} (hl : us.length = l.length) (h : ∀ j, j < l.length → Rep w F φ (us.getD j undef) (l.getD j .any)) : Rep w F φ (retVal us) (tupOf l) := by
  match l, us, hl, h with
  | [], us, hl, h =>
    have : us = [] := List.eq_nil_of_length_eq_zero (by simpa using hl)
    subst this
    exact .tup #[] [] rfl fun j hj => by simp at hj
  | [y], us, hl, h =>
    match us, (hl : us.length = 1) with
    | [v], _ =>
      show Rep w F φ v y
      simpa using h 0 (by simp)
  | y :: z :: m, us, hl, h =>
    match us, (hl : us.length = m.length + 1 + 1) with
    | v :: u :: us, hlen => exact .tup _ _ (by simpa using hlen) fun j hj => by simpa [Array.getD_eq_getD_getElem?, List.getD_eq_getElem?_getD] using h j hj

/-- THE CONTRACT OF A FUNCTION that hands rows over. -/
theorem RFresh.of_vc {V : VCtx} {f : FuncId} {fn : Func} {args : List AV} {r : AV} {cs : List BoxC} (hf : V.C.P.funcs[f]? = some fn) (hn : fn.ntmps = V.C.ntmps) (hl : args.length ≤ V.C.ntmps) (hT : TysOK V.C) (hCC : CCOK V.C V.CC) (h : fnVcF V fn args r cs) :
    RFresh V.C.P V.C.G f args r cs := by
  intro w F vs hro hglob hsz hr
  unfold fnVcF at h
  split at h
  case h_2 => exact h.elim
  rename_i c hb
  refine calls_of_wp hf hb (wp_mono (vc_sound hT hCC c _ _ _ _ _ _ h (Rel.start hn hl hro hglob hsz hr)) ?_)
  rintro e a' w' ⟨st, F', φ', hR, hq⟩
  have fin : fnPostF V fn r cs .ret st → bodyPost V.C.P fn (fun en w' => ∃ v F' φ', en = .returned v ∧ Below w.heap.size w w' ∧ (∀ k, F k → F' k) ∧ (∀ k, F' k → F k ∨ w.heap.size ≤ k) ∧ (∀ k, F' k → k < w'.heap.size) ∧ Rep w' F' φ' v r ∧
      (∀ i c, cs[i]? = some c → BoxOK w' F' φ' (fun k => w.heap.size ≤ k) i c) ∧ ∀ i i' g, i < cs.length → i' < cs.length → (φ' i).blk = some g → (φ' i').blk = some g → i = i') .ret a' w' := by
    intro hq
    unfold fnPostF at hq
    dsimp only at hq
    split at hq
    case h_2 => exact hq.elim
    rename_i ps s1 s2 hret
    unfold retOfF at hret
    split at hret
    case h_2 => cases hret
    rename_i l hres
    split at hret
    case h_2 => cases hret
    rename_i m ps' hgood hfz
    cases hret
    simp only [Bool.and_eq_true] at hgood
    obtain ⟨hnd, hgood, hrows⟩ := hgood
    obtain ⟨hps, hle⟩ := conj_spec hq
    obtain ⟨us, h1, h2, h3⟩ := resAV_run hR hT _ _ hres
    have hv := retVal_rep h2 h3
    generalize hks : keysF (rowsF (pairF (tupOf l) r) 0 cs) = ks at *
    generalize hpr : pairF (tupOf l) r = prs at *
    have hR2 : Rel V.C (.of w) F { st with heap := dropAll ks st.heap } a' w' F' φ' :=
      ⟨hR.env, fun b c hc => hR.heap b c (get_dropAll hc).1, fun b b' c c' g h1 h2 => hR.inj b b' c c' g (get_dropAll h1).1 (get_dropAll h2).1, hR.ro, hR.base, hR.sub, hR.new, hR.dfr, hR.tsz, hR.glob, fun b p hp => by cases hp⟩
    have hv2 := (frzK_rep (ks := ks) hR2 _ _ _ hfz hps).1 _ hv
    have hlent : ∀ k, Lent { st with heap := dropAll ks st.heap } F' φ' k → F k ∨ w.heap.size ≤ k := by
      rintro k (hk | ⟨b, c, hb, hk⟩)
      · exact (hR.new k hk).imp_right fun h => h.resolve_right fun hf => hf
      · exact .inr (((hR2.heap b c hb).lt hk).2.2.resolve_right fun hf => hf)
    have hlt : ∀ k, Lent { st with heap := dropAll ks st.heap } F' φ' k → k < w'.heap.size := by
      rintro k (hk | ⟨b, c, hb, hk⟩)
      · exact hR.ro k hk
      · exact ((hR2.heap b c hb).lt hk).1
    have hR3 : Rel { V.C with ntmps := 1 } (.of w) F ⟨[(0, m)], selAll ks st.heap⟩ { tmps := #[retVal us], defers := [] } w' (Lent { st with heap := dropAll ks st.heap } F' φ') φ' := by
      refine ⟨fun s x hs => ?_, fun b c hc => ?_, fun b b' c c' g h1 h2 => hR.inj b b' c c' g (get_selAll h1).1 (get_selAll h2).1, hlt, hR.base, fun k hk => .inl (hR.sub k hk), fun k hk => (hlent k hk).imp_right .inl, rfl, rfl, fun g x hg => (hR.glob g x hg).keep (fun _ _ => rfl) fun _ hk => .inl hk, fun b p hp => by cases hp⟩
      · simp only [get] at hs
        split at hs
        · rename_i e
          cases hs
          have := Nat.eq_of_beq_eq_true e
          subst this
          exact ⟨_, rfl, hv2⟩
        · cases hs
      · obtain ⟨k1, k2⟩ := get_selAll hc
        have hb := hR.heap b c k1
        refine hb.keep (fun _ _ => rfl) (fun _ hk => .inl hk) (fun g hg => ⟨rfl, ?_⟩) rfl fun _ _ => rfl
        rintro (h5 | ⟨b', c', h5, h6⟩)
        · exact (hb.lt hg).2.1 h5
        · obtain ⟨h7, h8⟩ := get_dropAll h5
          exact h8 (hR.inj b' b c' c g h7 k1 h6 hg ▸ k2)
    obtain ⟨φ4, hR4⟩ := hR3.weaken hle
    obtain ⟨v, hv4, hrep⟩ := hR4.env 0 (r.sub (nameF prs)) rfl
    simp at hv4
    subst hv4
    refine ⟨hR.dfr, _, results_run h1, _, _, fun i => φ4 (nameF prs i), rfl, hR.base.toBelow, fun k hk => .inl (hR.sub k hk), hlent, hlt, inv_res (m := below cs.length) (n := nameF prs) (φ2 := φ4) (fun _ _ => rfl) hgood hrep, fun i c hc => ?_, fun i i' g hi hi' e e' => ?_⟩
    · have hg := (get_rowsF cs 0 i c (by rw [hks]; exact hnd) hc).1
      rw [Nat.zero_add] at hg
      have hB := (hR4.heap _ c hg).base (base' := fun k => w.heap.size ≤ k) fun k hk => hk.resolve_right fun hf => hf
      have hrow := areRows_get cs hrows hc
      cases c with
      | cell tc sh x => cases hrow
      | row ty sh n f => exact hB
    · have k1 := (get_rowsF cs 0 i _ (by rw [hks]; exact hnd) (List.getElem?_eq_getElem hi)).1
      have k2 := (get_rowsF cs 0 i' _ (by rw [hks]; exact hnd) (List.getElem?_eq_getElem hi')).1
      rw [Nat.zero_add] at k1 k2
      have := hR4.inj _ _ _ _ g k1 k2 e e'
      have := nodup_rowsF cs 0 i i' (prs := prs) (by rw [hks]; exact hnd) hi hi' (by rw [Nat.zero_add, Nat.zero_add]; exact this)
      exact this
  cases e with
  | normal => exact fin hq
  | ret => exact fin hq
  | _ => exact hq.elim
end
end Go.AV
/- The contract of a function to which boxes are lent. -/
namespace Go.AV
open Go.RowKit

def atLent (i : Nat) : Nat := 1099511627776 + i
def lentHeap : Nat → List BoxC → List (Nat × BoxC)
  | _, [] => []
  | i, c :: hs => (atLent i, c.sub atLent) :: lentHeap (i + 1) hs
/- Which box stands for which new one. -/
mutual
def pairK (k : Nat) : AV → AV → List (Nat × Nat)
  | .own b _, .own i _ | .ptr b _, .ptr i _ | .optr b _ _, .optr i _ _ => match Nat.blt i k with | true => [] | false => [(i, b)]
  | .agg l, .agg m => pairKs k l m
  | .tup l, .tup m => pairKs k l m
  | .mc _ x, .mc _ y => pairK k x y
  | _, _ => []
def pairKs (k : Nat) : List AV → List AV → List (Nat × Nat)
  | x :: l, y :: m => pairK k x y ++ pairKs k l m
  | _, _ => []
end
def pairBs (k : Nat) (h : List (Nat × BoxC)) : Nat → List (Option BoxC) → List (Nat × Nat)
  | _, [] => []
  | i, some (.cell _ _ y) :: os => match get h (atLent i) with
    | some (.cell _ _ x) => pairK k x y ++ pairBs k h (i + 1) os
    | _ => pairBs k h (i + 1) os
  | i, _ :: os => pairBs k h (i + 1) os
def nameK (k : Nat) (prs : List (Nat × Nat)) (i : Nat) : Nat := match Nat.blt i k with | true => atLent i | false => nameF prs i
def rowsK (nm : Nat → Nat) : Nat → List (Option BoxC) → List (Nat × BoxC)
  | _, [] => []
  | i, some c :: os => (nm i, c.sub nm) :: rowsK nm (i + 1) os
  | i, none :: os => rowsK nm (i + 1) os
def selFrz (ks : List Nat) (h : List (Nat × BoxC)) : List (Nat × BoxC) → Option (List (Nat × BoxC) × List Prop)
  | [] => some ([], [])
  | (k, .cell tc sh x) :: l => match frzK ks h x, selFrz ks h l with
    | some (y, ps), some (m, qs) => some ((k, .cell tc sh y) :: m, ps ++ qs)
    | _, _ => none
  | (k, c) :: l => match selFrz ks h l with
    | some (m, qs) => some ((k, c) :: m, qs)
    | none => none
def retL2 (h : List (Nat × BoxC)) (t r : AV) (os : List (Option BoxC)) (nm : Nat → Nat) (ks : List Nat) : Option (List Prop × St × St) :=
  match nodupN ks && goodRes (isAt os) r && onlyAllO (isAt os) os, frzK ks (dropAll ks h) t, selFrz ks (dropAll ks h) (selAll ks h) with
  | true, some (m, ps), some (H, qs) => some (ps ++ qs, ⟨[(0, m)], H⟩, ⟨[(0, r.sub nm)], rowsK nm 0 os⟩)
  | _, _, _ => none
def retL1 (h : List (Nat × BoxC)) (t r : AV) (os : List (Option BoxC)) (nm : Nat → Nat) : Option (List Prop × St × St) := retL2 h t r os nm (keysF (rowsK nm 0 os))
def retOfL (C : Cfg) (st : St) (rs : List ResultVar) (k : Nat) (r : AV) (os : List (Option BoxC)) : Option (List Prop × St × St) :=
  match resAV C st rs with
  | some l => retL1 st.heap (tupOf l) r os (nameK k (pairK k (tupOf l) r ++ pairBs k st.heap 0 os))
  | none => none
def fnPostL (V : VCtx) (fn : Func) (k : Nat) (r : AV) (os : List (Option BoxC)) (e : Exit) (st : St) : Prop :=
  match e with
  | .ret | .normal => match retOfL V.C st fn.results.toList k r os with
    | some (ps, s1, s2) => conj ps (St.le s1 s2)
    | none => False
  | _ => False
/-- What the arguments name is lent. -/
def goodArgs (args : List AV) (hs : List BoxC) : Bool := AV.only0L (below hs.length) args && areVals args && onlyAll (below hs.length) hs
def fnVcL (V : VCtx) (fn : Func) (args : List AV) (hs : List BoxC) (r : AV) (os : List (Option BoxC)) : Prop :=
  match goodArgs args hs, fn.body with
  | true, some c => vc V c ⟨argEnv 0 (AV.subL atLent args), lentHeap 0 hs⟩ (fnPostL V fn hs.length r os)
  | _, _ => False

def fnPostP (v : Value) (e : Exit) (_st : St) : Prop :=
  match e with
  | .panic ch => ch = [⟨v, false, false⟩]
  | _ => False
/-- A function that panics. -/
def fnVcP (V : VCtx) (fn : Func) (args : List AV) (hs : List BoxC) (v : Value) : Prop :=
  match goodArgs args hs, fn.body with
  | true, some c => vc V c ⟨argEnv 0 (AV.subL atLent args), lentHeap 0 hs⟩ (fnPostP v)
  | _, _ => False

section
variable {C : Cfg} {W0 : Entry} {F0 : Nat → Prop} {st st' : St} {a : Act} {w : World} {F : Nat → Prop} {φ : Nat → Place}

theorem lentHeap_get : ∀ {hs : List BoxC} {i b : Nat} {c : BoxC}, get (lentHeap i hs) b = some c → ∃ j d, b = atLent (i + j) ∧ hs[j]? = some d ∧ c = d.sub atLent
  | [], _, _, _, h => by simp [lentHeap, get] at h
  | d :: hs, i, b, c, h => by
    simp only [lentHeap, get] at h
    split at h
    · rename_i e
      cases h
      exact ⟨0, d, (Nat.eq_of_beq_eq_true e).symm, rfl, rfl⟩
    · obtain ⟨j, d', h1, h2, h3⟩ := lentHeap_get h
      exact ⟨j + 1, d', by rw [h1]; congr 1; omega, by simpa using h2, h3⟩
theorem BoxOK.rebase {B B' : Nat → Prop} {b : Nat} {c : BoxC} (h : BoxOK w F φ B b c) (hb : ∀ k, (φ b).blk = some k → B' k) : BoxOK w F φ B' b c := by
  cases c with
  | cell tc sh x =>
    obtain ⟨h0, g, cs, h1, h2, h3⟩ := h
    exact ⟨h0, g, cs, h1, hb _ h1, h3⟩
  | row ty sh n f =>
    obtain ⟨h0, h0', h⟩ := h
    refine ⟨h0, h0', ?_⟩
    rcases h with h | ⟨g, cs, h1, h2, h3⟩
    · exact .inl h
    · exact .inr ⟨g, cs, h1, hb _ h1, h3⟩
/-- Where the boxes lie, as the callee calls them. -/
def lentPl (φ : Nat → Place) (b : Nat) : Place := match Nat.ble 1099511627776 b with | true => φ (b - 1099511627776) | false => ⟨none, 0, .leaf, 0⟩
theorem lentPl_at (φ : Nat → Place) (i : Nat) : lentPl φ (atLent i) = φ i := by
  unfold lentPl atLent
  have h1 : Nat.ble 1099511627776 (1099511627776 + i) = true := Nat.ble_eq_true_of_le (by omega)
  rw [h1]
  show φ (1099511627776 + i - 1099511627776) = φ i
  rw [Nat.add_sub_cancel_left]
def lentAnc (φ : Nat → Place) (hs : List BoxC) (b : Nat) : Option Place := match Nat.ble 1099511627776 b with
  | true => match hs[b - 1099511627776]? with
    | some (.cell _ _ _) => some (φ (b - 1099511627776))
    | _ => none
  | false => none

/-- Called with values that read as 'args', where lent boxes read as hs. -/
theorem Rel.startL {C : Cfg} {fn : Func} {args : List AV} {hs : List BoxC} {vs : Array Value} (hn : fn.ntmps = C.ntmps) (hl : args.length ≤ C.ntmps) (hgood : goodArgs args hs = true) (hro : ∀ k, F k → k < w.heap.size)
    (hglob : ∀ g x, get C.G g = some x → RepS w F (.pointer (some ⟨g, 0, none⟩)) x) (hsz : vs.size = args.length) (hr : ∀ j, j < args.length → Rep w F φ (vs.getD j undef) (args.getD j .any))
    (hbox : ∀ (i : Nat) c, hs[i]? = some c → BoxOK w F φ (fun _ => True) i c) (hinj : ∀ i i' g, i < hs.length → i' < hs.length → (φ i).blk = some g → (φ i').blk = some g → i = i') :
    Rel C ⟨w, LentTo φ hs.length, lentAnc φ hs, []⟩ F ⟨argEnv 0 (AV.subL atLent args), lentHeap 0 hs⟩ { tmps := vs ++ Array.replicate (fn.ntmps - vs.size) undef, defers := [] } w F (lentPl φ) := by
  simp only [goodArgs, Bool.and_eq_true] at hgood
  obtain ⟨⟨g1, g2⟩, g3⟩ := hgood
  have hφ : ∀ b, below hs.length b = true → lentPl φ (atLent b) = φ b := fun b _ => lentPl_at φ b
  refine ⟨fun s x hs => ?_, fun b c hc => ?_, fun b b' c c' g h1 h2 h3 h4 => ?_, hro, Kept.refl _ _, fun _ h => h, fun _ h => .inl h, rfl, by simp; omega, hglob, fun b p hp => ?_⟩
  · obtain ⟨_, h2, rfl⟩ := argEnv_get _ 0 s x hs
    rw [Nat.zero_add, subL_len] at h2
    rw [Nat.sub_zero, subL_getD _ _ _ h2]
    refine ⟨vs.getD s undef, ?_, sub_val hφ (isVal_or (areVals_getD g2 h2)) (only0L_getD g1 h2) (hr s h2)⟩
    rw [Array.getElem?_append_left (by omega), Array.getElem?_eq_getElem (by omega), Array.getD_eq_getD_getElem?, Array.getElem?_eq_getElem (by omega), Option.getD_some]
  · obtain ⟨j, d, rfl, h2, rfl⟩ := lentHeap_get hc
    rw [Nat.zero_add]
    have hlt := (List.getElem?_eq_some_iff.1 h2).1
    refine box_sub hφ (Nat.ble_eq_true_of_le hlt) (onlyAll_get g3 h2) ((hbox j d h2).rebase fun k hk => .inr ⟨j, hlt, hk⟩)
  · obtain ⟨j, d, rfl, k2, rfl⟩ := lentHeap_get h1
    obtain ⟨j', d', rfl, k2', rfl⟩ := lentHeap_get h2
    rw [Nat.zero_add, lentPl_at] at h3
    rw [Nat.zero_add, lentPl_at] at h4
    rw [hinj j j' g (List.getElem?_eq_some_iff.1 k2).1 (List.getElem?_eq_some_iff.1 k2').1 h3 h4]
  · change lentAnc φ hs b = some p at hp
    unfold lentAnc at hp
    split at hp
    case h_2 => cases hp
    rename_i hb
    split at hp
    case h_2 => cases hp
    rename_i sh x hx
    cases hp
    have hb := Nat.le_of_ble_eq_true hb
    refine ⟨hb, ?_, fun c hc => ?_⟩
    · have := lentPl_at φ (b - 1099511627776)
      rwa [show atLent (b - 1099511627776) = b from by unfold atLent; omega] at this
    · obtain ⟨j, d, rfl, h2, rfl⟩ := lentHeap_get hc
      rw [show atLent (0 + j) - 1099511627776 = j from by unfold atLent; omega, h2] at hx
      cases hx
      rfl

theorem selFrz_get {ks : List Nat} {h : List (Nat × BoxC)} : ∀ {l H : List (Nat × BoxC)} {ps : List Prop} {b : Nat} {c : BoxC}, selFrz ks h l = some (H, ps) → (∀ p ∈ ps, p) → get H b = some c →
    ∃ d, get l b = some d ∧ c.isRow = d.isRow ∧ match d, c with
      | .row ty sh n f, c => c = .row ty sh n f
      | .cell tc sh x, .cell tc' sh' y => tc' = tc ∧ sh' = sh ∧ ∃ qs, frzK ks h x = some (y, qs) ∧ ∀ p ∈ qs, p
      | .cell _ _ _, .row _ _ _ _ => False
  | [], H, ps, b, c, hs, _, hg => by simp [selFrz] at hs; rw [hs.1] at hg; simp [get] at hg
  | (k, .cell tc sh x) :: l, H, ps, b, c, hs, hp, hg => by
    simp only [selFrz] at hs
    split at hs
    case h_2 => cases hs
    rename_i y qs m qs' h1 h2
    cases hs
    simp only [get] at hg ⊢
    split at hg
    · cases hg
      exact ⟨_, rfl, rfl, rfl, rfl, qs, h1, fun p hp' => hp p (by simp [hp'])⟩
    · exact selFrz_get h2 (fun p hp' => hp p (by simp [hp'])) hg
  | (k, .row ty sh n f) :: l, H, ps, b, c, hs, hp, hg => by
    simp only [selFrz] at hs
    split at hs
    case h_2 => cases hs
    rename_i m qs' h2
    cases hs
    simp only [get] at hg ⊢
    split at hg
    · cases hg
      exact ⟨_, rfl, rfl, rfl⟩
    · exact selFrz_get h2 hp hg

theorem get_rowsK {nm : Nat → Nat} : ∀ (os : List (Option BoxC)) (i j : Nat) (c : BoxC), nodupN (keysF (rowsK nm i os)) = true → os[j]? = some (some c) → get (rowsK nm i os) (nm (i + j)) = some (c.sub nm) ∧ nm (i + j) ∈ keysF (rowsK nm i os)
  | [], i, j, c, _, h => by simp at h
  | some d :: os, i, 0, c, _, h => by
    simp at h; subst h
    simp [rowsK, get, keysF]
  | none :: os, i, 0, c, _, h => by simp at h
  | none :: os, i, j + 1, c, hn, h => by
    have := get_rowsK os (i + 1) j c (by simpa only [rowsK] using hn) (by simpa using h)
    rw [show i + 1 + j = i + (j + 1) from by omega] at this
    simpa only [rowsK] using this
  | some d :: os, i, j + 1, c, hn, h => by
    simp only [rowsK, keysF, nodupN, Bool.and_eq_true, Bool.not_eq_true'] at hn
    obtain ⟨h1, h2⟩ := get_rowsK os (i + 1) j c hn.2 (by simpa using h)
    rw [show i + 1 + j = i + (j + 1) from by omega] at h1 h2
    have hne : Nat.beq (nm i) (nm (i + (j + 1))) = false := by
      cases e : Nat.beq (nm i) (nm (i + (j + 1))) with
      | false => rfl
      | true =>
        rw [Nat.eq_of_beq_eq_true e, inN_iff.2 h2] at hn; cases hn.1
    simp only [rowsK, get, hne, keysF]
    exact ⟨h1, List.mem_cons_of_mem _ h2⟩
theorem nodup_rowsK {nm : Nat → Nat} : ∀ (os : List (Option BoxC)) (i j j' : Nat) (c c' : BoxC), nodupN (keysF (rowsK nm i os)) = true → os[j]? = some (some c) → os[j']? = some (some c') → nm (i + j) = nm (i + j') → j = j'
  | [], _, _, _, _, _, _, h, _, _ => by simp at h
  | none :: os, i, j, j', c, c', hn, hj, hj', e => by
    cases j with
    | zero => simp at hj
    | succ j => cases j' with
      | zero => simp at hj'
      | succ j' =>
        have := nodup_rowsK os (i + 1) j j' c c' (by simpa only [rowsK] using hn) (by simpa using hj) (by simpa using hj') (by rw [show i + 1 + j = i + (j + 1) from by omega, show i + 1 + j' = i + (j' + 1) from by omega]; exact e)
        omega
  | some d :: os, i, j, j', c, c', hn, hj, hj', e => by
    have hn' := hn
    simp only [rowsK, keysF, nodupN, Bool.and_eq_true, Bool.not_eq_true'] at hn
    have mem : ∀ (k : Nat) (c : BoxC), os[k]? = some (some c) → nm (i + (k + 1)) ∈ keysF (rowsK nm (i + 1) os) := fun k c hk => by
      have := (get_rowsK os (i + 1) k _ hn.2 hk).2
      rwa [show i + 1 + k = i + (k + 1) from by omega] at this
    have ne : ∀ (k : Nat) (c : BoxC), os[k]? = some (some c) → nm (i + 0) ≠ nm (i + (k + 1)) := fun k c hk e => by
      rw [Nat.add_zero] at e
      rw [e, inN_iff.2 (mem k c hk)] at hn; cases hn.1
    cases j with
    | zero => cases j' with
      | zero => rfl
      | succ j' => exact absurd e (ne j' c' (by simpa using hj'))
    | succ j => cases j' with
      | zero => exact absurd e.symm (ne j c (by simpa using hj))
      | succ j' =>
        have := nodup_rowsK os (i + 1) j j' c c' hn.2 (by simpa using hj) (by simpa using hj') (by rw [show i + 1 + j = i + (j + 1) from by omega, show i + 1 + j' = i + (j' + 1) from by omega]; exact e)
        omega
theorem isAt_of : ∀ {os : List (Option BoxC)} {i : Nat} {c : BoxC}, os[i]? = some (some c) → isAt os i = true
  | [], _, _, h => by simp at h
  | o :: os, 0, c, h => by simp at h; subst h; rfl
  | o :: os, i + 1, c, h => isAt_of (os := os) (c := c) (by simpa using h)

/-- THE CONTRACT OF A FUNCTION to which boxes are lent. -/
theorem RLent.of_vc {V : VCtx} {f : FuncId} {fn : Func} {args : List AV} {hs : List BoxC} {r : AV} {os : List (Option BoxC)} (hf : V.C.P.funcs[f]? = some fn) (hn : fn.ntmps = V.C.ntmps) (hl : args.length ≤ V.C.ntmps) (hT : TysOK V.C) (hCC : CCOK V.C V.CC)
    (h : fnVcL V fn args hs r os) : RLent V.C.P V.C.G f args hs r os := by
  intro w F φ vs hro hglob hsz hr hbox hinj
  unfold fnVcL at h
  split at h
  case h_2 => exact h.elim
  rename_i c hgood hb
  refine calls_of_wp hf hb (wp_mono (vc_sound hT hCC c _ _ _ _ _ _ h (Rel.startL hn hl hgood hro hglob hsz hr hbox hinj)) ?_)
  rintro e a' w' ⟨st, F', φ', hR, hq⟩
  have fin : fnPostL V fn hs.length r os .ret st → bodyPost V.C.P fn (fun en w' => ∃ v F' φ', en = .returned v ∧ Kept (LentTo φ hs.length) w w' ∧ (∀ k, F k → F' k) ∧ (∀ k, F' k → F k ∨ w.heap.size ≤ k ∨ LentTo φ hs.length k) ∧ (∀ k, F' k → k < w'.heap.size) ∧ Rep w' F' φ' v r ∧
      (∀ i c, os[i]? = some (some c) → BoxOK w' F' φ' (fun k => w.heap.size ≤ k ∨ LentTo φ hs.length k) i c) ∧
      (∀ i i' c c' g, os[i]? = some (some c) → os[i']? = some (some c') → (φ' i).blk = some g → (φ' i').blk = some g → i = i') ∧
      ∀ i tc sh x, hs[i]? = some (.cell tc sh x) → φ' i = φ i) .ret a' w' := by
    intro hq
    unfold fnPostL at hq
    dsimp only at hq
    split at hq
    case h_2 => exact hq.elim
    rename_i ps s1 s2 hret
    unfold retOfL at hret
    split at hret
    case h_2 => cases hret
    rename_i l hres
    generalize hprs : pairK hs.length (tupOf l) r ++ pairBs hs.length st.heap 0 os = prs at hret
    generalize hnm : nameK hs.length prs = nm at hret
    unfold retL1 at hret
    generalize hks : keysF (rowsK nm 0 os) = ks at hret
    unfold retL2 at hret
    split at hret
    case h_2 => cases hret
    rename_i m ps' H qs hgd hfz hsel
    cases hret
    simp only [Bool.and_eq_true] at hgd
    obtain ⟨⟨hnd, hgr⟩, hoo⟩ := hgd
    obtain ⟨hps, hle⟩ := conj_spec hq
    obtain ⟨us, h1, h2, h3⟩ := resAV_run hR hT _ _ hres
    have hv := retVal_rep h2 h3
    have hR2 : Rel V.C ⟨w, LentTo φ hs.length, lentAnc φ hs, []⟩ F { st with heap := dropAll ks st.heap } a' w' F' φ' :=
      ⟨hR.env, fun b c hc => hR.heap b c (get_dropAll hc).1, fun b b' c c' g h1 h2 => hR.inj b b' c c' g (get_dropAll h1).1 (get_dropAll h2).1, hR.ro, hR.base, hR.sub, hR.new, hR.dfr, hR.tsz, hR.glob,
        fun b p hp => ⟨(hR.anc b p hp).1, (hR.anc b p hp).2.1, fun c hc => (hR.anc b p hp).2.2 c (get_dropAll hc).1⟩⟩
    have hv2 := (frzK_rep (ks := ks) hR2 _ _ _ hfz fun p hp => hps p (by simp [hp])).1 _ hv
    have hlent : ∀ k, Lent { st with heap := dropAll ks st.heap } F' φ' k → F k ∨ (w.heap.size ≤ k ∨ LentTo φ hs.length k) := by
      rintro k (hk | ⟨b, c, hb, hk⟩)
      · exact hR.new k hk
      · exact .inr ((hR2.heap b c hb).lt hk).2.2
    have hlt : ∀ k, Lent { st with heap := dropAll ks st.heap } F' φ' k → k < w'.heap.size := by
      rintro k (hk | ⟨b, c, hb, hk⟩)
      · exact hR.ro k hk
      · exact ((hR2.heap b c hb).lt hk).1
    have hsel' : ∀ b c, get H b = some c → ∃ d, get st.heap b = some d ∧ b ∈ ks ∧ c.isRow = d.isRow ∧ match d, c with
      | .row ty sh n f, c => c = .row ty sh n f
      | .cell tc sh x, .cell tc' sh' y => tc' = tc ∧ sh' = sh ∧ ∃ qs, frzK ks (dropAll ks st.heap) x = some (y, qs) ∧ ∀ p ∈ qs, p
      | .cell _ _ _, .row _ _ _ _ => False := fun b c hc => by
      obtain ⟨d, k1, k2⟩ := selFrz_get hsel (fun p hp => hps p (by simp [hp])) hc
      obtain ⟨k3, k4⟩ := get_selAll k1
      exact ⟨d, k3, k4, k2⟩
    have hR3 : Rel { V.C with ntmps := 1 } ⟨w, LentTo φ hs.length, lentAnc φ hs, []⟩ F ⟨[(0, m)], H⟩ { tmps := #[retVal us], defers := [] } w' (Lent { st with heap := dropAll ks st.heap } F' φ') φ' := by
      refine ⟨fun s x hs => ?_, fun b c hc => ?_, fun b b' c c' g h1 h2 h3 h4 => ?_, hlt, hR.base, fun k hk => .inl (hR.sub k hk), fun k hk => hlent k hk, rfl, rfl, fun g x hg => (hR.glob g x hg).keep (fun _ _ => rfl) fun _ hk => .inl hk, fun b p hp => ?_⟩
      · simp only [get] at hs
        split at hs
        · rename_i e
          cases hs
          have := Nat.eq_of_beq_eq_true e
          subst this
          exact ⟨_, rfl, hv2⟩
        · cases hs
      · obtain ⟨d, k1, k2, _, k3⟩ := hsel' b c hc
        have hb := hR.heap b d k1
        have hg' : ∀ g, (φ' b).blk = some g → ¬ Lent { st with heap := dropAll ks st.heap } F' φ' g := fun g hg => by
          rintro (h5 | ⟨b', c', h5, h6⟩)
          · exact (hb.lt hg).2.1 h5
          · obtain ⟨h7, h8⟩ := get_dropAll h5
            exact h8 (hR.inj b' b c' d g h7 k1 h6 hg ▸ k2)
        cases d with
        | row ty sh n f =>
          subst k3
          exact hb.keep (fun _ _ => rfl) (fun _ hk => .inl hk) (fun g hg => ⟨rfl, hg' g hg⟩) rfl fun _ _ => rfl
        | cell tc sh x =>
          cases c with
          | row => exact k3.elim
          | cell tc' sh' y =>
            obtain ⟨rfl, rfl, qs', k4, k5⟩ := k3
            obtain ⟨b0, g, cs, b3, b4, b5, b6, b7, b8⟩ := hb
            exact ⟨b0, g, cs, b3, b4, hg' g b3, b6, b7, fun j hj => (frzK_rep (ks := ks) hR2 _ _ _ k4 k5).2 sh' j _ (b8 j hj)⟩
      · obtain ⟨d, k1, _⟩ := hsel' b c h1
        obtain ⟨d', k1', _⟩ := hsel' b' c' h2
        exact hR.inj b b' d d' g k1 k1' h3 h4
      · obtain ⟨a1, a2, a3⟩ := hR.anc b p hp
        refine ⟨a1, a2, fun c hc => ?_⟩
        obtain ⟨d, k1, _, k2, _⟩ := hsel' b c hc
        rw [k2]; exact a3 d k1
    obtain ⟨φ4, hR4⟩ := hR3.weaken hle
    obtain ⟨v, hv4, hrep⟩ := hR4.env 0 (r.sub nm) rfl
    simp at hv4
    subst hv4
    refine ⟨hR.dfr, _, results_run h1, _, _, fun i => φ4 (nm i), rfl, hR.base, fun k hk => .inl (hR.sub k hk), hlent, hlt, inv_res (m := isAt os) (n := nm) (φ2 := φ4) (fun _ _ => rfl) hgr hrep, fun i c hc => ?_, fun i i' c c' g hi hi' e e' => ?_, fun i tc sh x hi => ?_⟩
    · have hg := (get_rowsK os 0 i c (by rw [hks]; exact hnd) hc).1
      rw [Nat.zero_add] at hg
      exact box_inv (m := isAt os) (n := nm) (φ2 := φ4) (fun _ _ => rfl) (isAt_of hc) (onlyAllO_get hoo hc) (hR4.heap _ _ hg)
    · have k1 := (get_rowsK os 0 i _ (by rw [hks]; exact hnd) hi).1
      have k2 := (get_rowsK os 0 i' _ (by rw [hks]; exact hnd) hi').1
      rw [Nat.zero_add] at k1 k2
      have := hR4.inj _ _ _ _ g k1 k2 e e'
      exact nodup_rowsK os 0 i i' c c' (nm := nm) (by rw [hks]; exact hnd) hi hi' (by rw [Nat.zero_add, Nat.zero_add]; exact this)
    · have hlt := (List.getElem?_eq_some_iff.1 hi).1
      have e1 : nm i = atLent i := by
        rw [← hnm]
        have : Nat.blt i hs.length = true := Nat.ble_eq_true_of_le hlt
        simp only [nameK, this]
      have := hR4.anc (atLent i) (φ i) (by
        have h1 : Nat.ble 1099511627776 (1099511627776 + i) = true := Nat.ble_eq_true_of_le (by omega)
        simp only [lentAnc, atLent, h1, show 1099511627776 + i - 1099511627776 = i from by omega, hi])
      show φ4 (nm i) = φ i
      rw [e1]
      exact this.2.1
  cases e with
  | normal => exact fin hq
  | ret => exact fin hq
  | _ => exact hq.elim

/-- THE CONTRACT OF A FUNCTION that panics. -/
theorem RPan.of_vc {V : VCtx} {f : FuncId} {fn : Func} {args : List AV} {hs : List BoxC} {v : Value} (hf : V.C.P.funcs[f]? = some fn) (hn : fn.ntmps = V.C.ntmps) (hl : args.length ≤ V.C.ntmps) (hT : TysOK V.C) (hCC : CCOK V.C V.CC)
    (h : fnVcP V fn args hs v) : RPan V.C.P V.C.G f args hs v := by
  intro w F φ vs hro hglob hsz hr hbox hinj
  unfold fnVcP at h
  split at h
  case h_2 => exact h.elim
  rename_i c hgood hb
  refine calls_of_wp hf hb (wp_mono (vc_sound hT hCC c _ _ _ _ _ _ h (Rel.startL hn hl hgood hro hglob hsz hr hbox hinj)) ?_)
  rintro e a' w' ⟨st, F', φ', hR, hq⟩
  cases e with
  | panic ch =>
    have hq : ch = [⟨v, false, false⟩] := hq
    subst hq
    exact ⟨hR.dfr, F', rfl, hR.base, hR.sub, fun k hk => hR.new k hk, hR.ro⟩
  | _ => exact hq.elim
end
end Go.AV
/- A function with a deferred closure that takes up a panic. -/
namespace Go.AV
open Go.RowKit

/-- The closure: it takes up a panic with a struct of two numbers, empties the first of its two variables, and lays the fault in the second; behind a return it does nothing. -/
structure Catcher where
  f : FuncId
  tf : TypeId
  t1 : TypeId
  s1 : Shape
  z1 : AV
  t2 : TypeId
  s2 : Shape
def fault (e a : Int) : AV := .agg [.int .i64 e, .int .i64 a]
def CatchOK (P : Program) (K : Catcher) : Prop :=
  (∀ (vs : Array Value) (w : World), vs.size = 2 → CallsD P K.f vs .returning w fun e u' w' => e = .returned (.tuple #[]) ∧ u' = .returning ∧ w' = w) ∧
  ∀ (e a : Int), InR .i64 e → InR .i64 a → ∀ (w : World) (F : Nat → Prop) (φ : Nat → Place) (vs : Array Value), (∀ k, F k → k < w.heap.size) → vs.size = 2 →
    (∀ j, j < 2 → Rep w F φ (vs.getD j undef) ([.ptr 0 [], .ptr 1 []].getD j .any)) → (∀ (i : Nat) c, [BoxC.cell K.t1 K.s1 .any, .cell K.t2 K.s2 .any][i]? = some c → BoxOK w F φ (fun _ => True) i c) → (∀ i i' g, i < 2 → i' < 2 → (φ i).blk = some g → (φ i').blk = some g → i = i') →
    CallsD P K.f vs (.panicking [⟨.iface K.tf (.agg #[.int .i64 e, .int .i64 a]), false, false⟩]) w fun en u' w' => en = .returned (.tuple #[]) ∧ u' = .panicking [⟨.iface K.tf (.agg #[.int .i64 e, .int .i64 a]), true, false⟩] ∧ ∃ F' φ', Kept (LentTo φ 2) w w' ∧ (∀ k, F k → F' k) ∧
      (∀ k, F' k → F k ∨ w.heap.size ≤ k ∨ LentTo φ 2 k) ∧ (∀ k, F' k → k < w'.heap.size) ∧ BoxOK w' F' φ' (fun k => w.heap.size ≤ k ∨ LentTo φ 2 k) 0 (.cell K.t1 K.s1 K.z1) ∧
      BoxOK w' F' φ' (fun k => w.heap.size ≤ k ∨ LentTo φ 2 k) 1 (.cell K.t2 K.s2 (fault e a)) ∧ φ' 0 = φ 0 ∧ φ' 1 = φ 1

/-- The two boxes are called anew: they stay where they lie. -/
def ren2 (b1 b2 b : Nat) : Nat := match Nat.beq b b1 with
  | true => atLent 0
  | false => match Nat.beq b b2 with | true => atLent 1 | false => b
def lowN (b : Nat) : Bool := Nat.blt b 1099511627776
def renEnv (n : Nat → Nat) : List (Nat × AV) → List (Nat × AV)
  | [] => []
  | (s, x) :: l => (s, match x.only0 lowN && isVal x with | true => x.sub n | false => .when false .any) :: renEnv n l
def renHeap (n : Nat → Nat) : List (Nat × BoxC) → Option (List (Nat × BoxC))
  | [] => some []
  | (b, c) :: l => match c.only lowN && lowN b, renHeap n l with
    | true, some m => some ((n b, c.sub n) :: m)
    | _, _ => none
def isCellAt (h : List (Nat × BoxC)) (b : Nat) : Bool := match get h b with | some (.cell _ _ _) => true | _ => false
def renSt (b1 b2 : Nat) (st : St) : Option St :=
  match renHeap (ren2 b1 b2) st.heap, isCellAt st.heap b1 && isCellAt st.heap b2 && !Nat.beq b1 b2 with
  | some h, true => some ⟨renEnv (ren2 b1 b2) st.env, h⟩
  | _, _ => none

def deferOf (C : Cfg) (st : St) (x : Code) : Option (FuncId × Nat × Nat × St) :=
  match x with
  | .region _ ops false => match ops.toList with
    | [o1, o2] => match o1.op, o1.dst, o1.guard, o2.op, o2.dst, o2.guard with
      | .makeFunc (.func f) first caps, some d, none, .defer c, none, none => match c.callee, c.args.toList, evList (ev C st) caps.toList with
        | .value (.tmp d'), [], some l => match Nat.beq d d' && Nat.blt d C.ntmps && Nat.beq first.size 0 with
          | true => match l with
            | [.ptr b1 [], .ptr b2 []] => match renSt b1 b2 { st with env := del st.env d } with
              | some st1 => some (f, b1, b2, st1)
              | none => none
            | _ => none
          | false => none
        | _, _, _ => none
      | _, _, _, _, _, _ => none
    | _ => none
  | _ => none

def postD (V : VCtx) (K : Catcher) (fn : Func) (r : AV) (f : FuncId) (e : Exit) (st : St) : Prop :=
  match Nat.beq f K.f with
  | true => match e with
    | .ret | .normal => fnPost V fn r .ret st
    | .panic ch => match get st.heap (atLent 0), get st.heap (atLent 1) with
      | some (.cell t1 s1 _), some (.cell t2 s2 _) => match Nat.beq t1 K.t1 && s1.same K.s1 && Nat.beq t2 K.t2 && s2.same K.s2 && K.z1.isStat with
        | true => ∃ x y, ch = [⟨.iface K.tf (.agg #[.int .i64 x, .int .i64 y]), false, false⟩] ∧ InR .i64 x ∧ InR .i64 y ∧ fnPost V fn r .ret { st with heap := put (put st.heap (atLent 1) (.cell t2 s2 (fault x y))) (atLent 0) (.cell t1 s1 K.z1) }
        | false => False
      | _, _ => False
    | _ => False
  | false => False

def vcD (V : VCtx) (K : Catcher) (fn : Func) (r : AV) : Code → St → Prop
  | .seq x y, st => match deferOf V.C st x with
    | some (f, _, _, st1) => vc V y st1 (postD V K fn r f)
    | none => vc V x st (fun e st' => match e with | .normal => vcD V K fn r y st' | e => fnPost V fn r e st')
  | _, _ => False
def fnVcD (V : VCtx) (K : Catcher) (fn : Func) (args : List AV) (r : AV) : Prop :=
  match fn.body with
  | some c => vcD V K fn r c ⟨argEnv 0 args, []⟩
  | none => False

section
variable {C : Cfg} {W0 : Entry} {F0 : Nat → Prop} {st : St} {a : Act} {w : World} {F : Nat → Prop} {φ : Nat → Place}

theorem renEnv_get {n : Nat → Nat} : ∀ {l : List (Nat × AV)} {s : Nat} {y : AV}, get (renEnv n l) s = some y → ∃ x, get l s = some x ∧ ((x.only0 lowN = true ∧ isVal x = true ∧ y = x.sub n) ∨ y = .when false .any)
  | [], _, _, h => by simp [renEnv, get] at h
  | (k, x) :: l, s, y, h => by
    simp only [renEnv, get] at h ⊢
    split at h
    · cases h
      refine ⟨x, rfl, ?_⟩
      split
      · rename_i hc; simp only [Bool.and_eq_true] at hc; exact .inl ⟨hc.1, hc.2, rfl⟩
      · exact .inr rfl
    · exact renEnv_get h
theorem low_lt {b : Nat} (h : lowN b = true) : b < 1099511627776 := Nat.le_of_ble_eq_true h
theorem ren2_eq {b1 b2 b : Nat} : (b = b1 ∧ ren2 b1 b2 b = atLent 0) ∨ (b ≠ b1 ∧ b = b2 ∧ ren2 b1 b2 b = atLent 1) ∨ (b ≠ b1 ∧ b ≠ b2 ∧ ren2 b1 b2 b = b) := by
  unfold ren2
  cases h1 : Nat.beq b b1 with
  | true => exact .inl ⟨Nat.eq_of_beq_eq_true h1, rfl⟩
  | false =>
    have n1 : b ≠ b1 := fun e => by subst e; rw [Nat.beq_refl] at h1; cases h1
    cases h2 : Nat.beq b b2 with
    | true => exact .inr (.inl ⟨n1, Nat.eq_of_beq_eq_true h2, rfl⟩)
    | false =>
      have n2 : b ≠ b2 := fun e => by subst e; rw [Nat.beq_refl] at h2; cases h2
      exact .inr (.inr ⟨n1, n2, rfl⟩)
theorem ren2_inj {b1 b2 b b' : Nat} (h : lowN b = true) (h' : lowN b' = true) (e : ren2 b1 b2 b = ren2 b1 b2 b') : b = b' := by
  have := low_lt h
  have := low_lt h'
  have a0 : atLent 0 = 1099511627776 := rfl
  have a1 : atLent 1 = 1099511627777 := rfl
  rcases ren2_eq (b1 := b1) (b2 := b2) (b := b) with ⟨k1, k2⟩ | ⟨_, k1, k2⟩ | ⟨_, _, k2⟩ <;> rcases ren2_eq (b1 := b1) (b2 := b2) (b := b') with ⟨m1, m2⟩ | ⟨_, m1, m2⟩ | ⟨_, _, m2⟩ <;> omega
theorem renHeap_get {b1 b2 : Nat} : ∀ {l m : List (Nat × BoxC)} {b' : Nat} {c' : BoxC}, renHeap (ren2 b1 b2) l = some m → get m b' = some c' → ∃ b c, get l b = some c ∧ b' = ren2 b1 b2 b ∧ c' = c.sub (ren2 b1 b2) ∧ c.only lowN = true ∧ lowN b = true
  | [], m, b', c', h, hg => by simp [renHeap] at h; subst h; simp [get] at hg
  | (k, d) :: l, m, b', c', h, hg => by
    simp only [renHeap] at h
    split at h
    case h_2 => cases h
    rename_i m' hc hm
    cases h
    simp only [Bool.and_eq_true] at hc
    simp only [get] at hg
    split at hg
    · rename_i e
      cases hg
      exact ⟨k, d, by simp [get], (Nat.eq_of_beq_eq_true e).symm, rfl, hc.1, hc.2⟩
    · rename_i e
      obtain ⟨b, c, q1, q2, q3, q4, q5⟩ := renHeap_get hm hg
      refine ⟨b, c, ?_, q2, q3, q4, q5⟩
      have : Nat.beq k b = false := by
        cases hk : Nat.beq k b with
        | false => rfl
        | true =>
          have hk := Nat.eq_of_beq_eq_true hk
          subst hk
          rw [q2, Nat.beq_refl] at e; cases e
      simp only [get, this]
      exact q1
def renPl (φ : Nat → Place) (b1 b2 b : Nat) : Place := match Nat.beq b (atLent 0) with
  | true => φ b1
  | false => match Nat.beq b (atLent 1) with | true => φ b2 | false => φ b
theorem renPl_0 (φ : Nat → Place) (b1 b2 : Nat) : renPl φ b1 b2 (atLent 0) = φ b1 := by simp [renPl]
theorem renPl_1 (φ : Nat → Place) (b1 b2 : Nat) : renPl φ b1 b2 (atLent 1) = φ b2 := by
  have : Nat.beq (atLent 1) (atLent 0) = false := by decide
  simp [renPl, this]
theorem renPl_at (φ : Nat → Place) (b1 b2 b : Nat) (h : lowN b = true) : renPl φ b1 b2 (ren2 b1 b2 b) = φ b := by
  have hb := low_lt h
  rcases ren2_eq (b1 := b1) (b2 := b2) (b := b) with ⟨k1, k2⟩ | ⟨_, k1, k2⟩ | ⟨_, _, k2⟩
  · rw [k2, renPl_0, k1]
  · rw [k2, renPl_1, k1]
  · rw [k2]
    have n0 : Nat.beq b (atLent 0) = false := by
      cases e : Nat.beq b (atLent 0) with
      | false => rfl
      | true => have := Nat.eq_of_beq_eq_true e; unfold atLent at this; omega
    have n1 : Nat.beq b (atLent 1) = false := by
      cases e : Nat.beq b (atLent 1) with
      | false => rfl
      | true => have := Nat.eq_of_beq_eq_true e; unfold atLent at this; omega
    simp [renPl, n0, n1]
def renAnc (φ : Nat → Place) (b1 b2 b : Nat) : Option Place := match Nat.beq b (atLent 0) with
  | true => some (φ b1)
  | false => match Nat.beq b (atLent 1) with | true => some (φ b2) | false => none
/-- The two boxes called anew, and kept in their places from here on. -/
theorem Rel.ren {w0 : World} {D D' : List Deferred} {st' : St} {b1 b2 : Nat} {a' : Act} (h : Rel C ⟨w0, fun _ => False, fun _ => none, D⟩ F0 st a w F φ) (hs : renSt b1 b2 st = some st') (ht : a'.tmps = a.tmps) (hD : a'.defers = D') :
    Rel C ⟨w0, fun _ => False, renAnc φ b1 b2, D'⟩ F0 st' a' w F (renPl φ b1 b2) := by
  unfold renSt at hs
  split at hs
  case h_2 => cases hs
  rename_i hp hh hc
  cases hs
  simp only [Bool.and_eq_true, Bool.not_eq_true'] at hc
  obtain ⟨⟨c1, c2⟩, c3⟩ := hc
  have cell : ∀ b, isCellAt st.heap b = true → ∀ c, get st.heap b = some c → c.isRow = false := fun b hb c hc => by
    unfold isCellAt at hb
    rw [hc] at hb
    cases c with
    | cell => rfl
    | row => cases hb
  refine ⟨fun s y hs => ?_, fun b c hc => ?_, fun b b' c c' g k1 k2 k3 k4 => ?_, h.ro, h.base, h.sub, h.new, hD, by rw [ht]; exact h.tsz, h.glob, fun b p hb => ?_⟩
  · obtain ⟨x, hx, hy⟩ := renEnv_get hs
    obtain ⟨v, hv, hr⟩ := h.env s x hx
    refine ⟨v, by rw [ht]; exact hv, ?_⟩
    rcases hy with ⟨h1, h2, rfl⟩ | rfl
    · exact sub_val (φ2 := renPl φ b1 b2) (n := ren2 b1 b2) (m := lowN) (fun b hb => renPl_at φ b1 b2 b hb) (isVal_or h2) h1 hr
    · exact .whenT false (fun h => by cases h) fun _ => .inr rfl
  · obtain ⟨b0, c0, q1, rfl, rfl, q4, q5⟩ := renHeap_get hh hc
    exact box_sub (φ2 := renPl φ b1 b2) (n := ren2 b1 b2) (m := lowN) (fun b hb => renPl_at φ b1 b2 b hb) q5 q4 (h.heap b0 c0 q1)
  · obtain ⟨d, c0, q1, rfl, rfl, q4, q5⟩ := renHeap_get hh k1
    obtain ⟨d', c0', q1', rfl, rfl, q4', q5'⟩ := renHeap_get hh k2
    rw [renPl_at _ _ _ _ q5] at k3
    rw [renPl_at _ _ _ _ q5'] at k4
    rw [h.inj d d' _ _ g q1 q1' k3 k4]
  · change renAnc φ b1 b2 b = some p at hb
    unfold renAnc at hb
    have kind : ∀ i, (i = 0 ∧ isCellAt st.heap b1 = true) ∨ (i = 1 ∧ isCellAt st.heap b2 = true) → ∀ c, get hp (atLent i) = some c → c.isRow = false := fun i hi c hc => by
      obtain ⟨d, c0, q1, q2, rfl, q4, q5⟩ := renHeap_get hh hc
      have hd := low_lt q5
      have : c0.isRow = false := by
        rcases hi with ⟨rfl, hi⟩ | ⟨rfl, hi⟩
        · rcases ren2_eq (b1 := b1) (b2 := b2) (b := d) with ⟨k1, k2⟩ | ⟨_, k1, k2⟩ | ⟨_, _, k2⟩
          · subst k1; exact cell _ hi c0 q1
          · rw [k2] at q2; unfold atLent at q2; omega
          · rw [k2] at q2; unfold atLent at q2; omega
        · rcases ren2_eq (b1 := b1) (b2 := b2) (b := d) with ⟨k1, k2⟩ | ⟨_, k1, k2⟩ | ⟨_, _, k2⟩
          · rw [k2] at q2; unfold atLent at q2; omega
          · subst k1; exact cell _ hi c0 q1
          · rw [k2] at q2; unfold atLent at q2; omega
      cases c0 with
      | cell => rfl
      | row => cases this
    split at hb
    · rename_i e
      cases hb
      have e := Nat.eq_of_beq_eq_true e
      subst e
      exact ⟨by unfold atLent; omega, renPl_0 φ b1 b2, kind 0 (.inl ⟨rfl, c1⟩)⟩
    · split at hb
      · rename_i e
        cases hb
        have e := Nat.eq_of_beq_eq_true e
        subst e
        exact ⟨by unfold atLent; omega, renPl_1 φ b1 b2, kind 1 (.inr ⟨rfl, c2⟩)⟩
      · cases hb

/-- Two boxes have turned. -/
theorem Rel.after2 (h : Rel C W0 F0 st a w F φ) {b1 b2 : Nat} {t1 t2 : TypeId} {s1 s2 : Shape} {x1 x2 y1 y2 : AV} (hb1 : get st.heap b1 = some (.cell t1 s1 x1)) (hb2 : get st.heap b2 = some (.cell t2 s2 x2)) (hne : b1 ≠ b2) {w' : World} {F' : Nat → Prop} {φ' : Nat → Place}
    (hk : Kept (LentTo (fun i => φ ([b1, b2].getD i 0)) 2) w w') (f1 : ∀ k, F k → F' k) (f2 : ∀ k, F' k → F k ∨ w.heap.size ≤ k ∨ LentTo (fun i => φ ([b1, b2].getD i 0)) 2 k) (f3 : ∀ k, F' k → k < w'.heap.size)
    (B1 : BoxOK w' F' φ' (fun k => w.heap.size ≤ k ∨ LentTo (fun i => φ ([b1, b2].getD i 0)) 2 k) 0 (.cell t1 s1 y1)) (B2 : BoxOK w' F' φ' (fun k => w.heap.size ≤ k ∨ LentTo (fun i => φ ([b1, b2].getD i 0)) 2 k) 1 (.cell t2 s2 y2)) (e1 : φ' 0 = φ b1) (e2 : φ' 1 = φ b2)
    (z1 : y1.isStat = true) (z2 : y2.isStat = true) : Rel C W0 F0 { st with heap := put (put st.heap b2 (.cell t2 s2 y2)) b1 (.cell t1 s1 y1) } a w' F' φ := by
  have hnd : nodupN [b1, b2] = true := by
    have : Nat.beq b2 b1 = false := by
      cases e : Nat.beq b2 b1 with
      | false => rfl
      | true => exact absurd (Nat.eq_of_beq_eq_true e).symm hne
    simp [nodupN, inN, this]
  have i0 : idxN [b1, b2] b1 = 0 := by simp [idxN]
  have i1 : idxN [b1, b2] b2 = 1 := by
    have : Nat.beq b1 b2 = false := by
      cases e : Nat.beq b1 b2 with
      | false => rfl
      | true => exact absurd (Nat.eq_of_beq_eq_true e) hne
    simp [idxN, this]
  have hA := h.lentBack (ns := [b1, b2]) (hs := [.cell t1 s1 x1, .cell t2 s2 x2]) (os := [some (.cell t1 s1 x1), some (.cell t2 s2 x2)]) (φ' := φ') hnd ⟨rfl, fun i b hi => by
      match i, hi with
      | 0, hi => simp at hi; subst hi; exact ⟨_, rfl, hb1⟩
      | 1, hi => simp at hi; subst hi; exact ⟨_, rfl, hb2⟩⟩ hk f1 f2 f3 fun i tc sh x hi => by
      match i, hi with
      | 0, _ => exact e1
      | 1, _ => exact e2
  have hφ : (fun b => if inN b [b1, b2] then φ' (idxN [b1, b2] b) else φ b) = φ := by
    funext b
    by_cases h1 : b = b1
    · subst h1; simp [inN, i0, e1]
    · by_cases h2 : b = b2
      · subst h2; simp [inN, i1, e2]
      · have n1 : Nat.beq b1 b = false := by
          cases e : Nat.beq b1 b with
          | false => rfl
          | true => exact absurd (Nat.eq_of_beq_eq_true e).symm h1
        have n2 : Nat.beq b2 b = false := by
          cases e : Nat.beq b2 b with
          | false => rfl
          | true => exact absurd (Nat.eq_of_beq_eq_true e).symm h2
        simp [inN, n1, n2]
  rw [hφ] at hA
  have hBB : ∀ k, (w.heap.size ≤ k ∨ LentTo (fun i => φ ([b1, b2].getD i 0)) 2 k) → W0.B k := fun k hk => by
    rcases hk with hk | ⟨i, hi, hg⟩
    · exact h.bnew hk
    · match i, hi with
      | 0, _ => exact ((h.heap b1 _ hb1).lt hg).2.2
      | 1, _ => exact ((h.heap b2 _ hb2).lt hg).2.2
  have box : ∀ (i b : Nat) (t : TypeId) (s : Shape) (y : AV), φ' i = φ b → y.isStat = true → BoxOK w' F' φ' (fun k => w.heap.size ≤ k ∨ LentTo (fun i => φ ([b1, b2].getD i 0)) 2 k) i (.cell t s y) → BoxOK w' F' φ W0.B b (.cell t s y) := by
    intro i b t s y e z hB
    obtain ⟨k1, g, cs, k2, k3, k4, k5, k6, k7⟩ := hB
    rw [e] at k1 k2
    exact ⟨k1, g, cs, k2, hBB _ k3, k4, k5, k6, fun j hj => .stat ((k7 j hj).toS (stat_leafAt s y j z))⟩
  have old : ∀ b c, get (dropAll [b1, b2] (killsHeap (goneN [b1, b2] [.cell t1 s1 x1, .cell t2 s2 x2] [some (.cell t1 s1 x1), some (.cell t2 s2 x2)]) st.heap)) b = some c → get st.heap b = some c ∧ b ≠ b1 ∧ b ≠ b2 := fun b c hc => by
    obtain ⟨k1, k2⟩ := get_dropAll hc
    exact ⟨k1, fun e => k2 (by simp [e]), fun e => k2 (by simp [e])⟩
  have gdrop : ∀ b c, b ≠ b1 → b ≠ b2 → get st.heap b = some c → get (dropAll [b1, b2] st.heap) b = some c := by
    intro b c n1 n2 hb
    have key : ∀ l : List (Nat × BoxC), get l b = some c → get (dropAll [b1, b2] l) b = some c := by
      intro l
      induction l with
      | nil => intro h; exact h
      | cons p l ih =>
        obtain ⟨k, d⟩ := p
        intro h
        simp only [get] at h
        simp only [dropAll]
        split at h
        · rename_i e
          have e := Nat.eq_of_beq_eq_true e
          subst e
          have : inN k [b1, b2] = false := by
            cases hi : inN k [b1, b2] with
            | false => rfl
            | true => have := inN_iff.1 hi; simp at this; omega
          rw [this]
          simp only [get, Nat.beq_refl, h]
        · rename_i e
          split
          · exact ih h
          · simp only [get, e]; exact ih h
    exact key st.heap hb
  have look : ∀ b c, get (put (put st.heap b2 (.cell t2 s2 y2)) b1 (.cell t1 s1 y1)) b = some c → (b = b1 ∧ c = .cell t1 s1 y1) ∨ (b = b2 ∧ c = .cell t2 s2 y2) ∨ (b ≠ b1 ∧ b ≠ b2 ∧ get st.heap b = some c) := fun b c hc => by
    by_cases h1 : b = b1
    · subst h1; rw [get_put_same] at hc; cases hc; exact .inl ⟨rfl, rfl⟩
    · rw [get_put_other _ _ _ _ h1] at hc
      by_cases h2 : b = b2
      · subst h2; rw [get_put_same] at hc; cases hc; exact .inr (.inl ⟨rfl, rfl⟩)
      · rw [get_put_other _ _ _ _ h2] at hc; exact .inr (.inr ⟨h1, h2, hc⟩)
  have hA2 : Rel C W0 F0 ⟨st.env, dropAll [b1, b2] st.heap⟩ a w' F' φ := hA
  have orig : ∀ b c, get (put (put st.heap b2 (.cell t2 s2 y2)) b1 (.cell t1 s1 y1)) b = some c → ∃ c', get st.heap b = some c' ∧ c'.isRow = c.isRow := fun b c hc => by
    rcases look b c hc with ⟨rfl, rfl⟩ | ⟨rfl, rfl⟩ | ⟨_, _, h3⟩
    · exact ⟨_, hb1, rfl⟩
    · exact ⟨_, hb2, rfl⟩
    · exact ⟨_, h3, rfl⟩
  refine hA2.setHeap (fun b c hc => ?_) (fun b b' c c' g h1 h2 h3 h4 => ?_) fun b p c hb hc => ?_
  · rcases look b c hc with ⟨rfl, rfl⟩ | ⟨rfl, rfl⟩ | ⟨n1, n2, h3⟩
    · exact box 0 b t1 s1 y1 e1 z1 B1
    · exact box 1 b t2 s2 y2 e2 z2 B2
    · exact hA2.heap b c (gdrop b c n1 n2 h3)
  · obtain ⟨d, k1, _⟩ := orig b c h1
    obtain ⟨d', k2, _⟩ := orig b' c' h2
    exact h.inj b b' d d' g k1 k2 h3 h4
  · obtain ⟨d, k1, k2⟩ := orig b c hc
    rw [← k2]; exact (h.anc b p hb).2.2 d k1

/-- THE CONTRACT OF A FUNCTION with a deferred closure. -/
theorem RCalls.of_vcD {V : VCtx} {K : Catcher} {f : FuncId} {fn : Func} {args : List AV} {r : AV} (hf : V.C.P.funcs[f]? = some fn) (hn : fn.ntmps = V.C.ntmps) (hl : args.length ≤ V.C.ntmps) (hT : TysOK V.C) (hCC : CCOK V.C V.CC) (hK : CatchOK V.C.P K) (hKo : CallOK V.C.P K.f)
    (h : fnVcD V K fn args r) : RCalls V.C.P V.C.G f args r := by
  intro w F vs hro hglob hsz hr
  unfold fnVcD at h
  split at h
  case h_2 => exact h.elim
  rename_i c hb
  refine calls_of_wp_defers hf hb ?_
  have hR0 := Rel.start hn hl hro hglob hsz hr
  generalize ({ tmps := vs ++ Array.replicate (fn.ntmps - vs.size) undef, defers := [] } : Act) = a0 at hR0 ⊢
  clear hb
  have ret : ∀ {A : Nat → Option Place} {D : List Deferred} {st : St} {a' : Act} {w' : World} {F' : Nat → Prop} {φ' : Nat → Place}, Rel V.C ⟨w, fun _ => False, A, D⟩ F st a' w' F' φ' → fnPost V fn r .ret st →
      ∃ u, (results fn a'.tmps).run V.C.P w' = .ok u w' ∧ ∃ v F', (Ending.returned u) = .returned v ∧ Below w.heap.size w w' ∧ (∀ k, F k → F' k) ∧ (∀ k, F' k → F k ∨ w.heap.size ≤ k) ∧ (∀ k, F' k → k < w'.heap.size) ∧ RepR w' F' v r := fun hR hq => post_ret hT hR hq
  have main : ∀ (c : Code) (st : St) (a : Act) (w1 : World) (F1 : Nat → Prop) (φ1 : Nat → Place), Rel V.C (.of w) F st a w1 F1 φ1 → vcD V K fn r c st → c.wp V.C.P (bodyPostD V.C.P fn fun en w' => ∃ v F', en = .returned v ∧ Below w.heap.size w w' ∧ (∀ k, F k → F' k) ∧ (∀ k, F' k → F k ∨ w.heap.size ≤ k) ∧ (∀ k, F' k → k < w'.heap.size) ∧ RepR w' F' v r) a w1 := by
    intro c
    induction c with
    | seq x y ihx ihy =>
      intro st a w1 F1 φ1 hR hv
      simp only [vcD] at hv
      split at hv
      · rename_i f' b1 b2 st1 hd
        clear ihx
        unfold deferOf at hd
        split at hd
        case h_2 => cases hd
        rename_i id ops
        split at hd
        case h_2 => cases hd
        rename_i o1 o2 hops
        split at hd
        case h_2 => cases hd
        rename_i f2 first capv d cc q1 q2 q3 q4 q5 q6
        split at hd
        case h_2 => cases hd
        rename_i d' l hcal hargs hev
        split at hd
        case h_2 => cases hd
        rename_i hcnd
        split at hd
        case h_2 => cases hd
        rename_i c1 c2
        split at hd
        case h_2 => cases hd
        rename_i st2 hren
        cases hd
        simp only [Bool.and_eq_true] at hcnd
        obtain ⟨⟨p1, p2⟩, p3⟩ := hcnd
        have e := Nat.eq_of_beq_eq_true p1
        subst e
        have hdlt : d < V.C.ntmps := Nat.le_of_ble_eq_true p2
        obtain rfl : first = #[] := Array.eq_empty_of_size_eq_zero (Nat.eq_of_beq_eq_true p3)
        obtain ⟨n1, n2⟩ := evList_rep hev (fun x _ u hu => hR.ev hu)
        have eops : ops = #[o1, o2] := by rw [← Array.toArray_toList (xs := ops), hops]
        subst eops
        have hcargs : cc.args = #[] := by rw [← Array.toArray_toList (xs := cc.args), hargs]
        refine wp_seq (wp_region ?_)
        have r1 : (execOp a.eval o1).run V.C.P w1 = .ok (.value (.func (.func f') #[] (capv.map a.eval))) w1 := by
          simp only [execOp, q1]
          refine run_value ?_
          simp [Instr.makeFunc]
        have hv1 : (a.put (some d) (.func (.func f') #[] (capv.map a.eval))).eval (.tmp d) = .func (.func f') #[] (capv.map a.eval) := by
          simp only [Act.put, Act.eval, Array.getD_eq_getD_getElem?]
          rw [Array.getElem?_setIfInBounds_self_of_lt (by rw [hR.tsz]; exact hdlt)]
          rfl
        have r2 : (execOp (a.put (some d) (.func (.func f') #[] (capv.map a.eval))).eval o2).run V.C.P w1 = .ok (.defer { target := .fn (.func f') (capv.map a.eval), args := #[] }) w1 := by
          obtain ⟨callee, cargs, tys⟩ := cc
          simp only at hcal hcargs
          subst hcal hcargs
          simp only [execOp, q4, resolve, Sem.run_bind, hv1]
          simp [Deferred.ofValue]
        show wpOps V.C.P #[o1, o2] _ [0, 1] a w1
        have k0 : (#[o1, o2] : Array Oper)[0]? = some o1 := rfl
        have k1 : (#[o1, o2] : Array Oper)[1]? = some o2 := rfl
        simp only [wpOps, k0, k1]
        have w1' : ∀ m, Region.wanted o1 m = true := fun m => by simp [Region.wanted, q3]
        have w2' : ∀ m, Region.wanted o2 m = true := fun m => by simp [Region.wanted, q6]
        rw [if_pos (w1' _)]
        refine .inl ?_
        unfold Oper.wp
        rw [r1, Oper.upon_value, q2]
        rw [if_pos (w2' _)]
        refine .inl ?_
        rw [r2, Oper.upon_defer, q5]
        have hR1 := hR.putU d (.func (.func f') #[] (capv.map a.eval))
        have hR2 := hR1.ren (D' := [{ target := .fn (.func f') (capv.map a.eval), args := #[] }]) (a' := { (a.put (some d) (.func (.func f') #[] (capv.map a.eval))) with defers := { target := .fn (.func f') (capv.map a.eval), args := #[] } :: (a.put (some d) (.func (.func f') #[] (capv.map a.eval))).defers }) hren rfl (by rw [hR1.dfr]; rfl)
        refine wp_mono (vc_sound hT hCC y _ _ _ _ _ _ hv hR2) ?_
        rintro e a' w' ⟨st', F', φ', hE, hq⟩
        have hdf : a'.defers = [{ target := .fn (.func f') (capv.map a.eval), args := #[] }] := hE.dfr
        have an0 : φ' (atLent 0) = φ1 b1 := (hE.anc (atLent 0) (φ1 b1) (by simp [renAnc])).2.1
        have bne : Nat.beq (atLent 1) (atLent 0) = false := by decide
        have an1 : φ' (atLent 1) = φ1 b2 := (hE.anc (atLent 1) (φ1 b2) (by simp [renAnc, bne])).2.1
        -- what the closure was given
        unfold postD at hq
        split at hq
        case h_2 => exact hq.elim
        rename_i hfk
        have efk := Nat.eq_of_beq_eq_true hfk
        subst efk
        have hcs : (capv.map a.eval).size = 2 := by simpa using n1
        have hinv : (invoke (.fn (.func K.f) (capv.map a.eval)) #[]).run V.C.P w' = .ok (.enter K.f (capv.map a.eval)) w' := by
          simp only [invoke, Array.empty_append]
          exact hKo _ w'
        have idle : fnPost V fn r .ret st' → Leaves V.C.P fn a'.tmps (fun en w' => ∃ v F', en = .returned v ∧ Below w.heap.size w w' ∧ (∀ k, F k → F' k) ∧ (∀ k, F' k → F k ∨ w.heap.size ≤ k) ∧ (∀ k, F' k → k < w'.heap.size) ∧ RepR w' F' v r) a'.defers .returning w' := fun hq => by
          rw [hdf]
          refine leaves_cons (by simp) hinv ((hK.1 _ w' hcs).mono ?_)
          rintro en u' w2 ⟨rfl, rfl, rfl⟩
          exact ret hE hq
        cases e with
        | normal => exact idle hq
        | ret => exact idle hq
        | panic ch =>
          dsimp only at hq
          split at hq
          case h_2 => exact hq.elim
          rename_i t1 s1 x1 t2 s2 x2 g1 g2
          split at hq
          case h_2 => exact hq.elim
          rename_i hty
          simp only [Bool.and_eq_true] at hty
          obtain ⟨⟨⟨⟨u1, u2⟩, u3⟩, u4⟩, u5⟩ := hty
          have u1 := Nat.eq_of_beq_eq_true u1
          have u2 := Shape.same_eq _ _ u2
          have u3 := Nat.eq_of_beq_eq_true u3
          have u4 := Shape.same_eq _ _ u4
          subst u1 u2 u3 u4
          obtain ⟨x, y', rfl, i1, i2, hfin⟩ := hq
          have hne : atLent 0 ≠ atLent 1 := by decide
          show Leaves V.C.P fn a'.tmps _ a'.defers _ w'
          rw [hdf]
          have anyBox : ∀ (B : Nat → Prop) b t s x, BoxOK w' F' φ' B b (.cell t s x) → ∀ (φ2 : Nat → Place) (i : Nat), φ2 i = φ' b → BoxOK w' F' φ2 (fun _ => True) i (.cell t s .any) := by
            rintro B b t s x ⟨k1, g, cs, k2, k3, k4, k5, k6, k7⟩ φ2 i e
            refine ⟨by rw [e]; exact k1, g, cs, by rw [e]; exact k2, trivial, k4, k5, k6, fun j hj => ?_⟩
            have h1 := Rep.leaf1 s x j (k7 j hj)
            have h2 : (leafAt s .any j) = .any := by cases s <;> rfl
            rw [h2]; exact .stat (.any _ h1)
          refine leaves_cons (by simp) hinv ((hK.2 x y' i1 i2 w' F' (fun i => φ' ([atLent 0, atLent 1].getD i 0)) (capv.map a.eval) hE.ro hcs (fun j hj => ?_) (fun i c hi => ?_) fun i i' g hi hi' e e' => ?_).mono ?_)
          · have hj2 := n2 j (by simpa using hj)
            have ptr : ∀ (b i : Nat) (v : Value), φ' (atLent i) = φ1 b → Rep w1 F1 φ1 v (.ptr b []) → ([atLent 0, atLent 1].getD i 0) = atLent i → Rep w' F' (fun i => φ' ([atLent 0, atLent 1].getD i 0)) v (.ptr i []) := fun b i v e hv hi => by
              obtain ⟨g, hg, _, rfl⟩ := hv.ptr_inv
              exact .ptr (φ := fun i => φ' ([atLent 0, atLent 1].getD i 0)) i g [] (by simp only [hi, e]; exact hg) trivial
            match j, hj with
            | 0, _ => exact ptr b1 0 _ an0 (by simpa [Array.getD_eq_getD_getElem?, List.getD_eq_getElem?_getD] using hj2) rfl
            | 1, _ => exact ptr b2 1 _ an1 (by simpa [Array.getD_eq_getD_getElem?, List.getD_eq_getElem?_getD] using hj2) rfl
          · match i, hi with
            | 0, hi => simp at hi; subst hi; exact anyBox _ (atLent 0) _ _ _ (hE.heap _ _ g1) _ 0 rfl
            | 1, hi => simp at hi; subst hi; exact anyBox _ (atLent 1) _ _ _ (hE.heap _ _ g2) _ 1 rfl
          · match i, i', hi, hi' with
            | 0, 0, _, _ => rfl
            | 1, 1, _, _ => rfl
            | 0, 1, _, _ => exact absurd (hE.inj _ _ _ _ g g1 g2 e e') hne
            | 1, 0, _, _ => exact absurd (hE.inj _ _ _ _ g g1 g2 e' e) hne
          · rintro en u' w2 ⟨rfl, rfl, F2, φ2, k1, k2, k3, k4, k5, k6, k7, k8⟩
            exact ret (hE.after2 g1 g2 hne k1 k2 k3 k4 k5 k6 k7 k8 u5 rfl) hfin
        | _ => exact hq.elim
      · refine wp_seq (wp_mono (vc_sound hT hCC x _ _ _ _ _ _ hv hR) ?_)
        rintro e a' w' ⟨st', F', φ', hE, hq⟩
        have hdf : a'.defers = [] := hE.dfr
        cases e with
        | normal => exact ihy _ _ _ _ _ hE hq
        | ret =>
          show Leaves V.C.P fn a'.tmps _ a'.defers _ w'
          rw [hdf]
          exact ret hE hq
        | _ => exact hq.elim
    | _ => intro st a w1 F1 φ1 hR hv; exact hv.elim
  exact main c _ _ _ _ _ hR0 h
end
end Go.AV
/- Contracts of the functions of one program. -/
namespace Go.AV
open Go.RowKit

theorem CallOK.of {P : Program} {f : FuncId} {fn : Func} (hf : P.funcs[f]? = some fn) (hn : (fn.name == "runtime.NumGoroutine") = false) (hb : fn.body.isNone = false) : CallOK P f := by
  intro args w
  simp only [callFunc, Sem.run_bind, run_program, Result.andThen_ok, hf, hn, hb, Bool.false_eq_true, if_false]
  rfl

/-- What is known of a function: it is the program's own, or the model's, and answers so. -/
def Known (P : Program) (G : List (Nat × AV)) (f : FuncId) (args : List AV) (r : AV) : Prop := (CallOK P f ∧ RCalls P G f args r) ∨ RExt P f args r

/-- The same of a function that hands rows over. -/
def KnownF (P : Program) (G : List (Nat × AV)) (f : FuncId) (args : List AV) (r : AV) (cs : List BoxC) : Prop := CallOK P f ∧ RFresh P G f args r cs

/-- The same of a function to which boxes are lent. -/
def KnownL (P : Program) (G : List (Nat × AV)) (f : FuncId) (args : List AV) (hs : List BoxC) (r : AV) (os : List (Option BoxC)) : Prop := CallOK P f ∧ RLent P G f args hs r os

/-- The same of a function that panics where p says so. -/
def KnownP (P : Program) (G : List (Nat × AV)) (f : FuncId) (args : List AV) (hs : List BoxC) (p : Bool) (v : Value) : Prop := p = true → CallOK P f ∧ RPan P G f args hs v

theorem known_ok (C : Cfg) (hF : ∀ f as r cs, C.CCF f as r cs → KnownF C.P C.G f as r cs) (hL : ∀ f as hs r os, C.CCL f as hs r os → KnownL C.P C.G f as hs r os) (hP : ∀ f as hs p v, C.CCP f as hs p v → KnownP C.P C.G f as hs p v) : CCOK C (Known C.P C.G) := ⟨fun _ _ _ h => h, hF, hL, hP⟩

theorem Known.of {V : VCtx} {f : FuncId} {fn : Func} {args : List AV} {r : AV} (hf : V.C.P.funcs[f]? = some fn) (hok : ((fn.name == "runtime.NumGoroutine") || fn.body.isNone || !Nat.beq fn.ntmps V.C.ntmps || !Nat.ble args.length V.C.ntmps) = false) (hT : TysOK V.C) (hCC : V.CC = Known V.C.P V.C.G) (h : fnVc V fn args r)
    (hF : ∀ f as r cs, V.C.CCF f as r cs → KnownF V.C.P V.C.G f as r cs := by first | exact fun _ _ _ _ h => False.elim h | exact fun _ _ _ _ h => h)
    (hL : ∀ f as hs r os, V.C.CCL f as hs r os → KnownL V.C.P V.C.G f as hs r os := by first | exact fun _ _ _ _ _ h => False.elim h | exact fun _ _ _ _ _ h => h)
    (hP : ∀ f as hs p v, V.C.CCP f as hs p v → KnownP V.C.P V.C.G f as hs p v := by first | exact fun _ _ _ _ _ h => False.elim h | exact fun _ _ _ _ _ h => h) :
    Known V.C.P V.C.G f args r := by
  simp only [Bool.or_eq_false_iff, Bool.not_eq_false'] at hok
  obtain ⟨⟨⟨h1, h2⟩, h3⟩, h4⟩ := hok
  exact .inl ⟨CallOK.of hf h1 h2, RCalls.of_vc hf (Nat.eq_of_beq_eq_true h3) (Nat.le_of_ble_eq_true h4) hT (by rw [hCC]; exact known_ok V.C hF hL hP) h⟩
theorem KnownF.of {V : VCtx} {f : FuncId} {fn : Func} {args : List AV} {r : AV} {cs : List BoxC} (hf : V.C.P.funcs[f]? = some fn) (hok : ((fn.name == "runtime.NumGoroutine") || fn.body.isNone || !Nat.beq fn.ntmps V.C.ntmps || !Nat.ble args.length V.C.ntmps) = false) (hT : TysOK V.C) (hCC : V.CC = Known V.C.P V.C.G) (h : fnVcF V fn args r cs)
    (hF : ∀ f as r cs, V.C.CCF f as r cs → KnownF V.C.P V.C.G f as r cs := by first | exact fun _ _ _ _ h => False.elim h | exact fun _ _ _ _ h => h)
    (hL : ∀ f as hs r os, V.C.CCL f as hs r os → KnownL V.C.P V.C.G f as hs r os := by first | exact fun _ _ _ _ _ h => False.elim h | exact fun _ _ _ _ _ h => h)
    (hP : ∀ f as hs p v, V.C.CCP f as hs p v → KnownP V.C.P V.C.G f as hs p v := by first | exact fun _ _ _ _ _ h => False.elim h | exact fun _ _ _ _ _ h => h) :
    KnownF V.C.P V.C.G f args r cs := by
  simp only [Bool.or_eq_false_iff, Bool.not_eq_false'] at hok
  obtain ⟨⟨⟨h1, h2⟩, h3⟩, h4⟩ := hok
  exact ⟨CallOK.of hf h1 h2, RFresh.of_vc hf (Nat.eq_of_beq_eq_true h3) (Nat.le_of_ble_eq_true h4) hT (by rw [hCC]; exact known_ok V.C hF hL hP) h⟩
theorem KnownL.of {V : VCtx} {f : FuncId} {fn : Func} {args : List AV} {hs : List BoxC} {r : AV} {os : List (Option BoxC)} (hf : V.C.P.funcs[f]? = some fn) (hok : ((fn.name == "runtime.NumGoroutine") || fn.body.isNone || !Nat.beq fn.ntmps V.C.ntmps || !Nat.ble args.length V.C.ntmps) = false) (hT : TysOK V.C) (hCC : V.CC = Known V.C.P V.C.G) (h : fnVcL V fn args hs r os)
    (hF : ∀ f as r cs, V.C.CCF f as r cs → KnownF V.C.P V.C.G f as r cs := by first | exact fun _ _ _ _ h => False.elim h | exact fun _ _ _ _ h => h)
    (hL : ∀ f as hs r os, V.C.CCL f as hs r os → KnownL V.C.P V.C.G f as hs r os := by first | exact fun _ _ _ _ _ h => False.elim h | exact fun _ _ _ _ _ h => h)
    (hP : ∀ f as hs p v, V.C.CCP f as hs p v → KnownP V.C.P V.C.G f as hs p v := by first | exact fun _ _ _ _ _ h => False.elim h | exact fun _ _ _ _ _ h => h) :
    KnownL V.C.P V.C.G f args hs r os := by
  simp only [Bool.or_eq_false_iff, Bool.not_eq_false'] at hok
  obtain ⟨⟨⟨h1, h2⟩, h3⟩, h4⟩ := hok
  exact ⟨CallOK.of hf h1 h2, RLent.of_vc hf (Nat.eq_of_beq_eq_true h3) (Nat.le_of_ble_eq_true h4) hT (by rw [hCC]; exact known_ok V.C hF hL hP) h⟩
theorem KnownP.of {V : VCtx} {f : FuncId} {fn : Func} {args : List AV} {hs : List BoxC} {p : Bool} {v : Value} (hf : V.C.P.funcs[f]? = some fn) (hok : ((fn.name == "runtime.NumGoroutine") || fn.body.isNone || !Nat.beq fn.ntmps V.C.ntmps || !Nat.ble args.length V.C.ntmps) = false) (hT : TysOK V.C) (hCC : V.CC = Known V.C.P V.C.G) (h : p = true → fnVcP V fn args hs v)
    (hF : ∀ f as r cs, V.C.CCF f as r cs → KnownF V.C.P V.C.G f as r cs := by first | exact fun _ _ _ _ h => False.elim h | exact fun _ _ _ _ h => h)
    (hL : ∀ f as hs r os, V.C.CCL f as hs r os → KnownL V.C.P V.C.G f as hs r os := by first | exact fun _ _ _ _ _ h => False.elim h | exact fun _ _ _ _ _ h => h)
    (hP : ∀ f as hs p v, V.C.CCP f as hs p v → KnownP V.C.P V.C.G f as hs p v := by first | exact fun _ _ _ _ _ h => False.elim h | exact fun _ _ _ _ _ h => h) :
    KnownP V.C.P V.C.G f args hs p v := by
  intro hp
  simp only [Bool.or_eq_false_iff, Bool.not_eq_false'] at hok
  obtain ⟨⟨⟨h1, h2⟩, h3⟩, h4⟩ := hok
  exact ⟨CallOK.of hf h1 h2, RPan.of_vc hf (Nat.eq_of_beq_eq_true h3) (Nat.le_of_ble_eq_true h4) hT (by rw [hCC]; exact known_ok V.C hF hL hP) (h hp)⟩
theorem Known.ofD {V : VCtx} {K : Catcher} {f : FuncId} {fn : Func} {args : List AV} {r : AV} (hf : V.C.P.funcs[f]? = some fn) (hok : ((fn.name == "runtime.NumGoroutine") || fn.body.isNone || !Nat.beq fn.ntmps V.C.ntmps || !Nat.ble args.length V.C.ntmps) = false) (hT : TysOK V.C) (hCC : V.CC = Known V.C.P V.C.G) (hK : CatchOK V.C.P K) (hKo : CallOK V.C.P K.f) (h : fnVcD V K fn args r)
    (hF : ∀ f as r cs, V.C.CCF f as r cs → KnownF V.C.P V.C.G f as r cs := by first | exact fun _ _ _ _ h => False.elim h | exact fun _ _ _ _ h => h)
    (hL : ∀ f as hs r os, V.C.CCL f as hs r os → KnownL V.C.P V.C.G f as hs r os := by first | exact fun _ _ _ _ _ h => False.elim h | exact fun _ _ _ _ _ h => h)
    (hP : ∀ f as hs p v, V.C.CCP f as hs p v → KnownP V.C.P V.C.G f as hs p v := by first | exact fun _ _ _ _ _ h => False.elim h | exact fun _ _ _ _ _ h => h) :
    Known V.C.P V.C.G f args r := by
  simp only [Bool.or_eq_false_iff, Bool.not_eq_false'] at hok
  obtain ⟨⟨⟨h1, h2⟩, h3⟩, h4⟩ := hok
  exact .inl ⟨CallOK.of hf h1 h2, RCalls.of_vcD hf (Nat.eq_of_beq_eq_true h3) (Nat.le_of_ble_eq_true h4) hT (by rw [hCC]; exact known_ok V.C hF hL hP) hK hKo h⟩
/-- Arguments that say more. -/
theorem Known.weaken {P : Program} {G : List (Nat × AV)} {f : FuncId} {args args' : List AV} {r : AV} (h : Known P G f args r) (hs : AV.areStat args' = true) (hl : AV.les [] [] args' args) : Known P G f args' r := by
  obtain ⟨l1, l2⟩ := les_len hl
  rcases h with ⟨h1, h2⟩ | h
  · exact .inl ⟨h1, fun w F vs a1 a2 a3 a4 => h2 w F vs a1 a2 (by omega) fun j hj => le_repS (areStat_getD hs j) (l2 j (by omega)) (a4 j (by omega))⟩
  · exact .inr fun w F vs a3 a4 => h w F vs (by omega) fun j hj => le_repS (areStat_getD hs j) (l2 j (by omega)) (a4 j (by omega))
/-- Of a function with a body: its contract. -/
theorem Known.calls {P : Program} {G : List (Nat × AV)} {f : FuncId} {fn : Func} {args : List AV} {r : AV} (h : Known P G f args r) (hf : P.funcs[f]? = some fn) (hok : ((fn.name == "runtime.NumGoroutine") || fn.body.isNone) = false) : RCalls P G f args r := by
  simp only [Bool.or_eq_false_iff] at hok
  rcases h with ⟨_, h⟩ | h
  · exact h
  · intro w F vs _ _ a3 a4
    obtain ⟨v, h1, _⟩ := h w F vs a3 a4
    rw [CallOK.of hf hok.1 hok.2] at h1
    cases h1
end Go.AV
/- Functions that the model answers by itself. -/
namespace Go.AV
open Go.RowKit

theorem RExt.of {P : Program} {f : FuncId} {fn : Func} {ex : Array Value → Sem Value} {args : List AV} {r : AV} (hf : P.funcs[f]? = some fn) (hn : (fn.name == "runtime.NumGoroutine") = false) (hb : fn.body.isNone = true)
    (h1 : Extern.findNext fn = none) (h2 : Extern.find fn = some ex)
    (he : ∀ (w : World) (F : Nat → Prop) (vs : Array Value), vs.size = args.length → (∀ j, j < args.length → RepS w F (vs.getD j undef) (args.getD j .any)) → ∃ v, (ex vs).run P w = .ok v w ∧ RepR w F v r) : RExt P f args r := by
  intro w F vs hs hr
  obtain ⟨v, hv, hr'⟩ := he w F vs hs hr
  refine ⟨v, ?_, hr'⟩
  simp only [callFunc, Sem.run_bind, run_program, Result.andThen_ok, hf, hn, hb, h1, h2, Bool.false_eq_true, if_false, if_true, run_mark, hv, Sem.run_pure]

/-- The place of a byte, or -1; how often it occurs. -/
def idxByte (l : List UInt8) (c : UInt8) : Int := match (List.range l.length).find? fun i => l.getD i 0 == c with
  | some i => (i : Int)
  | none => -1
def cntByte (l : List UInt8) (c : UInt8) : Nat := l.foldl (fun n x => if x == c then n + 1 else n) 0

theorem two {vs : Array Value} {x y : AV} {w : World} {F : Nat → Prop} (hs : vs.size = [x, y].length) (hr : ∀ j, j < [x, y].length → RepS w F (vs.getD j undef) ([x, y].getD j .any)) : ∃ a b, vs = #[a, b] ∧ RepS w F a x ∧ RepS w F b y := by
  match vs, hs, hr with
  | ⟨[a, b]⟩, _, hr => exact ⟨a, b, rfl, hr 0 (by simp), hr 1 (by simp)⟩
theorem byte_get (s : ByteArray) (i : Nat) : s[i]! = s.data.toList.getD i 0 := by
  by_cases h : i < s.size
  · have h' : i < s.data.toList.length := by simpa using h
    rw [getElem!_pos s i h, List.getD_eq_getElem?_getD, List.getElem?_eq_getElem h']
    rfl
  · have h' : ¬ i < s.data.toList.length := by simpa using h
    rw [getElem!_neg s i h, List.getD_eq_getElem?_getD, List.getElem?_eq_none (by omega)]
    rfl
theorem inR_i64 {n : Int} (h1 : -9223372036854775808 ≤ n) (h2 : n ≤ 9223372036854775807) : InR .i64 n := by
  show (if (true && decide (n % 18446744073709551616 ≥ 9223372036854775808)) = true then n % 18446744073709551616 - 18446744073709551616 else n % 18446744073709551616) = n
  rw [Bool.true_and]
  by_cases h : n % 18446744073709551616 ≥ 9223372036854775808
  · rw [decide_eq_true h, if_pos rfl]; omega
  · rw [decide_eq_false h, if_neg (by simp)]; omega
theorem idx_rng (l : List UInt8) (c : UInt8) : -1 ≤ idxByte l c ∧ idxByte l c ≤ l.length := by
  unfold idxByte
  split
  · rename_i i h
    have := List.mem_of_find?_eq_some h
    simp at this
    omega
  · omega
theorem ext_indexByte {P : Program} {f : FuncId} {fn : Func} (l : List UInt8) (n : Int) (hf : P.funcs[f]? = some fn) (hn : (fn.name == "runtime.NumGoroutine") = false) (hb : fn.body.isNone = true)
    (h1 : Extern.findNext fn = none) (h2 : Extern.find fn = some Extern.BytealgIndexByte.indexByte) (hl : l.length ≤ 9223372036854775807) : RExt P f [.str l, .int .u8 n] (.int .i64 (idxByte l n.toNat.toUInt8)) := by
  refine RExt.of hf hn hb h1 h2 fun w F vs hs hr => ?_
  obtain ⟨a, b, rfl, ha, hb'⟩ := two hs hr
  cases ha with
  | str s =>
  cases hb' with
  | int k n _ =>
  have hq := idx_rng s.data.toList n.toNat.toUInt8
  refine ⟨.int .i64 (idxByte s.data.toList n.toNat.toUInt8), ?_, .int _ _ (inR_i64 (by omega) (by omega))⟩
  have e : Extern.BytealgIndexByte.indexByte #[.string s, .int .u8 n] = (match (List.range s.size).find? (fun i => s[i]! == n.toNat.toUInt8) with | some i => pure (goInt i) | none => pure (goInt (-1))) := rfl
  have hsz : s.data.toList.length = s.size := by simp
  rw [e]
  simp only [byte_get, idxByte, hsz]
  generalize (List.range s.size).find? (fun i => s.data.toList.getD i 0 == n.toNat.toUInt8) = o
  cases o <;> rfl
end Go.AV
/- A law's arguments, opened: what the given reading says of a value, as abstract data. -/
namespace Go.AV
open Go.RowKit

/-- Data of a type: a tree whose parts are of the parts' types; S: of sizes within reach. -/
inductive HasTyB (C : Cfg) (S : Bool) : TyE → AV → Prop
  | int {te : TyE} {k : IntKind} {n : Int} (h : te.kind = .int k) (hn : (Lit.int k n).wf = true) : HasTyB C S te (.int k n)
  | bool {te : TyE} {b : Bool} (h : te.kind = .bool) : HasTyB C S te (.bool b)
  | str {te : TyE} {l : List UInt8} (h : te.kind = .string) (hl : l.length ≤ maxLen) (hs : S = true → l.length ≤ reachBytes) : HasTyB C S te (.str l)
  | slice {te tl : TyE} {e : TypeId} {n : Nat} {f : Nat → AV} (h : te.kind = .slice e) (ht : tyOf C e = some tl) (hn : n ≤ maxLen) (hf : ∀ i, i < n → HasTyB C S tl (f i)) (hs : S = true → n * tl.bytes ≤ reachBytes) : HasTyB C S te (.seq tl.sh n f)
  | opaqueSlice {te : TyE} {e : TypeId} (h : te.kind = .slice e) (ht : tyOf C e = none) : HasTyB C S te .any
  | struct {te : TyE} {fs : List TypeId} {xs : List AV} (h : te.kind = .struct fs) (hl : xs.length = fs.length)
      (hx : ∀ (j : Nat) (e : TypeId) (tf : TyE), fs[j]? = some e → tyOf C e = some tf → HasTyB C S tf (xs.getD j .any)) : HasTyB C S te (.agg xs)
  | arr {te tl : TyE} {e : TypeId} {n : Nat} {f : Nat → AV} (h : te.kind = .arr n e) (ht : tyOf C e = some tl) (hf : ∀ i, HasTyB C S tl (f i)) : HasTyB C S te (.arr n f)

abbrev HasTy (C : Cfg) : TyE → AV → Prop := HasTyB C false

/-- The blocks that lay there before. -/
def Old (W : World) (k : Nat) : Prop := k < W.heap.size

theorem wf_inR {k : IntKind} {n : Int} (h : (Lit.int k n).wf = true) : InR k n := by
  unfold InR
  cases k <;> simp [Lit.wf, IntKind.wrap, IntKind.min, IntKind.max, IntKind.signed, IntKind.bits] at h ⊢ <;> (try split) <;> omega

section
variable {H : Type} {enc : TypeId × Value → H} {C : Cfg} {W : World} {sp : Nat → Bool} {held : Bool}

theorem cellsOf_ty (hT : TysOK C) {t : TypeId} {te : TyE} (ht : tyOf C t = some te) : C.P.cellsOf t = te.sh.size := by
  obtain ⟨d, i, z, hu, hi, hsz, _⟩ := (hT t te ht).info
  simp [Program.cellsOf, hi, hsz]

theorem getD_list {α : Type} (l : List α) (j : Nat) (d : α) (h : j < l.length) : l.getD j d = l[j] := by simp [h]

/-- A tree, part by part, out of its fields. -/
theorem leafs_of_fields {F : Nat → Prop} {w : World} : ∀ (ss : List Shape) (xs : List AV) (cs : List Value) (off : Nat), xs.length = ss.length →
    (∀ (i : Nat) (s : Shape), ss[i]? = some s → ∀ j, j < s.size → RepS w F (cs.getD (off + Shape.sizes (ss.take i) + j) undef) (leafAt s (xs.getD i .any) j)) →
    ∀ j, j < Shape.sizes ss → RepS w F (cs.getD (off + j) undef) (leafsAt ss xs j)
  | [], _, _, _, _, _, j, hj => by simp [Shape.sizes] at hj
  | s :: ss, [], _, _, hl, _, _, _ => by simp at hl
  | s :: ss, x :: xs, cs, off, hl, h, j, hj => by
    simp only [leafsAt]
    split
    · rename_i h1
      have := h 0 s rfl j h1
      simpa [Shape.sizes] using this
    · rename_i h1
      simp only [Shape.sizes] at hj
      have := leafs_of_fields ss xs cs (off + s.size) (by simpa using hl) (fun i s' hs j hj => by
        have := h (i + 1) s' (by simpa using hs) j hj
        simp only [List.take_succ_cons, Shape.sizes, List.getD_cons_succ] at this
        rw [show off + s.size + Shape.sizes (ss.take i) + j = off + (s.size + Shape.sizes (ss.take i)) + j from by omega]
        exact this) (j - s.size) (by omega)
      rw [show off + s.size + (j - s.size) = off + j from by omega] at this
      exact this

theorem weights_all {P : Program} {e : TypeId} : ∀ {l : List (DataW H)} {i : Nat} {d : DataW H}, l[i]? = some d → ∀ n ∈ d.weights P e, n ∈ DataW.weightsAll P e l
  | [], _, _, h, _, _ => by simp at h
  | d :: l, 0, d', h, n, hn => by simp at h; subst h; simp [DataW.weightsAll, hn]
  | d :: l, i + 1, d', h, n, hn => by simp only [DataW.weightsAll, List.mem_append]; exact .inr (weights_all (by simpa using h) n hn)

theorem open_tree {S : Bool} (hT : TysOK C) : ∀ (fuel : Nat) (t : TypeId) (te : TyE) (cs : List Value) (x : DataW H × List MemPlace), tyOf C t = some te → DataW.trod enc C.P W 0 sp held fuel t cs = some x → (match te.kind with | .other => False | _ => True) →
    (∀ t te, tyOf C t = some te → (match te.kind with | .other => False | _ => True)) → (S = true → ∀ n ∈ x.1.weights C.P t, n ≤ reachBytes) →
    ∃ y, HasTyB C S te y ∧ cs.length = te.sh.size ∧ ∀ j, j < te.sh.size → RepS W (Old W) (cs.getD j undef) (leafAt te.sh y j) := by
  intro fuel
  induction fuel with
  | zero => intro t te cs x _ h; simp [DataW.trod] at h
  | succ fuel ih =>
    intro t te cs x ht h ho hno hw
    have hcells := cellsOf_ty hT ht
    obtain ⟨d, i, z, hu, hi, hsz, _, _, _, hk, _⟩ := (hT t te ht).info
    cases hkd : te.kind with
    | other => rw [hkd] at ho; exact ho.elim
    | int k =>
      rw [hkd] at hk
      obtain ⟨rfl, hs⟩ := hk
      obtain ⟨n, rfl, rfl, hwf⟩ := DataW.trod_int hu h
      refine ⟨.int k n, .int hkd hwf, by rw [hs]; rfl, fun j hj => ?_⟩
      rw [hs] at hj ⊢
      obtain rfl : j = 0 := by simp [Shape.size] at hj; exact hj
      exact .int k n (wf_inR hwf)
    | bool =>
      rw [hkd] at hk
      obtain ⟨rfl, hs⟩ := hk
      obtain ⟨b, rfl, rfl⟩ := DataW.trod_bool hu h
      refine ⟨.bool b, .bool hkd, by rw [hs]; rfl, fun j hj => ?_⟩
      rw [hs] at hj ⊢
      obtain rfl : j = 0 := by simp [Shape.size] at hj; exact hj
      exact .bool b
    | string =>
      rw [hkd] at hk
      obtain ⟨rfl, hs⟩ := hk
      obtain ⟨s, rfl, rfl, hm⟩ := DataW.trod_string hu h
      refine ⟨.str s.data.toList, .str hkd (by simpa using hm) (fun hS => hw hS _ (by simp [DataW.weights])), by rw [hs]; rfl, fun j hj => ?_⟩
      rw [hs] at hj ⊢
      obtain rfl : j = 0 := by simp [Shape.size] at hj; exact hj
      exact .str s
    | slice e =>
      rw [hkd] at hk
      obtain ⟨rfl, hs⟩ := hk
      have one : ∀ (v : Value) (y : AV), y.isOne = true → RepS W (Old W) v y → ∀ j, j < te.sh.size → RepS W (Old W) ([v].getD j undef) (leafAt te.sh y j) := by
        intro v y h1 h2 j hj
        rw [hs] at hj ⊢
        obtain rfl : j = 0 := by simp [Shape.size] at hj; exact hj
        simpa [leafAt, asLeaf, h1] using h2
      cases hte : tyOf C e with
      | none =>
        rcases DataW.trod_slice hu h with ⟨rfl, _⟩ | ⟨a, len, cap, elems, rest, n, _, rfl, _⟩
        · exact ⟨.any, .opaqueSlice hkd hte, by rw [hs]; rfl, one _ _ rfl (.any _ rfl)⟩
        · exact ⟨.any, .opaqueSlice hkd hte, by rw [hs]; rfl, one _ _ rfl (.any _ rfl)⟩
      | some tl =>
        rcases DataW.trod_slice hu h with ⟨rfl, _⟩ | ⟨a, len, cap, elems, rest, n, hn, rfl, rfl, hb, hl, hm, hlen, hel, hsp, hns⟩
        · exact ⟨.seq tl.sh 0 fun _ => .any, .slice hkd hte (Nat.zero_le _) (fun i hi => by omega) (fun _ => by simp), by rw [hs]; rfl, one _ _ rfl (.seq0 _ _ _ _)⟩
        · obtain rfl : fuel = n := by omega
          have hce := cellsOf_ty hT hte
          have each : ∀ i, ∃ y, i < len → HasTyB C S tl y ∧ ∃ cs' : List Value, (∀ j, j < tl.sh.size → W.cell? ((a.add (i * tl.sh.size)).add j) = some (cs'.getD j undef)) ∧ ∀ j, j < tl.sh.size → RepS W (Old W) (cs'.getD j undef) (leafAt tl.sh y j) := by
            intro i
            by_cases hi : i < len
            · have h1 := hel i hi
              have h2 : elems[i]? = some elems[i] := by simp [show i < elems.length by omega]
              rw [h2, hce, Option.bind_eq_some_iff] at h1
              obtain ⟨cs', hc1, hc2⟩ := h1
              obtain ⟨_, hc3, hc4⟩ := World.cells?_some hc1
              obtain ⟨y, hy1, hy2, hy3⟩ := ih e tl cs' _ hte hc2 (hno _ _ hte) hno fun hS n hn => hw hS n (by
                simp only [DataW.weights, hu, List.mem_cons, List.mem_append]
                exact .inr (.inl (weights_all (i := i) (by simp [h2]) n hn)))
              exact ⟨y, fun _ => ⟨hy1, cs', fun j hj => by rw [hc4 j hj]; simp [show j < cs'.length by omega], hy3⟩⟩
            · exact ⟨.any, fun h => absurd h hi⟩
          obtain ⟨f, hf⟩ := Classical.skolem.1 each
          refine ⟨.seq tl.sh len f, .slice hkd hte (by omega) (fun i hi => (hf i hi).1) (fun hS => ?_), by rw [hs]; rfl, one _ _ rfl ?_⟩
          · have h1 := hw hS ((elems.length + rest.length) * C.P.bytesOf e) (by simp [DataW.weights, hu])
            have h2 : C.P.bytesOf e = tl.bytes := by
              obtain ⟨d2, i2, z2, _, hi2, _, hb2, _⟩ := (hT e tl hte).info
              simp [Program.bytesOf, hi2, hb2]
            rw [h2, hlen] at h1
            exact Nat.le_trans (Nat.mul_le_mul_right _ (Nat.le_add_right _ _)) h1
          have hpos := (hT e tl hte).pos
          cases len with
          | zero => exact .seq0 _ _ _ _
          | succ len =>
            have h0 : ∃ cs' : List Value, (∀ j, j < tl.sh.size → W.cell? ((a.add (0 * tl.sh.size)).add j) = some (cs'.getD j undef)) := ⟨_, (hf 0 (by omega)).2.choose_spec.1⟩
            obtain ⟨cs0, hc0⟩ := h0
            have hc := hc0 0 hpos
            obtain ⟨g, o, spot⟩ := a
            have hspot : spot = none := by
              cases spot with
              | none => rfl
              | some s => simp [Addr.add, World.cell?] at hc; split at hc <;> simp_all
            subst hspot
            have hF : Old W g := by
              unfold Old
              by_cases hg : g < W.heap.size
              · exact hg
              · simp [Addr.add, World.cell?, show W.heap[g]? = none by simp; omega] at hc
            have hch : ∀ i, ∃ cs' : List Value, i < len + 1 → (∀ j, j < tl.sh.size → W.cell? (((⟨g, o, none⟩ : Addr).add (i * tl.sh.size)).add j) = some (cs'.getD j undef)) ∧ ∀ j, j < tl.sh.size → RepS W (Old W) (cs'.getD j undef) (leafAt tl.sh (f i) j) := by
              intro i
              by_cases hi : i < len + 1
              · obtain ⟨_, cs', h1, h2⟩ := hf i hi
                exact ⟨cs', fun _ => ⟨h1, h2⟩⟩
              · exact ⟨[], fun h => absurd h hi⟩
            obtain ⟨css, hcss⟩ := Classical.skolem.1 hch
            refine .seq g o (len + 1) cap tl.sh f (fun i j => (css i).getD j undef) hF hl (fun i hi j hj => ?_) fun i hi j hj => (hcss i hi).2 j hj
            have := (hcss i hi).1 j hj
            have ea : ((⟨g, o, none⟩ : Addr).add (i * tl.sh.size)).add j = ⟨g, o + (i * tl.sh.size + j), none⟩ := by
              by_cases h1 : i * tl.sh.size = 0 <;> by_cases h2 : j = 0 <;> simp [Addr.add, h1, h2, Nat.add_assoc]
            rw [ea] at this
            exact this
    | struct fs =>
      rw [hkd] at hk
      obtain ⟨fields, ss, rfl, hs, hlen, hfs, hfield⟩ := hk
      obtain ⟨xs, n, hn, rfl, hcl, hxl, hx⟩ := DataW.trod_struct hu h
      obtain rfl : fuel = n := by omega
      have hfl : fields.size = fs.length := by rw [hfs]; simp
      have hfi : ∀ (i : Nat) (h : i < fields.size), fs[i]? = some fields[i].type := by intro i h; rw [hfs]; simp [h]
      have each : ∀ i, ∃ y, i < fs.length → ∀ (e : TypeId) (tf : TyE), fs[i]? = some e → tyOf C e = some tf → HasTyB C S tf y ∧ ∀ j, j < tf.sh.size → RepS W (Old W) (cs.getD (Shape.sizes (ss.take i) + j) undef) (leafAt tf.sh y j) := by
        intro i
        by_cases hi : i < fs.length
        · have hif : fields[i]? = some fields[i] := by simp [show i < fields.size by omega]
          obtain ⟨tf, ht1, ht2, ht3, _⟩ := hfield i _ hif
          have h1 := hx i fields[i] (by simp)
          have h2 : xs[i]? = some xs[i] := by simp [show i < xs.length by omega]
          rw [h2, cellsOf_ty hT ht1] at h1
          obtain ⟨y, hy1, hy2, hy3⟩ := ih _ tf _ _ ht1 h1 (hno _ _ ht1) hno fun hS n hn => hw hS n (by
            simp only [DataW.weights, hu]
            exact DataW.weights_mem_each (j := i) (t := fields[i].type) (d := xs[i].1) (by simp [show i < fields.size by omega]) (by simp [show i < xs.length by omega]) n hn)
          refine ⟨y, fun _ e tf' he htf => ?_⟩
          have he' : e = fields[i].type := by
            rw [hfs, List.getElem?_map] at he
            simp [show i < fields.size by omega] at he
            exact he.symm
          subst he'
          rw [ht1] at htf
          cases htf
          refine ⟨hy1, fun j hj => ?_⟩
          have := hy3 j hj
          rw [List.getD_eq_getElem?_getD, List.getElem?_take_of_lt hj, List.getElem?_drop, ht3, ← List.getD_eq_getElem?_getD] at this
          exact this
        · exact ⟨.any, fun h => absurd h hi⟩
      obtain ⟨f, hf⟩ := Classical.skolem.1 each
      refine ⟨.agg ((List.range fs.length).map f), .struct hkd (by simp) (fun j e tf hj he => ?_), by rw [hcl, hcells], fun j hj => ?_⟩
      · have hjl := (List.getElem?_eq_some_iff.1 hj).1
        have := (hf j hjl e tf hj he).1
        simpa [hjl] using this
      · rw [hs] at hj ⊢
        simp only [leafAt]
        have := leafs_of_fields (F := Old W) (w := W) ss ((List.range fs.length).map f) cs 0 (by simp [hlen]) (fun i s hi j hj => ?_) j (by simpa [Shape.size] using hj)
        · simpa using this
        · have hil := (List.getElem?_eq_some_iff.1 hi).1
          have hif : fields[i]? = some fields[i] := by simp [show i < fields.size by omega]
          obtain ⟨tf, ht1, ht2, ht3, _⟩ := hfield i _ hif
          rw [hi] at ht2
          cases ht2
          have := (hf i (by omega) fields[i].type tf (hfi i (by omega)) ht1).2 j hj
          simpa [show i < fs.length by omega] using this
    | arr n e =>
      rw [hkd] at hk
      obtain ⟨rfl, tl, hte, hs⟩ := hk
      obtain ⟨xs, m, hm, rfl, hcl, hxl, hx⟩ := DataW.trod_array hu h
      obtain rfl : fuel = m := by omega
      have hce := cellsOf_ty hT hte
      have hpos := (hT e tl hte).pos
      have hpos' := (hT t te ht).pos
      rw [hs] at hpos'
      have hn0 : 0 < n := by
        rcases Nat.eq_zero_or_pos n with h | h
        · subst h; simp [Shape.size] at hpos'
        · exact h
      have each : ∀ i, ∃ y, HasTyB C S tl y ∧ (i < n → ∀ j, j < tl.sh.size → RepS W (Old W) (cs.getD (i * tl.sh.size + j) undef) (leafAt tl.sh y j)) := by
        intro i
        have one : ∀ k, k < n → ∃ y, HasTyB C S tl y ∧ ∀ j, j < tl.sh.size → RepS W (Old W) (cs.getD (k * tl.sh.size + j) undef) (leafAt tl.sh y j) := by
          intro k hk
          have h1 := hx k hk
          have h2 : xs[k]? = some xs[k] := by simp [show k < xs.length by omega]
          rw [h2, hce] at h1
          obtain ⟨y, hy1, hy2, hy3⟩ := ih e tl _ _ hte h1 (hno _ _ hte) hno fun hS n hn => hw hS n (by
            simp only [DataW.weights, hu]
            exact weights_all (i := k) (by simp [h2]) n hn)
          refine ⟨y, hy1, fun j hj => ?_⟩
          have := hy3 j hj
          rw [List.getD_eq_getElem?_getD, List.getElem?_take_of_lt hj, List.getElem?_drop, ← List.getD_eq_getElem?_getD] at this
          exact this
        by_cases hi : i < n
        · obtain ⟨y, h1, h2⟩ := one i hi
          exact ⟨y, h1, fun _ => h2⟩
        · obtain ⟨y, h1, _⟩ := one 0 hn0
          exact ⟨y, h1, fun h => absurd h hi⟩
      obtain ⟨f, hf⟩ := Classical.skolem.1 each
      refine ⟨.arr n f, .arr hkd hte (fun i => (hf i).1), by rw [hcl, hcells], fun j hj => ?_⟩
      rw [hs] at hj ⊢
      simp only [leafAt, Shape.size] at hj ⊢
      refine .st ?_
      have hdiv : j / tl.sh.size < n := (Nat.div_lt_iff_lt_mul hpos).2 hj
      have := (hf (j / tl.sh.size)).2 hdiv (j % tl.sh.size) (Nat.mod_lt _ hpos)
      rw [Nat.mul_comm, Nat.div_add_mod] at this
      exact this
end
end Go.AV
/- A law's last step: out of the contract of its function at every data of its types. -/
namespace Go.AV
open Go.RowKit Go.WideShapes Go.ChangeShapes

section
variable {H : Type} {enc : TypeId × Value → H} {P : Program}
/-- The row's last step where the call has left the old memory alone. -/
theorem post_of_below {f : Func} {s : ChangeSpec} {apart fresh handsOn again : Bool} {W W' : World} {args : Array Value} {v : Value} {ds gs : List (DataW H)} {before pa pv : List MemPlace}
    (hW : DataW.Whole enc P f.params.toList s.vars apart W args.toList ds gs before)
    (hres : ∀ (b : Nat) (sp : Nat → Bool) (hd : Bool), DataW.TrodAll enc P W' b sp hd f.resultTypes.toList (v.resultList f.resultTypes.size) (s.fn H (ds ++ gs)).results [])
    (hargs : ∀ sp : Nat → Bool, (∀ p ∈ before, sp p.block = true) → DataW.TrodAll enc P W' 0 sp true f.params.toList args.toList (s.fn H (ds ++ gs)).args pa)
    (hvars : ∀ sp : Nat → Bool, (∀ p ∈ before, sp p.block = true) → DataW.TrodVars enc P W' sp s.vars (s.fn H (ds ++ gs)).vars pv)
    (hps : before = pa ++ pv) (hb : Below W.heap.size W W')
    (hok : ∀ (j : Nat) (t : TypeId) (r : Value), f.resultTypes[j]? = some t → (v.resultList f.resultTypes.size)[j]? = some r → Value.okWide P W' .any 0 t r) :
    s.post enc P f apart fresh handsOn again W args v W' := by
  have hlt : ∀ p ∈ before, p.block < W.heap.size := fun p hp => hW.lt p hp
  have hold : ∀ p ∈ before, (fun b => decide (b < W.heap.size)) p.block = true := fun p hp => by simpa using hlt p hp
  refine ⟨ds, gs, before, [], pa, pv, hW, hres _ _ _, hargs _ hold, hvars _ hold, World.keptBut_mono (fun p hp => ⟨hp, ?_⟩) (hb.frame (· ∈ before)), fun _ => ?_⟩
  · rw [hps, List.mem_append] at hp
    exact Or.inr hp
  · obtain ⟨_, _, _, _, _, hz, hn⟩ := hW
    refine ⟨hok, _, _, ([] ++ pa) ++ pv, ⟨[] ++ pa, pv, trodAll_append (hargs _ (fun _ _ => rfl)) (hres _ _ _), hvars _ (fun _ _ => rfl), rfl, ?_, ?_⟩, ?_⟩
    · intro b off hp
      have hin : MemPlace.cell b off ∈ before := by rw [hps]; simpa using hp
      rw [hb.frozen (hlt _ hin)]
      exact hz b off hin
    · intro ha
      have := hn ha
      rw [hps] at this
      simpa using this
    · intro p hp _
      rw [hps]
      simpa using hp
end

/-- A value of a type, out of its tree. -/
def wrapT (te : TyE) (y : AV) : AV := match te.sh with | .leaf => y | sh => .mc sh y

section
variable {H : Type} {enc : TypeId × Value → H} {C : Cfg} {W : World} {sp : Nat → Bool} {held : Bool}

def AllKnown (C : Cfg) : Prop := ∀ t te, tyOf C t = some te → (match te.kind with | .other => False | _ => True)

theorem hasTy_one {S : Bool} {te : TyE} {y : AV} (h : HasTyB C S te y) (hk : te.kind ≠ .other) (hs : te.sh = .leaf) (hi : ∀ fs, te.kind ≠ .struct fs) (ha : ∀ n e, te.kind ≠ .arr n e) : y.isOne = true := by
  cases h with
  | struct h => exact absurd h (hi _)
  | arr h => exact absurd h (ha _ _)
  | _ => rfl

theorem open_val {S : Bool} (hT : TysOK C) (hno : AllKnown C) {t : TypeId} {te : TyE} {v : Value} {d : DataW H} {p : List MemPlace} {base : Nat} (ht : tyOf C t = some te) (hval : Value.okWide C.P W .any base t v)
    (h : DataW.Trod enc C.P W 0 sp held t v d p) (hw : S = true → ∀ n ∈ d.weights C.P t, n ≤ reachBytes) : ∃ y, HasTyB C S te y ∧ RepS W (Old W) v (wrapT te y) := by
  obtain ⟨fuel, hf⟩ := h
  obtain ⟨y, h1, h2, h3⟩ := open_tree hT fuel t te _ _ ht hf (hno t te ht) hno hw
  obtain ⟨dd, i, z, hu, hi, hsz, _, _, _, hk, _⟩ := (hT t te ht).info
  refine ⟨y, h1, ?_⟩
  have agg : ∀ cs, v = .agg cs → te.sh.isAgg = true → RepS W (Old W) v (wrapT te y) := by
    intro cs hv hag
    subst hv
    have e : wrapT te y = .mc te.sh y := by
      unfold wrapT
      cases hsh : te.sh <;> simp_all [Shape.isAgg]
    rw [e]
    refine .mc cs _ _ (by simpa [Value.cells] using h2) fun j hj => ?_
    have := h3 j hj
    simpa [Value.cells, Array.getD_eq_getD_getElem?, List.getD_eq_getElem?_getD] using this
  have leaf : v.cells.toList = [v] → te.sh = .leaf → y.isOne = true → RepS W (Old W) v (wrapT te y) := by
    intro hc hs hy
    have := h3 0 (by rw [hs]; simp [Shape.size])
    rw [hc, hs] at this
    unfold wrapT
    rw [hs]
    simpa [leafAt, asLeaf, hy] using this
  cases hkd : te.kind with
  | other => have := hno t te ht; rw [hkd] at this; exact this.elim
  | int k =>
    rw [hkd] at hk
    obtain ⟨rfl, hs⟩ := hk
    obtain ⟨n, rfl⟩ := okWide_int hu hval
    exact leaf rfl hs (hasTy_one h1 (by simp [hkd]) hs (by simp [hkd]) (by simp [hkd]))
  | bool =>
    rw [hkd] at hk
    obtain ⟨rfl, hs⟩ := hk
    obtain ⟨n, rfl⟩ := okWide_bool hu hval
    exact leaf rfl hs (hasTy_one h1 (by simp [hkd]) hs (by simp [hkd]) (by simp [hkd]))
  | string =>
    rw [hkd] at hk
    obtain ⟨rfl, hs⟩ := hk
    obtain ⟨n, rfl⟩ := okWide_string hu hval
    exact leaf rfl hs (hasTy_one h1 (by simp [hkd]) hs (by simp [hkd]) (by simp [hkd]))
  | slice e =>
    rw [hkd] at hk
    obtain ⟨rfl, hs⟩ := hk
    obtain ⟨a, n, c, rfl⟩ := okWide_slice hu hval
    exact leaf rfl hs (hasTy_one h1 (by simp [hkd]) hs (by simp [hkd]) (by simp [hkd]))
  | struct fs =>
    rw [hkd] at hk
    obtain ⟨fields, ss, rfl, hs, _⟩ := hk
    unfold Value.okWide at hval
    rw [hu] at hval
    obtain ⟨cs, hv, _⟩ := hval
    exact agg cs hv (by rw [hs]; rfl)
  | arr n e =>
    rw [hkd] at hk
    obtain ⟨rfl, tl, _, hs⟩ := hk
    unfold Value.okWide at hval
    rw [hu] at hval
    obtain ⟨cs, hv, _⟩ := hval
    exact agg cs hv (by rw [hs]; rfl)

theorem open_all {S : Bool} (hT : TysOK C) (hno : AllKnown C) {base : Nat} : ∀ (ts : List TypeId) (tes : List TyE) (vs : List Value) (ds : List (DataW H)) (p : List MemPlace), ts.map (tyOf C) = tes.map some →
    (∀ (j : Nat) t v, ts[j]? = some t → vs[j]? = some v → Value.okWide C.P W .any base t v) → DataW.TrodAll enc C.P W 0 sp held ts vs ds p → (S = true → ∀ n ∈ DataW.weightsEach C.P ts ds, n ≤ reachBytes) →
    ∃ ys : List AV, ys.length = tes.length ∧ vs.length = tes.length ∧ ds.length = tes.length ∧ ∀ (j : Nat) (te : TyE), tes[j]? = some te → HasTyB C S te (ys.getD j .any) ∧ RepS W (Old W) (vs.getD j undef) ((List.zipWith wrapT tes ys).getD j .any)
  | [], tes, vs, ds, p, hm, _, h, _ => by
    obtain rfl : tes = [] := by cases tes <;> simp_all
    obtain ⟨rfl, rfl, rfl⟩ := trodAll_nil h
    exact ⟨[], rfl, rfl, rfl, fun j te hj => by simp at hj⟩
  | t :: ts, tes, vs, ds, p, hm, hval, h, hw => by
    obtain ⟨v, vs1, d, ds1, a, b, rfl, rfl, rfl, h1, h2⟩ := trodAll_cons h
    cases tes with
    | nil => simp at hm
    | cons te tes =>
      simp only [List.map_cons, List.cons.injEq] at hm
      obtain ⟨y, hy1, hy2⟩ := open_val hT hno hm.1 (hval 0 t v rfl rfl) h1 fun hS n hn => hw hS n (by simp [DataW.weightsEach, hn])
      obtain ⟨ys, k1, k2, k3, k4⟩ := open_all hT hno ts tes vs1 ds1 b hm.2 (fun j t v ht hv => hval (j + 1) t v (by simpa using ht) (by simpa using hv)) h2 fun hS n hn => hw hS n (by simp [DataW.weightsEach, hn])
      refine ⟨y :: ys, by simp [k1], by simp [k2], by simp [k3], fun j te' hj => ?_⟩
      cases j with
      | zero => simp at hj; subst hj; exact ⟨hy1, hy2⟩
      | succ j => simpa using k4 j te' (by simpa using hj)

theorem args_after {W' : World} {sp' : Nat → Bool} (hl : laidOutB C.P = true) (hb : Below W.heap.size W W') : ∀ (ts : List TypeId) (vs : List Value) (ds : List (DataW H)) (p : List MemPlace), (∀ t ∈ ts, C.P.readableRec t = true ∧ t < C.P.types.size) →
    DataW.TrodAll enc C.P W 0 (fun _ => true) true ts vs ds p → (∀ x ∈ p, x.block < W.heap.size) → (∀ x ∈ p, sp' x.block = true) → DataW.TrodAll enc C.P W' 0 sp' true ts vs ds p
  | [], vs, ds, p, _, h, _, _ => by
    obtain ⟨rfl, rfl, rfl⟩ := trodAll_nil h
    rfl
  | t :: ts, vs, ds, p, ht, h, hlt, hsp => by
    obtain ⟨v, vs1, d, ds1, a, b, rfl, rfl, rfl, h1, h2⟩ := trodAll_cons h
    obtain ⟨r1, r2⟩ := ht t (by simp)
    exact ⟨a, b, WideElems.Trod_stays hl r1 r2 h1 (fun x hx => hb.same (hlt x (by simp [hx]))) (fun x hx => hsp x (by simp [hx])), args_after hl hb ts vs1 ds1 b (fun t ht' => ht t (by simp [ht'])) h2 (fun x hx => hlt x (by simp [hx])) (fun x hx => hsp x (by simp [hx])), rfl⟩

/-- A LAW'S CALL: at every data of its types it answers true and leaves what came in alone. -/
theorem law_step {s : ChangeSpec} {f : FuncId} {fn : Func} {tes : List TyE} {tb : TypeId} (hT : TysOK C) (hno : AllKnown C) (hG : C.G = []) (hl : laidOutB C.P = true) (hvars : s.vars = [])
    (htes : fn.params.toList.map (tyOf C) = tes.map some) (hread : ∀ t ∈ fn.params.toList, C.P.readableRec t = true ∧ t < C.P.types.size) (hres : fn.resultTypes = #[tb]) (hub : C.P.underlying tb = some .bool)
    (hs : ∀ ds : List (DataW H), ds.length = tes.length → s.fn H ds = { results := [.lit (.bool true)], args := ds })
    (hcon : ∀ ys : List AV, ys.length = tes.length → (∀ (j : Nat) (te : TyE), tes[j]? = some te → HasTy C te (ys.getD j .any)) → RCalls C.P C.G f (List.zipWith wrapT tes ys) (.bool true))
    {apart fresh handsOn again : Bool} (W : World) (base : Nat) (args : Array Value) (ds gs : List (DataW H)) (before : List MemPlace)
    (hval : ∀ (j : Nat) t v, fn.params[j]? = some t → args[j]? = some v → Value.okWide C.P W .any base t v) (hW : DataW.Whole enc C.P fn.params.toList s.vars apart W args.toList ds gs before) :
    Calls C.P f args W fun e W' => ∃ v, e = .returned v ∧ s.post enc C.P fn apart fresh handsOn again W args v W' := by
  have hW' := hW
  obtain ⟨p, q, hA, hV, rfl, hfz, hnd⟩ := hW
  rw [hvars] at hV
  obtain ⟨rfl, rfl⟩ := trodVars_none hV
  obtain ⟨ys, k1, k2, k3, k4⟩ := open_all hT hno fn.params.toList tes args.toList ds p htes (fun j t v ht hv => hval j t v (by simpa using ht) (by simpa using hv)) hA (S := false) (fun h => by cases h)
  have hc := hcon ys k1 (fun j te h => (k4 j te h).1) W (Old W) args (fun k hk => hk) (fun g x hg => by rw [hG] at hg; simp [get] at hg) (by simp only [List.length_zipWith]; simp at k2; omega) (fun j hj => by
    simp only [List.length_zipWith] at hj
    have := (k4 j tes[j] (by simp [show j < tes.length by omega])).2
    simpa [Array.getD_eq_getD_getElem?, List.getD_eq_getElem?_getD] using this)
  refine hc.mono ?_
  rintro e W' ⟨v, F', rfl, hb, _, _, _, hv⟩
  have hv : v = .bool true := by
    simp only [RepR] at hv
    cases hv with | bool b => rfl
  subst hv
  have hlt : ∀ x ∈ p, x.block < W.heap.size := fun x hx => hW'.lt x (by simpa using hx)
  refine ⟨_, rfl, post_of_below (pa := p) (pv := []) hW' (fun b sp hd => ?_) (fun sp hsp => ?_) (fun _ _ => ?_) rfl hb ?_⟩
  · rw [List.append_nil, hs ds k3, hres]
    exact trodAll_cons_mk (shut_bool hub _) trodAll_mk0
  · rw [List.append_nil, hs ds k3]
    exact args_after hl hb _ _ _ _ hread hA hlt (fun x hx => hsp x (by simpa using hx))
  · rw [List.append_nil, hs ds k3, hvars]
    rfl
  · exact ok_one hres rfl (okWide_bool_mk hub _)
end
end Go.AV
/- What an argument of a type reads as. -/
namespace Go.AV

theorem has_int {C : Cfg} {S : Bool} {te : TyE} {k : IntKind} {y : AV} (hk : te.kind = .int k) (h : HasTyB C S te y) : ∃ n, y = .int k n := by
  cases h with
  | int h2 => rw [hk] at h2; cases h2; exact ⟨_, rfl⟩
  | bool h2 | str h2 | slice h2 | opaqueSlice h2 | struct h2 | arr h2 => rw [hk] at h2; cases h2

theorem has_intR {C : Cfg} {S : Bool} {te : TyE} {y : AV} {k : IntKind} (hk : te.kind = .int k) (h : HasTyB C S te y) : ∃ n, y = .int k n ∧ k.min ≤ n ∧ n ≤ k.max := by
  cases h with
  | int h2 hn =>
    rw [hk] at h2
    cases h2
    refine ⟨_, rfl, ?_⟩
    simp only [Lit.wf, Bool.and_eq_true, decide_eq_true_eq] at hn
    exact hn
  | bool h2 | str h2 | slice h2 | opaqueSlice h2 | struct h2 | arr h2 => rw [hk] at h2; cases h2

theorem has_slice {C : Cfg} {S : Bool} {te tl : TyE} {e : TypeId} {y : AV} (hk : te.kind = .slice e) (hl : tyOf C e = some tl) (h : HasTyB C S te y) : ∃ n f, y = .seq tl.sh n f ∧ n ≤ maxLen ∧ ∀ i, i < n → HasTyB C S tl (f i) := by
  cases h with
  | slice h2 h3 h4 h5 _ => rw [hk] at h2; cases h2; rw [hl] at h3; cases h3; exact ⟨_, _, rfl, h4, h5⟩
  | opaqueSlice h2 h3 => rw [hk] at h2; cases h2; rw [hl] at h3; cases h3
  | int h2 | bool h2 | str h2 | struct h2 | arr h2 => rw [hk] at h2; cases h2

theorem has_struct {C : Cfg} {S : Bool} {te : TyE} {fs : List TypeId} {y : AV} (hk : te.kind = .struct fs) (h : HasTyB C S te y) : ∃ xs, y = .agg xs ∧ xs.length = fs.length ∧ ∀ (j : Nat) (e : TypeId) (tf : TyE), fs[j]? = some e → tyOf C e = some tf → HasTyB C S tf (xs.getD j .any) := by
  cases h with
  | struct h2 h3 h4 => rw [hk] at h2; cases h2; exact ⟨_, rfl, h3, h4⟩
  | int h2 | bool h2 | str h2 | slice h2 | opaqueSlice h2 | arr h2 => rw [hk] at h2; cases h2

theorem rows_of {α : Type} {n : Nat} {f : Nat → AV} (enc : α → AV) (d : α) (h : ∀ i, i < n → ∃ e, f i = enc e) : ∃ l : List α, l.length = n ∧ ∀ i, i < n → f i = enc (l.getD i d) := by
  have h' : ∀ i, ∃ e, i < n → f i = enc e := fun i => by
    by_cases hi : i < n
    · obtain ⟨e, he⟩ := h i hi; exact ⟨e, fun _ => he⟩
    · exact ⟨d, fun h => absurd h hi⟩
  obtain ⟨g, hg⟩ := Classical.skolem.1 h'
  refine ⟨(List.range n).map g, by simp, fun i hi => ?_⟩
  rw [hg i hi]
  simp [hi]

theorem has_str {C : Cfg} {S : Bool} {te : TyE} {y : AV} (hk : te.kind = .string) (h : HasTyB C S te y) : ∃ l : List UInt8, y = .str l ∧ l.length ≤ maxLen := by
  cases h with
  | str h2 h3 _ => exact ⟨_, rfl, h3⟩
  | int h2 | bool h2 | slice h2 | opaqueSlice h2 | struct h2 | arr h2 => rw [hk] at h2; cases h2
/-- Of sizes within reach. -/
theorem has_strS {C : Cfg} {te : TyE} {y : AV} (hk : te.kind = .string) (h : HasTyB C true te y) : ∃ l : List UInt8, y = .str l ∧ l.length ≤ reachBytes := by
  cases h with
  | str h2 h3 h4 => exact ⟨_, rfl, h4 rfl⟩
  | int h2 | bool h2 | slice h2 | opaqueSlice h2 | struct h2 | arr h2 => rw [hk] at h2; cases h2
theorem has_sliceS {C : Cfg} {te tl : TyE} {e : TypeId} {y : AV} (hk : te.kind = .slice e) (hl : tyOf C e = some tl) (h : HasTyB C true te y) : ∃ n f, y = .seq tl.sh n f ∧ n * tl.bytes ≤ reachBytes ∧ ∀ i, i < n → HasTyB C true tl (f i) := by
  cases h with
  | slice h2 h3 h4 h5 h6 => rw [hk] at h2; cases h2; rw [hl] at h3; cases h3; exact ⟨_, _, rfl, h6 rfl, h5⟩
  | opaqueSlice h2 h3 => rw [hk] at h2; cases h2; rw [hl] at h3; cases h3
  | int h2 | bool h2 | str h2 | struct h2 | arr h2 => rw [hk] at h2; cases h2
end Go.AV
/- A law's last step, where package variables are known. -/
namespace Go.AV
open Go Go.ChangeShapes Go.WideShapes Go.RowKit
section
variable {H : Type} {enc : TypeId × Value → H} {C : Cfg} {W : World} {sp : Nat → Bool} {held : Bool}
/-- The same where package variables are known: at every data of its types it answers true and leaves what came in alone. -/
theorem law_step_g {s : ChangeSpec} {f : FuncId} {fn : Func} {tes : List TyE} {tb : TypeId} (hT : TysOK C) (hno : AllKnown C) (hl : laidOutB C.P = true) (hvars : s.vars = [])
    (htes : fn.params.toList.map (tyOf C) = tes.map some) (hread : ∀ t ∈ fn.params.toList, C.P.readableRec t = true ∧ t < C.P.types.size) (hres : fn.resultTypes = #[tb]) (hub : C.P.underlying tb = some .bool)
    (hs : ∀ ds : List (DataW H), ds.length = tes.length → s.fn H ds = { results := [.lit (.bool true)], args := ds })
    (hcon : ∀ ys : List AV, ys.length = tes.length → (∀ (j : Nat) (te : TyE), tes[j]? = some te → HasTy C te (ys.getD j .any)) → RCalls C.P C.G f (List.zipWith wrapT tes ys) (.bool true))
    {apart fresh handsOn again : Bool} (W : World) (hG : ∀ g x, get C.G g = some x → RepS W (Old W) (.pointer (some ⟨g, 0, none⟩)) x) (base : Nat) (args : Array Value) (ds gs : List (DataW H)) (before : List MemPlace)
    (hval : ∀ (j : Nat) t v, fn.params[j]? = some t → args[j]? = some v → Value.okWide C.P W .any base t v) (hW : DataW.Whole enc C.P fn.params.toList s.vars apart W args.toList ds gs before) :
    Calls C.P f args W fun e W' => ∃ v, e = .returned v ∧ s.post enc C.P fn apart fresh handsOn again W args v W' := by
  have hW' := hW
  obtain ⟨p, q, hA, hV, rfl, hfz, hnd⟩ := hW
  rw [hvars] at hV
  obtain ⟨rfl, rfl⟩ := trodVars_none hV
  obtain ⟨ys, k1, k2, k3, k4⟩ := open_all hT hno fn.params.toList tes args.toList ds p htes (fun j t v ht hv => hval j t v (by simpa using ht) (by simpa using hv)) hA (S := false) (fun h => by cases h)
  have hc := hcon ys k1 (fun j te h => (k4 j te h).1) W (Old W) args (fun k hk => hk) hG (by simp only [List.length_zipWith]; simp at k2; omega) (fun j hj => by
    simp only [List.length_zipWith] at hj
    have := (k4 j tes[j] (by simp [show j < tes.length by omega])).2
    simpa [Array.getD_eq_getD_getElem?, List.getD_eq_getElem?_getD] using this)
  refine hc.mono ?_
  rintro e W' ⟨v, F', rfl, hb, _, _, _, hv⟩
  have hv : v = .bool true := by
    simp only [RepR] at hv
    cases hv with | bool b => rfl
  subst hv
  have hlt : ∀ x ∈ p, x.block < W.heap.size := fun x hx => hW'.lt x (by simpa using hx)
  refine ⟨_, rfl, post_of_below (pa := p) (pv := []) hW' (fun b sp hd => ?_) (fun sp hsp => ?_) (fun _ _ => ?_) rfl hb ?_⟩
  · rw [List.append_nil, hs ds k3, hres]
    exact trodAll_cons_mk (shut_bool hub _) trodAll_mk0
  · rw [List.append_nil, hs ds k3]
    exact args_after hl hb _ _ _ _ hread hA hlt (fun x hx => hsp x (by simpa using hx))
  · rw [List.append_nil, hs ds k3, hvars]
    rfl
  · exact ok_one hres rfl (okWide_bool_mk hub _)
/-- The same, of sizes within reach, where package variables are known: at every data of its types it answers true and leaves what came in alone. -/
theorem law_step_gs {s : ChangeSpec} {f : FuncId} {fn : Func} {tes : List TyE} {tb : TypeId} (hT : TysOK C) (hno : AllKnown C) (hl : laidOutB C.P = true) (hvars : s.vars = [])
    (htes : fn.params.toList.map (tyOf C) = tes.map some) (hread : ∀ t ∈ fn.params.toList, C.P.readableRec t = true ∧ t < C.P.types.size) (hres : fn.resultTypes = #[tb]) (hub : C.P.underlying tb = some .bool)
    (hs : ∀ ds : List (DataW H), ds.length = tes.length → s.fn H ds = { results := [.lit (.bool true)], args := ds })
    (hcon : ∀ ys : List AV, ys.length = tes.length → (∀ (j : Nat) (te : TyE), tes[j]? = some te → HasTyB C true te (ys.getD j .any)) → RCalls C.P C.G f (List.zipWith wrapT tes ys) (.bool true))
    {apart fresh handsOn again : Bool} (W : World) (hG : ∀ g x, get C.G g = some x → RepS W (Old W) (.pointer (some ⟨g, 0, none⟩)) x) (base : Nat) (args : Array Value) (ds gs : List (DataW H)) (before : List MemPlace)
    (hval : ∀ (j : Nat) t v, fn.params[j]? = some t → args[j]? = some v → Value.okWide C.P W .any base t v) (hW : DataW.Whole enc C.P fn.params.toList s.vars apart W args.toList ds gs before)
    (hsz : (DataW.weightsEach C.P (fn.params.toList ++ s.plain.varTypes C.P) (ds ++ gs)).all (· ≤ reachBytes) = true) :
    Calls C.P f args W fun e W' => ∃ v, e = .returned v ∧ s.post enc C.P fn apart fresh handsOn again W args v W' := by
  have hW' := hW
  obtain ⟨p, q, hA, hV, rfl, hfz, hnd⟩ := hW
  rw [hvars] at hV
  obtain ⟨rfl, rfl⟩ := trodVars_none hV
  obtain ⟨ys, k1, k2, k3, k4⟩ := open_all hT hno fn.params.toList tes args.toList ds p htes (fun j t v ht hv => hval j t v (by simpa using ht) (by simpa using hv)) hA (S := true) (fun _ n hn => by
    have hvt : s.plain.varTypes C.P = [] := by simp [DataSpec.varTypes, ChangeSpec.plain, hvars]
    rw [hvt, List.append_nil, List.append_nil] at hsz
    simpa using List.all_eq_true.1 hsz n hn)
  have hc := hcon ys k1 (fun j te h => (k4 j te h).1) W (Old W) args (fun k hk => hk) hG (by simp only [List.length_zipWith]; simp at k2; omega) (fun j hj => by
    simp only [List.length_zipWith] at hj
    have := (k4 j tes[j] (by simp [show j < tes.length by omega])).2
    simpa [Array.getD_eq_getD_getElem?, List.getD_eq_getElem?_getD] using this)
  refine hc.mono ?_
  rintro e W' ⟨v, F', rfl, hb, _, _, _, hv⟩
  have hv : v = .bool true := by
    simp only [RepR] at hv
    cases hv with | bool b => rfl
  subst hv
  have hlt : ∀ x ∈ p, x.block < W.heap.size := fun x hx => hW'.lt x (by simpa using hx)
  refine ⟨_, rfl, post_of_below (pa := p) (pv := []) hW' (fun b sp hd => ?_) (fun sp hsp => ?_) (fun _ _ => ?_) rfl hb ?_⟩
  · rw [List.append_nil, hs ds k3, hres]
    exact trodAll_cons_mk (shut_bool hub _) trodAll_mk0
  · rw [List.append_nil, hs ds k3]
    exact args_after hl hb _ _ _ _ hread hA hlt (fun x hx => hsp x (by simpa using hx))
  · rw [List.append_nil, hs ds k3, hvars]
    rfl
  · exact ok_one hres rfl (okWide_bool_mk hub _)
end
end Go.AV
/- A row that lists variables, the world's shape kept; a package variable of an integer's type holds some integer of its kind. -/
namespace Go.AV
open Go Go.ChangeShapes Go.WideShapes Go.RowKit

theorem returns_laid_shaped {H : Type} {enc : TypeId × Value → H} {a : Assume} {C : Checked} {P : Program} (hP : C.prog = P) {os : Os} {f : FuncId} {fn : Func} {s : ChangeSpec} {conds : List PathCond} {apart fresh handsOn again : Bool} {X : World → Array Value → Prop}
    (hX : ∀ (w w' : World) (args : Array Value), w.heap = w'.heap → X w args → X w' args)
    (own : ownKnob C.prog.godebug = none) (started : os.Started) (noInit : C.prog.inits.idxOf? f = none) (hfn : C.prog.funcs[f]? = some fn)
    (witness : ∃ (w : World) (tape : Tape) (i : Input), w.os = os ∧ (w.forCall tape i).Shaped C.prog ∧ i.vars = [] ∧ Input.okWide C.prog (w.forCall tape i) .any w.heap.size f i ∧
      ((s.pre enc C.prog fn conds apart (w.forCall tape i).memory i.args ∧ X (w.forCall tape i).memory i.args) ∧ sizedMet enc C.prog fn (OpenSpec.ofChange s) apart (w.forCall tape i).memory i.args) ∧ a.holds C.prog (lone (Frame.enter C.prog f i.args .normal) [] (w.forCall tape i)))
    (contract : ∀ (W : World) (base : Nat) (args : Array Value) (ds gs : List (DataW H)) (before : List MemPlace), W.ShapedOpen P →
      (∀ (j : Nat) t v, fn.params[j]? = some t → args[j]? = some v → Value.okWide P W .any base t v) →
      DataW.Whole enc P fn.params.toList s.vars apart W args.toList ds gs before →
      Calls P f args W fun e W' => ∃ v, e = .returned v ∧ s.post enc P fn apart fresh handsOn again W args v W') :
    ReturnsInHanded a C os f .any (fun w args => (s.pre enc C.prog fn conds apart w args ∧ X w args) ∧ sizedMet enc C.prog fn (OpenSpec.ofChange s) apart w args) (s.post enc C.prog fn apart fresh handsOn again) := by
  subst hP
  refine returnsInHanded_of_calls own started noInit witness ?_
  intro w tape i _ hsh _ hok hpre _
  obtain ⟨_, _, _, fn', hfn', _, _, _, _, hval⟩ := hok
  obtain rfl : fn' = fn := Option.some.inj (hfn'.symm.trans hfn)
  obtain ⟨⟨⟨ds, gs, before, hw, _⟩, _⟩, _⟩ := hpre
  refine (contract (w.forCall tape i) w.heap.size i.args ds gs before hsh hval (DataW.Whole.of_heap (w' := w.forCall tape i) (by rfl) hw)).mono fun e W' ⟨v, he, hp⟩ => ?_
  subst he
  exact ChangeSpec.post_blind hp

/-- Some integer of its kind, and of its range. -/
theorem int_of_shape {P : Program} {w : World} {g : Nat} {t : TypeId} {zero : Array Value} {k : IntKind}
    (h : w.ShapedOpen P) (hg : g < P.globals.size) (h0 : ((begin P (fun _ _ => 0) default).world.heap[g]?).bind Obj.row? = some (zero, t)) (hz : zero.size = 1)
    (hb : P.buildable t = true) (hc : P.cellTypes P.depth t = some [t]) (hu : P.underlying t = some (.int k)) :
    ∃ m, w.cell? ⟨g, 0, none⟩ = some (.int k m) ∧ k.has m := by
  obtain ⟨cs, hh, hs, hr⟩ := h.1 g zero t hg h0
  obtain ⟨ts, hts, _, hall⟩ := hr hb
  obtain rfl : ts = [t] := by rw [hc] at hts; exact (Option.some.inj hts).symm
  have h1 : 0 < cs.size := by omega
  obtain ⟨u, hu', hok⟩ := hall 0 cs[0] (by simp [h1])
  obtain rfl : u = t := by simpa using hu'.symm
  have hcell : w.cell? ⟨g, 0, none⟩ = some cs[0] := by simp [World.cell?, hh, h1]
  rw [hcell]
  unfold Cell.ok at hok
  rw [hu] at hok
  cases hv : cs[0] <;> rw [hv] at hok <;> simp at hok
  case int k' n => exact ⟨n, by rw [hok.1], hok.2⟩
end Go.AV
