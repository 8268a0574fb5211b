import Derived.RangeFuncNested
import Derived.RangeFuncLeaves
import Derived.RangeFuncCalls
import Derived.LoopNIn
import Derived.Test.YtgcpdfihjmmggaaGreatDoorXj
import Derived.Test.YtgcpdfihjmmggaaGreatDoorXn
import Derived.TacticsInMore
namespace Go.AV
open Go.RowKit
section
variable {P : Program}
def z6f : List Oper -> Bool
  | [] => true
  | o :: l => (match o.op with | .defer _ => false | _ => true) && z6f l
theorem zb8 {o : Oper} {l : List Oper} (h : z6f l = true) (hm : o ∈ l) : ∀ c, o.op ≠ .defer c := by
  induction l with
  | nil => cases hm
  | cons x l ih =>
    simp only [z6f, Bool.and_eq_true] at h
    cases hm with
    | head => intro c e; rw [e] at h; exact Bool.noConfusion h.1
    | tail _ hm => exact ih h.2 hm
def FR (ro : Option Nat) : Fence := { Fence.wide with round := ro }
theorem zps {ro : Option Nat} {n : Nat} {row : String} {args : Array Value} {w : World} {R : Value -> World -> Prop} (h : Rows P row args w R) : RowsIn (FR ro) n P row args w R :=
  fun c cs _ => let ⟨v, w', hr, hs⟩ := h c cs; ⟨v, w', hr, stepsIn_wide.2 hs⟩
theorem zgh {ro : Option Nat} {n : Nat} {f : FuncId} {args : Array Value} {w : World} {R : Ending -> World -> Prop} (h : Calls P f args w R) : CallsIn (FR ro) n P f args w R :=
  ⟨trivial, fun cs _ => let ⟨e, w', fr, hr, hs, hx⟩ := h cs; ⟨e, w', fr, hr, comesIn_wide.2 hs, hx⟩⟩
theorem z20 {a : Act} {d : Option Tmp} {s : Nat} (h : d ≠ some s) (v : Value) : (a.put d v).tmps[s]? = a.tmps[s]? := by
  cases d with
  | none => rfl
  | some d =>
    show (a.tmps.setIfInBounds d v)[s]? = a.tmps[s]?
    rw [Array.getElem?_setIfInBounds]
    rw [if_neg (fun e => h (by rw [e]))]
theorem zj4 {o : Oper} {a : Act} {next next' : Act -> World -> Prop} {Q Q' : Exit -> Act -> World -> Prop} {ro : Option Nat} {n s : Nat} (hs : o.dst ≠ some s) (hQ : ¬ LetsOut Q) (hQ' : ∀ ch w, Q (.panic ch) a w -> Q' (.panic ch) a w) (hn : ∀ a' w, next a' w -> a'.tmps[s]? = a.tmps[s]? -> next' a' w) :
    ∀ (res : Result Go.Next), o.upon P a next Q res -> o.uponIn (FR ro) n P a next' Q' res := by
  intro res h
  match res, h with
  | .ok (.value v) w', h => exact hn _ _ h (z20 hs v)
  | .ok .skip w', h => exact hn _ _ h (z20 hs _)
  | .ok (.defer d) w', h => exact hn _ _ h (z20 (a := { a with defers := d :: a.defers }) hs _)
  | .ok (.enter f args) w', h =>
    refine ⟨fun he => by simp [FR, Fence.wide] at he, zgh ?_⟩
    intro cs
    obtain ⟨e, w'', fr, hr, hx⟩ := h cs
    refine ⟨e, w'', fr, ?_, hx⟩
    match e, hr with
    | .returned v, hr => exact hn _ _ hr (z20 hs v)
    | .panicked chain, hr => exact hQ' _ _ hr
    | .outgrown, hr => exact (hQ hr).elim
  | .ok (.row row args) w', h => exact ⟨fun he => by simp [FR, Fence.wide] at he, zps (h.mono fun v _ hr => hn _ _ hr (z20 hs v))⟩
  | .halt (.panic v) w', h => exact hQ' _ _ h
def z6g (s : Nat) : List Oper -> Bool
  | [] => true
  | o :: l => (match o.dst with | some d => !Nat.beq d s | none => true) && z6g s l
theorem z7p {s : Nat} {o : Oper} {l : List Oper} (h : z6g s l = true) (hm : o ∈ l) : o.dst ≠ some s := by
  induction l with
  | nil => cases hm
  | cons x l ih =>
    simp only [z6g, Bool.and_eq_true] at h
    cases hm with
    | head => intro e; rw [e] at h; simp at h
    | tail _ hm => exact ih h.2 hm
def Slot (s : Nat) (u : Option Value) (Q : Exit -> Act -> World -> Prop) : Exit -> Act -> World -> Prop := fun e a w => Q e a w /\ a.tmps[s]? = u
theorem zns {o : Oper} {a : Act} {next next' : Act -> World -> Prop} {Q' : Exit -> Act -> World -> Prop} {ro : Option Nat} {n : Nat} (hn : ∀ a' w, next a' w -> (∀ s, o.dst ≠ some s -> a'.tmps[s]? = a.tmps[s]?) -> next' a' w) :
    ∀ (res : Result Go.Next), o.upon P a next (fun _ _ _ => False) res -> o.uponIn (FR ro) n P a next' Q' res := by
  intro res h
  match res, h with
  | .ok (.value v) w', h => exact hn _ _ h fun s hs => z20 hs v
  | .ok .skip w', h => exact hn _ _ h fun s hs => z20 hs _
  | .ok (.defer d) w', h => exact hn _ _ h fun s hs => z20 (a := { a with defers := d :: a.defers }) hs _
  | .ok (.enter f args) w', h =>
    refine ⟨fun he => by simp [FR, Fence.wide] at he, zgh ?_⟩
    intro cs
    obtain ⟨e, w'', fr, hr, hx⟩ := h cs
    refine ⟨e, w'', fr, ?_, hx⟩
    match e, hr with
    | .returned v, hr => exact hn _ _ hr fun s hs => z20 hs v
    | .panicked chain, hr => exact hr.elim
    | .outgrown, hr => obtain ⟨_, _, hr⟩ := hr; exact hr.elim
  | .ok (.row row args) w', h => exact ⟨fun he => by simp [FR, Fence.wide] at he, zps (h.mono fun v _ hr => hn _ _ hr fun s hs => z20 hs v)⟩
  | .halt (.panic v) w', h => exact h.elim
theorem znt {o : Oper} {a : Act} {w : World} {next next' : Act -> World -> Prop} {Q' : Exit -> Act -> World -> Prop} {ro : Option Nat} {n : Nat} (hd : ∀ c, o.op ≠ .defer c)
    (hn : ∀ a' w, next a' w -> (∀ s, o.dst ≠ some s -> a'.tmps[s]? = a.tmps[s]?) -> next' a' w) (h : o.wp P a w next (fun _ _ _ => False)) : o.wpIn (FR ro) n P a w next' Q' := by
  refine ⟨fun f _ => trivial, ?_⟩
  rw [Oper.semAt_eq _ _ _ hd]
  exact zns hn _ h
theorem zj5 {o : Oper} {a : Act} {w : World} {next next' : Act -> World -> Prop} {Q : Exit -> Act -> World -> Prop} {ro : Option Nat} {n s : Nat} {u : Option Value} (hd : ∀ c, o.op ≠ .defer c) (hs : o.dst ≠ some s) (hQ : ¬ LetsOut Q) (hu : a.tmps[s]? = u)
    (hn : ∀ a' w, next a' w -> a'.tmps[s]? = u -> next' a' w) (h : o.wp P a w next Q) : o.wpIn (FR ro) n P a w next' (Slot s u Q) := by
  refine ⟨fun f _ => trivial, ?_⟩
  rw [Oper.semAt_eq _ _ _ hd]
  exact zj4 hs hQ (fun ch w hq => ⟨hq, hu⟩) (fun a' w' hh hs' => hn a' w' hh (hs'.trans hu)) _ h
theorem z3k {ops : Array Oper} {Q : Exit -> Act -> World -> Prop} {ro : Option Nat} {n s : Nat} {u : Option Value} (hQ : ¬ LetsOut Q) (hd : z6f ops.toList = true) (hs : z6g s ops.toList = true) :
    ∀ (l : List Nat) (a : Act) (w : World), a.tmps[s]? = u -> wpOps P ops Q l a w -> wpOpsIn (FR ro) n P ops (Slot s u Q) l a w
  | [], a, w, hu, h => ⟨h, hu⟩
  | i :: rest, a, w, hu, h => by
    simp only [wpOps] at h
    simp only [wpOpsIn]
    cases ho : ops[i]? with
    | none => rw [ho] at h; exact z3k hQ hd hs rest a w hu h
    | some o =>
      rw [ho] at h
      simp only [] at h ⊢
      have hm : o ∈ ops.toList := Array.mem_toList_iff.2 (Array.mem_of_getElem? ho)
      split
      . rename_i hw
        rw [if_pos hw] at h
        rcases h with h | ⟨_, h⟩
        . exact zj5 (zb8 hd hm) (z7p hs hm) hQ hu (fun a' w' hh hu' => z3k hQ hd hs rest a' w' hu' hh) h
        . exact (hQ h).elim
      . rename_i hw
        rw [if_neg hw] at h
        exact ⟨fun _ _ => trivial, z3k hQ hd hs rest _ w ((z20 (z7p hs hm) _).trans hu) h⟩
theorem z6h {F : Fence} {n : Nat} {c : Code} {Q : Exit -> Act -> World -> Prop} (I : Nat -> Act -> World -> Prop) (k : Nat) {a : Act} {w : World} (h0 : I k a w)
    (round : ∀ k a w, I k a w -> c.wpIn F n P (Exit.then (fun a' w' => ∃ m, m < k /\ I m a' w') Q) a w) : (Code.loop c).wpIn F n P Q a w := by
  have key : ∀ m k, k < m -> ∀ a w, I k a w -> Code.roundsIn F n P c Q m a w := by
    intro m
    induction m with
    | zero => intro k hk; omega
    | succ m ih =>
      intro k hk a w hi
      refine wpIn_mono (round k a w hi) ?_
      intro e a' w' hq
      cases e with
      | normal => obtain ⟨j, hj, hi'⟩ := hq; exact ih j (by omega) a' w' hi'
      | _ => exact hq
  exact wpIn_loop_rounds (k + 1) (key (k + 1) k (by omega) a w h0)
end
theorem zkq {C : Cfg} {CC : FuncId -> List AV -> AV -> Prop} {W0 : Entry} {F0 : Nat -> Prop} {Q : Exit -> Act -> World -> Prop} {ops : Array Oper} {orc : Nat -> FuncId -> List AV -> Option AV} {ro : Option Nat} {n m : Nat} (hT : z12 C) (hCC : CCOK C CC) :
    ∀ (rest : List Oper) (i : Nat) (st st' : St) (ps : List Prop) (a : Act) (w : World) (F : Nat -> Prop) (φ : Nat -> Place), (∀ j, j < rest.length -> rest[j]? = ops[i + j]?) ->
    z5m C CC orc ops.toList rest i st = some (st', ps) -> (∀ p ∈ ps, p) -> Rel C W0 F0 st a w F φ -> z6f rest = true ->
    (∀ a' w' F' φ', Rel C W0 F0 st' a' w' F' φ' -> (∀ s, z6g s rest = true -> a'.tmps[s]? = a.tmps[s]?) -> wpOpsIn (FR ro) n C.P ops Q (List.range' (i + rest.length) m) a' w') -> wpOpsIn (FR ro) n C.P ops Q (List.range' i (rest.length + m)) a w
  | [], i, st, st', ps, a, w, F, φ, _, h, _, hR, _, hK => by
    simp only [z5m, Option.some.injEq, Prod.mk.injEq] at h
    obtain ⟨rfl, _⟩ := h
    have := hK _ _ _ _ hR fun _ _ => rfl
    simpa using this
  | o :: rest, i, st, st', ps, a, w, F, φ, hj, h, hps, hR, hd, hK => by
    simp only [z5m] at h
    split at h
    case h_2 => cases h
    rename_i st1 ps1 h1
    split at h
    case h_2 => cases h
    rename_i st2 ps2 h2
    cases h
    have ho : ops[i]? = some o := by simpa using (hj 0 (by simp)).symm
    have hm : o ∈ o :: rest := by simp
    have hne := zb8 hd hm
    simp only [z6f, Bool.and_eq_true] at hd
    have ih : ∀ a' w', (∃ F' φ', Rel C W0 F0 st1 a' w' F' φ') -> (∀ s, o.dst ≠ some s -> a'.tmps[s]? = a.tmps[s]?) -> wpOpsIn (FR ro) n C.P ops Q (List.range' (i + 1) (rest.length + m)) a' w' := by
      rintro a' w' ⟨F', φ', hR'⟩ hu'
      refine zkq hT hCC rest (i + 1) st1 st' ps2 a' w' F' φ' (fun j hlt => by rw [show i + 1 + j = i + (j + 1) from by omega, <- hj (j + 1) (by simp; omega)]; simp) h2 (fun p hp => hps p (by simp [hp])) hR' hd.2 ?_
      intro a2 w2 F2 φ2 hR2 hu2
      have := hK a2 w2 F2 φ2 hR2 fun s hs => by
        have hs0 := z7p hs hm
        simp only [z6g, Bool.and_eq_true] at hs
        exact (hu2 s hs.2).trans (hu' s hs0)
      rwa [List.length_cons, show i + (rest.length + 1) = i + 1 + rest.length from by omega] at this
    rw [List.length_cons, show rest.length + 1 + m = (rest.length + m) + 1 from by omega, List.range'_succ]
    simp only [wpOpsIn, ho]
    have hstep := z3j (Q := fun _ _ _ => False) (ops := ops) (K := fun a' w' => ∃ F' φ', Rel C W0 F0 st1 a' w' F' φ') hR hT hCC h1 (fun p hp => hps p (by simp [hp])) fun a' w' F' φ' hR' => ⟨F', φ', hR'⟩
    split
    . rename_i hw
      rw [if_pos hw] at hstep
      exact znt hne ih hstep
    . rename_i hw
      rw [if_neg hw] at hstep
      exact ⟨fun _ _ => trivial, ih _ _ hstep fun s hs => z20 hs _⟩
def z3s (s : Nat) : Code -> Bool
  | .skip | .exit _ | .ret => true
  | .region _ ops _ => z6f ops.toList && z6g s ops.toList
  | .seq x y | .cond _ x y => z3s s x && z3s s y
  | .block _ c => z3s s c
  | _ => false
section
variable {V : VCtx} {W0 : Entry} {F0 : Nat -> Prop}
theorem zgi {C : Cfg} {CC : FuncId -> List AV -> AV -> Prop} {orc : Nat -> FuncId -> List AV -> Option AV} {ops : Array Oper} {st st' : St} {Q : Exit -> Act -> World -> Prop} {ro : Option Nat} {n s : Nat} {u : Option Value} {ps : List Prop} {a : Act} {w : World} {F : Nat -> Prop} {φ : Nat -> Place} {id : Nat}
    (hO : ¬ LetsOut Q) (hd : z6f ops.toList = true) (hs : z6g s ops.toList = true) (hu : a.tmps[s]? = u) (hT : z12 C) (hCC : CCOK C CC) (h : z5m C CC orc ops.toList ops.toList 0 st = some (st', ps)) (hps : ∀ p ∈ ps, p) (hok : zar C CC orc ops.toList st = true)
    (hR : Rel C W0 F0 st a w F φ) (hQ : ∀ a' w' F' φ', Rel C W0 F0 st' a' w' F' φ' -> Q .normal a' w') : (Code.region id ops true).wpIn (FR ro) n C.P (Slot s u Q) a w := by
  obtain ⟨σ, T⟩ := zuc h hps hok
  have key : ∀ md, wpAny C.P md ops Q ops.size (Array.replicate ops.size false) a { w with drawn := w.drawn + 1 } := by
    intro md
    have hno : ∀ k, ¬ ((Array.replicate ops.size false).getD k false = true) := by
      intro k
      simp only [Array.getD_eq_getD_getElem?, Array.getElem?_replicate]
      split <;> simp
    refine zh6 T hT hCC hQ ops.size (List.range ops.size) _ a _ st F φ (by simp) List.nodup_range (by simp) (fun k hk => ?_) ⟨fun s => ⟨0, Nat.zero_le _, fun k o _ _ => ⟨fun h => absurd h (hno k), fun h => by omega⟩, by rw [T.s0]⟩, fun b => ⟨0, Nat.zero_le _, fun k o _ _ => ⟨fun h => absurd h (hno k), fun h => by omega⟩, by rw [T.s0]⟩⟩
      (fun k o hk => absurd hk (hno k)) ?_
    . simp [Array.getD_eq_getD_getElem?, hk]
    . exact hR.grown ⟨rfl, rfl, rfl, Nat.le_refl _, fun _ _ => rfl⟩ (fun _ hk => hk) (fun _ hk => .inl hk) hR.ro
  refine wpIn_region_draw fun t => z3k hO hd hs _ _ _ hu ?_
  unfold Region.schedule
  split
  . exact wpAny_sound _ _ _ _ _ (key .any)
  . exact wpAny_sound _ _ _ _ _ (key _)
theorem zci (hT : z12 V.C) (hCC : CCOK V.C V.CC) {ro : Option Nat} {n s : Nat} {u : Option Value} {id : Nat} {ops : Array Oper} {draw : Bool} {st : St} {Q : Exit -> St -> Prop} {a : Act} {w : World} {F : Nat -> Prop} {φ : Nat -> Place} (hok : z3s s (.region id ops draw) = true) (hu : a.tmps[s]? = u) (hO : ∀ st, ¬ Q .outgrown st) (h : zeq V id ops draw st Q) (hR : Rel V.C W0 F0 st a w F φ) :
    (Code.region id ops draw).wpIn (FR ro) n V.C.P (Slot s u (Fits V.C W0 F0 Q)) a w := by
  have hO' : ¬ LetsOut (Fits V.C W0 F0 Q) := by rintro ⟨a, w, st, F, φ, _, hq⟩; exact hO _ hq
  simp only [z3s, Bool.and_eq_true] at hok
  obtain ⟨hd, hs⟩ := hok
  cases draw with
  | true =>
    simp only [zeq] at h
    split at h
    case h_2 => exact h.elim
    rename_i st' ps hops
    split at h
    case h_2 => exact h.elim
    rename_i hdr
    obtain ⟨h1, h2⟩ := z24 h
    exact zgi hO' hd hs hu hT hCC hops h1 hdr hR fun a' w' F' φ' hR' => ⟨st', F', φ', hR', h2⟩
  | false =>
    have pan : z4h V.C V.CC (V.orc id) ops.toList ops.toList 0 st Q -> (Code.region id ops false).wpIn (FR ro) n V.C.P (Slot s u (Fits V.C W0 F0 Q)) a w := fun h => by
      refine wpIn_region (z3k hO' hd hs _ _ _ hu ?_)
      have := z68 (Q := Fits V.C W0 F0 Q) (ops := ops) ops.toList 0 st a w F φ hT hCC (fun j => by simp) h hR fun e st' a' w' F' φ' hq hR' => ⟨st', F', φ', hR', hq⟩
      rw [Array.length_toList, <- List.range_eq_range'] at this
      exact this
    simp only [zeq] at h
    split at h
    . exact pan h
    . split at h
      case h_2 => exact pan h
      rename_i st' ps hops
      obtain ⟨h1, h2⟩ := z24 h
      refine wpIn_region (z3k hO' hd hs _ _ _ hu ?_)
      have := z4r (Q := Fits V.C W0 F0 Q) (ops := ops) ops.toList 0 st st' ps a w F φ hT hCC (fun j => by simp) hops h1 hR fun a' w' F' φ' hR' => ⟨st', F', φ', hR', h2⟩
      rw [Array.length_toList, <- List.range_eq_range'] at this
      exact this
theorem z2v (hT : z12 V.C) (hCC : CCOK V.C V.CC) {ro : Option Nat} {n s : Nat} {u : Option Value} : ∀ (c : Code) (st : St) (Q : Exit -> St -> Prop) (a : Act) (w : World) (F : Nat -> Prop) (φ : Nat -> Place), z3s s c = true -> a.tmps[s]? = u -> (∀ st, ¬ Q .outgrown st) -> vc V c st Q -> Rel V.C W0 F0 st a w F φ ->
    c.wpIn (FR ro) n V.C.P (Slot s u (Fits V.C W0 F0 Q)) a w := by
  intro c
  induction c with
  | skip => intro st Q a w F φ _ hu _ h hR; exact wpIn_skip ⟨⟨st, F, φ, hR, h⟩, hu⟩
  | region id ops draw =>
    intro st Q a w F φ hok hu hO h hR
    simp only [vc] at h
    split at h
    . exact zci hT hCC hok hu hO h hR
    . obtain ⟨hp, h'⟩ := z24 h
      obtain ⟨F', hR'⟩ := hR.frzT hp
      exact zci hT hCC hok hu hO h' hR'
  | seq x y ihx ihy =>
    intro st Q a w F φ hok hu hO h hR
    simp only [z3s, Bool.and_eq_true] at hok
    simp only [vc] at h
    split at h
    . rename_i k I _
      obtain ⟨h1, h2⟩ := h
      refine wpIn_seq (wpIn_mono (ihx st (fun e st' => match e with | .normal => ∃ i, I.ok i /\ leZ V k st' (I.S i) | e => Q e st') a w F φ hok.1 hu (fun st hq => hO _ hq) h1 hR) ?_)
      rintro e a' w' ⟨⟨st', F', φ', hR', hq⟩, hu'⟩
      cases e with
      | normal =>
        obtain ⟨i, hi, hle⟩ := hq
        obtain ⟨F3, φ3, hR3⟩ := z44 hR' hle
        exact ihy _ _ _ _ _ _ hok.2 hu' hO (h2 i hi) hR3
      | _ => exact ⟨⟨st', F', φ', hR', hq⟩, hu'⟩
    . refine wpIn_seq (wpIn_mono (ihx st (fun e st' => match e with | .normal => vc V y st' Q | e => Q e st') a w F φ hok.1 hu (fun st hq => hO _ hq) h hR) ?_)
      rintro e a' w' ⟨⟨st', F', φ', hR', hq⟩, hu'⟩
      cases e with
      | normal => exact ihy _ _ _ _ _ _ hok.2 hu' hO hq hR'
      | _ => exact ⟨⟨st', F', φ', hR', hq⟩, hu'⟩
  | cond c x y ihx ihy =>
    intro st Q a w F φ hok hu hO h hR
    simp only [z3s, Bool.and_eq_true] at hok
    simp only [vc] at h
    split at h
    case h_2 => exact h.elim
    rename_i p hp
    have hb := (hR.ev hp).bool_inv
    exact wpIn_cond_split hb (fun hp => ihx _ _ _ _ _ _ hok.1 hu hO (h.1 hp) hR) (fun hp => ihy _ _ _ _ _ _ hok.2 hu hO (h.2 hp) hR)
  | block id c ih =>
    intro st Q a w F φ hok hu hO h hR
    have hb : ∀ Q', vc V c st Q' -> (∀ st, ¬ Q' .outgrown st) -> c.wpIn (FR ro) n V.C.P (Slot s u (Fits V.C W0 F0 Q')) a w := fun Q' h hO => ih st Q' a w F φ hok hu hO h hR
    refine wpIn_block (wpIn_mono (hb _ h fun st hq => hO _ hq) ?_)
    rintro e a' w' ⟨⟨st', F', φ', hR', hq⟩, hu'⟩
    cases e with
    | exit i =>
      simp only [Exit.inBlock]
      simp only at hq
      split at hq
      . rename_i hi
        rw [if_pos (Nat.eq_of_beq_eq_true hi)]
        exact ⟨⟨st', F', φ', hR', hq⟩, hu'⟩
      . rename_i hi
        rw [if_neg (fun e => by subst e; simp at hi)]
        exact ⟨⟨st', F', φ', hR', hq⟩, hu'⟩
    | _ => exact ⟨⟨st', F', φ', hR', hq⟩, hu'⟩
  | exit id => intro st Q a w F φ _ hu _ h hR; exact wpIn_exit ⟨⟨st, F, φ, hR, h⟩, hu⟩
  | ret => intro st Q a w F φ _ hu _ h hR; exact wpIn_ret ⟨⟨st, F, φ, hR, h⟩, hu⟩
  | _ => intro st Q a w F φ hok; simp [z3s] at hok
end
section
variable {w : World} {F : Nat -> Prop} {φ : Nat -> Place}
variable {C : Cfg} {W0 : Entry} {F0 : Nat -> Prop} {st : St} {a : Act}
theorem Rel.mkStat {env : List (Nat × AV)} (henv : ∀ s x, get env s = some x -> ∃ v, a.tmps[s]? = some v /\ RepS w F v x) (hro : ∀ k, F k -> k < w.heap.size) (hd : a.defers = []) (hsz : a.tmps.size = C.ntmps)
    (hglob : ∀ g x, get C.G g = some x -> RepS w F (.pointer (some ⟨g, 0, none⟩)) x) (φ : Nat -> Place) : Rel C (.of w) F ⟨env, []⟩ a w F φ :=
  ⟨fun s x hs => let ⟨v, h1, h2⟩ := henv s x hs; ⟨v, h1, .stat h2⟩, fun b c hc => by simp [get] at hc, fun b b' c c' g h1 => by simp [get] at h1, hro, Kept.refl _ _, fun _ h => h, fun _ h => .inl h, hd, hsz, hglob, fun b p hp => by cases hp⟩
theorem Rel.statEnv (h : Rel C W0 F0 st a w F φ) {s : Nat} {x : AV} (hx : get st.env s = some x) (hs : x.isStat = true) : ∃ v, a.tmps[s]? = some v /\ RepS w F v x :=
  let ⟨v, h1, h2⟩ := h.env s x hx; ⟨v, h1, h2.toS hs⟩
theorem Rel.putObj (h : Rel C W0 F0 st a w F φ) {l : Nat} (o : Obj) (hl : l < W0.w.heap.size) (hL : ¬ W0.L l) (hF : ¬ F0 l) : Rel C ⟨W0.w.putObj l o, W0.L, W0.A, W0.D⟩ F0 st a (w.putObj l o) F φ := by
  have hB : ¬ W0.B l := by rintro (h | h); · omega
                           . exact hL h
  have hFl : ¬ F l := fun h1 => (h.new l h1).elim hF hB
  have hk : ∀ k, F k -> (w.putObj l o).heap[k]? = w.heap[k]? := fun k hk => World.putObj_heap_other (fun e => hFl (e ▸ hk))
  have hBB : ∀ g, W0.B g -> (⟨W0.w.putObj l o, W0.L, W0.A, W0.D⟩ : Entry).B g := fun g hg => hg.imp (fun h => by simpa using h) id
  refine ⟨fun s x hs => ?_, fun b c hc => ?_, h.inj, fun k hk => by rw [World.putObj_size]; exact h.ro k hk, ?_, h.sub, fun k hk => (h.new k hk).imp_right (hBB k), h.dfr, h.tsz, fun g x hg => (h.glob g x hg).keep hk (fun _ h => h), h.anc⟩
  . obtain ⟨v, hv, hr⟩ := h.env s x hs
    exact ⟨v, hv, hr.keep hk (fun _ h => h) fun _ _ => rfl⟩
  . have h1 : z1i w F φ (⟨W0.w.putObj l o, W0.L, W0.A, W0.D⟩ : Entry).B b c := by
      have := h.heap b c hc
      cases c with
      | cell tc sh x => obtain ⟨a1, g, cs, a2, a3, a4⟩ := this; exact ⟨a1, g, cs, a2, hBB g a3, a4⟩
      | row ty sh n f =>
        obtain ⟨a1, a2, a3 | ⟨g, cs, b2, b3, b4⟩⟩ := this
        . exact ⟨a1, a2, .inl a3⟩
        . exact ⟨a1, a2, .inr ⟨g, cs, b2, hBB g b3, b4⟩⟩
    refine h1.keep hk (fun _ h => h) (fun g hg => ?_) rfl fun _ _ => rfl
    obtain ⟨_, c2, c3⟩ := (h.heap b c hc).lt hg
    exact ⟨World.putObj_heap_other fun e => hB (e ▸ c3), c2⟩
  . obtain ⟨k1, k2, k3, k4, k5⟩ := h.base
    refine ⟨k1, k2, k3, by simpa using k4, fun k hk hkL => ?_⟩
    have hk' : k < W0.w.heap.size := by simpa using hk
    by_cases e : k = l
    . subst e
      have h2 := k5 k hk' hkL
      have h1 : k < w.heap.size := by omega
      exact (World.putObj_heap_same h1).trans (World.putObj_heap_same hk').symm
    . exact (World.putObj_heap_other e).trans ((k5 k hk' hkL).trans (World.putObj_heap_other e).symm)
end
def zdj (k : Nat) : Code -> Option Code
  | .region id ops d => match Nat.beq id k with | true => some (.region id ops d) | false => none
  | .seq x y | .cond _ x y | .rangeFunc _ _ x y => match zdj k x with | some c => some c | none => zdj k y
  | .block _ c | .loop c | .scope c => zdj k c
  | _ => none
def zsd (fn : Func) (k : Nat) : Code := match fn.body with
  | some c => match zdj k c with | some c => c | none => .skip
  | none => .skip
def zb9 : Code -> Option (Code × Code)
  | .rangeFunc _ _ x y => some (x, y)
  | .seq x y | .cond _ x y => match zb9 x with | some c => some c | none => zb9 y
  | .block _ c | .loop c | .scope c => zb9 c
  | _ => none
def zkr (fn : Func) : Code := match fn.body with
  | some c => match zb9 c with | some (x, _) => x | none => .skip
  | none => .skip
def zse (fn : Func) : Code := match fn.body with
  | some c => match zb9 c with | some (_, y) => y | none => .skip
  | none => .skip
def zsf (fn : Func) : Code := match fn.body with
  | some (.seq _ (.seq _ (.seq _ c))) => c
  | _ => .skip
def zgj : Code -> List Oper
  | .region _ ops _ => ops.toList
  | _ => []
def pcQ (n : Option (Prop × St)) (x : Option (Nat × Prop × St)) (r : Option (Prop × St)) : Exit -> St -> Prop := fun e st' => match e with
  | .normal => match n with | some (p, S) => p /\ st'.le S | none => False
  | .exit i => match x with | some (id, p, S) => (match Nat.beq i id with | true => p /\ st'.le S | false => False) | none => False
  | .ret => match r with | some (p, S) => p /\ st'.le S | none => False
  | _ => False
def pcVc (V : VCtx) (c : Code) (st : St) (n : Option (Prop × St)) (x : Option (Nat × Prop × St)) (r : Option (Prop × St)) : Prop := vc V c st (pcQ n x r)
def opVc (V : VCtx) (id : Nat) (ops rest : List Oper) (i : Nat) (st S : St) : Prop := match z5m V.C V.CC (V.orc id) ops rest i st with
  | some (st', ps) => conj ps (st'.le S)
  | none => False
end Go.AV
namespace Go.Proofs.S25
open Go Go.AV
open Go.IntKind renaming i64 -> j6
open Go.AV.Shape (leaf)
noncomputable section
def lngR (p : PProg) : Nat -> Int
  | 0 => -1
  | k + 1 => if 64 < (p.funs.getD (p.funs.length - (k + 1)) c0f).code.length then ((p.funs.length - (k + 1) : Nat) : Int) else lngR p k
def z2d (p : PProg) : Int := lngR p p.funs.length
def dFs (f : Nat -> AV) (n : Nat) : List PFun := (List.range n).map fun i => dF (f i)
def spQ : FuncId -> List AV -> Option AV
  | 170, [.mc _ f] => some (.bool (decide (64 < (dF f).code.length)))
  | 169, [.seq _ n f, .clo 170 []] => some (.int .i64 (z2d ⟨[], [], [], dFs f n, []⟩))
  | 171, [.mc _ p] => some (.clo 221 [.rptr za p])
  | f, l => spP f l
noncomputable def vQ25 (n : Nat) (inv : Nat -> Option Inv) : VCtx := { C := cfgT n, CC := Known Tryz.prog GG, orc := fun _ _ => spQ, inv := inv }
noncomputable def zvh (f : PFun) : Prop := fnVc (vQ25 7 fun _ => none) Tryz.f170 [.mc ze (encF f)] (.bool (decide (64 < f.code.length)))
def zks (p : PProg) (k : Nat) : Option Inv := match Nat.beq k 2 with
  | true => some { ι := Nat, S := fun i => ⟨[(0, rowF p.funs), (1, .clo 170 []), (7, .int .i64 p.funs.length), (8, .int .i64 i)], []⟩, μ := fun i => p.funs.length - i, ok := fun i => i <= p.funs.length /\ z2d p = lngR p (p.funs.length - i) }
  | false => none
noncomputable def zvi (p : PProg) : Prop := fnVc (vQ25 19 (zks p)) Tryz.f169 [rowF p.funs, .clo 170 []] (.int .i64 (z2d p))
noncomputable def zkt (p : PProg) : Prop := fnVc (vQ25 4 fun _ => none) Tryz.f171 [vP p] (.clo 221 [.rptr za (encP p)])
end
end Go.Proofs.S25
namespace Go.Proofs.S25
open Go Go.AV
open Go.IntKind renaming i64 -> j6
open Go.AV.Shape (leaf)
noncomputable section
open Go.IntKind renaming i64 -> j6
open Go.AV.Shape (leaf)
noncomputable section
theorem z10c (f:PFun):zvh f=(↑f.code.length<=(9223372036854775807:Int)/\decide ((64:Int) < ↑f.code.length)=decide ((64:Nat) < f.code.length)):=by kernel_rfl
theorem z10d (f : PFun) (hf : f.code.length <= 1000000) : Known Tryz.prog GG 170 [.mc ze (encF f)] (.bool (decide (64 < f.code.length)))  := by
  refine Known.of (V := vQ25 7 fun _ => none) (fn := Tryz.f170) Tryz.func170 (by kernel_rfl) (zn _) rfl ?_
  show zvh f
  rw [z10c]
  exact ⟨by omega, by simp only [decide_eq_decide]; omega⟩
theorem zez (p : PProg) (i : Nat) (hi : i < p.funs.length) : lngR p (p.funs.length - i) = if 64 < (p.funs.getD i c0f).code.length then (i : Int) else lngR p (p.funs.length - (i + 1)) := by
  obtain ⟨k, hk⟩ : ∃ k, p.funs.length - i = k + 1 := ⟨p.funs.length - i - 1, by omega⟩
  rw [hk, lngR, show p.funs.length - (k + 1) = i from by omega, show k = p.funs.length - (i + 1) from by omega]
section
variable (p:PProg) (x1:Nat)
def qf3:=x1<=p.funs.length/\z2d p=lngR p (p.funs.length - x1)
def qf4:=decide (64 < (dR dIn (z9m (p.funs.getD (↑x1:Int).toNat c0f).code)).length)
end
theorem z10e (p:PProg):zvi p=(↑p.funs.length<=(9223372036854775807:Int)/\(∃ i,qf3 p i/\(q62 p/\RR (AV.clo (170:FuncId) [])/\RI ↑p.funs.length/\(RR j6/\(0:Int)=↑i)/\True)/\True)/\∀ i:Nat,qf3 p i->(qr p i=true->inIx (↑i) p.funs.length/\KN 170 [AV.mc ze (encF (p.funs.getD (↑i:Int).toNat c0f))] (AV.bool (qf4 p i))/\(qf4 p i=true->RR j6/\↑i=z2d p)/\(qf4 p i=false->InR j6 (q8 i)/\(∃ j,qf3 p j/\p.funs.length - j < p.funs.length - i/\(q62 p/\RR (AV.clo 170 [])/\RI ↑p.funs.length/\(RR j6/\q8 i=↑j)/\True)/\True)))/\(qr p i=false->RR j6/\-1=z2d p)):=by kernel_rfl
theorem z10f (p : PProg) (hp : PSm p) : Known Tryz.prog GG 169 [rowF p.funs, .clo 170 []] (.int .i64 (z2d p))  := by
  refine Known.of (V := vQ25 19 (zks p)) (fn := Tryz.f169) Tryz.func169 (by kernel_rfl) (zn _) rfl ?_
  show zvi p
  rw [z10e]; try delta qf3 q62 qf4 q8 qr
  simp only [SB, inIx]
  have h1 := hp.funs
  refine ⟨by omega, ⟨0, ⟨by omega, by rw [Nat.sub_zero]; rfl⟩, rfl⟩, fun i hi => ⟨fun hlt => ⟨hlt, z10d _ (hp.code i), fun h => ?_, fun h => ⟨zg (by omega) (by omega), i + 1, ⟨by omega, ?_⟩, by omega, by omega⟩⟩, fun hge => ?_⟩⟩
  . rw [hi.2, zez p i hlt, if_pos h]
  . rw [hi.2, zez p i hlt, if_neg h]
  . rw [hi.2, show p.funs.length - i = 0 from by omega]; rfl
theorem zsg (p:PProg):zkt p=(AV.clo (221:Nat) [AV.rptr za (encP p)]=AV.clo (221:FuncId) [AV.rptr za (encP p)]):=by kernel_rfl
theorem zsh (p : PProg)  : Known Tryz.prog GG 171 [vP p] (.clo 221 [.rptr za (encP p)])  := by
  refine Known.of (V := vQ25 4 fun _ => none) (fn := Tryz.f171) Tryz.func171 (by kernel_rfl) (zn _) rfl ?_
  show zkt p
  rw [zsg]
end
end
end Go.Proofs.S25
namespace Go.Proofs.S25
open Go Go.AV
open Go.IntKind renaming i64 -> j6
open Go.AV.Shape (leaf)
noncomputable section
abbrev pN (S : St) : Option (Prop × St) := some (True, S)
abbrev fO (p : PProg) (k : Nat) : PFun := p.funs.getD k c0f
abbrev iO (p : PProg) (k i : Nat) : Inst := (fO p k).code.getD i c0i
def itA (p : PProg) (k : Nat) : List (Nat × AV) := [(8, rowF p.funs), (9, .int .i64 p.funs.length), (10, .int .i64 k)]
def itB (p : PProg) (k i : Nat) : List (Nat × AV) := itA p k ++ [(3, .int .i64 k), (16, z9m (fO p k).code), (17, .int .i64 (fO p k).code.length), (18, .int .i64 i)]
def itC (p : PProg) (k i : Nat) : List (Nat × AV) := itB p k i ++ [(5, .int .i64 i), (6, .ptr 6 [])]
def itH (p : PProg) (k i : Nat) : List (Nat × BoxC) := [(6, .cell 92 zt (encI (iO p k i)))]
noncomputable def z3t : VCtx := vQ25 32 fun _ => none
noncomputable def iReg (k : Nat) : Code := zsd Tryz.f221 k
noncomputable def gIt0 (p : PProg) : Prop := pcVc z3t (iReg 0) ⟨[(1, .rptr za (encP p))], []⟩ (pN ⟨itA p 0, []⟩) none none
noncomputable def gIt1 (p : PProg) (k : Nat) : Prop := pcVc z3t (iReg 1) ⟨itA p k, []⟩ (pN ⟨itA p k ++ [(11, .bool (decide (k < p.funs.length)))], []⟩) none none
noncomputable def gIt2 (p : PProg) (k : Nat) : Prop := pcVc z3t (.seq (iReg 2) (iReg 3)) ⟨itA p k, []⟩ (pN ⟨itB p k 0, []⟩) none none
noncomputable def gIt4 (p : PProg) (k i : Nat) : Prop := pcVc z3t (iReg 4) ⟨itB p k i, []⟩ (pN ⟨itB p k i ++ [(19, .bool (decide (i < (fO p k).code.length)))], []⟩) none none
noncomputable def gIt5 (p : PProg) (k i : Nat) : Prop := pcVc z3t (iReg 5) ⟨itB p k i, []⟩ (pN ⟨itC p k i, itH p k i⟩) none none
noncomputable def gIt6 (p : PProg) (k i : Nat) : Prop := opVc z3t 6 (zgj (iReg 6)) (((zgj (iReg 6)).drop 1).take 4) 1 ⟨itC p k i, itH p k i⟩ ⟨itB p k i ++ [(26, vPl k i), (27, vI (iO p k i))], []⟩
noncomputable def gIt7 (p : PProg) (k i : Nat) : Prop := pcVc z3t (iReg 7) ⟨itB p k i, []⟩ (pN ⟨itB p k (i + 1), []⟩) none none
noncomputable def gIt8 (p : PProg) (k : Nat) : Prop := pcVc z3t (iReg 8) ⟨itA p k, []⟩ (pN ⟨itA p (k + 1), []⟩) none none
end
end Go.Proofs.S25
namespace Go.Proofs.S25
open Go Go.AV
open Go.IntKind renaming i64 -> j6
open Go.AV.Shape (leaf)
noncomputable section
open Go.IntKind renaming i64 -> j6
open Go.AV.Shape (leaf)
noncomputable section
theorem eIt0 (p:PProg):gIt0 p=(↑p.funs.length<=(9223372036854775807:Int)/\True/\((RW ze p.funs.length fun i=>encF (p.funs.getD i c0f))/\RI ↑p.funs.length/\(RR j6/\(0:Int)=↑(0:Nat))/\True)/\True):=by kernel_rfl
theorem eIt1 (p:PProg) (k:Nat):gIt1 p k=(True/\((RW ze p.funs.length fun i=>encF (p.funs.getD i c0f))/\RI ↑p.funs.length/\RI ↑k/\decide ((↑k:Int) < (↑p.funs.length:Int))=decide (k < p.funs.length)/\True)/\True):=by kernel_rfl
section
variable (p:PProg) (k:Nat)
def qf5:Nat:=(p.funs.getD (↑k:Int).toNat c0f).code.length
def qrv:Int:=↑(qf5 p k)
end
theorem eIt2 (p:PProg) (k:Nat):gIt2 p k=(inIx (↑k) p.funs.length/\qrv p k<=9223372036854775807/\True/\((RW ze p.funs.length fun i=>encF (p.funs.getD i c0f))/\RI ↑p.funs.length/\RI ↑k/\RI ↑k/\(RR zt/\qf5 p k=(fO p k).code.length/\∀ i:Nat,i < qf5 p k->encI ((p.funs.getD (↑k:Int).toNat c0f).code.getD i c0i)=encI ((fO p k).code.getD i c0i))/\(RR j6/\qrv p k=↑(fO p k).code.length)/\(RR j6/\(0:Int)=↑(0:Nat))/\True)/\True):=by kernel_rfl
theorem eIt4 (p:PProg) (k i:Nat):gIt4 p k i=(True/\((RW ze p.funs.length fun i=>encF (p.funs.getD i c0f))/\RI ↑p.funs.length/\RI ↑k/\RI ↑k/\(RW zt (fO p k).code.length fun i=>encI ((fO p k).code.getD i c0i))/\RI ↑(fO p k).code.length/\RI ↑i/\decide ((↑i:Int) < (↑(fO p k).code.length:Int))=decide (i < (fO p k).code.length)/\True)/\True):=by kernel_rfl
theorem eIt5 (p:PProg) (k i:Nat):gIt5 p k i=(inIx (↑i) (fO p k).code.length/\True/\((RW ze p.funs.length fun i=>encF (p.funs.getD i c0f))/\RI ↑p.funs.length/\RI ↑k/\RI ↑k/\(RW zt (fO p k).code.length fun i=>encI ((fO p k).code.getD i c0i))/\RI ↑(fO p k).code.length/\RI ↑i/\RI ↑i/\RR (AV.ptr 6 [])/\True)/\((92:Nat)=(92:TypeId)/\RR zt/\(RR j6/\((fO p k).code.getD (↑i:Int).toNat c0i).op=(iO p k i).op)/\(RR j6/\((fO p k).code.getD (↑i:Int).toNat c0i).a=(iO p k i).a)/\(RR j6/\((fO p k).code.getD (↑i:Int).toNat c0i).b=(iO p k i).b)/\(RR j6/\((fO p k).code.getD (↑i:Int).toNat c0i).c=(iO p k i).c)/\(RR j6/\((fO p k).code.getD (↑i:Int).toNat c0i).obj=(iO p k i).obj)/\(RR j6/\((fO p k).code.getD (↑i:Int).toNat c0i).n=(iO p k i).n)/\(RR j6/\((fO p k).code.getD (↑i:Int).toNat c0i).fn=(iO p k i).fn)/\(RR j6/\((fO p k).code.getD (↑i:Int).toNat c0i).ord=(iO p k i).ord)/\True)/\True):=by kernel_rfl
theorem eIt6 (p:PProg) (k i:Nat):gIt6 p k i=(((RW ze p.funs.length fun i=>encF (p.funs.getD i c0f))/\RI ↑p.funs.length/\RI ↑k/\RI ↑k/\(RW zt (fO p k).code.length fun i=>encI ((fO p k).code.getD i c0i))/\RI ↑(fO p k).code.length/\RI ↑i/\(RR ze/\RI ↑k/\RI ↑i/\True)/\(RR zt/\RI (iO p k i).op/\RI (iO p k i).a/\RI (iO p k i).b/\RI (iO p k i).c/\RI (iO p k i).obj/\RI (iO p k i).n/\RI (iO p k i).fn/\RI (iO p k i).ord/\True)/\True)/\True):=by kernel_rfl
section
variable (i:Nat)
def qrw:Int:=↑i + 1
end
theorem eIt7 (p:PProg) (k i:Nat):gIt7 p k i=(InR j6 (qrw i)/\True/\((RW ze p.funs.length fun i=>encF (p.funs.getD i c0f))/\RI ↑p.funs.length/\RI ↑k/\RI ↑k/\(RW zt (fO p k).code.length fun i=>encI ((fO p k).code.getD i c0i))/\RI ↑(fO p k).code.length/\(RR j6/\qrw i=↑(i + 1))/\True)/\True):=by kernel_rfl
section
variable (k:Nat)
def qrx:Int:=↑k + 1
end
theorem eIt8 (p:PProg) (k:Nat):gIt8 p k=(InR j6 (qrx k)/\True/\((RW ze p.funs.length fun i=>encF (p.funs.getD i c0f))/\RI ↑p.funs.length/\(RR j6/\qrx k=↑(k + 1))/\True)/\True):=by kernel_rfl
theorem kIt0 (p : PProg) (hp : PSm p) : gIt0 p := by
  rw [eIt0]; try delta RR RW RI
  have h1 := hp.funs
  simp only [SB]
  exact ⟨by omega, rfl⟩
theorem kIt1 (p : PProg) (k : Nat) : gIt1 p k := by
  rw [eIt1]
  simp only [SB]
theorem kIt2 (p : PProg) (k : Nat) (hp : PSm p) (h : k < p.funs.length) : gIt2 p k := by
  rw [eIt2]; try delta qf5 qrv RR RW RI
  have h1 := hp.code k
  simp only [SB, inIx]
  exact ⟨h, by omega, rfl⟩
theorem kIt4 (p : PProg) (k i : Nat) : gIt4 p k i := by
  rw [eIt4]
  simp only [SB]
theorem kIt5 (p : PProg) (k i : Nat) (h : i < (fO p k).code.length) : gIt5 p k i := by
  rw [eIt5]
  simp only [SB, inIx]
  exact h
theorem kIt6 (p : PProg) (k i : Nat) : gIt6 p k i := by
  rw [eIt6]
  simp only [SB]
theorem kIt7 (p : PProg) (k i : Nat) (hp : PSm p) (h : i < (fO p k).code.length) : gIt7 p k i := by
  rw [eIt7]; try delta qrw RR RW RI
  have h1 : (fO p k).code.length <= 1000000 := hp.code k
  simp only [SB]
  exact ⟨zg (by omega) (by omega), by omega⟩
theorem kIt8 (p : PProg) (k : Nat) (hp : PSm p) (h : k < p.funs.length) : gIt8 p k := by
  rw [eIt8]; try delta qrx RR RW RI
  have h1 := hp.funs
  simp only [SB]
  exact ⟨zg (by omega) (by omega), by omega⟩
end
end
end Go.Proofs.S25
namespace Go.Proofs.S25
open Go Go.AV
open Go.IntKind renaming i64 -> j6
open Go.AV.Shape (leaf)
noncomputable section
structure ISt (D : Nat) (u : Value) (env : List (Nat × AV)) (a : Act) (w : World) (F : Nat -> Prop) : Prop where
  env : ∀ s x, get env s = some x -> ∃ v, a.tmps[s]? = some v /\ RepS w F v x
  ro : ∀ k, F k -> k < w.heap.size
  off : ∀ k, F k -> k ≠ D /\ k ≠ D + 1
  dfr : a.defers = []
  sz : a.tmps.size = 32
  glob : ∀ g x, get GG g = some x -> RepS w F (.pointer (some ⟨g, 0, none⟩)) x
  yld : a.tmps[0]? = some u
structure Same (D : Nat) (w w' : World) : Prop where
  size : w.heap.size <= w'.heap.size
  block : ∀ k, k < w.heap.size -> k ≠ D -> k ≠ D + 1 -> w'.heap[k]? = w.heap[k]?
theorem ISt.keep {D : Nat} {u : Value} {env : List (Nat × AV)} {a : Act} {w w' : World} {F : Nat -> Prop} (h : ISt D u env a w F) (hs : Same D w w') : ISt D u env a w' F := by
  have hk : ∀ k, F k -> w'.heap[k]? = w.heap[k]? := fun k hk => hs.block k (h.ro k hk) (h.off k hk).1 (h.off k hk).2
  exact ⟨fun s x hx => let ⟨v, h1, h2⟩ := h.env s x hx; ⟨v, h1, h2.keep hk fun _ h => h⟩, fun k hk => Nat.lt_of_lt_of_le (h.ro k hk) hs.size, h.off, h.dfr, h.sz, fun g x hg => (h.glob g x hg).keep hk fun _ h => h, h.yld⟩
theorem ISt.rel {D : Nat} {u : Value} {env : List (Nat × AV)} {a : Act} {w : World} {F : Nat -> Prop} (h : ISt D u env a w F) : Rel z3t.C (.of w) F ⟨env, []⟩ a w F (fun _ => ⟨none, 0, .leaf, 0⟩) :=
  Rel.mkStat h.env h.ro h.dfr h.sz h.glob _
def zj6 : List (Nat × AV) -> Bool
  | [] => true
  | (_, x) :: l => x.isStat && zj6 l
theorem zf0 {s : Nat} {x : AV} : ∀ {l : List (Nat × AV)}, zj6 l = true -> get l s = some x -> x.isStat = true
  | (k, y) :: l, h, hg => by
    simp only [zj6, Bool.and_eq_true] at h
    simp only [AV.get] at hg
    split at hg
    . cases hg; exact h.1
    . exact zf0 h.2 hg
theorem ISt.of {D : Nat} {u : Value} {env : List (Nat × AV)} {hp : List (Nat × BoxC)} {a : Act} {w0 w : World} {F0 F : Nat -> Prop} {φ : Nat -> AV.Place} (h : Rel z3t.C (.of w0) F0 ⟨env, hp⟩ a w F φ) (hs : zj6 env = true) (hu : a.tmps[0]? = some u) (hD : D + 1 < w0.heap.size) (hoff : ∀ k, F0 k -> k ≠ D /\ k ≠ D + 1) : ISt D u env a w F :=
  ⟨fun s x hx => h.statEnv hx (zf0 hs hx), h.ro, fun k hk => by
    rcases h.new k hk with h1 | h1 | h1
    . exact hoff k h1
    . have : w0.heap.size <= k := h1; omega
    . exact h1.elim, h.dfr, h.tsz, h.glob, hu⟩
theorem zku : CCOK z3t.C z3t.CC := z6w z3t.C (fun _ _ _ _ h => h.elim) (fun _ _ _ _ _ h => h.elim) (fun _ _ _ _ _ h => h.elim)
theorem zkv : z12 z3t.C := zn 32
theorem z5h {n : Option (Prop × St)} {x : Option (Nat × Prop × St)} {r : Option (Prop × St)} (st : St) : ¬ pcQ n x r .outgrown st := fun h => h
theorem z8a {D n : Nat} {u : Value} {env env' : List (Nat × AV)} {a : Act} {w : World} {F : Nat -> Prop} {c : Code} {Q : Exit -> Act -> World -> Prop} (hI : ISt D u env a w F) (hD : D + 1 < w.heap.size) (hr : z3s 0 c = true) (h : pcVc z3t c ⟨env, []⟩ (pN ⟨env', []⟩) none none) (hs : zj6 env' = true)
    (hQ : ∀ a' w' F', ISt D u env' a' w' F' -> RowKit.Below w.heap.size w w' -> Q .normal a' w') : c.wpIn (FR none) n Tryz.prog Q a w := by
  refine wpIn_mono (z2v (V := z3t) (W0 := .of w) (F0 := F) zkv zku c ⟨env, []⟩ _ a w F _ hr hI.yld z5h h hI.rel) ?_
  rintro e a' w' ⟨⟨st', F', φ', hR, hq⟩, hu⟩
  cases e <;> try exact hq.elim
  obtain ⟨φ2, hR2⟩ := hR.weaken hq.2
  exact hQ a' w' F' (ISt.of hR2 hs hu hD hI.off) hR2.base.toBelow
theorem zkw {D n : Nat} {u : Value} {env env' : List (Nat × AV)} {a : Act} {w : World} {F : Nat -> Prop} {x y c : Code} {Q : Exit -> Act -> World -> Prop} (hI : ISt D u env a w F) (hD : D + 1 < w.heap.size) (hx : z3s 0 x = true) (hy : z3s 0 y = true) (h : pcVc z3t (.seq x y) ⟨env, []⟩ (pN ⟨env', []⟩) none none) (hs : zj6 env' = true)
    (hQ : ∀ a' w' F', ISt D u env' a' w' F' -> RowKit.Below w.heap.size w w' -> c.wpIn (FR none) n Tryz.prog Q a' w') : (Code.seq x (.seq y c)).wpIn (FR none) n Tryz.prog Q a w := by
  refine wpIn_seq (wpIn_mono (z2v (V := z3t) (W0 := .of w) (F0 := F) zkv zku x ⟨env, []⟩ (fun e st' => match e with | .normal => vc z3t y st' (pcQ (pN ⟨env', []⟩) none none) | e => pcQ (pN ⟨env', []⟩) none none e st') a w F _ hx hI.yld (fun _ h => h) (zuh (V := z3t) (fun _ => rfl) h) hI.rel) ?_)
  rintro e a' w' ⟨⟨st', F', φ', hR, hq⟩, hu⟩
  cases e <;> try exact hq.elim
  refine wpIn_seq (wpIn_mono (z2v (V := z3t) (W0 := .of w) (F0 := F) zkv zku y st' _ a' w' F' _ hy hu z5h hq hR) ?_)
  rintro e a' w' ⟨⟨st', F', φ', hR, hq⟩, hu⟩
  cases e <;> try exact hq.elim
  obtain ⟨φ2, hR2⟩ := hR.weaken hq.2
  exact hQ a' w' F' (ISt.of hR2 hs hu hD hI.off) hR2.base.toBelow
theorem zba : ∀ (l : List Int) (j : Nat), j < l.length -> zf (List.replicate l.length .leaf) (l.map (AV.int .i64)) j = .int .i64 (l.getD j 0)
  | x :: l, 0, _ => rfl
  | x :: l, j + 1, h => by
    have := zba l j (by simpa using h)
    simp only [List.length_cons, List.replicate_succ, List.map_cons, zf, List.getD_cons_succ]
    rw [if_neg (by simp [Shape.size])]
    exact this
theorem z8b : ∀ n : Nat, Shape.sizes (List.replicate n .leaf) = n
  | 0 => rfl
  | n + 1 => by simp only [List.replicate_succ, Shape.sizes, Shape.size, z8b n]; omega
abbrev zvj (l : List Int) : AV := .mc (.agg (List.replicate l.length .leaf)) (.agg (l.map (AV.int .i64)))
abbrev zbq (l : List Int) : Value := .agg (l.map (Value.int .i64)).toArray
theorem zhq {w : World} {F : Nat -> Prop} {v : Value} {l : List Int} (h : RepS w F v (zvj l)) : v = zbq l /\ ∀ j, j < l.length -> InR .i64 (l.getD j 0) := by
  cases h with
  | mc cs sh x hs hr =>
    simp only [Shape.size, z8b] at hs hr
    have key : ∀ j, j < l.length -> cs.getD j undef = .int .i64 (l.getD j 0) /\ InR .i64 (l.getD j 0) := by
      intro j hj
      have h1 := hr j hj
      rw [show z6 (.agg (List.replicate l.length .leaf)) (.agg (l.map (AV.int .i64))) j = zf (List.replicate l.length .leaf) (l.map (AV.int .i64)) j from rfl, zba l j hj] at h1
      generalize cs.getD j undef = u at h1
      cases h1 with
      | int _ _ h => exact ⟨rfl, h⟩
    refine ⟨?_, fun j hj => (key j hj).2⟩
    congr 1
    apply Array.ext
    . simpa using hs
    . intro j h1 h2
      have h3 := (key j (by omega)).1
      rw [Array.getD_eq_getD_getElem?, Array.getElem?_eq_getElem h1, Option.getD_some] at h3
      rw [h3]
      simp at h2
      simp [List.getD_eq_getElem?_getD, List.getElem?_eq_getElem h2]
theorem zhr {w : World} {F : Nat -> Prop} {l : List Int} (h : ∀ j, j < l.length -> InR .i64 (l.getD j 0)) : RepS w F (zbq l) (zvj l) := by
  refine .mc _ _ _ (by simp [Shape.size, z8b]) fun j hj => ?_
  simp only [Shape.size, z8b] at hj
  rw [show z6 (.agg (List.replicate l.length .leaf)) (.agg (l.map (AV.int .i64))) j = zf (List.replicate l.length .leaf) (l.map (AV.int .i64)) j from rfl, zba l j hj]
  have : (l.map (Value.int .i64)).toArray.getD j undef = .int .i64 (l.getD j 0) := by
    simp [Array.getD_eq_getD_getElem?, List.getD_eq_getElem?_getD, List.getElem?_eq_getElem hj]
  rw [this]
  exact .int _ _ (h j hj)
def plL (k i : Int) : List Int := [k, i]
def inL (x : Inst) : List Int := [x.op, x.a, x.b, x.c, x.obj, x.n, x.fn, x.ord]
abbrev elV (p : PProg) (k i : Nat) : Array Value := #[zbq (plL k i), zbq (inL (iO p k i))]
def ElOK (p : PProg) (k i : Nat) : Prop := ∀ j, j < 8 -> InR .i64 ((inL (iO p k i)).getD j 0)
def zgk (_ : PProg) (D : Nat) (J : Nat -> Nat -> World -> Prop) (Jx : World -> Prop) (k i : Nat) (W : World) (e : Ending) (W' : World) : Prop :=
  (e = .returned (.bool true) /\ Same D W W' /\ J k (i + 1) W') ∨ (e = .returned (.bool false) /\ Jx W')
theorem ISt.put {D d : Nat} {u v : Value} {env : List (Nat × AV)} {a : Act} {w : World} {F : Nat -> Prop} (h : ISt D u env a w F) (hn : AV.get env d = none) (h0 : d ≠ 0) : ISt D u env (a.put (some d) v) w F := by
  have hk : ∀ s, s ≠ d -> (a.put (some d) v).tmps[s]? = a.tmps[s]? := fun s hs => z20 (fun e => hs (by cases e; rfl)) v
  refine ⟨fun s x hx => ?_, h.ro, h.off, h.dfr, by simp [Act.put, h.sz], h.glob, (hk 0 (fun e => h0 e.symm)).trans h.yld⟩
  obtain ⟨v', h1, h2⟩ := h.env s x hx
  exact ⟨v', (hk s (fun e => by subst e; rw [hn] at hx; cases hx)).trans h1, h2⟩
theorem z8c {a : Act} {d : Nat} {v : Value} (h : d < a.tmps.size) : (a.put (some d) v).tmps[d]? = some v := by
  simp [Act.put, h]
noncomputable def ops6 : Array Oper := (zgj (iReg 6)).toArray
theorem reg6 : iReg 6 = .region 6 ops6 false := by kernel_rfl
abbrev opK (o : Oper) : Option Nat × Op × Option (Nat × Bool) := (o.dst, o.op, o.guard)
theorem op60 : (ops6[0]?).map opK = some (some 23, .move (.tmp 0), none) := by kernel_rfl
theorem op65 : (ops6[5]?).map opK = some (some 28, .call { callee := .value (.tmp 23), args := #[.tmp 26, .tmp 27], argTypes := #[150, 92] }, none) := by kernel_rfl
theorem op66 : (ops6[6]?).map opK = some (some 29, .unOp .not 4 (.tmp 28), none) := by kernel_rfl
theorem zsi : ops6.size = 7 := by kernel_rfl
theorem opAt {ops : Array Oper} {i : Nat} {d : Option Nat} {op : Op} (h : (ops[i]?).map opK = some (d, op, none)) : ∃ o, ops[i]? = some o /\ o.dst = d /\ o.op = op /\ o.guard = none := by
  cases ho : ops[i]? with
  | none => rw [ho] at h; cases h
  | some o =>
    rw [ho] at h
    simp only [Option.map_some, Option.some.injEq, Prod.mk.injEq, opK] at h
    exact ⟨o, rfl, h.1, h.2.1, h.2.2⟩
theorem zgl {s : Nat} {x : AV} {m : List (Nat × AV)} : ∀ {l : List (Nat × AV)}, AV.get l s = some x -> AV.get (l ++ m) s = some x
  | (k, y) :: l, h => by
    simp only [AV.get, List.cons_append] at h ⊢
    split at h
    . exact h
    . exact zgl h
theorem z39 {F : Fence} {n : Nat} {P : Program} {ops : Array Oper} {Q : Exit -> Act -> World -> Prop} {i : Nat} {rest : List Nat} {o : Oper} {a : Act} {w : World} {v : Value} (ho : ops[i]? = some o) (hg : o.guard = none) (ha : ∀ f, o.about P w a.eval = some f -> F.fn f)
    (hr : (o.semAt F.round a.eval).run P w = .ok (.value v) w) (h : wpOpsIn F n P ops Q rest (a.put o.dst v) w) : wpOpsIn F n P ops Q (i :: rest) a w := by
  simp only [wpOpsIn, ho]
  rw [if_pos (by simp [Region.wanted, hg])]
  refine ⟨ha, ?_⟩
  rw [hr]
  exact h
theorem zj7 {ro : Option Nat} {n : Nat} {P : Program} {ops : Array Oper} {Q : Exit -> Act -> World -> Prop} {i l fn : Nat} {tmps : Array Value} {asg bd : Code} {rest : List Nat} {o : Oper} {a : Act} {w : World} (ho : ops[i]? = some o) (hg : o.guard = none)
    (hr : (o.semAt (FR ro).round a.eval).run P w = .ok (.round l fn tmps asg bd) w) (h : RoundIn (FR ro) (n - 1) P l fn tmps asg bd w fun e w' => ∃ v, e = .returned v /\ wpOpsIn (FR ro) n P ops Q rest (a.put o.dst v) w') : wpOpsIn (FR ro) n P ops Q (i :: rest) a w := by
  simp only [wpOpsIn, ho]
  rw [if_pos (by simp [Region.wanted, hg])]
  refine ⟨fun _ _ => trivial, ?_⟩
  rw [hr]
  refine ⟨fun he => by simp [FR, Fence.wide] at he, h.mono ?_⟩
  rintro e w' ⟨v, rfl, hv⟩
  exact hv
theorem znu {p : PProg} {D n k i l : Nat} {a : Act} {w0 w : World} {F0 F : Nat -> Prop} {φ : Nat -> AV.Place} {R : World -> Ending -> World -> Prop} {Q : Exit -> Act -> World -> Prop} (hR : Rel z3t.C (.of w0) F0 ⟨itC p k i, itH p k i⟩ a w F φ) (hu : a.tmps[0]? = some (.func (.yield l) #[] #[])) (hD : D + 1 < w0.heap.size) (hoff : ∀ k, F0 k -> k ≠ D /\ k ≠ D + 1)
    (hy : ∀ W, RowKit.Below w0.heap.size w0 W -> ElOK p k i -> YieldAt (FR none) (n - 1) Tryz.prog l (elV p k i) W (R W))
    (hR2 : ∀ W e W', R W e W' -> ∃ b, e = .returned (.bool b) /\ (b = true -> Same D W W'))
    (hQ : ∀ W b a' W' F', RowKit.Below w0.heap.size w0 W -> R W (.returned (.bool b)) W' -> (b = true -> ISt D (.func (.yield l) #[] #[]) (itB p k i) a' W' F') -> a'.tmps[29]? = some (.bool (!b)) -> a'.defers = [] -> Q .normal a' W') : (iReg 6).wpIn (FR none) n Tryz.prog Q a w := by
  rw [reg6]
  refine wpIn_region ?_
  rw [zsi, show List.range 7 = 0 :: List.range' 1 (4 + 2) from rfl]
  obtain ⟨o0, h0, d0, e0, g0⟩ := opAt op60
  have hv0 : a.eval (.tmp 0) = .func (.yield l) #[] #[] := by
    show a.tmps.getD 0 undef = _
    rw [Array.getD_eq_getD_getElem?, hu]; rfl
  refine z39 (v := .func (.yield l) #[] #[]) h0 g0 (fun _ _ => trivial) ?_ ?_
  . rw [Oper.semAt_eq _ _ _ (fun c => by rw [e0]; simp)]
    unfold execOp
    rw [e0]
    simp [hv0]
  rw [d0]
  have hR1 := hR.putU 23 (.func (.yield l) #[] #[])
  have hsz : 23 < a.tmps.size := by rw [hR.tsz]; decide
  have hu1 : (a.put (some 23) (.func (.yield l) #[] #[])).tmps[23]? = some (.func (.yield l) #[] #[]) := z8c hsz
  have hu0 : (a.put (some 23) (.func (.yield l) #[] #[])).tmps[0]? = some (.func (.yield l) #[] #[]) := (z20 (by simp) _).trans hu
  have h6 := kIt6 p k i
  unfold gIt6 opVc at h6
  split at h6
  case h_2 => exact h6.elim
  rename_i st' ps hops
  obtain ⟨hps, hle⟩ := z24 h6
  have hR1' : Rel z3t.C (.of w0) F0 ⟨itC p k i, itH p k i⟩ (a.put (some 23) (.func (.yield l) #[] #[])) w F φ := hR1
  refine zkq (orc := z3t.orc 6) zkv zku (((zgj (iReg 6)).drop 1).take 4) 1 _ st' ps _ w F φ ?_ (by unfold ops6; simpa using hops) hps hR1' (by kernel_rfl) ?_
  . intro j hj
    have hlen : (((zgj (iReg 6)).drop 1).take 4).length = 4 := by kernel_rfl
    rw [hlen] at hj
    unfold ops6
    rw [List.getElem?_take, if_pos hj, List.getElem?_drop]
    simp
  intro a4 w4 F4 φ4 hR4 hu4
  have hlen : (((zgj (iReg 6)).drop 1).take 4).length = 4 := by kernel_rfl
  have s23 : a4.tmps[23]? = some (.func (.yield l) #[] #[]) := (hu4 23 (by kernel_rfl)).trans hu1
  have s0 : a4.tmps[0]? = some (.func (.yield l) #[] #[]) := (hu4 0 (by kernel_rfl)).trans hu0
  obtain ⟨φ5, hR5⟩ := hR4.weaken hle
  have hI : ISt D (.func (.yield l) #[] #[]) (itB p k i ++ [(26, vPl k i), (27, vI (iO p k i))]) a4 w4 F4 := ISt.of hR5 (by kernel_rfl) s0 hD hoff
  obtain ⟨v1, t1, r1⟩ := hI.env 26 (vPl k i) (by kernel_rfl)
  obtain ⟨v2, t2, r2⟩ := hI.env 27 (vI (iO p k i)) (by kernel_rfl)
  obtain ⟨rfl, _⟩ := zhq (l := plL k i) r1
  obtain ⟨rfl, hel⟩ := zhq (l := inL (iO p k i)) r2
  have hB := hR5.base.toBelow
  rw [hlen, show List.range' (1 + 4) 2 = [5, 6] from rfl]
  obtain ⟨fn, tmps, asg, bd, hyl, hro⟩ := hy w4 hB hel
  obtain ⟨o5, h5, d5, e5, g5⟩ := opAt op65
  obtain ⟨o6, h6', d6, e6, g6⟩ := opAt op66
  have ev : ∀ s v, a4.tmps[s]? = some v -> a4.eval (.tmp s) = v := fun s v hs => by
    show a4.tmps.getD s undef = _
    rw [Array.getD_eq_getD_getElem?, hs]; rfl
  refine zj7 (l := l) (fn := fn) (tmps := tmps) (asg := asg) (bd := bd) h5 g5 ?_ (hro.mono ?_)
  . show (o5.semAt (FR none).round a4.eval).run Tryz.prog w4 = _
    rw [Oper.semAt_eq _ _ _ (fun c => by rw [e5]; simp)]
    simp only [execOp, e5, resolve, Sem.run_bind, ev _ _ s23]
    simp only [Deferred.ofValue, Sem.run_pure, Result.andThen_ok, invoke, Array.empty_append]
    have e26 := ev _ _ t1
    have e27 := ev _ _ t2
    have : (#[Operand.tmp 26, Operand.tmp 27].map a4.eval) = elV p k i := by
      simp only [List.map_toArray, List.map_cons, List.map_nil, e26, e27]
    rw [this]
    exact hyl
  intro e W' hr
  obtain ⟨b, rfl, hS⟩ := hR2 _ _ _ hr
  refine ⟨_, rfl, ?_⟩
  have h28 : (a4.put (some 28) (.bool b)).tmps[28]? = some (.bool b) := z8c (by rw [hI.sz]; decide)
  rw [d5]
  refine z39 (v := .bool (!b)) h6' g6 (fun _ _ => trivial) ?_ ?_
  . rw [Oper.semAt_eq _ _ _ (fun c => by rw [e6]; simp)]
    have ev28 : (a4.put (some 28) (.bool b)).eval (.tmp 28) = .bool b := by
      show (a4.put (some 28) (.bool b)).tmps.getD 28 undef = _
      rw [Array.getD_eq_getD_getElem?, h28]; rfl
    simp [execOp, e6, ev28, Op.unary]
  rw [d6]
  refine hQ w4 b _ W' F4 hB hr (fun hb => ?_) (z8c (by simp [Act.put, hI.sz])) hI.dfr
  have hI2 := ((hI.keep (hS hb)).put (d := 28) (v := .bool b) (by rfl) (by decide)).put (d := 29) (v := .bool (!b)) (by rfl) (by decide)
  exact ⟨fun s x hx => hI2.env s x (zgl hx), hI2.ro, hI2.off, hI2.dfr, hI2.sz, hI2.glob, hI2.yld⟩
theorem ISt.drop {D : Nat} {u : Value} {env m : List (Nat × AV)} {a : Act} {w : World} {F : Nat -> Prop} (h : ISt D u (env ++ m) a w F) : ISt D u env a w F :=
  ⟨fun s x hx => h.env s x (zgl hx), h.ro, h.off, h.dfr, h.sz, h.glob, h.yld⟩
theorem ISt.bool {D s : Nat} {u : Value} {env : List (Nat × AV)} {a : Act} {w : World} {F : Nat -> Prop} {b : Bool} (h : ISt D u env a w F) (hs : AV.get env s = some (.bool b)) : a.eval (.tmp s) = .bool b := by
  obtain ⟨v, h1, h2⟩ := h.env s _ hs
  cases h2
  show a.tmps.getD s undef = _
  rw [Array.getD_eq_getD_getElem?, h1]; rfl
theorem zsj : Tryz.f221.body = some ((iReg 0).seq (.block 0 (.loop ((iReg 1).seq ((Code.cond (.tmp 11) .skip (.exit 0)).seq ((Code.block 1 ((iReg 2).seq ((iReg 3).seq (.block 2 (.loop ((iReg 4).seq ((Code.cond (.tmp 19) .skip (.exit 2)).seq ((Code.block 3 ((iReg 5).seq ((iReg 6).seq (.cond (.tmp 29) .ret .skip)))).seq (iReg 7))))))))).seq (iReg 8))))))) := by kernel_rfl
theorem zj8 {p : PProg} (hp : PSm p) {D n l : Nat} {Wi : World} {F : Nat -> Prop} {cv : Value} (hD : D + 1 < Wi.heap.size) (hcv : RepS Wi F cv (.rptr za (encP p))) (hro : ∀ k, F k -> k < Wi.heap.size) (hoff : ∀ k, F k -> k ≠ D /\ k ≠ D + 1) (hglob : ∀ g x, AV.get GG g = some x -> RepS Wi F (.pointer (some ⟨g, 0, none⟩)) x)
    {J : Nat -> Nat -> World -> Prop} {Jx : World -> Prop} (hJ : ∀ k i W W', J k i W -> RowKit.Below W.heap.size W W' -> J k i W') (hJs : ∀ k i W, J k i W -> D + 1 < W.heap.size)
    (hroll : ∀ k W, k < p.funs.length -> J k (fO p k).code.length W -> J (k + 1) 0 W)
    (hy : ∀ k i W, k < p.funs.length -> i < (fO p k).code.length -> ElOK p k i -> J k i W -> YieldAt (FR none) (n - 1) Tryz.prog l (elV p k i) W (zgk p D J Jx k i W)) (h0 : J 0 0 Wi) :
    CallsIn (FR none) n Tryz.prog 221 #[.func (.yield l) #[] #[], cv] Wi fun e W' => (∃ v, e = .returned v) /\ (J p.funs.length 0 W' ∨ Jx W') := by
  refine callsIn_of_wp Tryz.func221 zsj trivial ?_
  have hres : Tryz.f221.results = #[] := by kernel_rfl
  have hnt : Tryz.f221.ntmps = 32 := by kernel_rfl
  rw [hnt]
  have fin : ∀ e a W, (e = .normal ∨ e = .ret) -> a.defers = [] -> (J p.funs.length 0 W ∨ Jx W) -> bodyPost Tryz.prog Tryz.f221 (fun e W' => (∃ v, e = .returned v) /\ (J p.funs.length 0 W' ∨ Jx W')) e a W := by
    rintro e a W (rfl | rfl) hd hj <;> exact ⟨hd, .tuple #[], by simp [results], ⟨_, rfl⟩, hj⟩
  have hI0 : ISt D (.func (.yield l) #[] #[]) [(1, .rptr za (encP p))] { tmps := #[.func (.yield l) #[] #[], cv] ++ Array.replicate (32 - #[Value.func (.yield l) #[] #[], cv].size) undef, defers := [] } Wi F := by
    refine ⟨fun s x hx => ?_, hro, hoff, rfl, by simp, hglob, by simp⟩
    simp only [AV.get] at hx
    split at hx
    . rename_i hs
      cases hx
      have : s = 1 := (Nat.eq_of_beq_eq_true hs).symm
      subst this
      exact ⟨cv, by simp, hcv⟩
    . cases hx
  refine wpIn_seq (z8a hI0 hD (by kernel_rfl) (kIt0 p hp) (by rfl) ?_)
  intro a1 w1 F1 hI1 hB1
  refine wpIn_block (z6h (fun m a w => ∃ k F, k <= p.funs.length /\ m = p.funs.length - k /\ ISt D (.func (.yield l) #[] #[]) (itA p k) a w F /\ J k 0 w) p.funs.length ⟨0, F1, by omega, by omega, hI1, hJ _ _ _ _ h0 hB1⟩ ?_)
  rintro m a w ⟨k, F2, hk, rfl, hI, hj⟩
  refine wpIn_seq (z8a hI (hJs _ _ _ hj) (by kernel_rfl) (kIt1 p k) (by rfl) ?_)
  intro a w' F3 hI hB
  have hj := hJ _ _ _ _ hj hB
  clear hB
  have hb := hI.bool (s := 11) (b := decide (k < p.funs.length)) (by rfl)
  have hIa := hI.drop
  refine wpIn_seq (wpIn_cond_split hb (fun hlt => ?_) (fun hge => ?_))
  case refine_2 =>
    have : k = p.funs.length := by have := of_decide_eq_false hge; omega
    subst this
    exact wpIn_exit (fin _ _ _ (.inl rfl) hI.dfr (.inl hj))
  have hlt := of_decide_eq_true hlt
  refine wpIn_skip ?_
  refine wpIn_seq (wpIn_block (zkw hIa (hJs _ _ _ hj) (by kernel_rfl) (by kernel_rfl) (kIt2 p k hp hlt) (by rfl) ?_))
  clear hI hIa hb
  intro a w F4 hI hB
  have hj := hJ _ _ _ _ hj hB
  clear hB
  refine wpIn_block (z6h (fun m a w => ∃ i F, i <= (fO p k).code.length /\ m = (fO p k).code.length - i /\ ISt D (.func (.yield l) #[] #[]) (itB p k i) a w F /\ J k i w) (fO p k).code.length ⟨0, F4, by omega, by omega, hI, hj⟩ ?_)
  clear hI hj
  rintro m a w ⟨i, F2, hi, rfl, hI, hj⟩
  refine wpIn_seq (z8a hI (hJs _ _ _ hj) (by kernel_rfl) (kIt4 p k i) (by rfl) ?_)
  clear hI
  intro a w F3 hI hB
  have hj := hJ _ _ _ _ hj hB
  clear hB
  have hb := hI.bool (s := 19) (b := decide (i < (fO p k).code.length)) (by rfl)
  have hI := hI.drop
  refine wpIn_seq (wpIn_cond_split hb (fun hlt2 => ?_) (fun hge => ?_))
  case refine_2 =>
    have : i = (fO p k).code.length := by have := of_decide_eq_false hge; omega
    subst this
    refine wpIn_exit ?_
    have hj := hroll k w hlt hj
    have hI := hI.drop
    refine z8a hI (hJs _ _ _ hj) (by kernel_rfl) (kIt8 p k hp hlt) (by rfl) ?_
    intro a' w' F' hI' hB'
    exact ⟨p.funs.length - (k + 1), by omega, k + 1, F', hlt, rfl, hI', hJ _ _ _ _ hj hB'⟩
  have hlt2 := of_decide_eq_true hlt2
  refine wpIn_skip ?_
  refine wpIn_seq (wpIn_block (wpIn_seq (wpIn_mono (z2v (V := z3t) (W0 := .of w) (F0 := F3) (s := 0) (u := some (.func (.yield l) #[] #[])) zkv zku (iReg 5) ⟨itB p k i, []⟩ _ a w F3 _ (by kernel_rfl) hI.yld z5h (kIt5 p k i hlt2) hI.rel) ?_)))
  rintro e a5 w5 ⟨⟨st5, F5, φ5, hR5, hq⟩, hu⟩
  cases e <;> try exact hq.elim
  obtain ⟨φ6, hR6⟩ := hR5.weaken hq.2
  refine wpIn_seq (znu hR6 hu (hJs _ _ _ hj) hI.off (R := fun W e W' => zgk p D J Jx k i W e W') ?_ ?_ ?_)
  . intro W hB hel
    exact hy k i W hlt hlt2 hel (hJ _ _ _ _ hj hB)
  . rintro W e W' (⟨rfl, hs, _⟩ | ⟨rfl, _⟩)
    . exact ⟨true, rfl, fun _ => hs⟩
    . exact ⟨false, rfl, fun h => by cases h⟩
  intro W b a7 W' F7 hB hr hI7 h29 hd
  have ev29 : a7.eval (.tmp 29) = .bool (!b) := by
    show a7.tmps.getD 29 undef = _
    rw [Array.getD_eq_getD_getElem?, h29]; rfl
  refine wpIn_cond_split ev29 (fun hb => ?_) (fun hb => ?_)
  . refine wpIn_ret (fin _ _ _ (.inr rfl) hd (.inr ?_))
    rcases hr with ⟨h, _⟩ | ⟨_, h⟩
    . cases h; cases hb
    . exact h
  . refine wpIn_skip ?_
    rcases hr with ⟨h, _, hj7⟩ | ⟨h, _⟩
    . cases h
      refine z8a (hI7 rfl) (hJs _ _ _ hj7) (by kernel_rfl) (kIt7 p k i hp hlt2) (by rfl) ?_
      intro a' w' F' hI' hB'
      exact ⟨(fO p k).code.length - (i + 1), by omega, i + 1, F', hlt2, rfl, hI', hJ _ _ _ _ hj7 hB'⟩
    . cases h; cases hb
noncomputable def vC25 : VCtx := vQ25 39 fun _ => none
noncomputable def cReg (k : Nat) : Code := zsd Tryz.f109 k
noncomputable def cAsg : Code := zkr Tryz.f109
noncomputable def zkx : Code := zse Tryz.f109
noncomputable def zsk : Code := zsf Tryz.f109
abbrev bA2 : Nat := 1099511627776
abbrev bA3 : Nat := 1099511627777
abbrev eBox (e : Int) : BoxC := .cell 39 .leaf (.int .i64 e)
abbrev pBox (a b : Int) : BoxC := .cell 150 ze (.agg [.int .i64 a, .int .i64 b])
def c0St (p : PProg) : St := ⟨[(1, .ptr 1 []), (2, .ptr 2 []), (3, .ptr 3 [])], [(1, .cell 27 za (encP p)), (2, eBox 0), (3, pBox 0 0)]⟩
def c1St (p : PProg) : St := ⟨[(1, .ptr 1 []), (2, .ptr 2 []), (3, .ptr 3 []), (4, .ptr 4 [])], [(1, .cell 27 za (encP p)), (2, eBox 0), (3, pBox 0 0), (4, .cell 3 .leaf (.int .i64 (z2d p)))]⟩
def c2St (p : PProg) : St := ⟨[(1, .ptr 1 []), (2, .ptr 2 []), (3, .ptr 3 []), (4, .ptr 4 []), (12, .clo 221 [.rptr za (encP p)])], [(1, .cell 27 za (encP p)), (2, eBox 0), (3, pBox 0 0), (4, .cell 3 .leaf (.int .i64 (z2d p)))]⟩
def rEnv (p : PProg) : List (Nat × AV) := [(1, .rptr za (encP p)), (2, .ptr bA2 []), (3, .ptr bA3 []), (4, .rptr .leaf (.int .i64 (z2d p)))]
def r0St (p : PProg) (k i : Nat) : St := ⟨rEnv p ++ [(13, vPl k i), (14, vI (iO p k i))], [(bA2, eBox 0), (bA3, pBox 0 0)]⟩
def r1St (p : PProg) (k i : Nat) : St := ⟨rEnv p ++ [(5, .ptr 5 []), (6, .ptr 6 [])], [(bA2, eBox 0), (bA3, pBox 0 0), (5, pBox k i), (6, .cell 92 zt (encI (iO p k i)))]⟩
def rBx (e a b : Int) : St := ⟨[], [(bA2, eBox e), (bA3, pBox a b)]⟩
def fiSt (e a b : Int) : St := ⟨[(2, .ptr 2 []), (3, .ptr 3 [])], [(2, eBox e), (3, pBox a b)]⟩
def crSt (p : PProg) : St := ⟨[(1, .rptr za (encP p)), (2, .ptr bA2 []), (3, .ptr bA3 []), (4, .rptr .leaf (.int .i64 (z2d p)))], [(bA2, eBox 0), (bA3, pBox 0 0)]⟩
def ceSt (e a b : Int) : St := ⟨[(2, .ptr bA2 []), (3, .ptr bA3 [])], [(bA2, eBox e), (bA3, pBox a b)]⟩
def cRes (p : PProg) : Int × Int := if 0 <= z2d p then (4, z2d p) else (0, -1)
noncomputable def gC0 (p : PProg) : Prop := pcVc vC25 (cReg 0) ⟨[(0, vP p)], []⟩ (pN (c0St p)) none none
noncomputable def gC1 (p : PProg) : Prop := pcVc vC25 (cReg 1) (c0St p) (pN (c1St p)) none none
noncomputable def gC2 (p : PProg) : Prop := pcVc vC25 (cReg 2) (c1St p) (pN (c2St p)) none none
noncomputable def gCa (p : PProg) (k i : Nat) : Prop := pcVc vC25 cAsg (r0St p k i) (pN (r1St p k i)) none none
noncomputable def gCb (p : PProg) (k i : Nat) : Prop := pcVc vC25 zkx (r1St p k i) (some ((k : Int) ≠ z2d p /\ z2r p (iO p k i) (fO p k).code.length = 0, rBx 0 0 0)) (some (0, (k : Int) = z2d p, rBx 0 0 0)) (some ((k : Int) ≠ z2d p /\ z2r p (iO p k i) (fO p k).code.length ≠ 0, rBx (z2r p (iO p k i) (fO p k).code.length) k i))
noncomputable def gCr (p : PProg) : Prop := pcVc vC25 zsk (crSt p) none none (some (True, ceSt (cRes p).1 (cRes p).2 (-1)))
end
end Go.Proofs.S25
