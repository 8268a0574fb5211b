import Derived.Test.YtgcpdfihjmmggaaGreatDoorXp
namespace Go.Proofs.S25
open Go Go.AV
open Go.IntKind renaming i64 -> j6
open Go.AV.Shape (leaf)
noncomputable section
open Go.Sort in
theorem zl4 {w : World} {g n : Nat} {cs : Array Value} {t : TypeId} {d : Array Int} {os : Array Obj} (h : w.heap[g]? = some (.cells cs t (0, 0))) :
    (grow (putRow (Value.int .i64) (Sort.ahead w n) g 0 d) os).heap[g]? = some (.cells (putCells (Value.int .i64) 0 d cs) t (0, 0)) := by
  have hlt := (Array.getElem?_eq_some_iff.1 h).1
  have h1 : (putRow (Value.int .i64) (Sort.ahead w n) g 0 d).heap[g]? = some (.cells (putCells (Value.int .i64) 0 d cs) t (0, 0)) := by
    show (w.heap.modify g _)[g]? = _
    rw [Array.getElem?_modify, if_pos rfl, h]
    rfl
  have hlt1 : g < (putRow (Value.int .i64) (Sort.ahead w n) g 0 d).heap.size := (Array.getElem?_eq_some_iff.1 h1).1
  show ((putRow (Value.int .i64) (Sort.ahead w n) g 0 d).heap ++ os)[g]? = _
  rw [Array.getElem?_append_left hlt1, h1]
open Go.Sort in
theorem zf2 {w : World} {g n k : Nat} {d : Array Int} {os : Array Obj} (hk : k < w.heap.size) (hne : k ≠ g) :
    (grow (putRow (Value.int .i64) (Sort.ahead w n) g 0 d) os).heap[k]? = w.heap[k]? := by
  have h1 : (putRow (Value.int .i64) (Sort.ahead w n) g 0 d).heap[k]? = w.heap[k]? := by
    show (w.heap.modify g _)[k]? = _
    rw [Array.getElem?_modify, if_neg (Ne.symm hne)]
  have hlt1 : k < (putRow (Value.int .i64) (Sort.ahead w n) g 0 d).heap.size := by
    rw [Array.getElem?_eq_getElem hk] at h1
    exact (Array.getElem?_eq_some_iff.1 h1).1
  show ((putRow (Value.int .i64) (Sort.ahead w n) g 0 d).heap ++ os)[k]? = _
  rw [Array.getElem?_append_left hlt1, h1]
open Go.Sort in
theorem z9w {w : World} {g n : Nat} {d : Array Int} {os : Array Obj} : w.heap.size <= (grow (putRow (Value.int .i64) (Sort.ahead w n) g 0 d) os).heap.size := by
  show w.heap.size <= (w.heap.modify g _ ++ os).size
  simp
open Go.Sort in
theorem znz {d : Array Int} {cs : Array Value} {j : Nat} (hj : j < d.size) (hs : d.size <= cs.size) : (putCells (Value.int .i64) 0 d cs).getD j undef = .int .i64 d[j]! := by
  unfold putCells
  have h1 : j < cs.size := by omega
  rw [Array.getD_eq_getD_getElem?, Array.getElem?_mapIdx, Array.getElem?_eq_getElem h1]
  simp [hj]
abbrev iBox (l : List Int) : BoxC := .row 3 .leaf l.length fun i => .int .i64 (l.getD i 0)
open Go.Sort in
theorem zo0 {w : World} {F : Nat -> Prop} {φ : Nat -> AV.Place} {B : Nat -> Prop} {l : List Int} {v : Value} (h : z1i w F φ B 0 (iBox l)) (hv : Rep w F φ v (.own 0 l.length)) :
    (l = [] /\ v = .slice none 0 0 /\ (φ 0).blk = none) ∨ ∃ g cs, (φ 0).blk = some g /\ B g /\ ¬ F g /\ v = .slice (some ⟨g, 0, none⟩) l.length (φ 0).cap /\ w.heap[g]? = some (.cells cs 3 (0, 0)) /\ cs.size = (φ 0).cap /\ l.length <= (φ 0).cap /\ (φ 0).cap <= maxLen /\ Holds (Value.int .i64) w g 0 l.toArray /\ ∀ j, j < l.length -> InR .i64 (l.getD j 0) := by
  obtain ⟨hsh, hty, h⟩ := h
  generalize hlen : l.length = n at hv
  cases hv with
  | stat hv => cases hv
  | own0 _ hb => exact .inl ⟨List.eq_nil_of_length_eq_zero hlen, rfl, hb⟩
  | own _ g _ hb hn =>
    subst hlen
    rcases h with ⟨h1, _⟩ | ⟨g', cs, h1, h2, h3, h4, h5, h6, h7, h8⟩
    . rw [hb] at h1; cases h1
    . rw [hb] at h1
      cases h1
      have key : ∀ j, j < l.length -> cs.getD j undef = .int .i64 (l.getD j 0) /\ InR .i64 (l.getD j 0) := by
        intro j hj
        have := h8 j hj 0 (by decide)
        simp only [Shape.size, Nat.mul_one, Nat.add_zero] at this
        generalize cs.getD j undef = u at this
        cases this with
        | int _ _ h => exact ⟨rfl, h⟩
      simp only [Shape.size, Nat.mul_one] at h5
      refine .inr ⟨g, cs, hb, h2, h3, rfl, h4, h5, h6, h7, fun j hj => ?_, fun j hj => (key j hj).2⟩
      have hj' : j < l.length := by simpa using hj
      have hlt : j < cs.size := by omega
      have := (key j hj').1
      rw [Array.getD_eq_getD_getElem?, Array.getElem?_eq_getElem hlt, Option.getD_some] at this
      refine ⟨?_, by simp [World.frozen?, h4]⟩
      simp only [World.cell?, h4, Nat.zero_add]
      rw [Array.getElem?_eq_getElem hlt, this]
      simp [List.getD_eq_getElem?_getD, hj']
def z30 (l : List Int) : List Int := l.mergeSort fun x y => decide (x <= y)
theorem z8d (l : List Int) : (z30 l).length = l.length := List.length_mergeSort _
theorem zo1 {l : List Int} (h : ∀ x, x ∈ l -> InR .i64 x) : ∀ j, j < l.length -> InR .i64 (l.getD j 0) := fun j hj => by
  rw [List.getD_eq_getElem?_getD, List.getElem?_eq_getElem hj]
  exact h _ (List.getElem_mem hj)
theorem zsp {l : List Int} (h : ∀ j, j < l.length -> InR .i64 (l.getD j 0)) : ∀ x, x ∈ l -> InR .i64 x := fun x hx => by
  obtain ⟨j, hj, rfl⟩ := List.getElem_of_mem hx
  have := h j hj
  rwa [List.getD_eq_getElem?_getD, List.getElem?_eq_getElem hj] at this
end
end Go.Proofs.S25
namespace Go.Proofs.S25
open Go Go.AV
open Go.IntKind renaming i64 -> j6
open Go.AV.Shape (leaf)
noncomputable section
def cmpI (l : List Int) : List Int := Lib.compact l
open Go.RowKit in
theorem zdk (l : List Int) (hl : l.length <= 1000000) : KnownF Tryz.prog GG 186 [rowI l] (.own 0 l.length) [iBox l] := by
  refine ⟨z1d.of Tryz.func186 (by kernel_rfl) (by kernel_rfl), ?_⟩
  intro w F vs hro hglob hsz hr
  obtain ⟨v, rfl⟩ : ∃ v, vs = #[v] := by
    match vs, hsz with
    | ⟨[c]⟩, _ => exact ⟨c, rfl⟩
  have hv : RepS w F v (rowI l) := hr 0 (by simp)
  have one : ∀ i c, ([iBox l] : List BoxC)[i]? = some c -> i = 0 /\ c = iBox l := by
    intro i c hc
    match i, hc with
    | 0, hc => cases hc; exact ⟨rfl, rfl⟩
  have own : ∀ (zs : List Int) v' w', zs = l -> w'.ownsRow w.heap.size 3 1 v' zs.length (zs.map (Value.int .i64)) -> (∀ j, j < l.length -> InR .i64 (l.getD j 0)) -> Below w.heap.size w w' -> ∃ v F' φ', (Ending.returned v' : Ending) = .returned v /\ Below w.heap.size w w' /\ (∀ k, F k -> F' k) /\ (∀ k, F' k -> F k ∨ w.heap.size <= k) /\ (∀ k, F' k -> k < w'.heap.size) /\ Rep w' F' φ' v (.own 0 l.length) /\
      (∀ i c, ([iBox l] : List BoxC)[i]? = some c -> z1i w' F' φ' (fun k => w.heap.size <= k) i c) /\ ∀ i i' g, i < ([iBox l] : List BoxC).length -> i' < ([iBox l] : List BoxC).length -> (φ' i).blk = some g -> (φ' i').blk = some g -> i = i' := by
    intro zs v' w' hz hown hR hbel
    subst hz
    have hbk : ∀ k, v'.ownBlock = some k -> w.heap.size <= k := by
      intro k hk
      rcases hown.2 with ⟨rfl, _⟩ | ⟨g, cap, cur, rfl, hbg, _⟩
      . cases hk
      . cases hk; exact hbg
    obtain ⟨pl, p1, p2, p3, hpl⟩ := z35 (w := w') (F := F) (b := 0) (sh := .leaf) (B := fun k => w.heap.size <= k) (f := fun i => .int .i64 (zs.getD i 0)) hown hbk (fun k hk hf => by have := hbk k hk; have := hro k hf; omega) fun i hi j hj => by
      have : j = 0 := by have : j < 1 := hj; omega
      subst this
      refine ⟨.int .i64 (zs.getD i 0), ?_, .int _ _ (hR i hi)⟩
      simp [Shape.size, List.getD_eq_getElem?_getD, hi]
    obtain ⟨h1, h2⟩ := hpl (fun _ => pl) rfl
    refine ⟨v', F, fun _ => pl, rfl, hbel, fun _ h => h, fun _ h => .inl h, fun k hk => Nat.lt_of_lt_of_le (hro k hk) hbel.size, h2, fun i c hc => ?_, fun i i' g hi hi' _ _ => ?_⟩
    . obtain ⟨rfl, rfl⟩ := one i c hc
      exact h1
    . simp at hi hi'; omega
  have hv' : RepS w F v (.seq .leaf l.length fun i => .int .i64 (l.getD i 0)) := hv
  generalize hn : l.length = n at hv'
  cases hv' with
  | seq0 a cap sh f =>
    have hl0 : l = [] := List.eq_nil_of_length_eq_zero hn
    subst hl0
    cases a with
    | none =>
      refine (Proofs.Tryz.slices_Clone_int_nil 0 cap w).mono ?_
      rintro e w' ⟨rfl, rfl⟩
      exact own [] _ _ rfl ⟨rfl, .inl ⟨rfl, rfl⟩⟩ (fun j hj => by simp at hj) (Below.refl _ _)
    | some a =>
      refine (Proofs.Tryz.slices_Clone_int_zero a cap w).mono ?_
      rintro e w' ⟨v', rfl, h1, _, h2⟩
      exact own [] _ _ rfl h1 (fun j hj => by simp at hj) h2
  | seq g o n cap sh f cs hF hnc hc hrr =>
    subst hn
    have key : ∀ j, j < l.length -> cs j 0 = .int .i64 (l.getD j 0) /\ InR .i64 (l.getD j 0) := by
      intro j hj
      have := hrr j hj 0 (by decide)
      generalize cs j 0 = u at this
      cases this with
      | int _ _ h => exact ⟨rfl, h⟩
    refine (Proofs.Tryz.slices_Clone_int g o l.length cap l w (Nat.le_refl _) (by omega) fun j hj => ?_).mono ?_
    . have := hc j hj 0 (by decide)
      rw [(key j hj).1] at this
      simpa [Shape.size] using this
    . rintro e w' ⟨v', rfl, h1, _, h2⟩
      rw [List.take_length] at h1
      exact own l _ _ rfl h1 (fun j hj => (key j hj).2) h2
end
end Go.Proofs.S25
namespace Go.Proofs.S25
open Go Go.AV
open Go.IntKind renaming i64 -> j6
open Go.AV.Shape (leaf)
noncomputable section
def setI (l : List Int) : List Int := cmpI (z30 l)
def hasI (l : List Int) (v : Int) : Bool := l.contains v
def idxI (l : List Int) (v : Int) : Nat -> Int
  | 0 => -1
  | k + 1 => if v = l.getD (l.length - (k + 1)) 0 then ((l.length - (k + 1) : Nat) : Int) else idxI l v k
def zgm (l m : List Int) (w : Bool) : List Int := (setI l).filter fun x => hasI m x == w
def addI (l : List Int) (v : Int) : List Int := setI (l ++ [v])
def remI (l : List Int) (v : Int) : List Int := zgm l [v] false
def z5p (l : List Int) : Bool := (List.range (l.length - 1)).all fun i => decide (l.getD i 0 < l.getD (i + 1) 0)
def z1b (n : Nat) (f : Nat -> AV) : List Int := dR dI (.seq .leaf n f)
theorem oR (l : List Int) : z1b l.length (fun i => AV.int .i64 (l.getD i 0)) = l := dR_I l
def spS : FuncId -> List AV -> Option AV
  | 115, [.seq _ n f, .int _ v] => some (.int .i64 (idxI (z1b n f) v (z1b n f).length))
  | 53, [.seq _ n f, .int _ v] | 244, [.seq _ n f, .int _ v] | 70, [.seq _ n f, .int _ v] => some (.bool (hasI (z1b n f) v))
  | 224, [.seq _ n f] | 208, [.seq _ n f] => some (.bool (z5p (z1b n f)))
  | 186, [.seq _ n _] => some (.own 0 n)
  | 231, [.seq _ n f] | 82, [.seq _ n f] => some (rowI (setI (z1b n f)))
  | 232, [.seq _ n f, .seq _ m g, .bool w] => some (rowI (zgm (z1b n f) (z1b m g) w))
  | 193, [.seq _ n f, .int _ v] => some (rowI (addI (z1b n f) v))
  | 194, [.seq _ n f, .int _ v] => some (rowI (remI (z1b n f) v))
  | 27, [.seq _ n f, .seq _ m g] => some (.bool (z1b n f == z1b m g))
  | f, l => spP f l
def frI : FuncId -> List AV -> Option (List BoxC)
  | 186, [.seq _ n f] => some [iBox (z1b n f)]
  | _, _ => none
def leI : FuncId -> List AV -> List BoxC -> Option (AV × List (Option BoxC))
  | 250, [.own _ _], [.row _ _ n f] => some (.tup [], [some (iBox (z30 (z1b n f)))])
  | 251, [.own _ _], [.row _ _ n f] => some (.own 0 (cmpI (z1b n f)).length, [some (iBox (cmpI (z1b n f)))])
  | _, _, _ => none
noncomputable def cfgS (n : Nat) : Cfg := { cfgT n with fresh := frI, CCF := KnownF Tryz.prog GG, lent := leI, CCL := z9j Tryz.prog GG }
theorem zv (n : Nat) : z12 (cfgS n) := z74 (by kernel_rfl)
noncomputable def vI2 (n : Nat) (inv : Nat -> Option Inv) : VCtx := { C := cfgS n, CC := Known Tryz.prog GG, orc := fun _ _ => spS, inv := inv }
end
end Go.Proofs.S25
namespace Go.Proofs.S25
open Go Go.AV Go.RowKit Go.Sort
theorem zo2 {w : World} {g : Nat} {cur : Array Value} {l : List Int} (h : w.heap[g]? = some (.cells cur 3 (0, 0))) (hs : l.length <= cur.size) (hc : ∀ j, j < l.length -> cur.getD j undef = .int .i64 (l.getD j 0)) : Holds (Value.int .i64) w g 0 l.toArray := by
  intro j hj
  have hj' : j < l.length := by simpa using hj
  have hlt : j < cur.size := by omega
  have := hc j hj'
  rw [Array.getD_eq_getD_getElem?, Array.getElem?_eq_getElem hlt, Option.getD_some] at this
  refine ⟨?_, by simp [World.frozen?, h]⟩
  simp only [World.cell?, h, Nat.zero_add]
  rw [Array.getElem?_eq_getElem hlt, this]
  simp [List.getD_eq_getElem?_getD, hj']
theorem zf3 {w : World} {g n : Nat} {cur : Array Value} {l l' : List Int} {os : Array Obj} (h : w.heap[g]? = some (.cells cur 3 (0, 0))) (hs : l.length <= cur.size) (hl : l'.length = l.length) :
    (grow (putRow (Value.int .i64) (Sort.ahead w n) g 0 l'.toArray) os).heap[g]? = some (.cells (putCells (Value.int .i64) 0 l'.toArray cur) 3 (0, 0)) /\ (putCells (Value.int .i64) 0 l'.toArray cur).size = cur.size /\ ∀ j, j < l'.length -> (putCells (Value.int .i64) 0 l'.toArray cur).getD j undef = .int .i64 (l'.getD j 0) := by
  refine ⟨zl4 h, by simp [putCells], fun j hj => ?_⟩
  rw [znz (by simpa using hj) (by simp; omega)]
  simp [List.getD_eq_getElem?_getD, hj]
theorem z90 {ro : Option Nat} {n : Nat} {P : Program} {ops : Array Oper} {Q : Exit -> Act -> World -> Prop} {i f : Nat} {args : Array Value} {rest : List Nat} {o : Oper} {a : Act} {w : World} (ho : ops[i]? = some o) (hg : o.guard = none)
    (hr : (o.semAt (FR ro).round a.eval).run P w = .ok (.enter f args) w) (h : Calls P f args w fun e w' => ∃ v, e = .returned v /\ wpOpsIn (FR ro) n P ops Q rest (a.put o.dst v) w') : wpOpsIn (FR ro) n P ops Q (i :: rest) a w := by
  simp only [wpOpsIn, ho]
  rw [if_pos (by simp [Region.wanted, hg])]
  refine ⟨fun _ _ => trivial, ?_⟩
  rw [hr]
  refine ⟨fun he => by simp [FR, Fence.wide] at he, zgh (h.mono ?_)⟩
  rintro e w' ⟨v, rfl, hv⟩
  exact hv
theorem z91 {a : Act} {d : Nat} {v : Value} (h : d < a.tmps.size) : (a.put (some d) v).eval (.tmp d) = v := by
  show (a.put (some d) v).tmps.getD d undef = v
  rw [Array.getD_eq_getD_getElem?, z8c h]; rfl
theorem zdl {a : Act} {d s : Nat} {v : Value} (h : d ≠ s) : (a.put (some d) v).eval (.tmp s) = a.eval (.tmp s) := by
  show (a.put (some d) v).tmps.getD s undef = a.tmps.getD s undef
  rw [Array.getD_eq_getD_getElem?, z20 (fun e => h (by cases e; rfl)), Array.getD_eq_getD_getElem?]
theorem z5q {a : Act} {d : Option Nat} {v : Value} : (a.put d v).tmps.size = a.tmps.size := by cases d <;> simp [Act.put]
theorem z6y {P : Program} {ro : Option Nat} {o : Oper} {a : Act} {w : World} {x : Operand} (ho : o.op = .move x ∨ o.op = .assign x) : (o.semAt (FR ro).round a.eval).run P w = .ok (.value (a.eval x)) w := by
  rw [Oper.semAt_eq _ _ _ (fun c => by rcases ho with h | h <;> rw [h] <;> simp)]
  unfold execOp
  rcases ho with h | h <;> rw [h] <;> simp
theorem zbd {P : Program} {ro : Option Nat} {o : Oper} {a : Act} {w : World} {f : Nat} {x : Operand} {ts : Array TypeId} (ho : o.op = .call { callee := .value (.func f), args := #[x], argTypes := ts }) (hf : z1d P f) : (o.semAt (FR ro).round a.eval).run P w = .ok (.enter f #[a.eval x]) w := by
  rw [Oper.semAt_eq _ _ _ (fun c => by rw [ho]; simp)]
  have e : a.eval (.func f) = .func (.func f) #[] #[] := rfl
  simp only [execOp, ho, resolve, Sem.run_bind, e]
  simp only [Deferred.ofValue, Sem.run_pure, Result.andThen_ok, invoke, Array.empty_append]
  have := hf #[a.eval x] w
  simpa using this
noncomputable def sReg (k : Nat) : Code := zsd Tryz.f231 k
noncomputable def sOps (k : Nat) : Array Oper := (zgj (sReg k)).toArray
theorem sR0 : sReg 0 = .region 0 (sOps 0) false := by kernel_rfl
theorem sR1 : sReg 1 = .region 1 (sOps 1) false := by kernel_rfl
theorem sR2 : sReg 2 = .region 2 (sOps 2) false := by kernel_rfl
theorem sR3 : sReg 3 = .region 3 (sOps 3) false := by kernel_rfl
theorem s00 : ((sOps 0)[0]?).map opK = some (some 2, .assign (.const (.slice none 0 0)), none) := by kernel_rfl
theorem s10 : ((sOps 1)[0]?).map opK = some (some 4, .move (.tmp 0), none) := by kernel_rfl
theorem s11 : ((sOps 1)[1]?).map opK = some (some 5, .call { callee := .value (.func 186), args := #[.tmp 4], argTypes := #[29] }, none) := by kernel_rfl
theorem s12 : ((sOps 1)[2]?).map opK = some (some 3, .assign (.tmp 5), none) := by kernel_rfl
theorem s20 : ((sOps 2)[0]?).map opK = some (some 6, .move (.tmp 3), none) := by kernel_rfl
theorem s21 : ((sOps 2)[1]?).map opK = some (some 7, .call { callee := .value (.func 250), args := #[.tmp 6], argTypes := #[29] }, none) := by kernel_rfl
theorem s30 : ((sOps 3)[0]?).map opK = some (some 8, .move (.tmp 3), none) := by kernel_rfl
theorem s31 : ((sOps 3)[1]?).map opK = some (some 9, .call { callee := .value (.func 251), args := #[.tmp 8], argTypes := #[29] }, none) := by kernel_rfl
theorem s32 : ((sOps 3)[2]?).map opK = some (some 2, .assign (.tmp 9), none) := by kernel_rfl
theorem z10h : Tryz.f231.body = some ((sReg 0).seq ((sReg 1).seq ((sReg 2).seq ((sReg 3).seq .ret)))) := by kernel_rfl
theorem sS0 : (sOps 0).size = 1 := by kernel_rfl
theorem sS1 : (sOps 1).size = 3 := by kernel_rfl
theorem sS2 : (sOps 2).size = 2 := by kernel_rfl
theorem sS3 : (sOps 3).size = 3 := by kernel_rfl
theorem zl5 (v : Value) (w : World) (R : Ending -> World -> Prop)
    (h1 : Calls Tryz.prog 186 #[v] w fun e w1 => ∃ v1, e = .returned v1 /\ Calls Tryz.prog 250 #[v1] w1 fun e w2 => (∃ u, e = .returned u) /\ Calls Tryz.prog 251 #[v1] w2 fun e w3 => ∃ v3, e = .returned v3 /\ R (.returned v3) w3) :
    Calls Tryz.prog 231 #[v] w R := by
  refine (callsIn_wide (n := 9)).1 (callsIn_of_wp Tryz.func231 z10h trivial ?_)
  have hres : Tryz.f231.results = #[.tmp 2] := by kernel_rfl
  have hnt : Tryz.f231.ntmps = 10 := by kernel_rfl
  have ok1 : z1d Tryz.prog 186 := z1d.of Tryz.func186 (by kernel_rfl) (by kernel_rfl)
  have ok2 : z1d Tryz.prog 250 := z1d.of Tryz.func250 (by kernel_rfl) (by kernel_rfl)
  have ok3 : z1d Tryz.prog 251 := z1d.of Tryz.func251 (by kernel_rfl) (by kernel_rfl)
  rw [hnt]
  obtain ⟨a, ha⟩ : ∃ a : Act, a = { tmps := #[v] ++ Array.replicate (10 - (#[v] : Array Value).size) undef, defers := [] } := ⟨_, rfl⟩
  rw [<- ha]
  have hsz : a.tmps.size = 10 := by rw [ha]; simp
  have hd : a.defers = [] := by rw [ha]
  have hv : a.eval (.tmp 0) = v := by rw [ha]; simp [Act.eval]
  clear ha
  show Code.wpIn (FR none) 9 _ _ _ _ _
  rw [sR0, sR1, sR2, sR3]
  obtain ⟨o, q1, q2, q3, q4⟩ := opAt s00
  refine wpIn_seq (wpIn_region ?_)
  rw [sS0, show List.range 1 = [0] from rfl]
  refine z39 q1 q4 (fun _ _ => trivial) (z6y (.inr q3)) ?_
  rw [q2]
  generalize hw2 : a.eval (.const (.slice none 0 0)) = z
  have hsz0 := hsz
  obtain ⟨b, hb⟩ : ∃ b, b = a.put (some 2) z := ⟨_, rfl⟩
  rw [<- hb]
  have hv0 : b.eval (.tmp 0) = v := by rw [hb, zdl (by decide), hv]
  have hsz : b.tmps.size = 10 := by rw [hb, z5q, hsz]
  have hd : b.defers = [] := by rw [hb]; exact hd
  clear hb hw2 hv hsz0
  show Code.wpIn (FR none) 9 _ _ _ b w
  refine wpIn_seq (wpIn_region ?_)
  rw [sS1, show List.range 3 = [0, 1, 2] from rfl]
  obtain ⟨o, q1, q2, q3, q4⟩ := opAt s10
  refine z39 q1 q4 (fun _ _ => trivial) (z6y (.inl q3)) ?_
  rw [q2, hv0]
  obtain ⟨o, q1, q2, q3, q4⟩ := opAt s11
  refine z90 q1 q4 (zbd q3 ok1) ?_
  rw [z91 (by omega)]
  refine h1.mono ?_
  rintro e w1 ⟨v1, rfl, h2⟩
  refine ⟨v1, rfl, ?_⟩
  rw [q2]
  obtain ⟨o, q1, q2, q3, q4⟩ := opAt s12
  refine z39 q1 q4 (fun _ _ => trivial) (z6y (.inr q3)) ?_
  rw [q2, z91 (by rw [z5q]; omega)]
  obtain ⟨c, hc⟩ : ∃ c, c = ((b.put (some 4) v).put (some 5) v1).put (some 3) v1 := ⟨_, rfl⟩
  rw [<- hc]
  have hv0 : c.eval (.tmp 3) = v1 := by rw [hc, z91 (by rw [z5q, z5q]; omega)]
  have hsz : c.tmps.size = 10 := by rw [hc, z5q, z5q, z5q, hsz]
  have hd : c.defers = [] := by rw [hc]; exact hd
  clear hc
  show Code.wpIn (FR none) 9 _ _ _ c w1
  refine wpIn_seq (wpIn_region ?_)
  rw [sS2, show List.range 2 = [0, 1] from rfl]
  obtain ⟨o, q1, q2, q3, q4⟩ := opAt s20
  refine z39 q1 q4 (fun _ _ => trivial) (z6y (.inl q3)) ?_
  rw [q2, hv0]
  obtain ⟨o, q1, q2, q3, q4⟩ := opAt s21
  refine z90 q1 q4 (zbd q3 ok2) ?_
  rw [z91 (by omega)]
  refine h2.mono ?_
  rintro e w2 ⟨⟨u, rfl⟩, h3⟩
  refine ⟨u, rfl, ?_⟩
  rw [q2]
  obtain ⟨d, hdd⟩ : ∃ d, d = (c.put (some 6) v1).put (some 7) u := ⟨_, rfl⟩
  rw [<- hdd]
  have hv0 : d.eval (.tmp 3) = v1 := by rw [hdd, zdl (by decide), zdl (by decide), hv0]
  have hsz : d.tmps.size = 10 := by rw [hdd, z5q, z5q, hsz]
  have hd : d.defers = [] := by rw [hdd]; exact hd
  clear hdd
  show Code.wpIn (FR none) 9 _ _ _ d w2
  refine wpIn_seq (wpIn_region ?_)
  rw [sS3, show List.range 3 = [0, 1, 2] from rfl]
  obtain ⟨o, q1, q2, q3, q4⟩ := opAt s30
  refine z39 q1 q4 (fun _ _ => trivial) (z6y (.inl q3)) ?_
  rw [q2, hv0]
  obtain ⟨o, q1, q2, q3, q4⟩ := opAt s31
  refine z90 q1 q4 (zbd q3 ok3) ?_
  rw [z91 (by omega)]
  refine h3.mono ?_
  rintro e w3 ⟨v3, rfl, h4⟩
  refine ⟨v3, rfl, ?_⟩
  rw [q2]
  obtain ⟨o, q1, q2, q3, q4⟩ := opAt s32
  refine z39 q1 q4 (fun _ _ => trivial) (z6y (.inr q3)) ?_
  rw [q2, z91 (by rw [z5q]; omega)]
  show Code.wpIn (FR none) 9 _ _ _ _ w3
  refine wpIn_ret ⟨hd, v3, ?_, h4⟩
  simp [results]
  rw [z8c (by rw [z5q, z5q]; omega)]
  rfl
theorem zl6 (l : List Int) : (z30 l).Perm l := List.mergeSort_perm _ _
theorem zsq {l : List Int} {x : Int} (h : x ∈ setI l) : x ∈ l := by
  unfold setI cmpI Lib.compact Lib.compactUpTo at h
  obtain ⟨j, hj, rfl⟩ := List.mem_map.1 h
  have hj' : j < (z30 l).length := by simpa using (List.mem_filter.1 hj).1
  have e : ((z30 l).toArray)[j]! = (z30 l)[j] := by simp [hj']
  rw [e]
  exact (zl6 l).mem_iff.1 (List.getElem_mem hj')
theorem z6i (l : List Int) : (setI l).length <= l.length := by
  unfold setI cmpI Lib.compact Lib.compactUpTo
  rw [List.length_map]
  refine Nat.le_trans (List.length_filter_le _ _) ?_
  rw [List.length_range, z8d]; exact Nat.le_refl _
open Go.Sort in
theorem zl7 (l : List Int) (hl : l.length <= 1000000) : Known Tryz.prog GG 231 [rowI l] (rowI (setI l)) := by
  refine .inl ⟨z1d.of Tryz.func231 (by kernel_rfl) (by kernel_rfl), ?_⟩
  intro w F vs hro hglob hsz hr
  obtain ⟨v, rfl⟩ : ∃ v, vs = #[v] := by
    match vs, hsz with
    | ⟨[c]⟩, _ => exact ⟨c, rfl⟩
  refine zl5 v w _ ?_
  have hc := (zdk l hl).2 w F #[v] hro hglob hsz hr
  refine hc.mono ?_
  rintro e w1 ⟨v1, F1, φ1, rfl, hB1, hF1, hF1', hlt1, hrep1, hbox1, hinj1⟩
  refine ⟨v1, rfl, ?_⟩
  have hb0 := hbox1 0 _ rfl
  have close : ∀ (w3 : World) (v3 : Value), RowKit.Below w.heap.size w w3 -> (∃ F', (∀ k, F1 k -> F' k) /\ (∀ k, F' k -> F k ∨ w.heap.size <= k) /\ (∀ k, F' k -> k < w3.heap.size) /\ RepS w3 F' v3 (rowI (setI l))) -> ∃ v F', (Ending.returned v3 : Ending) = .returned v /\ RowKit.Below w.heap.size w w3 /\ (∀ k, F k -> F' k) /\ (∀ k, F' k -> F k ∨ w.heap.size <= k) /\ (∀ k, F' k -> k < w3.heap.size) /\ RepR w3 F' v (rowI (setI l)) := by
    rintro w3 v3 hB ⟨F', a1, a2, a3, a4⟩
    exact ⟨v3, F', rfl, hB, fun k hk => a1 k (hF1 k hk), a2, a3, a4⟩
  rcases zo0 hb0 hrep1 with ⟨rfl, rfl, hn⟩ | ⟨g, cs, hb, hB, hF, rfl, hg, hcs, hcap, hmax, hH, hR⟩
  . refine (Proofs.Tryz.slices_Sort_int_none none 0 w1).mono ?_
    rintro e w2 ⟨rfl, hw2⟩
    rw [hw2]
    refine ⟨⟨_, rfl⟩, (Proofs.Tryz.slices_Compact_int_empty none 0 w1).mono ?_⟩
    rintro e w3 ⟨rfl, hw3⟩
    rw [hw3]
    exact ⟨_, rfl, close _ _ hB1 ⟨F1, fun _ h => h, hF1', hlt1, by
      have e : setI [] = [] := List.eq_nil_of_length_eq_zero (Nat.le_zero.1 (z6i []))
      rw [e]
      exact .seq0 none 0 .leaf _⟩⟩
  . have hwlt : w.heap.size <= g := hB
    refine (Proofs.Tryz.slices_Sort_int g 0 (φ1 0).cap l w1 hH (Array.getElem?_eq_some_iff.1 hg).1 (by omega)).mono ?_
    rintro e w2 ⟨rfl, n2, os2, hw2⟩
    refine ⟨⟨_, rfl⟩, ?_⟩
    obtain ⟨p1, p2, p3⟩ := zf3 (n := n2) (os := os2) (l' := z30 l) hg (by omega) (z8d l)
    have hw2 : w2 = grow (putRow (Value.int .i64) (Sort.ahead w1 n2) g 0 (z30 l).toArray) os2 := hw2
    have hB2 : RowKit.Below w.heap.size w w2 := by
      refine hB1.trans ⟨by rw [hw2]; rfl, by rw [hw2]; rfl, by rw [hw2]; rfl, by rw [hw2]; exact z9w, fun k hk => ?_⟩
      have := hB1.size
      rw [hw2]; exact zf2 (by omega) (by omega)
    rw [<- hw2] at p1
    have hH2 := zo2 p1 (by rw [p2, z8d]; omega) p3
    have hl2 : (z30 l).length = l.length := z8d l
    have hcmp := Proofs.Tryz.slices_Compact_int g 0 (φ1 0).cap (z30 l) w2 hH2 (by omega) (by omega)
    rw [hl2] at hcmp
    refine hcmp.mono ?_
    rintro e w3 ⟨rfl, n3, hw3⟩
    refine ⟨_, rfl, close _ _ ?_ ?_⟩
    . refine hB2.trans ⟨by rw [hw3]; rfl, by rw [hw3]; rfl, by rw [hw3]; rfl, ?_, fun k hk => ?_⟩
      . have := z9w (w := w2) (g := g) (n := n3) (d := (Lib.compact (z30 l) ++ List.replicate (l.length - (Lib.compact (z30 l)).length) 0).toArray) (os := #[])
        rw [grow_empty] at this; rw [hw3]; exact this
      . have := zf2 (n := n3) (g := g) (d := (Lib.compact (z30 l) ++ List.replicate (l.length - (Lib.compact (z30 l)).length) 0).toArray) (os := #[]) (show k < w2.heap.size by have := hB2.size; omega) (by omega)
        rw [grow_empty] at this; rw [hw3]; exact this
    . have hlen3 : (Lib.compact (z30 l) ++ List.replicate (l.length - (Lib.compact (z30 l)).length) 0).length = (z30 l).length := by
        have : (Lib.compact (z30 l)).length <= l.length := z6i l
        simp [hl2]; omega
      obtain ⟨r1, r2, r3⟩ := zf3 (n := n3) (os := #[]) (l' := Lib.compact (z30 l) ++ List.replicate (l.length - (Lib.compact (z30 l)).length) 0) p1 (by rw [p2]; omega) hlen3
      rw [grow_empty] at r1
      have hw3' : w3 = putRow (Value.int .i64) (Sort.ahead w2 n3) g 0 (Lib.compact (z30 l) ++ List.replicate (l.length - (Lib.compact (z30 l)).length) 0).toArray := hw3
      rw [<- hw3'] at r1
      have hlt3 : g < w3.heap.size := (Array.getElem?_eq_some_iff.1 r1).1
      have hs2 : w1.heap.size <= w2.heap.size := by rw [hw2]; exact z9w
      have hs3 : w2.heap.size <= w3.heap.size := by
        have := z9w (w := w2) (g := g) (n := n3) (d := (Lib.compact (z30 l) ++ List.replicate (l.length - (Lib.compact (z30 l)).length) 0).toArray) (os := #[])
        rw [grow_empty] at this; rw [hw3]; exact this
      refine ⟨fun k => F1 k ∨ k = g, fun k hk => .inl hk, fun k hk => ?_, fun k hk => ?_, ?_⟩
      . rcases hk with hk | rfl
        . exact hF1' k hk
        . exact .inr hwlt
      . rcases hk with hk | rfl
        . have := hlt1 k hk; omega
        . exact hlt3
      . refine .seq g 0 _ _ .leaf _ (fun i _ => .int .i64 ((setI l).getD i 0)) (.inr rfl) (Nat.le_trans (z6i l) hcap) (fun i hi j hj => ?_) fun i hi j hj => ?_
        . have : j = 0 := by have : j < 1 := hj; omega
          subst this
          have hi' : i < (Lib.compact (z30 l)).length := hi
          have h5 := r3 i (by rw [hlen3, hl2]; exact Nat.lt_of_lt_of_le hi (z6i l))
          have hsz5 : i < (putCells (Value.int .i64) 0 (Lib.compact (z30 l) ++ List.replicate (l.length - (Lib.compact (z30 l)).length) 0).toArray (putCells (Value.int .i64) 0 (z30 l).toArray cs)).size := by
            rw [r2, p2]; have := z6i l; have hi2 : i < (setI l).length := hi; omega
          rw [Array.getD_eq_getD_getElem?, Array.getElem?_eq_getElem hsz5, Option.getD_some] at h5
          simp only [World.cell?, r1, Shape.size, Nat.mul_one, Nat.add_zero, Nat.zero_add]
          rw [Array.getElem?_eq_getElem hsz5, h5]
          have e : (Lib.compact (z30 l) ++ List.replicate (l.length - (Lib.compact (z30 l)).length) 0).getD i 0 = (setI l).getD i 0 := by
            rw [List.getD_eq_getElem?_getD, List.getD_eq_getElem?_getD, List.getElem?_append_left hi']; rfl
          rw [e]; rfl
        . exact .int _ _ (zo1 (fun x hx => zsp hR x (zsq hx)) i hi)
end Go.Proofs.S25
namespace Go.Proofs.S25
open Go Go.AV
open Go.IntKind renaming i64 -> j6
open Go.AV.Shape (leaf)
noncomputable section
def zl8 (l : List Int) (v : Int) (k : Nat) : Option Inv := match Nat.beq k 2 with
  | true => some { ι := Nat, S := fun i => ⟨[(0, rowI l), (1, .int .i64 v), (7, .int .i64 l.length), (8, .int .i64 i)], []⟩, μ := fun i => l.length - i, ok := fun i => i <= l.length /\ idxI l v l.length = idxI l v (l.length - i) }
  | false => none
noncomputable def zvm (l : List Int) (v : Int) : Prop := fnVc (vI2 19 (zl8 l v)) Tryz.f115 [rowI l, .int .i64 v] (.int .i64 (idxI l v l.length))
noncomputable def zpu (l : List Int) (v : Int) : Prop := fnVc (vI2 9 fun _ => none) Tryz.f53 [rowI l, .int .i64 v] (.bool (hasI l v))
noncomputable def zvn (l : List Int) (v : Int) : Prop := fnVc (vI2 8 fun _ => none) Tryz.f244 [rowI l, .int .i64 v] (.bool (hasI l v))
def zl9 (l : List Int) (k : Nat) : Option Inv := match Nat.beq k 2 with
  | true => some { ι := Nat, S := fun i => ⟨[(0, rowI l), (3, .int .i64 i)], []⟩, μ := fun i => l.length - i, ok := fun i => 1 <= i /\ (i <= l.length ∨ i = 1) /\ ∀ j, j + 1 < i -> l.getD j 0 < l.getD (j + 1) 0 }
  | false => none
noncomputable def zvo (l : List Int) : Prop := fnVc (vI2 20 (zl9 l)) Tryz.f224 [rowI l] (.bool (z5p l))
def zla (l m : List Int) (w : Bool) (k : Nat) : Option Inv := match Nat.beq k 3 with
  | true => some { ι := Nat, S := fun i => ⟨[(1, rowI m), (2, .bool w), (7, .own 25 (((setI l).take i).filter fun x => hasI m x == w).length), (11, rowI (setI l)), (12, .int .i64 (setI l).length), (13, .int .i64 i)], [(25, iBox (((setI l).take i).filter fun x => hasI m x == w))]⟩, μ := fun i => (setI l).length - i, ok := fun i => i <= (setI l).length }
  | false => none
noncomputable def zvp (l m : List Int) (w : Bool) : Prop := fnVc (vI2 28 (zla l m w)) Tryz.f232 [rowI l, rowI m, .bool w] (rowI (zgm l m w))
noncomputable def gAdd (l : List Int) (v : Int) : Prop := fnVc (vI2 11 fun _ => none) Tryz.f193 [rowI l, .int .i64 v] (rowI (addI l v))
noncomputable def gRem (l : List Int) (v : Int) : Prop := fnVc (vI2 9 fun _ => none) Tryz.f194 [rowI l, .int .i64 v] (rowI (remI l v))
def zlb (l : List Int) (v : Int) (k : Nat) : Option Inv := match Nat.beq k 2 with
  | true => some { ι := Nat, S := fun i => ⟨[(0, rowI l), (1, .int .i64 v), (5, .int .i64 i)], []⟩, μ := fun i => l.length - i, ok := fun i => i <= l.length /\ ∀ j, j < i -> l.getD j 0 ≠ v }
  | false => none
end
end Go.Proofs.S25
namespace Go.Proofs.S25
open Go Go.AV
open Go.IntKind renaming i64 -> j6
open Go.AV.Shape (leaf)
noncomputable section
open Go.IntKind renaming i64 -> j6
open Go.AV.Shape (leaf)
noncomputable section

theorem zlc (l : List Int) (v : Int) (i : Nat) (hi : i < l.length) : idxI l v (l.length - i) = if v = l.getD i 0 then (i : Int) else idxI l v (l.length - (i + 1)) := by
  obtain ⟨k, hk⟩ : ∃ k, l.length - i = k + 1 := ⟨l.length - i - 1, by omega⟩
  rw [hk, idxI, show l.length - (k + 1) = i from by omega, show k = l.length - (i + 1) from by omega]
theorem zhs (l : List Int) (v : Int) : ∀ k, k <= l.length -> (0 <= idxI l v k ↔ ∃ i, l.length - k <= i /\ i < l.length /\ v = l.getD i 0)
  | 0, _ => ⟨fun h => absurd (show (0 : Int) <= -1 from h) (by decide), fun ⟨i, h1, h2, _⟩ => by omega⟩
  | k + 1, hk => by
    simp only [idxI]
    split
    . rename_i h
      exact ⟨fun _ => ⟨l.length - (k + 1), by omega, by omega, h⟩, fun _ => by omega⟩
    . rename_i h
      rw [zhs l v k (by omega)]
      refine ⟨fun ⟨i, h1, h2, h3⟩ => ⟨i, by omega, h2, h3⟩, fun ⟨i, h1, h2, h3⟩ => ⟨i, ?_, h2, h3⟩⟩
      by_cases e : i = l.length - (k + 1)
      . subst e; exact absurd h3 h
      . omega
theorem z9x (l : List Int) (v : Int) : hasI l v = true ↔ ∃ i, i < l.length /\ v = l.getD i 0 := by
  unfold hasI
  rw [List.contains_iff_mem]
  constructor
  . intro h
    obtain ⟨i, hi, rfl⟩ := List.getElem_of_mem h
    exact ⟨i, hi, by simp [List.getD_eq_getElem?_getD, hi]⟩
  . rintro ⟨i, hi, rfl⟩
    rw [List.getD_eq_getElem?_getD, List.getElem?_eq_getElem hi]
    exact List.getElem_mem hi
theorem z92 (l : List Int) : z5p l = true ↔ ∀ j, j + 1 < l.length -> l.getD j 0 < l.getD (j + 1) 0 := by
  unfold z5p
  rw [List.all_eq_true]
  constructor
  . intro h j hj
    simpa using h j (List.mem_range.2 (by omega))
  . intro h j hj
    simpa using h j (by have := List.mem_range.1 hj; omega)
section
variable (l:List Int) (v:Int) (x2:Nat)
def qfd:=x2<=l.length/\idxI l v l.length=idxI l v (l.length - x2)
def q2h:=RW leaf l.length fun i=>AV.int j6 (l.getD i 0)
def qsf:=v == l.getD (↑x2:Int).toNat 0
variable (x1:Nat)
def q2i:=decide ((↑x1:Int) < (↑l.length:Int))
end
theorem z10i (l:List Int) (v:Int):zvm l v=(↑l.length<=(9223372036854775807:Int)/\(∃ i,qfd l v i/\(q2h l/\RI v/\RI ↑l.length/\(RR j6/\(0:Int)=↑i)/\True)/\True)/\∀ i:Nat,qfd l v i->(q2i l i=true->inIx (↑i) l.length/\(qsf l v i=true->RR j6/\↑i=idxI l v l.length)/\(qsf l v i=false->InR j6 (q8 i)/\(∃ j,qfd l v j/\l.length - j < l.length - i/\(q2h l/\RI v/\RI ↑l.length/\(RR j6/\q8 i=↑j)/\True)/\True)))/\(q2i l i=false->RR j6/\-1=idxI l v l.length)):=by kernel_rfl
theorem z10j (l : List Int) (v : Int) (hl : l.length <= 1000000) : Known Tryz.prog GG 115 [rowI l, .int .i64 v] (.int .i64 (idxI l v l.length))  := by
  refine Known.of (V := vI2 19 (zl8 l v)) (fn := Tryz.f115) Tryz.func115 (by kernel_rfl) (zv _) rfl ?_
  show zvm l v
  rw [z10i]; try delta qfd q2h qsf q8 q2i
  simp only [SB, inIx]
  refine ⟨by omega, ⟨0, ⟨by omega, by rw [Nat.sub_zero]⟩, rfl⟩, fun i hi => ⟨fun hlt => ⟨hlt, fun h => ?_, fun h => ⟨zg (by omega) (by omega), i + 1, ⟨by omega, ?_⟩, by omega, by omega⟩⟩, fun hge => ?_⟩⟩
  . rw [hi.2, zlc l v i hlt, if_pos h]
  . rw [hi.2, zlc l v i hlt, if_neg h]
  . rw [hi.2, show l.length - i = 0 from by omega]; rfl
section
variable (l:List Int)
def q6o:List Int:=z1b l.length fun i=>AV.int j6 (l.getD i 0)
end
theorem zvq (l:List Int) (v:Int):zpu l v=(KN 115 [rowI l,AV.int j6 v] (AV.int j6 (idxI (q6o l) v (q6o l).length))/\decide (0<=idxI (z1b l.length fun i=>AV.int j6 (l.getD i 0)) v (z1b l.length fun i=>AV.int j6 (l.getD i 0)).length)=hasI l v):=by kernel_rfl
theorem zcj (l : List Int) (v : Int) (hl : l.length <= 1000000) : Known Tryz.prog GG 53 [rowI l, .int .i64 v] (.bool (hasI l v))  := by
  refine Known.of (V := vI2 9 fun _ => none) (fn := Tryz.f53) Tryz.func53 (by kernel_rfl) (zv _) rfl ?_
  show zpu l v
  rw [zvq]; try delta q6o
  try simp only [SB, inIx, reduceCtorEq, Int.reduceToNat]
  simp only [oR]
  refine ⟨z10j l v hl, ?_⟩
  have h1 := zhs l v l.length (Nat.le_refl _)
  rw [Nat.sub_self] at h1
  rw [Bool.eq_iff_iff, decide_eq_true_eq, h1, z9x]
  exact ⟨fun ⟨i, _, h, h'⟩ => ⟨i, h, h'⟩, fun ⟨i, h, h'⟩ => ⟨i, by omega, h, h'⟩⟩
section
variable (l:List Int) (v:Int)
def qsg:=hasI (z1b l.length fun i=>AV.int j6 (l.getD i 0)) v
end
theorem z10k (l:List Int) (v:Int):zvn l v=(KN 53 [rowI l,AV.int j6 v] (AV.bool (qsg l v))/\qsg l v=hasI l v):=by kernel_rfl
theorem zsr (l : List Int) (v : Int) (hl : l.length <= 1000000) : Known Tryz.prog GG 244 [rowI l, .int .i64 v] (.bool (hasI l v))  := by
  refine Known.of (V := vI2 8 fun _ => none) (fn := Tryz.f244) Tryz.func244 (by kernel_rfl) (zv _) rfl ?_
  show zvn l v
  rw [z10k]; try delta qsg
  try simp only [SB, inIx, reduceCtorEq, Int.reduceToNat]
  simp only [oR]
  exact ⟨zcj l v hl, trivial⟩
section
variable (l:List Int) (x1:Nat)
def qfe:=1<=x1/\(x1<=l.length∨x1=1)/\∀ j:Nat,qb j < x1->l.getD j 0 < l.getD (qb j) 0
variable (x0:Nat)
def qj:Int:=↑x0 - 1
def qsh:=decide (l.getD (↑x1:Int).toNat 0<=l.getD ((↑x1:Int) - 1).toNat 0)
end
theorem z10l (l:List Int):zvo l=((∃ i,qfe l i/\(q2h l/\(RR j6/\(1:Int)=↑i)/\True)/\True)/\∀ i:Nat,qfe l i->↑l.length<=(9223372036854775807:Int)/\(q2i l i=true->InR j6 (qj i)/\inIx (qj i) l.length/\inIx (↑i) l.length/\(qsh l i=true->false=z5p l)/\(qsh l i=false->InR j6 (q8 i)/\(∃ j,qfe l j/\l.length - j < l.length - i/\(q2h l/\(RR j6/\q8 i=↑j)/\True)/\True)))/\(q2i l i=false->true=z5p l)):=by kernel_rfl
theorem zvr (l : List Int) (hl : l.length <= 1000000) : Known Tryz.prog GG 224 [rowI l] (.bool (z5p l))  := by
  refine Known.of (V := vI2 20 (zl9 l)) (fn := Tryz.f224) Tryz.func224 (by kernel_rfl) (zv _) rfl ?_
  show zvo l
  rw [z10l]; try delta qb qfe q2h qj qsh q8 q2i
  simp only [SB, inIx]
  refine ⟨⟨1, ⟨by omega, .inr rfl, fun j hj => by omega⟩, rfl⟩, fun i hi => ⟨by omega, fun hlt => ?_, fun hge => ?_⟩⟩
  . have e : ((i : Int) - 1).toNat = i - 1 := by omega
    rw [e]
    refine ⟨zg (by omega) (by omega), by omega, hlt, fun h => ?_, fun h => ⟨zg (by omega) (by omega), i + 1, ⟨by omega, .inl (by omega), fun j hj => ?_⟩, by omega, by omega⟩⟩
    . cases hv : z5p l with
      | false => rfl
      | true =>
        have := (z92 l).1 hv (i - 1) (by omega)
        rw [show i - 1 + 1 = i from by omega] at this
        omega
    . by_cases e2 : j + 1 = i
      . have e3 : i - 1 = j := by omega
        rw [e3] at h
        rw [e2]; omega
      . exact hi.2.2 j (by omega)
  . exact ((z92 l).2 fun j hj => hi.2.2 j (by omega)).symm
theorem z79 (L : List Int) (x : Int) (j : Nat) (hj : j < L.length + 1) : (if j < L.length then AV.int .i64 (L.getD j 0) else ((List.replicate 1 (AV.int .i64 0)).set 0 (AV.int .i64 x)).getD (j - L.length) AV.any) = AV.int .i64 ((L ++ [x]).getD j 0) := by
  split
  . rename_i h
    rw [List.getD_eq_getElem?_getD, List.getD_eq_getElem?_getD, List.getElem?_append_left h]
  . rename_i h
    obtain rfl : j = L.length := by omega
    simp [List.getD_eq_getElem?_getD]
theorem zf4 (S : List Int) (p : Int -> Bool) (i : Nat) (hi : i < S.length) : (S.take (i + 1)).filter p = (S.take i).filter p ++ (if p (S.getD i 0) then [S.getD i 0] else []) := by
  have e : S.take (i + 1) = S.take i ++ [S.getD i 0] := by
    rw [List.take_add_one, List.getD_eq_getElem?_getD, List.getElem?_eq_getElem hi]; rfl
  rw [e, List.filter_append]
  congr 1
  by_cases h : p (S.getD i 0) = true
  . rw [if_pos h, List.filter_cons_of_pos h, List.filter_nil]
  . rw [if_neg h, List.filter_cons_of_neg h, List.filter_nil]
theorem zld (L : List Int) (x : Int) : z1b (L.length + 1) (fun j => if j < L.length then AV.int .i64 (L.getD j 0) else ((List.replicate 1 (AV.int .i64 0)).set 0 (AV.int .i64 x)).getD (j - L.length) AV.any) = L ++ [x] := by
  have h := oR (L ++ [x])
  rw [List.length_append] at h
  refine Eq.trans ?_ h
  show (List.range (L.length + 1)).map _ = (List.range (L.length + 1)).map _
  apply List.map_congr_left
  intro j hj
  exact congrArg dI (z79 L x j (List.mem_range.1 hj))
theorem zle (x : Int) : z1b 1 (fun j => ((List.replicate 1 (AV.int .i64 0)).set 0 (AV.int .i64 x)).getD j AV.any) = [x] := rfl
section
variable (l:List Int)
def qff:List Int:=setI (z1b l.length fun i=>AV.int j6 (l.getD i 0))
def qfg:Nat:=(qff l).length
def qsi:Int:=↑(qfg l)
variable (m:List Int)
def qfh:=RW leaf m.length fun i=>AV.int j6 (m.getD i 0)
variable (w:Bool) (x3:Nat)
def qsj:List Int:=List.filter (fun x=>hasI m x == w) (List.take x3 (setI l))
def q17:Nat:=(qsj l m w x3).length
def qsk:=q17 l m w x3=0
variable (x1:Nat)
def qsl:Int:=(setI l).getD (↑x1:Int).toNat 0
def qsm:=AV.int j6 (qsl l x1)
variable (x2:Nat)
def qsn:=hasI (z1b m.length fun i=>AV.int j6 (m.getD i 0)) (qsl l x2)
def qaf:Nat:=q17 l m w x3 + 1
def qso:=(setI l).length - x2 < (setI l).length - x1
variable (x4:Nat)
def qsp:=qaf l m w x3=q17 l m w x4
def qsq:=(RW leaf (setI l).length fun i=>AV.int j6 ((setI l).getD i 0))/\RI ↑(setI l).length/\(RR j6/\q8 x1=↑x2)/\True
def q6p:=AV.int j6 ((qsj l m w x3).getD x4 0)
def qsr:=qsn l m x3 == w
def qss:=q17 l m w x3=q17 l m w x4
def qst:=x4 < q17 l m w x3
def qsu:=decide ((↑x1:Int) < (↑(setI l).length:Int))
end
theorem z10m (l m:List Int) (w:Bool):zvp l m w=(KN 231 [rowI l] (rowI (qff l))/\qsi l<=9223372036854775807/\(∃ i,i<=(setI l).length/\(qfh m/\RR w/\(qsk l m w i/\RR true/\RR true)/\(RR leaf/\qfg l=(setI l).length/\∀ (i:Nat),i < qfg l->AV.int j6 ((qff l).getD i (0:Int))=AV.int j6 ((setI l).getD i (0:Int)))/\(RR j6/\qsi l=↑(setI l).length)/\(RR j6/\(0:Int)=↑i)/\True)/\(qsk l m w i/\RR true)/\True)/\∀ i:Nat,i<=(setI l).length->(qsu l i=true->inIx (↑i) (setI l).length/\KN 53 [rowI m,qsm l i] (AV.bool (qsn l m i))/\(qsr l m w i=true->1 * leaf.size<=16777216/\(RR (q17 l m w i)/\↑(qaf l m w i) * ↑(8:Nat)<=(140737488355328:Int)/\qaf l m w i<=9223372036854775807)/\1<=1/\q9 i/\(∃ j,j<=(setI l).length/\qso l i j/\(qfh m/\RR w/\(RR (25:Nat)/\qsp l m w i j)/\qsq l i j)/\(RR (3:TypeId)/\RR leaf/\qsp l m w i j/\∀ (i_1:Nat),i_1 < qaf l m w i->(if i_1 < (List.filter (fun x=>hasI m x == w) (List.take i (setI l))).length then q6p l m w i i_1 else ((List.replicate (1:Nat) (AV.int j6 (0:Int))).set (0:Nat) (strip1 (strip1 (qsm l i)))).getD (i_1 - q17 l m w i) AV.any)=q6p l m w j i_1)/\True))/\(qsr l m w i=false->q9 i/\(∃ j,j<=(setI l).length/\qso l i j/\(qfh m/\RR w/\(RR (25:Nat)/\qss l m w i j)/\qsq l i j)/\(RR (3:TypeId)/\RR leaf/\qss l m w i j/\∀ (i_1:Nat),qst l m w i i_1->q6p l m w i i_1=q6p l m w j i_1)/\True)))/\(qsu l i=false->q17 l m w i<=q17 l m w i/\RR leaf/\q17 l m w i=(zgm l m w).length/\∀ (i_1:Nat),qst l m w i i_1->q6p l m w i i_1=AV.int j6 ((zgm l m w).getD i_1 0))):=by kernel_rfl
theorem z10n (l m : List Int) (w : Bool) (hl : l.length <= 1000000) (hm : m.length <= 1000000) : Known Tryz.prog GG 232 [rowI l, rowI m, .bool w] (rowI (zgm l m w))  := by
  refine Known.of (V := vI2 28 (zla l m w)) (fn := Tryz.f232) Tryz.func232 (by kernel_rfl) (zv _) rfl ?_
  show zvp l m w
  rw [z10m]; try delta qff qfg qsi qfh qsj q17 qsk qsl qsm qsn qaf q8 q9 qso qsp qsq q6p qsr qss qst qsu
  simp only [SB, inIx]
  simp only [oR]
  have hS := z6i l
  have hP : ∀ i, ((setI l).take i |>.filter fun x => hasI m x == w).length <= (setI l).length := fun i => Nat.le_trans (List.length_filter_le _ _) (by rw [List.length_take]; omega)
  refine ⟨zl7 l hl, by omega, ⟨0, by omega, ⟨by simp, ⟨trivial, fun _ _ => trivial⟩, trivial, rfl⟩, by simp⟩, fun i hi => ⟨fun hlt => ⟨hlt, zcj m _ hm, fun h => ?_, fun h => ?_⟩, fun hge => ?_⟩⟩
  . have e := zf4 (setI l) (fun x => hasI m x == w) i hlt
    rw [if_pos (by simpa using h)] at e
    have hp := hP i
    refine ⟨by decide, ⟨by omega, by omega⟩, zg (by omega) (by omega), i + 1, hlt, by omega, ⟨by rw [e]; simp, by omega⟩, by rw [e]; simp, fun j hj => ?_⟩
    rw [e, z79 _ _ j hj]
  . have e := zf4 (setI l) (fun x => hasI m x == w) i hlt
    rw [if_neg (by simpa using h), List.append_nil] at e
    exact ⟨zg (by omega) (by omega), i + 1, hlt, by omega, ⟨by rw [e], by omega⟩, by rw [e], fun j hj => by rw [e]⟩
  . have e : (setI l).take i = setI l := List.take_of_length_le (by omega)
    rw [e]
    exact ⟨rfl, fun _ _ => rfl⟩
section
variable (l:List Int)
def qsv:Nat:=(q6o l).length
variable (x1:Nat)
def qsw:=AV.int j6 ((q6o l).getD x1 0)
def q4r:Nat:=l.length + 1
variable (v:Int)
def qsx:Nat->AV:=fun i=>if i < l.length then qsw l i else ((List.replicate 1 (AV.int j6 0)).set 0 (strip1 (strip1 (AV.int j6 v)))).getD (i - l.length) AV.any
def qfi:List Int:=setI (z1b (q4r l) (qsx l v))
def qsy:Nat:=(qfi l v).length
end
theorem eAdd (l:List Int) (v:Int):gAdd l v=((KnownF Tryz.prog GG (186:Nat) [rowI l] (AV.own (0:Nat) l.length) [BoxC.row (3:TypeId) leaf (qsv l) fun i=>qsw l i])/\1 * leaf.size<=16777216/\(l.length=qsv l/\↑(q4r l) * ↑(8:Nat)<=(140737488355328:Int)/\q4r l<=9223372036854775807)/\1<=1/\q4r l<=q4r l/\KN 231 [AV.seq leaf (q4r l) (qsx l v)] (rowI (qfi l v))/\RR leaf/\qsy l v=(addI l v).length/\∀ i:Nat,i < qsy l v->AV.int j6 ((qfi l v).getD i 0)=AV.int j6 ((addI l v).getD i 0)):=by kernel_rfl
theorem kAdd (l : List Int) (v : Int) (hl : l.length <= 500000) : Known Tryz.prog GG 193 [rowI l, .int .i64 v] (rowI (addI l v))  := by
  refine Known.of (V := vI2 11 fun _ => none) (fn := Tryz.f193) Tryz.func193 (by kernel_rfl) (zv _) rfl ?_
  show gAdd l v
  rw [eAdd]; try delta q6o qsv qsw q4r qsx qfi qsy
  simp only [SB]
  simp only [oR, zld]
  have hk := zl7 (l ++ [v]) (by simp; omega)
  refine ⟨zdk l (by omega), by decide, ⟨trivial, by omega, by omega⟩, ?_, rfl, fun _ _ => rfl⟩
  exact hk.weaken (args' := [_]) rfl ⟨⟨rfl, by simp, fun j hj => z79 l v j hj⟩, trivial⟩
section
variable (v:Int)
def qsz:Nat->AV:=fun i=>((List.replicate 1 (AV.int j6 0)).set 0 (strip1 (strip1 (AV.int j6 v)))).getD i AV.any
end
section
variable (l:List Int) (v:Int)
def qfj:List Int:=zgm (z1b l.length fun i=>AV.int j6 (l.getD i 0)) (z1b 1 (qsz v)) false
def qt0:Nat:=(qfj l v).length
end
theorem eRem (l:List Int) (v:Int):gRem l v=(1 * leaf.size<=16777216/\1<=1/\KN 232 [rowI l,AV.seq leaf (1:Nat) (qsz v),AV.bool false] (rowI (qfj l v))/\RR leaf/\qt0 l v=(remI l v).length/\∀ i:Nat,i < qt0 l v->AV.int j6 ((qfj l v).getD i 0)=AV.int j6 ((remI l v).getD i 0)):=by kernel_rfl
theorem kRem (l : List Int) (v : Int) (hl : l.length <= 1000000) : Known Tryz.prog GG 194 [rowI l, .int .i64 v] (rowI (remI l v))  := by
  refine Known.of (V := vI2 9 fun _ => none) (fn := Tryz.f194) Tryz.func194 (by kernel_rfl) (zv _) rfl ?_
  show gRem l v
  rw [eRem]; try delta qsz qfj qt0
  simp only [SB]
  simp only [oR, zle]
  have hk := z10n l [v] false hl (by simp)
  refine ⟨by decide, ?_, rfl, fun _ _ => rfl⟩
  refine hk.weaken (args' := [_, _, _]) rfl ⟨⟨rfl, rfl, fun _ _ => rfl⟩, ⟨rfl, rfl, fun j hj => ?_⟩, rfl, trivial⟩
  have : j = 0 := by have : j < 1 := hj; omega
  subst this; rfl
end
end
end Go.Proofs.S25
namespace Go.Proofs.S25
open Go Go.AV
open Go.IntKind renaming i64 -> j6
open Go.AV.Shape (leaf)
noncomputable section

def Ris (l : List Int) : Prop := l.Pairwise (· < ·)
theorem zss {l : List Int} {v : Int} : hasI l v = true ↔ v ∈ l := by unfold hasI; rw [List.contains_iff_mem]
theorem z8e {l : List Int} : z5p l = true ↔ Ris l := by
  rw [z92]
  constructor
  . intro h
    refine List.pairwise_iff_getElem.2 fun i j hi hj hij => ?_
    have key : ∀ d, (hd : i + d + 1 < l.length) -> l.getD i 0 < l.getD (i + d + 1) 0 := by
      intro d
      induction d with
      | zero => exact fun hd => h i hd
      | succ d ih => exact fun hd => Int.lt_trans (ih (by omega)) (h (i + d + 1) hd)
    have := key (j - i - 1) (by omega)
    rw [show i + (j - i - 1) + 1 = j from by omega] at this
    simpa [List.getD_eq_getElem?_getD, hi, hj] using this
  . intro h j hj
    have := List.pairwise_iff_getElem.1 h j (j + 1) (by omega) hj (by omega)
    simpa [List.getD_eq_getElem?_getD, hj, show j < l.length by omega] using this
def depR (id : Int) : Nat -> Int
  | 0 => -1
  | k + 1 => if id < 8 then 5 - ((k : Int) + 1) else if 7 <= id.tmod 8 then -1 else depR (id.tdiv 8 - 1) k
def depI (id : Int) : Int := if id < 0 then -1 else depR id 5
def chB2 (t : Thr) : Bool := !(decide (depI t.id < 0) || depI t.id == 4 || decide (t.kids < 0) || decide (7 <= t.kids))
def z3d (t : Thr) : Int := if chB2 t then 8 * (t.id + 1) + t.kids else 0
def fidR (l : List Thr) (id : Int) : Nat -> Int
  | 0 => -1
  | k + 1 => if (l.getD (l.length - (k + 1)) c0t).id = id then ((l.length - (k + 1) : Nat) : Int) else fidR l id k
def fid (l : List Thr) (id : Int) : Int := fidR l id l.length
def atB (p : PProg) (t : Thr) : Bool := decide (t.pc < ((p.funs.getD t.fn.toNat c0f).code.length : Int))
def atI (p : PProg) (t : Thr) : Inst := if atB p t then (p.funs.getD t.fn.toNat c0f).code.getD t.pc.toNat c0i else c0i
def stdE (p : PProg) (b : Int) : Int := if (zb p).1 != 0 then (zb p).1 else if b < 1 ∨ 32 < b then 2 else 0
def endT (t : Thr) (s e : Int) : Thr := { t with status := s, fault := e }
def spT : FuncId -> List AV -> Option AV
  | 201, [.int _ n] => some (.tup [.int .i64 (n.tdiv 8 - 1), .int .i64 (n.tmod 8)])
  | 137, [.int _ n] => some (.int .i64 (depI n))
  | 235, [.mc _ t] => some (.tup [.int .i64 (z3d (dT t)), .bool (chB2 (dT t))])
  | 183, [.mc _ t, .rptr _ (.int _ id)] => some (.bool ((dT t).id == id))
  | 182, [.seq _ n f, .clo 183 [.rptr _ (.int _ id)]] => some (.int .i64 (fid (dR dT (.seq zd n f)) id))
  | 120, [.seq _ n f, .int _ id] => some (.tup [.int .i64 (max (fid (dR dT (.seq zd n f)) id) 0), .bool (decide (0 <= fid (dR dT (.seq zd n f)) id))])
  | 190, [.mc _ p, .mc _ t] => some (.tup [vI (atI (dP p) (dT t)), .bool (atB (dP p) (dT t))])
  | 136, [.mc _ p, .int _ b] | 83, [.mc _ p, .int _ b] => some (.int .i64 (stdE (dP p) b))
  | 202, [.mc _ t, .int _ s, .int _ e] => some (vT (endT (dT t) s e))
  | f, l => spS f l
noncomputable def vT2 (n : Nat) (inv : Nat -> Option Inv) : VCtx := { C := cfgT n, CC := Known Tryz.prog GG, orc := fun _ _ => spT, inv := inv }
noncomputable def zpv (n : Int) : Prop := fnVc (vT2 9 fun _ => none) Tryz.f201 [.int .i64 n] (.tup [.int .i64 (n.tdiv 8 - 1), .int .i64 (n.tmod 8)])
def zpw (n : Int) (k : Nat) : Option Inv := match Nat.beq k 4 with
  | true => some { ι := Nat × Int, S := fun i => ⟨[(0, .int .i64 i.2), (8, .int .i64 i.1)], []⟩, μ := fun i => 5 - i.1, ok := fun i => i.1 <= 5 /\ 0 <= i.2 /\ i.2 <= 9223372036854775807 /\ depI n = depR i.2 (5 - i.1) }
  | false => none
noncomputable def gDep (n : Int) : Prop := fnVc (vT2 23 (zpw n)) Tryz.f137 [.int .i64 n] (.int .i64 (depI n))
noncomputable def zpx (t : Thr) : Prop := fnVc (vT2 31 fun _ => none) Tryz.f235 [vT t] (.tup [.int .i64 (z3d t), .bool (chB2 t)])
noncomputable def zpy (t : Thr) (id : Int) : Prop := fnVc (vT2 8 fun _ => none) Tryz.f183 [vT t, .rptr .leaf (.int .i64 id)] (.bool (t.id == id))
def zpz (l : List Thr) (id : Int) (k : Nat) : Option Inv := match Nat.beq k 2 with
  | true => some { ι := Nat, S := fun i => ⟨[(0, rowT l), (1, .clo 183 [.rptr .leaf (.int .i64 id)]), (7, .int .i64 l.length), (8, .int .i64 i)], []⟩, μ := fun i => l.length - i, ok := fun i => i <= l.length /\ fid l id = fidR l id (l.length - i) }
  | false => none
noncomputable def gFid (l : List Thr) (id : Int) : Prop := fnVc (vT2 19 (zpz l id)) Tryz.f182 [rowT l, .clo 183 [.rptr .leaf (.int .i64 id)]] (.int .i64 (fid l id))
noncomputable def zq0 (l : List Thr) (id : Int) : Prop := fnVc (vT2 14 fun _ => none) Tryz.f120 [rowT l, .int .i64 id] (.tup [.int .i64 (max (fid l id) 0), .bool (decide (0 <= fid l id))])
noncomputable def gAt (p : PProg) (t : Thr) : Prop := fnVc (vT2 25 fun _ => none) Tryz.f190 [vP p, vT t] (.tup [vI (atI p t), .bool (atB p t)])
noncomputable def gStd (p : PProg) (b : Int) : Prop := fnVc (vT2 23 fun _ => none) Tryz.f136 [vP p, .int .i64 b] (.int .i64 (stdE p b))
noncomputable def gEnd (t : Thr) (s e : Int) : Prop := fnVc (vT2 12 fun _ => none) Tryz.f202 [vT t, .int .i64 s, .int .i64 e] (vT (endT t s e))
end
end Go.Proofs.S25
