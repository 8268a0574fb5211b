import Derived.Test.YtgcpdfihjmmggaaGreatDoorXo
import Derived.Shelf.Sort.Plain
import Derived.Ground.Names2Prog
import Derived.Shelf.Slices.Clone
import Derived.Shelf.Slices.CompactI
import Derived.Shelf.Slices.In.SortNone
import Derived.Test.YtgcpdfihjmmggaaGreatDoorProg
namespace Go.Proofs.S25
open Go Go.AV
open Go.IntKind renaming i64 -> j6
open Go.AV.Shape (leaf)
noncomputable section
open Go.IntKind renaming i64 -> j6
open Go.AV.Shape (leaf)
noncomputable section
theorem eC0 (p:PProg):gC0 p=(True/\(RR (AV.ptr 1 [])/\RR (AV.ptr 2 [])/\RR (AV.ptr 3 [])/\True)/\((27:Nat)=(27:TypeId)/\RR za/\(RW ze p.vars.length fun i=>encV (p.vars.getD i c0v))/\(RW leaf p.muts.length fun i=>AV.str (p.muts.getD i []))/\(RW leaf p.conds.length fun i=>AV.str (p.conds.getD i []))/\(RW ze p.funs.length fun i=>encF (p.funs.getD i c0f))/\(RW ze p.thr.length fun i=>encS (p.thr.getD i c0s))/\True)/\((39:Nat)=(39:TypeId)/\RR leaf/\RI 0)/\((150:Nat)=(150:TypeId)/\RR ze/\RI 0/\RI 0/\True)/\True):=by kernel_rfl
section
variable (p:PProg)
def qry:Int:=z2d (PProg.mk [] [] [] (dFs (fun i=>encF (p.funs.getD i c0f)) p.funs.length) [])
end
theorem eC1 (p:PProg):gC1 p=(KN 169 [rowF p.funs,AV.clo (170:Nat) []] (AV.int j6 (qry p))/\True/\(RR (AV.ptr 1 [])/\RR (AV.ptr 2 [])/\RR (AV.ptr 3 [])/\RR (AV.ptr 4 [])/\True)/\(RR (27:TypeId)/\RR za/\(RW ze p.vars.length fun i=>encV (p.vars.getD i c0v))/\(RW leaf p.muts.length fun i=>AV.str (p.muts.getD i []))/\(RW leaf p.conds.length fun i=>AV.str (p.conds.getD i []))/\(RW ze p.funs.length fun i=>encF (p.funs.getD i c0f))/\(RW ze p.thr.length fun i=>encS (p.thr.getD i c0s))/\True)/\(RR (39:TypeId)/\RR leaf/\RI 0)/\(RR (150:TypeId)/\RR ze/\RI 0/\RI 0/\True)/\((3:Nat)=(3:TypeId)/\RR leaf/\RR j6/\qry p=z2d p)/\True):=by kernel_rfl
section
variable (p:PProg)
def qrz:=AV.clo 221 [AV.rptr za (encP p)]
end
theorem eC2 (p:PProg):gC2 p=(KN 171 [AV.mc za (encP p)] (qrz p)/\True/\(RR (AV.ptr 1 [])/\RR (AV.ptr 2 [])/\RR (AV.ptr 3 [])/\RR (AV.ptr 4 [])/\RR (qrz p)/\True)/\(RR (27:TypeId)/\RR za/\(RW ze p.vars.length fun i=>encV (p.vars.getD i c0v))/\(RW leaf p.muts.length fun i=>AV.str (p.muts.getD i []))/\(RW leaf p.conds.length fun i=>AV.str (p.conds.getD i []))/\(RW ze p.funs.length fun i=>encF (p.funs.getD i c0f))/\(RW ze p.thr.length fun i=>encS (p.thr.getD i c0s))/\True)/\(RR (39:TypeId)/\RR leaf/\RI 0)/\(RR (150:TypeId)/\RR ze/\RI 0/\RI 0/\True)/\(RR (3:TypeId)/\RR leaf/\RI (z2d p))/\True):=by kernel_rfl
theorem eCa (p:PProg) (k i:Nat):gCa p k i=(True/\(RR (AV.rptr za (encP p))/\RR (AV.ptr 1099511627776 [])/\RR (AV.ptr 1099511627777 [])/\RR (AV.rptr leaf (AV.int j6 (z2d p)))/\RR (AV.ptr 5 [])/\RR (AV.ptr 6 [])/\True)/\(RR (39:TypeId)/\RR leaf/\RI 0)/\(RR (150:TypeId)/\RR ze/\RI 0/\RI 0/\True)/\((150:Nat)=(150:TypeId)/\RR ze/\RI ↑k/\RI ↑i/\True)/\((92:Nat)=(92:TypeId)/\RR zt/\RI (iO p k i).op/\RI (iO p k i).a/\RI (iO p k i).b/\RI (iO p k i).c/\RI (iO p k i).obj/\RI (iO p k i).n/\RI (iO p k i).fn/\RI (iO p k i).ord/\True)/\True):=by kernel_rfl
def qs0:=True/\(RR (39:TypeId)/\RR leaf/\RI 0)/\(RR (150:TypeId)/\RR ze/\RI 0/\RI 0/\True)/\True
section
variable (p:PProg) (k:Nat)
def qf6:Int:=(↑(p.funs.getD (↑k:Int).toNat c0f).code.length:Int)
variable (i:Nat)
def qf7:Int:=z2r (dP (encP p)) (dIn (encI (iO p k i))) (qf6 p k)
def qf8:Int:=z2r p (iO p k i) ↑(fO p k).code.length
def qs1:=qf7 p k i != 0
end
theorem eCb (p:PProg) (k i:Nat):gCb p k i=(((↑k == z2d p)=true->↑k=z2d p/\qs0)/\((↑k == z2d p)=false->inIx (↑k) p.funs.length/\qf6 p k<=9223372036854775807/\KN 172 [AV.mc za (encP p),AV.mc zt (encI (iO p k i)),AV.int j6 (qf6 p k)] (AV.int j6 (qf7 p k i))/\(qs1 p k i=true->(↑k≠z2d p/\qf8 p k i≠0)/\True/\(RR (39:TypeId)/\RR leaf/\RR j6/\qf7 p k i=qf8 p k i)/\(RR (150:TypeId)/\RR ze/\RI ↑k/\RI ↑i/\True)/\True)/\(qs1 p k i=false->(↑k≠z2d p/\qf8 p k i=0)/\qs0))):=by kernel_rfl
def qs2:=RR (AV.ptr 1099511627776 [])/\RR (AV.ptr 1099511627777 [])/\True
section
variable (p:PProg)
def qs3:=decide (0<=z2d p)
end
theorem eCr (p:PProg):gCr p=((qs3 p=true->True/\qs2/\(RR (39:TypeId)/\RR leaf/\RR j6/\4=(cRes p).fst)/\(RR (150:TypeId)/\RR ze/\(RR j6/\z2d p=(cRes p).snd)/\RI (-1)/\True)/\True)/\(qs3 p=false->True/\qs2/\(RR (39:TypeId)/\RR leaf/\RR j6/\0=(cRes p).fst)/\(RR (150:TypeId)/\RR ze/\(RR j6/\-1=(cRes p).snd)/\RI (-1)/\True)/\True)):=by kernel_rfl
theorem kC0 (p : PProg) : gC0 p := by
  rw [eC0]
  simp only [SB]
theorem zsl (l : List PFun) : dFs (fun i => encF (l.getD i c0f)) l.length = l := by
  unfold dFs
  apply List.ext_getElem (by simp)
  intro i h1 h2
  simp [zhf, List.getD_eq_getElem?_getD, List.getElem?_eq_getElem h2]
theorem znv (l : List PFun) (p : PProg) (h : p.funs = l) : z2d ⟨[], [], [], l, []⟩ = z2d p := by
  subst h
  have : ∀ n, lngR ⟨[], [], [], p.funs, []⟩ n = lngR p n := by
    intro n
    induction n with
    | zero => rfl
    | succ n ih => simp only [lngR, ih]
  exact this _
theorem kC1 (p : PProg) (hp : PSm p) : gC1 p := by
  rw [eC1]; try delta qry
  simp only [SB]
  rw [zsl, znv _ p rfl]
  exact ⟨z10f p hp, rfl⟩
theorem kC2 (p : PProg) : gC2 p := by
  rw [eC2]; try delta qrz
  simp only [SB]
  exact zsh p
theorem kCa (p : PProg) (k i : Nat) : gCa p k i := by
  rw [eCa]
  simp only [SB]
theorem kCb (p : PProg) (k i : Nat) (hp : PSm p) (hk : k < p.funs.length) (_ : i < (fO p k).code.length) : gCb p k i := by
  rw [eCb]; try delta qs0 qf6 qf7 qf8 qs1 RR RI
  have h1 : (p.funs.getD k c0f).code.length <= 1000000 := hp.code k
  simp only [SB, inIx]
  exact fun hne => ⟨hk, by omega, zvc p _ _ hp, fun h => ⟨hne, h⟩, fun h => ⟨hne, h⟩⟩
theorem kCr (p : PProg) (_ : PSm p) : gCr p := by
  rw [eCr]; try delta qs2 qs3
  simp only [SB]
  refine ⟨fun h => ?_, fun h => ?_⟩
  . unfold cRes; rw [if_pos h]; exact ⟨rfl, rfl⟩
  . unfold cRes; rw [if_neg h]; exact ⟨rfl, rfl⟩
end
end
end Go.Proofs.S25
namespace Go.Proofs.S25
open Go Go.AV
open Go.IntKind renaming i64 -> j6
open Go.AV.Shape (leaf)
noncomputable section
def PJ (p : PProg) (k i : Nat) : Prop := k <= p.funs.length /\ zr p = z78 p (p.funs.length - k) /\ (∀ k', k' < k -> (fO p k').code.length <= 64) /\ (k < p.funs.length -> i <= (fO p k).code.length /\ z6e p (fO p k) (fO p k).code.length = z6e p (fO p k) ((fO p k).code.length - i) /\ (0 < i -> (fO p k).code.length <= 64))
theorem PJ.zero (p : PProg) : PJ p 0 0 := ⟨by omega, by rw [Nat.sub_zero]; rfl, fun k' h => by omega, fun _ => ⟨by omega, by rw [Nat.sub_zero], fun h => by omega⟩⟩
theorem PJ.roll {p : PProg} {k : Nat} (h : PJ p k (fO p k).code.length) (hk : k < p.funs.length) : PJ p (k + 1) 0 := by
  obtain ⟨h1, h2, h3, h4⟩ := h
  obtain ⟨_, h5, h6⟩ := h4 hk
  have hs : (fO p k).code.length <= 64 := by
    rcases Nat.eq_zero_or_pos (fO p k).code.length with h | h
    . omega
    . exact h6 h
  have hc : z2j p (fO p k) = (0, -1) := by
    unfold z2j; rw [if_neg (by omega), h5, Nat.sub_self]; rfl
  refine ⟨hk, ?_, fun k' hk' => ?_, fun _ => ⟨by omega, by rw [Nat.sub_zero], fun h => by omega⟩⟩
  . rw [h2, z89 p k hk, show p.funs.getD k c0f = fO p k from rfl, hc]; rfl
  . by_cases e : k' = k
    . subst e; exact hs
    . exact h3 k' (by omega)
theorem z9v {p : PProg} : ∀ k, k <= p.funs.length -> (∀ k', k' < k -> (fO p k').code.length <= 64) -> z2d p = lngR p (p.funs.length - k)
  | 0, _, _ => by rw [Nat.sub_zero]; rfl
  | k + 1, hk, h => by
    rw [z9v k (by omega) fun k' hk' => h k' (by omega), zez p k (by omega), if_neg (by have h1 : (p.funs.getD k c0f).code.length <= 64 := h k (by omega); omega)]
theorem zpt {p : PProg} : ∀ m, m <= p.funs.length -> lngR p m = -1 ∨ ((p.funs.length - m : Nat) : Int) <= lngR p m
  | 0, _ => .inl rfl
  | m + 1, hm => by
    simp only [lngR]
    split
    . exact .inr (Int.le_refl _)
    . rcases zpt (p := p) m (by omega) with h | h
      . exact .inl h
      . exact .inr (by omega)
theorem PJ.short {p : PProg} {k i : Nat} (h : PJ p k i) (hk : k < p.funs.length) (hne : (k : Int) ≠ z2d p) : (fO p k).code.length <= 64 := by
  by_cases hl : 64 < (fO p k).code.length
  . exfalso
    apply hne
    rw [z9v k (by omega) h.2.2.1, zez p k hk, if_pos hl]
  . omega
theorem PJ.step {p : PProg} {k i : Nat} (h : PJ p k i) (hk : k < p.funs.length) (hi : i < (fO p k).code.length) (hne : (k : Int) ≠ z2d p) (hc : z2r p (iO p k i) (fO p k).code.length = 0) : PJ p k (i + 1) := by
  have hs := h.short hk hne
  obtain ⟨h1, h2, h3, h4⟩ := h
  obtain ⟨_, h5, _⟩ := h4 hk
  exact ⟨h1, h2, h3, fun _ => ⟨hi, by rw [h5, zey hi hc], fun _ => hs⟩⟩
theorem PJ.bad {p : PProg} {k i : Nat} (h : PJ p k i) (hk : k < p.funs.length) (hi : i < (fO p k).code.length) (hne : (k : Int) ≠ z2d p) (hc : z2r p (iO p k i) (fO p k).code.length ≠ 0) : zr p = (z2r p (iO p k i) (fO p k).code.length, (k : Int), (i : Int)) := by
  have hs := h.short hk hne
  obtain ⟨h1, h2, h3, h4⟩ := h
  obtain ⟨_, h5, _⟩ := h4 hk
  have e : z2j p (fO p k) = (z2r p (iO p k i) (fO p k).code.length, (i : Int)) := by
    unfold z2j; rw [if_neg (by omega), h5, z9u hi rfl hc]
  rw [h2, z89 p k hk, show p.funs.getD k c0f = fO p k from rfl, e, if_pos (by simpa using hc)]
theorem PJ.long {p : PProg} {k i : Nat} (h : PJ p k i) (hk : k < p.funs.length) (he : (k : Int) = z2d p) : zr p = ((cRes p).1, (cRes p).2, -1) := by
  obtain ⟨h1, h2, h3, h4⟩ := h
  have hl : 64 < (fO p k).code.length := by
    by_cases hl : 64 < (fO p k).code.length
    . exact hl
    exfalso
    have e := z9v k (by omega) h3
    rw [zez p k hk, if_neg hl] at e
    rcases zpt (p := p) (p.funs.length - (k + 1)) (by omega) with g | g <;> omega
  have e : z2j p (fO p k) = (4, -1) := by unfold z2j; rw [if_pos hl]
  rw [h2, z89 p k hk, show p.funs.getD k c0f = fO p k from rfl, e, if_pos (by decide)]
  unfold cRes
  rw [if_pos (by omega), <- he]
theorem PJ.done {p : PProg} (h : PJ p p.funs.length 0) : zr p = ((cRes p).1, (cRes p).2, -1) := by
  obtain ⟨h1, h2, h3, h4⟩ := h
  have e := z9v (p := p) p.funs.length (by omega) h3
  rw [Nat.sub_self] at e h2
  have e : z2d p = -1 := e
  unfold cRes
  rw [if_neg (by omega), h2]
  rfl
theorem lit1 {w : World} {F : Nat -> Prop} {φ : Nat -> AV.Place} {B : Nat -> Prop} {b : Nat} {e : Int} (h : z1i w F φ B b (eBox e)) : ∃ g, (φ b).blk = some g /\ B g /\ ¬ F g /\ w.heap[g]? = some (.cells #[.int .i64 e] 39 (0, 0)) := by
  obtain ⟨_, g, cs, h1, h2, h3, h4, h5, h6⟩ := h
  have e0 := (h6 0 (by decide)).int_inv
  refine ⟨g, h1, h2, h3, ?_⟩
  rw [h4]
  congr 2
  apply Array.ext
  . simpa [Shape.size] using h5
  . intro i hi _
    have : i = 0 := by simp [Shape.size] at h5; omega
    subst this
    have := e0.1
    rw [Array.getD_eq_getD_getElem?, Array.getElem?_eq_getElem hi, Option.getD_some] at this
    simpa using this
theorem lit2 {w : World} {F : Nat -> Prop} {φ : Nat -> AV.Place} {B : Nat -> Prop} {b : Nat} {x y : Int} (h : z1i w F φ B b (pBox x y)) : ∃ g, (φ b).blk = some g /\ B g /\ ¬ F g /\ w.heap[g]? = some (.cells #[.int .i64 x, .int .i64 y] 150 (0, 0)) := by
  obtain ⟨_, g, cs, h1, h2, h3, h4, h5, h6⟩ := h
  have e0 := (h6 0 (by decide)).int_inv
  have e1 := (h6 1 (by decide)).int_inv
  have h5 : cs.size = 2 := h5
  refine ⟨g, h1, h2, h3, ?_⟩
  rw [h4]
  congr 2
  apply Array.ext
  . simpa using h5
  . intro i hi _
    have e0 := e0.1
    have e1 := e1.1
    rw [Array.getD_eq_getD_getElem?, Array.getElem?_eq_getElem (by omega), Option.getD_some] at e0 e1
    match i, hi with
    | 0, _ => simpa using e0
    | 1, _ => simpa using e1
    | i + 2, hi => omega
theorem get_mem {α : Type} {s : Nat} {x : α} : ∀ {l : List (Nat × α)}, AV.get l s = some x -> (s, x) ∈ l
  | (k, y) :: l, h => by
    simp only [AV.get] at h
    split at h
    . rename_i hs
      cases h
      rw [Nat.eq_of_beq_eq_true hs]
      exact .head _
    . exact .tail _ (get_mem h)
theorem tC25 : z12 vC25.C := zn 39
theorem oC25 : CCOK vC25.C vC25.CC := z6w vC25.C (fun _ _ _ _ h => h.elim) (fun _ _ _ _ _ h => h.elim) (fun _ _ _ _ _ h => h.elim)
noncomputable abbrev zbb (fn : Nat) (tmps : Array Value) (D : Nat) (st : LoopState) (pe : Option Code) : Loop := { state := st, pending := pe, fn := fn, tmps := tmps, params := #[13, 14], assign := cAsg, body := zkx, defers := D }
structure CS (w2 : World) (g2 g3 : Nat) (W : World) : Prop where
  os : W.os = w2.os
  tape : W.tape = w2.tape
  output : W.output = w2.output
  size : w2.heap.size + 2 <= W.heap.size
  block : ∀ j, j < w2.heap.size -> j ≠ g2 -> j ≠ g3 -> W.heap[j]? = w2.heap[j]?
  dfr : W.heap[w2.heap.size]? = some (.deferred (some []))
def lit (g2 g3 : Nat) (e x y : Int) (W : World) : Prop := W.heap[g2]? = some (.cells #[.int .i64 e] 39 (0, 0)) /\ W.heap[g3]? = some (.cells #[.int .i64 x, .int .i64 y] 150 (0, 0))
structure CF (p : PProg) (a : Act) (w2 : World) (F : Nat -> Prop) (φ : Nat -> AV.Place) (g1 g2 g3 g4 : Nat) : Prop where
  t1 : ∃ v, a.tmps[1]? = some v /\ RepS w2 (fun j => F j ∨ j = g1 ∨ j = g4) v (.rptr za (encP p))
  t4 : ∃ v, a.tmps[4]? = some v /\ RepS w2 (fun j => F j ∨ j = g1 ∨ j = g4) v (.rptr .leaf (.int .i64 (z2d p)))
  t2 : a.tmps[2]? = some (.pointer (some ⟨g2, 0, none⟩))
  t3 : a.tmps[3]? = some (.pointer (some ⟨g3, 0, none⟩))
  b2 : (φ 2).blk = some g2 /\ (φ 2).sh = .leaf
  b3 : (φ 3).blk = some g3 /\ (φ 3).sh = ze
  l : lit g2 g3 0 0 0 w2
  ne : g2 ≠ g3
  n2 : ¬ (F g2 ∨ g2 = g1 ∨ g2 = g4)
  n3 : ¬ (F g3 ∨ g3 = g1 ∨ g3 = g4)
  ro : ∀ k, (F k ∨ k = g1 ∨ k = g4) -> k < w2.heap.size
  glob : ∀ g x, AV.get GG g = some x -> RepS w2 F (.pointer (some ⟨g, 0, none⟩)) x
  sz : a.tmps.size = 39
theorem litA {w : World} {F : Nat -> Prop} {φ : Nat -> AV.Place} {B : Nat -> Prop} {g2 : Nat} {b : Nat} {e : Int} (hb : (φ b).blk = some g2) (hs : (φ b).sh = .leaf) (hB : B g2) (hF : ¬ F g2) (he : InR .i64 e) (h : w.heap[g2]? = some (.cells #[.int .i64 e] 39 (0, 0))) : z1i w F φ B b (eBox e) := by
  refine ⟨hs, g2, _, hb, hB, hF, h, rfl, fun j hj => ?_⟩
  have : j = 0 := by have : j < 1 := hj; omega
  subst this
  exact .stat (.int _ _ he)
theorem litB {w : World} {F : Nat -> Prop} {φ : Nat -> AV.Place} {B : Nat -> Prop} {g3 : Nat} {b : Nat} {x y : Int} (hb : (φ b).blk = some g3) (hs : (φ b).sh = ze) (hB : B g3) (hF : ¬ F g3) (hx : InR .i64 x) (hy : InR .i64 y) (h : w.heap[g3]? = some (.cells #[.int .i64 x, .int .i64 y] 150 (0, 0))) : z1i w F φ B b (pBox x y) := by
  refine ⟨hs, g3, _, hb, hB, hF, h, rfl, fun j hj => ?_⟩
  have : j < 2 := hj
  match j, this with
  | 0, _ => exact .stat (.int _ _ hx)
  | 1, _ => exact .stat (.int _ _ hy)
def rL (g2 g3 : Nat) : Nat -> Prop := fun j => j = g2 ∨ j = g3
def rA (φ : Nat -> AV.Place) : Nat -> Option AV.Place := fun b => if b = bA2 then some (φ 2) else if b = bA3 then some (φ 3) else none
def rP (φ : Nat -> AV.Place) : Nat -> AV.Place := fun b => if b = bA2 then φ 2 else φ 3
theorem znw {p : PProg} {a a' : Act} {w2 W : World} {F : Nat -> Prop} {φ : Nat -> AV.Place} {g1 g2 g3 g4 : Nat} (h : CF p a w2 F φ g1 g2 g3 g4) (hW : CS w2 g2 g3 W) (hl : lit g2 g3 0 0 0 W) (hlt : ∀ s, s < 5 -> a'.tmps[s]? = a.tmps[s]?) (hsz : a'.tmps.size = 39) :
    Rel vC25.C ⟨W, rL g2 g3, rA φ, a'.defers⟩ (fun j => F j ∨ j = g1 ∨ j = g4) (crSt p) a' W (fun j => F j ∨ j = g1 ∨ j = g4) (rP φ) := by
  have hF : ∀ j, (F j ∨ j = g1 ∨ j = g4) -> W.heap[j]? = w2.heap[j]? := fun j hj => hW.block j (h.ro j hj) (fun e => h.n2 (e ▸ hj)) (fun e => h.n3 (e ▸ hj))
  refine ⟨fun s x hx => ?_, fun b c hc => ?_, fun b b' c c' g hb hb' e e' => ?_, fun j hj => ?_, Kept.refl _ _, fun _ h => h, fun _ h => .inl h, rfl, hsz, fun g x hg => (h.glob g x hg).keep (fun j hj => hF j (.inl hj)) fun _ h => .inl h, fun b q hq => ?_⟩
  . have := get_mem hx
    simp only [crSt, List.mem_cons, Prod.mk.injEq, List.not_mem_nil, or_false] at this
    rcases this with ⟨rfl, rfl⟩ | ⟨rfl, rfl⟩ | ⟨rfl, rfl⟩ | ⟨rfl, rfl⟩
    . obtain ⟨v, h1, h2⟩ := h.t1
      exact ⟨v, (hlt 1 (by decide)).trans h1, .stat (h2.keep hF fun _ h => h)⟩
    . exact ⟨_, (hlt 2 (by decide)).trans h.t2, Rep.ptr bA2 g2 [] (by simpa [rP] using h.b2.1) trivial⟩
    . exact ⟨_, (hlt 3 (by decide)).trans h.t3, Rep.ptr bA3 g3 [] (by simpa [rP] using h.b3.1) trivial⟩
    . obtain ⟨v, h1, h2⟩ := h.t4
      exact ⟨v, (hlt 4 (by decide)).trans h1, .stat (h2.keep hF fun _ h => h)⟩
  . have := get_mem hc
    simp only [crSt, List.mem_cons, Prod.mk.injEq, List.not_mem_nil, or_false] at this
    rcases this with ⟨rfl, rfl⟩ | ⟨rfl, rfl⟩
    . exact litA (by simpa [rP] using h.b2.1) (by simpa [rP] using h.b2.2) (.inr (.inl rfl)) h.n2 (zg (by omega) (by omega)) hl.1
    . exact litB (by simpa [rP] using h.b3.1) (by simpa [rP] using h.b3.2) (.inr (.inr rfl)) h.n3 (zg (by omega) (by omega)) (zg (by omega) (by omega)) hl.2
  . have m1 := get_mem hb
    have m2 := get_mem hb'
    simp only [crSt, List.mem_cons, Prod.mk.injEq, List.not_mem_nil, or_false] at m1 m2
    have n23 := h.ne
    rcases m1 with ⟨rfl, rfl⟩ | ⟨rfl, rfl⟩ <;> rcases m2 with ⟨rfl, rfl⟩ | ⟨rfl, rfl⟩
    . rfl
    . simp [rP, h.b2.1, h.b3.1] at e e'; omega
    . simp [rP, h.b2.1, h.b3.1] at e e'; omega
    . rfl
  . have := h.ro j hj; have := hW.size; omega
  . simp only [rA] at hq
    split at hq
    . rename_i hb
      cases hq
      subst hb
      exact ⟨by decide, by simp [rP], fun c hc => by
        have := get_mem hc
        simp only [crSt, List.mem_cons, Prod.mk.injEq, List.not_mem_nil, or_false] at this
        rcases this with ⟨_, rfl⟩ | ⟨h, _⟩
        . rfl
        . exact absurd h (by decide)⟩
    . split at hq
      . rename_i hb
        cases hq
        subst hb
        exact ⟨by decide, by simp [rP], fun c hc => by
          have := get_mem hc
          simp only [crSt, List.mem_cons, Prod.mk.injEq, List.not_mem_nil, or_false] at this
          rcases this with ⟨h, _⟩ | ⟨_, rfl⟩
          . exact absurd h (by decide)
          . rfl⟩
      . cases hq
theorem zky {p : PProg} {a : Act} {w2 W : World} {F : Nat -> Prop} {φ : Nat -> AV.Place} {g1 g2 g3 g4 k i : Nat} (h : CF p a w2 F φ g1 g2 g3 g4) (hW : CS w2 g2 g3 W) (hl : lit g2 g3 0 0 0 W) (hel : ElOK p k i) (hk : InR .i64 (k : Int)) (hi : InR .i64 (i : Int)) :
    Rel vC25.C ⟨W, rL g2 g3, rA φ, []⟩ (fun j => F j ∨ j = g1 ∨ j = g4) (r0St p k i) { tmps := (((#[13, 14] : Array Tmp).zip (elV p k i)).foldl (fun t (q, v) => t.setIfInBounds q v) a.tmps), defers := [] } W (fun j => F j ∨ j = g1 ∨ j = g4) (rP φ) := by
  have hF : ∀ j, (F j ∨ j = g1 ∨ j = g4) -> W.heap[j]? = w2.heap[j]? := fun j hj => hW.block j (h.ro j hj) (fun e => h.n2 (e ▸ hj)) (fun e => h.n3 (e ▸ hj))
  have et : (((#[13, 14] : Array Tmp).zip (elV p k i)).foldl (fun t (q, v) => t.setIfInBounds q v) a.tmps) = (a.tmps.setIfInBounds 13 (zbq (plL k i))).setIfInBounds 14 (zbq (inL (iO p k i))) := by
    rw [show (#[13, 14] : Array Tmp).zip (elV p k i) = #[(13, zbq (plL k i)), (14, zbq (inL (iO p k i)))] from by simp [elV]]
    simp
  rw [et]
  have hlt : ∀ s, s ≠ 13 -> s ≠ 14 -> ((a.tmps.setIfInBounds 13 (zbq (plL k i))).setIfInBounds 14 (zbq (inL (iO p k i))))[s]? = a.tmps[s]? := fun s h1 h2 => by
    rw [Array.getElem?_setIfInBounds_ne (Ne.symm h2), Array.getElem?_setIfInBounds_ne (Ne.symm h1)]
  refine ⟨fun s x hx => ?_, fun b c hc => ?_, fun b b' c c' g hb hb' e e' => ?_, fun j hj => ?_, Kept.refl _ _, fun _ h => h, fun _ h => .inl h, rfl, by simp [h.sz]; rfl, fun g x hg => (h.glob g x hg).keep (fun j hj => hF j (.inl hj)) fun _ h => .inl h, fun b q hq => ?_⟩
  . have := get_mem hx
    simp only [r0St, rEnv, List.cons_append, List.nil_append, List.mem_cons, Prod.mk.injEq, List.not_mem_nil, or_false] at this
    rcases this with ⟨rfl, rfl⟩ | ⟨rfl, rfl⟩ | ⟨rfl, rfl⟩ | ⟨rfl, rfl⟩ | ⟨rfl, rfl⟩ | ⟨rfl, rfl⟩
    . obtain ⟨v, h1, h2⟩ := h.t1
      exact ⟨v, (hlt 1 (by decide) (by decide)).trans h1, .stat (h2.keep hF fun _ h => h)⟩
    . exact ⟨_, (hlt 2 (by decide) (by decide)).trans h.t2, Rep.ptr bA2 g2 [] (by simpa [rP] using h.b2.1) trivial⟩
    . exact ⟨_, (hlt 3 (by decide) (by decide)).trans h.t3, Rep.ptr bA3 g3 [] (by simpa [rP] using h.b3.1) trivial⟩
    . obtain ⟨v, h1, h2⟩ := h.t4
      exact ⟨v, (hlt 4 (by decide) (by decide)).trans h1, .stat (h2.keep hF fun _ h => h)⟩
    . refine ⟨_, by rw [Array.getElem?_setIfInBounds_ne (by decide), Array.getElem?_setIfInBounds_self_of_lt (by rw [h.sz]; decide)], .stat (zhr (l := plL k i) fun j hj => ?_)⟩
      have : j < 2 := hj
      match j, this with
      | 0, _ => exact hk
      | 1, _ => exact hi
    . exact ⟨_, by rw [Array.getElem?_setIfInBounds_self_of_lt (by simp [h.sz])], .stat (zhr (l := inL (iO p k i)) hel)⟩
  . have := get_mem hc
    simp only [r0St, List.mem_cons, Prod.mk.injEq, List.not_mem_nil, or_false] at this
    rcases this with ⟨rfl, rfl⟩ | ⟨rfl, rfl⟩
    . exact litA (by simpa [rP] using h.b2.1) (by simpa [rP] using h.b2.2) (.inr (.inl rfl)) h.n2 (zg (by omega) (by omega)) hl.1
    . exact litB (by simpa [rP] using h.b3.1) (by simpa [rP] using h.b3.2) (.inr (.inr rfl)) h.n3 (zg (by omega) (by omega)) (zg (by omega) (by omega)) hl.2
  . have m1 := get_mem hb
    have m2 := get_mem hb'
    simp only [r0St, List.mem_cons, Prod.mk.injEq, List.not_mem_nil, or_false] at m1 m2
    have n23 := h.ne
    rcases m1 with ⟨rfl, rfl⟩ | ⟨rfl, rfl⟩ <;> rcases m2 with ⟨rfl, rfl⟩ | ⟨rfl, rfl⟩
    . rfl
    . simp [rP, h.b2.1, h.b3.1] at e e'; omega
    . simp [rP, h.b2.1, h.b3.1] at e e'; omega
    . rfl
  . have := h.ro j hj; have := hW.size; omega
  . simp only [rA] at hq
    split at hq
    . rename_i hb
      cases hq
      subst hb
      exact ⟨by decide, by simp [rP], fun c hc => by
        have := get_mem hc
        simp only [r0St, List.mem_cons, Prod.mk.injEq, List.not_mem_nil, or_false] at this
        rcases this with ⟨_, rfl⟩ | ⟨h, _⟩
        . rfl
        . exact absurd h (by decide)⟩
    . split at hq
      . rename_i hb
        cases hq
        subst hb
        exact ⟨by decide, by simp [rP], fun c hc => by
          have := get_mem hc
          simp only [r0St, List.mem_cons, Prod.mk.injEq, List.not_mem_nil, or_false] at this
          rcases this with ⟨h, _⟩ | ⟨_, rfl⟩
          . exact absurd h (by decide)
          . rfl⟩
      . cases hq
def cJ (p : PProg) (w2 : World) (g2 g3 fn : Nat) (tmps : Array Value) (k i : Nat) (W : World) : Prop := PJ p k i /\ CS w2 g2 g3 W /\ lit g2 g3 0 0 0 W /\ W.heap[w2.heap.size + 1]? = some (.loop (zbb fn tmps w2.heap.size .ready none))
def cJx (p : PProg) (w2 : World) (g2 g3 fn : Nat) (tmps : Array Value) (W : World) : Prop := CS w2 g2 g3 W /\
  ((zr p = ((cRes p).1, (cRes p).2, -1) /\ lit g2 g3 0 0 0 W /\ W.heap[w2.heap.size + 1]? = some (.loop (zbb fn tmps w2.heap.size .done (some (.exit 0))))) ∨
   ((lit g2 g3 (zr p).1 (zr p).2.1 (zr p).2.2 W /\ InR .i64 (zr p).1 /\ InR .i64 (zr p).2.1 /\ InR .i64 (zr p).2.2) /\ W.heap[w2.heap.size + 1]? = some (.loop (zbb fn tmps w2.heap.size .done (some .ret)))))
theorem zvk {w : World} {F : Nat -> Prop} {φ : Nat -> AV.Place} {B : Nat -> Prop} {b : Nat} {e : Int} (h : z1i w F φ B b (eBox e)) : InR .i64 e := by
  obtain ⟨_, g, cs, h1, h2, h3, h4, h5, h6⟩ := h
  exact (h6 0 (by decide)).int_inv.2
theorem zvl {w : World} {F : Nat -> Prop} {φ : Nat -> AV.Place} {B : Nat -> Prop} {b : Nat} {x y : Int} (h : z1i w F φ B b (pBox x y)) : InR .i64 x /\ InR .i64 y := by
  obtain ⟨_, g, cs, h1, h2, h3, h4, h5, h6⟩ := h
  exact ⟨(h6 0 (by decide)).int_inv.2, (h6 1 (by decide)).int_inv.2⟩
theorem z8z {p : PProg} {a a3 : Act} {w2 W W3 : World} {F F3 : Nat -> Prop} {φ φ3 : Nat -> AV.Place} {g1 g2 g3 g4 : Nat} {e x y : Int} {o : Obj} (h : CF p a w2 F φ g1 g2 g3 g4) (hW : CS w2 g2 g3 W) (hl : w2.heap.size + 1 < W.heap.size)
    (hR : Rel vC25.C ⟨W.putObj (w2.heap.size + 1) o, rL g2 g3, rA φ, []⟩ (fun j => F j ∨ j = g1 ∨ j = g4) (rBx e x y) a3 W3 F3 φ3) (o' : Obj) :
    W3.heap[w2.heap.size + 1]? = some o /\ CS w2 g2 g3 (W3.putObj (w2.heap.size + 1) o') /\ lit g2 g3 e x y (W3.putObj (w2.heap.size + 1) o') /\ (∀ j, j < W.heap.size -> j ≠ g2 -> j ≠ g3 -> j ≠ w2.heap.size + 1 -> (W3.putObj (w2.heap.size + 1) o').heap[j]? = W.heap[j]?) /\ W.heap.size <= W3.heap.size := by
  have hg2 : g2 < w2.heap.size := (Array.getElem?_eq_some_iff.1 h.l.1).1
  have hg3 : g3 < w2.heap.size := (Array.getElem?_eq_some_iff.1 h.l.2).1
  obtain ⟨k1, k2, k3, k4, k5⟩ := hR.base
  simp only [World.putObj_size] at k4 k5
  have hb : ∀ j, j < W.heap.size -> j ≠ g2 -> j ≠ g3 -> W3.heap[j]? = (W.putObj (w2.heap.size + 1) o).heap[j]? := fun j hj h2 h3 => k5 j hj (by rintro (h | h); exact h2 h; exact h3 h)
  have hl3 : W3.heap[w2.heap.size + 1]? = some o := (hb _ hl (by omega) (by omega)).trans (World.putObj_heap_same hl)
  have hoth : ∀ j, j < W.heap.size -> j ≠ g2 -> j ≠ g3 -> j ≠ w2.heap.size + 1 -> (W3.putObj (w2.heap.size + 1) o').heap[j]? = W.heap[j]? := fun j hj h2 h3 h4 =>
    (World.putObj_heap_other h4).trans ((hb j hj h2 h3).trans (World.putObj_heap_other h4))
  refine ⟨hl3, ⟨k1.trans hW.os, k2.trans hW.tape, k3.trans hW.output, by rw [World.putObj_size]; have := hW.size; omega, fun j hj h2 h3 => (hoth j (by have := hW.size; omega) h2 h3 (by omega)).trans (hW.block j hj h2 h3), (hoth _ (by have := hW.size; omega) (by omega) (by omega) (by omega)).trans hW.dfr⟩, ?_, hoth, k4⟩
  have a2 : φ3 bA2 = φ 2 := (hR.anc bA2 (φ 2) (by simp [rA])).2.1
  have a3 : φ3 bA3 = φ 3 := (hR.anc bA3 (φ 3) (by simp [rA])).2.1
  obtain ⟨q2, e2, _, _, f2⟩ := lit1 (hR.heap bA2 _ rfl)
  obtain ⟨q3, e3, _, _, f3⟩ := lit2 (hR.heap bA3 _ rfl)
  rw [a2, h.b2.1] at e2
  rw [a3, h.b3.1] at e3
  cases e2
  cases e3
  exact ⟨(World.putObj_heap_other (by omega)).trans f2, (World.putObj_heap_other (by omega)).trans f3⟩
theorem zkz {p : PProg} (hp : PSm p) {a : Act} {w2 W : World} {F : Nat -> Prop} {φ : Nat -> AV.Place} {g1 g2 g3 g4 k i n fn : Nat} (h : CF p a w2 F φ g1 g2 g3 g4) (hk : k < p.funs.length) (hi : i < (fO p k).code.length) (hel : ElOK p k i) (hJ : cJ p w2 g2 g3 fn a.tmps k i W) :
    YieldAt (FR none) n Tryz.prog (w2.heap.size + 1) (elV p k i) W (zgk p w2.heap.size (cJ p w2 g2 g3 fn a.tmps) (cJx p w2 g2 g3 fn a.tmps) k i W) := by
  obtain ⟨hpj, hW, hlit, hrec⟩ := hJ
  have hlt : w2.heap.size + 1 < W.heap.size := by have := hW.size; omega
  have hg2 : g2 < w2.heap.size := (Array.getElem?_eq_some_iff.1 h.l.1).1
  have hg3 : g3 < w2.heap.size := (Array.getElem?_eq_some_iff.1 h.l.2).1
  have hkR : InR .i64 (k : Int) := by have := hp.funs; exact zg (by omega) (by omega)
  have hiR : InR .i64 (i : Int) := by have : (fO p k).code.length <= 1000000 := hp.code k; exact zg (by omega) (by omega)
  refine ⟨_, _, _, _, run_yield (args := elV p k i) hrec rfl, roundIn_of_wpIn trivial ?_⟩
  have hR := zky h hW hlit hel hkR hiR
  have hs39 : ∀ {a' : Act}, a'.tmps.size = 39 -> a'.tmps[39]? = none := fun h => by simp [h]
  refine wpIn_mono (z2v (V := vC25) (ro := some (w2.heap.size + 1)) (s := 39) (u := none) tC25 oC25 cAsg (r0St p k i) _ _ W _ _ (by kernel_rfl) (hs39 hR.tsz) z5h (kCa p k i) hR) ?_
  rintro e a1 W1 ⟨⟨st1, F1, φ1, hR1, hq⟩, hu⟩
  cases e <;> try exact hq.elim
  obtain ⟨φ1', hR1⟩ := hR1.weaken hq.2
  have hk1 := hR1.base
  have hrec1 : W1.heap[w2.heap.size + 1]? = some (.loop (zbb fn a.tmps w2.heap.size .ready none)) := (hk1.block _ hlt (by rintro (h | h) <;> omega)).trans hrec
  refine ⟨_, run_beginRound hrec1 rfl, ?_⟩
  have hR2 := hR1.putObj (l := w2.heap.size + 1) (.loop { zbb fn a.tmps w2.heap.size .ready none with state := .busy }) hlt (by rintro (h | h) <;> omega) (fun hf => by have := h.ro _ hf; omega)
  refine wpIn_mono (z2v (V := vC25) (ro := some (w2.heap.size + 1)) (s := 39) (u := none) tC25 oC25 zkx (r1St p k i) _ _ _ _ _ (by kernel_rfl) hu z5h (kCb p k i hp hk hi) hR2) ?_
  rintro e a3 W3 ⟨⟨st3, F3, φ3, hR3, hq⟩, _⟩
  cases e <;> try exact hq.elim
  case normal =>
    obtain ⟨⟨hne, hc⟩, hle⟩ := hq
    obtain ⟨φ4, hR4⟩ := hR3.weaken hle
    obtain ⟨hl3, hcs, hlit3, hoth, hsz⟩ := z8z h hW hlt hR4 (.loop (zbb fn a.tmps w2.heap.size .ready none))
    refine ⟨_, _, run_endRound none hl3, .inl ⟨rfl, ⟨by rw [World.putObj_size]; exact hsz, fun j hj h1 h2 => ?_⟩, hpj.step hk hi hne hc, hcs, hlit3, World.putObj_heap_same (by omega)⟩⟩
    by_cases e2 : j = g2
    . subst e2; exact hlit3.1.trans hlit.1.symm
    . by_cases e3 : j = g3
      . subst e3; exact hlit3.2.trans hlit.2.symm
      . exact hoth j hj e2 e3 h2
  case exit id =>
    simp only [pcQ] at hq
    split at hq
    case h_2 => exact hq.elim
    rename_i hid
    obtain ⟨hlong, hle⟩ := hq
    obtain rfl : id = 0 := Nat.eq_of_beq_eq_true hid
    obtain ⟨φ4, hR4⟩ := hR3.weaken hle
    obtain ⟨hl3, hcs, hlit3, hoth, hsz⟩ := z8z h hW hlt hR4 (.loop (zbb fn a.tmps w2.heap.size .done (some (.exit 0))))
    exact ⟨_, _, run_endRound (some (.exit 0)) hl3, .inr ⟨rfl, hcs, .inl ⟨hpj.long hk hlong, hlit3, World.putObj_heap_same (by omega)⟩⟩⟩
  case ret =>
    obtain ⟨⟨hne, hc⟩, hle⟩ := hq
    obtain ⟨φ4, hR4⟩ := hR3.weaken hle
    obtain ⟨hl3, hcs, hlit3, hoth, hsz⟩ := z8z h hW hlt hR4 (.loop (zbb fn a.tmps w2.heap.size .done (some .ret)))
    refine ⟨_, _, run_endRound (some .ret) hl3, .inr ⟨rfl, hcs, .inr ⟨?_, World.putObj_heap_same (by omega)⟩⟩⟩
    rw [hpj.bad hk hi hne hc]
    exact ⟨hlit3, zvk (hR4.heap bA2 _ rfl), zvl (hR4.heap bA3 _ rfl)⟩
theorem zsm : Tryz.f109.body = some ((cReg 0).seq ((cReg 1).seq (((cReg 2).seq (.block 0 (.rangeFunc (.tmp 12) #[13, 14] cAsg zkx))).seq zsk))) := by kernel_rfl
theorem zf1 {w : World} {F F' : Nat -> Prop} {φ : Nat -> AV.Place} {B : Nat -> Prop} {b : Nat} {t : TypeId} {sh : Shape} {x : AV} (h : z1i w F φ B b (.cell t sh x)) (hx : x.isStat = true) {g : Nat} (hg : (φ b).blk = some g) (hF : ∀ k, F k -> F' k) (hg' : F' g) : RepS w F' (.pointer (some ⟨g, 0, none⟩)) (.rptr sh x) := by
  obtain ⟨_, g', cs, h1, h2, h3, h4, h5, h6⟩ := h
  rw [hg] at h1
  cases h1
  refine .rptr g 0 sh x (fun j => cs.getD j undef) hg' (fun j hj => ?_) fun j hj => ((h6 j hj).toS (z1w sh x j hx)).keep (fun _ _ => rfl) hF
  simp only [World.cell?, h4, Nat.zero_add]
  simp [Array.getD_eq_getD_getElem?, show j < cs.size from by omega]
theorem z10g {p : PProg} {E : Entry} {a : Act} {w2 : World} {F0 F : Nat -> Prop} {φ : Nat -> AV.Place} (hR : Rel vC25.C E F0 (c2St p) a w2 F φ) : ∃ g1 g2 g3 g4, CF p a w2 F φ g1 g2 g3 g4 := by
  have blk : ∀ b c, AV.get (c2St p).heap b = some c -> c.isRow = false -> ∃ g, (φ b).blk = some g /\ g < w2.heap.size /\ ¬ F g := by
    intro b c hc hrow
    have := hR.heap b c hc
    cases c with
    | cell t sh x =>
      obtain ⟨_, g, cs, h1, h2, h3, h4, _⟩ := this
      exact ⟨g, h1, (Array.getElem?_eq_some_iff.1 h4).1, h3⟩
    | row => cases hrow
  obtain ⟨g1, p1, l1, n1⟩ := blk 1 _ rfl rfl
  obtain ⟨g4, p4, l4, n4⟩ := blk 4 _ rfl rfl
  obtain ⟨g2, p2, _, n2, q2⟩ := lit1 (hR.heap 2 _ rfl)
  obtain ⟨g3, p3, _, n3, q3⟩ := lit2 (hR.heap 3 _ rfl)
  have ne : ∀ b b' c c' g g', AV.get (c2St p).heap b = some c -> AV.get (c2St p).heap b' = some c' -> (φ b).blk = some g -> (φ b').blk = some g' -> b ≠ b' -> g ≠ g' := fun b b' c c' g g' h1 h2 h3 h4 hne e => hne (hR.inj b b' c c' g h1 h2 h3 (by rw [e]; exact h4))
  have ptr : ∀ s b g, AV.get (c2St p).env s = some (.ptr b []) -> (φ b).blk = some g -> a.tmps[s]? = some (.pointer (some ⟨g, 0, none⟩)) := by
    intro s b g hs hb
    obtain ⟨v, h1, h2⟩ := hR.env s _ hs
    rw [h1]
    cases h2 with
    | stat h => cases h
    | ptr _ g' _ hb' _ => rw [hb] at hb'; cases hb'; rfl
  refine ⟨g1, g2, g3, g4, ⟨⟨_, ptr 1 1 g1 rfl p1, zf1 (hR.heap 1 _ rfl) rfl p1 (fun _ h => .inl h) (.inr (.inl rfl))⟩, ⟨_, ptr 4 4 g4 rfl p4, zf1 (hR.heap 4 _ rfl) rfl p4 (fun _ h => .inl h) (.inr (.inr rfl))⟩, ptr 2 2 g2 rfl p2, ptr 3 3 g3 rfl p3, ⟨p2, (hR.heap 2 _ rfl).1⟩, ⟨p3, (hR.heap 3 _ rfl).1⟩, ⟨q2, q3⟩, ne 2 3 _ _ _ _ rfl rfl p2 p3 (by decide), ?_, ?_, ?_, hR.glob, hR.tsz⟩⟩
  . rintro (h | h | h)
    . exact n2 h
    . exact ne 2 1 _ _ _ _ rfl rfl p2 p1 (by decide) h
    . exact ne 2 4 _ _ _ _ rfl rfl p2 p4 (by decide) h
  . rintro (h | h | h)
    . exact n3 h
    . exact ne 3 1 _ _ _ _ rfl rfl p3 p1 (by decide) h
    . exact ne 3 4 _ _ _ _ rfl rfl p3 p4 (by decide) h
  . rintro k (h | rfl | rfl)
    . exact hR.ro k h
    . exact l1
    . exact l4
theorem znx {p : PProg} (hp : PSm p) {E : Entry} {a : Act} {w2 : World} {F0 F : Nat -> Prop} {φ : Nat -> AV.Place} {n : Nat} (hR : Rel vC25.C E F0 (c2St p) a w2 F φ) {g1 g2 g3 g4 : Nat} (h : CF p a w2 F φ g1 g2 g3 g4) {Q : Exit -> Act -> World -> Prop}
    (hN : ∀ W, CS w2 g2 g3 W -> lit g2 g3 0 0 0 W -> zr p = ((cRes p).1, (cRes p).2, -1) -> Q .normal { a with defers := { target := .collected w2.heap.size, args := #[] } :: a.defers } W)
    (hX : ∀ W, CS w2 g2 g3 W -> lit g2 g3 (zr p).1 (zr p).2.1 (zr p).2.2 W -> (InR .i64 (zr p).1 /\ InR .i64 (zr p).2.1 /\ InR .i64 (zr p).2.2) -> Q .ret { a with defers := { target := .collected w2.heap.size, args := #[] } :: a.defers } W) :
    (Code.block 0 (.rangeFunc (.tmp 12) #[13, 14] cAsg zkx)).wpIn (FR none) n Tryz.prog Q a w2 := by
  refine wpIn_block (wpIn_rangeFunc ?_)
  intro fn _
  obtain ⟨W1, hW1⟩ : ∃ W1, (w2.alloc (.deferred (some []))).alloc (.loop (zbb fn a.tmps w2.heap.size .ready none)) = W1 := ⟨_, rfl⟩
  have hg2 : g2 < w2.heap.size := (Array.getElem?_eq_some_iff.1 h.l.1).1
  have hg3 : g3 < w2.heap.size := (Array.getElem?_eq_some_iff.1 h.l.2).1
  have hsz : W1.heap.size = w2.heap.size + 2 := by rw [<- hW1]; simp
  have hL1 : W1.heap[w2.heap.size + 1]? = some (.loop (zbb fn a.tmps w2.heap.size .ready none)) := by
    rw [<- hW1]; have := World.alloc_heap_new (w2.alloc (.deferred (some []))) (.loop (zbb fn a.tmps w2.heap.size .ready none)); rwa [World.size_alloc] at this
  have hK1 : W1.heap[w2.heap.size]? = some (.deferred (some [])) := by
    rw [<- hW1]; exact (RowKit.Below.heap_alloc _ _ _ (by simp)).trans (World.alloc_heap_new w2 _)
  have hold : ∀ j, j < w2.heap.size -> W1.heap[j]? = w2.heap[j]? := fun j hj => by
    rw [<- hW1]; exact (RowKit.Below.heap_alloc _ _ _ (by simp; omega)).trans (RowKit.Below.heap_alloc _ _ _ hj)
  have hCS : CS w2 g2 g3 W1 := ⟨by rw [<- hW1]; rfl, by rw [<- hW1]; rfl, by rw [<- hW1]; rfl, by omega, fun j hj _ _ => hold j hj, hK1⟩
  obtain ⟨v, hv1, hv2⟩ := hR.statEnv (s := 12) (x := .clo 221 [.rptr za (encP p)]) rfl rfl
  cases hv2 with
  | clo _ cv _ hcs hcr =>
    have hcv := hcr 0 (by simp)
    obtain ⟨c0, rfl⟩ : ∃ c0, cv = #[c0] := by
      match cv, hcs with
      | ⟨[c]⟩, _ => exact ⟨c, rfl⟩
    have hev : a.eval (.tmp 12) = .func (.func 221) #[] #[c0] := by
      show a.tmps.getD 12 undef = _
      rw [Array.getD_eq_getD_getElem?, hv1]; rfl
    refine ⟨w2.heap.size + 1, [{ target := .collected w2.heap.size, args := #[] }], W1, { target := .fn (.func 221) #[c0], args := #[.func (.yield (w2.heap.size + 1)) #[] #[]] }, W1, 221,
      #[.func (.yield (w2.heap.size + 1)) #[] #[]] ++ #[c0], W1, ?_, ?_, fun _ _ => trivial, ?_, fun he => by simp [FR, Fence.wide] at he, ?_⟩
    . rw [<- hW1]; exact run_enterLoop_outer _ _ _ _ _
    . simp only [resolve, hev]
      simp [go_sem]
    . simp only [invoke]
      exact z1d.of Tryz.func221 (by kernel_rfl) (by kernel_rfl) _ _
    have hit := zj8 (n := n - 1) (l := w2.heap.size + 1) (D := w2.heap.size) (Wi := W1) (F := F) (cv := c0) hp (by omega) (hcv.keep (fun j hj => hold j (hR.ro j hj)) fun _ h => h) (fun k hk => by have := hR.ro k hk; omega) (fun k hk => by have := hR.ro k hk; omega) (fun g x hg => (hR.glob g x hg).keep (fun j hj => hold j (hR.ro j hj)) fun _ h => h)
      (J := cJ p w2 g2 g3 fn a.tmps) (Jx := cJx p w2 g2 g3 fn a.tmps) ?_ ?_ ?_ ?_ ⟨.zero p, hCS, ⟨(hold g2 hg2).trans h.l.1, (hold g3 hg3).trans h.l.2⟩, hL1⟩
    rotate_left
    . rintro k i W W' ⟨hj, hc, hlit, hl⟩ hb
      have hlt : w2.heap.size + 1 < W.heap.size := (Array.getElem?_eq_some_iff.1 hl).1
      refine ⟨hj, ⟨hb.os.trans hc.os, hb.tape.trans hc.tape, hb.output.trans hc.output, Nat.le_trans hc.size hb.size, fun j hj h1 h2 => (hb.block j (by omega)).trans (hc.block j hj h1 h2), (hb.block _ (by omega)).trans hc.dfr⟩, ⟨(hb.block _ (by omega)).trans hlit.1, (hb.block _ (by omega)).trans hlit.2⟩, (hb.block _ hlt).trans hl⟩
    . rintro k i W ⟨_, hc, _⟩
      have := hc.size; omega
    . rintro k W hk ⟨hj, hc⟩
      exact ⟨hj.roll hk, hc⟩
    . intro k i W hk hi hel hj
      exact zkz hp h hk hi hel hj
    refine hit.mono ?_
    rintro e W ⟨⟨v, rfl⟩, hj⟩
    have out : ∀ {W : World} (o : Obj), CS w2 g2 g3 W -> CS w2 g2 g3 (W.putObj (w2.heap.size + 1) o) := fun o hc =>
      ⟨hc.os, hc.tape, hc.output, by rw [World.putObj_size]; exact hc.size, fun j hj h1 h2 => (World.putObj_heap_other (by omega)).trans (hc.block j hj h1 h2), (World.putObj_heap_other (by omega)).trans hc.dfr⟩
    have outl : ∀ {W : World} {e x y : Int} (o : Obj), lit g2 g3 e x y W -> lit g2 g3 e x y (W.putObj (w2.heap.size + 1) o) := fun o hc =>
      ⟨(World.putObj_heap_other (by omega)).trans hc.1, (World.putObj_heap_other (by omega)).trans hc.2⟩
    rcases hj with ⟨hj, hc, hlit, hl⟩ | ⟨hc, ⟨hj, hlit, hl⟩ | ⟨⟨hlit, hin⟩, hl⟩⟩
    . exact ⟨none, _, run_endLoop hl (by simp), hN _ (out _ hc) (outl _ hlit) hj.done⟩
    . exact ⟨some (.exit 0), _, run_endLoop hl (by simp), wpIn_exit (hN _ (out _ hc) (outl _ hlit) hj)⟩
    . exact ⟨some .ret, _, run_endLoop hl (by simp), wpIn_ret (hX _ (out _ hc) (outl _ hlit) hin)⟩
theorem zl0 {p : PProg} {w w2 W : World} {a a' : Act} {F0 F : Nat -> Prop} {φ : Nat -> AV.Place} {g1 g2 g3 g4 n : Nat} {e x y : Int} (h : CF p a w2 F φ g1 g2 g3 g4) (hb : RowKit.Below w.heap.size w w2) (_ : ∀ k, F0 k -> F k) (hF0 : ∀ k, F0 k -> k < w.heap.size) (hg2 : w.heap.size <= g2) (hg3 : w.heap.size <= g3) (hW : CS w2 g2 g3 W) (hl : lit g2 g3 e x y W) (he : InR .i64 e) (hx : InR .i64 x) (hy : InR .i64 y)
    (t2 : a'.tmps[2]? = some (.pointer (some ⟨g2, 0, none⟩))) (t3 : a'.tmps[3]? = some (.pointer (some ⟨g3, 0, none⟩))) (hs : a'.tmps.size = 39) (hd : a'.defers = [{ target := .collected w2.heap.size, args := #[] }]) :
    bodyPostM (FR none) n Tryz.prog Tryz.f109 (fun en w' => ∃ v F', en = .returned v /\ RowKit.Below w.heap.size w w' /\ (∀ k, F0 k -> F' k) /\ (∀ k, F' k -> F0 k ∨ w.heap.size <= k) /\ (∀ k, F' k -> k < w'.heap.size) /\ RepR w' F' v (.tup [.int .i64 e, vPl x y])) .ret a' W := by
  have lt2 : g2 < w2.heap.size := (Array.getElem?_eq_some_iff.1 h.l.1).1
  have lt3 : g3 < w2.heap.size := (Array.getElem?_eq_some_iff.1 h.l.2).1
  have hK : ∀ k, F k -> (W.putObj w2.heap.size (.deferred none)).heap[k]? = w2.heap[k]? := fun k hk => by
    have hr := h.ro k (.inl hk)
    exact (World.putObj_heap_other (by omega)).trans (hW.block k hr (fun e => h.n2 (.inl (e ▸ hk))) (fun e => h.n3 (.inl (e ▸ hk))))
  have hR : Rel vC25.C ⟨W.putObj w2.heap.size (.deferred none), rL g2 g3, fun _ => none, a'.defers⟩ F (fiSt e x y) a' (W.putObj w2.heap.size (.deferred none)) F φ := by
    refine ⟨fun s z hz => ?_, fun b c hc => ?_, fun b b' c c' g hc hc' e1 e2 => ?_, fun j hj => ?_, Kept.refl _ _, fun _ h => h, fun _ h => .inl h, rfl, hs, fun g z hg => (h.glob g z hg).keep hK fun _ h => h, fun b q hq => by cases hq⟩
    . have := get_mem hz
      simp only [fiSt, List.mem_cons, Prod.mk.injEq, List.not_mem_nil, or_false] at this
      rcases this with ⟨rfl, rfl⟩ | ⟨rfl, rfl⟩
      . exact ⟨_, t2, Rep.ptr 2 g2 [] h.b2.1 trivial⟩
      . exact ⟨_, t3, Rep.ptr 3 g3 [] h.b3.1 trivial⟩
    . have := get_mem hc
      simp only [fiSt, List.mem_cons, Prod.mk.injEq, List.not_mem_nil, or_false] at this
      rcases this with ⟨rfl, rfl⟩ | ⟨rfl, rfl⟩
      . exact litA h.b2.1 h.b2.2 (.inr (.inl rfl)) (fun hf => h.n2 (.inl hf)) he ((World.putObj_heap_other (by omega)).trans hl.1)
      . exact litB h.b3.1 h.b3.2 (.inr (.inr rfl)) (fun hf => h.n3 (.inl hf)) hx hy ((World.putObj_heap_other (by omega)).trans hl.2)
    . have m1 := get_mem hc
      have m2 := get_mem hc'
      simp only [fiSt, List.mem_cons, Prod.mk.injEq, List.not_mem_nil, or_false] at m1 m2
      have n23 := h.ne
      rcases m1 with ⟨rfl, rfl⟩ | ⟨rfl, rfl⟩ <;> rcases m2 with ⟨rfl, rfl⟩ | ⟨rfl, rfl⟩
      . rfl
      . rw [h.b2.1] at e1; rw [h.b3.1] at e2; cases e1; cases e2; exact absurd rfl n23
      . rw [h.b3.1] at e1; rw [h.b2.1] at e2; cases e1; cases e2; exact absurd rfl n23
      . rfl
    . have := h.ro j (.inl hj); have := hW.size; rw [World.putObj_size]; omega
  have hres : zbo vC25.C (fiSt e x y) Tryz.f109.results.toList = some [.int .i64 e, vPl x y] := by kernel_rfl
  obtain ⟨us, h1, h2, h3⟩ := z4s hR tC25 _ _ hres
  have hrr := z5f h1
  show LeavesInM _ _ _ _ _ _ a'.defers .returning W
  rw [hd]
  refine ⟨by simp, .inl ⟨_, _, rfl, run_takeDeferred hW.dfr, ?_⟩⟩
  refine ⟨_, hrr, _, F0, rfl, ⟨?_, ?_, ?_, ?_, ?_⟩, fun _ h => h, fun _ h => .inl h, fun k hk => ?_, ?_⟩
  . exact hW.os.trans hb.os
  . exact hW.tape.trans hb.tape
  . exact hW.output.trans hb.output
  . rw [World.putObj_size]; have := hW.size; have := hb.size; omega
  . intro k hk
    have := hb.size
    exact (World.putObj_heap_other (by omega)).trans ((hW.block k (by omega) (by omega) (by omega)).trans (hb.block k hk))
  . have := hF0 k hk; have := hW.size; have := hb.size; rw [World.putObj_size]; omega
  . match us, (h2 : us.length = 2) with
    | [u0, u1], _ =>
      have r0 := (h3 0 (by simp)).toS rfl
      have r1 := (h3 1 (by simp)).toS rfl
      refine ⟨#[u0, u1], rfl, rfl, fun j hj => ?_⟩
      have : j < 2 := hj
      match j, this with
      | 0, _ => exact z6r rfl r0
      | 1, _ => exact z6r rfl r1
theorem zny (p : PProg) (hp : PSm p) : Known Tryz.prog GG 109 [vP p] (.tup [.int .i64 (zr p).1, vPl (zr p).2.1 (zr p).2.2]) := by
  refine .inl ⟨z1d.of Tryz.func109 (by kernel_rfl) (by kernel_rfl), ?_⟩
  intro w F vs hro hglob hsz hr
  refine (callsIn_wide (n := 9)).1 (callsIn_of_wp_marks Tryz.func109 zsm trivial ?_)
  have hnt : Tryz.f109.ntmps = 39 := by kernel_rfl
  have start : Rel vC25.C (.of w) F ⟨z69 0 [vP p], []⟩ { tmps := vs ++ Array.replicate (Tryz.f109.ntmps - vs.size) undef, defers := [] } w F (fun _ => ⟨none, 0, .leaf, 0⟩) :=
    Rel.start (C := vC25.C) hnt (by show 1 <= 39; decide) hro hglob hsz hr
  have hs39 : ∀ {a' : Act}, a'.tmps.size = 39 -> a'.tmps[39]? = none := fun h => by simp [h]
  show Code.wpIn (FR none) 9 _ _ _ _ _
  refine wpIn_seq (wpIn_mono (z2v (V := vC25) (ro := none) (s := 39) (u := none) tC25 oC25 (cReg 0) ⟨[(0, vP p)], []⟩ (pcQ (pN (c0St p)) none none) _ _ _ _ (by kernel_rfl) (hs39 start.tsz) z5h (kC0 p) start) ?_)
  rintro e a1 w1 ⟨⟨st1, F1, φ1, hR1, hq⟩, hu⟩
  cases e <;> try exact hq.elim
  obtain ⟨φ1, hR1⟩ := hR1.weaken hq.2
  refine wpIn_seq (wpIn_mono (z2v (V := vC25) (ro := none) (s := 39) (u := none) tC25 oC25 (cReg 1) (c0St p) (pcQ (pN (c1St p)) none none) _ _ _ _ (by kernel_rfl) hu z5h (kC1 p hp) hR1) ?_)
  rintro e a1 w1 ⟨⟨st1, F1, φ1, hR1, hq⟩, hu⟩
  cases e <;> try exact hq.elim
  obtain ⟨φ1, hR1⟩ := hR1.weaken hq.2
  refine wpIn_seq (wpIn_seq (wpIn_mono (z2v (V := vC25) (ro := none) (s := 39) (u := none) tC25 oC25 (cReg 2) (c1St p) (pcQ (pN (c2St p)) none none) _ _ _ _ (by kernel_rfl) hu z5h (kC2 p) hR1) ?_))
  clear hR1 hu
  rintro e a2 w2 ⟨⟨st1, F2, φ2, hR2, hq⟩, hu⟩
  cases e <;> try exact hq.elim
  obtain ⟨φ2, hR2⟩ := hR2.weaken hq.2
  obtain ⟨g1, g2, g3, g4, hcf⟩ := z10g hR2
  have hb := hR2.base.toBelow
  have hnew : ∀ b g, (∃ c, AV.get (c2St p).heap b = some c /\ c.isRow = false) -> (φ2 b).blk = some g -> w.heap.size <= g := by
    rintro b g ⟨c, hc, _⟩ hg
    exact ((hR2.heap b c hc).lt hg).2.2.resolve_right fun h => h
  have n2 := hnew 2 g2 ⟨_, rfl, rfl⟩ hcf.b2.1
  have n3 := hnew 3 g3 ⟨_, rfl, rfl⟩ hcf.b3.1
  have hd2 : a2.defers = [] := hR2.dfr
  refine znx hp hR2 hcf ?_ ?_
  . intro W hW hlit hchk
    -- the rest
    have lt2 : g2 < w2.heap.size := (Array.getElem?_eq_some_iff.1 hcf.l.1).1
    have lt3 : g3 < w2.heap.size := (Array.getElem?_eq_some_iff.1 hcf.l.2).1
    have hR := znw (a' := { a2 with defers := { target := .collected w2.heap.size, args := #[] } :: a2.defers }) hcf hW hlit (fun _ _ => rfl) hcf.sz
    refine wpIn_mono (z2v (V := vC25) (ro := none) (s := 39) (u := none) tC25 oC25 zsk (crSt p) (pcQ none none (some (True, ceSt (cRes p).1 (cRes p).2 (-1)))) _ _ _ _ (by kernel_rfl) (hs39 hcf.sz) z5h (kCr p hp) hR) ?_
    rintro e a3 W3 ⟨⟨st3, F3, φ3, hR3, hq⟩, _⟩
    cases e <;> try exact hq.elim
    obtain ⟨φ4, hR4⟩ := hR3.weaken hq.2
    obtain ⟨k1, k2, k3, k4, k5⟩ := hR4.base
    have k5 : ∀ j, j < W.heap.size -> ¬ rL g2 g3 j -> W3.heap[j]? = W.heap[j]? := k5
    have k4 : W.heap.size <= W3.heap.size := k4
    have e2 : φ4 bA2 = φ2 2 := (hR4.anc bA2 (φ2 2) (by simp [rA])).2.1
    have e3 : φ4 bA3 = φ2 3 := (hR4.anc bA3 (φ2 3) (by simp [rA])).2.1
    obtain ⟨q2, f2, _, _, m2⟩ := lit1 (hR4.heap bA2 _ rfl)
    obtain ⟨q3, f3, _, _, m3⟩ := lit2 (hR4.heap bA3 _ rfl)
    have r2 := zvk (hR4.heap bA2 _ rfl)
    have r3 := zvl (hR4.heap bA3 _ rfl)
    rw [e2, hcf.b2.1] at f2
    rw [e3, hcf.b3.1] at f3
    cases f2
    cases f3
    have ptr : ∀ s b g, AV.get (ceSt (cRes p).1 (cRes p).2 (-1)).env s = some (.ptr b []) -> (φ4 b).blk = some g -> a3.tmps[s]? = some (.pointer (some ⟨g, 0, none⟩)) := by
      intro s b g hs hb
      obtain ⟨v, h1, h2⟩ := hR4.env s _ hs
      rw [h1]
      cases h2 with
      | stat h => cases h
      | ptr _ g' _ hb' _ => rw [hb] at hb'; cases hb'; rfl
    have hCS : CS w2 g2 g3 W3 := ⟨k1.trans hW.os, k2.trans hW.tape, k3.trans hW.output, Nat.le_trans hW.size k4, fun j hj h1 h2 => (k5 j (by have := hW.size; omega) (by rintro (h | h); exact h1 h; exact h2 h)).trans (hW.block j hj h1 h2), (k5 _ (by have := hW.size; omega) (by rintro (h | h) <;> omega)).trans hW.dfr⟩
    rw [hchk]
    exact zl0 hcf hb hR2.sub hro n2 n3 hCS ⟨m2, m3⟩ r2 r3.1 r3.2 (ptr 2 bA2 g2 rfl (by rw [e2]; exact hcf.b2.1)) (ptr 3 bA3 g3 rfl (by rw [e3]; exact hcf.b3.1)) hR4.tsz (by rw [hR4.dfr, hd2])
  . intro W hW hlit hin
    exact zl0 hcf hb hR2.sub hro n2 n3 hW hlit hin.1 hin.2.1 hin.2.2 hcf.t2 hcf.t3 hcf.sz (by rw [hd2])
noncomputable def zl1 (p : PProg) : Prop := fnVc (vP25 40 fun _ => none) Tryz.f51 [vP p] (.tup [.int .i64 (zb p).1, .int .i64 (zb p).2.1, .int .i64 (zb p).2.2])
noncomputable def zl2 (p : PProg) : Prop := fnVc (vP25 14 fun _ => none) Tryz.f111 [vP p] (.bool ((zb p).1 == 0))
end
end Go.Proofs.S25
namespace Go.Proofs.S25
open Go Go.AV
open Go.IntKind renaming i64 -> j6
open Go.AV.Shape (leaf)
noncomputable section
open Go.IntKind renaming i64 -> j6
open Go.AV.Shape (leaf)
noncomputable section
def qs4:List AV:=[AV.mc ze (AV.agg [AV.int j6 (-1),AV.int j6 (-1)])]
section
variable (p:PProg)
def qf9:=(RR j6/\-1=(zb p).snd.fst)/\(RR j6/\-1=(zb p).snd.snd)/\True
def qs5:=z1o (dP (encP p)) != 0
def qae:=(RR j6/\0=(zb p).fst)/\qf9 p
def qfa:=KN 110 [AV.mc za (encP p)] (AV.tup (AV.int j6 (z1o (dP (encP p)))::qs4))/\(qs5 p=true->(RR j6/\z1o (dP (encP p))=(zb p).fst)/\qf9 p)/\(qs5 p=false->qae p)
def qs6:=(zr (dP (encP p))).fst == 0
def qs7:=(zr (dP (encP p))).fst != 0
def qs8:=KN 109 [AV.mc za (encP p)] (AV.tup [AV.int j6 (zr (dP (encP p))).fst,AV.mc ze (AV.agg [AV.int j6 (zr (dP (encP p))).snd.fst,AV.int j6 (zr (dP (encP p))).snd.snd])])/\(qs6 p=true->qfa p)/\(qs6 p=false->(qs7 p=true->(RR j6/\(zr (dP (encP p))).fst=(zb p).fst)/\(RR j6/\(zr (dP (encP p))).snd.fst=(zb p).snd.fst)/\(RR j6/\(zr (dP (encP p))).snd.snd=(zb p).snd.snd)/\True)/\(qs7 p=false->qae p))
def qs9:=z1s (dP (encP p)) == 0
def qsa:=qs9 p=true
def qsb:=z1s (dP (encP p)) != 0
def qsc:=qs9 p=false
def qsd:=(z1q (dP (encP p))).fst == 0
def qfb:=qsd p=true
def qse:=(z1q (dP (encP p))).fst != 0
def qfc:=qsd p=false
end
theorem zsn (p:PProg):zl1 p=(KN 107 [AV.mc za (encP p)] (AV.tup [AV.int j6 (z1q (dP (encP p))).fst,AV.mc ze (AV.agg [AV.int j6 (z1q (dP (encP p))).snd.fst,AV.int j6 (z1q (dP (encP p))).snd.snd])])/\(qfb p->KN 108 [AV.mc za (encP p)] (AV.tup (AV.int j6 (z1s (dP (encP p)))::qs4))/\(qsa p->qs8 p)/\(qsc p->(qsa p->qfa p)/\(qsc p->(qsb p=true->(RR j6/\z1s (dP (encP p))=(zb p).fst)/\qf9 p)/\(qsb p=false->qae p))))/\(qfc p->(qfb p->qs8 p)/\(qfc p->(qfb p->qfa p)/\(qfc p->(qse p=true->(RR j6/\(z1q (dP (encP p))).fst=(zb p).fst)/\(RR j6/\(z1q (dP (encP p))).snd.fst=(zb p).snd.fst)/\(RR j6/\(z1q (dP (encP p))).snd.snd=(zb p).snd.snd)/\True)/\(qse p=false->qae p))))):=by kernel_rfl
theorem zbc (p : PProg) (hp : PSm p) : Known Tryz.prog GG 51 [vP p] (.tup [.int .i64 (zb p).1, .int .i64 (zb p).2.1, .int .i64 (zb p).2.2])  := by
  refine Known.of (V := vP25 40 fun _ => none) (fn := Tryz.f51) Tryz.func51 (by kernel_rfl) (zn _) rfl ?_
  show zl1 p
  rw [zsn]; try delta qs4 qf9 qs5 qae qfa qs6 qs7 qs8 qs9 qsa qsb qsc qsd qfb qse qfc
  simp only [SB]
  have k1 := kNm p hp
  have k2 := kObj p hp
  have k3 := zny p hp
  have k4 := kThr p hp
  simp only [vP, vPl] at k1 k2 k3 k4
  simp only [k1, k2, k3, k4, true_and]
  clear k1 k2 k3 k4
  by_cases n : (z1q p).1 = 0
  . by_cases o : z1s p = 0
    . by_cases c : (zr p).1 = 0
      . have e := cp7 n o c
        simp [n, o, c, e]
        exact fun h => h.symm
      . have e := cp6 n o c
        simp [n, o, c, e]
    . have e := cp5 n o
      simp [n, o, e]
  . have e : zb p = z1q p := by unfold zb; rw [if_pos (by simpa using n)]
    simp [n, e]
theorem zso (p:PProg):zl2 p=(KN 51 [AV.mc za (encP p)] (AV.tup [AV.int j6 (zb (dP (encP p))).fst,AV.int j6 (zb (dP (encP p))).snd.fst,AV.int j6 (zb (dP (encP p))).snd.snd])/\((zb (dP (encP p))).fst == 0)=((zb p).fst == 0)):=by kernel_rfl
theorem zl3 (p : PProg) (hp : PSm p) : Known Tryz.prog GG 111 [vP p] (.bool ((zb p).1 == 0))  := by
  refine Known.of (V := vP25 14 fun _ => none) (fn := Tryz.f111) Tryz.func111 (by kernel_rfl) (zn _) rfl ?_
  show zl2 p
  rw [zso]
  simp only [SB]
  exact zbc p hp
end
end
end Go.Proofs.S25
namespace Go.Proofs
open Go.Shelf
def Tryz.lays189_ren : Go.Shelf.Ren := ⟨fun | 189 => 250 | 125 => 256 | 257 => 255 | 128 => 266 | 129 => 267 | 294 => 257 | 295 => 258 | 296 => 259 | 297 => 260 | 298 => 261 | 299 => 262 | 216 => 263 | 300 => 264 | 301 => 265 | 328 => 268 | 329 => 269 | 330 => 270 | 331 => 271 | 332 => 272 | 215 => 273 | 343 => 274 | n => n, fun | 28 => 29 | 3 => 3 | 46 => 243 | 0 => 0 | 51 => 208 | 53 => 254 | 4 => 4 | 183 => 246 | 182 => 245 | 131 => 87 | 5 => 5 | 9 => 9 | 218 => 255 | 222 => 259 | 228 => 261 | 229 => 129 | n => n, fun | n => n⟩
theorem Tryz.lays189 : Go.Proofs.Lays.n189 Tryz.prog Tryz.lays189_ren := {
  mixed := by kernel_rfl
  f125 := Tryz.func256.trans (congrArg some (by kernel_rfl))
  f128 := Tryz.func266.trans (congrArg some (by kernel_rfl))
  f129 := Tryz.func267.trans (congrArg some (by kernel_rfl))
  f189 := Tryz.func250.trans (congrArg some (by kernel_rfl))
  f215 := Tryz.func273.trans (congrArg some (by kernel_rfl))
  f216 := Tryz.func263.trans (congrArg some (by kernel_rfl))
  f257 := Tryz.func255.trans (congrArg some (by kernel_rfl))
  f294 := Tryz.func257.trans (congrArg some (by kernel_rfl))
  f295 := Tryz.func258.trans (congrArg some (by kernel_rfl))
  f296 := Tryz.func259.trans (congrArg some (by kernel_rfl))
  f297 := Tryz.func260.trans (congrArg some (by kernel_rfl))
  f298 := Tryz.func261.trans (congrArg some (by kernel_rfl))
  f299 := Tryz.func262.trans (congrArg some (by kernel_rfl))
  f300 := Tryz.func264.trans (congrArg some (by kernel_rfl))
  f301 := Tryz.func265.trans (congrArg some (by kernel_rfl))
  f328 := Tryz.func268.trans (congrArg some (by kernel_rfl))
  f329 := Tryz.func269.trans (congrArg some (by kernel_rfl))
  f330 := Tryz.func270.trans (congrArg some (by kernel_rfl))
  f331 := Tryz.func271.trans (congrArg some (by kernel_rfl))
  f332 := Tryz.func272.trans (congrArg some (by kernel_rfl))
  f343 := Tryz.func274.trans (congrArg some (by kernel_rfl))
  t0 := Tryz.underlying0
  a0 := Tryz.isAgg0
  z0 := Tryz.sizeOf0
  v0 := Tryz.zeroValue0
  t3 := Tryz.underlying3
  a3 := Tryz.isAgg3
  z3 := Tryz.sizeOf3
  v3 := Tryz.zeroValue3
  t4 := Tryz.underlying4
  a4 := Tryz.isAgg4
  z4 := Tryz.sizeOf4
  v4 := Tryz.zeroValue4
  t5 := Tryz.underlying5
  a5 := Tryz.isAgg5
  z5 := Tryz.sizeOf5
  v5 := Tryz.zeroValue5
  t9 := Tryz.underlying9
  a9 := Tryz.isAgg9
  z9 := Tryz.sizeOf9
  v9 := Tryz.zeroValue9
  t28 := Tryz.underlying29
  a28 := Tryz.isAgg29
  z28 := Tryz.sizeOf29
  v28 := Tryz.zeroValue29
  t46 := Tryz.underlying243
  a46 := Tryz.isAgg243
  z46 := Tryz.sizeOf243
  v46 := Tryz.zeroValue243
  t51 := Tryz.underlying208
  a51 := Tryz.isAgg208
  z51 := Tryz.sizeOf208
  v51 := Tryz.zeroValue208
  t53 := Tryz.underlying254
  a53 := Tryz.isAgg254
  z53 := Tryz.sizeOf254
  v53 := Tryz.zeroValue254
  t131 := Tryz.underlying87
  a131 := Tryz.isAgg87
  z131 := Tryz.sizeOf87
  v131 := Tryz.zeroValue87
  t182 := Tryz.underlying245
  a182 := Tryz.isAgg245
  z182 := Tryz.sizeOf245
  v182 := Tryz.zeroValue245
  t183 := Tryz.underlying246
  a183 := Tryz.isAgg246
  z183 := Tryz.sizeOf246
  v183 := Tryz.zeroValue246
  t218 := Tryz.underlying255
  a218 := Tryz.isAgg255
  z218 := Tryz.sizeOf255
  v218 := Tryz.zeroValue255
  t222 := Tryz.underlying259
  a222 := Tryz.isAgg259
  z222 := Tryz.sizeOf259
  v222 := Tryz.zeroValue259
  t228 := Tryz.underlying261
  a228 := Tryz.isAgg261
  z228 := Tryz.sizeOf261
  v228 := Tryz.zeroValue261
  t229 := Tryz.underlying129
  a229 := Tryz.isAgg129
  z229 := Tryz.sizeOf129
  v229 := Tryz.zeroValue129 }
open Go.Sort Go.RowKit in
theorem Tryz.slices_Sort_int (blk off cap : Nat) (zs : List Int) (w : World) (hH : Holds (Value.int .i64) w blk off zs.toArray) (hblk : blk < w.heap.size) (hsz : zs.length < 4611686018427387904) :
    Calls Tryz.prog 250 #[.slice (some ⟨blk, off, none⟩) zs.length cap] w fun e w' =>
      e = .returned (.tuple #[]) /\ ∃ n os, w' = grow (putRow (Value.int .i64) (Sort.ahead w n) blk off (zs.mergeSort fun x y => decide (x <= y)).toArray) os := Any.slices_Sort_int Tryz.lays189 blk off cap zs w hH hblk hsz
def Tryz.laysNm215_ren : Go.Shelf.Ren := ⟨fun | 15 => 186 | n => n, fun | 22 => 29 | 3 => 3 | 4 => 4 | n => n, fun | n => n⟩
theorem Tryz.laysNm215 : Go.Proofs.Lays2.n15 Tryz.prog Tryz.laysNm215_ren := {
  mixed := by kernel_rfl
  f15 := Tryz.func186.trans (congrArg some (by kernel_rfl))
  t3 := Tryz.underlying3
  a3 := Tryz.isAgg3
  z3 := Tryz.sizeOf3
  v3 := Tryz.zeroValue3
  t4 := Tryz.underlying4
  a4 := Tryz.isAgg4
  z4 := Tryz.sizeOf4
  v4 := Tryz.zeroValue4
  t22 := Tryz.underlying29
  a22 := Tryz.isAgg29
  z22 := Tryz.sizeOf29
  v22 := Tryz.zeroValue29
  i3 := by kernel_rfl }
open Go.RowKit Go.Lib in
theorem Tryz.slices_Clone_int (b off n c : Nat) (zs : List Int) (w : World) (hz : n <= zs.length) (hbig : n * 8 <= 140737488355328) (hc : ∀ j, j < zs.length -> w.cell? ⟨b, off + j, none⟩ = some (.int .i64 (zs.getD j 0))) :
    Calls Tryz.prog 186 #[.slice (some ⟨b, off, none⟩) n c] w fun e w' => ∃ v', e = .returned v' /\ w'.ownsRow w.heap.size 3 1 v' n ((zs.take n).map (Value.int .i64)) /\ v' ≠ .slice none 0 0 /\ Below w.heap.size w w' := Any.slices_Clone_int Tryz.laysNm215 b off n c zs w hz hbig hc
open Go.RowKit Go.Lib in
theorem Tryz.slices_Clone_int_nil (n c : Nat) (w : World) :
    Calls Tryz.prog 186 #[.slice none n c] w fun e w' => e = .returned (.slice none 0 0) /\ w' = w := Any.slices_Clone_int_nil Tryz.laysNm215 n c w
open Go.RowKit Go.Lib in
theorem Tryz.slices_Clone_int_zero (a : Addr) (c : Nat) (w : World) :
    Calls Tryz.prog 186 #[.slice (some a) 0 c] w fun e w' => ∃ v', e = .returned v' /\ w'.ownsRow w.heap.size 3 1 v' 0 [] /\ v' ≠ .slice none 0 0 /\ Below w.heap.size w w' := Any.slices_Clone_int_zero Tryz.laysNm215 a c w
def Tryz.laysNm220_ren : Go.Shelf.Ren := ⟨fun | 20 => 251 | n => n, fun | 22 => 29 | 3 => 3 | 4 => 4 | 0 => 0 | n => n, fun | n => n⟩
theorem Tryz.laysNm220 : Go.Proofs.Lays2.n20 Tryz.prog Tryz.laysNm220_ren := {
  mixed := by kernel_rfl
  f20 := Tryz.func251.trans (congrArg some (by kernel_rfl))
  t0 := Tryz.underlying0
  a0 := Tryz.isAgg0
  z0 := Tryz.sizeOf0
  v0 := Tryz.zeroValue0
  t3 := Tryz.underlying3
  a3 := Tryz.isAgg3
  z3 := Tryz.sizeOf3
  v3 := Tryz.zeroValue3
  t4 := Tryz.underlying4
  a4 := Tryz.isAgg4
  z4 := Tryz.sizeOf4
  v4 := Tryz.zeroValue4
  t22 := Tryz.underlying29
  a22 := Tryz.isAgg29
  z22 := Tryz.sizeOf29
  v22 := Tryz.zeroValue29
  i3 := by kernel_rfl }
open Go.RowKit Go.Lib Go.Sort in
theorem Tryz.slices_Compact_int (blk off cap : Nat) (zs : List Int) (w : World) (hH : Holds (Value.int .i64) w blk off zs.toArray) (hsz : zs.length <= 9223372036854775807) (hcap : zs.length <= cap) :
    Calls Tryz.prog 251 #[.slice (some ⟨blk, off, none⟩) zs.length cap] w fun e w' => e = .returned (.slice (some ⟨blk, off, none⟩) (Lib.compact zs).length cap) /\ ∃ q, w' = putRow (Value.int .i64) (Sort.ahead w q) blk off (Lib.compact zs ++ List.replicate (zs.length - (Lib.compact zs).length) 0).toArray := Any.slices_Compact_int Tryz.laysNm220 blk off cap zs w hH hsz hcap
open Go.RowKit Go.Lib Go.Sort in
theorem Tryz.slices_Compact_int_empty (a : Option Addr) (cap : Nat) (w : World) :
    Calls Tryz.prog 251 #[.slice a 0 cap] w fun e w' => e = .returned (.slice a 0 cap) /\ w' = w := Any.slices_Compact_int_empty Tryz.laysNm220 a cap w
open Go.RowKit Go.Sort in
theorem Tryz.slices_Sort_int_none (p : Option Addr) (cap : Nat) (w : World) :
    Calls Tryz.prog 250 #[.slice p 0 cap] w fun e w' => e = .returned (.tuple #[]) /\ w' = w := Any.slices_Sort_int_none Tryz.lays189 p cap w
end Go.Proofs
