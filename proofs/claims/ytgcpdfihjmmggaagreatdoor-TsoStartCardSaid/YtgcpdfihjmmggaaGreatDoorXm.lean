import Derived.Test.YtgcpdfihjmmggaaGreatDoorXl
namespace Go.Proofs.S25
open Go Go.AV
open Go.IntKind renaming i64 -> j6
open Go.AV.Shape (leaf)
noncomputable section
noncomputable def gLet (c : Int) : Prop := fnVc (vN25 17 fun _ => none) Tryz.f245 [.int .u8 c] (.bool (letB c))
def zv0 (l : List UInt8) (k : Nat) : Option Inv := match Nat.beq k 4 with
  | true => some { ι := Nat, S := fun i => ⟨[(0, .str l), (19, .int .i64 l.length), (20, .int .i64 i)], []⟩, μ := fun i => l.length - i, ok := fun i => i <= l.length /\ ∀ j, j < i -> chB ((l.getD j 0).toNat : Int) = true }
  | false => none
noncomputable def gVN (l : List UInt8) : Prop := fnVc (vN25 47 (zv0 l)) Tryz.f219 [.str l] (.bool (z3q l))
def zpf (l : List UInt8) (k : Nat) : Option Inv := match Nat.beq k 4 with
  | true => some { ι := Nat, S := fun i => ⟨[(0, .str l), (3, .int .i64 i)], []⟩, μ := fun i => l.length - i, ok := fun i => i <= l.length /\ (0 < i -> letB ((l.getD 0 0).toNat : Int) = true) /\ ∀ j, j < i -> chB ((l.getD j 0).toNat : Int) = true }
  | false => none
noncomputable def gRVN (l : List UInt8) : Prop := fnVc (vN25 55 (zpf l)) Tryz.f206 [.str l] (.bool (z3q l))
def zpg (l : List (List UInt8)) (s : List UInt8) (k : Nat) : Option Inv := match Nat.beq k 2 with
  | true => some { ι := Nat, S := fun i => ⟨[(0, rowS l), (1, .str s), (7, .int .i64 l.length), (8, .int .i64 i)], []⟩, μ := fun i => l.length - i, ok := fun i => i <= l.length /\ idxS l s l.length = idxS l s (l.length - i) }
  | false => none
noncomputable def gIdx (l : List (List UInt8)) (s : List UInt8) : Prop := fnVc (vN25 19 (zpg l s)) Tryz.f246 [rowS l, .str s] (.int .i64 (idxS l s l.length))
noncomputable def zv1 (l : List (List UInt8)) (s : List UInt8) : Prop := fnVc (vN25 9 fun _ => none) Tryz.f220 [rowS l, .str s] (.bool (l.contains s))
def zhm (l : List (List UInt8)) (k : Nat) : Option Inv := match Nat.beq k 2 with
  | true => some { ι := Nat, S := fun i => ⟨[(0, rowS l), (6, rowS l), (7, .int .i64 l.length), (8, .int .i64 i)], []⟩, μ := fun i => l.length - i, ok := fun i => i <= l.length /\ zm l = z88 l (l.length - i) }
  | false => none
noncomputable def zph (l : List (List UInt8)) : Prop := fnVc (vN25 24 (zhm l)) Tryz.f166 [rowS l] (.tup [.int .i64 (zm l).1, .int .i64 (zm l).2])
def zew (l : List (List UInt8)) (k : Nat) : Option Inv := match Nat.beq k 2 with
  | true => some { ι := Nat, S := fun i => ⟨[(0, rowS l), (4, .int .i64 i)], []⟩, μ := fun i => l.length - i, ok := fun i => i <= l.length /\ zm l = z88 l (l.length - i) }
  | false => none
def zcg (l : List (List UInt8)) (k : Nat) : Option InvP := match Nat.beq k 7 with
  | true => some { π := Nat, I := fun i => { ι := Nat, S := fun j => ⟨[(0, rowS l), (4, .int .i64 i), (5, .int .i64 j)], []⟩, μ := fun j => i - j, ok := fun j => j <= i /\ ∀ k, k < j -> ¬ l.getD k [] = l.getD i [] } }
  | false => none
noncomputable def zkj (l : List (List UInt8)) : Prop := fnVc { vN25 34 (zew l) with invP := zcg l } Tryz.f142 [rowS l] (.tup [.int .i64 (if (zm l).1 = 0 then 0 else (zm l).2), .int .i64 (zm l).1])
def zpi (p : PProg) (k : Nat) : Option Inv := match Nat.beq k 3 with
  | true => some { ι := Nat, S := fun i => ⟨[(3, .own 17 i), (7, rowV p.vars), (8, .int .i64 p.vars.length), (9, .int .i64 i)], [(17, .row 9 .leaf i fun j => .str (p.vars.getD j c0v).name)]⟩, μ := fun i => p.vars.length - i, ok := fun i => i <= p.vars.length }
  | false => none
noncomputable def gVar (p : PProg) : Prop := fnVc (vN25 20 (zpi p)) Tryz.f165 [vP p] (rowS (p.vars.map (·.name)))
def zpj (p : PProg) (k : Nat) : Option Inv := match Nat.beq k 3 with
  | true => some { ι := Nat, S := fun i => ⟨[(3, .own 17 i), (7, rowF p.funs), (8, .int .i64 p.funs.length), (9, .int .i64 i)], [(17, .row 9 .leaf i fun j => .str (p.funs.getD j c0f).name)]⟩, μ := fun i => p.funs.length - i, ok := fun i => i <= p.funs.length }
  | false => none
noncomputable def gFun (p : PProg) : Prop := fnVc (vN25 20 (zpj p)) Tryz.f167 [vP p] (rowS (p.funs.map (·.name)))
def zhn (p : PProg) (k : Nat) : Option Inv := match Nat.beq k 3 with
  | true => some { ι := Nat, S := fun i => ⟨[(1, .ptr 1 []), (4, .own 23 i), (5, .nils), (6, .int .i64 i)], [(1, .cell 27 za (encP p)), (23, .row 9 .leaf i fun j => .str (p.vars.getD j c0v).name)]⟩, μ := fun i => p.vars.length - i, ok := fun i => i <= p.vars.length }
  | false => match Nat.beq k 7 with
    | true => some { ι := Nat, S := fun i => ⟨[(1, .ptr 1 []), (4, .own 23 p.vars.length), (5, .own 39 i), (7, .int .i64 i)], [(1, .cell 27 za (encP p)), (23, .row 9 .leaf p.vars.length fun j => .str (p.vars.getD j c0v).name), (39, .row 9 .leaf i fun j => .str (p.funs.getD j c0f).name)]⟩, μ := fun i => p.funs.length - i, ok := fun i => i <= p.funs.length }
    | false => none
noncomputable def zpk (p : PProg) : Prop := fnVc (vN25 42 (zhn p)) Tryz.f141 [vP p] (.tup [rowS (p.vars.map (·.name)), rowS (p.funs.map (·.name))])
end
end Go.Proofs.S25
namespace Go.Proofs.S25
open Go Go.AV
open Go.IntKind renaming i64 -> j6
open Go.AV.Shape (leaf)
noncomputable section
open Go.IntKind renaming i64 -> j6
open Go.AV.Shape (leaf)
noncomputable section
theorem z4v (l : List UInt8) : z3q l = true ↔ (1 <= l.length /\ l.length <= 16 /\ letB ((l.getD 0 0).toNat : Int) = true) /\ ∀ i, i < l.length -> chB ((l.getD i 0).toNat : Int) = true := by
  unfold z3q
  rw [Bool.and_eq_true, Bool.and_eq_true, Bool.and_eq_true, decide_eq_true_eq, decide_eq_true_eq, z1u l _ 0, and_assoc (a := 1 <= l.length)]
section
variable (c:Int)
def qop:=decide (97<=c)
def qoq:=qop c=true
def qor:=qoq c->qoq c
def qos:=qop c&&decide (c<=122)
def qot:=!qos c
def qdf:=qot c=true
def q9x:=qdf c->qdf c
def qdg:=decide (65<=c)
def qdh:=(qot c&&qdg c)=true
end
theorem eLet (c:Int):gLet c=(qor c/\qor c/\q9x c/\q9x c/\(qdh c->qdh c)/\q9x c/\(qdf c->qdg c=true->qdh c)/\q9x c/\(qos c||qdg c&&decide (c<=90))=letB c):=by kernel_rfl
theorem kLet (c : Int)  : Known Tryz.prog GG 245 [.int .u8 c] (.bool (letB c))  := by
  refine Known.of (V := vN25 17 fun _ => none) (fn := Tryz.f245) Tryz.func245 (by kernel_rfl) (zn _) rfl ?_
  show gLet c
  rw [eLet]; try delta qop qoq qor qos qot qdf q9x qdg qdh
  simp only [SB]
  rfl
section
variable (l:List UInt8)
def q34:=↑l.length<=(9223372036854775807:Int)
def qdi:=decide (↑l.length < (1:Int))
def q5y:=(!qdi l)=true
def q35:=q5y l->q5y l
def q5z:=qdi l||decide ((16:Int) < ↑l.length)
def q9y:=(!q5z l)=true
def q9z:=q9y l->q9y l
def qou:Int:=↑(l.getD (Int.toNat 0) 0).toNat
def qov:=letB (qou l)
def qow:=q5z l||!qov l
variable (x1:Nat)
def qdj:=x1<=l.length/\∀ j:Nat,j < x1->chB ↑(l.getD j 0).toNat=true
def qdk:Int:=(↑(l.getD (↑x1:Int).toNat 0).toNat:Int)
def qox:=letB (qdk l x1)
def qoy:=!qox l x1
def qdl:=qoy l x1=true
def qa0:=qdl l x1->qdl l x1
def qdm:=qoy l x1&&qdk l x1 != 95
def qa1:=qdm l x1=true
def q4c:=qa1 l x1->qa1 l x1
def qa2:=decide ((↑(l.getD (↑x1:Int).toNat 0).toNat:Int) < 48)
def q60:=!qa2 l x1
def qa3:=(qdm l x1&&q60 l x1)=true
def qdn:=qa3 l x1->qa3 l x1
def qoz:=qdm l x1&&(qa2 l x1||decide (57 < (↑(l.getD (↑x1:Int).toNat 0).toNat:Int)))
def q61:=decide ((↑x1:Int) < (↑l.length:Int))
end
theorem eVN (l:List UInt8):gVN l=(q34 l/\q35 l/\(q5y l->q34 l)/\q35 l/\q35 l/\q9z l/\(q9y l->inIx 0 l.length)/\q9z l/\(q9y l->KN 245 [AV.int IntKind.u8 (qou l)] (AV.bool (qov l)))/\q9z l/\q9z l/\(qow l=true->false=z3q l)/\(qow l=false->q34 l/\(∃ i,qdj l i/\(RR l/\RI ↑l.length/\(RR j6/\(0:Int)=↑i)/\True)/\True)/\∀ i:Nat,qdj l i->(q61 l i=true->inIx (↑i) l.length/\KN 245 [AV.int IntKind.u8 (qdk l i)] (AV.bool (qox l i))/\qa0 l i/\qa0 l i/\(qdl l i->inIx (↑i) l.length)/\qa0 l i/\qa0 l i/\q4c l i/\q4c l i/\(qa1 l i->inIx (↑i) l.length)/\q4c l i/\q4c l i/\qdn l i/\qdn l i/\(qa3 l i->inIx (↑i) l.length)/\qdn l i/\q4c l i/\(qa1 l i->q60 l i=true->qa3 l i)/\q4c l i/\(qoz l i=true->false=z3q l)/\(qoz l i=false->InR j6 (q8 i)/\(∃ j,qdj l j/\l.length - j < l.length - i/\(RR l/\RI ↑l.length/\(RR j6/\q8 i=↑j)/\True)/\True)))/\(q61 l i=false->true=z3q l))):=by kernel_rfl
theorem kVN (l : List UInt8) (hl : l.length <= 9223372036854775807) : Known Tryz.prog GG 219 [.str l] (.bool (z3q l))  := by
  refine Known.of (V := vN25 47 (zv0 l)) (fn := Tryz.f219) Tryz.func219 (by kernel_rfl) (zn _) rfl ?_
  show gVN l
  rw [eVN]; try delta q34 qdi q5y q35 q5z q9y q9z qou qov qow qdj qdk qox qoy qdl qa0 qdm qa1 q4c qa2 q60 qa3 qdn qoz q8 q61
  simp only [SB, inIx]
  refine ⟨by omega, fun _ => by omega, fun h => by omega, fun _ => kLet _, fun h => f_eq fun hv => ?_, fun h => ⟨by omega, ⟨0, ⟨by omega, fun j hj => absurd hj (by omega)⟩, rfl⟩, fun i hi => ⟨fun hlt => ⟨hlt, kLet _, fun _ => hlt, fun _ => hlt, fun _ => hlt, fun hb => f_eq fun hv => ?_, fun hg => ⟨zg (by omega) (by omega), i + 1, ⟨by omega, fun j hj => ?_⟩, by omega, by omega⟩⟩, fun hge => ?_⟩⟩⟩
  . have := ((z4v l).1 hv).1
    rcases h with h | h
    . omega
    . rw [this.2.2] at h; cases h
  . have := ((z4v l).1 hv).2 i hlt
    simp only [chB, hb.1.1, Bool.false_or, Bool.or_eq_true, Bool.and_eq_true, beq_iff_eq, decide_eq_true_eq] at this
    omega
  . by_cases e : j = i
    . subst e
      simp only [chB, Bool.or_eq_true, Bool.and_eq_true, beq_iff_eq, decide_eq_true_eq]
      rcases hg with hg | hg
      . exact .inl hg
      . exact .inr (by omega)
    . exact hi.2 j (by omega)
  . exact ((z4v l).2 ⟨⟨by omega, by omega, h.2⟩, fun j hj => hi.2 j (by omega)⟩).symm
theorem zgg (c : Int) : letB c = true ↔ (97 <= c /\ c <= 122 ∨ 65 <= c /\ c <= 90) := by simp [letB]
theorem zpl (c : Int) : chB c = true ↔ (97 <= c /\ c <= 122 ∨ 65 <= c /\ c <= 90) ∨ c = 95 ∨ (48 <= c /\ c <= 57) := by simp [chB, zgg, or_assoc]
section
variable (l:List UInt8) (x1:Nat)
def qdo:=x1<=l.length/\(0 < x1->letB ↑(l.getD 0 0).toNat=true)/\∀ j:Nat,j < x1->chB ↑(l.getD j 0).toNat=true
def qp0:=decide (97<=(↑(l.getD (↑x1:Int).toNat 0).toNat:Int))
def qp1:=qp0 l x1=true
def qp2:=qp1 l x1->qp1 l x1
def qp3:=qp0 l x1&&decide ((↑(l.getD (↑x1:Int).toNat 0).toNat:Int)<=122)
def qp4:=!qp3 l x1
def qdp:=qp4 l x1=true
def qa4:=qdp l x1->qdp l x1
def qdq:=decide (65<=(↑(l.getD (↑x1:Int).toNat 0).toNat:Int))
def qdr:=(qp4 l x1&&qdq l x1)=true
def qds:=!(qp3 l x1||qdq l x1&&decide ((↑(l.getD (↑x1:Int).toNat 0).toNat:Int)<=90))
def qdt:=qds l x1=true
def qa5:=qdt l x1->qdt l x1
variable (x0:Nat)
def qp5:=↑x0 == (0:Int)
def qp6:=!qp5 x0
def qp7:=qds l x1&&qp6 x1
def qa6:=qp7 l x1=true
def qdu:=qa6 l x1->qa6 l x1
def qdv:=(↑(l.getD (↑x1:Int).toNat 0).toNat:Int) != 95
def qp8:=qp7 l x1&&qdv l x1
def qa7:=qp8 l x1=true
def qdw:=qa7 l x1->qa7 l x1
def qdx:=(qp8 l x1&&q60 l x1)=true
def qp9:=qds l x1&&(qp5 x1||qdv l x1&&(qa2 l x1||decide (57 < (↑(l.getD (↑x1:Int).toNat 0).toNat:Int))))
end
theorem eRVN (l:List UInt8):gRVN l=(q34 l/\q35 l/\(q5y l->q34 l)/\q35 l/\q35 l/\(q5z l=true->false=z3q l)/\(q5z l=false->(∃ i,qdo l i/\(RR l/\(RR j6/\(0:Int)=↑i)/\True)/\True)/\∀ i:Nat,qdo l i->q34 l/\(q61 l i=true->inIx (↑i) l.length/\qp2 l i/\qp2 l i/\qa4 l i/\qa4 l i/\(qdr l i->qdr l i)/\qa4 l i/\(qdp l i->qdq l i=true->qdr l i)/\qa4 l i/\qa5 l i/\qa5 l i/\qdu l i/\qdu l i/\qdw l i/\qdw l i/\(qdx l i->qdx l i)/\qdw l i/\(qa7 l i->q60 l i=true->qdx l i)/\qdu l i/\(qa6 l i->qdv l i=true->qa7 l i)/\qa5 l i/\(qdt l i->qp6 i=true->qa6 l i)/\qa5 l i/\(qp9 l i=true->false=z3q l)/\(qp9 l i=false->InR j6 (q8 i)/\(∃ j,qdo l j/\l.length - j < l.length - i/\(RR l/\(RR j6/\q8 i=↑j)/\True)/\True)))/\(q61 l i=false->true=z3q l))):=by kernel_rfl
theorem kRVN (l : List UInt8) (hl : l.length <= 9223372036854775807) : Known Tryz.prog GG 206 [.str l] (.bool (z3q l))  := by
  refine Known.of (V := vN25 55 (zpf l)) (fn := Tryz.f206) Tryz.func206 (by kernel_rfl) (zn _) rfl ?_
  show gRVN l
  rw [eRVN]; try delta q34 qdi q5y q35 q5z qdo qp0 qp1 qp2 qp3 qp4 qdp qa4 qdq qdr qds qdt qa5 qp5 qp6 qp7 qa6 qdu qdv qp8 qa7 qdw qa2 q60 qdx qp9 q8 q61
  simp only [SB, inIx]
  refine ⟨by omega, fun _ => by omega, fun h => f_eq fun hv => ?_, fun h => ⟨⟨0, ⟨by omega, fun h => absurd h (by omega), fun j hj => absurd hj (by omega)⟩, rfl⟩, fun i hi => ⟨by omega, fun hlt => ⟨hlt, fun hb => f_eq fun hv => ?_, fun hg => ⟨zg (by omega) (by omega), i + 1, ⟨by omega, fun h0 => ?_, fun j hj => ?_⟩, by omega, by omega⟩⟩, fun hge => ?_⟩⟩⟩
  . have := ((z4v l).1 hv).1; omega
  . have h1 := (z4v l).1 hv
    have h2 := (zpl _).1 (h1.2 i hlt)
    by_cases h0 : i = 0
    . subst h0
      have h3 := (zgg _).1 h1.1.2.2
      omega
    . omega
  . by_cases e : i = 0
    . subst e
      exact (zgg _).2 (by omega)
    . exact hi.2.1 (by omega)
  . by_cases e : j = i
    . subst e
      exact (zpl _).2 (by omega)
    . exact hi.2.2 j (by omega)
  . exact ((z4v l).2 ⟨⟨by omega, by omega, hi.2.1 (by omega)⟩, fun j hj => hi.2.2 j (by omega)⟩).symm
theorem zpm (l : List (List UInt8)) (s : List UInt8) (i : Nat) (hi : i < l.length) : idxS l s (l.length - i) = if s = l.getD i [] then (i : Int) else idxS l s (l.length - (i + 1)) := by
  obtain ⟨k, hk⟩ : ∃ k, l.length - i = k + 1 := ⟨l.length - i - 1, by omega⟩
  rw [hk, idxS, show l.length - (k + 1) = i from by omega, show k = l.length - (i + 1) from by omega]
theorem zkk (l : List (List UInt8)) (s : List UInt8) : ∀ k, k <= l.length -> (decide (0 <= idxS l s k) = true ↔ ∃ i, l.length - k <= i /\ i < l.length /\ l.getD i [] = s)
  | 0, _ => by
    simp only [idxS]
    exact ⟨fun h => by simp at h, fun ⟨i, h1, h2, _⟩ => by omega⟩
  | k + 1, hk => by
    rw [idxS]
    split
    . rename_i e
      refine ⟨fun _ => ⟨l.length - (k + 1), by omega, by omega, e.symm⟩, fun _ => by simp⟩
    . rename_i e
      rw [zkk l s k (by omega)]
      refine ⟨fun ⟨i, h1, h2, h3⟩ => ⟨i, by omega, h2, h3⟩, fun ⟨i, h1, h2, h3⟩ => ⟨i, ?_, h2, h3⟩⟩
      by_cases hi : i = l.length - (k + 1)
      . subst hi; exact absurd h3.symm e
      . omega
theorem zho (l : List (List UInt8)) (s : List UInt8) : l.contains s = true ↔ ∃ i, i < l.length /\ l.getD i [] = s := by
  rw [List.contains_iff_mem]
  constructor
  . intro h
    obtain ⟨i, hi, e⟩ := List.mem_iff_getElem.1 h
    exact ⟨i, hi, by simp [hi, e]⟩
  . rintro ⟨i, hi, e⟩
    rw [<- e]
    have : l.getD i [] = l[i] := by simp [hi]
    rw [this]; exact List.getElem_mem hi
noncomputable def qdy (l : List (List UInt8)) (s : List UInt8) (x2 : Nat) : Prop := x2 <= l.length /\ idxS l s l.length = idxS l s (l.length - x2)
noncomputable def qpa (l : List (List UInt8)) : Prop := RW Shape.leaf l.length fun i => AV.str (l.getD i [])
noncomputable def qpb (l : List (List UInt8)) (s : List UInt8) (x2 : Nat) : Bool := s == l.getD (↑x2 : Int).toNat []
noncomputable def qpc (l : List (List UInt8)) (x1 : Nat) : Bool := decide ((↑x1 : Int) < (↑l.length : Int))
theorem eIdx (l:List (List UInt8)) (s:List UInt8):gIdx l s=(↑l.length<=(9223372036854775807:Int)/\(∃ i,qdy l s i/\(qpa l/\RR s/\RI ↑l.length/\(RR j6/\(0:Int)=↑i)/\True)/\True)/\∀ i:Nat,qdy l s i->(qpc l i=true->inIx (↑i) l.length/\(qpb l s i=true->RR j6/\↑i=idxS l s l.length)/\(qpb l s i=false->InR j6 (q8 i)/\(∃ j,qdy l s j/\l.length - j < l.length - i/\(qpa l/\RR s/\RI ↑l.length/\(RR j6/\q8 i=↑j)/\True)/\True)))/\(qpc l i=false->RR j6/\-1=idxS l s l.length)):=by kernel_rfl
theorem kIdx (l : List (List UInt8)) (s : List UInt8) (hl : l.length <= 1000000) : Known Tryz.prog GG 246 [rowS l, .str s] (.int .i64 (idxS l s l.length))  := by
  refine Known.of (V := vN25 19 (zpg l s)) (fn := Tryz.f246) Tryz.func246 (by kernel_rfl) (zn _) rfl ?_
  show gIdx l s
  rw [eIdx]; try delta qdy qpa qpb q8 qpc
  simp only [SB, inIx]
  refine ⟨by omega, ⟨0, ⟨by omega, by rw [Nat.sub_zero]⟩, rfl⟩, fun i hi => ⟨fun hlt => ⟨hlt, fun h => ?_, fun h => ⟨zg (by omega) (by omega), i + 1, ⟨by omega, ?_⟩, by omega, by omega⟩⟩, fun hge => ?_⟩⟩
  . rw [hi.2, zpm l s i hlt, if_pos h]
  . rw [hi.2, zpm l s i hlt, if_neg h]
  . rw [hi.2, show l.length - i = 0 from by omega]; rfl
theorem z102 (l:List (List UInt8)) (s:List UInt8):zv1 l s=(KN 246 [rowS l,AV.str s] (AV.int j6 (idxS (dR dStr (rowS l)) s (dR dStr (rowS l)).length))/\decide (0<=idxS (dR dStr (rowS l)) s (dR dStr (rowS l)).length)=l.contains s):=by kernel_rfl
theorem z103 (l : List (List UInt8)) (s : List UInt8) (hl : l.length <= 1000000) : Known Tryz.prog GG 220 [rowS l, .str s] (.bool (l.contains s))  := by
  refine Known.of (V := vN25 9 fun _ => none) (fn := Tryz.f220) Tryz.func220 (by kernel_rfl) (zn _) rfl ?_
  show zv1 l s
  rw [z102]
  simp only [SB]
  refine ⟨kIdx l s hl, ?_⟩
  have h1 := zkk l s l.length (Nat.le_refl _)
  have h2 := zho l s
  rw [Nat.sub_self] at h1
  rw [Bool.eq_iff_iff, h1, h2]
  exact ⟨fun ⟨i, _, h, h'⟩ => ⟨i, h, h'⟩, fun ⟨i, h, h'⟩ => ⟨i, by omega, h, h'⟩⟩
theorem zb7 {α : Type} (l : List α) (d : α) {i j : Nat} (h : j < i) : (l.take i).getD j d = l.getD j d := by
  rw [List.getD_eq_getElem?_getD, List.getElem?_take_of_lt h, List.getD_eq_getElem?_getD]
theorem znr {l : List (List UInt8)} {i : Nat} (h : i <= l.length) : dR dStr (.seq .leaf i fun j => .str (l.getD j [])) = l.take i := by
  simp only [dR, dStr]
  apply List.ext_getElem (by simp; omega)
  intro j h1 h2
  simp at h1
  simp [show j < l.length by omega]
theorem zv2 (l : List (List UInt8)) (s : List UInt8) (i : Nat) (hi : i <= l.length) (hl : l.length <= 1000000) : Known Tryz.prog GG 220 [.seq .leaf i fun j => .str (l.getD j []), .str s] (.bool ((l.take i).contains s)) :=
  (z103 (l.take i) s (by simp; omega)).weaken (args' := [.seq .leaf i fun j => .str (l.getD j []), .str s]) rfl
    ⟨⟨rfl, by simp; omega, fun j hj => by show AV.str _ = AV.str _; rw [zb7 l [] hj]⟩, rfl, trivial⟩
theorem z6x (l : List (List UInt8)) (i : Nat) (hi : i < l.length) : z88 l (l.length - i) = if z3q (l.getD i []) = false then (6, (i : Int)) else if (l.take i).contains (l.getD i []) then (7, (i : Int)) else z88 l (l.length - (i + 1)) := by
  obtain ⟨k, hk⟩ : ∃ k, l.length - i = k + 1 := ⟨l.length - i - 1, by omega⟩
  rw [hk, z88, show l.length - (k + 1) = i from by omega, show k = l.length - (i + 1) from by omega]
noncomputable def qdz (l : List (List UInt8)) (x1 : Nat) : Prop := x1 <= l.length /\ zm l = z88 l (l.length - x1)
noncomputable def qa8 (l : List (List UInt8)) : Prop := RW Shape.leaf l.length fun i => AV.str (l.getD i [])
noncomputable def qpd (l : List (List UInt8)) (x1 : Nat) : List AV := [AV.str (l.getD (↑x1 : Int).toNat [])]
noncomputable def qpe (l : List (List UInt8)) (x1 : Nat) : Prop := (RR IntKind.i64 /\ ↑x1 = (zm l).snd) /\ True
noncomputable def qpf (l : List (List UInt8)) (x1 : Nat) : Bool := !z3q (l.getD (↑x1 : Int).toNat [])
noncomputable def qpg (l : List (List UInt8)) (x1 : Nat) : AV := AV.seq Shape.leaf (↑x1 - (0 : Int)).toNat fun i => AV.str (l.getD (Int.toNat (0 : Int) + i) [])
noncomputable def qe0 (l : List (List UInt8)) (x1 : Nat) : Bool := (dR dStr (qpg l x1)).contains (l.getD (↑x1 : Int).toNat [])
noncomputable def qph (l : List (List UInt8)) (x1 : Nat) : Bool := decide ((↑x1 : Int) < (↑l.length : Int))
theorem zv3 (l:List (List UInt8)):zph l=(↑l.length<=(9223372036854775807:Int)/\(∃ i,qdz l i/\(qa8 l/\qa8 l/\RI ↑l.length/\(RR j6/\(0:Int)=↑i)/\True)/\True)/\∀ i:Nat,qdz l i->(qph l i=true->inIx (↑i) l.length/\KN 219 (qpd l i) (AV.bool (z3q (l.getD (↑i:Int).toNat [])))/\(qpf l i=true->(RR j6/\6=(zm l).fst)/\qpe l i)/\(qpf l i=false->((0:Int)<=(0:Int)/\(0:Int)<=↑i/\(↑i:Int)<=(↑l.length:Int))/\KN 220 (qpg l i::qpd l i) (AV.bool (qe0 l i))/\(qe0 l i=true->(RR j6/\7=(zm l).fst)/\qpe l i)/\(qe0 l i=false->InR j6 (q8 i)/\(∃ j,qdz l j/\l.length - j < l.length - i/\(qa8 l/\qa8 l/\RI ↑l.length/\(RR j6/\q8 i=↑j)/\True)/\True))))/\(qph l i=false->(RR j6/\0=(zm l).fst)/\(RR j6/\-1=(zm l).snd)/\True)):=by kernel_rfl
theorem zpn (l : List (List UInt8)) (hl : l.length <= 1000000) (hs : ∀ i, (l.getD i []).length <= 9223372036854775807) : Known Tryz.prog GG 166 [rowS l] (.tup [.int .i64 (zm l).1, .int .i64 (zm l).2])  := by
  refine Known.of (V := vN25 24 (zhm l)) (fn := Tryz.f166) Tryz.func166 (by kernel_rfl) (zn _) rfl ?_
  show zph l
  rw [zv3]; try delta qdz qa8 qpd qpe qpf qpg qe0 q8 qph
  simp only [SB, inIx]
  refine ⟨by omega, ⟨0, ⟨by omega, by rw [Nat.sub_zero]; rfl⟩, rfl⟩, fun i hi => ⟨fun hlt => ⟨hlt, kVN _ (hs i), fun h => ?_, fun h => ?_⟩, fun hge => ?_⟩⟩
  . rw [hi.2, z6x l i hlt, if_pos h]; exact ⟨rfl, rfl⟩
  . rw [znr hi.1]
    refine ⟨by omega, zv2 l _ i hi.1 hl, fun h2 => ?_, fun h2 => ⟨zg (by omega) (by omega), i + 1, ⟨by omega, ?_⟩, by omega, by omega⟩⟩
    . rw [hi.2, z6x l i hlt, if_neg (by rw [h]; simp), if_pos h2]; exact ⟨rfl, rfl⟩
    . rw [hi.2, z6x l i hlt, if_neg (by rw [h]; simp), if_neg (by rw [h2]; simp)]
  . rw [hi.2, show l.length - i = 0 from by omega]; exact ⟨rfl, rfl⟩
theorem zv4 (l : List (List UInt8)) (s : List UInt8) (i : Nat) (hi : i <= l.length) : (l.take i).contains s = true ↔ ∃ j, j < i /\ l.getD j [] = s := by
  rw [zho]
  constructor
  . rintro ⟨j, hj, e⟩
    have hj : j < i := by simp at hj; omega
    exact ⟨j, hj, by rw [<- zb7 l [] hj]; exact e⟩
  . rintro ⟨j, hj, e⟩
    exact ⟨j, by simp; omega, by rw [zb7 l [] hj]; exact e⟩
noncomputable def qe1 (l : List (List UInt8)) (x1 : Nat) : Prop := x1 <= l.length /\ zm l = z88 l (l.length - x1)
noncomputable def qa9 (l : List (List UInt8)) : Prop := RW Shape.leaf l.length fun i => AV.str (l.getD i [])
noncomputable def qpi (l : List (List UInt8)) : Int := if (zm l).fst = 0 then 0 else (zm l).snd
noncomputable def qpj (l : List (List UInt8)) (x1 : Nat) : Prop := RR IntKind.i64 /\ ↑x1 = qpi l
noncomputable def qpk (l : List (List UInt8)) (x1 : Nat) : Bool := !z3q (l.getD (↑x1 : Int).toNat [])
noncomputable def qe2 (l : List (List UInt8)) (x1 : Nat) (x2 : Nat) : Prop := x2 <= x1 /\ ∀ k : Nat, k < x2 -> ¬l.getD k [] = l.getD x1 []
noncomputable def qpl (l : List (List UInt8)) (x1 : Nat) (x2 : Nat) : Bool := l.getD (↑x2 : Int).toNat [] == l.getD (↑x1 : Int).toNat []
section
variable (x0:Nat) (x1:Nat)
def qpm:=decide ((↑x1:Int) < (↑x0:Int))
end
noncomputable def qpn (l : List (List UInt8)) (x1 : Nat) : Bool := decide ((↑x1 : Int) < (↑l.length : Int))
theorem zs7 (l:List (List UInt8)):zkj l=((∃ i,qe1 l i/\(qa9 l/\qc i)/\True)/\∀ i:Nat,qe1 l i->↑l.length<=(9223372036854775807:Int)/\(qpn l i=true->inIx (↑i) l.length/\KN 206 [AV.str (l.getD (↑i:Int).toNat [])] (AV.bool (z3q (l.getD (↑i:Int).toNat [])))/\(qpk l i=true->qpj l i/\(RR j6/\6=(zm l).fst)/\True)/\(qpk l i=false->∃ p,(∃ i_1,qe2 l p i_1/\(qa9 l/\(RR j6/\(↑i:Int)=(↑p:Int))/\qc i_1)/\True)/\∀ (i_1:Nat),qe2 l p i_1->(qpm p i_1=true->inIx (↑i_1:Int) l.length/\inIx (↑p:Int) l.length/\(qpl l p i_1=true->qpj l p/\(RR j6/\7=(zm l).fst)/\True)/\(qpl l p i_1=false->q9 i_1/\∃ j,qe2 l p j/\p - j < p - i_1/\(qa9 l/\RI (↑p:Int)/\qd i_1 j)/\True))/\(qpm p i_1=false->q9 p/\∃ j,qe1 l j/\l.length - j < l.length - i/\(qa9 l/\qd p j)/\True)))/\(qpn l i=false->(RR j6/\0=qpi l)/\(RR j6/\0=(zm l).fst)/\True)):=by kernel_rfl
theorem zdh (l : List (List UInt8)) (hl : l.length <= 1000000) (hs : ∀ i, (l.getD i []).length <= 9223372036854775807) : Known Tryz.prog GG 142 [rowS l] (.tup [.int .i64 (if (zm l).1 = 0 then 0 else (zm l).2), .int .i64 (zm l).1])  := by
  refine Known.of (V := { vN25 34 (zew l) with invP := zcg l }) (fn := Tryz.f142) Tryz.func142 (by kernel_rfl) (zn _) rfl ?_
  show zkj l
  rw [zs7]; try delta qe1 qa9 qc qpi qpj qpk qe2 qpl q8 q9 qd qpm qpn
  simp only [SB, inIx]
  refine ⟨⟨0, ⟨by omega, by rw [Nat.sub_zero]; rfl⟩, rfl⟩, fun i hi => ⟨by omega, fun hlt => ⟨hlt, kRVN _ (hs i), fun h => ?_, fun h => ⟨i, ⟨0, ⟨by omega, fun k hk => absurd hk (by omega)⟩, rfl, rfl⟩, fun j hj => ⟨fun hj2 => ⟨by omega, hlt, fun he => ?_, fun hne => ⟨zg (by omega) (by omega), j + 1, ⟨by omega, fun k hk => ?_⟩, by omega, by omega⟩⟩, fun hj2 => ⟨zg (by omega) (by omega), i + 1, ⟨by omega, ?_⟩, by omega, by omega⟩⟩⟩⟩, fun hge => ?_⟩⟩
  . rw [hi.2, z6x l i hlt, if_pos h]; exact ⟨rfl, rfl⟩
  . have e : zm l = (7, (i : Int)) := by rw [hi.2, z6x l i hlt, if_neg (by rw [h]; simp), if_pos ((zv4 l _ i hi.1).2 ⟨j, hj2, he⟩)]
    rw [e]; exact ⟨rfl, rfl⟩
  . by_cases e : k = j
    . subst e; exact hne
    . exact hj.2 k (by omega)
  . rw [hi.2, z6x l i hlt, if_neg (by rw [h]; simp), if_neg (fun h => ?_)]
    obtain ⟨k, hk, e⟩ := (zv4 l _ i hi.1).1 h
    exact hj.2 k (by omega) e
  . rw [hi.2, show l.length - i = 0 from by omega]; exact ⟨rfl, rfl⟩
theorem zhp {α : Type} (f : α -> List UInt8) (l : List α) (d : α) {j : Nat} (h : j < l.length) : f (l.getD j d) = (l.map f).getD j [] := by simp [h]
theorem zdi (f : Nat -> AV) (i j : Nat) (x : AV) (h : x = f i) (z : AV) (hj : j < i + 1) : (if j < i then f j else ((List.replicate 1 z).set 0 x).getD (j - i) AV.any) = f j := by
  by_cases hlt : j < i
  . rw [if_pos hlt]
  . obtain rfl : j = i := by omega
    rw [if_neg hlt, Nat.sub_self, h]
    rfl
section
variable (p:PProg)
def q1u:=RW ze p.vars.length fun i=>encV (p.vars.getD i c0v)
variable (x0:Nat)
def qb:Nat:=x0 + 1
variable (x1:Nat)
def qi:=qb x0=x1
def qm:=decide ((↑x1:Int) < (↑p.vars.length:Int))
end
theorem eVar (p:PProg):gVar p=(↑p.vars.length<=(9223372036854775807:Int)/\(∃ i,i<=p.vars.length/\((i=(0:Nat)/\RR true/\RR true)/\q1u p/\RI ↑p.vars.length/\(RR j6/\(0:Int)=↑i)/\True)/\(i=(0:Nat)/\RR true)/\True)/\∀ i:Nat,i<=p.vars.length->(qm p i=true->inIx (↑i) p.vars.length/\1 * leaf.size<=16777216/\(RR i/\↑(qb i) * ↑(16:Nat)<=(140737488355328:Int)/\qb i<=9223372036854775807)/\1<=1/\InR j6 (q8 i)/\(∃ j,j<=p.vars.length/\p.vars.length - j < p.vars.length - i/\((RR (17:Nat)/\qi i j)/\q1u p/\RI (↑p.vars.length:Int)/\(RR j6/\q8 i=(↑j:Int))/\True)/\(RR (9:TypeId)/\RR leaf/\qi i j/\∀ (i_1:Nat),i_1 < qb i->(if i_1 < i then AV.str (p.vars.getD i_1 c0v).name else ((List.replicate (1:Nat) (AV.str [])).set (0:Nat) (strip1 (AV.str (p.vars.getD (↑i:Int).toNat c0v).name))).getD (i_1 - i) AV.any)=AV.str (p.vars.getD i_1 c0v).name)/\True))/\(qm p i=false->i<=i/\RR leaf/\(i=(List.map (fun x=>x.name) p.vars).length)/\∀ (i_1:Nat),i_1 < i->AV.str (p.vars.getD i_1 c0v).name=AV.str ((List.map (fun x=>x.name) p.vars).getD i_1 []))):=by kernel_rfl
theorem kVar (p : PProg) (hl : p.vars.length <= 1000000) : Known Tryz.prog GG 165 [vP p] (rowS (p.vars.map (·.name)))  := by
  refine Known.of (V := vN25 20 (zpi p)) (fn := Tryz.f165) Tryz.func165 (by kernel_rfl) (zn _) rfl ?_
  show gVar p
  rw [eVar]; try delta q1u qb q8 qi qm
  simp only [SB, inIx]
  refine ⟨by omega, ⟨0, by omega, ⟨rfl, rfl⟩, rfl⟩, fun i hi => ⟨fun hlt => ⟨hlt, by decide, ⟨by omega, by omega⟩, zg (by omega) (by omega), i + 1, by omega, by omega, ⟨rfl, by omega⟩, rfl, fun j hj => zdi (fun j => AV.str (p.vars.getD j c0v).name) i j _ rfl _ hj⟩, fun hge => ⟨by rw [List.length_map]; omega, fun j hj => by rw [<- zhp _ _ c0v (by omega)]⟩⟩⟩
section
variable (p:PProg)
def q62:=RW ze p.funs.length fun i=>encF (p.funs.getD i c0f)
variable (x1:Nat)
def qr:=decide ((↑x1:Int) < (↑p.funs.length:Int))
end
theorem eFun (p:PProg):gFun p=(↑p.funs.length<=(9223372036854775807:Int)/\(∃ i,i<=p.funs.length/\((i=(0:Nat)/\RR true/\RR true)/\q62 p/\RI ↑p.funs.length/\(RR j6/\(0:Int)=↑i)/\True)/\(i=(0:Nat)/\RR true)/\True)/\∀ i:Nat,i<=p.funs.length->(qr p i=true->inIx (↑i) p.funs.length/\1 * leaf.size<=16777216/\(RR i/\↑(qb i) * ↑(16:Nat)<=(140737488355328:Int)/\qb i<=9223372036854775807)/\1<=1/\InR j6 (q8 i)/\(∃ j,j<=p.funs.length/\p.funs.length - j < p.funs.length - i/\((RR (17:Nat)/\qi i j)/\q62 p/\RI (↑p.funs.length:Int)/\(RR j6/\q8 i=(↑j:Int))/\True)/\(RR (9:TypeId)/\RR leaf/\qi i j/\∀ (i_1:Nat),i_1 < qb i->(if i_1 < i then AV.str (p.funs.getD i_1 c0f).name else ((List.replicate (1:Nat) (AV.str [])).set (0:Nat) (strip1 (AV.str (p.funs.getD (↑i:Int).toNat c0f).name))).getD (i_1 - i) AV.any)=AV.str (p.funs.getD i_1 c0f).name)/\True))/\(qr p i=false->i<=i/\RR leaf/\(i=(List.map (fun x=>x.name) p.funs).length)/\∀ (i_1:Nat),i_1 < i->AV.str (p.funs.getD i_1 c0f).name=AV.str ((List.map (fun x=>x.name) p.funs).getD i_1 []))):=by kernel_rfl
theorem kFun (p : PProg) (hl : p.funs.length <= 1000000) : Known Tryz.prog GG 167 [vP p] (rowS (p.funs.map (·.name)))  := by
  refine Known.of (V := vN25 20 (zpj p)) (fn := Tryz.f167) Tryz.func167 (by kernel_rfl) (zn _) rfl ?_
  show gFun p
  rw [eFun]; try delta q62 qb q8 qi qr
  simp only [SB, inIx]
  refine ⟨by omega, ⟨0, by omega, ⟨rfl, rfl⟩, rfl⟩, fun i hi => ⟨fun hlt => ⟨hlt, by decide, ⟨by omega, by omega⟩, zg (by omega) (by omega), i + 1, by omega, by omega, ⟨rfl, by omega⟩, rfl, fun j hj => zdi (fun j => AV.str (p.funs.getD j c0f).name) i j _ rfl _ hj⟩, fun hge => ⟨by rw [List.length_map]; omega, fun j hj => by rw [<- zhp _ _ c0f (by omega)]⟩⟩⟩
section
variable (x0:Nat)
def q63:=x0=0/\RR true/\RR true
variable (p:PProg)
def qa:=RR za/\(RW ze p.vars.length fun i=>encV (p.vars.getD i c0v))/\(RW leaf p.muts.length fun i=>AV.str (p.muts.getD i []))/\(RW leaf p.conds.length fun i=>AV.str (p.conds.getD i []))/\(RW ze p.funs.length fun i=>encF (p.funs.getD i c0f))/\(RW ze p.thr.length fun i=>encS (p.thr.getD i c0s))/\True
def qpo:=(x0=0/\RR true)/\True
def qy:=1 * leaf.size<=16777216
def qpp:=RR x0/\↑(qb x0) * ↑(16:Nat)<=(140737488355328:Int)/\qb x0<=9223372036854775807
def qq:=1<=1
def qf:=RR (27:TypeId)/\qa p
variable (x1:Nat)
def q2d:=x1 < qb x0
end
theorem zv5 (p:PProg):zpk p=((∃ i,i<=p.vars.length/\(RR (AV.ptr (1:Nat) [])/\q63 i/\RR AV.nils/\qc i)/\((27:Nat)=(27:TypeId)/\qa p)/\qpo i)/\∀ i:Nat,i<=p.vars.length->↑p.vars.length<=(9223372036854775807:Int)/\(qm p i=true->inIx (↑i) p.vars.length/\qy/\qpp i/\qq/\q9 i/\(∃ j,j<=p.vars.length/\p.vars.length - j < p.vars.length - i/\(RR (AV.ptr (1:Nat) [])/\(RR (23:Nat)/\qi i j)/\RR AV.nils/\qd i j)/\qf p/\(RR (9:TypeId)/\RR leaf/\qi i j/\∀ (i_1:Nat),q2d i i_1->(if i_1 < i then AV.str (p.vars.getD i_1 c0v).name else ((List.replicate (1:Nat) (AV.str [])).set (0:Nat) (strip1 (AV.str (p.vars.getD (↑i:Int).toNat c0v).name))).getD (i_1 - i) AV.any)=AV.str (p.vars.getD i_1 c0v).name)/\True))/\(qm p i=false->(∃ i_1,i_1<=p.funs.length/\(RR (AV.ptr (1:Nat) [])/\(RR (23:Nat)/\i=p.vars.length)/\q63 i_1/\qc i_1)/\qf p/\(RR (9:TypeId)/\RR leaf/\i=p.vars.length/\∀ (i_2:Nat),i_2 < i->RR (AV.str (p.vars.getD i_2 c0v).name))/\qpo i_1)/\∀ (i:Nat),i<=p.funs.length->(↑p.funs.length:Int)<=(9223372036854775807:Int)/\(qr p i=true->inIx (↑i:Int) p.funs.length/\qy/\qpp i/\qq/\q9 i/\∃ j,j<=p.funs.length/\p.funs.length - j < p.funs.length - i/\(RR (AV.ptr (1:Nat) [])/\(RR (23:Nat)/\RR p.vars.length)/\(RR (39:Nat)/\qi i j)/\qd i j)/\qf p/\(RR (9:TypeId)/\RW leaf p.vars.length fun i=>AV.str (p.vars.getD i c0v).name)/\(RR (9:TypeId)/\RR leaf/\qi i j/\∀ (i_1:Nat),q2d i i_1->(if i_1 < i then AV.str (p.funs.getD i_1 c0f).name else ((List.replicate (1:Nat) (AV.str [])).set (0:Nat) (strip1 (AV.str (p.funs.getD (↑i:Int).toNat c0f).name))).getD (i_1 - i) AV.any)=AV.str (p.funs.getD i_1 c0f).name)/\True)/\(qr p i=false->p.vars.length<=p.vars.length/\i<=i/\(RR leaf/\p.vars.length=(List.map (fun x=>x.name) p.vars).length/\∀ (i:Nat),i < p.vars.length->AV.str (p.vars.getD i c0v).name=AV.str ((List.map (fun x=>x.name) p.vars).getD i []))/\(RR leaf/\i=(List.map (fun x=>x.name) p.funs).length/\∀ (i_1:Nat),i_1 < i->AV.str (p.funs.getD i_1 c0f).name=AV.str ((List.map (fun x=>x.name) p.funs).getD i_1 []))/\True))):=by kernel_rfl
theorem zv6 (p : PProg) (hl : p.vars.length <= 1000000) (hf : p.funs.length <= 1000000) : Known Tryz.prog GG 141 [vP p] (.tup [rowS (p.vars.map (·.name)), rowS (p.funs.map (·.name))])  := by
  refine Known.of (V := vN25 42 (zhn p)) (fn := Tryz.f141) Tryz.func141 (by kernel_rfl) (zn _) rfl ?_
  show zpk p
  rw [zv5]; try delta q63 qc qa qpo qy qb qpp qq q8 q9 qi qd qf q2d qm qr
  simp only [SB, inIx]
  refine ⟨⟨0, by omega, ⟨rfl, rfl⟩, rfl⟩, fun i hi => ⟨by omega, fun hlt => ⟨hlt, by decide, ⟨by omega, by omega⟩, zg (by omega) (by omega), i + 1, by omega, by omega, ⟨rfl, by omega⟩, rfl, fun j hj => zdi (fun j => AV.str (p.vars.getD j c0v).name) i j _ rfl _ hj⟩, fun hge => ⟨⟨0, by omega, ⟨by omega, rfl, rfl⟩, by omega, rfl⟩, fun i hi => ⟨by omega, fun hlt => ⟨hlt, by decide, ⟨by omega, by omega⟩, zg (by omega) (by omega), i + 1, by omega, by omega, ⟨rfl, by omega⟩, rfl, fun j hj => zdi (fun j => AV.str (p.funs.getD j c0f).name) i j _ rfl _ hj⟩, fun hge => ⟨⟨by rw [List.length_map], fun j hj => by rw [<- zhp _ _ c0v (by omega)]⟩, by rw [List.length_map]; omega, fun j hj => by rw [<- zhp _ _ c0f (by omega)]⟩⟩⟩⟩⟩
end
end
end Go.Proofs.S25
namespace Go.Proofs.S25
open Go Go.AV
open Go.IntKind renaming i64 -> j6
open Go.AV.Shape (leaf)
noncomputable section
def valB (n : Int) : Bool := decide (-2147483648 <= n) && decide (n <= 2147483647)
def z49 (p : PProg) (op : Int) : Int :=
  if op = 8 ∨ op = 9 ∨ op = 10 ∨ op = 11 ∨ op = 12 ∨ op = 14 then p.vars.length
  else if op = 15 ∨ op = 16 ∨ op = 17 then p.muts.length
  else if op = 18 ∨ op = 19 ∨ op = 20 then p.conds.length
  else if op = 21 then p.funs.length
  else -1
def zex (p : PProg) (i : Inst) : Bool := (decide (0 <= z49 p i.op) && (decide (i.obj < 0) || decide (z49 p i.op <= i.obj))) || (i.op == 18 && (decide (i.n < 0) || decide ((p.muts.length : Int) <= i.n)))
def z2r (p : PProg) (i : Inst) (n : Int) : Int :=
  if z13 i != 0 then z13 i
  else if zex p i then 11
  else if (i.op == 4 || i.op == 5) && (decide (i.n < 0) || decide (n < i.n)) then 12
  else 0
def z6e (p : PProg) (f : PFun) : Nat -> Int × Int
  | 0 => (0, -1)
  | k + 1 => if z2r p (f.code.getD (f.code.length - (k + 1)) c0i) f.code.length != 0 then (z2r p (f.code.getD (f.code.length - (k + 1)) c0i) f.code.length, ((f.code.length - (k + 1) : Nat) : Int)) else z6e p f k
def z2j (p : PProg) (f : PFun) : Int × Int := if 64 < f.code.length then (4, -1) else z6e p f f.code.length
def z78 (p : PProg) : Nat -> Int × Int × Int
  | 0 => (0, -1, -1)
  | k + 1 => if (z2j p (p.funs.getD (p.funs.length - (k + 1)) c0f)).1 != 0 then ((z2j p (p.funs.getD (p.funs.length - (k + 1)) c0f)).1, ((p.funs.length - (k + 1) : Nat) : Int), (z2j p (p.funs.getD (p.funs.length - (k + 1)) c0f)).2) else z78 p k
def zr (p : PProg) : Int × Int × Int := z78 p p.funs.length
def z4i (p : PProg) : List (List UInt8) := p.vars.map (·.name)
def z5o (p : PProg) : List (List UInt8) := p.funs.map (·.name)
def z1q (p : PProg) : Int × Int × Int :=
  if (zm (z4i p)).1 != 0 then ((zm (z4i p)).1, -1, -1)
  else if (zm p.muts).1 != 0 then ((zm p.muts).1, -1, -1)
  else if (zm p.conds).1 != 0 then ((zm p.conds).1, -1, -1)
  else ((zm (z5o p)).1, (zm (z5o p)).2, -1)
def z1s (p : PProg) : Int :=
  if 8 < p.vars.length ∨ 4 < p.muts.length ∨ 4 < p.conds.length ∨ 8 < p.funs.length then 4
  else if p.vars.all (fun v => valB v.init) then 0 else 2
def z7o (p : PProg) : Nat -> Int
  | 0 => 0
  | k + 1 => if (p.thr.getD (p.thr.length - (k + 1)) c0s).fn < 0 ∨ (p.funs.length : Int) <= (p.thr.getD (p.thr.length - (k + 1)) c0s).fn then 11
    else if valB (p.thr.getD (p.thr.length - (k + 1)) c0s).arg = false then 2 else z7o p k
def z1o (p : PProg) : Int := if p.thr.length < 1 ∨ 8 < p.thr.length then 4 else z7o p p.thr.length
def zb (p : PProg) : Int × Int × Int :=
  if (z1q p).1 != 0 then z1q p
  else if z1s p != 0 then (z1s p, -1, -1)
  else if (zr p).1 != 0 then zr p
  else (z1o p, -1, -1)
def vPl (a b : Int) : AV := .mc ze (.agg [.int .i64 a, .int .i64 b])
def spP : FuncId -> List AV -> Option AV
  | 168, [.int _ n] | 143, [.int _ n] => some (.bool (valB n))
  | 223, [.mc _ p, .int _ op] => some (.int .i64 (z49 (dP p) op))
  | 172, [.mc _ p, .mc _ i, .int _ n] => some (.int .i64 (z2r (dP p) (dIn i) n))
  | 107, [.mc _ p] => some (.tup [.int .i64 (z1q (dP p)).1, vPl (z1q (dP p)).2.1 (z1q (dP p)).2.2])
  | 108, [.mc _ p] => some (.tup [.int .i64 (z1s (dP p)), vPl (-1) (-1)])
  | 109, [.mc _ p] => some (.tup [.int .i64 (zr (dP p)).1, vPl (zr (dP p)).2.1 (zr (dP p)).2.2])
  | 110, [.mc _ p] => some (.tup [.int .i64 (z1o (dP p)), vPl (-1) (-1)])
  | 51, [.mc _ p] | 68, [.mc _ p] => some (.tup [.int .i64 (zb (dP p)).1, .int .i64 (zb (dP p)).2.1, .int .i64 (zb (dP p)).2.2])
  | 111, [.mc _ p] | 87, [.mc _ p] => some (.bool ((zb (dP p)).1 == 0))
  | 207, [.mc _ p, .mc _ i] => some (.bool (!zex (dP p) (dIn i)))
  | 144, [.mc _ p, .mc _ f] => some (.tup [.int .i64 (z2j (dP p) (dF f)).1, .int .i64 (z2j (dP p) (dF f)).2])
  | 145, [.mc _ p] => some (.int .i64 (z1o (dP p)))
  | f, l => spN f l
noncomputable def vP25 (n : Nat) (inv : Nat -> Option Inv) : VCtx := { C := cfgT n, CC := Known Tryz.prog GG, orc := fun _ _ => spP, inv := inv }
noncomputable def gVal (n : Int) : Prop := fnVc (vP25 9 fun _ => none) Tryz.f168 [.int .i64 n] (.bool (valB n))
noncomputable def zv7 (n : Int) : Prop := fnVc (vP25 9 fun _ => none) Tryz.f143 [.int .i64 n] (.bool (valB n))
noncomputable def zv8 (p : PProg) (op : Int) : Prop := fnVc (vP25 35 fun _ => none) Tryz.f223 [vP p, .int .i64 op] (.int .i64 (z49 p op))
noncomputable def zpo (p : PProg) (i : Inst) (n : Int) : Prop := fnVc (vP25 66 fun _ => none) Tryz.f172 [vP p, vI i, .int .i64 n] (.int .i64 (z2r p i n))
noncomputable def zkl (p : PProg) (i : Inst) : Prop := fnVc (vP25 61 fun _ => none) Tryz.f207 [vP p, vI i] (.bool (!zex p i))
def zpp (p : PProg) (k : Nat) : Option Inv := match Nat.beq k 5 with
  | true => some { ι := Nat, S := fun i => ⟨[(1, .ptr 1 []), (3, .ptr 3 []), (4, .ptr 4 []), (20, zde p.thr), (21, .int .i64 p.thr.length), (22, .int .i64 i)], [(1, .cell 27 za (encP p)), (3, .cell 150 ze (.agg [.int .i64 0, .int .i64 0])), (4, .cell 150 ze (.agg [.int .i64 (-1), .int .i64 (-1)]))]⟩, μ := fun i => p.thr.length - i, ok := fun i => i <= p.thr.length /\ z7o p p.thr.length = z7o p (p.thr.length - i) }
  | false => none
noncomputable def gThr (p : PProg) : Prop := fnVc (vP25 45 (zpp p)) Tryz.f110 [vP p] (.tup [.int .i64 (z1o p), vPl (-1) (-1)])
def zpq (p : PProg) (k : Nat) : Option Inv := match Nat.beq k 5 with
  | true => some { ι := Nat, S := fun i => ⟨[(3, .ptr 3 []), (4, .ptr 4 []), (32, rowV p.vars), (33, .int .i64 p.vars.length), (34, .int .i64 i)], [(3, .cell 150 ze (.agg [.int .i64 0, .int .i64 0])), (4, .cell 150 ze (.agg [.int .i64 (-1), .int .i64 (-1)]))]⟩, μ := fun i => p.vars.length - i, ok := fun i => i <= p.vars.length /\ ∀ j, j < i -> valB (p.vars.getD j c0v).init = true }
  | false => none
noncomputable def gObj (p : PProg) : Prop := fnVc (vP25 45 (zpq p)) Tryz.f108 [vP p] (.tup [.int .i64 (z1s p), vPl (-1) (-1)])
def nm3 (p : PProg) (i : Nat) : List (List UInt8) := [z4i p, p.muts, p.conds].getD i []
def zv9 (p : PProg) (k : Nat) : Option Inv := match Nat.beq k 2 with
  | true => some { ι := Nat, S := fun i => ⟨[(1, .ptr 1 []), (3, .ptr 3 []), (16, .own 16 3), (17, .int .i64 3), (18, .int .i64 i)], [(1, .cell 27 za (encP p)), (3, .cell 150 ze (.agg [.int .i64 0, .int .i64 0])), (16, .row 23 .leaf 3 fun j => rowS (nm3 p j))]⟩, μ := fun i => 3 - i, ok := fun i => i <= 3 /\ ∀ j, j < i -> (zm (nm3 p j)).1 = 0 }
  | false => none
noncomputable def gNm (p : PProg) : Prop := fnVc (vP25 41 (zv9 p)) Tryz.f107 [vP p] (.tup [.int .i64 (z1q p).1, vPl (z1q p).2.1 (z1q p).2.2])
end
end Go.Proofs.S25
