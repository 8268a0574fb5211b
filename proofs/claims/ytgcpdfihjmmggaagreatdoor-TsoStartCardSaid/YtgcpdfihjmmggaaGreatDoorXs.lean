import Derived.Test.YtgcpdfihjmmggaaGreatDoorXr
namespace Go.Proofs.S25
open Go Go.AV
open Go.IntKind renaming i64 -> j6
open Go.AV.Shape (leaf)
noncomputable section
open Go.IntKind renaming i64 -> j6
open Go.AV.Shape (leaf)
noncomputable section

theorem zw4 (t : Thr) (i : Inst) : (locP t i).1.fn = t.fn := by
  unfold locP endT
  repeat' split
  all_goals rfl
theorem zo4 (t : Thr) (i : Inst) : (locP t i).1.held = t.held := by
  unfold locP endT
  repeat' split
  all_goals rfl
theorem zw5 (t : Thr) (i : Inst) : (locP t i).1.id = t.id := by
  unfold locP endT
  repeat' split
  all_goals rfl
theorem zo5 (t : Thr) (i : Inst) : (locP t i).1.regs.length = t.regs.length := by
  unfold locP endT setR
  repeat' split
  all_goals simp only [List.length_set]
theorem zw6 (t : Thr) (i : Inst) : (locP t i).1.pc = t.pc ∨ (locP t i).1.pc = t.pc + 1 ∨ ((i.op = 4 ∨ i.op = 5) /\ (locP t i).1.pc = i.n) := by
  by_cases h4 : i.op = 4 ∨ i.op = 5
  . rcases h4 with h | h
    . exact .inr (.inr ⟨.inl h, by simp only [locP, h, reduceIte, Int.reduceEq]⟩)
    . by_cases h0 : regT t i.b = 0
      . exact .inr (.inl (by simp only [locP, h, h0, reduceIte, Int.reduceEq]))
      . exact .inr (.inr ⟨.inr h, by simp only [locP, h, h0, reduceIte, Int.reduceEq]⟩)
  . unfold locP endT
    repeat' split
    all_goals first
      | exact .inl rfl
      | exact .inr (.inl rfl)
      | omega
theorem zdp {p : PProg} {t : Thr} (ht : TWf p t) (ha : atB p t = true) : t.pc.toNat < (p.funs.getD t.fn.toNat c0f).code.length /\ atI p t = (p.funs.getD t.fn.toNat c0f).code.getD t.pc.toNat c0i := by
  have h1 : t.pc < ((p.funs.getD t.fn.toNat c0f).code.length : Int) := by unfold atB at ha; simpa using ha
  have := ht.pc
  refine ⟨by omega, ?_⟩
  unfold atI; rw [if_pos ha]
theorem zf9 {p : PProg} {t : Thr} (hp : POk p) (ht : TWf p t) (ha : atB p t = true) : z2r p (atI p t) (p.funs.getD t.fn.toNat c0f).code.length = 0 := by
  obtain ⟨h1, h2⟩ := zdp ht ha
  have := ht.fn
  rw [h2]; exact (hp.code (by omega)).2 _ h1
theorem TWf.small {p : PProg} {t : Thr} (hp : POk p) (ht : TWf p t) : 0 <= t.pc /\ t.pc <= 64 := by
  have h1 := ht.fn
  have h2 := (hp.code (f := t.fn.toNat) (by omega)).1
  have := ht.pc
  omega
theorem zlr {p : PProg} {t : Thr} (hp : POk p) (ht : TWf p t) (ha : atB p t = true) : TWf p (locP t (atI p t)).1 := by
  have h1 := zw4 t (atI p t)
  have h2 := zbe (zf9 hp ht ha)
  obtain ⟨h3, _⟩ := zdp ht ha
  have h4 := ht.pc
  have h5 := ht.ok
  have h6 := ht.small hp
  have h7 : 0 <= (locP t (atI p t)).1.pc /\ (locP t (atI p t)).1.pc <= ((p.funs.getD t.fn.toNat c0f).code.length : Int) := by
    rcases zw6 t (atI p t) with h | h | ⟨h, h'⟩
    . omega
    . omega
    . have := h2.2.2 h; omega
  refine ⟨⟨by rw [zo5]; exact h5.regs, by rw [zw5]; exact h5.id, ?_, by rw [zo4]; exact h5.held⟩, by rw [h1]; exact ht.fn, by rw [h1]; exact h7⟩
  have h8 := ht.fn
  have := (hp.code (f := t.fn.toNat) (by omega)).1
  omega
theorem zw7 {p : PProg} {b : Int} {t : Thr} (h : atB p t = false) : ∀ k, z4x p b k t = endT t 2 0
  | 0 => by unfold z4x; rw [if_pos h]
  | k + 1 => by unfold z4x; rw [if_pos h]
theorem zj9 {p : PProg} {b : Int} {t : Thr} (h : atB p t = true) (hv : visB (atI p t).op = true) : ∀ k, z4x p b k t = vsT b t (atI p t)
  | 0 => by unfold z4x; rw [if_neg (by rw [h]; simp), if_pos hv]
  | k + 1 => by unfold z4x; rw [if_neg (by rw [h]; simp), if_pos hv]
theorem s_0 {p : PProg} {b : Int} {t : Thr} (h : atB p t = true) (hv : visB (atI p t).op = false) : z4x p b 0 t = endT t 3 29 := by
  unfold z4x; rw [if_neg (by rw [h]; simp), if_neg (by rw [hv]; simp)]
theorem s_s {p : PProg} {b : Int} {t : Thr} (h : atB p t = true) (hv : visB (atI p t).op = false) (k : Nat) : z4x p b (k + 1) t = if (locP t (atI p t)).2 then z4x p b k (locP t (atI p t)).1 else (locP t (atI p t)).1 := by
  rw [z4x, if_neg (by rw [h]; simp), if_neg (by rw [hv]; simp)]
theorem zls (i : Nat) : (List.replicate 8 (0 : Int)).getD i 0 = 0 := by
  rw [List.getD_eq_getElem?_getD, List.getElem?_replicate]
  split <;> rfl
theorem s_k {i : Nat} (h : i <= 256) (h' : (i : Int) ≠ 256) : 256 - i = 256 - (i + 1) + 1 := by omega
section
variable (t:Thr)
def qv6:Nat:=(q20 t).length
variable (x1:Nat)
def qv7:=AV.int j6 ((q20 t).getD x1 0)
variable (x0:Nat × Thr)
def q3a:Nat:=256 - x0.fst
end
section
variable (p:PProg) (b:Int) (t:Thr) (x3:Nat × Thr)
def qgh:=x3.fst<=256/\TWf p x3.snd/\setl p b t=z4x p b (q3a x3) x3.snd
def qv8:=t.held.length<=qv6 t
variable (x0:Nat × Thr) (x1:Nat)
def q2m:=AV.int j6 (x0.snd.regs.getD x1 0)
def q3b:=AV.int j6 (x0.snd.held.getD x1 0)
end
section
variable (x0:Nat)
def q2n:=AV.int j6 ((List.replicate 8 0).getD x0 0)
variable (p:PProg) (x1:Nat × Thr)
def qv9:=AV.mc zt (encI (atI (dP (encP p)) (dT (encT x1.snd))))
end
section
variable (x0:Nat × Thr) (x1:Nat)
def qgi:=AV.int j6 ((dA dI (AV.arr 8 fun i=>q2m x0 i)).getD x1 0)
def q2o:=AV.arr 8 fun i=>qgi x0 i
def q3c:List AV:=[rowI (dR dI (rowI x0.snd.held))]
def qva:List AV:=AV.int j6 0::q3c x0
variable (p:PProg) (b:Int) (t:Thr) (x3:Nat × Thr)
def qz:=RR j6/\x3.snd.id=(setl p b t).id
def q10:=RR j6/\x3.snd.fn=(setl p b t).fn
def q11:=RR j6/\x3.snd.pc=(setl p b t).pc
end
section
variable (p:PProg) (b:Int) (t:Thr) (x3:Nat)
def q70:=AV.int j6 ((setl p b t).regs.getD x3 0)
end
section
variable (p:PProg) (b:Int) (t:Thr) (x3:Nat × Thr)
def q2p:=RR 8/\∀ (i:Nat),qgi x3 i=q70 p b t i
def q12:=RR j6/\x3.snd.steps=(setl p b t).steps
def q13:=RR j6/\x3.snd.kids=(setl p b t).kids
def q14:=RR j6/\x3.snd.phase=(setl p b t).phase
end
section
variable (p:PProg) (b:Int) (t:Thr) (x3:Nat)
def q71:=AV.int j6 ((setl p b t).held.getD x3 0)
end
section
variable (p:PProg) (b:Int) (t:Thr) (x3:Nat × Thr)
def q3d:=(RR leaf/\(dR dI (rowI x3.snd.held)).length=(setl p b t).held.length/\∀ (i:Nat),i < (dR dI (rowI x3.snd.held)).length->AV.int j6 ((dR dI (rowI x3.snd.held)).getD i 0)=q71 p b t i)/\True
def qvb:=(RR j6/\0=(setl p b t).fault)/\q3d p b t x3
variable (x1:Nat × Thr)
def qvc:List AV:=[AV.mc zd (encT x1.snd),qv9 p x1]
def qgj:Int:=obsE (dT (encT x1.snd)) (dIn (encI (atI (dP (encP p)) (dT (encT x1.snd)))))
def qgk:=AV.int j6 (qgj p x1)
def q4x:=RR j6/\3=(setl p b t).status
def qvd:=qgj p x1 != 0
variable (x0:Nat × Thr)
def q72:=↑x0.fst == (256:Int)
def qve:Thr × Bool:=locP (dT (encT x1.snd)) (dIn (encI (atI (dP (encP p)) (dT (encT x1.snd)))))
def q1a:Thr:=(qve p x1).fst
def qvf:=(qve p x1).snd
def qvg:Int:=(q1a p x1).id
def qvh:Int:=(q1a p x1).fn
def qvi:Int:=(q1a p x1).pc
variable (x2:Nat)
def qvj:=AV.int j6 ((q1a p x1).regs.getD x2 0)
def qvk:Int:=(q1a p x1).steps
def qvl:Int:=(q1a p x1).kids
def qvm:Int:=(q1a p x1).phase
def qvn:Int:=(q1a p x1).status
def qvo:Int:=(q1a p x1).fault
def qvp:List Int:=(q1a p x1).held
def qgl:Nat:=(qvp p x1).length
def qvq:=AV.int j6 ((qvp p x1).getD x2 0)
def qvr:=x2 < qgl p x1
def qvs:=!qvf p x1
def q73:Int:=↑x0.fst + 1
end
theorem z10v (p:PProg) (b:Int) (t:Thr):zw3 p b t=((KnownF Tryz.prog GG (186:Nat) [rowI t.held] (AV.own (0:Nat) t.held.length) [BoxC.row (3:TypeId) leaf (qv6 t) fun i=>qv7 t i])/\(∃ (i:Nat × Thr),qgh p b t i/\qv8 t/\qv8 t/\(RI b/\RR (AV.ptr (3:Nat) [])/\RR (AV.ptr (5:Nat) [])/\RR (AV.ptr (6:Nat) [])/\(RR j6/\(0:Int)=(↑(Prod.fst i):Int))/\True)/\((27:Nat)=(27:TypeId)/\qa p)/\((51:Nat)=(51:TypeId)/\RR zd/\(RR j6/\Thr.id t=Thr.id (Prod.snd i))/\(RR j6/\Thr.fn t=Thr.fn (Prod.snd i))/\(RR j6/\Thr.pc t=Thr.pc (Prod.snd i))/\(RR (8:Nat)/\∀ (i_1:Nat),AV.int j6 (List.getD (Thr.regs t) i_1 (0:Int))=q2m i i_1)/\(RR j6/\Thr.steps t=Thr.steps (Prod.snd i))/\(RR j6/\Thr.kids t=Thr.kids (Prod.snd i))/\(RR j6/\Thr.phase t=Thr.phase (Prod.snd i))/\(RR j6/\Thr.status t=Thr.status (Prod.snd i))/\(RR j6/\Thr.fault t=Thr.fault (Prod.snd i))/\(RR leaf/\List.length (Thr.held t)=List.length (Thr.held (Prod.snd i))/\∀ (i_1:Nat),i_1 < List.length (Thr.held t)->qv7 t i_1=q3b i i_1)/\True)/\((51:Nat)=(51:TypeId)/\RR zd/\RI (0:Int)/\RI (0:Int)/\RI (0:Int)/\(RR (8:Nat)/\∀ (i:Nat),AV.int j6 (0:Int)=q2n i)/\RI (0:Int)/\RI (0:Int)/\RI (0:Int)/\RI (0:Int)/\RI (0:Int)/\(0:Nat)=(0:Nat)/\True)/\True)/\∀ i:Nat × Thr,qgh p b t i->KN 190 [AV.mc za (encP p),AV.mc zd (encT i.snd)] (AV.tup [qv9 p i,AV.bool (atB (dP (encP p)) (dT (encT i.snd)))])/\((!atB (dP (encP p)) (dT (encT i.snd)))=true->KN 202 [AV.mc zd (encT i.snd),AV.int j6 (2:Int),AV.int j6 (0:Int)] (AV.mc zd (AV.agg (AV.int j6 i.snd.id::AV.int j6 i.snd.fn::AV.int j6 i.snd.pc::q2o i::AV.int j6 i.snd.steps::AV.int j6 i.snd.kids::AV.int j6 i.snd.phase::AV.int j6 (2:Int)::qva i)))/\RR zd/\qz p b t i/\q10 p b t i/\q11 p b t i/\q2p p b t i/\q12 p b t i/\q13 p b t i/\q14 p b t i/\(RR j6/\2=(setl p b t).status)/\qvb p b t i)/\((!atB (dP (encP p)) (dT (encT i.snd)))=false->KN 203 [AV.int j6 (atI (dP (encP p)) (dT (encT i.snd))).op] (AV.bool (visB (atI (dP (encP p)) (dT (encT i.snd))).op))/\(visB (atI (dP (encP p)) (dT (encT i.snd))).op=true->KN 204 (qvc p i) (qgk p i)/\(qvd p i=true->KN 202 [AV.mc zd (encT i.snd),AV.int j6 (3:Int),qgk p i] (AV.mc zd (AV.agg (AV.int j6 i.snd.id::AV.int j6 i.snd.fn::AV.int j6 i.snd.pc::q2o i::AV.int j6 i.snd.steps::AV.int j6 i.snd.kids::AV.int j6 i.snd.phase::AV.int j6 (3:Int)::qgk p i::q3c i)))/\RR zd/\qz p b t i/\q10 p b t i/\q11 p b t i/\q2p p b t i/\q12 p b t i/\q13 p b t i/\q14 p b t i/\q4x p b t/\(RR j6/\qgj p i=(setl p b t).fault)/\q3d p b t i)/\(qvd p i=false->((i.snd.steps == b)=true->KN 202 [AV.mc zd (encT i.snd),AV.int j6 (4:Int),AV.int j6 (0:Int)] (AV.mc zd (AV.agg (AV.int j6 i.snd.id::AV.int j6 i.snd.fn::AV.int j6 i.snd.pc::q2o i::AV.int j6 i.snd.steps::AV.int j6 i.snd.kids::AV.int j6 i.snd.phase::AV.int j6 (4:Int)::qva i)))/\RR zd/\qz p b t i/\q10 p b t i/\q11 p b t i/\q2p p b t i/\q12 p b t i/\q13 p b t i/\q14 p b t i/\(RR j6/\4=(setl p b t).status)/\qvb p b t i)/\((i.snd.steps == b)=false->RR zd/\qz p b t i/\q10 p b t i/\q11 p b t i/\(RR 8/\∀ (i_1:Nat),q2m i i_1=q70 p b t i_1)/\q12 p b t i/\q13 p b t i/\q14 p b t i/\(RR j6/\i.snd.status=(setl p b t).status)/\(RR j6/\i.snd.fault=(setl p b t).fault)/\(RR leaf/\i.snd.held.length=(setl p b t).held.length/\∀ (i_1:Nat),i_1 < i.snd.held.length->q3b i i_1=q71 p b t i_1)/\True)))/\(visB (atI (dP (encP p)) (dT (encT i.snd))).op=false->(q72 i=true->KN 202 [AV.mc zd (encT i.snd),AV.int j6 (3:Int),AV.int j6 (29:Int)] (AV.mc zd (AV.agg (AV.int j6 i.snd.id::AV.int j6 i.snd.fn::AV.int j6 i.snd.pc::q2o i::AV.int j6 i.snd.steps::AV.int j6 i.snd.kids::AV.int j6 i.snd.phase::AV.int j6 (3:Int)::AV.int j6 (29:Int)::q3c i)))/\RR zd/\qz p b t i/\q10 p b t i/\q11 p b t i/\q2p p b t i/\q12 p b t i/\q13 p b t i/\q14 p b t i/\q4x p b t/\(RR j6/\29=(setl p b t).fault)/\q3d p b t i)/\(q72 i=false->KN 205 (qvc p i) (AV.tup [AV.mc zd (encT (q1a p i)),AV.bool (qvf p i)])/\(qvs p i=true->RR zd/\(RR j6/\qvg p i=(setl p b t).id)/\(RR j6/\qvh p i=(setl p b t).fn)/\(RR j6/\qvi p i=(setl p b t).pc)/\(RR 8/\∀ (i_1:Nat),qvj p i i_1=q70 p b t i_1)/\(RR j6/\qvk p i=(setl p b t).steps)/\(RR j6/\qvl p i=(setl p b t).kids)/\(RR j6/\qvm p i=(setl p b t).phase)/\(RR j6/\qvn p i=(setl p b t).status)/\(RR j6/\qvo p i=(setl p b t).fault)/\(RR leaf/\qgl p i=(setl p b t).held.length/\∀ (i_1:Nat),qvr p i i_1->qvq p i i_1=q71 p b t i_1)/\True)/\(qvs p i=false->InR j6 (q73 i)/\(∃ (j:Nat × Thr),qgh p b t j/\q3a j < q3a i/\(RI b/\RR (AV.ptr (3:Nat) [])/\RR (AV.ptr (5:Nat) [])/\RR (AV.ptr (6:Nat) [])/\(RR j6/\q73 i=(↑(Prod.fst j):Int))/\True)/\(RR (27:TypeId)/\qa p)/\(RR (51:TypeId)/\RR zd/\(RR j6/\qvg p i=Thr.id (Prod.snd j))/\(RR j6/\qvh p i=Thr.fn (Prod.snd j))/\(RR j6/\qvi p i=Thr.pc (Prod.snd j))/\(RR (8:Nat)/\∀ (i_1:Nat),qvj p i i_1=q2m j i_1)/\(RR j6/\qvk p i=Thr.steps (Prod.snd j))/\(RR j6/\qvl p i=Thr.kids (Prod.snd j))/\(RR j6/\qvm p i=Thr.phase (Prod.snd j))/\(RR j6/\qvn p i=Thr.status (Prod.snd j))/\(RR j6/\qvo p i=Thr.fault (Prod.snd j))/\(RR leaf/\qgl p i=List.length (Thr.held (Prod.snd j))/\∀ (i_1:Nat),qvr p i i_1->qvq p i i_1=q3b j i_1)/\True)/\(RR (51:TypeId)/\RR zd/\RI (0:Int)/\RI (0:Int)/\RI (0:Int)/\(RR (8:Nat)/\∀ (i:Nat),RR (q2n i))/\RI (0:Int)/\RI (0:Int)/\RI (0:Int)/\RI (0:Int)/\RI (0:Int)/\(RW leaf ((0:Nat)) fun (i:Nat)=>AV.int j6 (List.getD [] i (0:Int)))/\True)/\True)))))):=by kernel_rfl
theorem zsz (p : PProg) (b : Int) (t : Thr) (hp : POk p) (ht : TWf p t) : Known Tryz.prog GG 139 [vP p, .int .i64 b, vT t] (vT (setl p b t))  := by
  refine Known.of (V := { vS2 59 (zlq p b t) with fzL := fun _ => [61440] }) (fn := Tryz.f139) Tryz.func139 (by kernel_rfl) (zv _) rfl ?_
  show zw3 p b t
  rw [z10v]; try delta q20 qv6 qv7 q3a qgh qv8 qa q2m q3b q2n qv9 qgi q2o q3c qva qz q10 q11 q70 q2p q12 q13 q14 q71 q3d qvb qvc qgj qgk q4x qvd q72 qve q1a qvf qvg qvh qvi qvj qvk qvl qvm qvn qvo qvp qgl qvq qvr qvs q73
  simp only [SB]
  simp only [oR]
  have hr := ht.ok.regs
  refine ⟨zdk _ (by have := ht.ok.held; omega), ⟨(0, t), ⟨by simp, ht, rfl⟩, Nat.le_refl _, Nat.le_refl _, rfl, ⟨rfl, rfl, rfl, fun _ => rfl, rfl, rfl, rfl, rfl, rfl, rfl, fun _ _ => rfl⟩, fun j => by rw [zls]⟩, fun i hi => ?_⟩
  obtain ⟨a1, a2, a3⟩ := hi
  simp only [z2u _ a2.ok.regs, dA_8 a2.ok.regs]
  refine ⟨kAt p i.2 a2.fn a2.pc.1 hp.sm, fun h => ⟨kEnd i.2 _ _, by rw [a3, zw7 h]; exact ⟨rfl, rfl, rfl, fun _ => rfl, rfl, rfl, rfl, rfl, rfl, rfl, fun _ _ => rfl⟩⟩, fun ha => ⟨kVis _, fun hv => ⟨kObs i.2 _ a2.ok, fun ho => ⟨kEnd i.2 _ _, by rw [a3, zj9 ha hv]; unfold vsT; rw [if_pos ho]; exact ⟨rfl, rfl, rfl, fun _ => rfl, rfl, rfl, rfl, rfl, rfl, rfl, fun _ _ => rfl⟩⟩, fun ho => ⟨fun hs => ⟨kEnd i.2 _ _, by rw [a3, zj9 ha hv]; unfold vsT; rw [if_neg (by omega), if_pos hs]; exact ⟨rfl, rfl, rfl, fun _ => rfl, rfl, rfl, rfl, rfl, rfl, rfl, fun _ _ => rfl⟩⟩, fun hs => by rw [a3, zj9 ha hv]; unfold vsT; rw [if_neg (by omega), if_neg hs]; exact ⟨rfl, rfl, rfl, fun _ => rfl, rfl, rfl, rfl, rfl, rfl, rfl, fun _ _ => rfl⟩⟩⟩, fun hv => ⟨fun hn => ⟨kEnd i.2 _ _, by rw [a3, show 256 - i.1 = 0 by omega, s_0 ha hv]; exact ⟨rfl, rfl, rfl, fun _ => rfl, rfl, rfl, rfl, rfl, rfl, rfl, fun _ _ => rfl⟩⟩, fun hn => ⟨kLoc i.2 _ a2.ok (zf8 (zbe (zf9 hp a2 ha)).1) (by have := a2.small hp; omega), ?_⟩⟩⟩⟩
  rw [a3, s_k a1 hn, s_s ha hv]
  refine ⟨fun hm => ?_, fun hm => ?_⟩
  . rw [if_neg (by rw [hm]; simp)]; exact ⟨rfl, rfl, rfl, fun _ => rfl, rfl, rfl, rfl, rfl, rfl, rfl, fun _ _ => rfl⟩
  . rw [if_pos hm]
    exact ⟨zg (by omega) (by omega), (i.1 + 1, (locP i.2 (atI p i.2)).1), ⟨by show i.1 + 1 <= 256; omega, zlr hp a2 ha, rfl⟩, by show 256 - (i.1 + 1) < _; omega, rfl, ⟨rfl, rfl, rfl, fun _ => rfl, rfl, rfl, rfl, rfl, rfl, rfl, fun _ _ => rfl⟩⟩
theorem zw8 (p:PProg) (t:Thr):zq3 p t=(inIx t.fn p.funs.length/\RW zt (p.funs.getD t.fn.toNat c0f).code.length fun i=>encI ((p.funs.getD t.fn.toNat c0f).code.getD i c0i)):=by kernel_rfl
theorem zq6 (p : PProg) (t : Thr) (hf : 0 <= t.fn /\ t.fn < p.funs.length) : Known Tryz.prog GG 103 [vP p, vT t] (z9m (p.funs.getD t.fn.toNat c0f).code)  := by
  refine Known.of (V := vS2 12 fun _ => none) (fn := Tryz.f103) Tryz.func103 (by kernel_rfl) (zv _) rfl ?_
  show zq3 p t
  rw [zw8]
  simp only [SB, inIx]
  exact ⟨hf.1, hf.2⟩
theorem zt0 (t:Thr) (e:Int):zlo t e=(RR zd/\RI t.id/\RI t.fn/\RI t.pc/\(RR 8/\∀ i:Nat,RR (AV.int j6 (t.regs.getD i 0)))/\RI t.steps/\RI t.kids/\RI t.phase/\RI 3/\RI e/\(RW leaf t.held.length fun i=>AV.int j6 (t.held.getD i 0))/\True):=by kernel_rfl
theorem zgn (t : Thr) (e : Int) (_ : t.regs.length = 8) : Known Tryz.prog GG 154 [vT t, .int .i64 e] (vT (endT t 3 e))  := by
  refine Known.of (V := vS2 9 fun _ => none) (fn := Tryz.f154) Tryz.func154 (by kernel_rfl) (zv _) rfl ?_
  show zlo t e
  rw [zt0]
  simp only [SB]
section
variable (l:List Int) (v:Int) (x2:Nat)
def qgm:=x2<=l.length/\∀ j:Nat,j < x2->l.getD j 0≠v
def qvt:=l.getD (↑x2:Int).toNat 0 == v
end
theorem zw9 (l:List Int) (v:Int):zq4 l v=((∃ i,qgm l v i/\(q2h l/\RI v/\(RR j6/\(0:Int)=↑i)/\True)/\True)/\∀ i:Nat,qgm l v i->↑l.length<=(9223372036854775807:Int)/\(q2i l i=true->inIx (↑i) l.length/\(qvt l v i=true->true=hasI l v)/\(qvt l v i=false->InR j6 (q8 i)/\(∃ j,qgm l v j/\l.length - j < l.length - i/\(q2h l/\RI v/\(RR j6/\q8 i=↑j)/\True)/\True)))/\(q2i l i=false->false=hasI l v)):=by kernel_rfl
theorem zq7 (l : List Int) (v : Int) (hl : l.length <= 1000000) : Known Tryz.prog GG 212 [rowI l, .int .i64 v] (.bool (hasI l v))  := by
  refine Known.of (V := vS2 18 (zlb l v)) (fn := Tryz.f212) Tryz.func212 (by kernel_rfl) (zv _) rfl ?_
  show zq4 l v
  rw [zw9]; try delta qgm q2h qvt q8 q2i
  simp only [SB, inIx]
  refine ⟨⟨0, ⟨by omega, fun j hj => by omega⟩, rfl⟩, fun i hi => ⟨by omega, fun hlt => ⟨hlt, fun h => ?_, fun h => ⟨zg (by omega) (by omega), i + 1, ⟨by omega, fun j hj => ?_⟩, by omega, by omega⟩⟩, fun hge => ?_⟩⟩
  . exact ((z9x l v).2 ⟨i, hlt, h.symm⟩).symm
  . by_cases e : j = i
    . subst e; exact h
    . exact hi.2 j (by omega)
  . symm
    rw [Bool.eq_false_iff]
    intro h
    obtain ⟨j, hj, e⟩ := (z9x l v).1 h
    exact hi.2 j (by omega) e.symm
section
variable (i:Inst)
def q4y:=q4o i->q4o i
end
section
variable (t:Thr) (i:Inst)
def qvu:=i.op == 16&&!q6u t i
def qvv:=!qvu t i
def qgn:=qvv t i=true
def q74:=qgn t i->qgn t i
def qat:=(qvv t i&&i.op == 18)=true
def q75:=qat t i->qat t i
def qvw:=qvu t i||i.op == 18&&!q6t t i
end
theorem zt1 (t:Thr) (i:Inst):zlp t i=(((t.phase != 0)=true->q1z t i)/\((t.phase != 0)=false->q4y i/\q4y i/\q4y i/\q4y i/\(q4o i->KN 212 [rowI t.held,AV.int j6 i.obj] (AV.bool (q6u t i)))/\q4y i/\q4y i/\q74 t i/\q74 t i/\q74 t i/\q75 t i/\q75 t i/\q75 t i/\q75 t i/\(qat t i->KN 212 [rowI t.held,AV.int j6 i.n] (AV.bool (q6t t i)))/\q75 t i/\q74 t i/\(qgn t i->(i.op == 18)=true->qat t i)/\q74 t i/\(qvw t i=true->RR j6/\27=obsE t i)/\(qvw t i=false->((i.op == 21)=true->KN 157 [AV.mc zd (encT t)] (AV.tup [AV.int j6 (z3d (dT (encT t))),AV.bool (chB2 (dT (encT t)))])/\((!chB2 (dT (encT t)))=true->RR j6/\28=obsE t i)/\((!chB2 (dT (encT t)))=false->q1z t i))/\((i.op == 21)=false->q1z t i)))):=by kernel_rfl
theorem zt2 (t : Thr) (i : Inst) (ht : TOK t) : Known Tryz.prog GG 153 [vT t, vI i] (.int .i64 (obsE t i))  := by
  refine Known.of (V := vS2 44 fun _ => none) (fn := Tryz.f153) Tryz.func153 (by kernel_rfl) (zv _) rfl ?_
  show zlp t i
  rw [zt1]; try delta q1z q4o q4y q20 q6u qvu qvv qgn q74 qat q75 q6t qvw
  simp only [SB]
  have e : dT (encT t) = t := z2u t ht.regs
  have hh := ht.held
  simp only [e, oR]
  refine ⟨fun h => ?_, fun h0 => ⟨fun h16 => zq7 _ _ (by omega), fun h18 => zq7 _ _ (by omega), fun h => ?_, fun h => ⟨fun h21 => ⟨zsx t ht.regs ht.id, fun hc => ?_, fun hc => ?_⟩, fun n21 => ?_⟩⟩⟩
  . unfold obsE; rw [if_pos h]
  . unfold obsE; rw [if_neg (by simp [h0])]
    rcases h with ⟨h, h'⟩ | ⟨h, h'⟩
    . rw [if_pos (.inl h), if_neg (show ¬ i.op = 18 by omega), h']; rfl
    . rw [if_pos (.inr h), if_pos h, h']; rfl
  . unfold obsE; rw [if_neg (by simp [h0]), if_neg (by omega), if_pos h21, hc]; rfl
  . unfold obsE; rw [if_neg (by simp [h0]), if_neg (by omega), if_pos h21, hc]; rfl
  . unfold obsE; rw [if_neg (by simp [h0])]
    by_cases h1 : i.op = 16 ∨ i.op = 18
    . rw [if_pos h1]
      rcases h1 with h1 | h1
      . rw [if_neg (show ¬ i.op = 18 by omega), (h.1.resolve_left (fun q => q h1))]; rfl
      . rw [if_pos h1, (h.2.resolve_left (fun q => q h1))]; rfl
    . rw [if_neg h1, if_neg n21]
theorem zwa {p : PProg} {t : Thr} (ht : TWf p t) (h : ¬t.pc = ((p.funs.getD t.fn.toNat c0f).code.length : Int)) : atB p t = true /\ (p.funs.getD t.fn.toNat c0f).code.getD t.pc.toNat c0i = atI p t := by
  have h1 := ht.pc
  have e : atB p t = true := by unfold atB; rw [decide_eq_true_eq]; omega
  exact ⟨e, (zdp ht e).2.symm⟩
theorem zwb {t : Thr} {i : Inst} (h7 : i.op ≠ 7) (h6 : i.op ≠ 6 ∨ regT t i.b ≠ 0) : (locP t i).2 = true := by
  unfold locP endT
  repeat' split
  all_goals first
    | rfl
    | omega
theorem zlt {t : Thr} {i : Inst} (h7 : i.op ≠ 7) (h6 : i.op ≠ 6 ∨ regT t i.b ≠ 0) : (locP t i).1.fault = t.fault := by
  unfold locP endT
  repeat' split
  all_goals first
    | rfl
    | omega
section
variable (t:Thr)
def q4z:Nat:=0 + t.held.length
end
section
variable (p:PProg) (b:Int) (t:Thr) (x3:Nat × Thr)
def qgo:=x3.fst<=256/\TWf p x3.snd/\x3.snd.fault=0/\setl p b t=z4x p b (q3a x3) x3.snd
def qvx:=q4z t<=q4z t
variable (x1:Nat × Thr)
def qgp:List Inst:=((dR dF (rowF p.funs)).getD x1.snd.fn.toNat c0f).code
def qvy:=KN 103 [AV.mc za (encP p),AV.mc zd (encT x1.snd)] (z9m (qgp p x1))
def qvz:Nat:=(qgp p x1).length
def qw0:Int:=↑(qvz p x1)
def qgq:=RR 8/\∀ (i:Nat),q2m x3 i=q70 p b t i
def qgr:=(RR j6/\x3.snd.fault=(setl p b t).fault)/\(RR leaf/\x3.snd.held.length=(setl p b t).held.length/\∀ (i:Nat),i < x3.snd.held.length->q3b x3 i=q71 p b t i)/\True
def qw1:=RR zd/\qz p b t x3/\q10 p b t x3/\q11 p b t x3/\qgq p b t x3/\q12 p b t x3/\q13 p b t x3/\q14 p b t x3/\(RR j6/\2=(setl p b t).status)/\qgr p b t x3
def qw2:=x1.snd.pc == qw0 p x1
def qgs:Inst:=(qgp p x1).getD x1.snd.pc.toNat c0i
def qau:Int:=(qgs p x1).op
def qgt:=visB (qau p x1)
def qw3:=encI (qgs p x1)
def qw4:List AV:=[AV.mc zd (encT x1.snd),AV.mc zt (qw3 p x1)]
def qw5:Inst:=dIn (qw3 p x1)
def qgu:Int:=obsE (dT (encT x1.snd)) (qw5 p x1)
def qgv:=AV.int j6 (qgu p x1)
def qw6:=qgu p x1 != 0
def qw7:=qau p x1 == 7
def qw8:=qau p x1 == 6
def qgw:=qw8 p x1=true
def q50:=qgw p x1->qgw p x1
def qw9:Int:=(qgs p x1).b
def qwa:=qw8 p x1&&x1.snd.regs.getD (qw9 p x1).toNat 0 == 0
def q1b:Thr:=(locP (dT (encT x1.snd)) (qw5 p x1)).fst
def qwb:List Int:=(q1b p x1).held
def qwc:Nat:=(qwb p x1).length
end
theorem zwc (p:PProg) (b:Int) (t:Thr):zq5 p b t=(0 * leaf.size<=16777216/\(RR 0/\↑(q4z t) * ↑(8:Nat)<=(140737488355328:Int)/\q4z t<=9223372036854775807)/\(∃ (i:Nat × Thr),qgo p b t i/\qvx t/\qvx t/\(RI b/\RR (AV.ptr (3:Nat) [])/\RR (AV.ptr (5:Nat) [])/\RR (AV.ptr (6:Nat) [])/\(RR j6/\(0:Int)=(↑(Prod.fst i):Int))/\True)/\((27:Nat)=(27:TypeId)/\qa p)/\((51:Nat)=(51:TypeId)/\RR zd/\(RR j6/\Thr.id t=Thr.id (Prod.snd i))/\(RR j6/\Thr.fn t=Thr.fn (Prod.snd i))/\(RR j6/\Thr.pc t=Thr.pc (Prod.snd i))/\(RR (8:Nat)/\∀ (i_1:Nat),AV.int j6 (List.getD (Thr.regs t) i_1 (0:Int))=q2m i i_1)/\(RR j6/\Thr.steps t=Thr.steps (Prod.snd i))/\(RR j6/\Thr.kids t=Thr.kids (Prod.snd i))/\(RR j6/\Thr.phase t=Thr.phase (Prod.snd i))/\(RR j6/\Thr.status t=Thr.status (Prod.snd i))/\(RR j6/\Thr.fault t=Thr.fault (Prod.snd i))/\(RR leaf/\q4z t=List.length (Thr.held (Prod.snd i))/\∀ (i_1:Nat),i_1 < q4z t->(if i_1 < (0:Nat) then List.getD (List.replicate (0:Nat) (AV.int j6 (0:Int))) i_1 AV.any else AV.int j6 (List.getD (Thr.held t) (i_1 - (0:Nat)) (0:Int)))=q3b i i_1)/\True)/\((51:Nat)=(51:TypeId)/\RR zd/\RI (0:Int)/\RI (0:Int)/\RI (0:Int)/\(RR (8:Nat)/\∀ (i:Nat),AV.int j6 (0:Int)=q2n i)/\RI (0:Int)/\RI (0:Int)/\RI (0:Int)/\RI (0:Int)/\RI (0:Int)/\(0:Nat)=(0:Nat)/\True)/\True)/\∀ i:Nat × Thr,qgo p b t i->qvy p i/\qw0 p i<=9223372036854775807/\(qw2 p i=true->qw1 p b t i)/\(qw2 p i=false->qvy p i/\inIx i.snd.pc (qvz p i)/\KN 152 [AV.int j6 (qau p i)] (AV.bool (qgt p i))/\(qgt p i=true->KN 153 (qw4 p i) (qgv p i)/\(qw6 p i=true->KN 154 [AV.mc zd (encT i.snd),qgv p i] (AV.mc zd (AV.agg (AV.int j6 i.snd.id::AV.int j6 i.snd.fn::AV.int j6 i.snd.pc::q2o i::AV.int j6 i.snd.steps::AV.int j6 i.snd.kids::AV.int j6 i.snd.phase::AV.int j6 (3:Int)::qgv p i::q3c i)))/\RR zd/\qz p b t i/\q10 p b t i/\q11 p b t i/\q2p p b t i/\q12 p b t i/\q13 p b t i/\q14 p b t i/\q4x p b t/\(RR j6/\qgu p i=(setl p b t).fault)/\q3d p b t i)/\(qw6 p i=false->((i.snd.steps == b)=true->RR zd/\qz p b t i/\q10 p b t i/\q11 p b t i/\qgq p b t i/\q12 p b t i/\q13 p b t i/\q14 p b t i/\(RR j6/\4=(setl p b t).status)/\qgr p b t i)/\((i.snd.steps == b)=false->RR zd/\qz p b t i/\q10 p b t i/\q11 p b t i/\qgq p b t i/\q12 p b t i/\q13 p b t i/\q14 p b t i/\(RR j6/\i.snd.status=(setl p b t).status)/\qgr p b t i)))/\(qgt p i=false->(q72 i=true->KN 154 [AV.mc zd (encT i.snd),AV.int j6 (29:Int)] (AV.mc zd (AV.agg (AV.int j6 i.snd.id::AV.int j6 i.snd.fn::AV.int j6 i.snd.pc::q2o i::AV.int j6 i.snd.steps::AV.int j6 i.snd.kids::AV.int j6 i.snd.phase::AV.int j6 (3:Int)::AV.int j6 (29:Int)::q3c i)))/\RR zd/\qz p b t i/\q10 p b t i/\q11 p b t i/\q2p p b t i/\q12 p b t i/\q13 p b t i/\q14 p b t i/\q4x p b t/\(RR j6/\29=(setl p b t).fault)/\q3d p b t i)/\(q72 i=false->(qw7 p i=true->qw1 p b t i)/\(qw7 p i=false->q50 p i/\q50 p i/\q50 p i/\(qgw p i->inIx (qw9 p i) 8)/\q50 p i/\q50 p i/\q50 p i/\(qwa p i=true->KN 154 [AV.mc zd (encT i.snd),AV.int j6 (26:Int)] (AV.mc zd (AV.agg (AV.int j6 i.snd.id::AV.int j6 i.snd.fn::AV.int j6 i.snd.pc::q2o i::AV.int j6 i.snd.steps::AV.int j6 i.snd.kids::AV.int j6 i.snd.phase::AV.int j6 (3:Int)::AV.int j6 (26:Int)::q3c i)))/\RR zd/\qz p b t i/\q10 p b t i/\q11 p b t i/\q2p p b t i/\q12 p b t i/\q13 p b t i/\q14 p b t i/\q4x p b t/\(RR j6/\26=(setl p b t).fault)/\q3d p b t i)/\(qwa p i=false->KN 155 (qw4 p i) (AV.mc zd (encT (q1b p i)))/\InR j6 (q73 i)/\(∃ (j:Nat × Thr),qgo p b t j/\q3a j < q3a i/\(RI b/\RR (AV.ptr (3:Nat) [])/\RR (AV.ptr (5:Nat) [])/\RR (AV.ptr (6:Nat) [])/\(RR j6/\q73 i=(↑(Prod.fst j):Int))/\True)/\(RR (27:TypeId)/\qa p)/\(RR (51:TypeId)/\RR zd/\(RR j6/\Thr.id (q1b p i)=Thr.id (Prod.snd j))/\(RR j6/\Thr.fn (q1b p i)=Thr.fn (Prod.snd j))/\(RR j6/\Thr.pc (q1b p i)=Thr.pc (Prod.snd j))/\(RR (8:Nat)/\∀ (i_1:Nat),AV.int j6 (List.getD (Thr.regs (q1b p i)) i_1 (0:Int))=q2m j i_1)/\(RR j6/\Thr.steps (q1b p i)=Thr.steps (Prod.snd j))/\(RR j6/\Thr.kids (q1b p i)=Thr.kids (Prod.snd j))/\(RR j6/\Thr.phase (q1b p i)=Thr.phase (Prod.snd j))/\(RR j6/\Thr.status (q1b p i)=Thr.status (Prod.snd j))/\(RR j6/\Thr.fault (q1b p i)=Thr.fault (Prod.snd j))/\(RR leaf/\qwc p i=List.length (Thr.held (Prod.snd j))/\∀ (i_1:Nat),i_1 < qwc p i->AV.int j6 (List.getD (qwb p i) i_1 (0:Int))=q3b j i_1)/\True)/\(RR (51:TypeId)/\RR zd/\RI (0:Int)/\RI (0:Int)/\RI (0:Int)/\(RR (8:Nat)/\∀ (i:Nat),RR (q2n i))/\RI (0:Int)/\RI (0:Int)/\RI (0:Int)/\RI (0:Int)/\RI (0:Int)/\(RW leaf ((0:Nat)) fun (i:Nat)=>AV.int j6 (List.getD [] i (0:Int)))/\True)/\True))))))):=by kernel_rfl
theorem zwd (p : PProg) (b : Int) (t : Thr) (hp : POk p) (ht : TWf p t) (hf : t.fault = 0) : Known Tryz.prog GG 86 [vP p, .int .i64 b, vT t] (vT (setl p b t))  := by
  refine Known.of (V := { vS2 75 (zhx p b t) with fzL := fun _ => [10] }) (fn := Tryz.f86) Tryz.func86 (by kernel_rfl) (zv _) rfl ?_
  show zq5 p b t
  rw [zwc]; try delta q4z q3a qgo qvx qa q2m q3b q2n qgp qvy qvz qw0 qz q10 q11 q70 qgq q12 q13 q14 q71 qgr qw1 qw2 qgs qau qgt qw3 qw4 qw5 qgu qgv qgi q2o q3c q2p q4x q3d qw6 q72 qw7 qw8 qgw q50 qw9 qwa q1b q73 qwb qwc
  simp only [SB, inIx]
  have hr := ht.ok.regs
  have hh := ht.ok.held
  refine ⟨by decide, ⟨by omega, by omega⟩, ⟨(0, t), ⟨by simp, ht, hf, rfl⟩, rfl, ⟨rfl, rfl, rfl, fun _ => rfl, rfl, rfl, rfl, rfl, rfl, rfl, fun _ _ => rfl⟩, fun j => by rw [zls]⟩, fun i hi => ?_⟩
  obtain ⟨a1, a2, a4, a3⟩ := hi
  simp only [z2u _ a2.ok.regs, dA_8 a2.ok.regs]
  have hlen := (hp.code (f := i.2.fn.toNat) (by have := a2.fn; omega)).1
  refine ⟨zq6 p i.2 a2.fn, by omega, fun h => ?_, fun h => ⟨zq6 p i.2 a2.fn, by have := a2.pc; omega, ?_⟩⟩
  . have e : atB p i.2 = false := by unfold atB; rw [decide_eq_false_iff_not]; omega
    rw [a3, zw7 e]; exact ⟨rfl, rfl, rfl, fun _ => rfl, rfl, rfl, rfl, rfl, a4, rfl, fun _ _ => rfl⟩
  obtain ⟨ha, hi⟩ := zwa a2 h
  simp only [hi]
  have hc := (zbe (zf9 hp a2 ha)).1
  have hg := zf8 hc
  have h10 := a2.ok.regs
  refine ⟨z101 _, fun hv => ⟨zt2 i.2 _ a2.ok, fun ho => ⟨zgn i.2 _ h10, by rw [a3, zj9 ha hv]; unfold vsT; rw [if_pos ho]; exact ⟨rfl, rfl, rfl, fun _ => rfl, rfl, rfl, rfl, rfl, rfl, rfl, fun _ _ => rfl⟩⟩, fun ho => ⟨fun hs => by rw [a3, zj9 ha hv]; unfold vsT; rw [if_neg (by omega), if_pos hs]; exact ⟨rfl, rfl, rfl, fun _ => rfl, rfl, rfl, rfl, rfl, a4, rfl, fun _ _ => rfl⟩, fun hs => by rw [a3, zj9 ha hv]; unfold vsT; rw [if_neg (by omega), if_neg hs]; exact ⟨rfl, rfl, rfl, fun _ => rfl, rfl, rfl, rfl, rfl, rfl, rfl, fun _ _ => rfl⟩⟩⟩, fun hv => ⟨fun hn => ⟨zgn i.2 _ h10, by rw [a3, show 256 - i.1 = 0 by omega, s_0 ha hv]; exact ⟨rfl, rfl, rfl, fun _ => rfl, rfl, rfl, rfl, rfl, rfl, rfl, fun _ _ => rfl⟩⟩, fun hn => ?_⟩⟩
  rw [a3, s_k a1 hn, s_s ha hv]
  refine ⟨fun h7 => ?_, fun h7 => ⟨fun h6 => hg.b (by rw [h6]; rfl), fun h6 => ⟨zgn i.2 _ h10, ?_⟩, fun h6 => ⟨z10r i.2 _ a2.ok hg ?_ ?_ h7 ?_, zg (by omega) (by omega), (i.1 + 1, (locP i.2 (atI p i.2)).1), ⟨by show i.1 + 1 <= 256; omega, zlr hp a2 ha, ?_, ?_⟩, by show 256 - (i.1 + 1) < _; omega, rfl, ⟨rfl, rfl, rfl, fun _ => rfl, rfl, rfl, rfl, rfl, rfl, rfl, fun _ _ => rfl⟩⟩⟩⟩
  . have e : locP i.2 (atI p i.2) = (endT i.2 2 0, false) := by simp only [locP, h7, reduceIte, Int.reduceEq]
    rw [e]; exact ⟨rfl, rfl, rfl, fun _ => rfl, rfl, rfl, rfl, rfl, a4, rfl, fun _ _ => rfl⟩
  . have h6' : regT i.2 (atI p i.2).b = 0 := h6.2
    have e : locP i.2 (atI p i.2) = (endT i.2 3 26, false) := by simp only [locP, h6.1, h6', reduceIte, Int.reduceEq]
    rw [e]; exact ⟨rfl, rfl, rfl, fun _ => rfl, rfl, rfl, rfl, rfl, rfl, rfl, fun _ _ => rfl⟩
  . have := a2.small hp; omega
  . exact h6
  . intro h3; exact zw2 ((zsy hc).2.1 (by rw [h3]; rfl))
  . rw [zlt h7 h6]; exact a4
  . rw [if_pos (zwb h7 h6)]
end
end
end Go.Proofs.S25
namespace Go.Proofs.S25
open Go Go.AV
open Go.IntKind renaming i64 -> j6
open Go.AV.Shape (leaf)
noncomputable section
structure Formed (p : PProg) (b : Int) (t : Thr) : Prop where
  id : 0 <= depI t.id
  fn : 0 <= t.fn /\ t.fn < p.funs.length
  pc : 0 <= t.pc /\ t.pc <= ((p.funs.getD t.fn.toNat c0f).code.length : Int)
  regs : ∀ r ∈ t.regs, -2147483648 <= r /\ r <= 2147483647
  steps : 0 <= t.steps /\ t.steps <= b
  kids : 0 <= t.kids /\ t.kids <= 7
  deep : depI t.id = 4 -> t.kids = 0
  ris : Ris t.held
  held : ∀ m ∈ t.held, 0 <= m /\ m < p.muts.length
  ph : t.phase = 0 ∨ ((t.phase = 1 ∨ t.phase = 2) /\ atB p t = true /\ (atI p t).op = 18 /\ (atI p t).n ∉ t.held)
theorem zfa {p : PProg} {b : Int} {t : Thr} : z3y p b t = true ↔ Formed p b t := by
  unfold z3y
  rw [Bool.and_eq_true, Bool.and_eq_true, Bool.and_eq_true, Bool.and_eq_true]
  have hA : fmA p t = true ↔ 0 <= depI t.id /\ (0 <= t.fn /\ t.fn < p.funs.length) /\ 0 <= t.pc /\ t.pc <= ((p.funs.getD t.fn.toNat c0f).code.length : Int) := by
    unfold fmA; simp only [Bool.not_eq_true', Bool.or_eq_false_iff, decide_eq_false_iff_not]; omega
  have hR : fmR t = true ↔ ∀ r ∈ t.regs, -2147483648 <= r /\ r <= 2147483647 := by
    unfold fmR; rw [List.all_eq_true]
    exact ⟨fun h r hr => zf7.1 (by simpa using h r hr), fun h r hr => by simpa using zf7.2 (h r hr)⟩
  have hS : fmS b t = true ↔ (0 <= t.steps /\ t.steps <= b) /\ (0 <= t.kids /\ t.kids <= 7) /\ (depI t.id = 4 -> t.kids = 0) /\ Ris t.held := by
    unfold fmS
    rw [<- z8e]
    simp only [Bool.not_eq_true', Bool.or_eq_false_iff, decide_eq_false_iff_not, Bool.and_eq_false_iff, beq_eq_false_iff_ne, bne_eq_false_iff_eq, Bool.not_eq_false']
    constructor
    . rintro ⟨⟨⟨⟨⟨h1, h2⟩, h3⟩, h4⟩, h5⟩, h6⟩
      exact ⟨by omega, by omega, fun h => h5.resolve_left (fun q => q h), h6⟩
    . rintro ⟨h1, h2, h3, h4⟩
      refine ⟨⟨⟨⟨⟨by omega, by omega⟩, by omega⟩, by omega⟩, ?_⟩, h4⟩
      by_cases q : depI t.id = 4
      . exact .inr (h3 q)
      . exact .inl q
  have hH : fmH p t = true ↔ ∀ m ∈ t.held, 0 <= m /\ m < p.muts.length := by
    unfold fmH; rw [List.all_eq_true]
    simp only [Bool.not_eq_true', Bool.or_eq_false_iff, decide_eq_false_iff_not]
    exact ⟨fun h m hm => by have := h m hm; omega, fun h m hm => by have := h m hm; omega⟩
  have hP : fmP p t = true ↔ t.phase = 0 ∨ ((t.phase = 1 ∨ t.phase = 2) /\ atB p t = true /\ (atI p t).op = 18 /\ (atI p t).n ∉ t.held) := by
    unfold fmP
    simp only [Bool.or_eq_true, Bool.and_eq_true, beq_iff_eq, Bool.not_eq_true']
    rw [<- Bool.not_eq_true, zss]
    constructor
    . rintro (h | ⟨⟨⟨h1, h2⟩, h3⟩, h4⟩)
      . exact .inl h
      . exact .inr ⟨h1, h2, h3, h4⟩
    . rintro (h | ⟨h1, h2, h3, h4⟩)
      . exact .inl h
      . exact .inr ⟨⟨⟨h1, h2⟩, h3⟩, h4⟩
  rw [hA, hR, hS, hH, hP]
  exact ⟨fun ⟨⟨a, b, c⟩, d, ⟨e, f, g, h⟩, i, j⟩ => ⟨a, b, c, d, e, f, g, h, i, j⟩, fun ⟨a, b, c, d, e, f, g, h, i, j⟩ => ⟨⟨a, b, c⟩, d, ⟨e, f, g, h⟩, i, j⟩⟩
theorem zt3 : ∀ (n : Nat) (l : List Int), Ris l -> (∀ x ∈ l, 0 <= x /\ x < (n : Int)) -> l.length <= n := by
  have key : ∀ (l : List Int) (a : Int), Ris l -> (∀ x ∈ l, a <= x) -> ∀ n : Int, (∀ x ∈ l, x < n) -> a <= n -> (l.length : Int) <= n - a := by
    intro l
    induction l with
    | nil => intro a _ _ n _ h; simp; omega
    | cons y l ih =>
      intro a hr ha n hn _
      obtain ⟨h1, h2⟩ := List.pairwise_cons.1 hr
      have hy := hn y (by simp)
      have hya := ha y (by simp)
      have := ih (y + 1) h2 (fun x hx => by have := h1 x hx; omega) n (fun x hx => hn x (by simp [hx])) (by omega)
      simp only [List.length_cons]; omega
  intro n l hr h
  have := key l 0 hr (fun x hx => (h x hx).1) n (fun x hx => (h x hx).2) (by omega)
  omega
theorem Formed.hlen {p : PProg} {b : Int} {t : Thr} (hp : POk p) (h : Formed p b t) : t.held.length <= 4 := by
  have := hp.objs.1.2.1
  exact Nat.le_trans (zt3 p.muts.length _ h.ris h.held) this
theorem Formed.wf {p : PProg} {b : Int} {t : Thr} (h : Formed p b t) (ht : TOK t) : TWf p t := ⟨ht, h.fn, h.pc⟩
def zfb (id fn arg : Int) : Thr := ⟨id, fn, 0, arg :: List.replicate 7 0, 0, 0, 0, 1, 0, []⟩
def newT (p : PProg) (b id fn arg : Int) : Thr × Int :=
  if stdE p b ≠ 0 then (c0t, stdE p b) else if depI id < 0 then (c0t, 2) else if fn < 0 ∨ (p.funs.length : Int) <= fn then (c0t, 11) else if wr arg ≠ arg then (c0t, 2)
  else (setl p b (zfb id fn arg), 0)
def vRun (p : PProg) (b : Int) (t : Thr) : Bool := t.fault == 0 && (atB p t && (visB (atI p t).op && (obsE t (atI p t) == 0 && ((t.status == 1 && decide (t.steps < b)) || (t.status == 4 && decide (1 <= t.steps))))))
def vFin (p : PProg) (t : Thr) : Bool := t.fault == 0 && (t.phase == 0 && (!atB p t || (atI p t).op == 7))
def zt4 (p : PProg) (t : Thr) : Bool := t.phase == 0 && (atB p t && (if t.fault = 26 then (atI p t).op == 6 && regT t (atI p t).b == 0 else if t.fault = 29 then !visB (atI p t).op else t.fault != 0 && obsE t (atI p t) == t.fault))
def valT (p : PProg) (b : Int) (t : Thr) : Bool := z3y p b t && (if t.status = 1 ∨ t.status = 4 then vRun p b t else if t.status = 2 then vFin p t else if t.status = 3 then zt4 p t else false)
def z9n (p : PProg) (b : Int) (t : Thr) : Bool := stdE p b == 0 && valT p b t
def z3l (p : PProg) (t : Thr) : Bool := t.status == 1 && z9n p 32 t
def zu (p : PProg) (t : Thr) : Inst := if z3l p t then atI p t else c0i
def z1t (t : Thr) (m : Int) : Thr :=
  if t.phase = 0 then { t with held := remI t.held m, phase := 1 } else if t.phase = 1 then { t with phase := 2 } else { t with held := addI t.held m, phase := 0, pc := t.pc + 1 }
def wrote (t : Thr) (i : Inst) (r : Int) : Thr := { t with steps := t.steps + 1, regs := if (defI i).2 then setR t.regs (defI i).1 r else t.regs }
def z25 (t : Thr) (i : Inst) (r : Int) : Thr :=
  if i.op = 18 then z1t (wrote t i r) i.n
  else if (i.op = 17 /\ r ≠ 0) ∨ i.op = 15 then { wrote t i r with held := addI t.held i.obj, pc := t.pc + 1 }
  else if i.op = 16 then { wrote t i r with held := remI t.held i.obj, pc := t.pc + 1 }
  else if i.op = 21 then { wrote t i r with kids := t.kids + 1, pc := t.pc + 1 }
  else { wrote t i r with pc := t.pc + 1 }
def z16 (p : PProg) (b : Int) (t : Thr) (r : Int) : Thr × Int :=
  if stdE p b ≠ 0 then (c0t, stdE p b) else if valT p b t = false then (c0t, 1) else if t.status ≠ 1 then (c0t, 30) else if wr r ≠ r then (c0t, 2)
  else (setl p b (z25 t (atI p t) r), 0)
def z10w (l : List Int) (v : Int) : List Int := l.filter (fun x => decide (x < v)) ++ ([v] ++ l.filter fun x => decide (v < x))
def zo6 (l : List Int) (v : Int) : List Int := l.filter fun x => x != v
def spTv : FuncId -> List AV -> Option AV
  | 63, [.mc _ p, .int _ b, .int _ id, .int _ fn, .int _ arg] | 40, [.mc _ p, .int _ b, .int _ id, .int _ fn, .int _ arg] => some (.tup [vT (newT (dP p) b id fn arg).1, .int .i64 (newT (dP p) b id fn arg).2])
  | 174, [.mc _ p, .int _ b, .mc _ t] => some (.bool (valT (dP p) b (dT t)))
  | 162, [.mc _ p, .int _ b, .mc _ t] => some (.bool (z3y (dP p) b (dT t)))
  | 113, [.mc _ p, .int _ b, .mc _ t] | 102, [.mc _ p, .int _ b, .mc _ t] => some (.bool (z9n (dP p) b (dT t)))
  | 177, [.mc _ p, .mc _ t] | 77, [.mc _ p, .mc _ t] => some (.tup [vI (zu (dP p) (dT t)), .bool (z3l (dP p) (dT t))])
  | 192, [.mc _ t, .int _ m] => some (vT (z1t (dT t) m))
  | 129, [.mc _ p, .int _ b, .mc _ t, .int _ r] | 49, [.mc _ p, .int _ b, .mc _ t, .int _ r] => some (.tup [vT (z16 (dP p) b (dT t) r).1, .int .i64 (z16 (dP p) b (dT t) r).2])
  | 85, [.int _ n] => some (.bool (valB n))
  | 105, [.seq _ n f, .int _ v] => some (rowI (z10w (z1b n f) v))
  | 106, [.seq _ n f, .int _ v] => some (rowI (zo6 (z1b n f) v))
  | 44, [.seq _ n f, .int _ id] => some (.tup [.int .i64 (max (fid (dR dT (.seq zd n f)) id) 0), .bool (decide (0 <= fid (dR dT (.seq zd n f)) id))])
  | 31, [.mc _ a, .mc _ b] => some (.bool (dT a == dT b))
  | f, l => spSe f l
abbrev zfc (t : Thr) : BoxC := .cell 51 zd (encT t)
abbrev z6j (p : PProg) : BoxC := .cell 27 za (encP p)
abbrev z10x (i : Inst) : BoxC := .cell 92 zt (encI i)
noncomputable def vTv (n : Nat) (inv : Nat -> Option Inv) : VCtx := { C := cfgS n, CC := Known Tryz.prog GG, orc := fun _ _ => spTv, inv := inv }
noncomputable def zwe (p : PProg) (b id fn arg : Int) : Prop := fnVc (vTv 50 fun _ => none) Tryz.f63 [vP p, .int .i64 b, .int .i64 id, .int .i64 fn, .int .i64 arg] (.tup [vT (newT p b id fn arg).1, .int .i64 (newT p b id fn arg).2])
noncomputable def zq8 (p : PProg) (b : Int) (t : Thr) : Prop := fnVc (vTv 123 fun _ => none) Tryz.f174 [vP p, .int .i64 b, vT t] (.bool (valT p b t))
noncomputable def zlu (p : PProg) (b : Int) (t : Thr) : Prop := fnVc (vTv 17 fun _ => none) Tryz.f113 [vP p, .int .i64 b, vT t] (.bool (z9n p b t))
noncomputable def zwf (p : PProg) (t : Thr) : Prop := fnVc (vTv 21 fun _ => none) Tryz.f177 [vP p, vT t] (.tup [vI (zu p t), .bool (z3l p t)])
noncomputable def zwg (t : Thr) (m : Int) : Prop := fnVc (vTv 29 fun _ => none) Tryz.f192 [vT t, .int .i64 m] (vT (z1t t m))
def z7a (p : PProg) (b : Int) (t : Thr) (r : Int) : Prop := stdE p b = 0 /\ valT p b t = true /\ t.status = 1 /\ wr r = r
def zlv (p : PProg) (b : Int) (t : Thr) (r : Int) (k : Nat) : Option Inv := match Nat.beq k 15 with
  | true => some { ι := Unit, S := fun _ => ⟨[(1, .int .i64 b), (3, .int .i64 r), (4, .ptr 4 []), (6, .ptr 6 []), (8, .ptr 8 []), (11, .ptr 11 [])], [(4, z6j p), (6, zfc (wrote t (atI p t) r)), (8, zfc c0t), (11, z10x (atI p t))]⟩, μ := fun _ => 0, ok := fun _ => z7a p b t r }
  | false => match Nat.beq k 26 with
    | true => some { ι := Thr, S := fun u => ⟨[(1, .int .i64 b), (4, .ptr 4 []), (6, .ptr 6 []), (8, .ptr 8 [])], [(4, z6j p), (6, zfc u), (8, zfc c0t)]⟩, μ := fun _ => 0, ok := fun u => z7a p b t r /\ z25 t (atI p t) r = { u with pc := u.pc + 1 } /\ u.pc = t.pc }
    | false => match Nat.beq k 27 with
      | true => some { ι := Unit, S := fun _ => ⟨[(1, .int .i64 b), (4, .ptr 4 []), (6, .ptr 6 []), (8, .ptr 8 [])], [(4, z6j p), (6, zfc (z25 t (atI p t) r)), (8, zfc c0t)]⟩, μ := fun _ => 0, ok := fun _ => z7a p b t r }
      | false => none
noncomputable def zwh (p : PProg) (b : Int) (t : Thr) (r : Int) : Prop := fnVc { vTv 103 (fun _ => none) with cut := zlv p b t r } Tryz.f129 [vP p, .int .i64 b, vT t, .int .i64 r] (.tup [vT (z16 p b t r).1, .int .i64 (z16 p b t r).2])
end
end Go.Proofs.S25
