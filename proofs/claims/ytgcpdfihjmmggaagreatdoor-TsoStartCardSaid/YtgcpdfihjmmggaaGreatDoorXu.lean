import Derived.Test.YtgcpdfihjmmggaaGreatDoorXt
namespace Go.Proofs.S25
open Go Go.AV
open Go.IntKind renaming i64 -> j6
open Go.AV.Shape (leaf)
noncomputable section
open Go.IntKind renaming i64 -> j6
open Go.AV.Shape (leaf)
noncomputable section

structure MForm (m : Mem) : Prop where
  vars : m.vars.length <= 8
  owners : m.owners.length <= 4
  queues : m.queues.length <= 4
  ris : Ris m.sig
  vals : ∀ x ∈ m.vars, -2147483648 <= x /\ x <= 2147483647
  own : ∀ x ∈ m.owners, -1 <= x
  pos : ∀ x ∈ allI m, 0 <= x
  nd : (allI m).Nodup
theorem z9z {l : List Int} {i : Nat} (h : i < l.length) : l.getD i 0 ∈ l := by
  rw [List.getD_eq_getElem?_getD, List.getElem?_eq_getElem h]; exact List.getElem_mem h
theorem zdr {l : List Int} {i : Nat} {v : Int} (hi : i <= l.length) : hasI (l.take i) v = true ↔ ∃ j, j < i /\ v = l.getD j 0 := by
  rw [z9x]
  have hl : (l.take i).length = i := by rw [List.length_take]; omega
  constructor
  . rintro ⟨j, h1, h2⟩
    rw [hl] at h1
    refine ⟨j, h1, ?_⟩
    rw [h2, List.getD_eq_getElem?_getD, List.getD_eq_getElem?_getD, List.getElem?_take_of_lt h1]
  . rintro ⟨j, h1, h2⟩
    refine ⟨j, by omega, ?_⟩
    rw [h2, List.getD_eq_getElem?_getD, List.getD_eq_getElem?_getD, List.getElem?_take_of_lt h1]
theorem zfe (l : List Int) : l.Nodup ↔ ∀ i j, i < j -> j < l.length -> l.getD j 0 ≠ l.getD i 0 := by
  unfold List.Nodup
  rw [List.pairwise_iff_getElem]
  constructor
  . intro h i j hij hj
    have := h i j (by omega) hj hij
    simpa [List.getD_eq_getElem?_getD, hj, (show i < l.length by omega)] using fun e => this e.symm
  . intro h i j hi hj hij
    have := h i j hij hj
    intro e
    apply this
    simp [List.getD_eq_getElem?_getD, hj, hi, e]
theorem zbh (l : List Int) : zta l = true ↔ (∀ x ∈ l, 0 <= x) /\ l.Nodup := by
  unfold zta
  rw [List.all_eq_true, zfe]
  simp only [List.mem_range, Bool.and_eq_true, Bool.not_eq_true', decide_eq_false_iff_not]
  constructor
  . intro h
    refine ⟨fun x hx => ?_, fun i j hij hj e => ?_⟩
    . obtain ⟨i, hi, rfl⟩ := List.getElem_of_mem hx
      have := (h i hi).1
      rw [List.getD_eq_getElem?_getD, List.getElem?_eq_getElem hi] at this
      simpa using this
    . have := (h j hj).2
      rw [<- Bool.not_eq_true, zdr (by omega)] at this
      exact this ⟨i, hij, e⟩
  . rintro ⟨h1, h2⟩ i hi
    refine ⟨by have := h1 _ (z9z hi); omega, ?_⟩
    rw [<- Bool.not_eq_true, zdr (by omega)]
    rintro ⟨j, hj, e⟩
    exact h2 j i hj hi e
theorem zff {m : Mem} : z5j m = true ↔ MForm m := by
  unfold z5j
  simp only [Bool.and_eq_true, Bool.not_eq_true', Bool.or_eq_false_iff, decide_eq_false_iff_not, List.all_eq_true, decide_eq_true_eq, z8e, zbh]
  constructor
  . rintro ⟨⟨h1, h2, h3⟩, h4, h5, h6, h7, h8⟩
    exact ⟨by omega, by omega, by omega, h4, fun x hx => z5i.1 (h5 x hx), h6, h7, h8⟩
  . rintro ⟨h1, h2, h3, h4, h5, h6, h7, h8⟩
    exact ⟨⟨by omega, by omega, by omega⟩, h4, fun x hx => z5i.2 (h5 x hx), h6, h7, h8⟩
theorem za0 {m : Mem} (h : MForm m -> False) : false = z5j m := by
  cases hf : z5j m with
  | false => rfl
  | true => exact (h (zff.1 hf)).elim
theorem zfg (l : List (List Int)) (i : Nat) (hi : i < l.length) : (l.take (i + 1)).flatten = (l.take i).flatten ++ l.getD i [] := by
  have e : l.take (i + 1) = l.take i ++ [l.getD i []] := by
    rw [List.take_add_one, List.getD_eq_getElem?_getD, List.getElem?_eq_getElem hi]; rfl
  rw [e, List.flatten_append]; simp
theorem zm6 (l : List (List Int)) (i : Nat) : (l.take i).flatten.length <= l.flatten.length := by
  have : l.flatten = (l.take i).flatten ++ (l.drop i).flatten := by rw [<- List.flatten_append, List.take_append_drop]
  rw [this, List.length_append]; omega
theorem zgq (l : List (List Int)) (i : Nat) : (l.getD i []).length <= l.flatten.length := by
  by_cases hi : i < l.length
  . have h1 := zfg l i hi
    have h2 := zm6 l (i + 1)
    rw [h1, List.length_append] at h2; omega
  . rw [List.getD_eq_getElem?_getD, List.getElem?_eq_none (by omega)]; simp
theorem MSm.q {m : Mem} (hm : MSm m) (i : Nat) : (m.queues.getD i []).length <= 1000000 := by
  have h1 := hm.all
  have h2 := zgq m.queues i
  unfold allI at h1
  rw [List.length_append] at h1; omega
theorem zwr (L q : List Int) (j : Nat) : (if j < L.length then AV.int .i64 (L.getD j 0) else AV.int .i64 (q.getD (j - L.length) 0)) = AV.int .i64 ((L ++ q).getD j 0) := by
  split
  . rename_i h
    rw [List.getD_eq_getElem?_getD, List.getD_eq_getElem?_getD, List.getElem?_append_left h]
  . rename_i h
    rw [List.getD_eq_getElem?_getD, List.getD_eq_getElem?_getD, List.getElem?_append_right (by omega)]
theorem zja {l : List Int} {i : Nat} (hi : i <= l.length) : z1b i (fun j => AV.int .i64 (l.getD j 0)) = l.take i := by
  show (List.range i).map _ = _
  apply List.ext_getElem (by simp; omega)
  intro j h1 h2
  have hj : j < i := by simpa using h1
  simp [dI, List.getD_eq_getElem?_getD, (show j < l.length by omega)]
theorem zoa {g : FuncId} {l : List Int} {i : Nat} {v : Int} {r : AV} (hi : i <= l.length) (h : Known Tryz.prog GG g [rowI (l.take i), .int .i64 v] r) : Known Tryz.prog GG g [.seq .leaf i fun j => AV.int .i64 (l.getD j 0), .int .i64 v] r := by
  refine h.weaken (args' := [_, _]) rfl ⟨⟨rfl, by rw [List.length_take]; omega, fun j hj => ?_⟩, ⟨rfl, rfl⟩, trivial⟩
  show AV.int .i64 (l.getD j 0) = AV.int .i64 ((l.take i).getD j 0)
  rw [List.getD_eq_getElem?_getD, List.getD_eq_getElem?_getD, List.getElem?_take_of_lt hj]
section
variable (l:List Int)
def q7l:=↑l.length<=(9223372036854775807:Int)
end
theorem zob (l:List Int):zhz l=(q7l l/\((0:Int)<=↑l.length/\(↑l.length:Int)<=(↑l.length:Int)/\↑(8:Nat) * ↑l.length<=(140737488355328:Int)/\q7l l)/\((↑l.length:Int).toNat<=(↑l.length:Int).toNat/\(↑(↑l.length:Int).toNat:Int)<=9223372036854775807)/\((RR 6/\(↑l.length:Int).toNat=l.length)/\True)/\(RR (3:TypeId)/\RR leaf/\(↑l.length:Int).toNat=l.length/\∀ i:Nat,i < (↑l.length:Int).toNat->(if i < min l.length (↑l.length:Int).toNat then AV.int j6 (l.getD i 0) else AV.int j6 0)=AV.int j6 (l.getD i 0))/\True):=by kernel_rfl
theorem z5k (l : List Int) (hl : l.length <= 1000000) : KnownF Tryz.prog GG 225 [rowI l] (.own 0 l.length) [iBox l] := by
  refine KnownF.of (V := vM2 11 fun _ => none) (fn := Tryz.f225) Tryz.func225 (by kernel_rfl) (zl _ _) rfl ?_
  show zhz l
  rw [zob]; try delta q7l
  simp only [SB]
  refine ⟨by omega, ⟨by omega, by omega⟩, by omega, fun i hi => ?_⟩
  rw [if_pos (by omega)]
section
variable (l:List Int)
def qyc:=(↑l.length:Int).toNat<=(↑l.length:Int).toNat
end
theorem zoc (l:List Int):zi0 l=(q7l l/\((0:Int)<=↑l.length/\(↑l.length:Int)<=(↑l.length:Int)/\↑(8:Nat) * ↑l.length<=(140737488355328:Int)/\q7l l)/\(qyc l/\(↑(↑l.length:Int).toNat:Int)<=9223372036854775807)/\qyc l/\RR leaf/\(↑l.length:Int).toNat=l.length/\∀ i:Nat,i < (↑l.length:Int).toNat->(if i < min l.length (↑l.length:Int).toNat then AV.int j6 (l.getD i 0) else AV.int j6 0)=AV.int j6 (l.getD i 0)):=by kernel_rfl
theorem zi2 (l : List Int) (hl : l.length <= 1000000) : Known Tryz.prog GG 225 [rowI l] (rowI l)  := by
  refine Known.of (V := vM2 11 fun _ => none) (fn := Tryz.f225) Tryz.func225 (by kernel_rfl) (zl _ _) rfl ?_
  show zi0 l
  rw [zoc]; try delta q7l qyc
  simp only [SB]
  refine ⟨by omega, ⟨by omega, by omega⟩, by omega, fun i hi => ?_⟩
  rw [if_pos (by omega)]
section
variable (m:Mem)
def qyd:=↑m.vars.length<=(9223372036854775807:Int)
def qye:=decide ((8:Int) < ↑m.vars.length)
def qhl:=(!qye m)=true
def qba:=qhl m->qhl m
def qyf:=↑m.owners.length<=(9223372036854775807:Int)
def qyg:=qye m||decide ((4:Int) < ↑m.owners.length)
def qhm:=(!qyg m)=true
def qbb:=qhm m->qhm m
def q1l:=↑m.queues.length<=(9223372036854775807:Int)
def qyh:=qyg m||decide ((4:Int) < ↑m.queues.length)
def qhn:=(!qyh m)=true
def qbc:=qhn m->qhn m
def q7m:Nat->AV:=fun i=>AV.int j6 (m.sig.getD i 0)
def q7n:List Int:=z1b m.sig.length (q7m m)
def qyi:=z5p (q7n m)
def qyj:=qyh m||!qyi m
variable (x1:Nat)
def qho:=x1<=m.vars.length/\∀ j:Nat,j < x1->valB (m.vars.getD j 0)=true
def qhp:=RW leaf m.vars.length fun i=>AV.int j6 (m.vars.getD i 0)
def qhq:=RW leaf m.owners.length fun i=>AV.int j6 (m.owners.getD i 0)
def q1f:=RW leaf m.queues.length fun i=>rowI (m.queues.getD i [])
def qyk:=RR zw/\qhp m/\qhq m/\q1f m/\RW leaf m.sig.length (q7m m)/\True
def qyl:=decide (m.vars.getD (↑x1:Int).toNat 0 < -2147483648)
def qym:=(!qyl m x1)=true
def qyn:=qym m x1->qym m x1
def qyo:=qyl m x1||decide (2147483647 < m.vars.getD (↑x1:Int).toNat 0)
def qhr:=(RR (32:TypeId)/\qyk m)/\True
def qyp:=decide ((↑x1:Int) < (↑m.vars.length:Int))
def qhs:=x1<=m.owners.length/\∀ j:Nat,j < x1->-1<=m.owners.getD j 0
def qyq:=decide (m.owners.getD (↑x1:Int).toNat 0 < -1)
def qyr:=decide ((↑x1:Int) < (↑m.owners.length:Int))
def q1g:Nat:=(q7n m).length
def q2q:=AV.int j6 ((q7n m).getD x1 0)
def qys:List Int:=m.sig++(List.take x1 m.queues).flatten
def q1h:Nat:=(qys m x1).length
variable (x2:Nat)
def qbd:=AV.int j6 ((qys m x1).getD x2 0)
def qbe:Nat:=q1h m x1 + (m.queues.getD (↑x1:Int).toNat []).length
def q2r:Nat:=m.queues.length - x1
def qyt:=qbe m x1=q1h m x2
def q2s:=decide ((↑x1:Int) < (↑m.queues.length:Int))
def qyu:Int:=↑(q1h m x1)
def qht:=x1<=(allI m).length/\∀ j:Nat,j < x1->0<=(allI m).getD j 0/\hasI (List.take j (allI m)) ((allI m).getD j 0)=false
def qyv:=q1h m x1<=q1h m x1
def qyw:=RR leaf/\q1h m x1=(allI m).length/\∀ (i:Nat),i < q1h m x1->qbd m x1 i=AV.int j6 ((allI m).getD i 0)
def qyx:=decide ((allI m).getD (↑x1:Int).toNat 0 < 0)
def qbf:=(!qyx m x1)=true
def q7o:=qbf m x1->qbf m x1
variable (x0:Nat)
def qyy:Nat:=(↑x0 - (0:Int)).toNat
def qyz:Nat->AV:=fun i=>AV.int j6 ((allI m).getD (Int.toNat 0 + i) 0)
def qz0:Int:=(allI m).getD (↑x1:Int).toNat 0
def qz1:=hasI (z1b (qyy x1) (qyz m)) (qz0 m x1)
def qz2:=qyx m x1||qz1 m x1
def qz3:=RW leaf (allI m).length fun i=>AV.int j6 ((allI m).getD i 0)
def qz4:=decide ((↑x1:Int) < (↑(allI m).length:Int))
end
theorem zod (m:Mem):zi1 m=(qyd m/\qba m/\qba m/\(qhl m->qyf m)/\qba m/\qba m/\qbb m/\qbb m/\(qhm m->q1l m)/\qbb m/\qbb m/\qbc m/\qbc m/\(qhn m->KN 224 [rowI m.sig] (AV.bool (qyi m)))/\qbc m/\qbc m/\(qyj m=true->false=z5j m)/\(qyj m=false->qyd m/\(∃ i,qho m i/\(RR (AV.ptr (1:Nat) [])/\qhp m/\RI ↑m.vars.length/\qc i)/\((32:Nat)=(32:TypeId)/\qyk m)/\True)/\∀ i:Nat,qho m i->(qyp m i=true->inIx (↑i) m.vars.length/\qyn m i/\qyn m i/\(qyo m i=true->false=z5j m)/\(qyo m i=false->q9 i/\(∃ j,qho m j/\m.vars.length - j < m.vars.length - i/\(RR (AV.ptr 1 [])/\qhp m/\RI ↑m.vars.length/\qd i j)/\qhr m)))/\(qyp m i=false->qyf m/\(∃ i,qhs m i/\(RR (AV.ptr 1 [])/\qhq m/\RI ↑m.owners.length/\qc i)/\qhr m)/\∀ (i:Nat),qhs m i->(qyr m i=true->inIx (↑i:Int) m.owners.length/\(qyq m i=true->false=z5j m)/\(qyq m i=false->q9 i/\∃ j,qhs m j/\m.owners.length - j < m.owners.length - i/\(RR (AV.ptr (1:Nat) [])/\qhq m/\RI (↑m.owners.length:Int)/\qd i j)/\qhr m))/\(qyr m i=false->KnownF Tryz.prog GG (225:Nat) [rowI m.sig] (AV.own (0:Nat) m.sig.length) [BoxC.row (3:TypeId) leaf (q1g m) fun i=>q2q m i]/\q1l m/\(∃ i,i<=m.queues.length/\((RR (249856:Nat)/\m.sig.length=q1h m i)/\q1f m/\RI (↑m.queues.length:Int)/\qc i)/\(RR (3:TypeId)/\RR leaf/\q1g m=q1h m i/\∀ (i_1:Nat),i_1 < q1g m->q2q m i_1=qbd m i i_1)/\True)/\∀ (i:Nat),i<=m.queues.length->(q2s m i=true->inIx (↑i:Int) m.queues.length/\(RR (q1h m i)/\(↑(qbe m i):Int) * (↑(8:Nat):Int)<=(140737488355328:Int)/\qbe m i<=(9223372036854775807:Nat))/\q9 i/\∃ j,j<=m.queues.length/\q2r m j < q2r m i/\((RR (249856:Nat)/\qyt m i j)/\q1f m/\RI (↑m.queues.length:Int)/\qd i j)/\(RR (3:TypeId)/\RR leaf/\qyt m i j/\∀ (i_1:Nat),i_1 < qbe m i->(if i_1 < (m.sig++(List.take i m.queues).flatten).length then qbd m i i_1 else AV.int j6 ((m.queues.getD (↑i:Int).toNat []).getD (i_1 - q1h m i) (0:Int)))=qbd m j i_1)/\True)/\(q2s m i=false->qyu m i<=(9223372036854775807:Int)/\(∃ i_1,qht m i_1/\qyv m i/\qyv m i/\(qyw m i/\qyw m i/\(RR j6/\qyu m i=(↑(allI m).length:Int))/\qc i_1)/\True)/\∀ (i:Nat),qht m i->(qz4 m i=true->inIx (↑i:Int) (allI m).length/\q7o m i/\q7o m i/\(qbf m i->(0:Int)<=(0:Int)/\(0:Int)<=(↑i:Int)/\(↑i:Int)<=(↑(allI m).length:Int))/\q7o m i/\q7o m i/\(qbf m i->KN 53 [AV.seq leaf (qyy i) (qyz m),AV.int j6 (qz0 m i)] (AV.bool (qz1 m i)))/\q7o m i/\(qz2 m i=true->false=z5j m)/\(qz2 m i=false->q9 i/\∃ j,qht m j/\(allI m).length - j < (allI m).length - i/\(qz3 m/\qz3 m/\RI (↑(allI m).length:Int)/\qd i j)/\True))/\(qz4 m i=false->true=z5j m)))))):=by kernel_rfl
theorem zi3 (m : Mem) (hm : MSm m) : Known Tryz.prog GG 173 [vM m] (.bool (z5j m))  := by
  refine Known.of (V := { vM2 89 (zwp m) with fzL := fun k => match Nat.beq k 22 with | true => [249856] | false => [] }) (fn := Tryz.f173) Tryz.func173 (by kernel_rfl) (zl _ _) rfl ?_
  show zi1 m
  rw [zod]; try delta qyd qye qhl qba qyf qyg qhm qbb q1l qyh qhn qbc q7m q7n qyi qyj qho qhp qc qhq q1f qyk qyl qym qyn qyo q8 q9 qd qhr qyp qhs qyq qyr q1g q2q qys q1h qbd qbe q2r qyt q2s qyu qht qyv qyw qyx qbf q7o qyy qyz qz0 qz1 qz2 qz3 qz4
  simp only [SB, inIx]
  simp only [oR]
  obtain ⟨s1, s2, s3, s4, s5⟩ := hm
  have hA : allI m = m.sig ++ m.queues.flatten := rfl
  have hAl : (allI m).length = m.sig.length + m.queues.flatten.length := by rw [hA, List.length_append]
  refine ⟨by omega, fun _ => by omega, fun _ => by omega, fun _ => zvr _ s4, fun h => za0 fun M => ?_, fun h0 => ⟨by omega, ⟨0, ⟨by omega, fun j hj => by omega⟩, rfl⟩, fun i hi => ⟨fun hlt => ⟨hlt, fun h => za0 fun M => ?_, fun h => ⟨zg (by omega) (by omega), i + 1, ⟨by omega, fun j hj => ?_⟩, by omega, by omega⟩⟩, fun hge => ?_⟩⟩⟩
  . have h1 := M.vars
    have h2 := M.owners
    have h3 := M.queues
    rcases h with h | h
    . omega
    . rw [z8e.2 M.ris] at h; cases h
  . have := M.vals _ (z9z hlt); omega
  . by_cases e2 : j = i
    . subst e2; exact z5i.2 (by omega)
    . exact hi.2 j (by omega)
  have hv : ∀ x ∈ m.vars, valB x = true := fun x hx => by
    obtain ⟨j, hj, rfl⟩ := List.getElem_of_mem hx
    have := hi.2 j (by omega)
    simpa [List.getD_eq_getElem?_getD, hj] using this
  clear hi hge
  refine ⟨by omega, ⟨0, ⟨by omega, fun j hj => by omega⟩, rfl⟩, fun i hi => ⟨fun hlt => ⟨hlt, fun h => za0 fun M => ?_, fun h => ⟨zg (by omega) (by omega), i + 1, ⟨by omega, fun j hj => ?_⟩, by omega, by omega⟩⟩, fun hge => ?_⟩⟩
  . have := M.own _ (z9z hlt); omega
  . by_cases e2 : j = i
    . subst e2; omega
    . exact hi.2 j (by omega)
  have ho : ∀ x ∈ m.owners, -1 <= x := fun x hx => by
    obtain ⟨j, hj, rfl⟩ := List.getElem_of_mem hx
    have := hi.2 j (by omega)
    simpa [List.getD_eq_getElem?_getD, hj] using this
  clear hi hge
  refine ⟨z5k _ s4, by omega, ⟨0, by omega, ⟨by simp, rfl⟩, by simp, fun j hj => by simp⟩, fun i hi => ⟨fun hlt => ?_, fun hge => ?_⟩⟩
  . have h1 := zfg m.queues i hlt
    have h2 := zm6 m.queues i
    have h3 := zgq m.queues i
    have h4 : (m.sig ++ (m.queues.take i).flatten).length <= 1000000 := by rw [List.length_append]; omega
    refine ⟨hlt, ⟨by omega, by omega⟩, zg (by omega) (by omega), i + 1, hlt, by omega, ?_⟩
    rw [h1, <- List.append_assoc]
    exact ⟨⟨by rw [List.length_append (bs := m.queues.getD i [])], by omega⟩, by rw [List.length_append (bs := m.queues.getD i [])], fun j hj => zwr _ _ j⟩
  have e : m.sig ++ (m.queues.take i).flatten = allI m := by rw [List.take_of_length_le (by omega : m.queues.length <= i), hA]
  rw [e]
  clear hi hge
  refine ⟨by omega, ⟨0, ⟨by omega, fun j hj => by omega⟩, ⟨rfl, fun _ _ => rfl⟩, ⟨rfl, fun _ _ => rfl⟩, rfl, rfl⟩, fun i hi => ⟨fun hlt => ?_, fun hge => ?_⟩⟩
  . rw [zja (by omega)]
    refine ⟨hlt, fun _ => by omega, fun _ => zoa (by omega) (zcj _ _ (by rw [List.length_take]; omega)), fun h => za0 fun M => ?_, fun h => ⟨zg (by omega) (by omega), i + 1, ⟨by omega, fun j hj => ?_⟩, by omega, by omega⟩⟩
    . rcases h with h | h
      . have := M.pos _ (z9z hlt); omega
      . obtain ⟨j, hj, e⟩ := (zdr (by omega)).1 h
        exact (zfe _).1 M.nd j i hj hlt e
    . by_cases e2 : j = i
      . subst e2; exact ⟨by omega, h.2⟩
      . exact hi.2 j (by omega)
  . symm
    refine zff.2 ⟨by omega, by omega, by omega, z8e.1 h0.2, fun x hx => z5i.1 (hv x hx), ho, ?_, ?_⟩
    . exact ((zbh _).1 (List.all_eq_true.2 fun j hj => by
        have := hi.2 j (by have := List.mem_range.1 hj; omega)
        rw [this.2]; simp; exact this.1)).1
    . exact ((zbh _).1 (List.all_eq_true.2 fun j hj => by
        have := hi.2 j (by have := List.mem_range.1 hj; omega)
        rw [this.2]; simp; exact this.1)).2
section
variable (m:Mem)
def qhu:Nat->AV:=fun i=>AV.int j6 (m.vars.getD i 0)
def qhv:List Int:=z1b m.vars.length (qhu m)
def q3e:Nat:=(qhv m).length
variable (x1:Nat)
def q7p:=AV.int j6 ((qhv m).getD x1 0)
def qhw:Nat->AV:=fun i=>AV.int j6 (m.owners.getD i 0)
def qhx:List Int:=z1b m.owners.length (qhw m)
def q3f:Nat:=(qhx m).length
def q7q:=AV.int j6 ((qhx m).getD x1 0)
def q54:=RW leaf m.vars.length (qhu m)
def q55:=RW leaf m.owners.length (qhw m)
def q7r:=RW leaf m.sig.length (q7m m)
def qz5:=RR zw/\q54 m/\q55 m/\q1f m/\q7r m/\True
def q7s:=RR 8/\RR m.vars.length
def q7t:=RR 11/\RR m.owners.length
def q7u:=(↑m.queues.length:Int).toNat=m.queues.length
def q7v:=(RR 18/\RR m.sig.length)/\True
variable (x2:Nat)
def q23:=if x2 < x1 then rowI (m.queues.getD x2 []) else AV.nils
def q7w:=rowI (z1b (m.queues.getD (↑x1:Int).toNat []).length fun i=>AV.int j6 ((m.queues.getD (↑x1:Int).toNat []).getD i 0))
def qe:=RW leaf ((0:Nat)) fun (i:Nat)=>AV.int j6 (List.getD [] i (0:Int))
def qz6:=RR zw/\q7s m/\q7t m/\(RR 15/\RR m.queues.length)/\q7v m
def qz7:=RR (3:TypeId)/\q54 m
def qz8:=RR (3:TypeId)/\q55 m
def qz9:=(RR (3:TypeId)/\q7r m)/\True
end
theorem ztc (m:Mem):zm4 m=((KnownF Tryz.prog GG (225:Nat) [rowI m.vars] (AV.own (0:Nat) m.vars.length) [BoxC.row (3:TypeId) leaf (q3e m) fun i=>q7p m i])/\(KnownF Tryz.prog GG (225:Nat) [rowI m.owners] (AV.own (0:Nat) m.owners.length) [BoxC.row (3:TypeId) leaf (q3f m) fun i=>q7q m i])/\q1l m/\((0:Int)<=↑m.queues.length/\(↑m.queues.length:Int)<=(↑m.queues.length:Int)/\↑(24:Nat) * ↑m.queues.length<=(140737488355328:Int)/\q1l m)/\(KnownF Tryz.prog GG (225:Nat) [rowI m.sig] (AV.own (0:Nat) m.sig.length) [BoxC.row (3:TypeId) leaf (q1g m) fun i=>q2q m i])/\q1l m/\(∃ (i:Nat),i<=List.length (Mem.queues m)/\(RR (AV.ptr (1:Nat) [])/\RR (AV.ptr (2:Nat) [])/\RR (AV.ptr (3:Nat) [])/\q1f m/\RI (↑(List.length (Mem.queues m)):Int)/\(RR j6/\(0:Int)=(↑i:Int))/\True)/\((32:Nat)=(32:TypeId)/\qz5 m)/\((32:Nat)=(32:TypeId)/\RR zw/\(0:Nat)=(0:Nat)/\(0:Nat)=(0:Nat)/\(0:Nat)=(0:Nat)/\(0:Nat)=(0:Nat)/\True)/\((32:Nat)=(32:TypeId)/\RR zw/\q7s m/\q7t m/\(RR (15:Nat)/\q7u m)/\q7v m)/\(RR (3:TypeId)/\RR leaf/\q3e m=List.length (Mem.vars m)/\∀ (i:Nat),i < q3e m->q7p m i=AV.int j6 (List.getD (Mem.vars m) i (0:Int)))/\(RR (3:TypeId)/\RR leaf/\q3f m=List.length (Mem.owners m)/\∀ (i:Nat),i < q3f m->q7q m i=AV.int j6 (List.getD (Mem.owners m) i (0:Int)))/\(RR (29:TypeId)/\RR leaf/\q7u m/\∀ (i_1:Nat),i_1 < Int.toNat (↑(List.length (Mem.queues m)):Int)->AV.nils=q23 m i i_1)/\(RR (3:TypeId)/\RR leaf/\q1g m=List.length (Mem.sig m)/\∀ (i:Nat),i < q1g m->q2q m i=AV.int j6 (List.getD (Mem.sig m) i (0:Int)))/\True)/\∀ i:Nat,i<=m.queues.length->(q2s m i=true->inIx (↑i) m.queues.length/\KN 225 [rowI (m.queues.getD (↑i:Int).toNat [])] (q7w m i)/\inIx (↑i) m.queues.length/\(↑i:Int).toNat < m.queues.length/\InR j6 (q8 i)/\(∃ (j:Nat),j<=List.length (Mem.queues m)/\q2r m j < q2r m i/\(RR (AV.ptr (1:Nat) [])/\RR (AV.ptr (2:Nat) [])/\RR (AV.ptr (3:Nat) [])/\q1f m/\RI (↑(List.length (Mem.queues m)):Int)/\(RR j6/\q8 i=(↑j:Int))/\True)/\(RR (32:TypeId)/\qz5 m)/\(RR (32:TypeId)/\RR zw/\qe/\qe/\(RW leaf ((0:Nat)) fun (i:Nat)=>rowI (List.getD [] i []))/\qe/\True)/\(RR (32:TypeId)/\qz6 m)/\qz7 m/\qz8 m/\(RR (29:TypeId)/\RR leaf/\RR (List.length (Mem.queues m))/\∀ (i_1:Nat),i_1 < List.length (Mem.queues m)->(if i_1=Int.toNat (↑i:Int) then strip1 (q7w m i) else q23 m i i_1)=q23 m j i_1)/\qz9 m))/\(q2s m i=false->(qz6 m/\True)/\qz7 m/\qz8 m/\(RR (29:TypeId)/\RR leaf/\RR m.queues.length/\∀ (i_1:Nat),i_1 < m.queues.length->q23 m i i_1=rowI (m.queues.getD i_1 []))/\qz9 m)):=by kernel_rfl
theorem ztd (m : Mem) (hm : MSm m) : KnownF Tryz.prog GG 185 [vM m] (ztb m) (zm3 m) := by
  refine KnownF.of (V := vM3 36 (fun d => Nat.beq d 8 || (Nat.beq d 11 || Nat.beq d 18)) (zo9 m)) (fn := Tryz.f185) Tryz.func185 (by kernel_rfl) (zl _ _) rfl ?_
  show zm4 m
  rw [ztc]; try delta qhu qhv q3e q7p qhw qhx q3f q7q q1l q7m q7n q1g q2q q1f q54 q55 q7r qz5 q7s q7t q7u q7v q23 q7w q8 q2r qe qz6 qz7 qz8 qz9 q2s
  simp only [SB, inIx]
  simp only [oR, implies_true, and_true, true_and]
  have s3 := hm.queues
  refine ⟨z5k _ hm.vars, z5k _ hm.owners, by omega, ⟨by omega, by omega⟩, z5k _ hm.sig, by omega, ⟨0, by omega, rfl, fun j hj => by rw [if_neg (by omega)]⟩, fun i hi => ⟨fun hlt => ⟨hlt, zi2 _ (hm.q i), hlt, hlt, zg (by omega) (by omega), i + 1, hlt, by omega, by omega, fun j hj => ?_⟩, fun hge j hj => by rw [if_pos (by omega)]⟩⟩
  by_cases e : j = i
  . subst e; rw [if_pos rfl, if_pos (by omega)]; rfl
  . rw [if_neg e]
    by_cases h : j < i
    . rw [if_pos h, if_pos (by omega)]
    . rw [if_neg h, if_neg (by omega)]
section
variable (i:Int)
def qza:=decide (i < 0)
def qzb:=(!qza i)=true
def qhy:=qzb i->qzb i
variable (n:Int)
def qzc:=qza i||decide (n<=i)
end
theorem z118 (m:Mem) (i n:Int):zwq m i n=(KN 173 [AV.mc zw (encM m)] (AV.bool (z5j (dM (encM m))))/\((!z5j (dM (encM m)))=true->RR j6/\1=insE m i n)/\((!z5j (dM (encM m)))=false->qhy i/\qhy i/\qhy i/\(qzc i n=true->RR j6/\11=insE m i n)/\(qzc i n=false->RR j6/\0=insE m i n))):=by kernel_rfl
theorem zte (m : Mem) (i n : Int) (hm : MSm m) : Known Tryz.prog GG 189 [vM m, .int .i64 i, .int .i64 n] (.int .i64 (insE m i n))  := by
  refine Known.of (V := vM2 17 fun _ => none) (fn := Tryz.f189) Tryz.func189 (by kernel_rfl) (zl _ _) rfl ?_
  show zwq m i n
  rw [z118]; try delta qza qzb qhy qzc
  simp only [SB]
  refine ⟨zi3 m hm, fun h => ?_, fun h => ⟨fun h2 => ?_, fun h2 => ?_⟩⟩
  . unfold insE; rw [if_pos h]
  . unfold insE; rw [if_neg (by simp [h]), if_pos h2]
  . unfold insE; rw [if_neg (by simp [h]), if_neg (by omega)]
theorem zMem : (c0m.vars.length = 0 /\ c0m.owners.length = 0 /\ c0m.queues.length = 0 /\ c0m.sig.length = 0) := ⟨rfl, rfl, rfl, rfl⟩
theorem zoe {m : Mem} {i n : Int} (h : insE m i n = 0) : z5j m = true /\ 0 <= i /\ i < n := by
  unfold insE at h
  split at h
  . exact absurd h (by decide)
  . rename_i q
    split at h
    . exact absurd h (by decide)
    . exact ⟨by simpa using q, by omega, by omega⟩
theorem setRow (l : List Int) (a v : Int) (j : Nat) (hj : j < l.length) : (if j = a.toNat then AV.int .i64 v else AV.int .i64 (l.getD j 0)) = AV.int .i64 ((l.set a.toNat v).getD j 0) := by
  rw [List.getD_eq_getElem?_getD (l := l.set _ _), List.getElem?_set]
  by_cases e : a.toNat = j
  . subst e
    rw [if_pos rfl, if_pos rfl, if_pos hj]; rfl
  . rw [if_neg (fun h => e h.symm), if_neg e, List.getD_eq_getElem?_getD]
section
variable (m:Mem) (x:Int)
def q7x:=insE (dM (encM m)) x ↑m.vars.length != 0
end
theorem zws (m:Mem) (x:Int):zqd m x=(↑m.vars.length<=(9223372036854775807:Int)/\KN 189 [AV.mc zw (encM m),AV.int j6 x,AV.int j6 ↑m.vars.length] (AV.int j6 (insE (dM (encM m)) x ↑m.vars.length))/\(q7x m x=true->(RR j6/\0=(z31 m x).fst)/\(RR j6/\insE (dM (encM m)) x ↑m.vars.length=(z31 m x).snd)/\True)/\(q7x m x=false->inIx x m.vars.length/\(RR j6/\m.vars.getD x.toNat 0=(z31 m x).fst)/\(RR j6/\0=(z31 m x).snd)/\True)):=by kernel_rfl
theorem zm7 (m : Mem) (x : Int) (hm : MSm m) : Known Tryz.prog GG 227 [vM m, .int .i64 x] (.tup [.int .i64 (z31 m x).1, .int .i64 (z31 m x).2])  := by
  refine Known.of (V := vM2 21 fun _ => none) (fn := Tryz.f227) Tryz.func227 (by kernel_rfl) (zl _ _) rfl ?_
  show zqd m x
  rw [zws]; try delta q7x
  simp only [SB, inIx]
  have s1 := hm.vars
  refine ⟨by omega, zte m _ _ hm, fun h => ?_, fun h => ⟨(zoe h).2, ?_⟩⟩
  . unfold z31; rw [if_pos h]; exact ⟨rfl, rfl⟩
  . unfold z31; rw [if_neg (by simp [h])]; exact ⟨rfl, rfl⟩
section
variable (m:Mem) (x:Int) (v:Int)
def qzd:=RR zw/\(zy m x v).fst.vars.length=0/\(zy m x v).fst.owners.length=0/\(zy m x v).fst.queues.length=0/\(zy m x v).fst.sig.length=0/\True
def qhz:=decide (v < -2147483648)
def qi0:=(!qhz v)=true
def q7y:=qi0 v->qi0 v
def q7z:=qhz v||decide (2147483647 < v)
variable (x1:Nat)
def qze:=AV.int j6 ((dR dI (rowI m.vars)).getD x1 0)
def qzf:=AV.int j6 ((dR dI (rowI m.owners)).getD x1 0)
def qzg:=rowI ((dR (dR dI) (rowQ m.queues)).getD x1 [])
def qzh:=AV.int j6 ((dR dI (rowI m.sig)).getD x1 0)
end
theorem ztf (m:Mem) (x v:Int):zm5 m x v=(↑m.vars.length<=(9223372036854775807:Int)/\KN 189 [AV.mc zw (encM m),AV.int j6 x,AV.int j6 ↑m.vars.length] (AV.int j6 (insE (dM (encM m)) x ↑m.vars.length))/\(q7x m x=true->qzd m x v/\(RR j6/\insE (dM (encM m)) x ↑m.vars.length=(zy m x v).snd)/\True)/\(q7x m x=false->q7y v/\q7y v/\(q7z v=true->qzd m x v/\(RR j6/\2=(zy m x v).snd)/\True)/\(q7z v=false->(KnownF Tryz.prog GG (185:Nat) [AV.mc zw (encM m)] (AV.mc zw (AV.agg [AV.own (0:Nat) (dR dI (rowI m.vars)).length,AV.own (1:Nat) (dR dI (rowI m.owners)).length,AV.own (2:Nat) (dR (dR dI) (rowQ m.queues)).length,AV.own (3:Nat) (dR dI (rowI m.sig)).length])) [BoxC.row (3:TypeId) leaf (dR dI (rowI m.vars)).length fun i=>qze m i,BoxC.row (3:TypeId) leaf (dR dI (rowI m.owners)).length fun i=>qzf m i,BoxC.row (29:TypeId) leaf (dR (dR dI) (rowQ m.queues)).length fun i=>qzg m i,BoxC.row (3:TypeId) leaf (dR dI (rowI m.sig)).length fun i=>qzh m i])/\inIx x (dR dI (rowI m.vars)).length/\x.toNat < (dR dI (rowI m.vars)).length/\(dR dI (rowI m.vars)).length<=(dR dI (rowI m.vars)).length/\(dR dI (rowI m.owners)).length<=(dR dI (rowI m.owners)).length/\(dR (dR dI) (rowQ m.queues)).length<=(dR (dR dI) (rowQ m.queues)).length/\(dR dI (rowI m.sig)).length<=(dR dI (rowI m.sig)).length/\(RR zw/\(RR leaf/\(dR dI (rowI m.vars)).length=(zy m x v).fst.vars.length/\∀ i:Nat,i < (dR dI (rowI m.vars)).length->(if i=x.toNat then strip1 (strip1 (AV.int j6 v)) else qze m i)=AV.int j6 ((zy m x v).fst.vars.getD i 0))/\(RR leaf/\(dR dI (rowI m.owners)).length=(zy m x v).fst.owners.length/\∀ i:Nat,i < (dR dI (rowI m.owners)).length->qzf m i=AV.int j6 ((zy m x v).fst.owners.getD i 0))/\(RR leaf/\(dR (dR dI) (rowQ m.queues)).length=(zy m x v).fst.queues.length/\∀ i:Nat,i < (dR (dR dI) (rowQ m.queues)).length->qzg m i=rowI ((zy m x v).fst.queues.getD i []))/\(RR leaf/\(dR dI (rowI m.sig)).length=(zy m x v).fst.sig.length/\∀ i:Nat,i < (dR dI (rowI m.sig)).length->qzh m i=AV.int j6 ((zy m x v).fst.sig.getD i 0))/\True)/\(RR j6/\0=(zy m x v).snd)/\True))):=by kernel_rfl
theorem ztg (m : Mem) (x v : Int) (hm : MSm m) : Known Tryz.prog GG 127 [vM m, .int .i64 x, .int .i64 v] (.tup [vM (zy m x v).1, .int .i64 (zy m x v).2])  := by
  refine Known.of (V := vM2 35 fun _ => none) (fn := Tryz.f127) Tryz.func127 (by kernel_rfl) (zl _ _) rfl ?_
  show zm5 m x v
  rw [ztf]; try delta qzd q7x qhz qi0 q7y q7z qze qzf qzg qzh
  simp only [SB, inIx]
  have s1 := hm.vars
  refine ⟨by omega, zte m _ _ hm, fun h => ?_, fun h => ⟨fun hv => ?_, fun hv => ⟨ztd m hm, (zoe h).2, by have := (zoe h).2; omega, ?_⟩⟩⟩
  . have e : zy m x v = (c0m, insE m x m.vars.length) := by unfold zy; rw [if_pos h]
    rw [e]; exact ⟨zMem, rfl⟩
  . have e : zy m x v = (c0m, 2) := by unfold zy; rw [if_neg (by simp [h]), if_pos hv]
    rw [e]; exact ⟨zMem, rfl⟩
  . have e : zy m x v = ({ m with vars := m.vars.set x.toNat v }, 0) := by unfold zy; rw [if_neg (by simp [h]), if_neg (by omega)]
    rw [e]
    exact ⟨⟨⟨by simp, fun j hj => setRow _ _ _ j hj⟩, ⟨rfl, fun _ _ => rfl⟩, ⟨rfl, fun _ _ => rfl⟩, rfl, fun _ _ => rfl⟩, rfl⟩
section
variable (m:Mem) (i:Int)
def qzi:=insE (dM (encM m)) i ↑m.owners.length == 0
def qi1:=qzi m i=true
def q56:=qi1 m i->qi1 m i
end
theorem zwt (m:Mem) (i:Int):zqe m i=(↑m.owners.length<=(9223372036854775807:Int)/\KN 189 [AV.mc zw (encM m),AV.int j6 i,AV.int j6 ↑m.owners.length] (AV.int j6 (insE (dM (encM m)) i ↑m.owners.length))/\q56 m i/\q56 m i/\q56 m i/\(qi1 m i->inIx i m.owners.length)/\q56 m i/\q56 m i/\q56 m i/\(qzi m i&&m.owners.getD i.toNat 0 == -1)=z7q m i):=by kernel_rfl
theorem zm8 (m : Mem) (i : Int) (hm : MSm m) : Known Tryz.prog GG 228 [vM m, .int .i64 i] (.bool (z7q m i))  := by
  refine Known.of (V := vM2 20 fun _ => none) (fn := Tryz.f228) Tryz.func228 (by kernel_rfl) (zl _ _) rfl ?_
  show zqe m i
  rw [zwt]; try delta qzi qi1 q56
  simp only [SB, inIx]
  have s1 := hm.owners
  exact ⟨by omega, zte m _ _ hm, fun h => (zoe h).2, rfl⟩
end
end
end Go.Proofs.S25
namespace Go.Proofs.S25
open Go Go.AV
open Go.IntKind renaming i64 -> j6
open Go.AV.Shape (leaf)
noncomputable section
def zm9 (m : Mem) (n : Nat) : AV := .mc zw (.agg [rowI m.vars, rowI m.owners, .seq .leaf n (fun _ => .nils), .nils])
noncomputable def zwu (p : PProg) (m : Mem) : Prop := fnVc (vM2 38 fun _ => none) Tryz.f112 [vP p, vM m] (.bool (z2c p m))
def ini (p : PProg) (i : Nat) : List Int := (p.vars.take i).map (·.init)
def zwv (p : PProg) (k : Nat) : Option Inv := match Nat.beq k 6 with
  | true => some { ι := Nat, S := fun i => ⟨[(1, .ptr 1 []), (2, .ptr 2 []), (7, .ptr 7 []), (26, rowV p.vars), (27, .int .i64 p.vars.length), (28, .int .i64 i)], [(1, z6j p), (2, zbg c0m), (7, .cell 32 zw (.agg [.own 37 (ini p i).length, .nils, .own 23 p.conds.length, .nils])), (37, iBox (ini p i)), (23, .row 29 .leaf p.conds.length fun _ => .nils)]⟩, μ := fun i => p.vars.length - i, ok := fun i => i <= p.vars.length /\ (zb p).1 = 0 }
  | false => match Nat.beq k 11 with
    | true => some { ι := Nat, S := fun i => ⟨[(2, .ptr 2 []), (7, .ptr 7 []), (42, .int .i64 p.muts.length), (43, .int .i64 i)], [(2, zbg c0m), (7, .cell 32 zw (.agg [.own 37 p.vars.length, .own 48 i, .own 23 p.conds.length, .nils])), (37, iBox (p.vars.map (·.init))), (48, iBox (List.replicate i (-1))), (23, .row 29 .leaf p.conds.length fun _ => .nils)]⟩, μ := fun i => p.muts.length - i, ok := fun i => i <= p.muts.length /\ (zb p).1 = 0 }
    | false => none
noncomputable def zww (p : PProg) : Prop := fnVc (vM2 52 (zwv p)) Tryz.f62 [vP p] (.tup [zm9 (newM p).1 (newM p).1.queues.length, .int .i64 (newM p).2])
end
end Go.Proofs.S25
namespace Go.Proofs.S25
open Go Go.AV
open Go.IntKind renaming i64 -> j6
open Go.AV.Shape (leaf)
noncomputable section
open Go.IntKind renaming i64 -> j6
open Go.AV.Shape (leaf)
noncomputable section
section
variable (p:PProg)
def qi2:=(zb (dP (encP p))).fst == 0
def qi3:=qi2 p=true
def qzj:=qi3 p->qi3 p
variable (m:Mem)
def qzk:=qi2 p&&z5j (dM (encM m))
def qbg:=qzk p m=true
def q3g:=qbg p m->qbg p m
def qzl:=qzk p m&&(↑m.vars.length:Int) == (↑p.vars.length:Int)
def qbh:=qzl p m=true
def q3h:=qbh p m->qbh p m
def qzm:=qzl p m&&(↑m.owners.length:Int) == (↑p.muts.length:Int)
def qbi:=qzm p m=true
def q3i:=qbi p m->qbi p m
end
theorem z119 (p:PProg) (m:Mem):zwu p m=(KN 111 [AV.mc za (encP p)] (AV.bool (qi2 p))/\qzj p/\(qi3 p->KN 173 [AV.mc zw (encM m)] (AV.bool (z5j (dM (encM m)))))/\qzj p/\q3g p m/\q3g p m/\(qbg p m->↑m.vars.length<=(9223372036854775807:Int))/\q3g p m/\q3g p m/\(qbg p m->↑p.vars.length<=(9223372036854775807:Int))/\q3g p m/\q3g p m/\q3g p m/\q3h p m/\q3h p m/\(qbh p m->↑m.owners.length<=(9223372036854775807:Int))/\q3h p m/\q3h p m/\(qbh p m->↑p.muts.length<=(9223372036854775807:Int))/\q3h p m/\q3h p m/\q3h p m/\q3i p m/\q3i p m/\(qbi p m->↑m.queues.length<=(9223372036854775807:Int))/\q3i p m/\q3i p m/\(qbi p m->↑p.conds.length<=(9223372036854775807:Int))/\q3i p m/\q3i p m/\q3i p m/\(qzm p m&&(↑m.queues.length:Int) == (↑p.conds.length:Int))=z2c p m):=by kernel_rfl
theorem zwx (p : PProg) (m : Mem) (hp : PSm p) (hm : MSm m) : Known Tryz.prog GG 112 [vP p, vM m] (.bool (z2c p m))  := by
  refine Known.of (V := vM2 38 fun _ => none) (fn := Tryz.f112) Tryz.func112 (by kernel_rfl) (zl _ _) rfl ?_
  show zwu p m
  rw [z119]; try delta qi2 qi3 qzj qzk qbg q3g qzl qbh q3h qzm qbi q3i
  simp only [SB]
  have h1 := hm.vars
  have h2 := hm.owners
  have h3 := hm.queues
  have h4 := hp.vars
  have h5 := hp.muts
  have h6 := hp.conds
  refine ⟨zl3 p hp, fun _ => zi3 m hm, fun _ => by omega, fun _ => by omega, fun _ => by omega, fun _ => by omega, fun _ => by omega, fun _ => by omega, ?_⟩
  unfold z2c
  rw [Bool.eq_iff_iff]
  simp only [Bool.and_eq_true, beq_iff_eq]
  constructor
  . rintro ⟨⟨⟨⟨a, b⟩, c⟩, d⟩, e⟩; exact ⟨a, b, by omega, by omega, by omega⟩
  . rintro ⟨a, b, c, d, e⟩; exact ⟨⟨⟨⟨a, b⟩, by omega⟩, by omega⟩, by omega⟩
theorem zwy (p : PProg) (i : Nat) (hi : i < p.vars.length) : ini p (i + 1) = ini p i ++ [(p.vars.getD i c0v).init] := by
  have e : p.vars.take (i + 1) = p.vars.take i ++ [p.vars.getD i c0v] := by
    rw [List.take_add_one, List.getD_eq_getElem?_getD, List.getElem?_eq_getElem hi]; rfl
  unfold ini; rw [e, List.map_append]; rfl
theorem zma (p : PProg) (i : Nat) (hi : i <= p.vars.length) : (ini p i).length = i := by
  unfold ini; rw [List.length_map, List.length_take]; omega
section
variable (p:PProg)
def qzn:=↑p.conds.length<=(9223372036854775807:Int)
def qbj:=(zb p).fst=0
variable (x1:Nat)
def q3j:=x1<=p.vars.length/\qbj p
def qzo:=RR za/\q1u p/\(RW leaf p.muts.length fun i=>AV.str (p.muts.getD i []))/\(RW leaf p.conds.length fun i=>AV.str (p.conds.getD i []))/\(RW ze p.funs.length fun i=>encF (p.funs.getD i c0f))/\(RW ze p.thr.length fun i=>encS (p.thr.getD i c0s))/\True
def qzp:=(↑p.conds.length:Int).toNat=p.conds.length
def q2t:Nat:=(ini p x1).length + 1
def q24:=RR (32:TypeId)/\RR zw/\qe/\qe/\(RW leaf ((0:Nat)) fun (i:Nat)=>rowI (List.getD [] i []))/\qe/\True
variable (x2:Nat)
def q80:=q2t p x1=(ini p x2).length
def qi4:=(RR 23/\RR p.conds.length)/\RR AV.nils/\True
def q3k:=AV.int j6 ((ini p x1).getD x2 0)
def q2u:List AV:=List.replicate 1 (AV.int j6 0)
def qi5:=(RR (29:TypeId)/\RW leaf p.conds.length fun _=>AV.nils)/\True
def q3l:=x1<=p.muts.length/\qbj p
def q3m:=AV.int j6 ((List.map (fun x=>x.init) p.vars).getD x1 0)
variable (x0:Nat)
def q1m:Nat:=(List.replicate x0 (-1)).length
def q81:Nat:=p.muts.length - x1
end
section
variable (x0:Nat) (x1:Nat)
def q3n:=AV.int j6 ((List.replicate x0 (-1)).getD x1 0)
end
section
variable (p:PProg) (x1:Nat)
def q82:=decide ((↑x1:Int) < (↑p.muts.length:Int))
end
theorem z11a (p:PProg):zww p=(KN 51 [AV.mc za (encP p)] (AV.tup [AV.int j6 (zb (dP (encP p))).fst,AV.int j6 (zb (dP (encP p))).snd.fst,AV.int j6 (zb (dP (encP p))).snd.snd])/\(qo p=true->(RR zw/\(newM p).fst.vars.length=0/\(newM p).fst.owners.length=0/\(newM p).fst.queues.length=0/\RR AV.nils/\True)/\(RR j6/\(zb (dP (encP p))).fst=(newM p).snd)/\True)/\(qo p=false->qzn p/\((0:Int)<=↑p.conds.length/\(↑p.conds.length:Int)<=(↑p.conds.length:Int)/\↑(24:Nat) * ↑p.conds.length<=(140737488355328:Int)/\qzn p)/\↑p.vars.length<=(9223372036854775807:Int)/\(∃ (i:Nat),q3j p i/\(RR (AV.ptr (1:Nat) [])/\RR (AV.ptr (2:Nat) [])/\RR (AV.ptr (7:Nat) [])/\q1u p/\RI (↑(List.length (PProg.vars p)):Int)/\qc i)/\((27:Nat)=(27:TypeId)/\qzo p)/\((32:Nat)=(32:TypeId)/\RR zw/\(0:Nat)=(0:Nat)/\(0:Nat)=(0:Nat)/\(0:Nat)=(0:Nat)/\(0:Nat)=(0:Nat)/\True)/\((32:Nat)=(32:TypeId)/\RR zw/\(List.length (ini p i)=(0:Nat)/\RR true/\RR true)/\RR AV.nils/\(RR (23:Nat)/\qzp p)/\RR AV.nils/\True)/\(List.length (ini p i)=(0:Nat)/\RR true)/\(RR (29:TypeId)/\RR leaf/\qzp p/\∀ (i:Nat),i < Int.toNat (↑(List.length (PProg.conds p)):Int)->RR AV.nils)/\True)/\∀ i:Nat,q3j p i->(qm p i=true->inIx (↑i) p.vars.length/\qy/\(RR (ini p i).length/\↑(q2t p i) * ↑(8:Nat)<=(140737488355328:Int)/\q2t p i<=9223372036854775807)/\qq/\q9 i/\(∃ j,q3j p j/\p.vars.length - j < p.vars.length - i/\(RR (AV.ptr (1:Nat) [])/\RR (AV.ptr (2:Nat) [])/\RR (AV.ptr (7:Nat) [])/\q1u p/\RI (↑p.vars.length:Int)/\qd i j)/\(RR (27:TypeId)/\qzo p)/\q24/\(RR (32:TypeId)/\RR zw/\(RR (37:Nat)/\q80 p i j)/\RR AV.nils/\qi4 p)/\(RR (3:TypeId)/\RR leaf/\q80 p i j/\∀ (i_1:Nat),i_1 < q2t p i->(if i_1 < (ini p i).length then q3k p i i_1 else (q2u.set (0:Nat) (strip1 (AV.int j6 (p.vars.getD (↑i:Int).toNat c0v).init))).getD (i_1 - (ini p i).length) AV.any)=q3k p j i_1)/\qi5 p))/\(qm p i=false->↑p.muts.length<=(9223372036854775807:Int)/\(∃ i_1,q3l p i_1/\(RR (AV.ptr (2:Nat) [])/\RR (AV.ptr (7:Nat) [])/\RI ↑p.muts.length/\qc i_1)/\q24/\(RR (32:TypeId)/\RR zw/\(RR (37:Nat)/\(ini p i).length=p.vars.length)/\(i_1=(0:Nat)/\RR true/\RR true)/\qi4 p)/\(RR (3:TypeId)/\RR leaf/\(ini p i).length=(List.map (fun x=>x.init) p.vars).length/\∀ (i_2:Nat),i_2 < (ini p i).length->q3k p i i_2=q3m p i_2)/\(q1m i_1=(0:Nat)/\RR true)/\qi5 p)/\∀ (i:Nat),q3l p i->(q82 p i=true->qy/\(i=q1m i/\↑(qb i) * ↑(8:Nat)<=(140737488355328:Int)/\qb i<=(9223372036854775807:Nat))/\qq/\q9 i/\∃ j,q3l p j/\q81 p j < q81 p i/\(RR (AV.ptr (2:Nat) [])/\RR (AV.ptr (7:Nat) [])/\RI ↑p.muts.length/\qd i j)/\q24/\(RR (32:TypeId)/\RR zw/\(RR (37:Nat)/\RR p.vars.length)/\(RR (48:Nat)/\qb i=j)/\qi4 p)/\(RR (3:TypeId)/\RW leaf (List.map (fun x=>x.init) p.vars).length fun i=>q3m p i)/\(RR (3:TypeId)/\RR leaf/\qb i=q1m j/\∀ (i_1:Nat),i_1 < qb i->(if i_1 < i then q3n i i_1 else (q2u.set (0:Nat) (strip1 (AV.int j6 (-1:Int)))).getD (i_1 - i) AV.any)=q3n j i_1)/\qi5 p)/\(q82 p i=false->p.vars.length<=(List.map (fun x=>x.init) p.vars).length/\i<=q1m i/\p.conds.length<=p.conds.length/\(RR zw/\(RR leaf/\p.vars.length=(newM p).fst.vars.length/\∀ (i:Nat),i < p.vars.length->q3m p i=AV.int j6 ((newM p).fst.vars.getD i (0:Int)))/\(RR leaf/\i=(newM p).fst.owners.length/\∀ (i_1:Nat),i_1 < i->q3n i i_1=AV.int j6 ((newM p).fst.owners.getD i_1 (0:Int)))/\(RR leaf/\p.conds.length=(newM p).fst.queues.length/\∀ (i:Nat),i < p.conds.length->RR AV.nils)/\RR AV.nils/\True)/\(RR j6/\(0:Int)=(newM p).snd)/\True)))):=by kernel_rfl
theorem z11b (p : PProg) (hp : PSm p) : Known Tryz.prog GG 62 [vP p] (.tup [zm9 (newM p).1 (newM p).1.queues.length, .int .i64 (newM p).2])  := by
  refine Known.of (V := vM2 52 (zwv p)) (fn := Tryz.f62) Tryz.func62 (by kernel_rfl) (zl _ _) rfl ?_
  show zww p
  rw [z11a]; try delta qo qzn qbj q3j q1u qc qzo qzp qy q2t qq q8 q9 qd qe q24 q80 qi4 q3k q2u qi5 qm q3l q3m q1m qb q81 q3n q82
  simp only [SB, inIx]
  have h4 := hp.vars
  have h5 := hp.muts
  have h6 := hp.conds
  refine ⟨zbc p hp, fun h => ?_, fun h => ⟨by omega, ⟨by omega, by omega⟩, by omega, ⟨0, ⟨by omega, h⟩, rfl, rfl, rfl⟩, fun i hi => ?_⟩⟩
  . have e : newM p = (c0m, (zb p).1) := by unfold newM; rw [if_pos h]
    rw [e]; exact ⟨⟨rfl, rfl, rfl⟩, rfl⟩
  have e : newM p = (⟨p.vars.map (·.init), List.replicate p.muts.length (-1), List.replicate p.conds.length [], []⟩, 0) := by unfold newM; rw [if_neg (by simp [h])]
  rw [e]
  have hil := zma p i hi.1
  refine ⟨fun hlt => ⟨hlt, by decide, ⟨by omega, by omega⟩, zg (by omega) (by omega), i + 1, ⟨hlt, h⟩, by omega, by omega, ?_⟩, fun hge => ⟨by omega, ⟨0, ⟨by omega, h⟩, rfl, ⟨by omega, rfl⟩, ?_, rfl⟩, fun k hk => ⟨fun hlt => ⟨by decide, ⟨by simp, by omega, by omega⟩, zg (by omega) (by omega), k + 1, ⟨hlt, h⟩, by omega, by omega, rfl, ?_⟩, fun hge => ⟨by simp, by simp, ⟨⟨by simp, fun _ _ => rfl⟩, ⟨by simp; omega, fun j hj => ?_⟩, by simp⟩, rfl⟩⟩⟩⟩
  . rw [zwy p i hlt]
    exact ⟨by simp, by simp, fun j hj => z79 _ _ j hj⟩
  . have e2 : ini p i = p.vars.map (·.init) := by unfold ini; rw [List.take_of_length_le (by omega)]
    rw [e2]; exact ⟨rfl, fun _ _ => rfl⟩
  . refine ⟨by simp, fun j hj => ?_⟩
    have := z79 (List.replicate k (-1)) (-1) j (by simpa using hj)
    rw [List.length_replicate] at this
    rw [this, <- List.replicate_succ']
  . have e2 : k = p.muts.length := by omega
    rw [e2]
end
end
end Go.Proofs.S25
namespace Go.Proofs.S25
open Go Go.AV
open Go.IntKind renaming i64 -> j6
open Go.AV.Shape (leaf)
noncomputable section
theorem RepR.of_tup {r' : List AV} {r : List AV} {w : World} {F : Nat -> Prop} {v : Value} (hl : r.length = r'.length)
    (h : ∀ j, j < r.length -> ∀ v, RepS w F v (r.getD j .any) -> RepS w F v (r'.getD j .any)) (hr : RepR w F v (.tup r)) : RepR w F v (.tup r') := by
  obtain ⟨vs, e, h1, h2⟩ := hr
  exact ⟨vs, e, h1.trans hl, fun j hj => h j (by omega) _ (h2 j (by omega))⟩
theorem _root_.Go.AV.Known.imp {P : Program} {G : List (Nat × AV)} {f : FuncId} {args : List AV} {r r' : AV} (h : Known P G f args r)
    (hr : ∀ (w : World) (F : Nat -> Prop) (v : Value), RepR w F v r -> RepR w F v r') : Known P G f args r' := by
  rcases h with ⟨h1, h2⟩ | h
  . refine .inl ⟨h1, fun w F vs a1 a2 a3 a4 => (h2 w F vs a1 a2 a3 a4).mono ?_⟩
    rintro en w' ⟨v, F', e, b1, b2, b3, b4, b5⟩
    exact ⟨v, F', e, b1, b2, b3, b4, hr _ _ _ b5⟩
  . refine .inr fun w F vs a3 a4 => ?_
    obtain ⟨v, h1, h2⟩ := h w F vs a3 a4
    exact ⟨v, h1, hr _ _ _ h2⟩
theorem _root_.Go.AV.KnownF.stat {P : Program} {G : List (Nat × AV)} {f : FuncId} {args : List AV} {ty : TypeId} {sh : Shape} {n : Nat} {g : Nat -> AV} (h : KnownF P G f args (.own 0 n) [.row ty sh n g]) : Known P G f args (.seq sh n g) := by
  refine .inl ⟨h.1, fun w F vs a1 a2 a3 a4 => (h.2 w F vs a1 a2 a3 a4).mono ?_⟩
  rintro en w' ⟨v, F', φ', e, b1, b2, b3, b4, b5, b6, _⟩
  obtain ⟨c1, c2, c3⟩ := b6 0 _ rfl
  rcases c3 with ⟨c3, rfl⟩ | ⟨k, cs, d1, d2, d3, d4, d5, d6, d7, d8⟩
  . cases b5 with
    | own b g n hb hn => rw [c3] at hb; cases hb
    | own0 => exact ⟨_, F', e, b1, b2, b3, b4, .seq0 _ _ _ _⟩
    | stat h => cases h
  . generalize hm : n = m at b5
    cases b5 with
    | own b k' m hb hn =>
      rw [d1] at hb; cases hb
      subst hm
      refine ⟨_, fun j => F' j ∨ j = k, e, b1, fun j hj => .inl (b2 j hj), fun j hj => ?_, fun j hj => ?_, .seq k 0 n _ sh _ (fun i j => cs.getD (i * sh.size + j) undef) (.inr rfl) hn (fun i hi j hj => ?_) fun i hi j hj => ?_⟩
      . rcases hj with hj | rfl
        . exact b3 j hj
        . exact .inr d2
      . rcases hj with hj | rfl
        . exact b4 j hj
        . exact (Array.getElem?_eq_some_iff.1 d4).1
      . have hm := Nat.mul_le_mul_right sh.size (show i + 1 <= (φ' 0).cap by omega)
        rw [Nat.add_mul] at hm
        rw [Nat.zero_add]; exact z4j d4 (by omega)
      . exact (d8 i hi j hj).keep (fun _ _ => rfl) fun _ h => .inl h
    | own0 b hb => rw [d1] at hb; cases hb
    | stat h => cases h
theorem zqf {w : World} {F : Nat -> Prop} {v : Value} (h : RepS w F v .nils) (l : List Int) (hl : l = []) : RepS w F v (rowI l) := by
  subst hl; cases h; exact .seq0 _ _ _ _
theorem zmb {w : World} {F : Nat -> Prop} {v : Value} {n : Nat} (h : RepS w F v (.seq .leaf n fun _ => .nils)) (l : List (List Int)) (hl : l.length = n) (he : ∀ i, i < n -> l.getD i [] = []) : RepS w F v (rowQ l) := by
  show RepS w F v (.seq .leaf l.length fun i => rowI (l.getD i []))
  rw [hl]
  cases h with
  | seq0 => exact .seq0 _ _ _ _
  | seq g o n cap sh f cs h1 h2 h3 h4 =>
    exact .seq g o _ cap .leaf _ cs h1 h2 h3 fun i hi j hj => by
      have := h4 i hi j hj
      show RepS w F _ (rowI (l.getD i []))
      exact zqf this _ (he i hi)
theorem zi4 {w : World} {F : Nat -> Prop} {v : Value} (p : PProg) (h : RepS w F v (zm9 (newM p).1 (newM p).1.queues.length)) : RepS w F v (vM (newM p).1) := by
  have e1 : (newM p).1.sig = [] := by unfold newM; split <;> rfl
  have e2 : ∀ i, i < (newM p).1.queues.length -> (newM p).1.queues.getD i [] = [] := by
    unfold newM; split
    . intro i hi; exact absurd hi (Nat.not_lt_zero _)
    . intro i hi
      simp only [List.length_replicate] at hi
      simp [List.getD_eq_getElem?_getD, hi]
  cases h with
  | mc cs sh x hs hr =>
    refine .mc cs _ _ hs fun j hj => ?_
    have h := hr j hj
    match j, hj with
    | 0, _ => exact h
    | 1, _ => exact h
    | 2, _ => exact zmb h _ rfl e2
    | 3, _ => exact zqf h _ e1
theorem kMnew' (p : PProg) (hp : PSm p) : Known Tryz.prog GG 62 [vP p] (.tup [vM (newM p).1, .int .i64 (newM p).2]) := by
  refine (z11b p hp).imp fun w F v h => RepR.of_tup (r := [_, _]) (r' := [_, _]) (by rfl) (fun j hj u hu => ?_) h
  match j, hj with
  | 0, _ => exact zi4 p hu
  | 1, _ => exact hu
def thrE (a : Int) : Int := if a < 0 then -(a + 1) else a
def fluE (t : Int) : Int := if t < 0 then 0 else -t - 1
def spEv : FuncId -> List AV -> Option AV
  | 59, [.int _ a] => some (.bool (decide (a < 0)))
  | 121, [.int _ a] | 147, [.int _ a] => some (.int .i64 (thrE a))
  | 118, [.int _ t] | 81, [.int _ t] => some (.int .i64 (fluE t))
  | f, l => spM f l
noncomputable def vE (n : Nat) (inv : Nat -> Option Inv) : VCtx := { C := cfgM n fun _ _ => false, CC := Known Tryz.prog GG, orc := fun _ _ => spEv, inv := inv }
noncomputable def gIsF (a : Int) : Prop := fnVc (vE 5 fun _ => none) Tryz.f59 [.int .i64 a] (.bool (decide (a < 0)))
noncomputable def zwz (a : Int) : Prop := fnVc (vE 9 fun _ => none) Tryz.f121 [.int .i64 a] (.int .i64 (thrE a))
noncomputable def zx0 (a : Int) : Prop := fnVc (vE 8 fun _ => none) Tryz.f118 [.int .i64 a] (.int .i64 (fluE a))
end
end Go.Proofs.S25
namespace Go.Proofs.S25
open Go Go.AV
open Go.IntKind renaming i64 -> j6
open Go.AV.Shape (leaf)
noncomputable section
open Go.IntKind renaming i64 -> j6
open Go.AV.Shape (leaf)
noncomputable section

def I64 (n : Int) : Prop := -9223372036854775808 <= n /\ n <= 9223372036854775807
theorem eIsF (a:Int):gIsF a=(RR (decide (a < 0))):=by kernel_rfl
theorem kIsF (a : Int)  : Known Tryz.prog GG 59 [.int .i64 a] (.bool (decide (a < 0)))  := by
  refine Known.of (V := vE 5 fun _ => none) (fn := Tryz.f59) Tryz.func59 (by kernel_rfl) (zl _ _) rfl ?_
  show gIsF a
  rw [eIsF]; try delta RR; try rfl
section
variable (a:Int)
def qzq:Int:=a + 1
def qzr:Int:=0 - qzq a
def q25:=decide (a < 0)
end
theorem z11c (a:Int):zwz a=((q25 a=true->InR j6 (qzq a)/\InR j6 (qzr a)/\RR j6/\qzr a=thrE a)/\(q25 a=false->RR j6/\a=thrE a)):=by kernel_rfl
theorem z11d (a : Int) (ha : I64 a) : Known Tryz.prog GG 121 [.int .i64 a] (.int .i64 (thrE a))  := by
  refine Known.of (V := vE 9 fun _ => none) (fn := Tryz.f121) Tryz.func121 (by kernel_rfl) (zl _ _) rfl ?_
  show zwz a
  rw [z11c]; try delta qzq qzr q25
  simp only [SB]
  obtain ⟨h1, h2⟩ := ha
  unfold thrE
  refine ⟨fun h => ⟨zg (by omega) (by omega), zg (by omega) (by omega), ?_⟩, fun h => by rw [if_neg h]⟩
  rw [if_pos h]; omega
section
variable (a:Int)
def qzs:Int:=0 - a
def qzt:Int:=qzs a - 1
end
theorem z11e (a:Int):zx0 a=((q25 a=true->RR j6/\0=fluE a)/\(q25 a=false->InR j6 (qzs a)/\InR j6 (qzt a)/\RR j6/\qzt a=fluE a)):=by kernel_rfl
theorem zx1 (a : Int) (ha : I64 a) : Known Tryz.prog GG 118 [.int .i64 a] (.int .i64 (fluE a))  := by
  refine Known.of (V := vE 8 fun _ => none) (fn := Tryz.f118) Tryz.func118 (by kernel_rfl) (zl _ _) rfl ?_
  show zx0 a
  rw [z11e]; try delta q25 qzs qzt
  simp only [SB]
  obtain ⟨h1, h2⟩ := ha
  unfold fluE
  refine ⟨fun h => by rw [if_pos h], fun h => ⟨zg (by omega) (by omega), zg (by omega) (by omega), ?_⟩⟩
  rw [if_neg h]; omega
end
end
end Go.Proofs.S25
namespace Go.Proofs.S25
open Go Go.AV
open Go.IntKind renaming i64 -> j6
open Go.AV.Shape (leaf)
noncomputable section
theorem dSt_enc' {s : SState} (h : zo3 s.thr) : dSt (z15 s) = s := by
  have : dSt (z15 s) = ⟨dR dT (rowT s.thr), dM (encM s.mem), dR dB (rowB s.bufs)⟩ := rfl
  rw [this, zlg h, zkb, dR_B]
theorem dEvA (a b c d e f g h i : Int) : dEv (.agg [.int .i64 a, .int .i64 b, .int .i64 c, .int .i64 d, .int .i64 e, .int .i64 f, .int .i64 g, .int .i64 h, .int .i64 i]) = ⟨a, b, c, d, e, f, g, h, i⟩ := rfl
def regD (t : Thr) (j : Int) : Int := t.regs.getD j.toNat 0
def z93 (p : PProg) (b : Int) (l : List Thr) (j : Nat) : Prop := z9n p b (l.getD j c0t) = true /\ (0 < j -> (l.getD (j - 1) c0t).id < (l.getD j c0t).id)
instance (p : PProg) (b : Int) (l : List Thr) (j : Nat) : Decidable (z93 p b l j) := by unfold z93; infer_instance
def zof (p : PProg) (b : Int) (l : List Thr) : Bool := (List.range l.length).all fun j => decide (z93 p b l j)
def valS (p : PProg) (b : Int) (s : SState) : Bool := z2c p s.mem && (s.bufs.length == 0 && zof p b s.thr)
def z12x (p : PProg) (b : Int) (n : Nat) : List Thr := (List.range n).map fun (j : Nat) => (newT p b (j : Int) (p.thr.getD j c0s).fn (p.thr.getD j c0s).arg).1
def z7 (p : PProg) (b : Int) : SState × Int := if stdE p b ≠ 0 then (c0st, stdE p b) else (⟨z12x p b p.thr.length, (newM p).1, []⟩, 0)
def runS (p : PProg) (s : SState) (id : Int) : Thr × Inst × Bool :=
  if fid s.thr id < 0 then (c0t, c0i, false) else (s.thr.getD (fid s.thr id).toNat c0t, zu p (s.thr.getD (fid s.thr id).toNat c0t), z3l p (s.thr.getD (fid s.thr id).toNat c0t))
def z5l (t : Thr) (i : Inst) (e : Ev) : Ev :=
  if t.phase = 0 then { e with kind := 12, mutex := i.n } else if t.phase = 1 then { e with kind := 13 } else { e with kind := 9, obj := i.n }
def accE (s : SState) (t : Thr) (i : Inst) (e : Ev) : Ev :=
  let v := (z31 s.mem i.obj).1
  let e1 : Ev := { e with ord := i.ord, read := v, kind := 5 }
  if i.op = 8 then { e1 with kind := 1 } else if i.op = 14 then { e1 with kind := 8 } else if i.op = 9 then { e1 with kind := 2, read := 0, wrote := regD t i.b }
  else if i.op = 10 then { e1 with wrote := regD t i.b } else if i.op = 11 then { e1 with wrote := (app 1 v (regD t i.b)).1 }
  else if v = regD t i.b then { e1 with wrote := regD t i.c } else { e1 with kind := 6 }
def ev0 (t : Thr) (i : Inst) : Ev := ⟨t.id, t.steps, 0, i.obj, -1, -1, 0, 0, 0⟩
def qlen (m : Mem) (o : Int) : Int := (m.queues.getD o.toNat []).length
def truI (b : Bool) : Int := if b then 1 else 0
def labE (s : SState) (t : Thr) (i : Inst) : Ev :=
  if i.op = 13 then { ev0 t i with kind := 7 } else if i.op = 15 then { ev0 t i with kind := 9 } else if i.op = 16 then { ev0 t i with kind := 10 }
  else if i.op = 17 then { ev0 t i with kind := 11, read := truI (z7q s.mem i.obj) } else if i.op = 18 then z5l t i (ev0 t i)
  else if i.op = 19 then { ev0 t i with kind := 14, read := min 1 (qlen s.mem i.obj) } else if i.op = 20 then { ev0 t i with kind := 15, read := qlen s.mem i.obj }
  else if i.op = 21 then { ev0 t i with kind := 16, obj := z3d t } else if i.op = 22 then { ev0 t i with kind := 17, obj := regD t i.b } else accE s t i (ev0 t i)
def zx2 (l : List Thr) (id : Int) : Bool := decide (0 <= fid l id) && ((l.getD (fid l id).toNat c0t).status == 2 || (l.getD (fid l id).toNat c0t).status == 3)
def z4z (s : SState) (t : Thr) (i : Inst) : Bool :=
  if i.op = 14 then (app i.fn (z31 s.mem i.obj).1 (regD t i.b)).1 != 0 else if i.op = 15 then z7q s.mem i.obj
  else if i.op = 18 then (if t.phase = 1 then hasI s.mem.sig t.id else if t.phase = 2 then z7q s.mem i.n else true) else if i.op = 22 then zx2 s.thr (regD t i.b) else true
def onT (p : PProg) (s : SState) (t : Thr) : Bool := z3l p t && z4z s t (zu p t)
def onS (p : PProg) (s : SState) : List Int := if valS p 32 s then (s.thr.filter (onT p s)).map (·.id) else []
def labS (p : PProg) (s : SState) (a : Int) : Ev × Bool :=
  if valS p 32 s = false then (c0ev, false) else if (runS p s a).2.2 = false then (c0ev, false) else (labE s (runS p s a).1 (runS p s a).2.1, true)
def vStn (s : SState) : AV := .mc stSh (.agg [rowT s.thr, encM s.mem, .nils])
def spMa : FuncId -> List AV -> Option AV
  | 61, [.mc _ p, .int _ b] | 38, [.mc _ p, .int _ b] => some (.int .i64 (stdE (dP p) b))
  | 176, [.mc _ p, .int _ b, .mc _ s] => some (.bool (valS (dP p) b (dSt s)))
  | 28, [.mc _ p, .int _ b] => some (.tup [vStn (z7 (dP p) b).1, .int .i64 (z7 (dP p) b).2])
  | 195, [.mc _ p, .mc _ s, .int _ a] => some (.tup [vT (runS (dP p) (dSt s) a).1, vI (runS (dP p) (dSt s) a).2.1, .bool (runS (dP p) (dSt s) a).2.2])
  | 233, [.bool b] => some (.int .i64 (truI b))
  | 236, [.mc _ s, .mc _ t, .mc _ i, .mc _ e] => some (vEv (accE (dSt s) (dT t) (dIn i) (dEv e)))
  | 234, [.mc _ t, .mc _ i, .mc _ e] => some (vEv (z5l (dT t) (dIn i) (dEv e)))
  | 196, [.mc _ s, .mc _ t, .mc _ i] => some (vEv (labE (dSt s) (dT t) (dIn i)))
  | 178, [.mc _ s, .mc _ t, .mc _ i] => some (.bool (z4z (dSt s) (dT t) (dIn i)))
  | 116, [.mc _ p, .mc _ s] => some (rowI (onS (dP p) (dSt s)))
  | 184, [.mc _ p, .mc _ s, .int _ a] => some (.tup [vEv (labS (dP p) (dSt s) a).1, .bool (labS (dP p) (dSt s) a).2])
  | f, l => spEv f l
abbrev z3z (s : SState) : BoxC := .cell 35 stSh (z15 s)
abbrev zx3 (e : Ev) : BoxC := .cell 57 evSh (z6c e)
noncomputable def vMa (n : Nat) (inv : Nat -> Option Inv) : VCtx := { C := cfgM n fun _ _ => false, CC := Known Tryz.prog GG, orc := fun _ _ => spMa, inv := inv }
structure SSm (s : SState) : Prop where
  thr : s.thr.length <= 1000000
  ok : ∀ j, TOK (s.thr.getD j c0t)
  mem : MSm s.mem
  bufs : s.bufs.length <= 1000000
  ents : ∀ j, (s.bufs.getD j c0b).entries.length <= 1000000
theorem SSm.r8 {s : SState} (h : SSm s) : zo3 s.thr := fun j => (h.ok j).regs
structure IOk (m : Mem) (i : Inst) : Prop where
  op : 8 <= i.op /\ i.op <= 22
  b : i.op = 9 ∨ i.op = 10 ∨ i.op = 11 ∨ i.op = 12 ∨ i.op = 14 ∨ i.op = 21 ∨ i.op = 22 -> 0 <= i.b /\ i.b < 8
  c : i.op = 12 -> 0 <= i.c /\ i.c < 8
  q : i.op = 18 ∨ i.op = 19 ∨ i.op = 20 -> 0 <= i.obj /\ i.obj < m.queues.length
noncomputable def zx4 (p : PProg) (b : Int) : Prop := fnVc (vMa 23 fun _ => none) Tryz.f61 [vP p, .int .i64 b] (.int .i64 (stdE p b))
def zx5 (p : PProg) (b : Int) (s : SState) (k : Nat) : Option Inv := match Nat.beq k 4 with
  | true => some { ι := Nat, S := fun i => ⟨[(1, .int .i64 b), (3, .ptr 3 []), (5, .ptr 5 []), (21, rowT s.thr), (22, .int .i64 s.thr.length), (23, .int .i64 i)], [(3, z6j p), (5, z3z s)]⟩, μ := fun i => s.thr.length - i, ok := fun i => i <= s.thr.length /\ z2c p s.mem = true /\ s.bufs.length = 0 /\ ∀ j, j < i -> z93 p b s.thr j }
  | false => none
noncomputable def zi5 (p : PProg) (b : Int) (s : SState) : Prop := fnVc (vMa 50 (zx5 p b s)) Tryz.f176 [vP p, .int .i64 b, vSt s] (.bool (valS p b s))
noncomputable def zx6 (p : PProg) (s : SState) (a : Int) : Prop := fnVc (vMa 40 fun _ => none) Tryz.f195 [vP p, vSt s, .int .i64 a] (.tup [vT (runS p s a).1, vI (runS p s a).2.1, .bool (runS p s a).2.2])
noncomputable def zx7 (b : Bool) : Prop := fnVc (vMa 4 fun _ => none) Tryz.f233 [.bool b] (.int .i64 (truI b))
noncomputable def zx8 (s : SState) (t : Thr) (i : Inst) (e : Ev) : Prop := fnVc (vMa 73 fun _ => none) Tryz.f236 [vSt s, vT t, vI i, vEv e] (vEv (accE s t i e))
noncomputable def zmc (t : Thr) (i : Inst) (e : Ev) : Prop := fnVc (vMa 23 fun _ => none) Tryz.f234 [vT t, vI i, vEv e] (vEv (z5l t i e))
noncomputable def zx9 (s : SState) (t : Thr) (i : Inst) : Prop := fnVc (vMa 91 fun _ => none) Tryz.f196 [vSt s, vT t, vI i] (vEv (labE s t i))
noncomputable def zxa (s : SState) (t : Thr) (i : Inst) : Prop := fnVc (vMa 97 fun _ => none) Tryz.f178 [vSt s, vT t, vI i] (.bool (z4z s t i))
noncomputable def zmd (p : PProg) (s : SState) (a : Int) : Prop := fnVc (vMa 31 fun _ => none) Tryz.f184 [vP p, vSt s, .int .i64 a] (.tup [vEv (labS p s a).1, .bool (labS p s a).2])
end
end Go.Proofs.S25
