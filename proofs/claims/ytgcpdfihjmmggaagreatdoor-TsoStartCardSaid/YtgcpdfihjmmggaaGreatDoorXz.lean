import Derived.Test.YtgcpdfihjmmggaaGreatDoorXy
namespace Go.Proofs.S25
open Go Go.AV
open Go.IntKind renaming i64 -> j6
open Go.AV.Shape (leaf)
noncomputable section
open Go.IntKind renaming i64 -> j6
open Go.AV.Shape (leaf)
noncomputable section

theorem z3r {p : PProg} {b : Int} {s : SState} : z4a p b s = true ↔ z2c p s.mem = true /\ s.bufs.length = s.thr.length /\ ∀ j, j < s.thr.length -> z93 p b s.thr j /\ zgu p (s.thr.getD j c0t) (s.bufs.getD j c0b) = true := by
  unfold z4a
  rw [Bool.and_eq_true, Bool.and_eq_true, Bool.and_eq_true, zfh, beq_iff_eq, List.all_eq_true]
  simp only [List.mem_range]
  constructor
  . rintro ⟨h1, h2, h3, h4⟩; exact ⟨h1, h2, fun j hj => ⟨h3 j hj, h4 j hj⟩⟩
  . rintro ⟨h1, h2, h3⟩; exact ⟨h1, h2, fun j hj => (h3 j hj).1, fun j hj => (h3 j hj).2⟩
theorem z6l {p : PProg} {t : Thr} {b : Buf} : zgu p t b = true ↔ vldB b = true /\ b.thread = t.id /\ ∀ j, j < b.entries.length -> (b.entries.getD j c0e).var < p.vars.length := by
  unfold zgu
  rw [Bool.and_eq_true, Bool.and_eq_true, beq_iff_eq, z1u _ _ c0e]
  simp only [decide_eq_true_eq]
theorem zop (l : List Int) : AV.le [] [] (rowI l) (rowI l) := ⟨rfl, rfl, fun _ _ => rfl⟩
theorem leM (m : Mem) : AV.le [] [] (encM m) (encM m) := ⟨zop _, zop _, ⟨rfl, rfl, fun _ _ => rfl⟩, zop _, trivial⟩
theorem leN (s : SState) : AV.le [] [] (vStn s) (vSt (scS s)) := ⟨rfl, ⟨rfl, rfl, fun _ _ => rfl⟩, leM _, rfl, trivial⟩
theorem SSm.sc {s : SState} (h : SSm s) : SSm (scS s) := ⟨h.thr, h.ok, h.mem, Nat.zero_le _, fun _ => Nat.zero_le _⟩
theorem zyy (p : PProg) (s : SState) (a : Int) (hp : PSm p) (hs : SSm s) : Known Tryz.prog GG 184 [vP p, vStn s, .int .i64 a] (.tup [vEv (labS p (scS s) a).1, .bool (labS p (scS s) a).2]) :=
  (ztk p (scS s) a hp hs.sc).weaken (by rfl) ⟨leP p, leN s, ⟨rfl, rfl⟩, trivial⟩
theorem z12c (p : PProg) (s : SState) (hp : PSm p) (hs : SSm s) : Known Tryz.prog GG 116 [vP p, vStn s] (rowI (onS p (scS s))) :=
  (z11s p (scS s) hp hs.sc).weaken (by rfl) ⟨leP p, leN s, trivial⟩
theorem eTsc (s:SState) (k:Int):gTsc s k=(RR stSh/\(RW zd s.thr.length fun i=>encT (s.thr.getD i c0t))/\((RW leaf s.mem.vars.length fun i=>AV.int j6 (s.mem.vars.getD i 0))/\(RW leaf s.mem.owners.length fun i=>AV.int j6 (s.mem.owners.getD i 0))/\(RW leaf s.mem.queues.length fun i=>rowI (s.mem.queues.getD i []))/\(RW leaf s.mem.sig.length fun i=>AV.int j6 (s.mem.sig.getD i 0))/\True)/\RR AV.nils/\True):=by kernel_rfl
theorem kTsc (s : SState) (k : Int)  : Known Tryz.prog GG 117 [vTP s k] (vStn s)  := by
  refine Known.of (V := vTo c0p s k.toNat c0ev 10 fun _ => none) (fn := Tryz.f117) Tryz.func117 (by kernel_rfl) (z21 _ _) rfl ?_
  show gTsc s k
  rw [eTsc]
  simp only [SB]
section
variable (s:SState) (k:Nat)
def q153:Nat:=(s.thr.getD (↑k:Int).toNat c0t).held.length
def q154:Nat:=(s.bufs.getD (↑k:Int).toNat c0b).entries.length
end
theorem z12d (s:SState) (k:Nat):zyp s k=(inIx (↑k) s.thr.length/\inIx (↑k) s.bufs.length/\(RR zd/\(RR j6/\(s.thr.getD (↑k:Int).toNat c0t).id=(s.thr.getD k c0t).id)/\(RR j6/\(s.thr.getD (↑k:Int).toNat c0t).fn=(s.thr.getD k c0t).fn)/\(RR j6/\(s.thr.getD (↑k:Int).toNat c0t).pc=(s.thr.getD k c0t).pc)/\(RR 8/\∀ i:Nat,AV.int j6 ((s.thr.getD (↑k:Int).toNat c0t).regs.getD i 0)=AV.int j6 ((s.thr.getD k c0t).regs.getD i 0))/\(RR j6/\(s.thr.getD (↑k:Int).toNat c0t).steps=(s.thr.getD k c0t).steps)/\(RR j6/\(s.thr.getD (↑k:Int).toNat c0t).kids=(s.thr.getD k c0t).kids)/\(RR j6/\(s.thr.getD (↑k:Int).toNat c0t).phase=(s.thr.getD k c0t).phase)/\(RR j6/\(s.thr.getD (↑k:Int).toNat c0t).status=(s.thr.getD k c0t).status)/\(RR j6/\(s.thr.getD (↑k:Int).toNat c0t).fault=(s.thr.getD k c0t).fault)/\(RR leaf/\q153 s k=(s.thr.getD k c0t).held.length/\∀ i:Nat,i < q153 s k->AV.int j6 ((s.thr.getD (↑k:Int).toNat c0t).held.getD i 0)=AV.int j6 ((s.thr.getD k c0t).held.getD i 0))/\True)/\(RR zo/\(RR j6/\(s.bufs.getD (↑k:Int).toNat c0b).thread=(s.bufs.getD k c0b).thread)/\(RR j6/\(s.bufs.getD (↑k:Int).toNat c0b).first=(s.bufs.getD k c0b).first)/\(RR ze/\q154 s k=(s.bufs.getD k c0b).entries.length/\∀ i:Nat,i < q154 s k->encE ((s.bufs.getD (↑k:Int).toNat c0b).entries.getD i c0e)=encE ((s.bufs.getD k c0b).entries.getD i c0e))/\True)/\True):=by kernel_rfl
theorem zmr (s : SState) (k : Nat) (hk : InS s k) : Known Tryz.prog GG 125 [vTP s k] (.tup [vT (s.thr.getD k c0t), vB (s.bufs.getD k c0b)])  := by
  refine Known.of (V := vTo c0p s k c0ev 18 fun _ => none) (fn := Tryz.f125) Tryz.func125 (by kernel_rfl) (z21 _ _) rfl ?_
  show zyp s k
  rw [z12d]; try delta q153 q154
  simp only [SB, inIx]
  exact hk
section
variable (s:SState) (k:Nat) (v:Int)
def q155:Int:=(z3m (s.bufs.getD k c0b) v).fst
def q156:Int × Bool:=(z3m (s.bufs.getD k c0b) v).snd
def q157:Int:=(q156 s k v).fst
def qjz:=(q156 s k v).snd
end
theorem zyz (s:SState) (k:Nat) (v:Int):zqu s k v=(KN 125 [AV.mc plSh (AV.agg [z15 s,AV.int j6 ↑k])] (AV.tup [AV.mc zd (encT (s.thr.getD k c0t)),AV.mc zo (encB (s.bufs.getD k c0b))])/\KN 229 [AV.mc zo (encB (s.bufs.getD k c0b)),AV.int j6 v] (AV.tup [AV.int j6 (q155 s k v),AV.int j6 (q157 s k v),AV.bool (qjz s k v)])/\(qjz s k v=true->(RR j6/\q155 s k v=(z4m s k v).fst)/\(RR j6/\q157 s k v=(z4m s k v).snd)/\True)/\(qjz s k v=false->KN 227 [AV.mc zw (encM s.mem),AV.int j6 v] (AV.tup [AV.int j6 (z31 s.mem v).fst,AV.int j6 (z31 s.mem v).snd])/\(RR j6/\(z31 s.mem v).fst=(z4m s k v).fst)/\(RR j6/\-1=(z4m s k v).snd)/\True)):=by kernel_rfl
theorem zqy (s : SState) (k : Nat) (v : Int) (hs : SSm s) (hk : InS s k) : Known Tryz.prog GG 179 [vTP s k, .int .i64 v] (.tup [.int .i64 (z4m s k v).1, .int .i64 (z4m s k v).2])  := by
  refine Known.of (V := vTo c0p s k c0ev 37 fun _ => none) (fn := Tryz.f179) Tryz.func179 (by kernel_rfl) (z21 _ _) rfl ?_
  show zqu s k v
  rw [zyz]; try delta q155 q156 q157 qjz
  simp only [SB]
  refine ⟨zmr s k hk, zy8 _ _ (hs.ents k), fun h => ?_, fun h => ⟨zm7 _ _ hs.mem, ?_⟩⟩
  . unfold z4m; rw [if_pos h]; exact ⟨rfl, rfl⟩
  . unfold z4m; rw [if_neg (by rw [h]; simp)]; exact ⟨rfl, rfl⟩
section
variable (s:SState) (k:Nat)
def q158:=RR j6/\0=(tFlu s k).fst.ord
def q159:=RR j6/\0=(tFlu s k).fst.read
def q15a:=↑(s.bufs.getD k c0b).entries.length == (0:Int)
def q15b:=inIx 0 (s.bufs.getD k c0b).entries.length
def q15c:BEnt:=(s.bufs.getD k c0b).entries.getD (Int.toNat 0) c0e
end
theorem z12e (s:SState) (k:Nat):zyt s k=(KN 125 [AV.mc plSh (AV.agg [z15 s,AV.int j6 ↑k])] (AV.tup [AV.mc zd (encT (s.thr.getD k c0t)),AV.mc zo (encB (s.bufs.getD k c0b))])/\↑(s.bufs.getD k c0b).entries.length<=(9223372036854775807:Int)/\(q15a s k=true->(RR evSh/\(RR j6/\0=(tFlu s k).fst.agent)/\(RR j6/\0=(tFlu s k).fst.idx)/\(RR j6/\0=(tFlu s k).fst.kind)/\(RR j6/\0=(tFlu s k).fst.obj)/\(RR j6/\0=(tFlu s k).fst.mutex)/\(RR j6/\0=(tFlu s k).fst.entry)/\q158 s k/\q159 s k/\(RR j6/\0=(tFlu s k).fst.wrote)/\True)/\false=(tFlu s k).snd/\True)/\(q15a s k=false->KN 118 [AV.int j6 (s.thr.getD k c0t).id] (AV.int j6 (fluE (s.thr.getD k c0t).id))/\q15b s k/\q15b s k/\(RR evSh/\(RR j6/\fluE (s.thr.getD k c0t).id=(tFlu s k).fst.agent)/\(RR j6/\(s.bufs.getD k c0b).first=(tFlu s k).fst.idx)/\(RR j6/\4=(tFlu s k).fst.kind)/\(RR j6/\(q15c s k).var=(tFlu s k).fst.obj)/\(RR j6/\-1=(tFlu s k).fst.mutex)/\(RR j6/\(s.bufs.getD k c0b).first=(tFlu s k).fst.entry)/\q158 s k/\q159 s k/\(RR j6/\(q15c s k).val=(tFlu s k).fst.wrote)/\True)/\true=(tFlu s k).snd/\True)):=by kernel_rfl
theorem z12f (s : SState) (k : Nat) (hs : SSm s) (hk : InS s k) (h0 : 0 <= (s.thr.getD k c0t).id) : Known Tryz.prog GG 122 [vTP s k] (.tup [vEv (tFlu s k).1, .bool (tFlu s k).2])  := by
  refine Known.of (V := vTo c0p s k c0ev 34 fun _ => none) (fn := Tryz.f122) Tryz.func122 (by kernel_rfl) (z21 _ _) rfl ?_
  show zyt s k
  rw [z12e]; try delta q158 q159 q15a q15b q15c
  simp only [SB, inIx]
  have h1 := hs.ents k
  refine ⟨zmr s k hk, by omega, fun h => ?_, fun h => ⟨zx1 _ ⟨?_, (hs.ok k).id⟩, ⟨by omega, by omega⟩, ⟨by omega, by omega⟩, ?_⟩⟩
  . have e : tFlu s k = (c0ev, false) := by unfold tFlu; rw [if_pos (by omega)]
    rw [e]; exact ⟨⟨rfl, rfl, rfl, rfl, rfl, rfl, rfl, rfl, rfl⟩, rfl⟩
  . omega
  . have e : tFlu s k = (⟨fluE (s.thr.getD k c0t).id, (s.bufs.getD k c0b).first, 4, ((s.bufs.getD k c0b).entries.getD 0 c0e).var, -1, (s.bufs.getD k c0b).first, 0, 0, ((s.bufs.getD k c0b).entries.getD 0 c0e).val⟩, true) := by unfold tFlu; rw [if_neg (by omega)]
    rw [e]; exact ⟨⟨rfl, rfl, rfl, rfl, rfl, rfl, rfl, rfl, rfl⟩, rfl⟩
theorem zz0 {p : PProg} {s : SState} {k : Nat} (h : z3l p (s.thr.getD k c0t) = false) : tLab p s k = (c0ev, false) := by unfold tLab; rw [if_pos h]
theorem zqz {p : PProg} {s : SState} {k : Nat} (h : z3l p (s.thr.getD k c0t) = true) (h8 : (zu p (s.thr.getD k c0t)).op = 8 ∨ (zu p (s.thr.getD k c0t)).op = 14) : tLab p s k = (⟨(s.thr.getD k c0t).id, (s.thr.getD k c0t).steps, if (zu p (s.thr.getD k c0t)).op = 14 then 8 else 1, (zu p (s.thr.getD k c0t)).obj, -1, (z4m s k (zu p (s.thr.getD k c0t)).obj).2, (zu p (s.thr.getD k c0t)).ord, (z4m s k (zu p (s.thr.getD k c0t)).obj).1, 0⟩, true) := by
  unfold tLab; rw [if_neg (by rw [h]; simp), if_pos h8]
theorem zz1 {p : PProg} {s : SState} {k : Nat} (h : z3l p (s.thr.getD k c0t) = true) (h8 : (zu p (s.thr.getD k c0t)).op = 9) : tLab p s k = (⟨(s.thr.getD k c0t).id, (s.thr.getD k c0t).steps, 3, (zu p (s.thr.getD k c0t)).obj, -1, (s.bufs.getD k c0b).first + (s.bufs.getD k c0b).entries.length, (zu p (s.thr.getD k c0t)).ord, 0, regD (s.thr.getD k c0t) (zu p (s.thr.getD k c0t)).b⟩, true) := by
  unfold tLab; rw [if_neg (by rw [h]; simp), if_neg (by omega), if_pos h8]
theorem zz2 {p : PProg} {s : SState} {k : Nat} (h : z3l p (s.thr.getD k c0t) = true) (h8 : ¬(zu p (s.thr.getD k c0t)).op = 8) (h14 : ¬(zu p (s.thr.getD k c0t)).op = 14) (h9 : ¬(zu p (s.thr.getD k c0t)).op = 9) : tLab p s k = labS p (scS s) (s.thr.getD k c0t).id := by
  unfold tLab; rw [if_neg (by rw [h]; simp), if_neg (by omega), if_neg h9]
section
variable (s:SState) (k:Nat)
def q8u:=AV.mc plSh (AV.agg [z15 s,AV.int j6 ↑k])
def q15d:List AV:=[q8u s k]
end
section
variable (p:PProg) (s:SState) (k:Nat)
def q15e:=RR j6/\0=(tLab p s k).fst.read
def q15f:=(RR j6/\0=(tLab p s k).fst.wrote)/\True
def q8v:Int:=(z4m s k (zu p (s.thr.getD k c0t)).obj).fst
def q15g:Int:=(z4m s k (zu p (s.thr.getD k c0t)).obj).snd
def q15h:=KN 179 [q8u s k,AV.int j6 (zu p (s.thr.getD k c0t)).obj] (AV.tup [AV.int j6 (q8v p s k),AV.int j6 (q15g p s k)])
def qk0:=RR j6/\(s.thr.getD k c0t).id=(tLab p s k).fst.agent
def qk1:=RR j6/\(s.thr.getD k c0t).steps=(tLab p s k).fst.idx
def q15i:=RR j6/\(zu p (s.thr.getD k c0t)).obj=(tLab p s k).fst.obj
def q15j:=RR j6/\-1=(tLab p s k).fst.mutex
def q15k:=RR j6/\(zu p (s.thr.getD k c0t)).ord=(tLab p s k).fst.ord
def q15l:=q15i p s k/\q15j p s k/\(RR j6/\q15g p s k=(tLab p s k).fst.entry)/\q15k p s k/\(RR j6/\q8v p s k=(tLab p s k).fst.read)/\q15f p s k
def q8w:=(zu p (s.thr.getD k c0t)).op == 14
def q15m:=q8w p s k=true
def q15n:=q8w p s k=false
def q15o:=(q15m p s k->q15h p s k/\(RR evSh/\qk0 p s k/\qk1 p s k/\(RR j6/\8=(tLab p s k).fst.kind)/\q15l p s k)/\true=(tLab p s k).snd/\True)/\(q15n p s k->q15h p s k/\(RR evSh/\qk0 p s k/\qk1 p s k/\(RR j6/\1=(tLab p s k).fst.kind)/\q15l p s k)/\true=(tLab p s k).snd/\True)
def q8x:=(zu p (s.thr.getD k c0t)).op == 8
def q15p:=q8x p s k=true
def q15q:Int:=(s.bufs.getD k c0b).first + ↑(s.bufs.getD k c0b).entries.length
def q15r:=(zu p (s.thr.getD k c0t)).op == 9
def q8y:=AV.mc stSh (AV.agg [rowT s.thr,encM s.mem,AV.nils])
def q1r:Ev:=(labS p (scS s) (s.thr.getD k c0t).id).fst
def q15s:=(labS p (scS s) (s.thr.getD k c0t).id).snd
def q15t:=(q15r p s k=true->inIx (zu p (s.thr.getD k c0t)).b 8/\↑(s.bufs.getD k c0b).entries.length<=(9223372036854775807:Int)/\InR j6 (q15q s k)/\(RR evSh/\qk0 p s k/\qk1 p s k/\(RR j6/\3=(tLab p s k).fst.kind)/\q15i p s k/\q15j p s k/\(RR j6/\q15q s k=(tLab p s k).fst.entry)/\q15k p s k/\q15e p s k/\(RR j6/\(s.thr.getD k c0t).regs.getD (zu p (s.thr.getD k c0t)).b.toNat 0=(tLab p s k).fst.wrote)/\True)/\true=(tLab p s k).snd/\True)/\(q15r p s k=false->KN 117 (q15d s k) (q8y s)/\KN 184 [AV.mc za (encP p),q8y s,AV.int j6 (s.thr.getD k c0t).id] (AV.tup [AV.mc evSh (z6c (q1r p s k)),AV.bool (q15s p s k)])/\(RR evSh/\(RR j6/\(q1r p s k).agent=(tLab p s k).fst.agent)/\(RR j6/\(q1r p s k).idx=(tLab p s k).fst.idx)/\(RR j6/\(q1r p s k).kind=(tLab p s k).fst.kind)/\(RR j6/\(q1r p s k).obj=(tLab p s k).fst.obj)/\(RR j6/\(q1r p s k).mutex=(tLab p s k).fst.mutex)/\(RR j6/\(q1r p s k).entry=(tLab p s k).fst.entry)/\(RR j6/\(q1r p s k).ord=(tLab p s k).fst.ord)/\(RR j6/\(q1r p s k).read=(tLab p s k).fst.read)/\(RR j6/\(q1r p s k).wrote=(tLab p s k).fst.wrote)/\True)/\q15s p s k=(tLab p s k).snd/\True)
def q15u:=q8x p s k=false
end
theorem z12g (p:PProg) (s:SState) (k:Nat):zys p s k=(KN 125 (q15d s k) (AV.tup [AV.mc zd (encT (s.thr.getD k c0t)),AV.mc zo (encB (s.bufs.getD k c0b))])/\KN 177 [AV.mc za (encP p),AV.mc zd (encT (s.thr.getD k c0t))] (AV.tup [AV.mc zt (encI (zu p (s.thr.getD k c0t))),AV.bool (z3l p (s.thr.getD k c0t))])/\((!z3l p (s.thr.getD k c0t))=true->(RR evSh/\(RR j6/\0=(tLab p s k).fst.agent)/\(RR j6/\0=(tLab p s k).fst.idx)/\(RR j6/\0=(tLab p s k).fst.kind)/\(RR j6/\0=(tLab p s k).fst.obj)/\(RR j6/\0=(tLab p s k).fst.mutex)/\(RR j6/\0=(tLab p s k).fst.entry)/\(RR j6/\0=(tLab p s k).fst.ord)/\q15e p s k/\q15f p s k)/\false=(tLab p s k).snd/\True)/\((!z3l p (s.thr.getD k c0t))=false->(q15p p s k->(q15p p s k->q15o p s k)/\(q15u p s k->q15t p s k))/\(q15u p s k->(q15m p s k->q15o p s k)/\(q15n p s k->q15t p s k)))):=by kernel_rfl
theorem z12h (p : PProg) (s : SState) (k : Nat) (hp : PSm p) (hs : SSm s) (hk : InS s k) (hv : z2c p s.mem = true) (hb : vldB (s.bufs.getD k c0b) = true) : Known Tryz.prog GG 123 [vTP s k, vP p] (.tup [vEv (tLab p s k).1, .bool (tLab p s k).2])  := by
  refine Known.of (V := vTo p s k c0ev 79 fun _ => none) (fn := Tryz.f123) Tryz.func123 (by kernel_rfl) (z21 _ _) rfl ?_
  show zys p s k
  rw [z12g]; try delta q8u q15d q15e q15f q8v q15g q15h qk0 qk1 q15i q15j q15k q15l q8w q15m q15n q15o q8x q15p q15q q15r q8y q1r q15s q15t q15u
  simp only [SB, inIx]
  have h1 := hs.ents k
  have hr := ((z40 _).1 hb).1
  refine ⟨zmr s k hk, zo7 p _ hp (hs.ok k), fun h => ?_, fun h => ?_⟩
  . rw [zz0 h]; exact ⟨⟨rfl, rfl, rfl, rfl, rfl, rfl, rfl, rfl, rfl⟩, rfl⟩
  obtain ⟨k1, k2⟩ := zds hp (hs.ok k) hv h
  rw [<- k2] at k1
  have hS := zqy s k (zu p (s.thr.getD k c0t)).obj hs hk
  have hL : Known Tryz.prog GG 117 [vTP s k] (vStn s) /\ _ := ⟨kTsc s k, zyy p s (s.thr.getD k c0t).id hp hs⟩
  refine ⟨fun h8 => ⟨fun _ => ⟨fun h14 => by omega, fun h14 => ⟨hS, ?_⟩⟩, fun hn => absurd h8 hn⟩, fun h8 => ⟨fun h14 => ⟨fun _ => ⟨hS, ?_⟩, fun hn => absurd h14 hn⟩, fun h14 => ⟨fun h9 => ⟨k1.b (by omega), by omega, zg (by omega) (by omega), ?_⟩, fun h9 => ⟨hL.1, hL.2, ?_⟩⟩⟩⟩
  . rw [zqz h (.inl h8), if_neg h14]; exact ⟨⟨rfl, rfl, rfl, rfl, rfl, rfl, rfl, rfl, rfl⟩, rfl⟩
  . rw [zqz h (.inr h14), if_pos h14]; exact ⟨⟨rfl, rfl, rfl, rfl, rfl, rfl, rfl, rfl, rfl⟩, rfl⟩
  . rw [zz1 h h9]; exact ⟨⟨rfl, rfl, rfl, rfl, rfl, rfl, rfl, rfl, rfl⟩, rfl⟩
  . rw [zz2 h h8 h14 h9]; exact ⟨⟨rfl, rfl, rfl, rfl, rfl, rfl, rfl, rfl, rfl⟩, rfl⟩
section
variable (s:SState) (a:Int)
def q8z:Int:=max (fid s.thr (thrE a)) 0
def q90:=decide (0<=fid s.thr (thrE a))
end
theorem z12i (s:SState) (a:Int):zyv s a=(KN 121 [AV.int j6 a] (AV.int j6 (thrE a))/\KN 120 [rowT s.thr,AV.int j6 (thrE a)] (AV.tup [AV.int j6 (q8z s a),AV.bool (q90 s a)])/\(RR plSh/\((RW zd s.thr.length fun i=>encT (s.thr.getD i c0t))/\((RW leaf s.mem.vars.length fun i=>AV.int j6 (s.mem.vars.getD i 0))/\(RW leaf s.mem.owners.length fun i=>AV.int j6 (s.mem.owners.getD i 0))/\(RW leaf s.mem.queues.length fun i=>rowI (s.mem.queues.getD i []))/\(RW leaf s.mem.sig.length fun i=>AV.int j6 (s.mem.sig.getD i 0))/\True)/\(RW zo s.bufs.length fun i=>encB (s.bufs.getD i c0b))/\True)/\RI (q8z s a)/\True)/\RR (q90 s a)/\True):=by kernel_rfl
theorem zz3 (s : SState) (a : Int) (hs : SSm s) (ha : I64 a) : Known Tryz.prog GG 55 [vSt s, .int .i64 a] (.tup [vTP s (max (fid s.thr (thrE a)) 0), .bool (decide (0 <= fid s.thr (thrE a)))])  := by
  refine Known.of (V := vTo c0p s 0 c0ev 20 fun _ => none) (fn := Tryz.f55) Tryz.func55 (by kernel_rfl) (z21 _ _) rfl ?_
  show zyv s a
  rw [z12i]; try delta q8z q90
  simp only [SB]
  exact ⟨z11d a ha, zlh _ _ hs.thr hs.r8⟩
theorem zoq {p : PProg} {m : Mem} (h : z2c p m = true) : (zb p).1 = 0 := by
  unfold z2c at h
  rw [Bool.and_eq_true, beq_iff_eq] at h; exact h.1
section
variable (p:PProg)
def q15v:=(zb p).fst == 0
def q15w:=!q15v p
def qk2:=(!q15w p)=true
def q91:=qk2 p->qk2 p
variable (s:SState)
def q15x:=q15w p||!z2c p s.mem
def qcc:=(!q15x p s)=true
def q43:=qcc p s->qcc p s
def q15y:=q15x p s||(↑s.bufs.length:Int) != (↑s.thr.length:Int)
end
section
variable (p:PProg) (b:Int) (s:SState) (x3:Nat)
def q15z:=∀ j:Nat,j < x3->z93 p b s.thr j/\zgu p (s.thr.getD j c0t) (s.bufs.getD j c0b)=true
def qk3:=x3<=s.thr.length/\z2c p s.mem=true/\s.bufs.length=s.thr.length/\q15z p b s x3
def q160:=z9n p b (dT (encT (s.thr.getD (↑x3:Int).toNat c0t)))
def q161:=!q160 p b s x3
def q162:=!q161 p b s x3
def qk4:=q162 p b s x3=true
def qcd:=qk4 p b s x3->qk4 p b s x3
def q92:=(q162 p b s x3&&q3o x3)=true
def q29:=q92 p b s x3->q92 p b s x3
def q163:=q161 p b s x3||q3o x3&&decide ((s.thr.getD (↑x3:Int).toNat c0t).id<=(s.thr.getD ((↑x3:Int) - 1).toNat c0t).id)
def qk5:=(!q163 p b s x3)=true
def qk6:=qk5 p b s x3->qk5 p b s x3
variable (x1:Nat)
def q164:=vldB (dB (encB (s.bufs.getD (↑x1:Int).toNat c0b)))
def q165:=q163 p b s x3||!q164 s x3
def q166:=(!q165 p b s x3)=true
def q93:=q166 p b s x3->q166 p b s x3
def q167:=q165 p b s x3||(s.bufs.getD (↑x3:Int).toNat c0b).thread != (s.thr.getD (↑x3:Int).toNat c0t).id
def qk7:Nat:=(s.bufs.getD (↑x1:Int).toNat c0b).entries.length
def q168:Int:=↑(qk7 s x1)
variable (x4:Nat)
def qk8:=x4<=(s.bufs.getD x3 c0b).entries.length/\x3 < s.thr.length/\z2c p s.mem=true/\s.bufs.length=s.thr.length/\q15z p b s x3/\z93 p b s.thr x3/\vldB (s.bufs.getD x3 c0b)=true/\(s.bufs.getD x3 c0b).thread=(s.thr.getD x3 c0t).id/\∀ j:Nat,j < x4->((s.bufs.getD x3 c0b).entries.getD j c0e).var < ↑p.vars.length
def qk9:=(RR (27:TypeId)/\qa p)/\(RR (35:TypeId)/\q1n s)/\True
end
section
variable (p:PProg) (s:SState) (x2:Nat) (x3:Nat)
def q169:=decide ((↑p.vars.length:Int)<=((s.bufs.getD x2 c0b).entries.getD (↑x3:Int).toNat c0e).var)
end
section
variable (s:SState) (x1:Nat) (x2:Nat)
def q16a:Nat:=(s.bufs.getD x1 c0b).entries.length - x2
def q16b:=decide ((↑x2:Int) < (↑(s.bufs.getD x1 c0b).entries.length:Int))
end
theorem z12j (p:PProg) (b:Int) (s:SState):zyr p b s=(KN 111 [AV.mc za (encP p)] (AV.bool (q15v p))/\q91 p/\q91 p/\q91 p/\(qk2 p->KN 112 [AV.mc za (encP p),AV.mc zw (encM s.mem)] (AV.bool (z2c p s.mem)))/\q91 p/\q91 p/\q43 p s/\q43 p s/\(qcc p s->↑s.bufs.length<=(9223372036854775807:Int))/\q43 p s/\q43 p s/\(qcc p s->q32 s)/\q43 p s/\q43 p s/\q43 p s/\(q15y p s=true->false=z4a p b s)/\(q15y p s=false->q32 s/\(∃ i,qk3 p b s i/\(RI b/\RR (AV.ptr (3:Nat) [])/\RR (AV.ptr (5:Nat) [])/\qk s/\RI ↑s.thr.length/\qc i)/\((27:Nat)=(27:TypeId)/\qa p)/\((35:Nat)=(35:TypeId)/\q1n s)/\True)/\∀ i:Nat,qk3 p b s i->(ql s i=true->inIx (↑i) s.thr.length/\inIx (↑i) s.bufs.length/\KN 113 [AV.mc za (encP p),AV.int j6 b,AV.mc zd (encT (s.thr.getD (↑i:Int).toNat c0t))] (AV.bool (q160 p b s i))/\qcd p b s i/\qcd p b s i/\q29 p b s i/\q29 p b s i/\(q92 p b s i->InR j6 (qj i))/\q29 p b s i/\q29 p b s i/\(q92 p b s i->inIx (qj i) s.thr.length)/\q29 p b s i/\q29 p b s i/\q29 p b s i/\q29 p b s i/\q29 p b s i/\qcd p b s i/\(qk4 p b s i->q3o i=true->q92 p b s i)/\qcd p b s i/\qk6 p b s i/\(qk5 p b s i->KN 114 [AV.mc zo (encB (s.bufs.getD (↑i:Int).toNat c0b))] (AV.bool (q164 s i)))/\qk6 p b s i/\qk6 p b s i/\q93 p b s i/\q93 p b s i/\q93 p b s i/\q93 p b s i/\q93 p b s i/\(q167 p b s i=true->false=z4a p b s)/\(q167 p b s i=false->q168 s i<=9223372036854775807/\(∃ p_1,(∃ i_1,qk8 p b s p_1 i_1/\(RI b/\RR (AV.ptr 3 [])/\RR (AV.ptr 5 [])/\qk s/\RI (↑s.thr.length:Int)/\(RR j6/\(↑i:Int)=(↑p_1:Int))/\(RR ze/\qk7 s i=(s.bufs.getD p_1 c0b).entries.length/\∀ (i_2:Nat),i_2 < qk7 s i->encE ((s.bufs.getD (↑i:Int).toNat c0b).entries.getD i_2 c0e)=encE ((s.bufs.getD p_1 c0b).entries.getD i_2 c0e))/\(RR j6/\q168 s i=(↑(s.bufs.getD p_1 c0b).entries.length:Int))/\qc i_1)/\qk9 p s)/\∀ (i_1:Nat),qk8 p b s p_1 i_1->(q16b s p_1 i_1=true->inIx (↑i_1:Int) (s.bufs.getD p_1 c0b).entries.length/\(↑p.vars.length:Int)<=9223372036854775807/\(q169 p s p_1 i_1=true->false=z4a p b s)/\(q169 p s p_1 i_1=false->q9 i_1/\∃ j,qk8 p b s p_1 j/\q16a s p_1 j < q16a s p_1 i_1/\(RI b/\RR (AV.ptr 3 [])/\RR (AV.ptr 5 [])/\qk s/\RI (↑s.thr.length:Int)/\RI (↑p_1:Int)/\(RW ze (s.bufs.getD p_1 c0b).entries.length fun i=>encE ((s.bufs.getD p_1 c0b).entries.getD i c0e))/\RI (↑(s.bufs.getD p_1 c0b).entries.length:Int)/\qd i_1 j)/\qk9 p s))/\(q16b s p_1 i_1=false->q9 p_1/\∃ j,qk3 p b s j/\s.thr.length - j < s.thr.length - i/\(RI b/\RR (AV.ptr 3 [])/\RR (AV.ptr 5 [])/\qk s/\RI (↑s.thr.length:Int)/\qd p_1 j)/\qk9 p s))))/\(ql s i=false->true=z4a p b s))):=by kernel_rfl
theorem ztz (p : PProg) (b : Int) (s : SState) (hp : PSm p) (hs : SSm s) : Known Tryz.prog GG 52 [vP p, .int .i64 b, vSt s] (.bool (z4a p b s))  := by
  refine Known.of (V := { vTo p s 0 c0ev 92 (zyq p b s) with invP := zqv p b s }) (fn := Tryz.f52) Tryz.func52 (by kernel_rfl) (z21 _ _) rfl ?_
  show zyr p b s
  rw [z12j]; try delta q15v q15w qk2 q91 q15x qcc q43 q32 q15y q15z qk3 qk qc qa q1n q160 q161 q162 qk4 qcd q3o q92 q29 qj q163 qk5 qk6 q164 q165 q166 q93 q167 qk7 q168 qk8 qk9 q169 q8 q9 q16a qd q16b ql
  simp only [SB, inIx]
  have h1 := hs.thr
  have h2 := hs.bufs
  have h3 := hp.vars
  have eT : ∀ i, dT (encT (s.thr.getD i c0t)) = s.thr.getD i c0t := fun i => z2u _ (hs.ok i).regs
  simp only [eT]
  refine ⟨zl3 p hp, fun _ => zwx p s.mem hp hs.mem, fun _ => by omega, fun _ => by omega, fun h => f_eq fun hv => ?_, fun h => ⟨by omega, ⟨0, ⟨by omega, h.1.2, by omega, fun j hj => by omega⟩, rfl⟩, fun i hi => ⟨fun hlt => ⟨hlt, by omega, zgp p b _ hp (hs.ok i), fun _ => zg (by omega) (by omega), fun _ => by omega, fun _ => zok _ (hs.ents i), fun h => f_eq fun hv => ?_, fun h => ⟨by have := hs.ents i; omega, i, ⟨0, ⟨by omega, hlt, hi.2.1, hi.2.2.1, hi.2.2.2, ⟨h.1.1.1, fun h0 => ?_⟩, h.1.2, h.2, fun j hj => by omega⟩, rfl, ⟨rfl, fun _ _ => rfl⟩, rfl, rfl⟩, fun q hq => ⟨fun hlt2 => ⟨hlt2, by omega, fun hn => f_eq fun hv => ?_, fun hn => ⟨zg (by have := hs.ents i; omega) (by have := hs.ents i; omega), q + 1, ⟨by omega, hlt, hq.2.2.1, hq.2.2.2.1, hq.2.2.2.2.1, hq.2.2.2.2.2.1, hq.2.2.2.2.2.2.1, hq.2.2.2.2.2.2.2.1, fun j hj => ?_⟩, by omega, by omega⟩⟩, fun hge => ⟨zg (by omega) (by omega), i + 1, ⟨by omega, hi.2.1, hi.2.2.1, fun j hj => ?_⟩, by omega, by omega⟩⟩⟩⟩, fun hge => ?_⟩⟩⟩
  . obtain ⟨v1, v2, _⟩ := z3r.1 hv
    rcases h with (h | h) | h
    . exact h (zoq v1)
    . rw [v1] at h; cases h
    . omega
  . obtain ⟨v1, v2⟩ := (z3r.1 hv).2.2 i hlt
    obtain ⟨b1, b2, _⟩ := z6l.1 v2
    rcases h with ((h | ⟨h, h'⟩) | h) | h
    . rw [v1.1] at h; cases h
    . have := v1.2 (by omega)
      rw [show ((i : Int) - 1).toNat = i - 1 from by omega] at h'
      omega
    . rw [b1] at h; cases h
    . exact h b2
  . have := h.1.1.2
    rw [show ((i : Int) - 1).toNat = i - 1 from by omega] at this
    omega
  . have := (z6l.1 ((z3r.1 hv).2.2 i hlt).2).2.2 q hlt2
    omega
  . by_cases e : j = q
    . subst e; omega
    . exact hq.2.2.2.2.2.2.2.2 j (by omega)
  . by_cases e : j = i
    . subst e
      exact ⟨hq.2.2.2.2.2.1, z6l.2 ⟨hq.2.2.2.2.2.2.1, hq.2.2.2.2.2.2.2.1, fun j hj => hq.2.2.2.2.2.2.2.2 j (by omega)⟩⟩
    . exact hi.2.2.2 j (by omega)
  . exact t_eq fun hv => Bool.noConfusion (hv.symm.trans (z3r.2 ⟨hi.2.1, hi.2.2.1, fun j hj => hi.2.2.2 j (by omega)⟩))
section
variable (p:PProg) (s:SState) (k:Nat)
def q16c:=(!q8x p s k)=true
def qka:=q16c p s k->q16c p s k
def q16d:=q8x p s k||(zu p (s.thr.getD k c0t)).op == 9
def q16e:=AV.int j6 (q8v p s k)
def q16f:=inIx (zu p (s.thr.getD k c0t)).b 8
def qkb:Int:=(s.thr.getD k c0t).regs.getD (zu p (s.thr.getD k c0t)).b.toNat 0
def q16g:List AV:=[AV.int j6 (qkb p s k)]
def q16h:Int × Int:=app (zu p (s.thr.getD k c0t)).fn (q8v p s k) (qkb p s k)
def q16i:Int:=(q16h p s k).fst
def q16j:Int:=(q16h p s k).snd
def q16k:=q16j p s k == 0
def q16l:=q16k p s k=true
def q16m:=q16l p s k->q16l p s k
def qkc:=z6d (zu p (s.thr.getD k c0t)).op=true
def qce:=qkc p s k->qkc p s k
def q16n:=z6d (zu p (s.thr.getD k c0t)).op&&decide ((0:Int) < ↑(s.bufs.getD k c0b).entries.length)
def qkd:=(!q16n p s k)=true
def q94:=qkd p s k->qkd p s k
variable (on:List Int)
def q16o:=hasI (z1b on.length fun i=>AV.int j6 (on.getD i 0)) (s.thr.getD k c0t).id
def q16p:=q16n p s k||!q16o s k on
def qke:Int:=max (fib s.bufs (qkb p s k)) 0
def qkf:=decide (0<=fib s.bufs ((s.thr.getD k c0t).regs.getD (zu p (s.thr.getD k c0t)).b.toNat 0))
def qcf:=qkf p s k=true
def q2a:=qcf p s k->qcf p s k
def q16q:Int:=↑(s.bufs.getD (qke p s k).toNat c0b).entries.length
def q16r:=(zu p (s.thr.getD k c0t)).op == 22
end
theorem eTon (p:PProg) (s:SState) (k:Nat) (on:List Int):gTon p s k on=(KN 125 [q8u s k] (AV.tup [AV.mc zd (encT (s.thr.getD k c0t)),AV.mc zo (encB (s.bufs.getD k c0b))])/\KN 177 [AV.mc za (encP p),AV.mc zd (encT (s.thr.getD k c0t))] (AV.tup [AV.mc zt (encI (zu p (s.thr.getD k c0t))),AV.bool (z3l p (s.thr.getD k c0t))])/\((!z3l p (s.thr.getD k c0t))=true->false=tOn p s k on)/\((!z3l p (s.thr.getD k c0t))=false->qka p s k/\qka p s k/\qka p s k/\(q16d p s k=true->true=tOn p s k on)/\(q16d p s k=false->(q8w p s k=true->KN 179 [q8u s k,AV.int j6 (zu p (s.thr.getD k c0t)).obj] (AV.tup [q16e p s k,AV.int j6 (z4m s k (zu p (s.thr.getD k c0t)).obj).snd])/\q16f p s k/\KN 180 (AV.int j6 (zu p (s.thr.getD k c0t)).fn::q16e p s k::q16g p s k) (AV.tup [AV.int j6 (q16i p s k),AV.int j6 (q16j p s k)])/\q16m p s k/\q16m p s k/\(q16k p s k&&q16i p s k != 0)=tOn p s k on)/\(q8w p s k=false->KN 181 [AV.int j6 (zu p (s.thr.getD k c0t)).op] (AV.bool (z6d (zu p (s.thr.getD k c0t)).op))/\qce p s k/\qce p s k/\(qkc p s k->↑(s.bufs.getD k c0b).entries.length<=(9223372036854775807:Int))/\qce p s k/\qce p s k/\q94 p s k/\q94 p s k/\q94 p s k/\(qkd p s k->KN 53 [rowI on,AV.int j6 (s.thr.getD k c0t).id] (AV.bool (q16o s k on)))/\q94 p s k/\q94 p s k/\(q16p p s k on=true->false=tOn p s k on)/\(q16p p s k on=false->(q16r p s k=true->q16f p s k/\KN 132 (rowB s.bufs::q16g p s k) (AV.tup [AV.int j6 (qke p s k),AV.bool (qkf p s k)])/\q2a p s k/\q2a p s k/\q2a p s k/\q2a p s k/\(qcf p s k->inIx (qke p s k) s.bufs.length)/\q2a p s k/\q2a p s k/\q2a p s k/\(qcf p s k->q16q p s k<=9223372036854775807)/\q2a p s k/\q2a p s k/\(qkf p s k&&q16q p s k == 0)=tOn p s k on)/\(q16r p s k=false->true=tOn p s k on)))))):=by kernel_rfl
theorem kTon (p : PProg) (s : SState) (k : Nat) (on : List Int) (hp : PSm p) (hs : SSm s) (hk : InS s k) (hv : z2c p s.mem = true) (hl : on.length <= 1000000) : Known Tryz.prog GG 119 [vTP s k, vP p, rowI on] (.bool (tOn p s k on))  := by
  refine Known.of (V := vTo p s k c0ev 112 fun _ => none) (fn := Tryz.f119) Tryz.func119 (by kernel_rfl) (z21 _ _) rfl ?_
  show gTon p s k on
  rw [eTon]; try delta q8u q8x q16c qka q16d q8v q16e q16f qkb q16g q16h q16i q16j q16k q16l q16m q8w qkc qce q16n qkd q94 q16o q16p qke qkf qcf q2a q16q q16r
  simp only [SB, inIx]
  simp only [oR]
  have h1 := hs.ents k
  have h2 := hs.bufs
  refine ⟨zmr s k hk, zo7 p _ hp (hs.ok k), fun h => ?_, fun h => ?_⟩
  . unfold tOn; rw [if_pos h]
  obtain ⟨k1, k2⟩ := zds hp (hs.ok k) hv h
  rw [<- k2] at k1
  have hS := zqy s k (zu p (s.thr.getD k c0t)).obj hs hk
  have hf := zqm s.bufs ((s.thr.getD k c0t).regs.getD (zu p (s.thr.getD k c0t)).b.toNat 0)
  refine ⟨fun h8 => ?_, fun h8 => ⟨fun h14 => ⟨hS, k1.b (by omega), kApp _ _ _, ?_⟩, fun h14 => ⟨zs1 _, fun _ => by omega, fun _ => zcj _ _ hl, fun hd => ?_, fun hd => ⟨fun h22 => ⟨k1.b (by omega), zya _ _ h2, fun h => by omega, fun h => by have := hs.ents (max (fib s.bufs ((s.thr.getD k c0t).regs.getD (zu p (s.thr.getD k c0t)).b.toNat 0)) 0).toNat; omega, ?_⟩, fun h22 => ?_⟩⟩⟩⟩
  . unfold tOn; rw [if_neg (by rw [h]; simp), if_pos h8]
  . unfold tOn; rw [if_neg (by rw [h]; simp), if_neg (by omega), if_pos h14]; rfl
  . unfold tOn; rw [if_neg (by rw [h]; simp), if_neg (by omega), if_neg h14, if_pos]
    rw [Bool.or_eq_true, Bool.and_eq_true, decide_eq_true_eq, Bool.not_eq_true']
    exact hd.imp (fun x => ⟨x.1, by omega⟩) id
  all_goals
    unfold tOn
    rw [if_neg (by rw [h]; simp), if_neg (by omega), if_neg h14, if_neg (by
      rw [Bool.or_eq_true, Bool.and_eq_true, decide_eq_true_eq, Bool.not_eq_true']
      rintro (⟨q1, q2⟩ | q)
      . rcases hd.1 with h | h
        . rw [q1] at h; cases h
        . omega
      . rw [hd.2] at q; cases q)]
  . rw [if_pos h22]
    show _ = (decide (0 <= fib s.bufs ((s.thr.getD k c0t).regs.getD (zu p (s.thr.getD k c0t)).b.toNat 0)) && _)
    by_cases h0 : 0 <= fib s.bufs ((s.thr.getD k c0t).regs.getD (zu p (s.thr.getD k c0t)).b.toNat 0)
    . rw [Int.max_eq_left h0]
      congr 1
      rw [Bool.eq_iff_iff, beq_iff_eq, beq_iff_eq]
      unfold regD; omega
    . rw [decide_eq_false h0, Bool.false_and, Bool.false_and]
  . rw [if_neg h22]
theorem zz4 (l : List Buf) (i : Nat) (h1 : 0 < i) (hi : i <= l.length) : fluR l (i - 1) = fluR l i ++ (if 0 < (l.getD (i - 1) c0b).entries.length then [fluE (l.getD (i - 1) c0b).thread] else []) := by
  unfold fluR
  have e : l.drop (i - 1) = l.getD (i - 1) c0b :: l.drop i := by
    rw [List.drop_eq_getElem_cons (show i - 1 < l.length by omega), show i - 1 + 1 = i by omega, List.getD_eq_getElem?_getD, List.getElem?_eq_getElem (show i - 1 < l.length by omega)]; rfl
  rw [e, List.filter_cons]
  by_cases h : 0 < (l.getD (i - 1) c0b).entries.length
  . rw [if_pos (decide_eq_true h), if_pos h, List.map_cons, List.reverse_cons]
  . rw [if_neg (by rw [decide_eq_false h]; simp), if_neg h, List.append_nil]
theorem zdx (l : List Buf) (i : Nat) : (fluR l i).length <= l.length := by
  unfold fluR
  rw [List.length_reverse, List.length_map]
  exact Nat.le_trans (List.length_filter_le _ _) (by rw [List.length_drop]; omega)
theorem zr0 (l : List Buf) : fluR l l.length = [] := by unfold fluR; rw [List.drop_length]; rfl
theorem zif (p : PProg) (s : SState) (i : Nat) : (onTR p s i).length <= i := by
  unfold onTR
  rw [List.length_map]
  exact Nat.le_trans (List.length_filter_le _ _) (by simp)
theorem zr1 (p : PProg) (s : SState) (i : Nat) : onTR p s (i + 1) = onTR p s i ++ (if tOn p s i (onS p (scS s)) then [(s.thr.getD i c0t).id] else []) := by
  unfold onTR
  rw [List.range_succ, List.filter_append, List.map_append]
  congr 1
  simp only [List.filter_cons, List.filter_nil]
  split <;> rfl
theorem z12k {p : PProg} {s : SState} {i : Nat} (h : tOn p s i (onS p (scS s)) = true) : agL p s (i + 1) = agL p s i ++ [(s.thr.getD i c0t).id] := by
  unfold agL; rw [zr1, if_pos h, List.append_assoc]
theorem z12l {p : PProg} {s : SState} {i : Nat} (h : tOn p s i (onS p (scS s)) = false) : agL p s (i + 1) = agL p s i := by
  unfold agL; rw [zr1, if_neg (by rw [h]; simp), List.append_nil]
theorem zu0 (p : PProg) (s : SState) : (onS p s).length <= s.thr.length := by
  unfold onS
  split
  . rw [List.length_map]; exact List.length_filter_le _ _
  . exact Nat.zero_le _
section
variable (s:SState)
def q16s:Int:=↑s.bufs.length - 1
end
section
variable (p:PProg) (s:SState)
def q5e:=RW leaf (onS p (scS s)).length fun i=>AV.int j6 ((onS p (scS s)).getD i 0)
variable (x1:Nat)
def q16t:=(fluR s.bufs x1).length=0
def q16u:=inIx (qj x1) s.bufs.length
def q16v:Buf:=s.bufs.getD (qj x1).toNat c0b
def q16w:Int:=(q16v s x1).thread
def q16x:=AV.int j6 (fluE (q16w s x1))
def qcg:Nat:=(fluR s.bufs x1).length + 1
variable (x0:Nat)
def q16y:=InR j6 (q8q x0)
variable (x2:Nat)
def q16z:=qcg s x1=(fluR s.bufs x2).length
end
section
variable (x0:Nat) (x1:Nat)
def q170:=(RR j6/\q8q x0=qj x1)/\True
end
section
variable (s:SState) (x1:Nat) (x2:Nat)
def q95:=AV.int j6 ((fluR s.bufs x1).getD x2 0)
def q171:=decide ((0:Int) < ↑(s.bufs.getD (↑x1 - (1:Int)).toNat c0b).entries.length)
def q172:=(fluR s.bufs x1).length=(fluR s.bufs x2).length
end
section
variable (p:PProg) (s:SState) (x2:Nat) (x3:Nat)
def q173:=(fluR s.bufs x2).length=(agL p s x3).length
def q5f:=AV.int j6 ((agL p s x2).getD x3 0)
def qch:Nat:=(agL p s x2).length + 1
def q174:=qch p s x2=(agL p s x3).length
def q175:=(agL p s x2).length=(agL p s x3).length
end
theorem eTag (p:PProg) (s:SState):gTag p s=(KN 117 [AV.mc plSh (AV.agg [z15 s,AV.int j6 (0:Int)])] (q8y s)/\KN 116 [AV.mc za (encP p),q8y s] (rowI (onS p (scS s)))/\↑s.bufs.length<=(9223372036854775807:Int)/\InR j6 (q16s s)/\(∃ i,i<=s.bufs.length/\(RR (AV.ptr (2:Nat) [])/\RR (AV.ptr (3:Nat) [])/\q5e p s/\(q16t s i/\RR true/\RR true)/\(RR j6/\q16s s=qj i)/\True)/\((27:Nat)=(27:TypeId)/\qa p)/\((35:Nat)=(35:TypeId)/\q1n s)/\(q16t s i/\RR true)/\True)/\∀ i:Nat,i<=s.bufs.length->(q8r i=true->q16u s i/\↑(q16v s i).entries.length<=(9223372036854775807:Int)/\(q171 s i=true->q16u s i/\KN 118 [AV.int j6 (q16w s i)] (q16x s i)/\qy/\(RR (fluR s.bufs i).length/\↑(qcg s i) * ↑(8:Nat)<=(140737488355328:Int)/\qcg s i<=9223372036854775807)/\qq/\q16y i/\(∃ j,j<=s.bufs.length/\j < i/\(RR (AV.ptr (2:Nat) [])/\RR (AV.ptr (3:Nat) [])/\q5e p s/\(RR (40:Nat)/\q16z s i j)/\q170 i j)/\qf p/\q2z s/\(RR (3:TypeId)/\RR leaf/\q16z s i j/\∀ (i_1:Nat),i_1 < qcg s i->(if i_1 < (fluR s.bufs i).length then q95 s i i_1 else (q2u.set (0:Nat) (strip1 (q16x s i))).getD (i_1 - (fluR s.bufs i).length) AV.any)=q95 s j i_1)/\True))/\(q171 s i=false->q16y i/\(∃ j,j<=s.bufs.length/\j < i/\(RR (AV.ptr (2:Nat) [])/\RR (AV.ptr (3:Nat) [])/\q5e p s/\(RR (40:Nat)/\q172 s i j)/\q170 i j)/\qf p/\q2z s/\(RR (3:TypeId)/\RR leaf/\q172 s i j/\∀ (i_1:Nat),i_1 < (fluR s.bufs i).length->q95 s i i_1=q95 s j i_1)/\True)))/\(q8r i=false->↑s.thr.length<=(9223372036854775807:Int)/\(∃ i_1,i_1<=s.thr.length/\(RR (AV.ptr (2:Nat) [])/\RR (AV.ptr (3:Nat) [])/\q5e p s/\(RR (40:Nat)/\q173 p s i i_1)/\qk s/\RI ↑s.thr.length/\(RR j6/\(0:Int)=↑i_1)/\True)/\qf p/\q2z s/\(RR (3:TypeId)/\RR leaf/\q173 p s i i_1/\∀ (i_2:Nat),i_2 < (fluR s.bufs i).length->q95 s i i_2=q5f p s i_1 i_2)/\True)/\∀ (i:Nat),i<=s.thr.length->(ql s i=true->inIx (↑i:Int) s.thr.length/\KN 119 [AV.mc plSh (AV.agg [z15 s,AV.int j6 (↑i:Int)]),AV.mc za (encP p),rowI (onS p (scS s))] (AV.bool (tOn p s (↑i:Int).toNat (onS p (scS s))))/\(tOn p s (↑i:Int).toNat (onS p (scS s))=true->qy/\(RR (agL p s i).length/\(↑(qch p s i):Int) * (↑(8:Nat):Int)<=(140737488355328:Int)/\qch p s i<=(9223372036854775807:Nat))/\qq/\q9 i/\∃ j,j<=s.thr.length/\q2y s i j/\(RR (AV.ptr (2:Nat) [])/\RR (AV.ptr (3:Nat) [])/\q5e p s/\(RR (40:Nat)/\q174 p s i j)/\q8c s i j)/\qf p/\q2z s/\(RR (3:TypeId)/\RR leaf/\q174 p s i j/\∀ (i_1:Nat),i_1 < qch p s i->(if i_1 < (agL p s i).length then q5f p s i i_1 else (q2u.set (0:Nat) (strip1 (AV.int j6 (s.thr.getD (↑i:Int).toNat c0t).id))).getD (i_1 - (agL p s i).length) AV.any)=q5f p s j i_1)/\True)/\(tOn p s (↑i:Int).toNat (onS p (scS s))=false->q9 i/\∃ j,j<=s.thr.length/\q2y s i j/\(RR (AV.ptr (2:Nat) [])/\RR (AV.ptr (3:Nat) [])/\q5e p s/\(RR (40:Nat)/\q175 p s i j)/\q8c s i j)/\qf p/\q2z s/\(RR (3:TypeId)/\RR leaf/\q175 p s i j/\∀ (i_1:Nat),i_1 < (agL p s i).length->q5f p s i i_1=q5f p s j i_1)/\True))/\(ql s i=false->(agL p s i).length<=(agL p s i).length/\RR leaf/\(agL p s i).length=(agsT p s).length/\∀ (i_1:Nat),i_1 < (agL p s i).length->q5f p s i i_1=AV.int j6 ((agsT p s).getD i_1 (0:Int))))):=by kernel_rfl
theorem kTag (p : PProg) (s : SState) (hp : PSm p) (hs : SSm s) {b : Int} (hv : z4a p b s = true) : Known Tryz.prog GG 54 [vP p, vSt s] (rowI (agsT p s))  := by
  refine Known.of (V := vTo p s 0 c0ev 62 (zyu p s)) (fn := Tryz.f54) Tryz.func54 (by kernel_rfl) (z21 _ _) rfl ?_
  show gTag p s
  rw [eTag]; try delta q8y q16s q5e q16t qj qa qk q1n q16u q16v q16w q16x qy qcg qq q8q q16y q16z q170 qf q2z q95 q2u q171 q172 q8r q173 q5f qch q8 q9 q2y q174 q8c q175 ql
  simp only [SB, inIx]
  have h1 := hs.thr
  have h2 := hs.bufs
  obtain ⟨v1, v2, v3⟩ := z3r.1 hv
  have hon := zu0 p (scS s)
  have hon : (onS p (scS s)).length <= s.thr.length := hon
  refine ⟨kTsc s 0, z12c p s hp hs, by omega, zg (by omega) (by omega), ⟨s.bufs.length, Nat.le_refl _, ⟨by rw [zr0]; rfl, rfl⟩, by rw [zr0]; rfl⟩, fun i hi => ⟨fun h0 => ?_, fun h0 => ?_⟩⟩
  . have e1 : ((i : Int) - 1).toNat = i - 1 := by omega
    have e2 : (i : Int) - 1 - 1 = ((i - 1 : Nat) : Int) - 1 := by omega
    have hl := zdx s.bufs i
    have hb := z6l.1 (v3 (i - 1) (by omega)).2
    have hr := ((z40 _).1 hb.1).1
    have hid := (hs.ok (i - 1)).id
    have hst := zz4 s.bufs i (by omega) hi
    rw [e1, e2]
    refine ⟨⟨by omega, by omega⟩, by have := hs.ents (i - 1); omega, fun hg => ⟨⟨by omega, by omega⟩, zx1 _ ⟨by omega, by omega⟩, by decide, ⟨by omega, by omega⟩, zg (by omega) (by omega), i - 1, by omega, by omega, ?_⟩, fun hg => ⟨zg (by omega) (by omega), i - 1, by omega, by omega, ?_⟩⟩
    . rw [hst, if_pos (by omega)]
      exact ⟨⟨by simp, rfl⟩, by simp, fun j hj => z79 _ _ j hj⟩
    . rw [hst, if_neg (by omega), List.append_nil]
      exact ⟨⟨rfl, rfl⟩, rfl, fun _ _ => rfl⟩
  have e0 : i = 0 := by omega
  subst e0
  have eA : agL p s 0 = fluR s.bufs 0 := by unfold agL onTR; simp
  refine ⟨by omega, ⟨0, by omega, by rw [eA]; exact ⟨rfl, rfl⟩, by rw [eA], fun _ _ => by rw [eA]⟩, fun i hi => ⟨fun hlt => ?_, fun hge => ?_⟩⟩
  . have hl : (agL p s i).length <= 2 * s.thr.length := by
      unfold agL; rw [List.length_append]
      have q1 := zdx s.bufs 0
      have q2 := zif p s i
      omega
    refine ⟨hlt, kTon p s i _ hp hs ⟨hlt, by omega⟩ v1 (by omega), fun h => ⟨by decide, ⟨by omega, by omega⟩, zg (by omega) (by omega), i + 1, by omega, by omega, ?_⟩, fun h => ⟨zg (by omega) (by omega), i + 1, by omega, by omega, ?_⟩⟩
    . rw [z12k h]
      exact ⟨⟨by simp, by omega⟩, by simp, fun j hj => z79 _ _ j hj⟩
    . rw [z12l h]
      exact ⟨⟨rfl, by omega⟩, rfl, fun _ _ => rfl⟩
  . have e : agL p s i = agsT p s := by unfold agL agsT; rw [show i = s.thr.length from by omega]
    rw [e]; exact ⟨rfl, fun _ _ => rfl⟩
theorem eTen (p:PProg) (s:SState):gTen p s=(KN 52 [AV.mc za (encP p),AV.int j6 (32:Int),AV.mc stSh (z15 s)] (AV.bool (z4a p (32:Int) s))/\((!z4a p 32 s)=true->(enTs p s).length=0)/\((!z4a p 32 s)=false->KN 54 [AV.mc za (encP p),AV.mc stSh (z15 s)] (rowI (agsT p s))/\RR leaf/\(agsT p s).length=(enTs p s).length/\∀ i:Nat,i < (agsT p s).length->AV.int j6 ((agsT p s).getD i 0)=AV.int j6 ((enTs p s).getD i 0))):=by kernel_rfl
theorem kTen (p : PProg) (s : SState) (hp : PSm p) (hs : SSm s) : Known Tryz.prog GG 22 [vP p, vSt s] (rowI (enTs p s))  := by
  refine Known.of (V := vTo p s 0 c0ev 12 fun _ => none) (fn := Tryz.f22) Tryz.func22 (by kernel_rfl) (z21 _ _) rfl ?_
  show gTen p s
  rw [eTen]
  simp only [SB]
  refine ⟨ztz p 32 s hp hs, fun h => ?_, fun h => ⟨kTag p s hp hs h, ?_⟩⟩
  . unfold enTs; rw [if_neg (by rw [h]; simp)]; rfl
  . have e : enTs p s = agsT p s := by unfold enTs; rw [if_pos h]
    rw [e]; exact ⟨rfl, fun _ _ => rfl⟩
section
variable (s:SState) (a:Int)
def qkg:=AV.mc plSh (AV.agg [z15 s,AV.int j6 (max (fid s.thr (thrE a)) 0)])
def q176:=!q90 s a
end
theorem zz5 (p:PProg) (s:SState) (a:Int):zqw p s a=(KN 55 [AV.mc stSh (z15 s),AV.int j6 a] (AV.tup [qkg s a,AV.bool (q90 s a)])/\(q176 s a=true->(RR evSh/\(RR j6/\0=(zh p s a).fst.agent)/\(RR j6/\0=(zh p s a).fst.idx)/\(RR j6/\0=(zh p s a).fst.kind)/\(RR j6/\0=(zh p s a).fst.obj)/\(RR j6/\0=(zh p s a).fst.mutex)/\(RR j6/\0=(zh p s a).fst.entry)/\(RR j6/\0=(zh p s a).fst.ord)/\(RR j6/\0=(zh p s a).fst.read)/\(RR j6/\0=(zh p s a).fst.wrote)/\True)/\false=(zh p s a).snd/\True)/\(q176 s a=false->KN 59 [AV.int j6 a] (AV.bool (q25 a))/\(q25 a=true->KN 122 [qkg s a] (AV.tup [AV.mc evSh (z6c (tFlu s (fid s.thr (thrE a)).toNat).fst),AV.bool (tFlu s (fid s.thr (thrE a)).toNat).snd])/\(RR evSh/\(RR j6/\(tFlu s (fid s.thr (thrE a)).toNat).fst.agent=(zh p s a).fst.agent)/\(RR j6/\(tFlu s (fid s.thr (thrE a)).toNat).fst.idx=(zh p s a).fst.idx)/\(RR j6/\(tFlu s (fid s.thr (thrE a)).toNat).fst.kind=(zh p s a).fst.kind)/\(RR j6/\(tFlu s (fid s.thr (thrE a)).toNat).fst.obj=(zh p s a).fst.obj)/\(RR j6/\(tFlu s (fid s.thr (thrE a)).toNat).fst.mutex=(zh p s a).fst.mutex)/\(RR j6/\(tFlu s (fid s.thr (thrE a)).toNat).fst.entry=(zh p s a).fst.entry)/\(RR j6/\(tFlu s (fid s.thr (thrE a)).toNat).fst.ord=(zh p s a).fst.ord)/\(RR j6/\(tFlu s (fid s.thr (thrE a)).toNat).fst.read=(zh p s a).fst.read)/\(RR j6/\(tFlu s (fid s.thr (thrE a)).toNat).fst.wrote=(zh p s a).fst.wrote)/\True)/\(tFlu s (fid s.thr (thrE a)).toNat).snd=(zh p s a).snd/\True)/\(q25 a=false->KN 123 [qkg s a,AV.mc za (encP p)] (AV.tup [AV.mc evSh (z6c (tLab p s (fid s.thr (thrE a)).toNat).fst),AV.bool (tLab p s (fid s.thr (thrE a)).toNat).snd])/\(RR evSh/\(RR j6/\(tLab p s (fid s.thr (thrE a)).toNat).fst.agent=(zh p s a).fst.agent)/\(RR j6/\(tLab p s (fid s.thr (thrE a)).toNat).fst.idx=(zh p s a).fst.idx)/\(RR j6/\(tLab p s (fid s.thr (thrE a)).toNat).fst.kind=(zh p s a).fst.kind)/\(RR j6/\(tLab p s (fid s.thr (thrE a)).toNat).fst.obj=(zh p s a).fst.obj)/\(RR j6/\(tLab p s (fid s.thr (thrE a)).toNat).fst.mutex=(zh p s a).fst.mutex)/\(RR j6/\(tLab p s (fid s.thr (thrE a)).toNat).fst.entry=(zh p s a).fst.entry)/\(RR j6/\(tLab p s (fid s.thr (thrE a)).toNat).fst.ord=(zh p s a).fst.ord)/\(RR j6/\(tLab p s (fid s.thr (thrE a)).toNat).fst.read=(zh p s a).fst.read)/\(RR j6/\(tLab p s (fid s.thr (thrE a)).toNat).fst.wrote=(zh p s a).fst.wrote)/\True)/\(tLab p s (fid s.thr (thrE a)).toNat).snd=(zh p s a).snd/\True))):=by kernel_rfl
theorem zr2 (p : PProg) (s : SState) (a : Int) (hp : PSm p) (hs : SSm s) {b : Int} (hv : z4a p b s = true) (ha : I64 a) : Known Tryz.prog GG 56 [vP p, vSt s, .int .i64 a] (.tup [vEv (zh p s a).1, .bool (zh p s a).2])  := by
  refine Known.of (V := vTo p s (fid s.thr (thrE a)).toNat c0ev 30 fun _ => none) (fn := Tryz.f56) Tryz.func56 (by kernel_rfl) (z21 _ _) rfl ?_
  show zqw p s a
  rw [zz5]; try delta qkg q90 q176 q25
  simp only [SB]
  obtain ⟨v1, v2, v3⟩ := z3r.1 hv
  have hf := zi7 s.thr (thrE a)
  refine ⟨zz3 s a hs ha, fun h => ?_, fun h => ?_⟩
  . have e : zh p s a = (c0ev, false) := by unfold zh; rw [if_pos (by omega)]
    rw [e]; exact ⟨⟨rfl, rfl, rfl, rfl, rfl, rfl, rfl, rfl, rfl⟩, rfl⟩
  have hk : InS s (fid s.thr (thrE a)).toNat := ⟨by omega, by omega⟩
  have hb := z6l.1 (v3 (fid s.thr (thrE a)).toNat (by omega)).2
  have hr := ((z40 _).1 hb.1).1
  have e0 : max (fid s.thr (thrE a)) 0 = (((fid s.thr (thrE a)).toNat : Nat) : Int) := by omega
  rw [e0]
  refine ⟨kIsF a, fun h0 => ⟨z12f s _ hs hk (by omega), ?_⟩, fun h0 => ⟨z12h p s _ hp hs hk v1 hb.1, ?_⟩⟩
  . have e : zh p s a = tFlu s (fid s.thr (thrE a)).toNat := by unfold zh; rw [if_neg (by omega), if_pos h0]
    rw [e]; exact ⟨⟨rfl, rfl, rfl, rfl, rfl, rfl, rfl, rfl, rfl⟩, rfl⟩
  . have e : zh p s a = tLab p s (fid s.thr (thrE a)).toNat := by unfold zh; rw [if_neg (by omega), if_neg h0]
    rw [e]; exact ⟨⟨rfl, rfl, rfl, rfl, rfl, rfl, rfl, rfl, rfl⟩, rfl⟩
theorem zu1 (p:PProg) (s:SState) (a:Int):zmq p s a=(KN 52 [AV.mc za (encP p),AV.int j6 (32:Int),AV.mc stSh (z15 s)] (AV.bool (z4a p (32:Int) s))/\((!z4a p 32 s)=true->(RR evSh/\(RR j6/\0=(z2w p s a).fst.agent)/\(RR j6/\0=(z2w p s a).fst.idx)/\(RR j6/\0=(z2w p s a).fst.kind)/\(RR j6/\0=(z2w p s a).fst.obj)/\(RR j6/\0=(z2w p s a).fst.mutex)/\(RR j6/\0=(z2w p s a).fst.entry)/\(RR j6/\0=(z2w p s a).fst.ord)/\(RR j6/\0=(z2w p s a).fst.read)/\(RR j6/\0=(z2w p s a).fst.wrote)/\True)/\false=(z2w p s a).snd/\True)/\((!z4a p 32 s)=false->KN 56 [AV.mc za (encP p),AV.mc stSh (z15 s),AV.int j6 a] (AV.tup [AV.mc evSh (z6c (zh p s a).fst),AV.bool (zh p s a).snd])/\(RR evSh/\(RR j6/\(zh p s a).fst.agent=(z2w p s a).fst.agent)/\(RR j6/\(zh p s a).fst.idx=(z2w p s a).fst.idx)/\(RR j6/\(zh p s a).fst.kind=(z2w p s a).fst.kind)/\(RR j6/\(zh p s a).fst.obj=(z2w p s a).fst.obj)/\(RR j6/\(zh p s a).fst.mutex=(z2w p s a).fst.mutex)/\(RR j6/\(zh p s a).fst.entry=(z2w p s a).fst.entry)/\(RR j6/\(zh p s a).fst.ord=(z2w p s a).fst.ord)/\(RR j6/\(zh p s a).fst.read=(z2w p s a).fst.read)/\(RR j6/\(zh p s a).fst.wrote=(z2w p s a).fst.wrote)/\True)/\(zh p s a).snd=(z2w p s a).snd/\True)):=by kernel_rfl
theorem zu2 (p : PProg) (s : SState) (a : Int) (hp : PSm p) (hs : SSm s) (ha : I64 a) : Known Tryz.prog GG 26 [vP p, vSt s, .int .i64 a] (.tup [vEv (z2w p s a).1, .bool (z2w p s a).2])  := by
  refine Known.of (V := vTo p s 0 c0ev 19 fun _ => none) (fn := Tryz.f26) Tryz.func26 (by kernel_rfl) (z21 _ _) rfl ?_
  show zmq p s a
  rw [zu1]
  simp only [SB]
  refine ⟨ztz p 32 s hp hs, fun h => ?_, fun h => ⟨zr2 p s a hp hs h ha, ?_⟩⟩
  . have e : z2w p s a = (c0ev, false) := by unfold z2w; rw [if_pos h]
    rw [e]; exact ⟨⟨rfl, rfl, rfl, rfl, rfl, rfl, rfl, rfl, rfl⟩, rfl⟩
  . have e : z2w p s a = zh p s a := by unfold z2w; rw [if_neg (by rw [h]; simp)]
    rw [e]; exact ⟨⟨rfl, rfl, rfl, rfl, rfl, rfl, rfl, rfl, rfl⟩, rfl⟩
theorem setG {α : Type} (enc : α -> AV) (d : α) (l : List α) (k : Nat) (x : α) (j : Nat) (hj : j < l.length) : (if j = k then enc x else enc (l.getD j d)) = enc ((l.set k x).getD j d) := by
  rw [List.getD_eq_getElem?_getD (l := l.set _ _), List.getElem?_set]
  by_cases e : k = j
  . subst e
    rw [if_pos rfl, if_pos rfl, if_pos hj]; rfl
  . rw [if_neg (fun h => e h.symm), if_neg e, List.getD_eq_getElem?_getD]
theorem zSt : c0st.thr.length = 0 /\ (c0st.mem.vars.length = 0 /\ c0st.mem.owners.length = 0 /\ c0st.mem.queues.length = 0 /\ c0st.mem.sig.length = 0) /\ c0st.bufs.length = 0 := ⟨rfl, zMem, rfl⟩
theorem zEv : 0 = c0ev.agent /\ 0 = c0ev.idx /\ 0 = c0ev.kind /\ 0 = c0ev.obj /\ 0 = c0ev.mutex /\ 0 = c0ev.entry /\ 0 = c0ev.ord /\ 0 = c0ev.read /\ 0 = c0ev.wrote := ⟨rfl, rfl, rfl, rfl, rfl, rfl, rfl, rfl, rfl⟩
section
variable (s:SState) (k:Nat)
def q177:List AV:=[AV.mc zo (encB (s.bufs.getD k c0b))]
def q178:=encB (popB (s.bufs.getD k c0b)).fst
def q179:BEnt × Int × Int:=(popB (s.bufs.getD k c0b)).snd
def q17a:Int × Int:=(q179 s k).snd
def q17b:Int:=(q17a s k).snd
end
section
variable (p:PProg) (b:Int) (s:SState) (k:Nat) (e:Ev)
def qkh:Nat:=(z1p p b s k e).fst.mem.vars.length
def qki:Nat:=(z1p p b s k e).fst.mem.owners.length
def qkj:Nat:=(z1p p b s k e).fst.mem.queues.length
def qkk:Nat:=(z1p p b s k e).fst.mem.sig.length
def qci:=(RR stSh/\(z1p p b s k e).fst.thr.length=0/\(qkh p b s k e=0/\qki p b s k e=0/\qkj p b s k e=0/\qkk p b s k e=0/\True)/\(z1p p b s k e).fst.bufs.length=0/\True)/\(RR j6/\30=(z1p p b s k e).snd)/\True
def q17c:=q17b s k != 0
def q17d:List AV:=[AV.int j6 e.obj,AV.int j6 e.wrote]
def q17e:=(zy s.mem e.obj e.wrote).snd != 0
def q17f:=s.thr.length=(z1p p b s k e).fst.thr.length
variable (x5:Nat)
def q17g:=encT ((z1p p b s k e).fst.thr.getD x5 c0t)
def q17h:Nat:=(zy s.mem e.obj e.wrote).fst.vars.length
def q17i:=AV.int j6 ((z1p p b s k e).fst.mem.vars.getD x5 0)
def q17j:Nat:=(zy s.mem e.obj e.wrote).fst.owners.length
def q17k:=AV.int j6 ((z1p p b s k e).fst.mem.owners.getD x5 0)
def q17l:Nat:=(zy s.mem e.obj e.wrote).fst.queues.length
def q17m:=rowI ((z1p p b s k e).fst.mem.queues.getD x5 [])
def q17n:Nat:=(zy s.mem e.obj e.wrote).fst.sig.length
def q17o:=AV.int j6 ((z1p p b s k e).fst.mem.sig.getD x5 0)
def qkl:=s.bufs.length=(z1p p b s k e).fst.bufs.length
def qkm:=encB ((z1p p b s k e).fst.bufs.getD x5 c0b)
def qkn:=(RR j6/\0=(z1p p b s k e).snd)/\True
def q17p:=encB (z1v (s.bufs.getD k c0b) e.obj e.wrote).fst
def q17q:Int × Int:=(z1v (s.bufs.getD k c0b) e.obj e.wrote).snd
def q17r:Int:=(q17q s k e).snd
def q17s:=q17r s k e != 0
def q17t:=encT (z16 p b (s.thr.getD k c0t) e.read).fst
def q17u:Int:=(z16 p b (s.thr.getD k c0t) e.read).snd
def q17v:=KN 129 [AV.mc za (encP p),AV.int j6 b,AV.mc zd (encT (s.thr.getD k c0t)),AV.int j6 e.read] (AV.tup [AV.mc zd (q17t p b s k e),AV.int j6 (q17u p b s k e)])
def q17w:=q17u p b s k e != 0
def q17x:=q17w p b s k e=true->qci p b s k e
def q17y:=RR zd/\q17f p b s k e/\∀ i:Nat,i < s.thr.length->(if i=(↑k:Int).toNat then q17t p b s k e else encT (s.thr.getD i c0t))=q17g p b s k e i
def q17z:=(RR leaf/\s.mem.vars.length=qkh p b s k e/\∀ i:Nat,i < s.mem.vars.length->AV.int j6 (s.mem.vars.getD i 0)=q17i p b s k e i)/\(RR leaf/\s.mem.owners.length=qki p b s k e/\∀ i:Nat,i < s.mem.owners.length->AV.int j6 (s.mem.owners.getD i 0)=q17k p b s k e i)/\(RR leaf/\s.mem.queues.length=qkj p b s k e/\∀ i:Nat,i < s.mem.queues.length->rowI (s.mem.queues.getD i [])=q17m p b s k e i)/\(RR leaf/\s.mem.sig.length=qkk p b s k e/\∀ i:Nat,i < s.mem.sig.length->AV.int j6 (s.mem.sig.getD i 0)=q17o p b s k e i)/\True
def q180:=q17w p b s k e=false
end
theorem z12m (p:PProg) (b:Int) (s:SState) (k:Nat) (e:Ev):zyw p b s k e=((KnownF Tryz.prog GG (124:Nat) [AV.mc stSh (z15 s)] (AV.mc stSh (AV.agg [AV.own (0:Nat) s.thr.length,encM s.mem,AV.own (1:Nat) s.bufs.length])) [BoxC.row (51:TypeId) zd s.thr.length fun i=>encT (s.thr.getD i c0t),BoxC.row (68:TypeId) zo s.bufs.length fun i=>encB (s.bufs.getD i c0b)])/\KN 125 [AV.mc plSh (AV.agg [z15 s,AV.int j6 ↑k])] (AV.tup (AV.mc zd (encT (s.thr.getD k c0t))::q177 s k))/\((e.kind == 4)=true->KN 126 (q177 s k) (AV.tup [AV.mc zo (q178 s k),AV.mc ze (encE (q179 s k).fst),AV.int j6 (q17a s k).fst,AV.int j6 (q17b s k)])/\(q17c s k=true->qci p b s k e)/\(q17c s k=false->KN 127 (AV.mc zw (encM s.mem)::q17d e) (AV.tup [AV.mc zw (encM (zy s.mem e.obj e.wrote).fst),AV.int j6 (zy s.mem e.obj e.wrote).snd])/\(q17e s e=true->qci p b s k e)/\(q17e s e=false->inIx (↑k) s.bufs.length/\(↑k:Int).toNat < s.bufs.length/\s.thr.length<=s.thr.length/\s.bufs.length<=s.bufs.length/\(RR stSh/\(RR zd/\q17f p b s k e/\∀ i:Nat,i < s.thr.length->encT (s.thr.getD i c0t)=q17g p b s k e i)/\((RR leaf/\q17h s e=qkh p b s k e/\∀ i:Nat,i < q17h s e->AV.int j6 ((zy s.mem e.obj e.wrote).fst.vars.getD i 0)=q17i p b s k e i)/\(RR leaf/\q17j s e=qki p b s k e/\∀ i:Nat,i < q17j s e->AV.int j6 ((zy s.mem e.obj e.wrote).fst.owners.getD i 0)=q17k p b s k e i)/\(RR leaf/\q17l s e=qkj p b s k e/\∀ i:Nat,i < q17l s e->rowI ((zy s.mem e.obj e.wrote).fst.queues.getD i [])=q17m p b s k e i)/\(RR leaf/\q17n s e=qkk p b s k e/\∀ i:Nat,i < q17n s e->AV.int j6 ((zy s.mem e.obj e.wrote).fst.sig.getD i 0)=q17o p b s k e i)/\True)/\(RR zo/\qkl p b s k e/\∀ i:Nat,i < s.bufs.length->(if i=(↑k:Int).toNat then q178 s k else encB (s.bufs.getD i c0b))=qkm p b s k e i)/\True)/\qkn p b s k e)))/\((e.kind == 4)=false->((e.kind == 3)=true->KN 128 (AV.mc zo (encB (s.bufs.getD k c0b))::q17d e) (AV.tup [AV.mc zo (q17p s k e),AV.int j6 (q17q s k e).fst,AV.int j6 (q17r s k e)])/\(q17s s k e=true->qci p b s k e)/\(q17s s k e=false->inIx (↑k) s.bufs.length/\(↑k:Int).toNat < s.bufs.length/\q17v p b s k e/\q17x p b s k e/\(q180 p b s k e->inIx (↑k) s.thr.length/\(↑k:Int).toNat < s.thr.length/\s.thr.length<=s.thr.length/\s.bufs.length<=s.bufs.length/\(RR stSh/\q17y p b s k e/\q17z p b s k e/\(RR zo/\qkl p b s k e/\∀ i:Nat,i < s.bufs.length->(if i=(↑k:Int).toNat then q17p s k e else encB (s.bufs.getD i c0b))=qkm p b s k e i)/\True)/\qkn p b s k e)))/\((e.kind == 3)=false->q17v p b s k e/\q17x p b s k e/\(q180 p b s k e->inIx (↑k) s.thr.length/\(↑k:Int).toNat < s.thr.length/\s.thr.length<=s.thr.length/\s.bufs.length<=s.bufs.length/\(RR stSh/\q17y p b s k e/\q17z p b s k e/\(RR zo/\qkl p b s k e/\∀ i:Nat,i < s.bufs.length->encB (s.bufs.getD i c0b)=qkm p b s k e i)/\True)/\qkn p b s k e)))):=by kernel_rfl
theorem z12n (p : PProg) (b : Int) (s : SState) (k : Nat) (e : Ev) (hp : PSm p) (hs : SSm s) (hk : InS s k) : Known Tryz.prog GG 57 [vTP s k, vP p, .int .i64 b, vEv e] (.tup [vSt (z1p p b s k e).1, .int .i64 (z1p p b s k e).2])  := by
  refine Known.of (V := vTo p s k e 107 fun _ => none) (fn := Tryz.f57) Tryz.func57 (by kernel_rfl) (z21 _ _) rfl ?_
  show zyw p b s k e
  rw [z12m]; try delta q177 q178 q179 q17a q17b qkh qki qkj qkk qci q17c q17d q17e q17f q17g q17h q17i q17j q17k q17l q17m q17n q17o qkl qkm qkn q17p q17q q17r q17s q17t q17u q17v q17w q17x q17y q17z q180
  simp only [SB, inIx]
  have k1 := hk.1
  have k2 := hk.2
  have hC := fun r => z114 p b (s.thr.getD k c0t) r hp (hs.ok k)
  refine ⟨zyk s hs, zmr s k hk, fun h4 => ⟨z129 _ (hs.ents k), fun h => ?_, fun h => ⟨ztg _ _ _ hs.mem, fun h' => ?_, fun h' => ⟨k2, k2, ?_⟩⟩⟩, fun h4 => ⟨fun h3 => ⟨zy6 _ _ _ (hs.ents k), fun h => ?_, fun h => ⟨k2, k2, hC _, fun h' => ?_, fun h' => ⟨k1, k1, ?_⟩⟩⟩, fun h3 => ⟨hC _, fun h => ?_, fun h => ⟨k1, k1, ?_⟩⟩⟩⟩
  . have e : z1p p b s k e = (c0st, 30) := by unfold z1p; rw [if_pos h4, if_pos h]
    rw [e]; exact ⟨zSt, rfl⟩
  . have e : z1p p b s k e = (c0st, 30) := by unfold z1p; rw [if_pos h4, if_neg (by omega), if_pos h']
    rw [e]; exact ⟨zSt, rfl⟩
  . have e : z1p p b s k e = ({ s with bufs := s.bufs.set k (popB (s.bufs.getD k c0b)).1, mem := (zy s.mem e.obj e.wrote).1 }, 0) := by unfold z1p; rw [if_pos h4, if_neg (by omega), if_neg (by omega)]
    rw [e]
    exact ⟨⟨⟨rfl, fun _ _ => rfl⟩, ⟨⟨rfl, fun _ _ => rfl⟩, ⟨rfl, fun _ _ => rfl⟩, ⟨rfl, fun _ _ => rfl⟩, rfl, fun _ _ => rfl⟩, by simp, fun j hj => setG encB c0b _ _ _ j hj⟩, rfl⟩
  . have e : z1p p b s k e = (c0st, 30) := by unfold z1p; rw [if_neg h4, if_pos h3, if_pos h]
    rw [e]; exact ⟨zSt, rfl⟩
  . have e : z1p p b s k e = (c0st, 30) := by unfold z1p; rw [if_neg h4, if_pos h3, if_neg (by omega), if_pos h']
    rw [e]; exact ⟨zSt, rfl⟩
  . have e : z1p p b s k e = ({ s with bufs := s.bufs.set k (z1v (s.bufs.getD k c0b) e.obj e.wrote).1, thr := s.thr.set k (z16 p b (s.thr.getD k c0t) e.read).1 }, 0) := by unfold z1p; rw [if_neg h4, if_pos h3, if_neg (by omega), if_neg (by omega)]
    rw [e]
    exact ⟨⟨⟨by simp, fun j hj => setG encT c0t _ _ _ j hj⟩, ⟨⟨rfl, fun _ _ => rfl⟩, ⟨rfl, fun _ _ => rfl⟩, ⟨rfl, fun _ _ => rfl⟩, rfl, fun _ _ => rfl⟩, by simp, fun j hj => setG encB c0b _ _ _ j hj⟩, rfl⟩
  . have e : z1p p b s k e = (c0st, 30) := by unfold z1p; rw [if_neg h4, if_neg h3, if_pos h]
    rw [e]; exact ⟨zSt, rfl⟩
  . have e : z1p p b s k e = ({ s with thr := s.thr.set k (z16 p b (s.thr.getD k c0t) e.read).1 }, 0) := by unfold z1p; rw [if_neg h4, if_neg h3, if_neg (by omega)]
    rw [e]
    exact ⟨⟨⟨by simp, fun j hj => setG encT c0t _ _ _ j hj⟩, ⟨⟨rfl, fun _ _ => rfl⟩, ⟨rfl, fun _ _ => rfl⟩, ⟨rfl, fun _ _ => rfl⟩, rfl, fun _ _ => rfl⟩, rfl, fun _ _ => rfl⟩, rfl⟩
section
variable (p:PProg) (b:Int) (s:SState) (a:Int)
def qko:Nat:=(z14 p b s a).fst.thr.length
def qkp:Nat:=(z14 p b s a).fst.mem.vars.length
def qkq:Nat:=(z14 p b s a).fst.mem.owners.length
def qkr:Nat:=(z14 p b s a).fst.mem.queues.length
def qks:Nat:=(z14 p b s a).fst.mem.sig.length
def qkt:Nat:=(z14 p b s a).fst.bufs.length
def q96:=RR stSh/\qko p b s a=0/\(qkp p b s a=0/\qkq p b s a=0/\qkr p b s a=0/\qks p b s a=0/\True)/\qkt p b s a=0/\True
def q2b:Ev:=(z14 p b s a).snd.fst
def qku:Int:=(q2b p b s a).agent
def qkv:Int:=(q2b p b s a).idx
def qkw:Int:=(q2b p b s a).kind
def qkx:Int:=(q2b p b s a).obj
def qky:Int:=(q2b p b s a).mutex
def qkz:Int:=(q2b p b s a).entry
def ql0:Int:=(q2b p b s a).ord
def ql1:Int:=(q2b p b s a).read
def ql2:Int:=(q2b p b s a).wrote
def q97:=RR evSh/\(RR j6/\0=qku p b s a)/\(RR j6/\0=qkv p b s a)/\(RR j6/\0=qkw p b s a)/\(RR j6/\0=qkx p b s a)/\(RR j6/\0=qky p b s a)/\(RR j6/\0=qkz p b s a)/\(RR j6/\0=ql0 p b s a)/\(RR j6/\0=ql1 p b s a)/\(RR j6/\0=ql2 p b s a)/\True
def q44:Int:=(z14 p b s a).snd.snd
def q181:=(zb p).fst != 0
def q182:=hasI (z1b (agsT p s).length fun i=>AV.int j6 ((agsT p s).getD i 0)) a
def q183:=!q182 p s a
def q184:List AV:=[AV.mc stSh (z15 s),AV.int j6 a]
def ql3:=AV.mc plSh (AV.agg [z15 s,AV.int j6 (q8z s a)])
variable (x4:Bool)
def q98:=((zb p).fst=0/\(1<=b/\b<=32)/\z4a p b s=true/\hasI (agsT p s) a=true)/\x4=ownK (zh p s a).fst
def ql4:=(zh p s a).fst.kind == 1
def qcj:=((27:Nat)=(27:TypeId)/\RR za/\(RW ze p.vars.length fun i=>encV (p.vars.getD i c0v))/\(RW leaf p.muts.length fun i=>AV.str (p.muts.getD i []))/\(RW leaf p.conds.length fun i=>AV.str (p.conds.getD i []))/\(RW ze p.funs.length fun i=>encF (p.funs.getD i c0f))/\(RW ze p.thr.length fun i=>encS (p.thr.getD i c0s))/\True)/\((35:Nat)=(35:TypeId)/\RR stSh/\(0:Nat)=(0:Nat)/\((0:Nat)=(0:Nat)/\(0:Nat)=(0:Nat)/\(0:Nat)=(0:Nat)/\(0:Nat)=(0:Nat)/\True)/\(0:Nat)=(0:Nat)/\True)/\((57:Nat)=(57:TypeId)/\RR evSh/\RI 0/\RI 0/\RI 0/\RI 0/\RI 0/\RI 0/\RI 0/\RI 0/\RI 0/\True)/\((102:Nat)=(102:TypeId)/\RR plSh/\((RW zd s.thr.length fun i=>encT (s.thr.getD i c0t))/\((RW leaf s.mem.vars.length fun i=>AV.int j6 (s.mem.vars.getD i 0))/\(RW leaf s.mem.owners.length fun i=>AV.int j6 (s.mem.owners.getD i 0))/\(RW leaf s.mem.queues.length fun i=>rowI (s.mem.queues.getD i []))/\(RW leaf s.mem.sig.length fun i=>AV.int j6 (s.mem.sig.getD i 0))/\True)/\(RW zo s.bufs.length fun i=>encB (s.bufs.getD i c0b))/\True)/\RI (q8z s a)/\True)/\((57:Nat)=(57:TypeId)/\RR evSh/\RI (zh p s a).fst.agent/\RI (zh p s a).fst.idx/\RI (zh p s a).fst.kind/\RI (zh p s a).fst.obj/\RI (zh p s a).fst.mutex/\RI (zh p s a).fst.entry/\RI (zh p s a).fst.ord/\RI (zh p s a).fst.read/\RI (zh p s a).fst.wrote/\True)/\True
def ql5:=(zh p s a).fst.kind == 8
def ql6:=(zh p s a).fst.kind == 3
def q185:SState × Int:=z1p p b s (fid s.thr (thrE a)).toNat (zh p s a).fst
def qck:SState:=(q185 p b s a).fst
def ql7:Int:=(q185 p b s a).snd
def q186:=ql7 p b s a != 0
def q187:List Thr:=(qck p b s a).thr
def q188:Nat:=(q187 p b s a).length
end
section
variable (p:PProg) (b:Int) (s:SState) (a:Int) (x4:Nat)
def q189:=encT ((z14 p b s a).fst.thr.getD x4 c0t)
def qcl:Mem:=(qck p b s a).mem
def q18a:List Int:=(qcl p b s a).vars
def q18b:Nat:=(q18a p b s a).length
def q18c:=AV.int j6 ((z14 p b s a).fst.mem.vars.getD x4 0)
def q18d:List Int:=(qcl p b s a).owners
def q18e:Nat:=(q18d p b s a).length
def q18f:=AV.int j6 ((z14 p b s a).fst.mem.owners.getD x4 0)
def q18g:List (List Int):=(qcl p b s a).queues
def q18h:Nat:=(q18g p b s a).length
def q18i:=rowI ((z14 p b s a).fst.mem.queues.getD x4 [])
def q18j:List Int:=(qcl p b s a).sig
def q18k:Nat:=(q18j p b s a).length
def q18l:=AV.int j6 ((z14 p b s a).fst.mem.sig.getD x4 0)
def q18m:List Buf:=(qck p b s a).bufs
def q18n:Nat:=(q18m p b s a).length
def q18o:=encB ((z14 p b s a).fst.bufs.getD x4 c0b)
def q1s:Ev:=(z48 p b s a).snd.fst
def q18p:Int:=(z48 p b s a).snd.snd
def q18q:Nat:=(z48 p b s a).fst.thr.length
def q18r:Nat:=(z48 p b s a).fst.mem.vars.length
def q18s:Nat:=(z48 p b s a).fst.mem.owners.length
def q18t:Nat:=(z48 p b s a).fst.mem.queues.length
def q18u:Nat:=(z48 p b s a).fst.mem.sig.length
def q18v:Nat:=(z48 p b s a).fst.bufs.length
end
theorem zz6 (p:PProg) (b:Int) (s:SState) (a:Int):zqx p b s a=(KN 51 [AV.mc za (encP p)] (AV.tup [AV.int j6 (zb p).fst,AV.int j6 (zb p).snd.fst,AV.int j6 (zb p).snd.snd])/\(q181 p=true->q96 p b s a/\q97 p b s a/\(RR j6/\(zb p).fst=q44 p b s a)/\True)/\(q181 p=false->qt b/\qt b/\(qu b=true->q96 p b s a/\q97 p b s a/\(RR j6/\2=q44 p b s a)/\True)/\(qu b=false->KN 52 [AV.mc za (encP p),AV.int j6 b,AV.mc stSh (z15 s)] (AV.bool (z4a p b s))/\((!z4a p b s)=true->q96 p b s a/\q97 p b s a/\(RR j6/\1=q44 p b s a)/\True)/\((!z4a p b s)=false->KN 54 [AV.mc za (encP p),AV.mc stSh (z15 s)] (rowI (agsT p s))/\KN 53 [rowI (agsT p s),AV.int j6 a] (AV.bool (q182 p s a))/\(q183 p s a=true->q96 p b s a/\q97 p b s a/\(RR j6/\19=q44 p b s a)/\True)/\(q183 p s a=false->KN 55 (q184 s a) (AV.tup [ql3 s a,AV.bool (decide ((0:Int)<=fid s.thr (thrE a)))])/\KN 56 (AV.mc za (encP p)::q184 s a) (AV.tup [AV.mc evSh (z6c (zh p s a).fst),AV.bool (zh p s a).snd])/\((ql4 p s a=true->∃ j,q98 p b s a j/\(RI b/\RI a/\RR (AV.ptr 4 [])/\RR (AV.ptr 8 [])/\RR (AV.ptr 9 [])/\RR (AV.ptr 14 [])/\RR (AV.ptr 16 [])/\ql4 p s a=j/\True)/\qcj p s a)/\(ql4 p s a=false->(ql5 p s a=true->∃ j,q98 p b s a j/\(RI b/\RI a/\RR (AV.ptr 4 [])/\RR (AV.ptr 8 [])/\RR (AV.ptr 9 [])/\RR (AV.ptr 14 [])/\RR (AV.ptr 16 [])/\ql5 p s a=j/\True)/\qcj p s a)/\(ql5 p s a=false->(ql6 p s a=true->∃ j,q98 p b s a j/\(RI b/\RI a/\RR (AV.ptr 4 [])/\RR (AV.ptr 8 [])/\RR (AV.ptr 9 [])/\RR (AV.ptr 14 [])/\RR (AV.ptr 16 [])/\ql6 p s a=j/\True)/\qcj p s a)/\(ql6 p s a=false->∃ j,q98 p b s a j/\(RI b/\RI a/\RR (AV.ptr 4 [])/\RR (AV.ptr 8 [])/\RR (AV.ptr 9 [])/\RR (AV.ptr 14 [])/\RR (AV.ptr 16 [])/\((zh p s a).fst.kind == 4)=j/\True)/\qcj p s a))))/\∀ i:Bool,q98 p b s a i->(i=true->KN 57 [ql3 s a,AV.mc za (encP p),AV.int j6 b,AV.mc evSh (z6c (zh p s a).fst)] (AV.tup [AV.mc stSh (z15 (qck p b s a)),AV.int j6 (ql7 p b s a)])/\(q186 p b s a=true->q96 p b s a/\q97 p b s a/\(RR j6/\ql7 p b s a=q44 p b s a)/\True)/\(q186 p b s a=false->(RR stSh/\(RR zd/\q188 p b s a=qko p b s a/\∀ (i:Nat),i < q188 p b s a->encT ((q187 p b s a).getD i c0t)=q189 p b s a i)/\((RR leaf/\q18b p b s a=qkp p b s a/\∀ (i:Nat),i < q18b p b s a->AV.int j6 ((q18a p b s a).getD i 0)=q18c p b s a i)/\(RR leaf/\q18e p b s a=qkq p b s a/\∀ (i:Nat),i < q18e p b s a->AV.int j6 ((q18d p b s a).getD i 0)=q18f p b s a i)/\(RR leaf/\q18h p b s a=qkr p b s a/\∀ (i:Nat),i < q18h p b s a->rowI ((q18g p b s a).getD i [])=q18i p b s a i)/\(RR leaf/\q18k p b s a=qks p b s a/\∀ (i:Nat),i < q18k p b s a->AV.int j6 ((q18j p b s a).getD i 0)=q18l p b s a i)/\True)/\(RR zo/\q18n p b s a=qkt p b s a/\∀ (i:Nat),i < q18n p b s a->encB ((q18m p b s a).getD i c0b)=q18o p b s a i)/\True)/\(RR evSh/\(RR j6/\(zh p s a).fst.agent=qku p b s a)/\(RR j6/\(zh p s a).fst.idx=qkv p b s a)/\(RR j6/\(zh p s a).fst.kind=qkw p b s a)/\(RR j6/\(zh p s a).fst.obj=qkx p b s a)/\(RR j6/\(zh p s a).fst.mutex=qky p b s a)/\(RR j6/\(zh p s a).fst.entry=qkz p b s a)/\(RR j6/\(zh p s a).fst.ord=ql0 p b s a)/\(RR j6/\(zh p s a).fst.read=ql1 p b s a)/\(RR j6/\(zh p s a).fst.wrote=ql2 p b s a)/\True)/\(RR j6/\0=q44 p b s a)/\True))/\(i=false->KN 58 [ql3 s a,AV.mc za (encP p),AV.int j6 b,AV.int j6 a] (AV.tup [AV.mc stSh (z15 (z48 p b s a).fst),AV.mc evSh (z6c (q1s p b s a)),AV.int j6 (q18p p b s a)])/\(RR stSh/\(RR zd/\q18q p b s a=qko p b s a/\∀ (i:Nat),i < q18q p b s a->encT ((z48 p b s a).fst.thr.getD i c0t)=q189 p b s a i)/\((RR leaf/\q18r p b s a=qkp p b s a/\∀ (i:Nat),i < q18r p b s a->AV.int j6 ((z48 p b s a).fst.mem.vars.getD i 0)=q18c p b s a i)/\(RR leaf/\q18s p b s a=qkq p b s a/\∀ (i:Nat),i < q18s p b s a->AV.int j6 ((z48 p b s a).fst.mem.owners.getD i 0)=q18f p b s a i)/\(RR leaf/\q18t p b s a=qkr p b s a/\∀ (i:Nat),i < q18t p b s a->rowI ((z48 p b s a).fst.mem.queues.getD i [])=q18i p b s a i)/\(RR leaf/\q18u p b s a=qks p b s a/\∀ (i:Nat),i < q18u p b s a->AV.int j6 ((z48 p b s a).fst.mem.sig.getD i 0)=q18l p b s a i)/\True)/\(RR zo/\q18v p b s a=qkt p b s a/\∀ (i:Nat),i < q18v p b s a->encB ((z48 p b s a).fst.bufs.getD i c0b)=q18o p b s a i)/\True)/\(RR evSh/\(RR j6/\(q1s p b s a).agent=qku p b s a)/\(RR j6/\(q1s p b s a).idx=qkv p b s a)/\(RR j6/\(q1s p b s a).kind=qkw p b s a)/\(RR j6/\(q1s p b s a).obj=qkx p b s a)/\(RR j6/\(q1s p b s a).mutex=qky p b s a)/\(RR j6/\(q1s p b s a).entry=qkz p b s a)/\(RR j6/\(q1s p b s a).ord=ql0 p b s a)/\(RR j6/\(q1s p b s a).read=ql1 p b s a)/\(RR j6/\(q1s p b s a).wrote=ql2 p b s a)/\True)/\(RR j6/\q18p p b s a=q44 p b s a)/\True)))))):=by kernel_rfl
theorem zr3 (p : PProg) (b : Int) (s : SState) (a : Int) (hp : PSm p) (hs : SSm s) (ha : I64 a) (hn : s.thr.length <= 400000) (hO : (zb p).1 = 0 -> 1 <= b -> b <= 32 -> z4a p b s = true -> hasI (agsT p s) a = true -> ownK (zh p s a).1 = false -> Known Tryz.prog GG 58 [vTP s (max (fid s.thr (thrE a)) 0), vP p, .int .i64 b, .int .i64 a] (.tup [vSt (z48 p b s a).1, vEv (z48 p b s a).2.1, .int .i64 (z48 p b s a).2.2])) : Known Tryz.prog GG 21 [vP p, .int .i64 b, vSt s, .int .i64 a] (.tup [vSt (z14 p b s a).1, vEv (z14 p b s a).2.1, .int .i64 (z14 p b s a).2.2])  := by
  refine Known.of (V := { vTo p s (fid s.thr (thrE a)).toNat (zh p s a).1 97 (fun _ => none) with cut := zyx p b s a }) (fn := Tryz.f21) Tryz.func21 (by kernel_rfl) (z21 _ _) rfl ?_
  show zqx p b s a
  rw [zz6]; try delta qko qkp qkq qkr qks qkt q96 q2b qku qkv qkw qkx qky qkz ql0 ql1 ql2 q97 q44 q181 q4t q4u qt qu q182 q183 q184 q8z ql3 q98 ql4 qcj ql5 ql6 q185 qck ql7 q186 q187 q188 q189 qcl q18a q18b q18c q18d q18e q18f q18g q18h q18i q18j q18k q18l q18m q18n q18o q1s q18p q18q q18r q18s q18t q18u q18v
  simp only [SB]
  simp only [oR]
  have hon : z4a p b s = true -> (agsT p s).length <= 1000000 := by
    intro hv
    have q1 := zdx s.bufs 0
    have q2 := zif p s s.thr.length
    have h2 := (z3r.1 hv).2.1
    unfold agsT; rw [List.length_append]; omega
  refine ⟨zbc p hp, fun h => ?_, fun h => ⟨fun hb => ?_, fun hb => ⟨ztz p b s hp hs, fun hv => ?_, fun hv => ⟨kTag p s hp hs hv, zcj _ _ (hon hv), fun hc => ?_, fun hc => ⟨zz3 s a hs ha, zr2 p s a hp hs hv ha, ?_, ?_⟩⟩⟩⟩⟩
  . have e : z14 p b s a = (c0st, c0ev, (zb p).1) := by unfold z14; rw [if_pos h]
    rw [e]; exact ⟨zSt, zEv, rfl⟩
  . have e : z14 p b s a = (c0st, c0ev, 2) := by unfold z14; rw [if_neg (by omega), if_pos (by omega)]
    rw [e]; exact ⟨zSt, zEv, rfl⟩
  . have e : z14 p b s a = (c0st, c0ev, 1) := by unfold z14; rw [if_neg (by omega), if_neg (by omega), if_pos hv]
    rw [e]; exact ⟨zSt, zEv, rfl⟩
  . have e : z14 p b s a = (c0st, c0ev, 19) := by unfold z14; rw [if_neg (by omega), if_neg (by omega), if_neg (by rw [hv]; simp), if_pos hc]
    rw [e]; exact ⟨zSt, zEv, rfl⟩
  . have F : (zb p).1 = 0 /\ (1 <= b /\ b <= 32) /\ z4a p b s = true /\ hasI (agsT p s) a = true := ⟨h, by omega, hv, hc⟩
    refine ⟨fun q1 => ⟨_, ⟨F, rfl⟩, ?_⟩, fun q1 => ⟨fun q2 => ⟨_, ⟨F, rfl⟩, ?_⟩, fun q2 => ⟨fun q3 => ⟨_, ⟨F, rfl⟩, ?_⟩, fun q3 => ⟨_, ⟨F, rfl⟩, ?_⟩⟩⟩⟩
    all_goals unfold ownK
    . rw [q1]; rfl
    . rw [q2]; rfl
    . rw [q3]; rfl
    . rw [beq_eq_false_iff_ne.2 q1, beq_eq_false_iff_ne.2 q2, beq_eq_false_iff_ne.2 q3, Bool.false_or, Bool.false_or, Bool.false_or]
  . rintro i ⟨_, rfl⟩
    have hf := zi7 s.thr (thrE a)
    refine ⟨fun ho => ?_, fun ho => ?_⟩
    . obtain ⟨v1, v2, v3⟩ := z3r.1 hv
      have h0 : 0 <= fid s.thr (thrE a) := by
        refine Classical.byContradiction fun hn => ?_
        have e : zh p s a = (c0ev, false) := by unfold zh; rw [if_pos (by omega)]
        rw [e] at ho; cases ho
      have hk : InS s (fid s.thr (thrE a)).toNat := ⟨by omega, by omega⟩
      have e0 : max (fid s.thr (thrE a)) 0 = (((fid s.thr (thrE a)).toNat : Nat) : Int) := by omega
      rw [e0]
      refine ⟨z12n p b s _ _ hp hs hk, fun hz => ?_, fun hz => ?_⟩
      . have e : z14 p b s a = (c0st, c0ev, (z1p p b s (fid s.thr (thrE a)).toNat (zh p s a).1).2) := by unfold z14; rw [if_neg (by omega), if_neg (by omega), if_neg (by rw [hv]; simp), if_neg (by rw [hc]; simp), if_pos ho, if_pos hz]
        rw [e]; exact ⟨zSt, zEv, rfl⟩
      . have e : z14 p b s a = ((z1p p b s (fid s.thr (thrE a)).toNat (zh p s a).1).1, (zh p s a).1, 0) := by unfold z14; rw [if_neg (by omega), if_neg (by omega), if_neg (by rw [hv]; simp), if_neg (by rw [hc]; simp), if_pos ho, if_neg (by omega)]
        rw [e]; exact ⟨⟨⟨rfl, fun _ _ => rfl⟩, ⟨⟨rfl, fun _ _ => rfl⟩, ⟨rfl, fun _ _ => rfl⟩, ⟨rfl, fun _ _ => rfl⟩, rfl, fun _ _ => rfl⟩, rfl, fun _ _ => rfl⟩, ⟨rfl, rfl, rfl, rfl, rfl, rfl, rfl, rfl, rfl⟩, rfl⟩
    . have e : z14 p b s a = z48 p b s a := by unfold z14; rw [if_neg (by omega), if_neg (by omega), if_neg (by rw [hv]; simp), if_neg (by rw [hc]; simp), if_neg (by rw [ho]; simp)]
      rw [e]; exact ⟨hO h (by omega) (by omega) hv hc ho, ⟨⟨rfl, fun _ _ => rfl⟩, ⟨⟨rfl, fun _ _ => rfl⟩, ⟨rfl, fun _ _ => rfl⟩, ⟨rfl, fun _ _ => rfl⟩, rfl, fun _ _ => rfl⟩, rfl, fun _ _ => rfl⟩, ⟨rfl, rfl, rfl, rfl, rfl, rfl, rfl, rfl, rfl⟩, rfl⟩
end
end
end Go.Proofs.S25
