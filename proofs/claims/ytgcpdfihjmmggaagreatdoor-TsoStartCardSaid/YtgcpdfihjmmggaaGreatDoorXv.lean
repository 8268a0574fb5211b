import Derived.Test.YtgcpdfihjmmggaaGreatDoorXu
namespace Go.Proofs.S25
open Go Go.AV
open Go.IntKind renaming i64 -> j6
open Go.AV.Shape (leaf)
noncomputable section
open Go.IntKind renaming i64 -> j6
open Go.AV.Shape (leaf)
noncomputable section

theorem z11f (p:PProg) (b:Int):zx4 p b=(KN 51 [AV.mc za (encP p)] (AV.tup [AV.int j6 (zb (dP (encP p))).fst,AV.int j6 (zb (dP (encP p))).snd.fst,AV.int j6 (zb (dP (encP p))).snd.snd])/\(qo p=true->RR j6/\(zb (dP (encP p))).fst=stdE p b)/\(qo p=false->qt b/\qt b/\(qu b=true->RR j6/\2=stdE p b)/\(qu b=false->RR j6/\0=stdE p b))):=by kernel_rfl
theorem z11g (p : PProg) (b : Int) (hp : PSm p) : Known Tryz.prog GG 61 [vP p, .int .i64 b] (.int .i64 (stdE p b))  := by
  refine Known.of (V := vMa 23 fun _ => none) (fn := Tryz.f61) Tryz.func61 (by kernel_rfl) (zl _ _) rfl ?_
  show zx4 p b
  rw [z11f]; try delta qo q4t q4u qt qu
  simp only [SB]
  unfold stdE
  refine ⟨zbc p hp, fun h => ?_, fun h => ⟨fun h2 => ?_, fun h2 => ?_⟩⟩
  . rw [if_pos (by simpa using h)]
  . rw [if_neg (by simp [h]), if_pos h2]
  . rw [if_neg (by simp [h]), if_neg (by omega)]
theorem zfh {p : PProg} {b : Int} {l : List Thr} : zof p b l = true ↔ ∀ j, j < l.length -> z93 p b l j := by
  unfold zof
  rw [List.all_eq_true]
  simp only [List.mem_range, decide_eq_true_eq]
theorem z8f {p : PProg} {b : Int} {s : SState} : valS p b s = true ↔ z2c p s.mem = true /\ s.bufs.length = 0 /\ ∀ j, j < s.thr.length -> z93 p b s.thr j := by
  unfold valS
  rw [Bool.and_eq_true, Bool.and_eq_true, zfh, beq_iff_eq]
section
variable (p:PProg) (s:SState)
def qi6:=(!!z2c (dP (encP p)) (dM (encM s.mem)))=true
def qbk:=qi6 p s->qi6 p s
def qzu:=!z2c (dP (encP p)) (dM (encM s.mem))||decide ((0:Int) < ↑s.bufs.length)
end
section
variable (p:PProg) (b:Int) (s:SState) (x3:Nat)
def qi7:=x3<=s.thr.length/\z2c p s.mem=true/\s.bufs.length=0/\∀ j:Nat,j < x3->z93 p b s.thr j
def qk:=RW zd s.thr.length fun i=>encT (s.thr.getD i c0t)
def q1n:=RR stSh/\qk s/\((RW leaf s.mem.vars.length fun i=>AV.int j6 (s.mem.vars.getD i 0))/\(RW leaf s.mem.owners.length fun i=>AV.int j6 (s.mem.owners.getD i 0))/\(RW leaf s.mem.queues.length fun i=>rowI (s.mem.queues.getD i []))/\(RW leaf s.mem.sig.length fun i=>AV.int j6 (s.mem.sig.getD i 0))/\True)/\(RW zo s.bufs.length fun i=>encB (s.bufs.getD i c0b))/\True
def qzv:=z9n (dP (encP p)) b (dT (encT (s.thr.getD (↑x3:Int).toNat c0t)))
def qzw:=!qzv p b s x3
def qzx:=!qzw p b s x3
def qi8:=qzx p b s x3=true
def qbl:=qi8 p b s x3->qi8 p b s x3
variable (x0:Nat)
def q3o:=decide ((0:Int) < ↑x0)
def q83:=(qzx p b s x3&&q3o x3)=true
def q26:=q83 p b s x3->q83 p b s x3
def qzy:=qzw p b s x3||q3o x3&&decide ((s.thr.getD (↑x3:Int).toNat c0t).id<=(s.thr.getD ((↑x3:Int) - 1).toNat c0t).id)
variable (x1:Nat)
def ql:=decide ((↑x1:Int) < (↑s.thr.length:Int))
end
theorem zog (p:PProg) (b:Int) (s:SState):zi5 p b s=(KN 112 [AV.mc za (encP p),AV.mc zw (encM s.mem)] (AV.bool (z2c (dP (encP p)) (dM (encM s.mem))))/\qbk p s/\qbk p s/\(qi6 p s->↑s.bufs.length<=(9223372036854775807:Int))/\qbk p s/\qbk p s/\(qzu p s=true->false=valS p b s)/\(qzu p s=false->↑s.thr.length<=(9223372036854775807:Int)/\(∃ i,qi7 p b s i/\(RI b/\RR (AV.ptr (3:Nat) [])/\RR (AV.ptr (5:Nat) [])/\qk s/\RI ↑s.thr.length/\(RR j6/\(0:Int)=↑i)/\True)/\((27:Nat)=(27:TypeId)/\qa p)/\((35:Nat)=(35:TypeId)/\q1n s)/\True)/\∀ i:Nat,qi7 p b s i->(ql s i=true->inIx (↑i) s.thr.length/\KN 113 [AV.mc za (encP p),AV.int j6 b,AV.mc zd (encT (s.thr.getD (↑i:Int).toNat c0t))] (AV.bool (qzv p b s i))/\qbl p b s i/\qbl p b s i/\q26 p b s i/\q26 p b s i/\(q83 p b s i->InR j6 (qj i))/\q26 p b s i/\q26 p b s i/\(q83 p b s i->inIx (qj i) s.thr.length)/\q26 p b s i/\q26 p b s i/\q26 p b s i/\q26 p b s i/\q26 p b s i/\qbl p b s i/\(qi8 p b s i->q3o i=true->q83 p b s i)/\qbl p b s i/\(qzy p b s i=true->false=valS p b s)/\(qzy p b s i=false->InR j6 (q8 i)/\(∃ j,qi7 p b s j/\s.thr.length - j < s.thr.length - i/\(RI b/\RR (AV.ptr (3:Nat) [])/\RR (AV.ptr (5:Nat) [])/\qk s/\RI ↑s.thr.length/\(RR j6/\q8 i=↑j)/\True)/\(RR (27:TypeId)/\qa p)/\(RR (35:TypeId)/\q1n s)/\True)))/\(ql s i=false->true=valS p b s))):=by kernel_rfl
theorem zi6 (p : PProg) (b : Int) (s : SState) (hp : PSm p) (hs : SSm s) : Known Tryz.prog GG 176 [vP p, .int .i64 b, vSt s] (.bool (valS p b s))  := by
  refine Known.of (V := vMa 50 (zx5 p b s)) (fn := Tryz.f176) Tryz.func176 (by kernel_rfl) (zl _ _) rfl ?_
  show zi5 p b s
  rw [zog]; try delta qi6 qbk qzu qi7 qk qa q1n qzv qzw qzx qi8 qbl q3o q83 q26 qj qzy q8 ql
  simp only [SB, inIx]
  have h1 := hs.thr
  have h2 := hs.bufs
  have eT : ∀ i, dT (encT (s.thr.getD i c0t)) = s.thr.getD i c0t := fun i => z2u _ (hs.ok i).regs
  simp only [eT]
  refine ⟨zwx p s.mem hp hs.mem, fun _ => by omega, fun h => ?_, fun h => ⟨by omega, ⟨0, ⟨by omega, h.1, by omega, fun j hj => by omega⟩, rfl⟩, fun i hi => ⟨fun hlt => ⟨hlt, zgp p b _ hp (hs.ok i), fun _ => zg (by omega) (by omega), fun _ => by omega, fun h => ?_, fun h => ⟨zg (by omega) (by omega), i + 1, ⟨by omega, hi.2.1, hi.2.2.1, fun j hj => ?_⟩, by omega, by omega⟩⟩, fun hge => ?_⟩⟩⟩
  . apply f_eq; intro hv
    have := z8f.1 hv
    rcases h with h | h
    . rw [this.1] at h; cases h
    . omega
  . apply f_eq; intro hv
    have := (z8f.1 hv).2.2 i hlt
    rcases h with h | ⟨h, h'⟩
    . rw [this.1] at h; cases h
    . have := this.2 (by omega)
      rw [show ((i : Int) - 1).toNat = i - 1 from by omega] at h'
      omega
  . by_cases e : j = i
    . subst e
      refine ⟨h.1, fun h0 => ?_⟩
      have := h.2
      rw [show ((j : Int) - 1).toNat = j - 1 from by omega] at this
      omega
    . exact hi.2.2.2 j (by omega)
  . symm; rw [z8f]
    exact ⟨hi.2.1, hi.2.2.1, fun j hj => hi.2.2.2 j (by omega)⟩
theorem z11h (b:Bool):zx7 b=((b=true->RR j6/\1=truI b)/\(b=false->RR j6/\0=truI b)):=by kernel_rfl
theorem z11i (b : Bool)  : Known Tryz.prog GG 233 [.bool b] (.int .i64 (truI b))  := by
  refine Known.of (V := vMa 4 fun _ => none) (fn := Tryz.f233) Tryz.func233 (by kernel_rfl) (zl _ _) rfl ?_
  show zx7 b
  rw [z11h]
  simp only [SB]
  unfold truI
  refine ⟨fun h => by rw [if_pos h], fun h => by rw [if_neg (by simp [h])]⟩
section
variable (t:Thr) (i:Inst) (e:Ev)
def qi9:=RR j6/\e.agent=(z5l t i e).agent
def qia:=RR j6/\e.idx=(z5l t i e).idx
def qzz:=RR j6/\e.obj=(z5l t i e).obj
def q100:=(RR j6/\e.entry=(z5l t i e).entry)/\(RR j6/\e.ord=(z5l t i e).ord)/\(RR j6/\e.read=(z5l t i e).read)/\(RR j6/\e.wrote=(z5l t i e).wrote)/\True
def q101:=(RR j6/\e.mutex=(z5l t i e).mutex)/\q100 t i e
end
theorem zth (t:Thr) (i:Inst) (e:Ev):zmc t i e=(((t.phase == 0)=true->RR evSh/\qi9 t i e/\qia t i e/\(RR j6/\12=(z5l t i e).kind)/\qzz t i e/\(RR j6/\i.n=(z5l t i e).mutex)/\q100 t i e)/\((t.phase == 0)=false->((t.phase == 1)=true->RR evSh/\qi9 t i e/\qia t i e/\(RR j6/\13=(z5l t i e).kind)/\qzz t i e/\q101 t i e)/\((t.phase == 1)=false->RR evSh/\qi9 t i e/\qia t i e/\(RR j6/\9=(z5l t i e).kind)/\(RR j6/\i.n=(z5l t i e).obj)/\q101 t i e))):=by kernel_rfl
theorem zti (t : Thr) (i : Inst) (e : Ev)  : Known Tryz.prog GG 234 [vT t, vI i, vEv e] (vEv (z5l t i e))  := by
  refine Known.of (V := vMa 23 fun _ => none) (fn := Tryz.f234) Tryz.func234 (by kernel_rfl) (zl _ _) rfl ?_
  show zmc t i e
  rw [zth]; try delta qi9 qia qzz q100 q101
  simp only [SB]
  unfold z5l
  refine ⟨fun h => ?_, fun h => ⟨fun h2 => ?_, fun h2 => ?_⟩⟩
  . simp [h]
  . simp [h2]
  . simp [h, h2]
section
variable (s:SState) (t:Thr) (i:Inst) (e:Ev)
def q3p:=RR j6/\e.agent=(accE s t i e).agent
def q3q:=RR j6/\e.idx=(accE s t i e).idx
def q84:=RR j6/\e.obj=(accE s t i e).obj
def q85:=RR j6/\e.mutex=(accE s t i e).mutex
def q86:=RR j6/\e.entry=(accE s t i e).entry
def q87:=RR j6/\i.ord=(accE s t i e).ord
def qbm:=RR j6/\(z31 (dM (encM s.mem)) i.obj).fst=(accE s t i e).read
def qib:=q84 s t i e/\q85 s t i e/\q86 s t i e/\q87 s t i e/\qbm s t i e/\(RR j6/\e.wrote=(accE s t i e).wrote)/\True
def q102:=(RR j6/\t.regs.getD i.b.toNat 0=(accE s t i e).wrote)/\True
def qic:=RR j6/\5=(accE s t i e).kind
def q103:Int:=wr (wr (z31 (dM (encM s.mem)) i.obj).fst + wr (t.regs.getD i.b.toNat 0))
def q104:=(z31 (dM (encM s.mem)) i.obj).fst == t.regs.getD i.b.toNat 0
end
theorem z11j (s:SState) (t:Thr) (i:Inst) (e:Ev):zx8 s t i e=(KN 227 [AV.mc zw (encM s.mem),AV.int j6 i.obj] (AV.tup [AV.int j6 (z31 (dM (encM s.mem)) i.obj).fst,AV.int j6 (z31 (dM (encM s.mem)) i.obj).snd])/\((i.op == 8)=true->RR evSh/\q3p s t i e/\q3q s t i e/\(RR j6/\1=(accE s t i e).kind)/\qib s t i e)/\((i.op == 8)=false->((i.op == 14)=true->RR evSh/\q3p s t i e/\q3q s t i e/\(RR j6/\8=(accE s t i e).kind)/\qib s t i e)/\((i.op == 14)=false->((i.op == 9)=true->inIx i.b 8/\RR evSh/\q3p s t i e/\q3q s t i e/\(RR j6/\2=(accE s t i e).kind)/\q84 s t i e/\q85 s t i e/\q86 s t i e/\q87 s t i e/\(RR j6/\0=(accE s t i e).read)/\q102 s t i e)/\((i.op == 9)=false->((i.op == 10)=true->inIx i.b 8/\RR evSh/\q3p s t i e/\q3q s t i e/\qic s t i e/\q84 s t i e/\q85 s t i e/\q86 s t i e/\q87 s t i e/\qbm s t i e/\q102 s t i e)/\((i.op == 10)=false->((i.op == 11)=true->inIx i.b 8/\KN 180 [AV.int j6 (1:Int),AV.int j6 (z31 (dM (encM s.mem)) i.obj).fst,AV.int j6 (t.regs.getD i.b.toNat (0:Int))] (AV.tup [AV.int j6 (q103 s t i),AV.int j6 (0:Int)])/\RR evSh/\q3p s t i e/\q3q s t i e/\qic s t i e/\q84 s t i e/\q85 s t i e/\q86 s t i e/\q87 s t i e/\qbm s t i e/\(RR j6/\q103 s t i=(accE s t i e).wrote)/\True)/\((i.op == 11)=false->inIx i.b 8/\(q104 s t i=true->inIx i.c 8/\RR evSh/\q3p s t i e/\q3q s t i e/\qic s t i e/\q84 s t i e/\q85 s t i e/\q86 s t i e/\q87 s t i e/\qbm s t i e/\(RR j6/\t.regs.getD i.c.toNat 0=(accE s t i e).wrote)/\True)/\(q104 s t i=false->RR evSh/\q3p s t i e/\q3q s t i e/\(RR j6/\6=(accE s t i e).kind)/\qib s t i e))))))):=by kernel_rfl
theorem z11k (s : SState) (t : Thr) (i : Inst) (e : Ev) (hs : SSm s) (_ : TOK t) (hi : IOk s.mem i) (hx : i.op <= 14 /\ i.op ≠ 13) : Known Tryz.prog GG 236 [vSt s, vT t, vI i, vEv e] (vEv (accE s t i e))  := by
  refine Known.of (V := vMa 73 fun _ => none) (fn := Tryz.f236) Tryz.func236 (by kernel_rfl) (zl _ _) rfl ?_
  show zx8 s t i e
  rw [z11j]; try delta q3p q3q q84 q85 q86 q87 qbm qib q102 qic q103 q104
  simp only [SB, inIx]
  have h0 := hi.op
  have kA := kApp 1 (z31 s.mem i.obj).1 (t.regs.getD i.b.toNat 0)
  refine ⟨zm7 s.mem i.obj hs.mem, fun h8 => ?_, fun h8 => ⟨fun h14 => ?_, fun h14 => ⟨fun h9 => ⟨hi.b (by omega), ?_⟩, fun h9 => ⟨fun h10 => ⟨hi.b (by omega), ?_⟩, fun h10 => ⟨fun h11 => ⟨hi.b (by omega), kA, ?_⟩, fun h11 => ⟨hi.b (by omega), fun he => ⟨hi.c (by omega), ?_⟩, fun he => ?_⟩⟩⟩⟩⟩⟩
  all_goals unfold accE
  all_goals try rw [List.getD_eq_getElem?_getD] at he
  all_goals simp [*, regD, app]
section
variable (s:SState) (t:Thr) (i:Inst)
def q2v:=RR j6/\t.id=(labE s t i).agent
def q2w:=RR j6/\t.steps=(labE s t i).idx
def qbn:=RR j6/\i.obj=(labE s t i).obj
def qbo:=RR j6/\-1=(labE s t i).mutex
def qbp:=RR j6/\-1=(labE s t i).entry
def qbq:=RR j6/\0=(labE s t i).ord
def qbr:=(RR j6/\0=(labE s t i).wrote)/\True
def qid:=qbo s t i/\qbp s t i/\qbq s t i/\(RR j6/\0=(labE s t i).read)/\qbr s t i
def qie:=qbn s t i/\qid s t i
def q105:=AV.agg [AV.int j6 t.id,AV.int j6 t.steps,AV.int j6 0,AV.int j6 i.obj,AV.int j6 (-1),AV.int j6 (-1),AV.int j6 0,AV.int j6 0,AV.int j6 0]
def q106:List AV:=[AV.mc zd (encT t),AV.mc zt (encI i),AV.mc evSh (q105 t i)]
def q107:Ev:=dEv (q105 t i)
def q1o:Ev:=z5l (dT (encT t)) (dIn (encI i)) (q107 t i)
def qif:Int:=↑(s.mem.queues.getD i.obj.toNat []).length
def q108:=qif s i<=9223372036854775807
def q1p:Ev:=accE (dSt (z15 s)) (dT (encT t)) (dIn (encI i)) (q107 t i)
end
theorem z11l (s:SState) (t:Thr) (i:Inst):zx9 s t i=(((i.op == 13)=true->RR evSh/\q2v s t i/\q2w s t i/\(RR j6/\7=(labE s t i).kind)/\qie s t i)/\((i.op == 13)=false->((i.op == 15)=true->RR evSh/\q2v s t i/\q2w s t i/\(RR j6/\9=(labE s t i).kind)/\qie s t i)/\((i.op == 15)=false->((i.op == 16)=true->RR evSh/\q2v s t i/\q2w s t i/\(RR j6/\10=(labE s t i).kind)/\qie s t i)/\((i.op == 16)=false->((i.op == 17)=true->KN 228 [AV.mc zw (encM s.mem),AV.int j6 i.obj] (AV.bool (z7q (dM (encM s.mem)) i.obj))/\KN 233 [AV.bool (z7q (dM (encM s.mem)) i.obj)] (AV.int j6 (truI (z7q (dM (encM s.mem)) i.obj)))/\RR evSh/\q2v s t i/\q2w s t i/\(RR j6/\11=(labE s t i).kind)/\qbn s t i/\qbo s t i/\qbp s t i/\qbq s t i/\(RR j6/\truI (z7q (dM (encM s.mem)) i.obj)=(labE s t i).read)/\qbr s t i)/\((i.op == 17)=false->((i.op == 18)=true->KN 234 (q106 t i) (AV.mc evSh (z6c (q1o t i)))/\RR evSh/\(RR j6/\(q1o t i).agent=(labE s t i).agent)/\(RR j6/\(q1o t i).idx=(labE s t i).idx)/\(RR j6/\(q1o t i).kind=(labE s t i).kind)/\(RR j6/\(q1o t i).obj=(labE s t i).obj)/\(RR j6/\(q1o t i).mutex=(labE s t i).mutex)/\(RR j6/\(q1o t i).entry=(labE s t i).entry)/\(RR j6/\(q1o t i).ord=(labE s t i).ord)/\(RR j6/\(q1o t i).read=(labE s t i).read)/\(RR j6/\(q1o t i).wrote=(labE s t i).wrote)/\True)/\((i.op == 18)=false->((i.op == 19)=true->inIx i.obj s.mem.queues.length/\q108 s i/\RR evSh/\q2v s t i/\q2w s t i/\(RR j6/\14=(labE s t i).kind)/\qbn s t i/\qbo s t i/\qbp s t i/\qbq s t i/\(RR j6/\(if ↑(s.mem.queues.getD i.obj.toNat []).length < (1:Int) then qif s i else (1:Int))=(labE s t i).read)/\qbr s t i)/\((i.op == 19)=false->((i.op == 20)=true->inIx i.obj s.mem.queues.length/\q108 s i/\RR evSh/\q2v s t i/\q2w s t i/\(RR j6/\15=(labE s t i).kind)/\qbn s t i/\qbo s t i/\qbp s t i/\qbq s t i/\(RR j6/\qif s i=(labE s t i).read)/\qbr s t i)/\((i.op == 20)=false->((i.op == 21)=true->KN 235 [AV.mc zd (encT t)] (AV.tup [AV.int j6 (z3d (dT (encT t))),AV.bool (chB2 (dT (encT t)))])/\RR evSh/\q2v s t i/\q2w s t i/\(RR j6/\16=(labE s t i).kind)/\(RR j6/\z3d (dT (encT t))=(labE s t i).obj)/\qid s t i)/\((i.op == 21)=false->((i.op == 22)=true->inIx i.b 8/\RR evSh/\q2v s t i/\q2w s t i/\(RR j6/\17=(labE s t i).kind)/\(RR j6/\t.regs.getD i.b.toNat 0=(labE s t i).obj)/\qid s t i)/\((i.op == 22)=false->KN 236 (AV.mc stSh (z15 s)::q106 t i) (AV.mc evSh (z6c (q1p s t i)))/\RR evSh/\(RR j6/\(q1p s t i).agent=(labE s t i).agent)/\(RR j6/\(q1p s t i).idx=(labE s t i).idx)/\(RR j6/\(q1p s t i).kind=(labE s t i).kind)/\(RR j6/\(q1p s t i).obj=(labE s t i).obj)/\(RR j6/\(q1p s t i).mutex=(labE s t i).mutex)/\(RR j6/\(q1p s t i).entry=(labE s t i).entry)/\(RR j6/\(q1p s t i).ord=(labE s t i).ord)/\(RR j6/\(q1p s t i).read=(labE s t i).read)/\(RR j6/\(q1p s t i).wrote=(labE s t i).wrote)/\True)))))))))):=by kernel_rfl
theorem z11m (s : SState) (t : Thr) (i : Inst) (hs : SSm s) (ht : TOK t) (hi : IOk s.mem i) : Known Tryz.prog GG 196 [vSt s, vT t, vI i] (vEv (labE s t i))  := by
  refine Known.of (V := vMa 91 fun _ => none) (fn := Tryz.f196) Tryz.func196 (by kernel_rfl) (zl _ _) rfl ?_
  show zx9 s t i
  rw [z11l]; try delta q2v q2w qbn qbo qbp qbq qbr qid qie q105 q106 q107 q1o qif q108 q1p
  simp only [SB, inIx]
  have h0 := hi.op
  have hq := zgq s.mem.queues i.obj.toNat
  have hq2 := hs.mem.all
  have hA : (allI s.mem).length = s.mem.sig.length + s.mem.queues.flatten.length := by unfold allI; rw [List.length_append]
  simp only [dEvA, z2u _ ht.regs, dSt_enc' hs.r8]
  refine ⟨fun h13 => ?_, fun h13 => ⟨fun h15 => ?_, fun h15 => ⟨fun h16 => ?_, fun h16 => ⟨fun h17 => ⟨zm8 _ _ hs.mem, z11i _, ?_⟩, fun h17 => ⟨fun h18 => ⟨zti t i (ev0 t i), ?_⟩, fun h18 => ⟨fun h19 => ⟨hi.q (by omega), by omega, ?_⟩, fun h19 => ⟨fun h20 => ⟨hi.q (by omega), by omega, ?_⟩, fun h20 => ⟨fun h21 => ⟨zq1 _ ht.regs ht.id, ?_⟩, fun h21 => ⟨fun h22 => ⟨hi.b (by omega), ?_⟩, fun h22 => ⟨z11k s t i (ev0 t i) hs ht hi (by omega), ?_⟩⟩⟩⟩⟩⟩⟩⟩⟩⟩
  all_goals unfold labE
  all_goals simp [*, regD, ev0, qlen]
  all_goals rw [Int.min_def]
  all_goals split <;> split <;> omega
theorem zme (l : List Thr) (id : Int) : ∀ k, k <= l.length -> fidR l id k < l.length /\ -1 <= fidR l id k
  | 0, _ => ⟨by show (-1 : Int) < _; omega, by show (-1 : Int) <= -1; omega⟩
  | k + 1, hk => by
    unfold fidR
    split
    . omega
    . exact zme l id k (by omega)
theorem zi7 (l : List Thr) (id : Int) : fid l id < l.length /\ -1 <= fid l id := zme l id _ (Nat.le_refl _)
section
variable (s:SState) (i:Inst)
def q109:List AV:=[AV.mc zw (encM s.mem),AV.int j6 i.obj]
end
section
variable (t:Thr) (i:Inst)
def q10a:List AV:=[AV.int j6 (t.regs.getD i.b.toNat 0)]
end
section
variable (s:SState) (t:Thr) (i:Inst)
def q10b:Int × Int:=app i.fn (z31 (dM (encM s.mem)) i.obj).fst (t.regs.getD i.b.toNat 0)
def q10c:Int:=(q10b s t i).fst
def q10d:=hasI (z1b s.mem.sig.length fun i=>AV.int j6 (s.mem.sig.getD i 0)) t.id
def qig:Int:=max (fid (dR dT (rowT s.thr)) (t.regs.getD i.b.toNat 0)) 0
def qbs:=decide (0<=fid (dR dT (rowT s.thr)) (t.regs.getD i.b.toNat 0))
def qbt:=qbs s t i=true
def q27:=qbt s t i->qbt s t i
def q10e:=inIx (qig s t i) s.thr.length
def q10f:Int:=(s.thr.getD (qig s t i).toNat c0t).status
def q10g:=q10f s t i == 2
def q10h:=!q10g s t i
def qbu:=(qbs s t i&&q10h s t i)=true
def q57:=qbu s t i->qbu s t i
end
theorem z11n (s:SState) (t:Thr) (i:Inst):zxa s t i=(((i.op == 14)=true->KN 227 (q109 s i) (AV.tup [AV.int j6 (z31 (dM (encM s.mem)) i.obj).fst,AV.int j6 (z31 (dM (encM s.mem)) i.obj).snd])/\inIx i.b 8/\KN 180 (AV.int j6 i.fn::AV.int j6 (z31 (dM (encM s.mem)) i.obj).fst::q10a t i) (AV.tup [AV.int j6 (q10c s t i),AV.int j6 (q10b s t i).snd])/\(q10c s t i != 0)=z4z s t i)/\((i.op == 14)=false->((i.op == 15)=true->KN 228 (q109 s i) (AV.bool (z7q (dM (encM s.mem)) i.obj))/\z7q (dM (encM s.mem)) i.obj=z4z s t i)/\((i.op == 15)=false->((i.op == 18)=true->((t.phase == 1)=true->KN 53 [rowI s.mem.sig,AV.int j6 t.id] (AV.bool (q10d s t))/\q10d s t=z4z s t i)/\((t.phase == 1)=false->((t.phase == 2)=true->KN 228 [AV.mc zw (encM s.mem),AV.int j6 i.n] (AV.bool (z7q (dM (encM s.mem)) i.n))/\z7q (dM (encM s.mem)) i.n=z4z s t i)/\((t.phase == 2)=false->true=z4z s t i)))/\((i.op == 18)=false->((i.op == 22)=true->inIx i.b 8/\KN 120 (rowT s.thr::q10a t i) (AV.tup [AV.int j6 (qig s t i),AV.bool (qbs s t i)])/\q27 s t i/\q27 s t i/\q27 s t i/\(qbt s t i->q10e s t i)/\q27 s t i/\q27 s t i/\q27 s t i/\q27 s t i/\q57 s t i/\q57 s t i/\q57 s t i/\(qbu s t i->q10e s t i)/\q57 s t i/\q57 s t i/\q57 s t i/\q27 s t i/\(qbt s t i->q10h s t i=true->qbu s t i)/\q27 s t i/\(qbs s t i&&(q10g s t i||q10f s t i == 3))=z4z s t i)/\((i.op == 22)=false->true=z4z s t i))))):=by kernel_rfl
theorem z11o (s : SState) (t : Thr) (i : Inst) (hs : SSm s) (_ : TOK t) (hi : IOk s.mem i) : Known Tryz.prog GG 178 [vSt s, vT t, vI i] (.bool (z4z s t i))  := by
  refine Known.of (V := vMa 97 fun _ => none) (fn := Tryz.f178) Tryz.func178 (by kernel_rfl) (zl _ _) rfl ?_
  show zxa s t i
  rw [z11n]; try delta q109 q10a q10b q10c q10d qig qbs qbt q27 q10e q10f q10g q10h qbu q57
  simp only [SB, inIx]
  have h1 := hs.thr
  simp only [oR, zlg hs.r8]
  have hf := zi7 s.thr (t.regs.getD i.b.toNat 0)
  refine ⟨fun h => ⟨zm7 _ _ hs.mem, hi.b (by omega), kApp _ _ _, ?_⟩, fun h14 => ⟨fun h => ⟨zm8 _ _ hs.mem, ?_⟩, fun h15 => ⟨fun h => ⟨fun h2 => ⟨zcj _ _ hs.mem.sig, ?_⟩, fun h2 => ⟨fun h3 => ⟨zm8 _ _ hs.mem, ?_⟩, fun h3 => ?_⟩⟩, fun h18 => ⟨fun h => ⟨hi.b (by omega), zlh _ _ h1 hs.r8, fun h => by omega, fun h => by have := h.1; omega, ?_⟩, fun h => ?_⟩⟩⟩⟩
  . unfold z4z; rw [if_pos h]; rfl
  . unfold z4z; rw [if_neg h14, if_pos h]
  . unfold z4z; rw [if_neg h14, if_neg h15, if_pos h, if_pos h2]
  . unfold z4z; rw [if_neg h14, if_neg h15, if_pos h, if_neg h2, if_pos h3]
  . unfold z4z; rw [if_neg h14, if_neg h15, if_pos h, if_neg h2, if_neg h3]
  . unfold z4z zx2 regD; rw [if_neg h14, if_neg h15, if_neg h18, if_pos h]
    by_cases h0 : 0 <= fid s.thr (t.regs.getD i.b.toNat 0)
    . rw [Int.max_eq_left h0]
    . rw [decide_eq_false h0, Bool.false_and, Bool.false_and]
  . unfold z4z; rw [if_neg h14, if_neg h15, if_neg h18, if_neg h]
theorem z8 (i : Nat) : AV.int .i64 0 = AV.int .i64 (c0t.regs.getD i 0) := by
  show AV.int .i64 0 = AV.int .i64 ((List.replicate 8 (0 : Int)).getD i 0)
  congr 1
  rw [List.getD_eq_getElem?_getD, List.getElem?_replicate]
  split <;> rfl
section
variable (s:SState) (a:Int)
def qih:Int:=max (fid (dR dT (rowT s.thr)) a) 0
def q10i:=decide (0<=fid (dR dT (rowT s.thr)) a)
end
section
variable (p:PProg) (s:SState) (a:Int) (x3:Nat)
def q10j:=AV.int j6 ((runS p s a).fst.regs.getD x3 0)
def q10k:Int:=(runS p s a).snd.fst.op
def q10l:Int:=(runS p s a).snd.fst.a
def q10m:Int:=(runS p s a).snd.fst.b
def q10n:Int:=(runS p s a).snd.fst.c
def q10o:Int:=(runS p s a).snd.fst.obj
def q10p:Int:=(runS p s a).snd.fst.n
def q10q:Int:=(runS p s a).snd.fst.fn
def q10r:Int:=(runS p s a).snd.fst.ord
def q10s:=!q10i s a
def q10t:=inIx (qih s a) s.thr.length
def q1i:Thr:=s.thr.getD (qih s a).toNat c0t
def q10u:=encT (q1i s a)
def q10v:Thr:=dT (q10u s a)
def q28:Inst:=zu (dP (encP p)) (q10v s a)
def q10w:=z3l (dP (encP p)) (q10v s a)
def q10x:List Int:=(q1i s a).held
def q10y:Nat:=(q10x s a).length
end
theorem z11p (p:PProg) (s:SState) (a:Int):zx6 p s a=(KN 120 [rowT s.thr,AV.int j6 a] (AV.tup [AV.int j6 (qih s a),AV.bool (q10i s a)])/\(q10s s a=true->(RR zd/\(RR j6/\0=(runS p s a).fst.id)/\(RR j6/\0=(runS p s a).fst.fn)/\(RR j6/\0=(runS p s a).fst.pc)/\(RR 8/\∀ i:Nat,AV.int j6 0=q10j p s a i)/\(RR j6/\0=(runS p s a).fst.steps)/\(RR j6/\0=(runS p s a).fst.kids)/\(RR j6/\0=(runS p s a).fst.phase)/\(RR j6/\0=(runS p s a).fst.status)/\(RR j6/\0=(runS p s a).fst.fault)/\(runS p s a).fst.held.length=0/\True)/\(RR zt/\(RR j6/\0=q10k p s a)/\(RR j6/\0=q10l p s a)/\(RR j6/\0=q10m p s a)/\(RR j6/\0=q10n p s a)/\(RR j6/\0=q10o p s a)/\(RR j6/\0=q10p p s a)/\(RR j6/\0=q10q p s a)/\(RR j6/\0=q10r p s a)/\True)/\false=(runS p s a).snd.snd/\True)/\(q10s s a=false->q10t s a/\KN 177 [AV.mc za (encP p),AV.mc zd (q10u s a)] (AV.tup [AV.mc zt (encI (q28 p s a)),AV.bool (q10w p s a)])/\q10t s a/\(RR zd/\(RR j6/\(q1i s a).id=(runS p s a).fst.id)/\(RR j6/\(q1i s a).fn=(runS p s a).fst.fn)/\(RR j6/\(q1i s a).pc=(runS p s a).fst.pc)/\(RR 8/\∀ i:Nat,AV.int j6 ((q1i s a).regs.getD i 0)=q10j p s a i)/\(RR j6/\(q1i s a).steps=(runS p s a).fst.steps)/\(RR j6/\(q1i s a).kids=(runS p s a).fst.kids)/\(RR j6/\(q1i s a).phase=(runS p s a).fst.phase)/\(RR j6/\(q1i s a).status=(runS p s a).fst.status)/\(RR j6/\(q1i s a).fault=(runS p s a).fst.fault)/\(RR leaf/\q10y s a=(runS p s a).fst.held.length/\∀ i:Nat,i < q10y s a->AV.int j6 ((q10x s a).getD i 0)=AV.int j6 ((runS p s a).fst.held.getD i 0))/\True)/\(RR zt/\(RR j6/\(q28 p s a).op=q10k p s a)/\(RR j6/\(q28 p s a).a=q10l p s a)/\(RR j6/\(q28 p s a).b=q10m p s a)/\(RR j6/\(q28 p s a).c=q10n p s a)/\(RR j6/\(q28 p s a).obj=q10o p s a)/\(RR j6/\(q28 p s a).n=q10p p s a)/\(RR j6/\(q28 p s a).fn=q10q p s a)/\(RR j6/\(q28 p s a).ord=q10r p s a)/\True)/\q10w p s a=(runS p s a).snd.snd/\True)):=by kernel_rfl
theorem z11q (p : PProg) (s : SState) (a : Int) (hp : PSm p) (hs : SSm s) : Known Tryz.prog GG 195 [vP p, vSt s, .int .i64 a] (.tup [vT (runS p s a).1, vI (runS p s a).2.1, .bool (runS p s a).2.2])  := by
  refine Known.of (V := vMa 40 fun _ => none) (fn := Tryz.f195) Tryz.func195 (by kernel_rfl) (zl _ _) rfl ?_
  show zx6 p s a
  rw [z11p]; try delta qih q10i q10j q10k q10l q10m q10n q10o q10p q10q q10r q10s q10t q1i q10u q10v q28 q10w q10x q10y
  simp only [SB, inIx]
  have h1 := hs.thr
  have hf := zi7 s.thr a
  simp only [zlg hs.r8]
  refine ⟨zlh _ _ h1 hs.r8, fun h => ?_, fun h => ?_⟩
  . have e : runS p s a = (c0t, c0i, false) := by unfold runS; rw [if_pos (by simpa using h)]
    rw [e]; exact ⟨⟨rfl, rfl, rfl, z8, rfl, rfl, rfl, rfl, rfl, rfl⟩, ⟨rfl, rfl, rfl, rfl, rfl, rfl, rfl, rfl⟩, rfl⟩
  . have h0 : 0 <= fid s.thr a := by simpa using h
    have e : runS p s a = (s.thr.getD (fid s.thr a).toNat c0t, zu p (s.thr.getD (fid s.thr a).toNat c0t), z3l p (s.thr.getD (fid s.thr a).toNat c0t)) := by unfold runS; rw [if_neg (by omega)]
    rw [e, Int.max_eq_left h0, z2u _ (hs.ok _).regs]
    exact ⟨by omega, zo7 p _ hp (hs.ok _), by omega, ⟨rfl, rfl, rfl, fun _ => rfl, rfl, rfl, rfl, rfl, rfl, rfl, fun _ _ => rfl⟩, ⟨rfl, rfl, rfl, rfl, rfl, rfl, rfl, rfl⟩, rfl⟩
theorem zds {p : PProg} {m : Mem} {t : Thr} (hp : PSm p) (ht : TOK t) (hm : z2c p m = true) (h : z3l p t = true) : IOk m (atI p t) /\ zu p t = atI p t := by
  have e : zu p t = atI p t := by unfold zu; rw [if_pos h]
  unfold z3l at h
  rw [Bool.and_eq_true, beq_iff_eq] at h
  obtain ⟨h1, h2⟩ := h
  obtain ⟨h3, h4⟩ := zbf.1 h2
  have hpo : POk p := ⟨hp, (z7b h3).1⟩
  have hr := zdq h4 h1
  have hc := zf9 hpo ((z9y h4).wf ht) hr.2.1
  obtain ⟨c1, c2, _⟩ := zbe hc
  have hg := zf8 c1
  have hv : 8 <= (atI p t).op /\ (atI p t).op <= 22 := by
    have := hr.2.2.1
    unfold visB at this
    rw [Bool.and_eq_true, decide_eq_true_eq, decide_eq_true_eq] at this
    exact this
  have hq : (m.queues.length : Int) = p.conds.length := by
    unfold z2c at hm
    simp only [Bool.and_eq_true, beq_iff_eq] at hm
    omega
  refine ⟨⟨hv, fun h => hg.b ?_, fun h => hg.c (by rw [h]; rfl), fun h => ?_⟩, e⟩
  . rcases h with h | h | h | h | h | h | h <;> rw [h] <;> rfl
  . rw [hq]
    unfold zex at c2
    rw [Bool.or_eq_false_iff] at c2
    have c2 := c2.1
    have eo : z49 p (atI p t).op = p.conds.length := by
      unfold z49
      rw [if_neg (by omega), if_neg (by omega), if_pos h]
    rw [eo, decide_eq_true (by omega), Bool.true_and, Bool.or_eq_false_iff, decide_eq_false_iff_not, decide_eq_false_iff_not] at c2
    omega
section
variable (p:PProg) (s:SState) (a:Int)
def q10z:=(RR evSh/\(RR j6/\0=(labS p s a).fst.agent)/\(RR j6/\0=(labS p s a).fst.idx)/\(RR j6/\0=(labS p s a).fst.kind)/\(RR j6/\0=(labS p s a).fst.obj)/\(RR j6/\0=(labS p s a).fst.mutex)/\(RR j6/\0=(labS p s a).fst.entry)/\(RR j6/\0=(labS p s a).fst.ord)/\(RR j6/\0=(labS p s a).fst.read)/\(RR j6/\0=(labS p s a).fst.wrote)/\True)/\false=(labS p s a).snd/\True
def q88:=!valS (dP (encP p)) 32 (dSt (z15 s))
def q110:=encT (runS (dP (encP p)) (dSt (z15 s)) a).fst
def q111:=AV.mc zd (q110 p s a)
def q112:Inst × Bool:=(runS (dP (encP p)) (dSt (z15 s)) a).snd
def q113:=encI (q112 p s a).fst
def q114:=AV.mc zt (q113 p s a)
def q115:=(q112 p s a).snd
def q116:=!q115 p s a
def q1q:Ev:=labE (dSt (z15 s)) (dT (q110 p s a)) (dIn (q113 p s a))
end
theorem ztj (p:PProg) (s:SState) (a:Int):zmd p s a=(KN 176 [AV.mc za (encP p),AV.int j6 (32:Int),AV.mc stSh (z15 s)] (AV.bool (valS (dP (encP p)) (32:Int) (dSt (z15 s))))/\(q88 p s=true->q10z p s a)/\(q88 p s=false->KN 195 [AV.mc za (encP p),AV.mc stSh (z15 s),AV.int j6 a] (AV.tup [q111 p s a,q114 p s a,AV.bool (q115 p s a)])/\(q116 p s a=true->q10z p s a)/\(q116 p s a=false->KN 196 [AV.mc stSh (z15 s),q111 p s a,q114 p s a] (AV.mc evSh (z6c (q1q p s a)))/\(RR evSh/\(RR j6/\(q1q p s a).agent=(labS p s a).fst.agent)/\(RR j6/\(q1q p s a).idx=(labS p s a).fst.idx)/\(RR j6/\(q1q p s a).kind=(labS p s a).fst.kind)/\(RR j6/\(q1q p s a).obj=(labS p s a).fst.obj)/\(RR j6/\(q1q p s a).mutex=(labS p s a).fst.mutex)/\(RR j6/\(q1q p s a).entry=(labS p s a).fst.entry)/\(RR j6/\(q1q p s a).ord=(labS p s a).fst.ord)/\(RR j6/\(q1q p s a).read=(labS p s a).fst.read)/\(RR j6/\(q1q p s a).wrote=(labS p s a).fst.wrote)/\True)/\true=(labS p s a).snd/\True))):=by kernel_rfl
theorem ztk (p : PProg) (s : SState) (a : Int) (hp : PSm p) (hs : SSm s) : Known Tryz.prog GG 184 [vP p, vSt s, .int .i64 a] (.tup [vEv (labS p s a).1, .bool (labS p s a).2])  := by
  refine Known.of (V := vMa 31 fun _ => none) (fn := Tryz.f184) Tryz.func184 (by kernel_rfl) (zl _ _) rfl ?_
  show zmd p s a
  rw [ztj]; try delta q10z q88 q110 q111 q112 q113 q114 q115 q116 q1q
  simp only [SB]
  simp only [dSt_enc' hs.r8]
  refine ⟨zi6 p 32 s hp hs, fun h => ?_, fun h => ⟨z11q p s a hp hs, fun h2 => ?_, fun h2 => ?_⟩⟩
  . have e : labS p s a = (c0ev, false) := by unfold labS; rw [if_pos h]
    rw [e]; exact ⟨⟨rfl, rfl, rfl, rfl, rfl, rfl, rfl, rfl, rfl⟩, rfl⟩
  . have e : labS p s a = (c0ev, false) := by unfold labS; rw [if_neg (by simp [h]), if_pos h2]
    rw [e]; exact ⟨⟨rfl, rfl, rfl, rfl, rfl, rfl, rfl, rfl, rfl⟩, rfl⟩
  . have e : labS p s a = (labE s (runS p s a).1 (runS p s a).2.1, true) := by unfold labS; rw [if_neg (by simp [h]), if_neg (by simp [h2])]
    have hr : runS p s a = (s.thr.getD (fid s.thr a).toNat c0t, zu p (s.thr.getD (fid s.thr a).toNat c0t), z3l p (s.thr.getD (fid s.thr a).toNat c0t)) := by
      unfold runS at h2 ⊢
      split
      . rename_i q; rw [if_pos q] at h2; cases h2
      . rfl
    rw [e]
    rw [hr] at h2 ⊢
    have ht := hs.ok (fid s.thr a).toNat
    obtain ⟨k1, k2⟩ := zds hp ht (z8f.1 h).1 h2
    simp only [z2u _ ht.regs]
    exact ⟨z11m s _ _ hs ht (by rw [k2]; exact k1), by simp⟩
end
end
end Go.Proofs.S25
namespace Go.Proofs.S25
open Go Go.AV
open Go.IntKind renaming i64 -> j6
open Go.AV.Shape (leaf)
noncomputable section
abbrev tBox (l : List Thr) : BoxC := .row 51 zd l.length fun i => encT (l.getD i c0t)
def onL (p : PProg) (s : SState) (i : Nat) : List Int := ((s.thr.take i).filter (onT p s)).map (·.id)
def zxb (p : PProg) (b : Int) (k : Nat) : Option Inv := match Nat.beq k 9 with
  | true => some { ι := Nat, S := fun i => ⟨[(1, .int .i64 b), (2, .ptr 2 []), (4, .ptr 4 []), (9, .ptr 9 []), (33, zde p.thr), (34, .int .i64 p.thr.length), (35, .int .i64 i)], [(2, z6j p), (4, z3z c0st), (9, .cell 35 stSh (.agg [.own 59 (z12x p b i).length, encM (newM p).1, .nils])), (59, tBox (z12x p b i))]⟩, μ := fun i => p.thr.length - i, ok := fun i => i <= p.thr.length /\ stdE p b = 0 }
  | false => none
noncomputable def zmf (p : PProg) (b : Int) : Prop := fnVc (vMa 63 (zxb p b)) Tryz.f28 [vP p, .int .i64 b] (.tup [vStn (z7 p b).1, .int .i64 (z7 p b).2])
def zxc (p : PProg) (s : SState) (k : Nat) : Option Inv := match Nat.beq k 5 with
  | true => some { ι := Nat, S := fun i => ⟨[(2, .ptr 2 []), (3, .ptr 3 []), (5, .own 38 (onL p s i).length), (15, rowT s.thr), (16, .int .i64 s.thr.length), (17, .int .i64 i)], [(2, z6j p), (3, z3z s), (38, iBox (onL p s i))]⟩, μ := fun i => s.thr.length - i, ok := fun i => i <= s.thr.length /\ valS p 32 s = true }
  | false => none
noncomputable def zxd (p : PProg) (s : SState) : Prop := fnVc (vMa 41 (zxc p s)) Tryz.f116 [vP p, vSt s] (rowI (onS p s))
end
end Go.Proofs.S25
namespace Go.Proofs.S25
open Go Go.AV
open Go.IntKind renaming i64 -> j6
open Go.AV.Shape (leaf)
noncomputable section
open Go.IntKind renaming i64 -> j6
open Go.AV.Shape (leaf)
noncomputable section

theorem zdt {α : Type} (enc : α -> AV) (z : AV) (d : α) (L : List α) (x : α) (j : Nat) (hj : j < L.length + 1) : (if j < L.length then enc (L.getD j d) else ((List.replicate 1 z).set 0 (enc x)).getD (j - L.length) AV.any) = enc ((L ++ [x]).getD j d) := by
  split
  . rename_i h
    rw [List.getD_eq_getElem?_getD, List.getD_eq_getElem?_getD, List.getElem?_append_left h]
  . rename_i h
    have : j = L.length := by omega
    subst this
    rw [Nat.sub_self, List.getD_eq_getElem?_getD (l := L ++ [x]), List.getElem?_append_right (Nat.le_refl _), Nat.sub_self]; rfl
theorem z27 (p : PProg) (b : Int) (i : Nat) : (z12x p b i).length = i := by unfold z12x; simp
theorem zi8 (p : PProg) (b : Int) (i : Nat) : z12x p b (i + 1) = z12x p b i ++ [(newT p b i (p.thr.getD i c0s).fn (p.thr.getD i c0s).arg).1] := by
  unfold z12x; rw [List.range_succ, List.map_append]; rfl
theorem zfi {p : PProg} {b : Int} (hp : PSm p) (h : stdE p b = 0) {i : Nat} (hi : i < p.thr.length) : newT p b i (p.thr.getD i c0s).fn (p.thr.getD i c0s).arg = (setl p b (zfb i (p.thr.getD i c0s).fn (p.thr.getD i c0s).arg), 0) := by
  have hk : POk p := ⟨hp, (z7b h).1⟩
  obtain ⟨⟨_, h8⟩, h2⟩ := hk.thr
  obtain ⟨h3, h4⟩ := h2 i hi
  have hd : depI (i : Int) = 0 := by
    unfold depI; rw [if_neg (by omega)]
    unfold depR; rw [if_pos (by omega)]; rfl
  unfold newT
  rw [if_neg (by simp [h]), if_neg (by omega), if_neg (by omega), if_neg (by simpa using zf7.2 (z5i.1 h4))]
theorem ztl {p : PProg} (h : (zb p).1 = 0) : (newM p).2 = 0 := by unfold newM; rw [if_neg (by simp [h])]
section
variable (p:PProg) (b:Int)
def qii:=RR stSh/\(z7 p b).fst.thr.length=0/\((z7 p b).fst.mem.vars.length=0/\(z7 p b).fst.mem.owners.length=0/\(z7 p b).fst.mem.queues.length=0/\(z7 p b).fst.mem.sig.length=0/\True)/\RR AV.nils/\True
def q117:=(newM (dP (encP p))).snd != 0
variable (x2:Nat)
def q3r:=x2<=p.thr.length/\stdE p b=0
def q89:=(z12x p b x2).length=0
variable (x1:Nat)
def q3s:=AV.int j6 ((newM p).fst.vars.getD x1 0)
def q3t:=AV.int j6 ((newM p).fst.owners.getD x1 0)
def q3u:=rowI ((newM p).fst.queues.getD x1 [])
def q3v:=AV.int j6 ((newM p).fst.sig.getD x1 0)
def qbv:Thr × Int:=newT (dP (encP p)) b (↑x2:Int) (p.thr.getD (↑x2:Int).toNat c0s).fn (p.thr.getD (↑x2:Int).toNat c0s).arg
def q8a:=encT (qbv p b x2).fst
def qij:Int:=(qbv p b x2).snd
def q118:=qij p b x2 != 0
def q2x:Nat:=(z12x p b x2).length + 1
variable (x3:Nat)
def q8b:=q2x p b x2=(z12x p b x3).length
end
theorem ztm (p:PProg) (b:Int):zmf p b=(KN 61 [AV.mc za (encP p),AV.int j6 b] (AV.int j6 (stdE (dP (encP p)) b))/\(qv p b=true->qii p b/\(RR j6/\stdE (dP (encP p)) b=(z7 p b).snd)/\True)/\(qv p b=false->KN 62 [AV.mc za (encP p)] (AV.tup [AV.mc zw (encM (newM (dP (encP p))).fst),AV.int j6 (newM (dP (encP p))).snd])/\(q117 p=true->qii p b/\(RR j6/\(newM (dP (encP p))).snd=(z7 p b).snd)/\True)/\(q117 p=false->↑p.thr.length<=(9223372036854775807:Int)/\(∃ (i:Nat),q3r p b i/\(RI b/\RR (AV.ptr (2:Nat) [])/\RR (AV.ptr (4:Nat) [])/\RR (AV.ptr (9:Nat) [])/\q4i p/\RI (↑(List.length (PProg.thr p)):Int)/\(RR j6/\(0:Int)=(↑i:Int))/\True)/\((27:Nat)=(27:TypeId)/\q6a p)/\((35:Nat)=(35:TypeId)/\RR stSh/\(0:Nat)=(0:Nat)/\((0:Nat)=(0:Nat)/\(0:Nat)=(0:Nat)/\(0:Nat)=(0:Nat)/\(0:Nat)=(0:Nat)/\True)/\(0:Nat)=(0:Nat)/\True)/\((35:Nat)=(35:TypeId)/\RR stSh/\(q89 p b i/\RR true/\RR true)/\((RR leaf/\List.length (Mem.vars (Prod.fst (newM (dP (encP p)))))=List.length (Mem.vars (Prod.fst (newM p)))/\∀ (i:Nat),i < List.length (Mem.vars (Prod.fst (newM (dP (encP p)))))->AV.int j6 (List.getD (Mem.vars (Prod.fst (newM (dP (encP p))))) i (0:Int))=q3s p i)/\(RR leaf/\List.length (Mem.owners (Prod.fst (newM (dP (encP p)))))=List.length (Mem.owners (Prod.fst (newM p)))/\∀ (i:Nat),i < List.length (Mem.owners (Prod.fst (newM (dP (encP p)))))->AV.int j6 (List.getD (Mem.owners (Prod.fst (newM (dP (encP p))))) i (0:Int))=q3t p i)/\(RR leaf/\List.length (Mem.queues (Prod.fst (newM (dP (encP p)))))=List.length (Mem.queues (Prod.fst (newM p)))/\∀ (i:Nat),i < List.length (Mem.queues (Prod.fst (newM (dP (encP p)))))->rowI (List.getD (Mem.queues (Prod.fst (newM (dP (encP p))))) i [])=q3u p i)/\(RR leaf/\List.length (Mem.sig (Prod.fst (newM (dP (encP p)))))=List.length (Mem.sig (Prod.fst (newM p)))/\∀ (i:Nat),i < List.length (Mem.sig (Prod.fst (newM (dP (encP p)))))->AV.int j6 (List.getD (Mem.sig (Prod.fst (newM (dP (encP p))))) i (0:Int))=q3v p i)/\True)/\RR AV.nils/\True)/\(q89 p b i/\RR true)/\True)/\∀ i:Nat,q3r p b i->(q16 p i=true->inIx (↑i) p.thr.length/\KN 63 [AV.mc za (encP p),AV.int j6 b,AV.int j6 (↑i:Int),AV.int j6 (p.thr.getD (↑i:Int).toNat c0s).fn,AV.int j6 (p.thr.getD (↑i:Int).toNat c0s).arg] (AV.tup [AV.mc zd (q8a p b i),AV.int j6 (qij p b i)])/\(q118 p b i=true->qii p b/\(RR j6/\qij p b i=(z7 p b).snd)/\True)/\(q118 p b i=false->1 * zd.size<=16777216/\(RR (z12x p b i).length/\↑(q2x p b i) * ↑(152:Nat)<=(140737488355328:Int)/\q2x p b i<=9223372036854775807)/\1<=1/\InR j6 (q8 i)/\(∃ (j:Nat),q3r p b j/\List.length (PProg.thr p) - j < List.length (PProg.thr p) - i/\(RI b/\RR (AV.ptr (2:Nat) [])/\RR (AV.ptr (4:Nat) [])/\RR (AV.ptr (9:Nat) [])/\q4i p/\RI (↑(List.length (PProg.thr p)):Int)/\(RR j6/\q8 i=(↑j:Int))/\True)/\(RR (27:TypeId)/\q6a p)/\(RR (35:TypeId)/\RR stSh/\(RW zd ((0:Nat)) fun (i:Nat)=>encT (List.getD [] i c0t))/\(qe/\qe/\(RW leaf ((0:Nat)) fun (i:Nat)=>rowI (List.getD [] i []))/\qe/\True)/\(RW zo ((0:Nat)) fun (i:Nat)=>encB (List.getD [] i c0b))/\True)/\(RR (35:TypeId)/\RR stSh/\(RR (59:Nat)/\q8b p b i j)/\((RW leaf (List.length (Mem.vars (Prod.fst (newM p)))) fun (i:Nat)=>q3s p i)/\(RW leaf (List.length (Mem.owners (Prod.fst (newM p)))) fun (i:Nat)=>q3t p i)/\(RW leaf (List.length (Mem.queues (Prod.fst (newM p)))) fun (i:Nat)=>q3u p i)/\(RW leaf (List.length (Mem.sig (Prod.fst (newM p)))) fun (i:Nat)=>q3v p i)/\True)/\RR AV.nils/\True)/\(RR (51:TypeId)/\RR zd/\q8b p b i j/\∀ (i_1:Nat),i_1 < q2x p b i->(if i_1 < List.length (z12x p b i) then encT (List.getD (z12x p b i) i_1 c0t) else List.getD (List.set (List.replicate (1:Nat) (AV.agg [AV.int j6 (0:Int),AV.int j6 (0:Int),AV.int j6 (0:Int),AV.arr (8:Nat) fun (_:Nat)=>AV.int j6 (0:Int),AV.int j6 (0:Int),AV.int j6 (0:Int),AV.int j6 (0:Int),AV.int j6 (0:Int),AV.int j6 (0:Int),AV.nils])) (0:Nat) (q8a p b i)) (i_1 - List.length (z12x p b i)) AV.any)=encT (List.getD (z12x p b j) i_1 c0t))/\True)))/\(q16 p i=false->(z12x p b i).length<=(z12x p b i).length/\(RR stSh/\(RR zd/\(z12x p b i).length=(z7 p b).fst.thr.length/\∀ (i_1:Nat),i_1 < (z12x p b i).length->encT ((z12x p b i).getD i_1 c0t)=encT ((z7 p b).fst.thr.getD i_1 c0t))/\((RR leaf/\(newM p).fst.vars.length=(z7 p b).fst.mem.vars.length/\∀ (i:Nat),i < (newM p).fst.vars.length->q3s p i=AV.int j6 ((z7 p b).fst.mem.vars.getD i 0))/\(RR leaf/\(newM p).fst.owners.length=(z7 p b).fst.mem.owners.length/\∀ (i:Nat),i < (newM p).fst.owners.length->q3t p i=AV.int j6 ((z7 p b).fst.mem.owners.getD i 0))/\(RR leaf/\(newM p).fst.queues.length=(z7 p b).fst.mem.queues.length/\∀ (i:Nat),i < (newM p).fst.queues.length->q3u p i=rowI ((z7 p b).fst.mem.queues.getD i []))/\(RR leaf/\(newM p).fst.sig.length=(z7 p b).fst.mem.sig.length/\∀ (i:Nat),i < (newM p).fst.sig.length->q3v p i=AV.int j6 ((z7 p b).fst.mem.sig.getD i 0))/\True)/\RR AV.nils/\True)/\(RR j6/\0=(z7 p b).snd)/\True)))):=by kernel_rfl
theorem ztn (p : PProg) (b : Int) (hp : PSm p) : Known Tryz.prog GG 28 [vP p, .int .i64 b] (.tup [vStn (z7 p b).1, .int .i64 (z7 p b).2])  := by
  refine Known.of (V := vMa 63 (zxb p b)) (fn := Tryz.f28) Tryz.func28 (by kernel_rfl) (zl _ _) rfl ?_
  show zmf p b
  rw [ztm]; try delta qii qv q117 q3r q4i q6a q89 q3s q3t q3u q3v qbv q8a qij q118 q2x q8 qe q8b q16
  simp only [SB, inIx]
  refine ⟨z11g p b hp, fun h => ?_, fun h => ?_⟩
  . have e : z7 p b = (c0st, stdE p b) := by unfold z7; rw [if_pos h]
    rw [e]; exact ⟨⟨rfl, zMem⟩, rfl⟩
  have e : z7 p b = (⟨z12x p b p.thr.length, (newM p).1, []⟩, 0) := by unfold z7; rw [if_neg (by simp [h])]
  have hm := ztl (z7b h).1
  have h8 := hp.thr
  simp only [z27]
  refine ⟨kMnew' p hp, fun hn => absurd hm hn, fun _ => ⟨by omega, ⟨0, ⟨by omega, h⟩, rfl, rfl, rfl⟩, fun i hi => ⟨fun hlt => ⟨hlt, z10z p b i _ _ hp (by omega), fun hn => ?_, fun _ => ⟨by decide, by omega, zg (by omega) (by omega), i + 1, ⟨hlt, h⟩, by omega, by omega, rfl, rfl, fun j hj => ?_⟩⟩, fun hge => ?_⟩⟩⟩
  . rw [zfi hp h hlt] at hn; exact absurd rfl hn
  . have := zdt encT (AV.agg [.int .i64 0, .int .i64 0, .int .i64 0, .arr 8 fun _ => .int .i64 0, .int .i64 0, .int .i64 0, .int .i64 0, .int .i64 0, .int .i64 0, .nils]) c0t (z12x p b i) (newT p b i (p.thr.getD i c0s).fn (p.thr.getD i c0s).arg).1 j (by rw [z27]; exact hj)
    rw [z27] at this
    rw [zi8]; exact this
  . rw [e, show i = p.thr.length from by omega]
    exact ⟨⟨⟨(z27 _ _ _).symm, fun _ _ => rfl⟩, ⟨⟨rfl, fun _ _ => rfl⟩, ⟨rfl, fun _ _ => rfl⟩, ⟨rfl, fun _ _ => rfl⟩, rfl, fun _ _ => rfl⟩⟩, rfl⟩
theorem zto (p : PProg) (s : SState) (i : Nat) : (onL p s i).length <= s.thr.length := by
  unfold onL
  rw [List.length_map]
  exact Nat.le_trans (List.length_filter_le _ _) (by rw [List.length_take]; omega)
theorem zxe (p : PProg) (s : SState) {i : Nat} (hi : i < s.thr.length) : onL p s (i + 1) = onL p s i ++ (if onT p s (s.thr.getD i c0t) then [(s.thr.getD i c0t).id] else []) := by
  unfold onL
  rw [List.take_add_one, List.getElem?_eq_getElem hi, List.filter_append, List.map_append, List.getD_eq_getElem?_getD, List.getElem?_eq_getElem hi]
  congr 1
  simp only [Option.toList, Option.getD_some, List.filter_cons, List.filter_nil]
  split <;> rfl
section
variable (p:PProg) (s:SState) (x2:Nat)
def qbw:=x2<=s.thr.length/\valS p 32 s=true
def q119:=(onL p s x2).length=0
variable (x1:Nat)
def q11a:=AV.mc zd (encT (s.thr.getD (↑x1:Int).toNat c0t))
def q11b:=encI (zu (dP (encP p)) (dT (encT (s.thr.getD (↑x2:Int).toNat c0t))))
def q11c:=AV.mc zt (q11b p s x2)
def qik:=z3l (dP (encP p)) (dT (encT (s.thr.getD (↑x2:Int).toNat c0t)))
def qil:=qik p s x2=true
def qbx:=qil p s x2->qil p s x2
def q11d:=z4z (dSt (z15 s)) (dT (encT (s.thr.getD (↑x2:Int).toNat c0t))) (dIn (q11b p s x2))
def qby:Nat:=(onL p s x2).length + 1
end
section
variable (s:SState) (x1:Nat) (x2:Nat)
def q2y:=s.thr.length - x2 < s.thr.length - x1
end
section
variable (p:PProg) (s:SState) (x2:Nat) (x3:Nat)
def q11e:=qby p s x2=(onL p s x3).length
end
section
variable (s:SState) (x1:Nat) (x2:Nat)
def q8c:=qk s/\RI ↑s.thr.length/\(RR j6/\q8 x1=↑x2)/\True
def q2z:=RR (35:TypeId)/\q1n s
end
section
variable (p:PProg) (s:SState) (x2:Nat) (x3:Nat)
def q8d:=AV.int j6 ((onL p s x2).getD x3 0)
def q11f:=qik p s x2&&q11d p s x2
def q11g:=(onL p s x2).length=(onL p s x3).length
end
theorem z11r (p:PProg) (s:SState):zxd p s=(KN 176 [AV.mc za (encP p),AV.int j6 (32:Int),AV.mc stSh (z15 s)] (AV.bool (valS (dP (encP p)) (32:Int) (dSt (z15 s))))/\(q88 p s=true->(onS p s).length=0)/\(q88 p s=false->↑s.thr.length<=(9223372036854775807:Int)/\(∃ i,qbw p s i/\(RR (AV.ptr (2:Nat) [])/\RR (AV.ptr (3:Nat) [])/\(q119 p s i/\RR true/\RR true)/\qk s/\RI ↑s.thr.length/\(RR j6/\(0:Int)=↑i)/\True)/\((27:Nat)=(27:TypeId)/\qa p)/\((35:Nat)=(35:TypeId)/\q1n s)/\(q119 p s i/\RR true)/\True)/\∀ i:Nat,qbw p s i->(ql s i=true->inIx (↑i) s.thr.length/\KN 177 [AV.mc za (encP p),q11a s i] (AV.tup [q11c p s i,AV.bool (qik p s i)])/\qbx p s i/\qbx p s i/\qbx p s i/\(qil p s i->KN 178 [AV.mc stSh (z15 s),q11a s i,q11c p s i] (AV.bool (q11d p s i)))/\qbx p s i/\(q11f p s i=true->1 * leaf.size<=16777216/\(RR (onL p s i).length/\↑(qby p s i) * ↑(8:Nat)<=(140737488355328:Int)/\qby p s i<=9223372036854775807)/\1<=1/\q9 i/\(∃ j,qbw p s j/\q2y s i j/\(RR (AV.ptr (2:Nat) [])/\RR (AV.ptr (3:Nat) [])/\(RR (38:Nat)/\q11e p s i j)/\q8c s i j)/\qf p/\q2z s/\(RR (3:TypeId)/\RR leaf/\q11e p s i j/\∀ (i_1:Nat),i_1 < qby p s i->(if i_1 < (onL p s i).length then q8d p s i i_1 else ((List.replicate (1:Nat) (AV.int j6 (0:Int))).set (0:Nat) (strip1 (AV.int j6 (s.thr.getD (↑i:Int).toNat c0t).id))).getD (i_1 - (onL p s i).length) AV.any)=q8d p s j i_1)/\True))/\(q11f p s i=false->q9 i/\(∃ j,qbw p s j/\q2y s i j/\(RR (AV.ptr (2:Nat) [])/\RR (AV.ptr (3:Nat) [])/\(RR (38:Nat)/\q11g p s i j)/\q8c s i j)/\qf p/\q2z s/\(RR (3:TypeId)/\RR leaf/\q11g p s i j/\∀ (i_1:Nat),i_1 < (onL p s i).length->q8d p s i i_1=q8d p s j i_1)/\True)))/\(ql s i=false->(onL p s i).length<=(onL p s i).length/\RR leaf/\(onL p s i).length=(onS p s).length/\∀ (i_1:Nat),i_1 < (onL p s i).length->q8d p s i i_1=AV.int j6 ((onS p s).getD i_1 0)))):=by kernel_rfl
theorem z11s (p : PProg) (s : SState) (hp : PSm p) (hs : SSm s) : Known Tryz.prog GG 116 [vP p, vSt s] (rowI (onS p s))  := by
  refine Known.of (V := vMa 41 (zxc p s)) (fn := Tryz.f116) Tryz.func116 (by kernel_rfl) (zl _ _) rfl ?_
  show zxd p s
  rw [z11r]; try delta q88 qbw q119 qk qa q1n q11a q11b q11c qik qil qbx q11d qby q8 q9 q2y q11e q8c qf q2z q8d q11f q11g ql
  simp only [SB, inIx]
  simp only [dSt_enc' hs.r8]
  have eT : ∀ i, dT (encT (s.thr.getD i c0t)) = s.thr.getD i c0t := fun i => z2u _ (hs.ok i).regs
  simp only [eT]
  have h1 := hs.thr
  refine ⟨zi6 p 32 s hp hs, fun h => ?_, fun h => ⟨by omega, ⟨0, ⟨by omega, h⟩, ⟨rfl, rfl⟩, rfl⟩, fun i hi => ⟨fun hlt => ⟨hlt, zo7 p _ hp (hs.ok i), fun h2 => ?_, fun h2 => ?_, fun h2 => ?_⟩, fun hge => ?_⟩⟩⟩
  . unfold onS; rw [if_neg (by simp [h])]; rfl
  . obtain ⟨k1, k2⟩ := zds hp (hs.ok i) (z8f.1 h).1 h2
    exact z11o s _ _ hs (hs.ok i) (by rw [k2]; exact k1)
  . have hl := zto p s i
    have e : onL p s (i + 1) = onL p s i ++ [(s.thr.getD i c0t).id] := by rw [zxe p s hlt, if_pos (by unfold onT; rw [h2.1, h2.2]; rfl)]
    refine ⟨by decide, by omega, zg (by omega) (by omega), i + 1, ⟨hlt, h⟩, by omega, ?_, ?_⟩
    . rw [e]; exact ⟨by simp, by omega⟩
    . rw [e]; exact ⟨by simp, fun j hj => z79 _ _ j hj⟩
  . have e : onL p s (i + 1) = onL p s i := by
      rw [zxe p s hlt, if_neg (by unfold onT; rcases h2 with h2 | h2 <;> rw [h2] <;> simp), List.append_nil]
    refine ⟨zg (by omega) (by omega), i + 1, ⟨hlt, h⟩, by omega, ?_, ?_⟩
    . rw [e]; exact ⟨rfl, by omega⟩
    . rw [e]; exact ⟨rfl, fun _ _ => rfl⟩
  . have e : onL p s i = onS p s := by
      unfold onL onS; rw [if_pos h, List.take_of_length_le (by omega)]
    rw [e]; exact ⟨rfl, fun _ _ => rfl⟩
end
end
end Go.Proofs.S25
namespace Go.Proofs.S25
open Go Go.AV
open Go.IntKind renaming i64 -> j6
open Go.AV.Shape (leaf)
noncomputable section
def spRm : FuncId -> List AV -> Option AV
  | 39, [.mc _ p] => some (.tup [vM (newM (dP p)).1, .int .i64 (newM (dP p)).2])
  | 66, [.seq _ n f, .seq _ m g] => some (.bool (decide (z1b n f = z1b m g)))
  | 30, [.mc _ a, .mc _ b] => some (.bool (decide (dM a = dM b)))
  | 32, [.mc _ a, .mc _ b] => some (.bool (decide (dB a = dB b)))
  | 14, [.mc _ a, .mc _ b] => some (.bool (decide (dSt a = dSt b)))
  | 19, [.mc _ p, .int _ b] => some (.tup [vSt (z7 (dP p) b).1, .int .i64 (z7 (dP p) b).2])
  | f, l => spMa f l
noncomputable def vRm (n : Nat) (inv : Nat -> Option Inv) : VCtx := { C := cfgM n fun _ _ => false, CC := Known Tryz.prog GG, orc := fun _ _ => spRm, inv := inv }
def zxf (p : PProg) (k : Nat) : Option Inv := match Nat.beq k 6 with
  | true => some { ι := Nat, S := fun i => ⟨[(1, .ptr 1 []), (2, .ptr 2 []), (7, .ptr 7 []), (8, .int .i64 i)], [(1, z6j p), (2, zbg c0m), (7, .cell 32 zw (.agg [.own 37 (ini p i).length, .nils, .nils, .nils])), (37, iBox (ini p i))]⟩, μ := fun i => p.vars.length - i, ok := fun i => i <= p.vars.length /\ (zb p).1 = 0 }
  | false => match Nat.beq k 10 with
    | true => some { ι := Nat, S := fun i => ⟨[(1, .ptr 1 []), (2, .ptr 2 []), (7, .ptr 7 []), (9, .int .i64 i)], [(1, z6j p), (2, zbg c0m), (7, .cell 32 zw (.agg [.own 37 p.vars.length, .own 49 i, .nils, .nils])), (37, iBox (p.vars.map (·.init))), (49, iBox (List.replicate i (-1)))]⟩, μ := fun i => p.muts.length - i, ok := fun i => i <= p.muts.length /\ (zb p).1 = 0 }
    | false => match Nat.beq k 14 with
      | true => some { ι := Nat, S := fun i => ⟨[(1, .ptr 1 []), (2, .ptr 2 []), (7, .ptr 7 []), (10, .int .i64 i)], [(1, z6j p), (2, zbg c0m), (7, .cell 32 zw (.agg [.own 37 p.vars.length, .own 49 p.muts.length, .own 61 i, .nils])), (37, iBox (p.vars.map (·.init))), (49, iBox (List.replicate p.muts.length (-1))), (61, .row 29 .leaf i fun _ => .nils)]⟩, μ := fun i => p.conds.length - i, ok := fun i => i <= p.conds.length /\ (zb p).1 = 0 }
      | false => none
noncomputable def zqg (p : PProg) : Prop := fnVc (vRm 64 (zxf p)) Tryz.f39 [vP p] (.tup [zm9 (newM p).1 (newM p).1.queues.length, .int .i64 (newM p).2])
def zxg (a b : List Int) (k : Nat) : Option Inv := match Nat.beq k 4 with
  | true => some { ι := Nat, S := fun i => ⟨[(0, rowI a), (1, rowI b), (5, .int .i64 i)], []⟩, μ := fun i => a.length - i, ok := fun i => i <= a.length /\ a.length = b.length /\ ∀ j, j < i -> a.getD j 0 = b.getD j 0 }
  | false => none
noncomputable def zqh (a b : List Int) : Prop := fnVc (vRm 26 (zxg a b)) Tryz.f66 [rowI a, rowI b] (.bool (decide (a = b)))
def zxh (a b : Mem) (k : Nat) : Option Inv := match Nat.beq k 4 with
  | true => some { ι := Nat, S := fun i => ⟨[(2, .ptr 2 []), (3, .ptr 3 []), (5, .int .i64 i)], [(2, zbg a), (3, zbg b)]⟩, μ := fun i => a.queues.length - i, ok := fun i => i <= a.queues.length /\ a.vars = b.vars /\ a.owners = b.owners /\ a.sig = b.sig /\ a.queues.length = b.queues.length /\ ∀ j, j < i -> a.queues.getD j [] = b.queues.getD j [] }
  | false => none
noncomputable def zxi (a b : Mem) : Prop := fnVc (vRm 56 (zxh a b)) Tryz.f30 [vM a, vM b] (.bool (decide (a = b)))
abbrev zoh (b : Buf) : BoxC := .cell 68 zo (encB b)
def zxj (a b : Buf) (k : Nat) : Option Inv := match Nat.beq k 4 with
  | true => some { ι := Nat, S := fun i => ⟨[(2, .ptr 2 []), (3, .ptr 3 []), (5, .int .i64 i)], [(2, zoh a), (3, zoh b)]⟩, μ := fun i => a.entries.length - i, ok := fun i => i <= a.entries.length /\ a.thread = b.thread /\ a.first = b.first /\ a.entries.length = b.entries.length /\ ∀ j, j < i -> a.entries.getD j c0e = b.entries.getD j c0e }
  | false => none
noncomputable def zxk (a b : Buf) : Prop := fnVc (vRm 45 (zxj a b)) Tryz.f32 [vB a, vB b] (.bool (decide (a = b)))
def zxl (a b : SState) (k : Nat) : Option Inv := match Nat.beq k 4 with
  | true => some { ι := Nat, S := fun i => ⟨[(2, .ptr 2 []), (3, .ptr 3 []), (5, .int .i64 i)], [(2, z3z a), (3, z3z b)]⟩, μ := fun i => a.thr.length - i, ok := fun i => i <= a.thr.length /\ a.thr.length = b.thr.length /\ a.bufs.length = b.bufs.length /\ a.mem = b.mem /\ ∀ j, j < i -> a.thr.getD j c0t = b.thr.getD j c0t }
  | false => match Nat.beq k 9 with
    | true => some { ι := Nat, S := fun i => ⟨[(2, .ptr 2 []), (3, .ptr 3 []), (6, .int .i64 i)], [(2, z3z a), (3, z3z b)]⟩, μ := fun i => a.bufs.length - i, ok := fun i => i <= a.bufs.length /\ a.thr.length = b.thr.length /\ a.bufs.length = b.bufs.length /\ a.mem = b.mem /\ (∀ j, j < a.thr.length -> a.thr.getD j c0t = b.thr.getD j c0t) /\ ∀ j, j < i -> a.bufs.getD j c0b = b.bufs.getD j c0b }
    | false => none
noncomputable def zxm (a b : SState) : Prop := fnVc (vRm 69 (zxl a b)) Tryz.f14 [vSt a, vSt b] (.bool (decide (a = b)))
noncomputable def zqi (p : PProg) (b : Int) : Prop := fnVc (vRm 23 fun _ => none) Tryz.f38 [vP p, .int .i64 b] (.int .i64 (stdE p b))
def zqj (p : PProg) (b : Int) (k : Nat) : Option Inv := match Nat.beq k 7 with
  | true => some { ι := Nat, S := fun i => ⟨[(1, .int .i64 b), (2, .ptr 2 []), (4, .ptr 4 []), (9, .ptr 9 []), (10, .int .i64 i)], [(2, z6j p), (4, z3z c0st), (9, .cell 35 stSh (.agg [.own 57 (z12x p b i).length, encM (newM p).1, .nils])), (57, tBox (z12x p b i))]⟩, μ := fun i => p.thr.length - i, ok := fun i => i <= p.thr.length /\ stdE p b = 0 }
  | false => none
noncomputable def zmg (p : PProg) (b : Int) : Prop := fnVc (vRm 60 (zqj p b)) Tryz.f19 [vP p, .int .i64 b] (.tup [vSt (z7 p b).1, .int .i64 (z7 p b).2])
end
end Go.Proofs.S25
