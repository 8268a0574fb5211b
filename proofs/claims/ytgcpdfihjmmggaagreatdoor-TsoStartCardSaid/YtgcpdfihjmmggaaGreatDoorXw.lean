import Derived.Test.YtgcpdfihjmmggaaGreatDoorXv
namespace Go.Proofs.S25
open Go Go.AV
open Go.IntKind renaming i64 -> j6
open Go.AV.Shape (leaf)
noncomputable section
open Go.IntKind renaming i64 -> j6
open Go.AV.Shape (leaf)
noncomputable section

theorem d_no {α : Type} [DecidableEq α] {a b : α} (h : ¬a = b) : false = decide (a = b) := by symm; rw [decide_eq_false_iff_not]; exact h
theorem zmh {α : Type} [DecidableEq α] {a b : α} (h : a = b) : true = decide (a = b) := by symm; rw [decide_eq_true_eq]; exact h
section
variable (x0:Nat)
def qim:=RR (AV.ptr 1 [])/\RR (AV.ptr 2 [])/\RR (AV.ptr 7 [])/\(RR j6/\(0:Int)=↑x0)/\True
def q11h:=RR AV.nils/\RR AV.nils/\RR AV.nils/\True
variable (x1:Nat)
def qin:=RR (AV.ptr 1 [])/\RR (AV.ptr 2 [])/\RR (AV.ptr 7 [])/\(RR j6/\q8 x0=↑x1)/\True
def q11i:Int:=↑(qb x0)
def q11j:=qb x0<=9223372036854775807
variable (p:PProg)
def qio:=RR 37/\RR p.vars.length
def qip:=RR (3:TypeId)/\RW leaf (List.map (fun x=>x.init) p.vars).length fun i=>q3m p i
end
section
variable (p:PProg) (x1:Nat)
def qiq:=x1<=p.conds.length/\qbj p
def q11k:List Int:=List.replicate p.muts.length (-1)
def qir:Nat:=(q11k p).length
def qis:=AV.int j6 ((q11k p).getD x1 0)
def q11l:Nat:=p.conds.length - x1
def q11m:=decide ((↑x1:Int) < (↑p.conds.length:Int))
end
theorem zxn (p:PProg):zqg p=(KN 68 [AV.mc za (encP p)] (AV.tup [AV.int j6 (zb (dP (encP p))).fst,AV.int j6 (zb (dP (encP p))).snd.fst,AV.int j6 (zb (dP (encP p))).snd.snd])/\(qo p=true->(RR zw/\(newM p).fst.vars.length=0/\(newM p).fst.owners.length=0/\(newM p).fst.queues.length=0/\RR AV.nils/\True)/\(RR j6/\(zb (dP (encP p))).fst=(newM p).snd)/\True)/\(qo p=false->(∃ (i:Nat),q3j p i/\qim i/\((27:Nat)=(27:TypeId)/\qa p)/\((32:Nat)=(32:TypeId)/\RR zw/\(0:Nat)=(0:Nat)/\(0:Nat)=(0:Nat)/\(0:Nat)=(0:Nat)/\(0:Nat)=(0:Nat)/\True)/\((32:Nat)=(32:TypeId)/\RR zw/\(List.length (ini p i)=(0:Nat)/\RR true/\RR true)/\q11h)/\(List.length (ini p i)=(0:Nat)/\RR true)/\True)/\∀ i:Nat,q3j p i->↑p.vars.length<=(9223372036854775807:Int)/\(qm p i=true->inIx (↑i) p.vars.length/\qy/\(RR (ini p i).length/\↑(q2t p i) * ↑(8:Nat)<=(140737488355328:Int)/\q2t p i<=9223372036854775807)/\qq/\q9 i/\(∃ j,q3j p j/\p.vars.length - j < p.vars.length - i/\qin i j/\qf p/\q24/\(RR (32:TypeId)/\RR zw/\(RR (37:Nat)/\q80 p i j)/\q11h)/\(RR (3:TypeId)/\RR leaf/\q80 p i j/\∀ (i_1:Nat),i_1 < q2t p i->(if i_1 < (ini p i).length then q3k p i i_1 else (q2u.set (0:Nat) (strip1 (AV.int j6 (p.vars.getD (↑i:Int).toNat c0v).init))).getD (i_1 - (ini p i).length) AV.any)=q3k p j i_1)/\True))/\(qm p i=false->(∃ i_1,q3l p i_1/\qim i_1/\qf p/\q24/\(RR (32:TypeId)/\RR zw/\(RR (37:Nat)/\(ini p i).length=p.vars.length)/\q63 i_1/\RR AV.nils/\RR AV.nils/\True)/\(RR (3:TypeId)/\RR leaf/\(ini p i).length=(List.map (fun x=>x.init) p.vars).length/\∀ (i_2:Nat),i_2 < (ini p i).length->q3k p i i_2=q3m p i_2)/\(q1m i_1=(0:Nat)/\RR true)/\True)/\∀ (i:Nat),q3l p i->↑p.muts.length<=(9223372036854775807:Int)/\(q82 p i=true->qy/\(i=q1m i/\q11i i * ↑(8:Nat)<=(140737488355328:Int)/\q11j i)/\qq/\q9 i/\∃ j,q3l p j/\q81 p j < q81 p i/\qin i j/\qf p/\q24/\(RR (32:TypeId)/\RR zw/\qio p/\(RR (49:Nat)/\qi i j)/\RR AV.nils/\RR AV.nils/\True)/\qip p/\(RR (3:TypeId)/\RR leaf/\qb i=q1m j/\∀ (i_1:Nat),q2d i i_1->(if i_1 < i then q3n i i_1 else (q2u.set (0:Nat) (strip1 (AV.int j6 (-1:Int)))).getD (i_1 - i) AV.any)=q3n j i_1)/\True)/\(q82 p i=false->(∃ i_1,qiq p i_1/\qim i_1/\qf p/\q24/\(RR (32:TypeId)/\RR zw/\qio p/\(RR (49:Nat)/\i=p.muts.length)/\q63 i_1/\RR AV.nils/\True)/\qip p/\(RR (3:TypeId)/\RR leaf/\q1m i=qir p/\∀ (i_2:Nat),i_2 < q1m i->q3n i i_2=qis p i_2)/\(i_1=(0:Nat)/\RR true)/\True)/\∀ (i:Nat),qiq p i->↑p.conds.length<=(9223372036854775807:Int)/\(q11m p i=true->qy/\(RR i/\q11i i * ↑(24:Nat)<=(140737488355328:Int)/\q11j i)/\qq/\q9 i/\∃ j,qiq p j/\q11l p j < q11l p i/\qin i j/\qf p/\q24/\(RR (32:TypeId)/\RR zw/\qio p/\(RR (49:Nat)/\RR p.muts.length)/\(RR (61:Nat)/\qi i j)/\RR AV.nils/\True)/\qip p/\(RR (3:TypeId)/\RW leaf (qir p) fun i=>qis p i)/\(RR (29:TypeId)/\RR leaf/\qi i j/\∀ (i_1:Nat),q2d i i_1->(if i_1 < i then AV.nils else ((List.replicate (1:Nat) AV.nils).set (0:Nat) (strip1 AV.nils)).getD (i_1 - i) AV.any)=AV.nils)/\True)/\(q11m p i=false->p.vars.length<=(List.map (fun x=>x.init) p.vars).length/\p.muts.length<=qir p/\i<=i/\(RR zw/\(RR leaf/\p.vars.length=(newM p).fst.vars.length/\∀ (i:Nat),i < p.vars.length->q3m p i=AV.int j6 ((newM p).fst.vars.getD i (0:Int)))/\(RR leaf/\p.muts.length=(newM p).fst.owners.length/\∀ (i:Nat),i < p.muts.length->qis p i=AV.int j6 ((newM p).fst.owners.getD i (0:Int)))/\(RR leaf/\i=(newM p).fst.queues.length/\∀ (i_1:Nat),i_1 < i->RR AV.nils)/\RR AV.nils/\True)/\(RR j6/\(0:Int)=(newM p).snd)/\True))))):=by kernel_rfl
theorem zxo (p : PProg) (hp : PSm p) : Known Tryz.prog GG 39 [vP p] (.tup [zm9 (newM p).1 (newM p).1.queues.length, .int .i64 (newM p).2])  := by
  refine Known.of (V := vRm 64 (zxf p)) (fn := Tryz.f39) Tryz.func39 (by kernel_rfl) (zl _ _) rfl ?_
  show zqg p
  rw [zxn]; try delta qo qbj q3j qim qa q11h qy q2t qq q8 q9 qin qf qe q24 q80 q3k q2u qm q3l q63 q3m q1m qb q11i q11j q81 qio qi qip q3n q2d q82 qiq q11k qir qis q11l q11m
  simp only [SB, inIx]
  have h4 := hp.vars
  have h5 := hp.muts
  have h6 := hp.conds
  refine ⟨zsc p hp, fun h => ?_, fun h => ⟨⟨0, ⟨by omega, h⟩, rfl, rfl, rfl⟩, fun i hi => ?_⟩⟩
  . have e : newM p = (c0m, (zb p).1) := by unfold newM; rw [if_pos h]
    rw [e]; exact ⟨⟨rfl, rfl, rfl⟩, rfl⟩
  have e : newM p = (⟨p.vars.map (·.init), List.replicate p.muts.length (-1), List.replicate p.conds.length [], []⟩, 0) := by unfold newM; rw [if_neg (by simp [h])]
  rw [e]
  have hil := zma p i hi.1
  refine ⟨by omega, fun hlt => ⟨hlt, by decide, ⟨by omega, by omega⟩, zg (by omega) (by omega), i + 1, ⟨hlt, h⟩, by omega, by omega, ?_⟩, fun hge => ⟨⟨0, ⟨by omega, h⟩, rfl, ⟨by omega, rfl⟩, ?_, rfl⟩, fun k hk => ⟨by omega, fun hlt => ⟨by decide, ⟨by simp, by omega, by omega⟩, zg (by omega) (by omega), k + 1, ⟨hlt, h⟩, by omega, by omega, rfl, ?_⟩, fun hge => ⟨⟨0, ⟨by omega, h⟩, rfl, ⟨by omega, rfl⟩, ?_, rfl⟩, fun q hq => ⟨by omega, fun hlt => ⟨by decide, ⟨by omega, by omega⟩, zg (by omega) (by omega), q + 1, ⟨hlt, h⟩, by omega, by omega, rfl, rfl, fun j hj => ?_⟩, fun hge => ⟨by simp, by simp, ⟨⟨by simp, fun _ _ => rfl⟩, ⟨by simp, fun _ _ => rfl⟩, by simp; omega⟩, rfl⟩⟩⟩⟩⟩⟩
  . rw [zwy p i hlt]
    exact ⟨by simp, by simp, fun j hj => z79 _ _ j hj⟩
  . have e2 : ini p i = p.vars.map (·.init) := by unfold ini; rw [List.take_of_length_le (by omega)]
    rw [e2]; exact ⟨rfl, fun _ _ => rfl⟩
  . refine ⟨by simp, fun j hj => ?_⟩
    have := z79 (List.replicate k (-1)) (-1) j (by simpa using hj)
    rw [List.length_replicate] at this
    rw [this, <- List.replicate_succ']
  . have e2 : k = p.muts.length := by omega
    rw [e2]; exact ⟨rfl, fun _ _ => rfl⟩
  . split
    . rfl
    . rw [show j - q = 0 from by omega]; rfl
section
variable (a:List Int)
def q8e:=↑a.length<=(9223372036854775807:Int)
variable (b:List Int)
def q8f:=false=decide (a=b)
def q8g:=(↑a.length:Int) != (↑b.length:Int)
variable (x2:Nat)
def q3w:=x2<=a.length/\a.length=b.length/\∀ j:Nat,j < x2->a.getD j 0=b.getD j 0
def q8h:=RW leaf a.length fun i=>AV.int j6 (a.getD i 0)
def q8i:=RW leaf b.length fun i=>AV.int j6 (b.getD i 0)
def q8j:=a.getD (↑x2:Int).toNat 0 != b.getD (↑x2:Int).toNat 0
variable (x1:Nat)
def q8k:=decide ((↑x1:Int) < (↑a.length:Int))
end
theorem zxp (a b:List Int):zqh a b=(q8e a/\↑b.length<=(9223372036854775807:Int)/\(q8g a b=true->q8f a b)/\(q8g a b=false->(∃ i,q3w a b i/\(q8h a/\q8i b/\(RR j6/\(0:Int)=↑i)/\True)/\True)/\∀ i:Nat,q3w a b i->q8e a/\(q8k a i=true->inIx (↑i) a.length/\inIx (↑i) b.length/\(q8j a b i=true->q8f a b)/\(q8j a b i=false->InR j6 (q8 i)/\(∃ j,q3w a b j/\a.length - j < a.length - i/\(q8h a/\q8i b/\(RR j6/\q8 i=↑j)/\True)/\True)))/\(q8k a i=false->true=decide (a=b)))):=by kernel_rfl
theorem zi9 (a b : List Int) (ha : a.length <= 1000000) (hb : b.length <= 1000000) : Known Tryz.prog GG 66 [rowI a, rowI b] (.bool (decide (a = b)))  := by
  refine Known.of (V := vRm 26 (zxg a b)) (fn := Tryz.f66) Tryz.func66 (by kernel_rfl) (zl _ _) rfl ?_
  show zqh a b
  rw [zxp]; try delta q8e q8f q8g q3w q8h q8i q8j q8 q8k
  simp only [SB, inIx]
  refine ⟨by omega, by omega, fun h => ?_, fun h => ⟨⟨0, ⟨by omega, by omega, fun j hj => by omega⟩, rfl⟩, fun i hi => ⟨by omega, fun hlt => ⟨hlt, by omega, fun hn => ?_, fun he => ⟨zg (by omega) (by omega), i + 1, ⟨by omega, hi.2.1, fun j hj => ?_⟩, by omega, by omega⟩⟩, fun hge => ?_⟩⟩⟩
  . exact d_no (by rintro rfl; exact h rfl)
  . exact d_no (by rintro rfl; exact hn rfl)
  . by_cases e : j = i
    . subst e; exact he
    . exact hi.2.2 j (by omega)
  . exact zmh (z2q hi.2.1 fun j hj => hi.2.2 j (by omega))
theorem ztp {a b : Mem} (h1 : a.vars = b.vars) (h2 : a.owners = b.owners) (h3 : a.sig = b.sig) (h4 : a.queues = b.queues) : a = b := by
  cases a; cases b; simp only at h1 h2 h3 h4; subst h1 h2 h3 h4; rfl
section
variable (a:Mem) (b:Mem)
def q11n:=decide ((z1b a.vars.length fun i=>AV.int j6 (a.vars.getD i 0))=z1b b.vars.length fun i=>AV.int j6 (b.vars.getD i 0))
def q11o:=!q11n a b
def qit:=(!q11o a b)=true
def q58:=qit a b->qit a b
def q11p:=decide ((z1b a.owners.length fun i=>AV.int j6 (a.owners.getD i 0))=z1b b.owners.length fun i=>AV.int j6 (b.owners.getD i 0))
def q11q:=q11o a b||!q11p a b
def qiu:=(!q11q a b)=true
def q59:=qiu a b->qiu a b
def q11r:=decide ((z1b a.sig.length fun i=>AV.int j6 (a.sig.getD i 0))=z1b b.sig.length fun i=>AV.int j6 (b.sig.getD i 0))
def q11s:=q11q a b||!q11r a b
def qbz:=(!q11s a b)=true
def q3x:=qbz a b->qbz a b
def q11t:=↑a.queues.length<=(9223372036854775807:Int)
def q11u:=q11s a b||(↑a.queues.length:Int) != (↑b.queues.length:Int)
variable (x2:Nat)
def qiv:=x2<=a.queues.length/\a.vars=b.vars/\a.owners=b.owners/\a.sig=b.sig/\a.queues.length=b.queues.length/\∀ j:Nat,j < x2->a.queues.getD j []=b.queues.getD j []
def q11v:=RR zw/\(RW leaf a.vars.length fun i=>AV.int j6 (a.vars.getD i 0))/\(RW leaf a.owners.length fun i=>AV.int j6 (a.owners.getD i 0))/\(RW leaf a.queues.length fun i=>rowI (a.queues.getD i []))/\(RW leaf a.sig.length fun i=>AV.int j6 (a.sig.getD i 0))/\True
def q11w:=RR zw/\(RW leaf b.vars.length fun i=>AV.int j6 (b.vars.getD i 0))/\(RW leaf b.owners.length fun i=>AV.int j6 (b.owners.getD i 0))/\(RW leaf b.queues.length fun i=>rowI (b.queues.getD i []))/\(RW leaf b.sig.length fun i=>AV.int j6 (b.sig.getD i 0))/\True
def q11x:=decide ((z1b (a.queues.getD (↑x2:Int).toNat []).length fun i=>AV.int j6 ((a.queues.getD (↑x2:Int).toNat []).getD i 0))=z1b (b.queues.getD (↑x2:Int).toNat []).length fun i=>AV.int j6 ((b.queues.getD (↑x2:Int).toNat []).getD i 0))
def q11y:=!q11x a b x2
variable (x1:Nat)
def q11z:Nat:=a.queues.length - x1
def q120:=decide ((↑x1:Int) < (↑a.queues.length:Int))
end
theorem z11t (a b:Mem):zxi a b=(KN 66 [rowI a.vars,rowI b.vars] (AV.bool (q11n a b))/\q58 a b/\q58 a b/\q58 a b/\q58 a b/\(qit a b->KN 66 [rowI a.owners,rowI b.owners] (AV.bool (q11p a b)))/\q58 a b/\q58 a b/\q59 a b/\q59 a b/\q59 a b/\q59 a b/\(qiu a b->KN 66 [rowI a.sig,rowI b.sig] (AV.bool (q11r a b)))/\q59 a b/\q59 a b/\q3x a b/\q3x a b/\(qbz a b->q11t a)/\q3x a b/\q3x a b/\(qbz a b->↑b.queues.length<=(9223372036854775807:Int))/\q3x a b/\q3x a b/\q3x a b/\(q11u a b=true->false=decide (a=b))/\(q11u a b=false->(∃ i,qiv a b i/\(RR (AV.ptr (2:Nat) [])/\RR (AV.ptr (3:Nat) [])/\(RR j6/\(0:Int)=↑i)/\True)/\((32:Nat)=(32:TypeId)/\q11v a)/\((32:Nat)=(32:TypeId)/\q11w b)/\True)/\∀ i:Nat,qiv a b i->q11t a/\(q120 a i=true->inIx (↑i) a.queues.length/\inIx (↑i) b.queues.length/\KN 66 [rowI (a.queues.getD (↑i:Int).toNat []),rowI (b.queues.getD (↑i:Int).toNat [])] (AV.bool (q11x a b i))/\(q11y a b i=true->false=decide (a=b))/\(q11y a b i=false->InR j6 (q8 i)/\(∃ j,qiv a b j/\q11z a j < q11z a i/\(RR (AV.ptr (2:Nat) [])/\RR (AV.ptr (3:Nat) [])/\(RR j6/\q8 i=↑j)/\True)/\(RR (32:TypeId)/\q11v a)/\(RR (32:TypeId)/\q11w b)/\True)))/\(q120 a i=false->true=decide (a=b)))):=by kernel_rfl
theorem z11u (a b : Mem) (ha : MSm a) (hb : MSm b) : Known Tryz.prog GG 30 [vM a, vM b] (.bool (decide (a = b)))  := by
  refine Known.of (V := vRm 56 (zxh a b)) (fn := Tryz.f30) Tryz.func30 (by kernel_rfl) (zl _ _) rfl ?_
  show zxi a b
  rw [z11t]; try delta q11n q11o qit q58 q11p q11q qiu q59 q11r q11s qbz q3x q11t q11u qiv q11v q11w q11x q11y q8 q11z q120
  simp only [SB, inIx]
  simp only [oR]
  have a3 := ha.queues
  have b3 := hb.queues
  refine ⟨zi9 _ _ ha.vars hb.vars, fun _ => zi9 _ _ ha.owners hb.owners, fun _ => zi9 _ _ ha.sig hb.sig, fun _ => by omega, fun _ => by omega, fun h => ?_, fun h => ⟨⟨0, ⟨by omega, h.1.1.1, h.1.1.2, h.1.2, by omega, fun j hj => by omega⟩, rfl⟩, fun i hi => ⟨by omega, fun hlt => ⟨hlt, by omega, zi9 _ _ (ha.q i) (hb.q i), fun hn => ?_, fun he => ⟨zg (by omega) (by omega), i + 1, ⟨by omega, hi.2.1, hi.2.2.1, hi.2.2.2.1, hi.2.2.2.2.1, fun j hj => ?_⟩, by omega, by omega⟩⟩, fun hge => ?_⟩⟩⟩
  . exact d_no (by rintro rfl; simp at h)
  . exact d_no (by rintro rfl; exact hn rfl)
  . by_cases e : j = i
    . subst e; exact he
    . exact hi.2.2.2.2.2 j (by omega)
  . exact zmh (ztp hi.2.1 hi.2.2.1 hi.2.2.2.1 (z2q hi.2.2.2.2.1 fun j hj => hi.2.2.2.2.2 j (by omega)))
theorem ztq {a b : BEnt} (h1 : a.var = b.var) (h2 : a.val = b.val) : a = b := by
  cases a; cases b; simp only at h1 h2; subst h1 h2; rfl
theorem ztr {a b : Buf} (h1 : a.thread = b.thread) (h2 : a.first = b.first) (h3 : a.entries = b.entries) : a = b := by
  cases a; cases b; simp only at h1 h2 h3; subst h1 h2 h3; rfl
section
variable (a:Buf) (b:Buf)
def q121:=(!a.thread != b.thread)=true
def q8l:=q121 a b->q121 a b
def q122:=a.thread != b.thread||a.first != b.first
def qc0:=(!q122 a b)=true
def q3y:=qc0 a b->qc0 a b
def q123:=↑a.entries.length<=(9223372036854775807:Int)
def q124:=q122 a b||(↑a.entries.length:Int) != (↑b.entries.length:Int)
variable (x2:Nat)
def qiw:=x2<=a.entries.length/\a.thread=b.thread/\a.first=b.first/\a.entries.length=b.entries.length/\∀ j:Nat,j < x2->a.entries.getD j c0e=b.entries.getD j c0e
def q125:=RR zo/\RI a.thread/\RI a.first/\(RW ze a.entries.length fun i=>encE (a.entries.getD i c0e))/\True
def q8m:=RR zo/\RI b.thread/\RI b.first/\(RW ze b.entries.length fun i=>encE (b.entries.getD i c0e))/\True
def q126:=!((a.entries.getD (↑x2:Int).toNat c0e).var == (b.entries.getD (↑x2:Int).toNat c0e).var&&((a.entries.getD (↑x2:Int).toNat c0e).val == (b.entries.getD (↑x2:Int).toNat c0e).val&&true))
variable (x1:Nat)
def q127:=decide ((↑x1:Int) < (↑a.entries.length:Int))
end
theorem z11v (a b:Buf):zxk a b=(q8l a b/\q8l a b/\q8l a b/\q8l a b/\q8l a b/\q3y a b/\q3y a b/\(qc0 a b->q123 a)/\q3y a b/\q3y a b/\(qc0 a b->↑b.entries.length<=(9223372036854775807:Int))/\q3y a b/\q3y a b/\q3y a b/\(q124 a b=true->false=decide (a=b))/\(q124 a b=false->(∃ i,qiw a b i/\(RR (AV.ptr (2:Nat) [])/\RR (AV.ptr (3:Nat) [])/\(RR j6/\(0:Int)=↑i)/\True)/\((68:Nat)=(68:TypeId)/\q125 a)/\((68:Nat)=(68:TypeId)/\q8m b)/\True)/\∀ i:Nat,qiw a b i->q123 a/\(q127 a i=true->inIx (↑i) a.entries.length/\inIx (↑i) b.entries.length/\(q126 a b i=true->false=decide (a=b))/\(q126 a b i=false->InR j6 (q8 i)/\(∃ j,qiw a b j/\a.entries.length - j < a.entries.length - i/\(RR (AV.ptr (2:Nat) [])/\RR (AV.ptr (3:Nat) [])/\(RR j6/\q8 i=↑j)/\True)/\(RR (68:TypeId)/\q125 a)/\(RR (68:TypeId)/\q8m b)/\True)))/\(q127 a i=false->true=decide (a=b)))):=by kernel_rfl
theorem z11w (a b : Buf) (ha : a.entries.length <= 1000000) (hb : b.entries.length <= 1000000) : Known Tryz.prog GG 32 [vB a, vB b] (.bool (decide (a = b)))  := by
  refine Known.of (V := vRm 45 (zxj a b)) (fn := Tryz.f32) Tryz.func32 (by kernel_rfl) (zl _ _) rfl ?_
  show zxk a b
  rw [z11v]; try delta q121 q8l q122 qc0 q3y q123 q124 qiw q125 q8m q126 q8 q127
  simp only [SB, inIx, reduceCtorEq]
  refine ⟨fun _ => by omega, fun _ => by omega, fun h => ?_, fun h => ⟨⟨0, ⟨by omega, h.1.1, h.1.2, by omega, fun j hj => by omega⟩, rfl⟩, fun i hi => ⟨by omega, fun hlt => ⟨hlt, by omega, fun hn => ?_, fun he => ⟨zg (by omega) (by omega), i + 1, ⟨by omega, hi.2.1, hi.2.2.1, hi.2.2.2.1, fun j hj => ?_⟩, by omega, by omega⟩⟩, fun hge => ?_⟩⟩⟩
  . exact d_no (by rintro rfl; simp at h)
  . exact d_no (by rintro rfl; simp at hn)
  . by_cases e : j = i
    . subst e; exact ztq he.1 he.2
    . exact hi.2.2.2.2 j (by omega)
  . exact zmh (ztr hi.2.1 hi.2.2.1 (z2q hi.2.2.2.1 fun j hj => hi.2.2.2.2 j (by omega)))
theorem zxq {a b : SState} (h1 : a.thr = b.thr) (h2 : a.mem = b.mem) (h3 : a.bufs = b.bufs) : a = b := by
  cases a; cases b; simp only at h1 h2 h3; subst h1 h2 h3; rfl
section
variable (a:SState)
def q128:=↑a.thr.length<=(9223372036854775807:Int)
variable (b:SState)
def q129:=(↑a.thr.length:Int) != (↑b.thr.length:Int)
def qc1:=(!q129 a b)=true
def q3z:=qc1 a b->qc1 a b
def q12a:=↑a.bufs.length<=(9223372036854775807:Int)
def q12b:=q129 a b||(↑a.bufs.length:Int) != (↑b.bufs.length:Int)
def qix:=(!q12b a b)=true
def q5a:=qix a b->qix a b
def q12c:=decide (dM (encM a.mem)=dM (encM b.mem))
def q12d:=q12b a b||!q12c a b
variable (x2:Nat)
def q12e:=a.thr.getD x2 c0t=b.thr.getD x2 c0t
def qiy:=x2<=a.thr.length/\a.thr.length=b.thr.length/\a.bufs.length=b.bufs.length/\a.mem=b.mem/\∀ j:Nat,j < x2->q12e a b j
variable (x0:Nat)
def q12f:=RR (AV.ptr 2 [])/\RR (AV.ptr 3 [])/\(RR j6/\(0:Int)=↑x0)/\True
def q12g:=RR stSh/\(RW zd a.thr.length fun i=>encT (a.thr.getD i c0t))/\((RW leaf a.mem.vars.length fun i=>AV.int j6 (a.mem.vars.getD i 0))/\(RW leaf a.mem.owners.length fun i=>AV.int j6 (a.mem.owners.getD i 0))/\(RW leaf a.mem.queues.length fun i=>rowI (a.mem.queues.getD i []))/\(RW leaf a.mem.sig.length fun i=>AV.int j6 (a.mem.sig.getD i 0))/\True)/\(RW zo a.bufs.length fun i=>encB (a.bufs.getD i c0b))/\True
def q12h:=RR stSh/\(RW zd b.thr.length fun i=>encT (b.thr.getD i c0t))/\((RW leaf b.mem.vars.length fun i=>AV.int j6 (b.mem.vars.getD i 0))/\(RW leaf b.mem.owners.length fun i=>AV.int j6 (b.mem.owners.getD i 0))/\(RW leaf b.mem.queues.length fun i=>rowI (b.mem.queues.getD i []))/\(RW leaf b.mem.sig.length fun i=>AV.int j6 (b.mem.sig.getD i 0))/\True)/\(RW zo b.bufs.length fun i=>encB (b.bufs.getD i c0b))/\True
def q12i:=dT (encT (a.thr.getD (↑x2:Int).toNat c0t)) == dT (encT (b.thr.getD (↑x2:Int).toNat c0t))
def q12j:=!q12i a b x2
def q12k:=(RR (35:TypeId)/\q12g a)/\(RR (35:TypeId)/\q12h b)/\True
variable (x3:Nat)
def q12l:=(RR (AV.ptr 2 [])/\RR (AV.ptr 3 [])/\(RR j6/\q8 x2=↑x3)/\True)/\q12k a b
variable (x1:Nat)
def q12m:=decide ((↑x1:Int) < (↑a.thr.length:Int))
def qiz:=x2<=a.bufs.length/\a.thr.length=b.thr.length/\a.bufs.length=b.bufs.length/\a.mem=b.mem/\(∀ j:Nat,j < a.thr.length->q12e a b j)/\∀ j:Nat,j < x2->a.bufs.getD j c0b=b.bufs.getD j c0b
def q12n:=decide (dB (encB (a.bufs.getD (↑x2:Int).toNat c0b))=dB (encB (b.bufs.getD (↑x2:Int).toNat c0b)))
def q12o:=!q12n a b x2
def q12p:=decide ((↑x1:Int) < (↑a.bufs.length:Int))
end
theorem z11x (a b:SState):zxm a b=(q128 a/\↑b.thr.length<=(9223372036854775807:Int)/\q3z a b/\q3z a b/\(qc1 a b->q12a a)/\q3z a b/\q3z a b/\(qc1 a b->↑b.bufs.length<=(9223372036854775807:Int))/\q3z a b/\q3z a b/\q3z a b/\q5a a b/\q5a a b/\q5a a b/\q5a a b/\(qix a b->KN 30 [AV.mc zw (encM a.mem),AV.mc zw (encM b.mem)] (AV.bool (q12c a b)))/\q5a a b/\q5a a b/\(q12d a b=true->false=decide (a=b))/\(q12d a b=false->(∃ i,qiy a b i/\q12f i/\((35:Nat)=(35:TypeId)/\q12g a)/\((35:Nat)=(35:TypeId)/\q12h b)/\True)/\∀ i:Nat,qiy a b i->q128 a/\(q12m a i=true->inIx (↑i) a.thr.length/\inIx (↑i) b.thr.length/\KN 31 [AV.mc zd (encT (a.thr.getD (↑i:Int).toNat c0t)),AV.mc zd (encT (b.thr.getD (↑i:Int).toNat c0t))] (AV.bool (q12i a b i))/\(q12j a b i=true->false=decide (a=b))/\(q12j a b i=false->q9 i/\(∃ j,qiy a b j/\a.thr.length - j < a.thr.length - i/\q12l a b i j)))/\(q12m a i=false->(∃ i,qiz a b i/\q12f i/\q12k a b)/\∀ (i:Nat),qiz a b i->q12a a/\(q12p a i=true->inIx (↑i:Int) a.bufs.length/\inIx (↑i:Int) b.bufs.length/\KN 32 [AV.mc zo (encB (a.bufs.getD (↑i:Int).toNat c0b)),AV.mc zo (encB (b.bufs.getD (↑i:Int).toNat c0b))] (AV.bool (q12n a b i))/\(q12o a b i=true->false=decide (a=b))/\(q12o a b i=false->q9 i/\∃ j,qiz a b j/\a.bufs.length - j < a.bufs.length - i/\q12l a b i j))/\(q12p a i=false->true=decide (a=b))))):=by kernel_rfl
theorem z11y (a b : SState) (ha : SSm a) (hb : SSm b) : Known Tryz.prog GG 14 [vSt a, vSt b] (.bool (decide (a = b)))  := by
  refine Known.of (V := vRm 69 (zxl a b)) (fn := Tryz.f14) Tryz.func14 (by kernel_rfl) (zl _ _) rfl ?_
  show zxm a b
  rw [z11x]; try delta q128 q129 qc1 q3z q12a q12b qix q5a q12c q12d q12e qiy q12f q12g q12h q12i q12j q8 q9 q12k q12l q12m qiz q12n q12o q12p
  simp only [SB, inIx]
  have a1 := ha.thr
  have b1 := hb.thr
  have a2 := ha.bufs
  have b2 := hb.bufs
  have eA : ∀ i, dT (encT (a.thr.getD i c0t)) = a.thr.getD i c0t := fun i => z2u _ (ha.ok i).regs
  have eB : ∀ i, dT (encT (b.thr.getD i c0t)) = b.thr.getD i c0t := fun i => z2u _ (hb.ok i).regs
  simp only [eA, eB]
  refine ⟨by omega, by omega, fun _ => by omega, fun _ => by omega, fun _ => z11u _ _ ha.mem hb.mem, fun h => ?_, fun h => ⟨⟨0, ⟨by omega, by omega, by omega, h.2, fun j hj => by omega⟩, rfl⟩, fun i hi => ⟨by omega, fun hlt => ⟨hlt, by omega, zwo _ _ (ha.ok i) (hb.ok i), fun hn => ?_, fun he => ⟨zg (by omega) (by omega), i + 1, ⟨by omega, hi.2.1, hi.2.2.1, hi.2.2.2.1, fun j hj => ?_⟩, by omega, by omega⟩⟩, fun hge => ⟨⟨0, ⟨by omega, by omega, by omega, h.2, fun j hj => hi.2.2.2.2 j (by omega), fun j hj => by omega⟩, rfl⟩, fun k hk => ⟨by omega, fun hlt => ⟨hlt, by omega, z11w _ _ (ha.ents k) (hb.ents k), fun hn => ?_, fun he => ⟨zg (by omega) (by omega), k + 1, ⟨by omega, hk.2.1, hk.2.2.1, hk.2.2.2.1, hk.2.2.2.2.1, fun j hj => ?_⟩, by omega, by omega⟩⟩, fun hge2 => ?_⟩⟩⟩⟩⟩
  . exact d_no (by rintro rfl; simp at h)
  . exact d_no (by rintro rfl; exact hn rfl)
  . by_cases e : j = i
    . subst e; exact he
    . exact hi.2.2.2.2 j (by omega)
  . exact d_no (by rintro rfl; exact hn rfl)
  . by_cases e : j = k
    . subst e; exact he
    . exact hk.2.2.2.2.2 j (by omega)
  . exact zmh (zxq (z2q hk.2.1 hk.2.2.2.2.1) hk.2.2.2.1 (z2q hk.2.2.1 fun j hj => hk.2.2.2.2.2 j (by omega)))
theorem zxr (p:PProg) (b:Int):zqi p b=(KN 68 [AV.mc za (encP p)] (AV.tup [AV.int j6 (zb (dP (encP p))).fst,AV.int j6 (zb (dP (encP p))).snd.fst,AV.int j6 (zb (dP (encP p))).snd.snd])/\(qo p=true->RR j6/\(zb (dP (encP p))).fst=stdE p b)/\(qo p=false->qt b/\qt b/\(qu b=true->RR j6/\2=stdE p b)/\(qu b=false->RR j6/\0=stdE p b))):=by kernel_rfl
theorem zxs (p : PProg) (b : Int) (hp : PSm p) : Known Tryz.prog GG 38 [vP p, .int .i64 b] (.int .i64 (stdE p b))  := by
  refine Known.of (V := vRm 23 fun _ => none) (fn := Tryz.f38) Tryz.func38 (by kernel_rfl) (zl _ _) rfl ?_
  show zqi p b
  rw [zxr]; try delta qo q4t q4u qt qu
  simp only [SB]
  unfold stdE
  refine ⟨zsc p hp, fun h => ?_, fun h => ⟨fun h2 => ?_, fun h2 => ?_⟩⟩
  . rw [if_pos (by simpa using h)]
  . rw [if_neg (by simp [h]), if_pos h2]
  . rw [if_neg (by simp [h]), if_neg (by omega)]
theorem kRmnew' (p : PProg) (hp : PSm p) : Known Tryz.prog GG 39 [vP p] (.tup [vM (newM p).1, .int .i64 (newM p).2]) := by
  refine (zxo p hp).imp fun w F v h => RepR.of_tup (r := [_, _]) (r' := [_, _]) (by rfl) (fun j hj u hu => ?_) h
  match j, hj with
  | 0, _ => exact zi4 p hu
  | 1, _ => exact hu
section
variable (p:PProg) (b:Int)
def q12q:=(z7 p b).fst.bufs.length=0/\True
end
theorem zts (p:PProg) (b:Int):zmg p b=(KN 38 [AV.mc za (encP p),AV.int j6 b] (AV.int j6 (stdE (dP (encP p)) b))/\(qv p b=true->(RR stSh/\(z7 p b).fst.thr.length=0/\((z7 p b).fst.mem.vars.length=0/\(z7 p b).fst.mem.owners.length=0/\(z7 p b).fst.mem.queues.length=0/\(z7 p b).fst.mem.sig.length=0/\True)/\q12q p b)/\(RR j6/\stdE (dP (encP p)) b=(z7 p b).snd)/\True)/\(qv p b=false->KN 39 [AV.mc za (encP p)] (AV.tup [AV.mc zw (encM (newM (dP (encP p))).fst),AV.int j6 (newM (dP (encP p))).snd])/\(∃ (i:Nat),q3r p b i/\(RI b/\RR (AV.ptr (2:Nat) [])/\RR (AV.ptr (4:Nat) [])/\RR (AV.ptr (9:Nat) [])/\(RR j6/\(0:Int)=(↑i:Int))/\True)/\((27:Nat)=(27:TypeId)/\qa p)/\((35:Nat)=(35:TypeId)/\RR stSh/\(0:Nat)=(0:Nat)/\((0:Nat)=(0:Nat)/\(0:Nat)=(0:Nat)/\(0:Nat)=(0:Nat)/\(0:Nat)=(0:Nat)/\True)/\(0:Nat)=(0:Nat)/\True)/\((35:Nat)=(35:TypeId)/\RR stSh/\(q89 p b i/\RR true/\RR true)/\((RR leaf/\List.length (Mem.vars (Prod.fst (newM (dP (encP p)))))=List.length (Mem.vars (Prod.fst (newM p)))/\∀ (i:Nat),i < List.length (Mem.vars (Prod.fst (newM (dP (encP p)))))->AV.int j6 (List.getD (Mem.vars (Prod.fst (newM (dP (encP p))))) i (0:Int))=q3s p i)/\(RR leaf/\List.length (Mem.owners (Prod.fst (newM (dP (encP p)))))=List.length (Mem.owners (Prod.fst (newM p)))/\∀ (i:Nat),i < List.length (Mem.owners (Prod.fst (newM (dP (encP p)))))->AV.int j6 (List.getD (Mem.owners (Prod.fst (newM (dP (encP p))))) i (0:Int))=q3t p i)/\(RR leaf/\List.length (Mem.queues (Prod.fst (newM (dP (encP p)))))=List.length (Mem.queues (Prod.fst (newM p)))/\∀ (i:Nat),i < List.length (Mem.queues (Prod.fst (newM (dP (encP p)))))->rowI (List.getD (Mem.queues (Prod.fst (newM (dP (encP p))))) i [])=q3u p i)/\(RR leaf/\List.length (Mem.sig (Prod.fst (newM (dP (encP p)))))=List.length (Mem.sig (Prod.fst (newM p)))/\∀ (i:Nat),i < List.length (Mem.sig (Prod.fst (newM (dP (encP p)))))->AV.int j6 (List.getD (Mem.sig (Prod.fst (newM (dP (encP p))))) i (0:Int))=q3v p i)/\True)/\RR AV.nils/\True)/\(q89 p b i/\RR true)/\True)/\∀ i:Nat,q3r p b i->↑p.thr.length<=(9223372036854775807:Int)/\(q16 p i=true->inIx (↑i) p.thr.length/\inIx (↑i) p.thr.length/\KN 40 [AV.mc za (encP p),AV.int j6 b,AV.int j6 (↑i:Int),AV.int j6 (p.thr.getD (↑i:Int).toNat c0s).fn,AV.int j6 (p.thr.getD (↑i:Int).toNat c0s).arg] (AV.tup [AV.mc zd (q8a p b i),AV.int j6 (qbv p b i).snd])/\1 * zd.size<=16777216/\(RR (z12x p b i).length/\↑(q2x p b i) * ↑(152:Nat)<=(140737488355328:Int)/\q2x p b i<=9223372036854775807)/\1<=1/\InR j6 (q8 i)/\(∃ (j:Nat),q3r p b j/\List.length (PProg.thr p) - j < List.length (PProg.thr p) - i/\(RI b/\RR (AV.ptr (2:Nat) [])/\RR (AV.ptr (4:Nat) [])/\RR (AV.ptr (9:Nat) [])/\(RR j6/\q8 i=(↑j:Int))/\True)/\(RR (27:TypeId)/\qa p)/\(RR (35:TypeId)/\RR stSh/\(RW zd ((0:Nat)) fun (i:Nat)=>encT (List.getD [] i c0t))/\(qe/\qe/\(RW leaf ((0:Nat)) fun (i:Nat)=>rowI (List.getD [] i []))/\qe/\True)/\(RW zo ((0:Nat)) fun (i:Nat)=>encB (List.getD [] i c0b))/\True)/\(RR (35:TypeId)/\RR stSh/\(RR (57:Nat)/\q8b p b i j)/\((RW leaf (List.length (Mem.vars (Prod.fst (newM p)))) fun (i:Nat)=>q3s p i)/\(RW leaf (List.length (Mem.owners (Prod.fst (newM p)))) fun (i:Nat)=>q3t p i)/\(RW leaf (List.length (Mem.queues (Prod.fst (newM p)))) fun (i:Nat)=>q3u p i)/\(RW leaf (List.length (Mem.sig (Prod.fst (newM p)))) fun (i:Nat)=>q3v p i)/\True)/\RR AV.nils/\True)/\(RR (51:TypeId)/\RR zd/\q8b p b i j/\∀ (i_1:Nat),i_1 < q2x p b i->(if i_1 < List.length (z12x p b i) then encT (List.getD (z12x p b i) i_1 c0t) else List.getD (List.set (List.replicate (1:Nat) (AV.agg [AV.int j6 (0:Int),AV.int j6 (0:Int),AV.int j6 (0:Int),AV.arr (8:Nat) fun (_:Nat)=>AV.int j6 (0:Int),AV.int j6 (0:Int),AV.int j6 (0:Int),AV.int j6 (0:Int),AV.int j6 (0:Int),AV.int j6 (0:Int),AV.nils])) (0:Nat) (q8a p b i)) (i_1 - List.length (z12x p b i)) AV.any)=encT (List.getD (z12x p b j) i_1 c0t))/\True))/\(q16 p i=false->(z12x p b i).length<=(z12x p b i).length/\(RR stSh/\(RR zd/\(z12x p b i).length=(z7 p b).fst.thr.length/\∀ (i_1:Nat),i_1 < (z12x p b i).length->encT ((z12x p b i).getD i_1 c0t)=encT ((z7 p b).fst.thr.getD i_1 c0t))/\((RR leaf/\(newM p).fst.vars.length=(z7 p b).fst.mem.vars.length/\∀ (i:Nat),i < (newM p).fst.vars.length->q3s p i=AV.int j6 ((z7 p b).fst.mem.vars.getD i 0))/\(RR leaf/\(newM p).fst.owners.length=(z7 p b).fst.mem.owners.length/\∀ (i:Nat),i < (newM p).fst.owners.length->q3t p i=AV.int j6 ((z7 p b).fst.mem.owners.getD i 0))/\(RR leaf/\(newM p).fst.queues.length=(z7 p b).fst.mem.queues.length/\∀ (i:Nat),i < (newM p).fst.queues.length->q3u p i=rowI ((z7 p b).fst.mem.queues.getD i []))/\(RR leaf/\(newM p).fst.sig.length=(z7 p b).fst.mem.sig.length/\∀ (i:Nat),i < (newM p).fst.sig.length->q3v p i=AV.int j6 ((z7 p b).fst.mem.sig.getD i 0))/\True)/\q12q p b)/\(RR j6/\0=(z7 p b).snd)/\True))):=by kernel_rfl
theorem ztt (p : PProg) (b : Int) (hp : PSm p) : Known Tryz.prog GG 19 [vP p, .int .i64 b] (.tup [vSt (z7 p b).1, .int .i64 (z7 p b).2])  := by
  refine Known.of (V := vRm 60 (zqj p b)) (fn := Tryz.f19) Tryz.func19 (by kernel_rfl) (zl _ _) rfl ?_
  show zmg p b
  rw [zts]; try delta q12q qv q3r qa q89 q3s q3t q3u q3v qbv q8a q2x q8 qe q8b q16
  simp only [SB, inIx]
  refine ⟨zxs p b hp, fun h => ?_, fun h => ?_⟩
  . have e : z7 p b = (c0st, stdE p b) := by unfold z7; rw [if_pos h]
    rw [e]; exact ⟨⟨rfl, zMem, rfl⟩, rfl⟩
  have e : z7 p b = (⟨z12x p b p.thr.length, (newM p).1, []⟩, 0) := by unfold z7; rw [if_neg (by simp [h])]
  have h8 := hp.thr
  simp only [z27]
  refine ⟨kRmnew' p hp, ⟨0, ⟨by omega, h⟩, rfl, rfl, rfl⟩, fun i hi => ⟨by omega, fun hlt => ⟨hlt, hlt, zwm p b i _ _ hp (by omega), by decide, by omega, zg (by omega) (by omega), i + 1, ⟨hlt, h⟩, by omega, by omega, rfl, rfl, fun j hj => ?_⟩, fun hge => ?_⟩⟩
  . have := zdt encT (AV.agg [.int .i64 0, .int .i64 0, .int .i64 0, .arr 8 fun _ => .int .i64 0, .int .i64 0, .int .i64 0, .int .i64 0, .int .i64 0, .int .i64 0, .nils]) c0t (z12x p b i) (newT p b i (p.thr.getD i c0s).fn (p.thr.getD i c0s).arg).1 j (by rw [z27]; exact hj)
    rw [z27] at this
    rw [zi8]; exact this
  . rw [e, show i = p.thr.length from by omega]
    exact ⟨⟨⟨(z27 _ _ _).symm, fun _ _ => rfl⟩, ⟨⟨rfl, fun _ _ => rfl⟩, ⟨rfl, fun _ _ => rfl⟩, ⟨rfl, fun _ _ => rfl⟩, rfl, fun _ _ => rfl⟩, rfl⟩, rfl⟩
end
end
end Go.Proofs.S25
namespace Go.Proofs.S25
open Go Go.AV
open Go.IntKind renaming i64 -> j6
open Go.AV.Shape (leaf)
noncomputable section
def fibR (l : List Buf) (t : Int) : Nat -> Int
  | 0 => -1
  | k + 1 => if (l.getD (l.length - (k + 1)) c0b).thread = t then ((l.length - (k + 1) : Nat) : Int) else fibR l t k
def fib (l : List Buf) (t : Int) : Int := fibR l t l.length
def drnB (l : List Buf) : Bool := l.all fun b => b.entries.length == 0
def zgr (l : List Buf) (t : Int) : Buf := if 0 <= fib l t then l.getD (fib l t).toNat c0b else ⟨t, 0, []⟩
def bufL (ts : List Thr) (l : List Buf) (n : Nat) : List Buf := (ts.take n).map fun t => zgr l t.id
def zdu (s : SState) (l : List Buf) : SState := { s with bufs := bufL s.thr l s.thr.length }
def zi (p : PProg) (b : Int) : SState × Int := if stdE p b ≠ 0 then (c0st, stdE p b) else (zdu (z7 p b).1 [], 0)
def zdv (P : Buf -> Bool) (l : List Buf) : Nat -> Int
  | 0 => -1
  | k + 1 => if P (l.getD (l.length - (k + 1)) c0b) then ((l.length - (k + 1) : Nat) : Int) else zdv P l k
def idxF (P : Buf -> Bool) (l : List Buf) : Int := zdv P l l.length
def spBu : FuncId -> List AV -> Option AV
  | 64, [.seq _ n f, .int _ t] | 132, [.seq _ n f, .int _ t] => some (.tup [.int .i64 (max (fib (dR dB (.seq zo n f)) t) 0), .bool (decide (0 <= fib (dR dB (.seq zo n f)) t))])
  | 140, [.mc _ b] => some (vB (dB b))
  | 65, [.seq _ n f] => some (rowB (dR dB (.seq zo n f)))
  | 16, [.mc _ s] | 15, [.mc _ s] => some (.bool (drnB (dSt s).bufs))
  | 34, [.mc _ b] => some (.bool (decide (0 < (dB b).entries.length)))
  | 67, [.seq _ n f, .clo 34 []] => some (.int .i64 (idxF (fun b => decide (0 < b.entries.length)) (dR dB (.seq zo n f))))
  | 33, [.seq _ n f, .clo 34 []] => some (.bool (!drnB (dR dB (.seq zo n f))))
  | 29, [.mc _ s, .nils] => some (vSt (zdu (dSt s) []))
  | 29, [.mc _ s, x] => some (vSt (zdu (dSt s) (dR dB x)))
  | 13, [.mc _ p, .int _ b] | 12, [.mc _ p, .int _ b] => some (.tup [vSt (zi (dP p) b).1, .int .i64 (zi (dP p) b).2])
  | f, l => spRm f l
noncomputable def vBu (n : Nat) (inv : Nat -> Option Inv) : VCtx := { C := cfgM n fun _ _ => false, CC := Known Tryz.prog GG, orc := fun _ _ => spBu, inv := inv }
def z6k (l : List Buf) (t : Int) : AV := if 0 <= fib l t then encB (l.getD (fib l t).toNat c0b) else .agg [.int .i64 t, .int .i64 0, .nils]
theorem _root_.Go.AV.Known.pre {P : Program} {G : List (Nat × AV)} {f : FuncId} {args args' : List AV} {r : AV} (h : Known P G f args r) (hl : args'.length = args.length)
    (hp : ∀ (w : World) (F : Nat -> Prop) (v : Value) (j : Nat), j < args.length -> RepS w F v (args'.getD j .any) -> RepS w F v (args.getD j .any)) : Known P G f args' r := by
  rcases h with ⟨h1, h2⟩ | h
  . exact .inl ⟨h1, fun w F vs a1 a2 a3 a4 => h2 w F vs a1 a2 (by omega) fun j hj => hp w F _ j hj (a4 j (by omega))⟩
  . exact .inr fun w F vs a3 a4 => h w F vs (by omega) fun j hj => hp w F _ j hj (a4 j (by omega))
abbrev bBox (l : List Buf) : BoxC := .row 68 zo l.length fun i => encB (l.getD i c0b)
def zxt (l : List Buf) (t : Int) (k : Nat) : Option Inv := match Nat.beq k 2 with
  | true => some { ι := Nat, S := fun i => ⟨[(0, rowB l), (1, .int .i64 t), (6, .int .i64 i)], []⟩, μ := fun i => l.length - i, ok := fun i => i <= l.length /\ fib l t = fibR l t (l.length - i) }
  | false => none
noncomputable def gRbf (l : List Buf) (t : Int) : Prop := fnVc (vBu 21 (zxt l t)) Tryz.f64 [rowB l, .int .i64 t] (.tup [.int .i64 (max (fib l t) 0), .bool (decide (0 <= fib l t))])
noncomputable def gRcl (b : Buf) : Prop := fnVc (vBu 16 fun _ => none) Tryz.f140 [vB b] (vB b)
def zxu (l : List Buf) (k : Nat) : Option Inv := match Nat.beq k 3 with
  | true => some { ι := Nat, S := fun i => ⟨[(0, rowB l), (3, .own 18 (l.take i).length), (4, .int .i64 i)], [(18, bBox (l.take i))]⟩, μ := fun i => l.length - i, ok := fun i => i <= l.length }
  | false => none
noncomputable def zia (l : List Buf) : Prop := fnVc (vBu 20 (zxu l)) Tryz.f65 [rowB l] (rowB l)
def zxv (s : SState) (k : Nat) : Option Inv := match Nat.beq k 2 with
  | true => some { ι := Nat, S := fun i => ⟨[(1, .ptr 1 []), (3, .int .i64 i)], [(1, z3z s)]⟩, μ := fun i => s.bufs.length - i, ok := fun i => i <= s.bufs.length /\ ∀ j, j < i -> (s.bufs.getD j c0b).entries.length = 0 }
  | false => none
noncomputable def gRdr (s : SState) : Prop := fnVc (vBu 19 (zxv s)) Tryz.f16 [vSt s] (.bool (drnB s.bufs))
def z11z (l : List Buf) (ts : List Thr) (i : Nat) : BoxC := .row 68 zo i fun j => z6k l (ts.getD j c0t).id
def zxw (s : SState) (l : List Buf) (k : Nat) : Option Inv := match Nat.beq k 3 with
  | true => some { ι := Nat, S := fun i => ⟨[(1, rowB l), (2, .ptr 2 []), (4, .ptr 4 []), (5, .int .i64 i)], [(2, .cell 35 stSh (.agg [rowT s.thr, encM s.mem, .own 40 i])), (4, z3z c0st), (40, z11z l s.thr i)]⟩, μ := fun i => s.thr.length - i, ok := fun i => i <= s.thr.length }
  | false => none
noncomputable def zqk (s : SState) (l : List Buf) : Prop := fnVc { vBu 47 (zxw s l) with fz := fun k => match Nat.beq k 10 with | true => [40] | false => [] } Tryz.f29 [vSt s, rowB l] (vSt (zdu s l))
end
end Go.Proofs.S25
namespace Go.Proofs.S25
open Go Go.AV
open Go.IntKind renaming i64 -> j6
open Go.AV.Shape (leaf)
noncomputable section
open Go.IntKind renaming i64 -> j6
open Go.AV.Shape (leaf)
noncomputable section

theorem zib (l : List Buf) (t : Int) (i : Nat) (hi : i < l.length) : fibR l t (l.length - i) = if (l.getD i c0b).thread = t then (i : Int) else fibR l t (l.length - (i + 1)) := by
  obtain ⟨k, hk⟩ : ∃ k, l.length - i = k + 1 := ⟨l.length - i - 1, by omega⟩
  rw [hk]
  show (if (l.getD (l.length - (k + 1)) c0b).thread = t then ((l.length - (k + 1) : Nat) : Int) else fibR l t k) = _
  rw [show l.length - (k + 1) = i from by omega, show l.length - (i + 1) = k from by omega]
section
variable (l:List Buf) (t:Int) (x2:Nat)
def q40:=x2<=l.length/\fib l t=fibR l t (l.length - x2)
def q8n:=decide (0<=fib l t)
def q8o:=(l.getD (↑x2:Int).toNat c0b).thread == t
variable (x1:Nat)
def q1j:=decide ((↑x1:Int) < (↑l.length:Int))
end
theorem eRbf (l:List Buf) (t:Int):gRbf l t=((∃ i,q40 l t i/\((RW zo l.length fun i=>encB (l.getD i c0b))/\RI t/\(RR j6/\(0:Int)=↑i)/\True)/\True)/\∀ i:Nat,q40 l t i->↑l.length<=(9223372036854775807:Int)/\(q1j l i=true->inIx (↑i) l.length/\(q8o l t i=true->(RR j6/\↑i=max (fib l t) 0)/\true=q8n l t/\True)/\(q8o l t i=false->InR j6 (q8 i)/\(∃ j,q40 l t j/\l.length - j < l.length - i/\((RW zo l.length fun i=>encB (l.getD i c0b))/\RI t/\(RR j6/\q8 i=↑j)/\True)/\True)))/\(q1j l i=false->(RR j6/\0=max (fib l t) 0)/\false=q8n l t/\True)):=by kernel_rfl
theorem kRbf (l : List Buf) (t : Int) (hl : l.length <= 1000000) : Known Tryz.prog GG 64 [rowB l, .int .i64 t] (.tup [.int .i64 (max (fib l t) 0), .bool (decide (0 <= fib l t))])  := by
  refine Known.of (V := vBu 21 (zxt l t)) (fn := Tryz.f64) Tryz.func64 (by kernel_rfl) (zl _ _) rfl ?_
  show gRbf l t
  rw [eRbf]; try delta q40 q8n q8o q8 q1j
  simp only [SB, inIx]
  refine ⟨⟨0, ⟨by omega, by rw [Nat.sub_zero]; rfl⟩, rfl⟩, fun i hi => ⟨by omega, fun hlt => ⟨hlt, fun h => ?_, fun h => ⟨zg (by omega) (by omega), i + 1, ⟨by omega, ?_⟩, by omega, by omega⟩⟩, fun hge => ?_⟩⟩
  . have e : fib l t = i := by rw [hi.2, zib l t i hlt, if_pos h]
    rw [e]; exact ⟨by omega, by simp⟩
  . rw [hi.2, zib l t i hlt, if_neg h]
  . have e : fib l t = -1 := by rw [hi.2, show l.length - i = 0 from by omega]; rfl
    rw [e]; exact ⟨rfl, rfl⟩
theorem eRcl (b:Buf):gRcl b=((↑b.entries.length * ↑(16:Nat)<=(140737488355328:Int)/\b.entries.length<=9223372036854775807)/\b.entries.length<=b.entries.length/\RR zo/\RI b.thread/\RI b.first/\(RW ze b.entries.length fun i=>encE (b.entries.getD i c0e))/\True):=by kernel_rfl
theorem kRcl (b : Buf) (hb : b.entries.length <= 1000000) : Known Tryz.prog GG 140 [vB b] (vB b)  := by
  refine Known.of (V := vBu 16 fun _ => none) (fn := Tryz.f140) Tryz.func140 (by kernel_rfl) (zl _ _) rfl ?_
  show gRcl b
  rw [eRcl]
  simp only [SB]
  omega
section
variable (l:List Buf) (x1:Nat)
def q12r:=(List.take x1 l).length=0
def qc3:Nat:=(List.take x1 l).length + 1
variable (x2:Nat)
def q12s:=qc3 l x1=(List.take x2 l).length
end
theorem zoi (l:List Buf):zia l=((∃ i,i<=l.length/\((RW zo l.length fun i=>encB (l.getD i c0b))/\(q12r l i/\RR true/\RR true)/\(RR j6/\(0:Int)=↑i)/\True)/\(q12r l i/\RR true)/\True)/\∀ i:Nat,i<=l.length->↑l.length<=(9223372036854775807:Int)/\(q1j l i=true->inIx (↑i) l.length/\KN 140 [AV.mc zo (encB (l.getD (↑i:Int).toNat c0b))] (AV.mc zo (AV.agg [AV.int j6 (l.getD (↑i:Int).toNat c0b).thread,AV.int j6 (l.getD (↑i:Int).toNat c0b).first,rowE (dR dE (rowE (l.getD (↑i:Int).toNat c0b).entries))]))/\1 * zo.size<=16777216/\(RR (List.take i l).length/\↑(qc3 l i) * ↑(40:Nat)<=(140737488355328:Int)/\qc3 l i<=9223372036854775807)/\1<=1/\InR j6 (q8 i)/\(∃ j,j<=l.length/\l.length - j < l.length - i/\((RW zo l.length fun i=>encB (l.getD i c0b))/\(RR (18:Nat)/\q12s l i j)/\(RR j6/\q8 i=(↑j:Int))/\True)/\(RR (68:TypeId)/\RR zo/\q12s l i j/\∀ (i_1:Nat),i_1 < qc3 l i->(if i_1 < (List.take i l).length then encB ((List.take i l).getD i_1 c0b) else ((List.replicate (1:Nat) (AV.agg [AV.int j6 (0:Int),AV.int j6 (0:Int),AV.nils])).set (0:Nat) (encB (dB (encB (l.getD (↑i:Int).toNat c0b))))).getD (i_1 - (List.take i l).length) AV.any)=encB ((List.take j l).getD i_1 c0b))/\True))/\(q1j l i=false->(List.take i l).length<=(List.take i l).length/\RR zo/\(List.take i l).length=l.length/\∀ (i_1:Nat),i_1 < (List.take i l).length->encB ((List.take i l).getD i_1 c0b)=encB (l.getD i_1 c0b))):=by kernel_rfl
theorem zoj (l : List Buf) (hl : l.length <= 1000000) (he : ∀ j, (l.getD j c0b).entries.length <= 1000000) : Known Tryz.prog GG 65 [rowB l] (rowB l)  := by
  refine Known.of (V := vBu 20 (zxu l)) (fn := Tryz.f65) Tryz.func65 (by kernel_rfl) (zl _ _) rfl ?_
  show zia l
  rw [zoi]; try delta q12r qc3 q8 q12s q1j
  simp only [SB, inIx]
  refine ⟨⟨0, by omega, ⟨rfl, rfl⟩, rfl⟩, fun i hi => ⟨by omega, fun hlt => ?_, fun hge => ?_⟩⟩
  . have hn : (l.take i).length = i := by rw [List.length_take]; omega
    have e : l.take (i + 1) = l.take i ++ [l.getD i c0b] := by
      rw [List.take_add_one, List.getD_eq_getElem?_getD, List.getElem?_eq_getElem hlt]; rfl
    refine ⟨hlt, kRcl _ (he i), by decide, by omega, zg (by omega) (by omega), i + 1, by omega, by omega, ?_, ?_⟩
    . rw [e]; exact ⟨by simp, by omega⟩
    . rw [e]; exact ⟨by simp, fun j hj => zdt encB _ c0b _ _ j hj⟩
  . rw [List.take_of_length_le (by omega)]; exact ⟨rfl, fun _ _ => rfl⟩
section
variable (s:SState) (x1:Nat)
def qj0:=x1<=s.bufs.length/\∀ j:Nat,j < x1->(s.bufs.getD j c0b).entries.length=0
def q8p:=RR stSh/\(RW zd s.thr.length fun i=>encT (s.thr.getD i c0t))/\((RW leaf s.mem.vars.length fun i=>AV.int j6 (s.mem.vars.getD i 0))/\(RW leaf s.mem.owners.length fun i=>AV.int j6 (s.mem.owners.getD i 0))/\(RW leaf s.mem.queues.length fun i=>rowI (s.mem.queues.getD i []))/\(RW leaf s.mem.sig.length fun i=>AV.int j6 (s.mem.sig.getD i 0))/\True)/\(RW zo s.bufs.length fun i=>encB (s.bufs.getD i c0b))/\True
def q12t:=decide (0 < (↑(s.bufs.getD (↑x1:Int).toNat c0b).entries.length:Int))
def q30:=decide ((↑x1:Int) < (↑s.bufs.length:Int))
end
theorem eRdr (s:SState):gRdr s=((∃ i,qj0 s i/\(RR (AV.ptr (1:Nat) [])/\(RR j6/\(0:Int)=↑i)/\True)/\((35:Nat)=(35:TypeId)/\q8p s)/\True)/\∀ i:Nat,qj0 s i->↑s.bufs.length<=(9223372036854775807:Int)/\(q30 s i=true->inIx (↑i) s.bufs.length/\(↑(s.bufs.getD (↑i:Int).toNat c0b).entries.length:Int)<=9223372036854775807/\(q12t s i=true->false=drnB s.bufs)/\(q12t s i=false->InR j6 (q8 i)/\(∃ j,qj0 s j/\s.bufs.length - j < s.bufs.length - i/\(RR (AV.ptr (1:Nat) [])/\(RR j6/\q8 i=↑j)/\True)/\(RR (35:TypeId)/\q8p s)/\True)))/\(q30 s i=false->true=drnB s.bufs)):=by kernel_rfl
theorem kRdr (s : SState) (h2 : s.bufs.length <= 1000000) (he : ∀ j, (s.bufs.getD j c0b).entries.length <= 140737488355328) : Known Tryz.prog GG 16 [vSt s] (.bool (drnB s.bufs))  := by
  refine Known.of (V := vBu 19 (zxv s)) (fn := Tryz.f16) Tryz.func16 (by kernel_rfl) (zl _ _) rfl ?_
  show gRdr s
  rw [eRdr]; try delta qj0 q8p q12t q8 q30
  simp only [SB, inIx]
  refine ⟨⟨0, ⟨by omega, fun j hj => by omega⟩, rfl⟩, fun i hi => ⟨by omega, fun hlt => ⟨hlt, by have := he i; omega, fun h => ?_, fun h => ⟨zg (by omega) (by omega), i + 1, ⟨by omega, fun j hj => ?_⟩, by omega, by omega⟩⟩, fun hge => ?_⟩⟩
  . apply f_eq; intro hd
    have := (z1u _ _ c0b).1 hd i hlt
    rw [beq_iff_eq] at this; omega
  . by_cases e : j = i
    . subst e; omega
    . exact hi.2 j (by omega)
  . symm
    exact (z1u _ _ c0b).2 fun j hj => by rw [beq_iff_eq]; exact hi.2 j (by omega)
theorem z6z (ts : List Thr) (l : List Buf) (n : Nat) (hn : n <= ts.length) : (bufL ts l n).length = n := by unfold bufL; simp; omega
theorem za1 (ts : List Thr) (l : List Buf) (n : Nat) (hn : n <= ts.length) (i : Nat) (hi : i < n) : (bufL ts l n).getD i c0b = zgr l (ts.getD i c0t).id := by
  unfold bufL
  rw [List.getD_eq_getElem?_getD, List.getD_eq_getElem?_getD, List.getElem?_map, List.getElem?_take_of_lt hi, List.getElem?_eq_getElem (by omega)]; rfl
theorem z120 (l : List Buf) (t : Int) : dB (z6k l t) = zgr l t := by
  unfold z6k zgr
  split
  . rw [zhg]
  . rfl
theorem z121 (ts : List Thr) (l : List Buf) (n : Nat) (hn : n <= ts.length) : dR dB (AV.seq zo n fun j => z6k l (ts.getD j c0t).id) = bufL ts l n := by
  show (List.range n).map _ = _
  apply z2q (d := c0b)
  . rw [z6z ts l n hn]; simp
  . intro j hj
    have hj : j < n := by simpa using hj
    rw [za1 ts l n hn j hj]
    simp [hj, z120]
theorem zql {w : World} {F : Nat -> Prop} {v : Value} (ts : List Thr) (l : List Buf) (n : Nat) (hn : n <= ts.length) (h : RepS w F v (AV.seq zo n fun j => z6k l (ts.getD j c0t).id)) : RepS w F v (rowB (bufL ts l n)) := by
  show RepS w F v (.seq zo (bufL ts l n).length fun i => encB ((bufL ts l n).getD i c0b))
  have hg := za1 ts l n hn
  rw [z6z ts l n hn]
  cases h with
  | seq0 => exact .seq0 _ _ _ _
  | seq g o n cap sh f cs h1 h2 h3 h4 =>
    refine .seq g o n cap zo _ cs h1 h2 h3 fun i hi j hj => ?_
    have this : RepS w F (cs i j) (z6 zo (z6k l (ts.getD i c0t).id) j) := h4 i hi j hj
    show RepS w F (cs i j) (z6 zo (encB ((bufL ts l n).getD i c0b)) j)
    rw [hg i hi]
    unfold z6k at this
    unfold zgr
    split
    . rename_i q; rw [if_pos q] at this; exact this
    . rename_i q
      rw [if_neg q] at this
      match j, hj with
      | 0, _ => exact this
      | 1, _ => exact this
      | 2, _ =>
        have h5 : RepS w F (cs i 2) .nils := this
        generalize cs i 2 = u at h5
        cases h5
        exact .seq0 _ _ _ _
theorem zmi (l : List Buf) (id : Int) : ∀ k, k <= l.length -> fibR l id k < l.length /\ -1 <= fibR l id k
  | 0, _ => ⟨by show (-1 : Int) < _; omega, by show (-1 : Int) <= -1; omega⟩
  | k + 1, hk => by
    unfold fibR
    split
    . omega
    . exact zmi l id k (by omega)
theorem zqm (l : List Buf) (id : Int) : fib l id < l.length /\ -1 <= fib l id := zmi l id _ (Nat.le_refl _)
theorem zmj {l : List Buf} {t : Int} (he : ∀ j, (l.getD j c0b).entries.length <= 1000000) : (zgr l t).entries.length <= 1000000 := by
  unfold zgr; split
  . exact he _
  . show 0 <= _; omega
theorem zqn {l : List Buf} {ts : List Thr} {i j : Nat} {x z : AV} (hx : x = z6k l (ts.getD i c0t).id) (hj : j < i + 1) : (if j < i then z6k l (ts.getD j c0t).id else ((List.replicate 1 z).set 0 x).getD (j - i) AV.any) = z6k l (ts.getD j c0t).id := by
  split
  . rfl
  . have : j = i := by omega
    subst this
    rw [Nat.sub_self, hx]; rfl
section
variable (s:SState)
def qj1:=(RW leaf s.mem.vars.length fun i=>AV.int j6 (s.mem.vars.getD i 0))/\(RW leaf s.mem.owners.length fun i=>AV.int j6 (s.mem.owners.getD i 0))/\(RW leaf s.mem.queues.length fun i=>rowI (s.mem.queues.getD i []))/\(RW leaf s.mem.sig.length fun i=>AV.int j6 (s.mem.sig.getD i 0))/\True
variable (x1:Nat)
def q12u:=AV.int j6 (s.thr.getD (↑x1:Int).toNat c0t).id
variable (l:List Buf) (x2:Nat)
def qj2:Int:=max (fib (dR dB (rowB l)) (s.thr.getD (↑x2:Int).toNat c0t).id) 0
def qj3:=decide (0<=fib (dR dB (rowB l)) (s.thr.getD (↑x2:Int).toNat c0t).id)
def q12v:=1 * zo.size<=16777216
variable (x0:Nat)
def q12w:=RR x0/\↑(qb x0) * ↑(40:Nat)<=(140737488355328:Int)/\qb x0<=9223372036854775807
end
section
variable (l:List Buf) (x1:Nat) (x2:Nat)
def q12x:=(RW zo l.length fun i=>encB (l.getD i c0b))/\RR (AV.ptr 2 [])/\RR (AV.ptr 4 [])/\(RR j6/\q8 x1=↑x2)/\True
end
section
variable (s:SState) (x1:Nat) (x2:Nat)
def q12y:=RR (35:TypeId)/\RR stSh/\qk s/\qj1 s/\(RR 40/\qi x1 x2)/\True
def q5b:=RR (35:TypeId)/\RR stSh/\(RW zd ((0:Nat)) fun (i:Nat)=>encT (List.getD [] i c0t))/\(qe/\qe/\(RW leaf ((0:Nat)) fun (i:Nat)=>rowI (List.getD [] i []))/\qe/\True)/\(RW zo ((0:Nat)) fun (i:Nat)=>encB (List.getD [] i c0b))/\True
def q5c:List AV:=[AV.int j6 0,AV.nils]
def q12z:List AV:=List.replicate 1 (AV.agg (AV.int j6 0::q5c))
end
section
variable (s:SState) (l:List Buf) (x2:Nat)
def q130:=AV.seq zo x2 fun j=>z6k l (s.thr.getD j c0t).id
def qj4:List Buf:=dR dB (q130 s l x2)
def q131:Nat:=(qj4 s l x2).length
end
theorem zxx (s:SState) (l:List Buf):zqk s l=((∃ (i:Nat),i<=List.length (SState.thr s)/\((RW zo (List.length l) fun (i:Nat)=>encB (List.getD l i c0b))/\RR (AV.ptr (2:Nat) [])/\RR (AV.ptr (4:Nat) [])/\(RR j6/\(0:Int)=(↑i:Int))/\True)/\((35:Nat)=(35:TypeId)/\RR stSh/\qk s/\qj1 s/\(i=(0:Nat)/\RR true/\RR true)/\True)/\((35:Nat)=(35:TypeId)/\RR stSh/\(0:Nat)=(0:Nat)/\((0:Nat)=(0:Nat)/\(0:Nat)=(0:Nat)/\(0:Nat)=(0:Nat)/\(0:Nat)=(0:Nat)/\True)/\(0:Nat)=(0:Nat)/\True)/\(i=(0:Nat)/\RR true)/\True)/\∀ i:Nat,i<=s.thr.length->↑s.thr.length<=(9223372036854775807:Int)/\(ql s i=true->inIx (↑i) s.thr.length/\KN 64 [rowB l,q12u s i] (AV.tup [AV.int j6 (qj2 s l i),AV.bool (qj3 s l i)])/\(qj3 s l i=true->inIx (qj2 s l i) l.length/\q12v/\q12w i/\qq/\q9 i/\(∃ j,j<=s.thr.length/\q2y s i j/\q12x l i j/\q12y s i j/\q5b/\(RR (68:TypeId)/\RR zo/\qi i j/\∀ (i_1:Nat),q2d i i_1->(if i_1 < i then z6k l (s.thr.getD i_1 c0t).id else (q12z.set (0:Nat) (encB (l.getD (qj2 s l i).toNat c0b))).getD (i_1 - i) AV.any)=z6k l (s.thr.getD i_1 c0t).id)/\True))/\(qj3 s l i=false->q12v/\q12w i/\qq/\q9 i/\(∃ j,j<=s.thr.length/\q2y s i j/\q12x l i j/\q12y s i j/\q5b/\(RR (68:TypeId)/\RR zo/\qi i j/\∀ (i_1:Nat),q2d i i_1->(if i_1 < i then z6k l (s.thr.getD i_1 c0t).id else (q12z.set (0:Nat) (AV.agg (q12u s i::q5c))).getD (i_1 - i) AV.any)=z6k l (s.thr.getD i_1 c0t).id)/\True)))/\(ql s i=false->i<=i/\KN 65 [q130 s l i] (rowB (qj4 s l i))/\RR stSh/\qk s/\qj1 s/\(RR zo/\q131 s l i=(bufL s.thr l s.thr.length).length/\∀ (i_1:Nat),i_1 < q131 s l i->encB ((qj4 s l i).getD i_1 c0b)=encB ((bufL s.thr l s.thr.length).getD i_1 c0b))/\True)):=by kernel_rfl
theorem zxy (s : SState) (l : List Buf) (hs : SSm s) (hl : l.length <= 1000000) (he : ∀ j, (l.getD j c0b).entries.length <= 1000000) : Known Tryz.prog GG 29 [vSt s, rowB l] (vSt (zdu s l))  := by
  refine Known.of (V := { vBu 47 (zxw s l) with fz := fun k => match Nat.beq k 10 with | true => [40] | false => [] }) (fn := Tryz.f29) Tryz.func29 (by kernel_rfl) (zl _ _) rfl ?_
  show zqk s l
  rw [zxx]; try delta qk qj1 q12u qj2 qj3 q12v qb q12w qq q8 q9 q2y q12x qi q12y qe q5b q5c q12z q2d ql q130 qj4 q131
  simp only [SB, inIx]
  have h1 := hs.thr
  refine ⟨⟨0, by omega, rfl, rfl, rfl⟩, fun i hi => ⟨by omega, fun hlt => ⟨hlt, kRbf l _ hl, fun h => ?_, fun h => ?_⟩, fun hge => ?_⟩⟩
  . have hf := zqm l (s.thr.getD i c0t).id
    rw [Int.max_eq_left h]
    exact ⟨by omega, by decide, by omega, zg (by omega) (by omega), i + 1, by omega, by omega, by omega, rfl, rfl, fun j hj => zqn (by unfold z6k; rw [if_pos h]) hj⟩
  . exact ⟨by decide, by omega, zg (by omega) (by omega), i + 1, by omega, by omega, by omega, rfl, rfl, fun j hj => zqn (by unfold z6k; rw [if_neg h]) hj⟩
  . have e : i = s.thr.length := by omega
    subst e
    rw [z121 s.thr l _ (Nat.le_refl _)]
    refine ⟨(zoj (bufL s.thr l s.thr.length) (by rw [z6z _ _ _ (Nat.le_refl _)]; exact h1) fun j => ?_).pre rfl fun w F v j hj h => ?_, rfl, fun _ _ => rfl⟩
    . by_cases hj : j < s.thr.length
      . rw [za1 s.thr l _ (Nat.le_refl _) j hj]; exact zmj he
      . rw [List.getD_eq_getElem?_getD, List.getElem?_eq_none (by rw [z6z _ _ _ (Nat.le_refl _)]; omega)]
        show 0 <= _; omega
    . match j, hj with
      | 0, _ => exact zql s.thr l _ (Nat.le_refl _) h
end
end
end Go.Proofs.S25
namespace Go.Proofs.S25
open Go Go.AV
open Go.IntKind renaming i64 -> j6
open Go.AV.Shape (leaf)
noncomputable section
def zbr (e : BEnt) : Bool := decide (0 <= e.var) && decide (e.var < 8) && decide (-2147483648 <= e.val) && decide (e.val <= 2147483647)
def vldB (b : Buf) : Bool := decide (0 <= b.thread) && decide (0 <= b.first) && decide (b.first <= 32) && decide (b.first + b.entries.length <= 32) && b.entries.all zbr
def z1v (b : Buf) (x v : Int) : Buf × Int × Int :=
  if vldB b = false then (c0b, 0, 1) else if x < 0 ∨ 8 <= x then (c0b, 0, 11) else if v < -2147483648 ∨ 2147483647 < v then (c0b, 0, 2)
  else if b.first + b.entries.length = 32 then (c0b, 0, 24) else (⟨b.thread, b.first, b.entries ++ [⟨x, v⟩]⟩, b.first + b.entries.length, 0)
def popB (b : Buf) : Buf × BEnt × Int × Int :=
  if vldB b = false then (c0b, c0e, 0, 1) else if b.entries.length = 0 then (c0b, c0e, 0, 5)
  else (⟨b.thread, b.first + 1, b.entries.drop 1⟩, b.entries.getD 0 c0e, b.first, 0)
def zdw (b : Buf) (x : Int) : Nat -> Int × Int × Bool
  | 0 => (0, 0, false)
  | k + 1 => if (b.entries.getD k c0e).var = x then ((b.entries.getD k c0e).val, b.first + k, true) else zdw b x k
def z3m (b : Buf) (x : Int) : Int × Int × Bool := if vldB b = false then (0, 0, false) else zdw b x b.entries.length
def putB (l : List Buf) (b : Buf) : List Buf := if 0 <= fib l b.thread then l.set (fib l b.thread).toNat b else l
def vEn (e : BEnt) : AV := .mc ze (encE e)
def spB4 : FuncId -> List AV -> Option AV
  | 175, [.mc _ e] => some (.bool (zbr (dE e)))
  | 114, [.mc _ b] | 146, [.mc _ b] => some (.bool (vldB (dB b)))
  | 188, [.mc _ b] => some (vB (dB b))
  | 128, [.mc _ b, .int _ x, .int _ v] | 75, [.mc _ b, .int _ x, .int _ v] => some (.tup [vB (z1v (dB b) x v).1, .int .i64 (z1v (dB b) x v).2.1, .int .i64 (z1v (dB b) x v).2.2])
  | 126, [.mc _ b] | 72, [.mc _ b] => some (.tup [vB (popB (dB b)).1, vEn (popB (dB b)).2.1, .int .i64 (popB (dB b)).2.2.1, .int .i64 (popB (dB b)).2.2.2])
  | 229, [.mc _ b, .int _ x] | 149, [.mc _ b, .int _ x] => some (.tup [.int .i64 (z3m (dB b) x).1, .int .i64 (z3m (dB b) x).2.1, .bool (z3m (dB b) x).2.2])
  | 131, [.seq _ n f] => some (rowB (dR dB (.seq zo n f)))
  | 74, [.seq _ n f, .mc _ b] => some (rowB (putB (dR dB (.seq zo n f)) (dB b)))
  | f, l => spBu f l
noncomputable def vB4 (n : Nat) (inv : Nat -> Option Inv) : VCtx := { C := cfgM n fun _ _ => false, CC := Known Tryz.prog GG, orc := fun _ _ => spB4, inv := inv }
noncomputable def zxz (e : BEnt) : Prop := fnVc (vB4 21 fun _ => none) Tryz.f175 [vEn e] (.bool (zbr e))
def zy0 (b : Buf) (k : Nat) : Option Inv := match Nat.beq k 4 with
  | true => some { ι := Nat, S := fun i => ⟨[(1, .ptr 1 []), (28, rowE b.entries), (29, .int .i64 b.entries.length), (30, .int .i64 i)], [(1, zoh b)]⟩, μ := fun i => b.entries.length - i, ok := fun i => i <= b.entries.length /\ ∀ j, j < i -> zbr (b.entries.getD j c0e) = true }
  | false => none
noncomputable def zy1 (b : Buf) : Prop := fnVc (vB4 38 (zy0 b)) Tryz.f114 [vB b] (.bool (vldB b))
noncomputable def zic (b : Buf) : Prop := fnVc (vB4 15 fun _ => none) Tryz.f188 [vB b] (vB b)
noncomputable def zqo (b : Buf) (x v : Int) : Prop := fnVc (vB4 59 fun _ => none) Tryz.f128 [vB b, .int .i64 x, .int .i64 v] (.tup [vB (z1v b x v).1, .int .i64 (z1v b x v).2.1, .int .i64 (z1v b x v).2.2])
noncomputable def zy2 (b : Buf) : Prop := fnVc (vB4 38 fun _ => none) Tryz.f126 [vB b] (.tup [vB (popB b).1, vEn (popB b).2.1, .int .i64 (popB b).2.2.1, .int .i64 (popB b).2.2.2])
def zy3 (b : Buf) (x : Int) (k : Nat) : Option Inv := match Nat.beq k 4 with
  | true => some { ι := Nat, S := fun i => ⟨[(1, .int .i64 x), (2, .ptr 2 []), (7, .int .i64 ((i : Int) - 1))], [(2, zoh b)]⟩, μ := fun i => i, ok := fun i => i <= b.entries.length /\ zdw b x b.entries.length = zdw b x i }
  | false => none
noncomputable def zqp (b : Buf) (x : Int) : Prop := fnVc (vB4 37 (zy3 b x)) Tryz.f229 [vB b, .int .i64 x] (.tup [.int .i64 (z3m b x).1, .int .i64 (z3m b x).2.1, .bool (z3m b x).2.2])
def zy4 (l : List Buf) (t : Int) (k : Nat) : Option Inv := match Nat.beq k 2 with
  | true => some { ι := Nat, S := fun i => ⟨[(1, .int .i64 t), (8, rowB l), (9, .int .i64 l.length), (10, .int .i64 i)], []⟩, μ := fun i => l.length - i, ok := fun i => i <= l.length /\ fib l t = fibR l t (l.length - i) }
  | false => none
noncomputable def zqq (l : List Buf) (t : Int) : Prop := fnVc (vB4 21 (zy4 l t)) Tryz.f132 [rowB l, .int .i64 t] (.tup [.int .i64 (max (fib l t) 0), .bool (decide (0 <= fib l t))])
end
end Go.Proofs.S25
