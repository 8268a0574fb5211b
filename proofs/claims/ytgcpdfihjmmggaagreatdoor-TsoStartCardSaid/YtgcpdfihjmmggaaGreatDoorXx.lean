import Derived.Test.YtgcpdfihjmmggaaGreatDoorXw
import Derived.Test.YtgcpdfihjmmggaaGreatDoorXp
import Derived.WalkKit
import Derived.Lib.Walk
import Derived.Lib.SliceRun
import Derived.Deep.LoopGhost
namespace Go.Proofs.S25
open Go Go.AV
open Go.IntKind renaming i64 -> j6
open Go.AV.Shape (leaf)
noncomputable section
open Go.IntKind renaming i64 -> j6
open Go.AV.Shape (leaf)
noncomputable section

theorem z40 (b : Buf) : vldB b = true ↔ (0 <= b.thread /\ 0 <= b.first /\ b.first <= 32 /\ b.first + b.entries.length <= 32) /\ ∀ i, i < b.entries.length -> zbr (b.entries.getD i c0e) = true := by
  rw [<- z1u]
  simp [vldB, and_assoc]
section
variable (e:BEnt)
def q132:=decide (0<=e.var)
def q133:=q132 e=true
def qj5:=q133 e->q133 e
def q134:=q132 e&&decide (e.var < 8)
def q135:=q134 e=true
def qj6:=q135 e->q135 e
def q136:=q134 e&&decide (-2147483648<=e.val)
def q137:=q136 e=true
def qj7:=q137 e->q137 e
end
theorem z122 (e:BEnt):zxz e=(qj5 e/\qj5 e/\qj5 e/\qj6 e/\qj6 e/\qj6 e/\qj7 e/\qj7 e/\qj7 e/\(q136 e&&decide (e.val<=2147483647))=zbr e):=by kernel_rfl
theorem z123 (e : BEnt)  : Known Tryz.prog GG 175 [vEn e] (.bool (zbr e))  := by
  refine Known.of (V := vB4 21 fun _ => none) (fn := Tryz.f175) Tryz.func175 (by kernel_rfl) (zl _ _) rfl ?_
  show zxz e
  rw [z122]; try delta q132 q133 qj5 q134 q135 qj6 q136 q137 qj7
  simp only [SB]
  simp [zbr]
section
variable (b:Buf)
def q138:=decide (b.thread < 0)
def q139:=(!q138 b)=true
def qj8:=q139 b->q139 b
def q13a:=q138 b||decide (b.first < 0)
def q13b:=(!q13a b)=true
def qj9:=q13b b->q13b b
def q13c:=q13a b||decide (32 < b.first)
def qc7:=(!q13c b)=true
def q41:=qc7 b->qc7 b
def q31:=↑b.entries.length<=(9223372036854775807:Int)
def q13d:=q13c b||decide (32 - b.first < ↑b.entries.length)
variable (x1:Nat)
def qja:=x1<=b.entries.length/\∀ j:Nat,j < x1->zbr (b.entries.getD j c0e)=true
def qjb:=RW ze b.entries.length fun i=>encE (b.entries.getD i c0e)
def q13e:=RR zo/\RI b.thread/\RI b.first/\qjb b/\True
def q13f:=zbr (dE (encE (b.entries.getD (↑x1:Int).toNat c0e)))
def q13g:=!q13f b x1
def q13h:=decide ((↑x1:Int) < (↑b.entries.length:Int))
end
theorem z124 (b:Buf):zy1 b=(qj8 b/\qj8 b/\qj8 b/\qj9 b/\qj9 b/\qj9 b/\q41 b/\q41 b/\(qc7 b->q31 b)/\q41 b/\q41 b/\(qc7 b->InR j6 (32 - b.first))/\q41 b/\q41 b/\q41 b/\(q13d b=true->false=vldB b)/\(q13d b=false->q31 b/\(∃ i,qja b i/\(RR (AV.ptr (1:Nat) [])/\qjb b/\RI ↑b.entries.length/\(RR j6/\(0:Int)=↑i)/\True)/\((68:Nat)=(68:TypeId)/\q13e b)/\True)/\∀ i:Nat,qja b i->(q13h b i=true->inIx (↑i) b.entries.length/\KN 175 [AV.mc ze (encE (b.entries.getD (↑i:Int).toNat c0e))] (AV.bool (q13f b i))/\(q13g b i=true->false=vldB b)/\(q13g b i=false->InR j6 (q8 i)/\(∃ j,qja b j/\b.entries.length - j < b.entries.length - i/\(RR (AV.ptr (1:Nat) [])/\qjb b/\RI ↑b.entries.length/\(RR j6/\q8 i=↑j)/\True)/\(RR (68:TypeId)/\q13e b)/\True)))/\(q13h b i=false->true=vldB b))):=by kernel_rfl
theorem zok (b : Buf) (hn : b.entries.length <= 1000000) : Known Tryz.prog GG 114 [vB b] (.bool (vldB b))  := by
  refine Known.of (V := vB4 38 (zy0 b)) (fn := Tryz.f114) Tryz.func114 (by kernel_rfl) (zl _ _) rfl ?_
  show zy1 b
  rw [z124]; try delta q138 q139 qj8 q13a q13b qj9 q13c qc7 q41 q31 q13d qja qjb q13e q13f q13g q8 q13h
  simp only [SB, inIx]
  refine ⟨fun _ => by omega, fun h => zg (by omega) (by omega), fun h => ?_, fun h => ⟨by omega, ⟨0, ⟨by omega, fun j hj => by omega⟩, rfl⟩, fun i hi => ⟨fun hlt => ⟨hlt, z123 _, fun hf => ?_, fun ht => ⟨zg (by omega) (by omega), i + 1, ⟨by omega, fun j hj => ?_⟩, by omega, by omega⟩⟩, fun hge => ?_⟩⟩⟩
  . exact f_eq fun hv => by have := ((z40 b).1 hv).1; omega
  . exact f_eq fun hv => by have := ((z40 b).1 hv).2 i (by omega); rw [this] at hf; cases hf
  . by_cases e : j = i
    . subst e; exact ht
    . exact hi.2 j (by omega)
  . exact ((z40 b).2 ⟨by omega, fun j hj => hi.2 j (by omega)⟩).symm
section
variable (b:Buf)
def q13i:=(↑b.entries.length:Int).toNat<=(↑b.entries.length:Int).toNat
end
theorem zol (b:Buf):zic b=(q31 b/\((0:Int)<=↑b.entries.length/\(↑b.entries.length:Int)<=(↑b.entries.length:Int)/\↑(16:Nat) * ↑b.entries.length<=(140737488355328:Int)/\q31 b)/\(q13i b/\(↑(↑b.entries.length:Int).toNat:Int)<=9223372036854775807)/\q13i b/\RR zo/\RI b.thread/\RI b.first/\(RR ze/\(↑b.entries.length:Int).toNat=b.entries.length/\∀ i:Nat,i < (↑b.entries.length:Int).toNat->(if i < min b.entries.length (↑b.entries.length:Int).toNat then encE (b.entries.getD i c0e) else AV.agg [AV.int j6 0,AV.int j6 0])=encE (b.entries.getD i c0e))/\True):=by kernel_rfl
theorem zom (b : Buf) (hn : b.entries.length <= 1000000) : Known Tryz.prog GG 188 [vB b] (vB b)  := by
  refine Known.of (V := vB4 15 fun _ => none) (fn := Tryz.f188) Tryz.func188 (by kernel_rfl) (zl _ _) rfl ?_
  show zic b
  rw [zol]; try delta q31 q13i
  simp only [SB]
  refine ⟨by omega, ⟨by omega, by omega⟩, by omega, fun i hi => by rw [if_pos (by omega)]⟩
theorem appE (l : List BEnt) (x v : Int) (j : Nat) (hj : j < l.length + 1) : (if j < l.length then encE (l.getD j c0e) else ((List.replicate 1 (AV.agg [.int .i64 0, .int .i64 0])).set 0 (AV.agg [.int .i64 x, .int .i64 v])).getD (j - l.length) AV.any) = encE ((l ++ ([⟨x, v⟩] : List BEnt)).getD j c0e) :=
  zdt encE _ c0e l ⟨x, v⟩ j hj
section
variable (b:Buf) (x:Int) (v:Int)
def qc8:=RR zo/\(RR j6/\0=(z1v b x v).fst.thread)/\(RR j6/\0=(z1v b x v).fst.first)/\(z1v b x v).fst.entries.length=0/\True
def qc9:=RR j6/\0=(z1v b x v).snd.fst
def q13j:=(!q5j x)=true
def q13k:=q13j x->q13j x
def q13l:=q5j x||decide (8<=x)
def qjc:Int:=b.first + ↑b.entries.length
def q13m:=InR j6 (qjc b)
def q13n:=qjc b == 32
def q13o:Nat:=(↑b.entries.length - (0:Int)).toNat
def q5d:Nat:=q13o b + 1
def q42:List AV:=[AV.int j6 0,AV.int j6 0]
end
theorem zy5 (b:Buf) (x v:Int):zqo b x v=(KN 114 [AV.mc zo (encB b)] (AV.bool (vldB (dB (encB b))))/\((!vldB (dB (encB b)))=true->qc8 b x v/\qc9 b x v/\(RR j6/\1=(z1v b x v).snd.snd)/\True)/\((!vldB (dB (encB b)))=false->q13k x/\q13k x/\(q13l x=true->qc8 b x v/\qc9 b x v/\(RR j6/\11=(z1v b x v).snd.snd)/\True)/\(q13l x=false->q7y v/\q7y v/\(q7z v=true->qc8 b x v/\qc9 b x v/\(RR j6/\2=(z1v b x v).snd.snd)/\True)/\(q7z v=false->q31 b/\q13m b/\(q13n b=true->qc8 b x v/\qc9 b x v/\(RR j6/\24=(z1v b x v).snd.snd)/\True)/\(q13n b=false->q31 b/\((0:Int)<=(0:Int)/\(0:Int)<=↑b.entries.length/\(↑b.entries.length:Int)<=(↑b.entries.length:Int)/\RR (↑b.entries.length:Int))/\1 * ze.size<=16777216/\(0 < 1/\↑(q5d b) * ↑(16:Nat)<=(140737488355328:Int)/\q5d b<=9223372036854775807)/\1<=1/\q13m b/\q5d b<=q5d b/\(RR zo/\(RR j6/\b.thread=(z1v b x v).fst.thread)/\(RR j6/\b.first=(z1v b x v).fst.first)/\(RR ze/\q5d b=(z1v b x v).fst.entries.length/\∀ i:Nat,i < q5d b->(if i < (↑b.entries.length - (0:Int)).toNat then encE (b.entries.getD (Int.toNat (0:Int) + i) c0e) else ((List.replicate (1:Nat) (AV.agg q42)).set (0:Nat) (AV.agg ((q42.set (0:Nat) (strip1 (strip1 (AV.int j6 x)))).set (1:Nat) (strip1 (strip1 (AV.int j6 v)))))).getD (i - q13o b) AV.any)=encE ((z1v b x v).fst.entries.getD i c0e))/\True)/\(RR j6/\qjc b=(z1v b x v).snd.fst)/\(RR j6/\0=(z1v b x v).snd.snd)/\True))))):=by kernel_rfl
theorem zy6 (b : Buf) (x v : Int) (hn : b.entries.length <= 1000000) : Known Tryz.prog GG 128 [vB b, .int .i64 x, .int .i64 v] (.tup [vB (z1v b x v).1, .int .i64 (z1v b x v).2.1, .int .i64 (z1v b x v).2.2])  := by
  refine Known.of (V := vB4 59 fun _ => none) (fn := Tryz.f128) Tryz.func128 (by kernel_rfl) (zl _ _) rfl ?_
  show zqo b x v
  rw [zy5]; try delta qc8 qc9 q5j q13j q13k q13l qhz qi0 q7y q7z q31 qjc q13m q13n q13o q5d q42
  simp only [SB]
  refine ⟨zok b hn, fun hv => ?_, fun hv => ?_⟩
  . have e : z1v b x v = (c0b, 0, 1) := by unfold z1v; rw [if_pos hv]
    rw [e]; exact ⟨⟨rfl, rfl, rfl⟩, rfl, rfl⟩
  have hr := ((z40 b).1 hv).1
  refine ⟨fun hx => ?_, fun hx => ⟨fun hx2 => ?_, fun hx2 => ⟨by omega, zg (by omega) (by omega), fun hx3 => ?_, fun hx3 => ?_⟩⟩⟩
  . have e : z1v b x v = (c0b, 0, 11) := by unfold z1v; rw [if_neg (by simp [hv]), if_pos (by omega)]
    rw [e]; exact ⟨⟨rfl, rfl, rfl⟩, rfl, rfl⟩
  . have e : z1v b x v = (c0b, 0, 2) := by unfold z1v; rw [if_neg (by simp [hv]), if_neg (by omega), if_pos (by omega)]
    rw [e]; exact ⟨⟨rfl, rfl, rfl⟩, rfl, rfl⟩
  . have e : z1v b x v = (c0b, 0, 24) := by unfold z1v; rw [if_neg (by simp [hv]), if_neg (by omega), if_neg (by omega), if_pos (by omega)]
    rw [e]; exact ⟨⟨rfl, rfl, rfl⟩, rfl, rfl⟩
  . have e : z1v b x v = (⟨b.thread, b.first, b.entries ++ [⟨x, v⟩]⟩, b.first + b.entries.length, 0) := by unfold z1v; rw [if_neg (by simp [hv]), if_neg (by omega), if_neg (by omega), if_neg (by omega)]
    rw [e]
    exact ⟨by omega, by omega, by decide, ⟨by omega, by omega, by omega⟩, zg (by omega) (by omega), ⟨rfl, rfl, by simp, fun j hj => appE _ _ _ j hj⟩, rfl, rfl⟩
theorem z125 {b : Buf} (h : vldB b = false) : popB b = (c0b, c0e, 0, 1) := by unfold popB; rw [if_pos h]
theorem z126 {b : Buf} (h : vldB b = true) (h0 : b.entries.length = 0) : popB b = (c0b, c0e, 0, 5) := by unfold popB; rw [if_neg (by simp [h]), if_pos h0]
theorem z127 {b : Buf} (h : vldB b = true) (h0 : b.entries.length ≠ 0) : popB b = (⟨b.thread, b.first + 1, b.entries.drop 1⟩, b.entries.getD 0 c0e, b.first, 0) := by unfold popB; rw [if_neg (by simp [h]), if_neg h0]
theorem zjb {q : List BEnt} {j : Nat} : q.getD (1 + j) c0e = (q.drop 1).getD j c0e := by
  rw [List.getD_eq_getElem?_getD, List.getD_eq_getElem?_getD, List.getElem?_drop]
theorem zmk (q : List BEnt) : ((q.length : Int) - 1).toNat = (q.drop 1).length := by rw [List.length_drop]; omega
section
variable (b:Buf)
def q13p:=RR zo/\(RR j6/\0=(popB b).fst.thread)/\(RR j6/\0=(popB b).fst.first)/\(popB b).fst.entries.length=0/\True
def q13q:BEnt:=(popB b).snd.fst
def q13r:Int:=(q13q b).var
def q13s:Int:=(q13q b).val
def q13t:=RR ze/\(RR j6/\0=q13r b)/\(RR j6/\0=q13s b)/\True
def q13u:Int × Int:=(popB b).snd.snd
def q13v:Int:=(q13u b).fst
def q13w:=RR j6/\0=q13v b
def qjd:Int:=(q13u b).snd
def q13x:=↑b.entries.length == (0:Int)
def qje:Int:=b.first + 1
def q13y:=AV.int j6 (qje b)
def q13z:=AV.seq ze (↑b.entries.length - (1:Int)).toNat fun i=>encE (b.entries.getD (Int.toNat (1:Int) + i) c0e)
def qjf:List BEnt:=dR dE (q13z b)
def q140:Nat:=(qjf b).length
end
theorem z128 (b:Buf):zy2 b=(KN 114 [AV.mc zo (encB b)] (AV.bool (vldB (dB (encB b))))/\((!vldB (dB (encB b)))=true->q13p b/\q13t b/\q13w b/\(RR j6/\1=qjd b)/\True)/\((!vldB (dB (encB b)))=false->↑b.entries.length<=(9223372036854775807:Int)/\(q13x b=true->q13p b/\q13t b/\q13w b/\(RR j6/\5=qjd b)/\True)/\(q13x b=false->inIx 0 b.entries.length/\InR j6 (qje b)/\((0:Int)<=(1:Int)/\(1:Int)<=↑b.entries.length/\(↑b.entries.length:Int)<=(↑b.entries.length:Int))/\KN 188 [AV.mc zo (AV.agg [AV.int j6 b.thread,q13y b,q13z b])] (AV.mc zo (AV.agg [AV.int j6 b.thread,q13y b,rowE (qjf b)]))/\(RR zo/\(RR j6/\b.thread=(popB b).fst.thread)/\(RR j6/\qje b=(popB b).fst.first)/\(RR ze/\q140 b=(popB b).fst.entries.length/\∀ i:Nat,i < q140 b->encE ((qjf b).getD i c0e)=encE ((popB b).fst.entries.getD i c0e))/\True)/\(RR ze/\(RR j6/\(b.entries.getD (Int.toNat 0) c0e).var=q13r b)/\(RR j6/\(b.entries.getD (Int.toNat 0) c0e).val=q13s b)/\True)/\(RR j6/\b.first=q13v b)/\(RR j6/\0=qjd b)/\True))):=by kernel_rfl
theorem z129 (b : Buf) (hn : b.entries.length <= 1000000) : Known Tryz.prog GG 126 [vB b] (.tup [vB (popB b).1, vEn (popB b).2.1, .int .i64 (popB b).2.2.1, .int .i64 (popB b).2.2.2])  := by
  refine Known.of (V := vB4 38 fun _ => none) (fn := Tryz.f126) Tryz.func126 (by kernel_rfl) (zl _ _) rfl ?_
  show zy2 b
  rw [z128]; try delta q13p q13q q13r q13s q13t q13u q13v q13w qjd q13x qje q13y q13z qjf q140
  simp only [SB, inIx]
  simp only [zjb, zmk, rE, dR_E]
  refine ⟨zok b hn, fun hv => ?_, fun hv => ⟨by omega, fun h0 => ?_, fun h0 => ?_⟩⟩
  . rw [z125 hv]; exact ⟨⟨rfl, rfl, rfl⟩, ⟨rfl, rfl⟩, rfl, rfl⟩
  . rw [z126 hv (by omega)]; exact ⟨⟨rfl, rfl, rfl⟩, ⟨rfl, rfl⟩, rfl, rfl⟩
  . have hr := ((z40 b).1 hv).1
    rw [z127 hv (by omega)]
    exact ⟨⟨by omega, by omega⟩, zg (by omega) (by omega), ⟨by omega, by omega⟩, zom ⟨b.thread, b.first + 1, b.entries.drop 1⟩ (by rw [List.length_drop]; omega), ⟨rfl, rfl, rfl, fun _ _ => rfl⟩, ⟨rfl, rfl⟩, rfl, rfl⟩
theorem zml (b : Buf) (x : Int) (hv : vldB b = true) : z3m b x = zdw b x b.entries.length := by unfold z3m; rw [if_neg (by simp [hv])]
section
variable (b:Buf) (x:Int)
def q141:=(RR j6/\0=(z3m b x).fst)/\(RR j6/\0=(z3m b x).snd.fst)/\false=(z3m b x).snd.snd/\True
def q142:Int:=↑b.entries.length - 1
variable (x2:Nat)
def qjg:=x2<=b.entries.length/\zdw b x b.entries.length=zdw b x x2
variable (x1:Nat)
def q143:=inIx (qj x1) b.entries.length
def q144:Int:=b.first + qj x1
def q145:BEnt:=b.entries.getD (qj x1).toNat c0e
def q146:=(q145 b x2).var == x
variable (x0:Nat)
def q8q:Int:=qj x0 - 1
def q8r:=decide ((0:Int)<=↑x0 - (1:Int))
end
theorem zy7 (b:Buf) (x:Int):zqp b x=(KN 114 [AV.mc zo (encB b)] (AV.bool (vldB (dB (encB b))))/\((!vldB (dB (encB b)))=true->q141 b x)/\((!vldB (dB (encB b)))=false->↑b.entries.length<=(9223372036854775807:Int)/\InR j6 (q142 b)/\(∃ i,qjg b x i/\(RI x/\RR (AV.ptr (2:Nat) [])/\(RR j6/\q142 b=qj i)/\True)/\((68:Nat)=(68:TypeId)/\q8m b)/\True)/\∀ i:Nat,qjg b x i->(q8r i=true->q143 b i/\(q146 b x i=true->q143 b i/\InR j6 (q144 b i)/\(RR j6/\(q145 b i).val=(z3m b x).fst)/\(RR j6/\q144 b i=(z3m b x).snd.fst)/\true=(z3m b x).snd.snd/\True)/\(q146 b x i=false->InR j6 (q8q i)/\(∃ j,qjg b x j/\j < i/\(RI x/\RR (AV.ptr (2:Nat) [])/\(RR j6/\q8q i=qj j)/\True)/\(RR (68:TypeId)/\q8m b)/\True)))/\(q8r i=false->q141 b x))):=by kernel_rfl
theorem zy8 (b : Buf) (x : Int) (hn : b.entries.length <= 1000000) : Known Tryz.prog GG 229 [vB b, .int .i64 x] (.tup [.int .i64 (z3m b x).1, .int .i64 (z3m b x).2.1, .bool (z3m b x).2.2])  := by
  refine Known.of (V := vB4 37 (zy3 b x)) (fn := Tryz.f229) Tryz.func229 (by kernel_rfl) (zl _ _) rfl ?_
  show zqp b x
  rw [zy7]; try delta q141 q142 qjg qj q8m q143 q144 q145 q146 q8q q8r
  simp only [SB, inIx]
  refine ⟨zok b hn, fun hv => ?_, fun hv => ?_⟩
  . have e : z3m b x = (0, 0, false) := by unfold z3m; rw [if_pos hv]
    rw [e]; exact ⟨rfl, rfl, rfl⟩
  have hr := ((z40 b).1 hv).1
  have hL := zml b x hv
  refine ⟨by omega, zg (by omega) (by omega), ⟨_, ⟨Nat.le_refl _, rfl⟩, rfl⟩, fun i hi => ⟨fun h0 => ?_, fun h0 => ?_⟩⟩
  . obtain ⟨k, rfl⟩ : ∃ k, i = k + 1 := ⟨i - 1, by omega⟩
    have e : (((k + 1 : Nat) : Int) - 1).toNat = k := by omega
    rw [e, hL, hi.2]
    refine ⟨⟨by omega, by omega⟩, fun hx => ⟨⟨by omega, by omega⟩, zg (by omega) (by omega), ?_⟩, fun hx => ⟨zg (by omega) (by omega), k, ⟨by omega, ?_⟩, by omega, by omega⟩⟩
    . rw [zdw, if_pos hx]
      exact ⟨rfl, by simp, rfl⟩
    . rw [zdw, if_neg hx]
  . obtain rfl : i = 0 := by omega
    rw [hL, hi.2]
    exact ⟨rfl, rfl, rfl⟩
theorem zy9 (l:List Buf) (t:Int):zqq l t=(↑l.length<=(9223372036854775807:Int)/\(∃ i,q40 l t i/\(RI t/\(RW zo l.length fun i=>encB (l.getD i c0b))/\RI ↑l.length/\(RR j6/\(0:Int)=↑i)/\True)/\True)/\∀ i:Nat,q40 l t i->(q1j l i=true->inIx (↑i) l.length/\(q8o l t i=true->(RR j6/\↑i=max (fib l t) 0)/\true=q8n l t/\True)/\(q8o l t i=false->InR j6 (q8 i)/\(∃ j,q40 l t j/\l.length - j < l.length - i/\(RI t/\(RW zo l.length fun i=>encB (l.getD i c0b))/\RI ↑l.length/\(RR j6/\q8 i=↑j)/\True)/\True)))/\(q1j l i=false->(RR j6/\0=max (fib l t) 0)/\false=q8n l t/\True)):=by kernel_rfl
theorem zya (l : List Buf) (t : Int) (hl : l.length <= 1000000) : Known Tryz.prog GG 132 [rowB l, .int .i64 t] (.tup [.int .i64 (max (fib l t) 0), .bool (decide (0 <= fib l t))])  := by
  refine Known.of (V := vB4 21 (zy4 l t)) (fn := Tryz.f132) Tryz.func132 (by kernel_rfl) (zl _ _) rfl ?_
  show zqq l t
  rw [zy9]; try delta q40 q8n q8o q8 q1j
  simp only [SB, inIx]
  refine ⟨by omega, ⟨0, ⟨by omega, by rw [Nat.sub_zero]; rfl⟩, rfl⟩, fun i hi => ⟨fun hlt => ⟨hlt, fun h => ?_, fun h => ⟨zg (by omega) (by omega), i + 1, ⟨by omega, ?_⟩, by omega, by omega⟩⟩, fun hge => ?_⟩⟩
  . have e : fib l t = i := by rw [hi.2, zib l t i hlt, if_pos h]
    rw [e]; exact ⟨by omega, by simp⟩
  . rw [hi.2, zib l t i hlt, if_neg h]
  . have e : fib l t = -1 := by rw [hi.2, show l.length - i = 0 from by omega]; rfl
    rw [e]; exact ⟨rfl, rfl⟩
end
end
end Go.Proofs.S25
namespace Go.Proofs.S25
open Go Go.AV
open Go.IntKind renaming i64 -> j6
open Go.AV.Shape (leaf)
noncomputable section
noncomputable def zqr (p : PProg) (b : Int) : Prop := fnVc (vBu 20 fun _ => none) Tryz.f13 [vP p, .int .i64 b] (.tup [vSt (zi p b).1, .int .i64 (zi p b).2])
def zyb (s : SState) (k : Nat) : Option Inv := match Nat.beq k 5 with
  | true => some { ι := Nat, S := fun i => ⟨[(4, .ptr 4 []), (6, .ptr 6 []), (21, rowT s.thr), (22, .int .i64 s.thr.length), (23, .int .i64 i)], [(4, z3z c0st), (6, .cell 35 stSh (.agg [rowT s.thr, encM s.mem, .own 33 i])), (33, .row 68 zo i fun j => .agg [.int .i64 (s.thr.getD j c0t).id, .int .i64 0, .nils])]⟩, μ := fun i => s.thr.length - i, ok := fun i => i <= s.thr.length }
  | false => none
def vTn (ts : List Thr) : AV := .seq zo ts.length fun j => .agg [.int .i64 (ts.getD j c0t).id, .int .i64 0, .nils]
noncomputable def gTst (p : PProg) (b : Int) : Prop := fnVc (vBu 37 (zyb (z7 p b).1)) Tryz.f12 [vP p, .int .i64 b] (.tup [.mc stSh (.agg [rowT (zi p b).1.thr, encM (zi p b).1.mem, vTn (zi p b).1.thr]), .int .i64 (zi p b).2])
noncomputable def gTd1 (b : Buf) : Prop := fnVc (vBu 7 fun _ => none) Tryz.f34 [vB b] (.bool (decide (0 < b.entries.length)))
noncomputable def gTdr (s : SState) : Prop := fnVc (vBu 7 fun _ => none) Tryz.f15 [vSt s] (.bool (drnB s.bufs))
def zyc (l : List Buf) (k : Nat) : Option Inv := match Nat.beq k 2 with
  | true => some { ι := Nat, S := fun i => ⟨[(0, rowB l), (1, .clo 34 []), (7, .int .i64 l.length), (8, .int .i64 i)], []⟩, μ := fun i => l.length - i, ok := fun i => i <= l.length /\ idxF (fun b => decide (0 < b.entries.length)) l = zdv (fun b => decide (0 < b.entries.length)) l (l.length - i) }
  | false => none
noncomputable def gTif (l : List Buf) : Prop := fnVc (vBu 19 (zyc l)) Tryz.f67 [rowB l, .clo 34 []] (.int .i64 (idxF (fun b => decide (0 < b.entries.length)) l))
noncomputable def gTcf (l : List Buf) : Prop := fnVc (vBu 9 fun _ => none) Tryz.f33 [rowB l, .clo 34 []] (.bool (!drnB l))
end
end Go.Proofs.S25
namespace Go.Proofs.S25
open Go Go.AV
open Go.IntKind renaming i64 -> j6
open Go.AV.Shape (leaf)
noncomputable section
open Go.IntKind renaming i64 -> j6
open Go.AV.Shape (leaf)
noncomputable section

theorem zyd (s : SState) (hs : SSm s) : Known Tryz.prog GG 29 [vSt s, .nils] (vSt (zdu s [])) := by
  refine (zxy s [] hs (by show 0 <= _; omega) fun j => by show 0 <= _; omega).pre rfl fun w F v j hj h => ?_
  match j, hj with
  | 0, _ => exact h
  | 1, _ =>
    have h : RepS w F v .nils := h
    cases h
    exact .seq0 _ _ _ _
theorem zfj {p : PProg} {t : Thr} {s e : Int} (h : TWf p t) : TWf p (endT t s e) := ⟨⟨h.ok.regs, h.ok.id, h.ok.pc, h.ok.held⟩, h.fn, h.pc⟩
theorem zye {p : PProg} {b : Int} {t : Thr} {i : Inst} (h : TWf p t) : TWf p (vsT b t i) := by
  unfold vsT
  split
  . exact zfj h
  . split
    . exact zfj h
    . exact h
theorem zid {p : PProg} {b : Int} (hp : POk p) : ∀ (k : Nat) (t : Thr), TWf p t -> TWf p (z4x p b k t)
  | 0, t, h => by
    unfold z4x
    split
    . exact zfj h
    . split
      . exact zye h
      . exact zfj h
  | k + 1, t, h => by
    unfold z4x
    split
    . exact zfj h
    . rename_i ha
      have hl := zlr hp h (by simpa using ha)
      split
      . exact zye h
      . split
        . exact zid hp k _ hl
        . exact hl
theorem ztu {p : PProg} {b : Int} {t : Thr} (hp : POk p) (h : TWf p t) : TWf p (setl p b t) := zid hp _ _ h
theorem zmm : TOK c0t := ⟨rfl, by decide, by decide, by decide⟩
theorem zqs : MSm c0m := ⟨by decide, by decide, by decide, by decide, by decide⟩
theorem zmn : SSm c0st := ⟨by decide, fun j => zmm, zqs, by decide, fun j => by show 0 <= _; omega⟩
theorem ztv {p : PProg} (hp : PSm p) : MSm (newM p).1 := by
  unfold newM
  split
  . exact zqs
  . have h1 := hp.vars
    have h2 := hp.muts
    have h3 := hp.conds
    refine ⟨by simpa using h1, by simpa using h2, by simpa using h3, by show 0 <= _; omega, ?_⟩
    unfold allI
    rw [List.length_append]
    have : (List.replicate p.conds.length ([] : List Int)).flatten = [] := by simp
    show 0 + (List.replicate p.conds.length ([] : List Int)).flatten.length <= _
    rw [this]; decide
theorem za2 {p : PProg} {b : Int} (hp : PSm p) : SSm (z7 p b).1 := by
  unfold z7
  split
  . exact zmn
  . rename_i h
    have h : stdE p b = 0 := by omega
    have hk : POk p := ⟨hp, (z7b h).1⟩
    refine ⟨by show (z12x p b p.thr.length).length <= _; rw [z27]; exact hp.thr, fun j => ?_, ztv hp, by show 0 <= _; omega, fun j => by show 0 <= _; omega⟩
    show TOK ((z12x p b p.thr.length).getD j c0t)
    by_cases hj : j < p.thr.length
    . have e : (z12x p b p.thr.length).getD j c0t = (newT p b j (p.thr.getD j c0s).fn (p.thr.getD j c0s).arg).1 := by
        unfold z12x; simp [List.getD_eq_getElem?_getD, hj]
      rw [e, zfi hp h hj]
      exact (ztu hk (zgo (by have := hp.thr; omega) (hk.thr.2 j hj).1)).ok
    . rw [List.getD_eq_getElem?_getD, List.getElem?_eq_none (by rw [z27]; omega)]
      exact zmm
section
variable (p:PProg) (b:Int)
def q8s:=(z7 (dP (encP p)) b).snd != 0
def qca:List Thr:=dR dT (rowT (z7 (dP (encP p)) b).fst.thr)
def qjh:List Int:=dR dI (rowI (z7 (dP (encP p)) b).fst.mem.vars)
def qji:List Int:=dR dI (rowI (z7 (dP (encP p)) b).fst.mem.owners)
def qjj:List (List Int):=dR (dR dI) (rowQ (z7 (dP (encP p)) b).fst.mem.queues)
def qjk:List Int:=dR dI (rowI (z7 (dP (encP p)) b).fst.mem.sig)
def qjl:Nat:=(qca p b).length
def qjm:List Buf:=bufL (qca p b) [] (qjl p b)
def q147:Nat:=(qjh p b).length
def q148:Nat:=(qji p b).length
def q149:Nat:=(qjj p b).length
def q14a:Nat:=(qjk p b).length
def q14b:Nat:=(qjm p b).length
end
theorem zyf (p:PProg) (b:Int):zqr p b=(KN 19 [AV.mc za (encP p),AV.int j6 b] (AV.tup [AV.mc stSh (z15 (z7 (dP (encP p)) b).fst),AV.int j6 (z7 (dP (encP p)) b).snd])/\(q8s p b=true->(RR stSh/\(zi p b).fst.thr.length=0/\((zi p b).fst.mem.vars.length=0/\(zi p b).fst.mem.owners.length=0/\(zi p b).fst.mem.queues.length=0/\(zi p b).fst.mem.sig.length=0/\True)/\(zi p b).fst.bufs.length=0/\True)/\(RR j6/\(z7 (dP (encP p)) b).snd=(zi p b).snd)/\True)/\(q8s p b=false->KN 29 [AV.mc stSh (z15 (z7 (dP (encP p)) b).fst),AV.nils] (AV.mc stSh (AV.agg [rowT (qca p b),AV.agg [rowI (qjh p b),rowI (qji p b),rowQ (qjj p b),rowI (qjk p b)],rowB (qjm p b)]))/\(RR stSh/\(RR zd/\qjl p b=(zi p b).fst.thr.length/\∀ i:Nat,i < qjl p b->encT ((qca p b).getD i c0t)=encT ((zi p b).fst.thr.getD i c0t))/\((RR leaf/\q147 p b=(zi p b).fst.mem.vars.length/\∀ i:Nat,i < q147 p b->AV.int j6 ((qjh p b).getD i 0)=AV.int j6 ((zi p b).fst.mem.vars.getD i 0))/\(RR leaf/\q148 p b=(zi p b).fst.mem.owners.length/\∀ i:Nat,i < q148 p b->AV.int j6 ((qji p b).getD i 0)=AV.int j6 ((zi p b).fst.mem.owners.getD i 0))/\(RR leaf/\q149 p b=(zi p b).fst.mem.queues.length/\∀ i:Nat,i < q149 p b->rowI ((qjj p b).getD i [])=rowI ((zi p b).fst.mem.queues.getD i []))/\(RR leaf/\q14a p b=(zi p b).fst.mem.sig.length/\∀ i:Nat,i < q14a p b->AV.int j6 ((qjk p b).getD i 0)=AV.int j6 ((zi p b).fst.mem.sig.getD i 0))/\True)/\(RR zo/\q14b p b=(zi p b).fst.bufs.length/\∀ i:Nat,i < q14b p b->encB ((qjm p b).getD i c0b)=encB ((zi p b).fst.bufs.getD i c0b))/\True)/\(RR j6/\0=(zi p b).snd)/\True)):=by kernel_rfl
theorem zyg (p : PProg) (b : Int) (hp : PSm p) : Known Tryz.prog GG 13 [vP p, .int .i64 b] (.tup [vSt (zi p b).1, .int .i64 (zi p b).2])  := by
  refine Known.of (V := vBu 20 fun _ => none) (fn := Tryz.f13) Tryz.func13 (by kernel_rfl) (zl _ _) rfl ?_
  show zqr p b
  rw [zyf]; try delta q8s qca qjh qji qjj qjk qjl qjm q147 q148 q149 q14a q14b
  simp only [SB]
  refine ⟨ztt p b hp, fun h => ?_, fun h => ?_⟩
  . have hz : stdE p b ≠ 0 := fun hz => h (by unfold z7; rw [if_neg (by simp [hz])])
    have e1 : z7 p b = (c0st, stdE p b) := by unfold z7; rw [if_pos hz]
    have e2 : zi p b = (c0st, stdE p b) := by unfold zi; rw [if_pos hz]
    rw [e1, e2]; exact ⟨⟨rfl, zMem, rfl⟩, rfl⟩
  . have hz : stdE p b = 0 := by
      refine Classical.byContradiction fun hz => ?_
      unfold z7 at h; rw [if_pos hz] at h; exact hz h
    have e2 : zi p b = (zdu (z7 p b).1 [], 0) := by unfold zi; rw [if_neg (by simp [hz])]
    rw [e2, zlg (za2 hp).r8]
    exact ⟨zyd _ (za2 hp), ⟨⟨rfl, fun _ _ => rfl⟩, ⟨⟨rfl, fun _ _ => rfl⟩, ⟨rfl, fun _ _ => rfl⟩, ⟨rfl, fun _ _ => rfl⟩, rfl, fun _ _ => rfl⟩, rfl, fun _ _ => rfl⟩, rfl⟩
section
variable (p:PProg) (b:Int)
def q14c:=(zi p b).fst.thr.length=0
def q14d:Int:=↑(z7 (dP (encP p)) b).fst.thr.length
variable (x2:Nat)
def qjn:=x2<=(z7 p b).fst.thr.length
def q14e:=RR zd/\(z7 (dP (encP p)) b).fst.thr.length=(z7 p b).fst.thr.length/\∀ (i:Nat),i < (z7 (dP (encP p)) b).fst.thr.length->encT ((z7 (dP (encP p)) b).fst.thr.getD i c0t)=encT ((z7 p b).fst.thr.getD i c0t)
def qjo:=AV.int j6 ((z7 p b).fst.mem.vars.getD x2 0)
def qjp:=AV.int j6 ((z7 p b).fst.mem.owners.getD x2 0)
def q14f:Nat:=(z7 (dP (encP p)) b).fst.mem.queues.length
def qjq:=rowI ((z7 p b).fst.mem.queues.getD x2 [])
def qjr:=AV.int j6 ((z7 p b).fst.mem.sig.getD x2 0)
def q14g:Nat:=(z7 p b).fst.thr.length - x2
def q14h:=RW zd (z7 p b).fst.thr.length fun i=>encT ((z7 p b).fst.thr.getD i c0t)
def qjs:=AV.agg (AV.int j6 ((z7 p b).fst.thr.getD x2 c0t).id::q5c)
def q14i:List AV:=AV.int j6 0::q5c
def q14j:=decide ((↑x2:Int) < (↑(z7 p b).fst.thr.length:Int))
end
theorem eTst (p:PProg) (b:Int):gTst p b=(KN 28 [AV.mc za (encP p),AV.int j6 b] (AV.tup [AV.mc stSh (AV.agg [rowT (z7 (dP (encP p)) b).fst.thr,encM (z7 (dP (encP p)) b).fst.mem,AV.nils]),AV.int j6 (z7 (dP (encP p)) b).snd])/\(q8s p b=true->(RR stSh/\q14c p b/\((zi p b).fst.mem.vars.length=0/\(zi p b).fst.mem.owners.length=0/\(zi p b).fst.mem.queues.length=0/\(zi p b).fst.mem.sig.length=0/\True)/\q14c p b/\True)/\(RR j6/\(z7 (dP (encP p)) b).snd=(zi p b).snd)/\True)/\(q8s p b=false->q14d p b<=9223372036854775807/\(∃ (i:Nat),qjn p b i/\(RR (AV.ptr (4:Nat) [])/\RR (AV.ptr (6:Nat) [])/\q14e p b/\(RR j6/\q14d p b=(↑(List.length (SState.thr (Prod.fst (z7 p b)))):Int))/\(RR j6/\(0:Int)=(↑i:Int))/\True)/\((35:Nat)=(35:TypeId)/\RR stSh/\(0:Nat)=(0:Nat)/\((0:Nat)=(0:Nat)/\(0:Nat)=(0:Nat)/\(0:Nat)=(0:Nat)/\(0:Nat)=(0:Nat)/\True)/\(0:Nat)=(0:Nat)/\True)/\((35:Nat)=(35:TypeId)/\RR stSh/\q14e p b/\((RR leaf/\List.length (Mem.vars (SState.mem (Prod.fst (z7 (dP (encP p)) b))))=List.length (Mem.vars (SState.mem (Prod.fst (z7 p b))))/\∀ (i:Nat),i < List.length (Mem.vars (SState.mem (Prod.fst (z7 (dP (encP p)) b))))->AV.int j6 (List.getD (Mem.vars (SState.mem (Prod.fst (z7 (dP (encP p)) b)))) i (0:Int))=qjo p b i)/\(RR leaf/\List.length (Mem.owners (SState.mem (Prod.fst (z7 (dP (encP p)) b))))=List.length (Mem.owners (SState.mem (Prod.fst (z7 p b))))/\∀ (i:Nat),i < List.length (Mem.owners (SState.mem (Prod.fst (z7 (dP (encP p)) b))))->AV.int j6 (List.getD (Mem.owners (SState.mem (Prod.fst (z7 (dP (encP p)) b)))) i (0:Int))=qjp p b i)/\(RR leaf/\q14f p b=List.length (Mem.queues (SState.mem (Prod.fst (z7 p b))))/\∀ (i:Nat),i < q14f p b->rowI (List.getD (Mem.queues (SState.mem (Prod.fst (z7 (dP (encP p)) b)))) i [])=qjq p b i)/\(RR leaf/\List.length (Mem.sig (SState.mem (Prod.fst (z7 (dP (encP p)) b))))=List.length (Mem.sig (SState.mem (Prod.fst (z7 p b))))/\∀ (i:Nat),i < List.length (Mem.sig (SState.mem (Prod.fst (z7 (dP (encP p)) b))))->AV.int j6 (List.getD (Mem.sig (SState.mem (Prod.fst (z7 (dP (encP p)) b)))) i (0:Int))=qjr p b i)/\True)/\(i=(0:Nat)/\RR true/\RR true)/\True)/\(i=(0:Nat)/\RR true)/\True)/\∀ i:Nat,qjn p b i->(q14j p b i=true->inIx (↑i) (z7 p b).fst.thr.length/\1 * zo.size<=16777216/\(RR i/\↑(qb i) * ↑(40:Nat)<=(140737488355328:Int)/\qb i<=9223372036854775807)/\1<=1/\InR j6 (q8 i)/\(∃ (j:Nat),qjn p b j/\q14g p b j < q14g p b i/\(RR (AV.ptr (4:Nat) [])/\RR (AV.ptr (6:Nat) [])/\q14h p b/\RI (↑(List.length (SState.thr (Prod.fst (z7 p b)))):Int)/\(RR j6/\q8 i=(↑j:Int))/\True)/\(RR (35:TypeId)/\RR stSh/\(RW zd ((0:Nat)) fun (i:Nat)=>encT (List.getD [] i c0t))/\(qe/\qe/\(RW leaf ((0:Nat)) fun (i:Nat)=>rowI (List.getD [] i []))/\qe/\True)/\(RW zo ((0:Nat)) fun (i:Nat)=>encB (List.getD [] i c0b))/\True)/\(RR (35:TypeId)/\RR stSh/\q14h p b/\((RW leaf (List.length (Mem.vars (SState.mem (Prod.fst (z7 p b))))) fun (i:Nat)=>qjo p b i)/\(RW leaf (List.length (Mem.owners (SState.mem (Prod.fst (z7 p b))))) fun (i:Nat)=>qjp p b i)/\(RW leaf (List.length (Mem.queues (SState.mem (Prod.fst (z7 p b))))) fun (i:Nat)=>qjq p b i)/\(RW leaf (List.length (Mem.sig (SState.mem (Prod.fst (z7 p b))))) fun (i:Nat)=>qjr p b i)/\True)/\(RR (33:Nat)/\qi i j)/\True)/\(RR (68:TypeId)/\RR zo/\qi i j/\∀ (i_1:Nat),i_1 < qb i->(if i_1 < i then qjs p b i_1 else List.getD (List.set (List.replicate (1:Nat) (AV.agg q14i)) (0:Nat) (AV.agg (List.set q14i (0:Nat) (strip1 (AV.int j6 (Thr.id (List.getD (SState.thr (Prod.fst (z7 p b))) (Int.toNat (↑i:Int)) c0t))))))) (i_1 - i) AV.any)=qjs p b i_1)/\True))/\(q14j p b i=false->i<=i/\(RR stSh/\(RR zd/\(z7 p b).fst.thr.length=(zi p b).fst.thr.length/\∀ (i:Nat),i < (z7 p b).fst.thr.length->encT ((z7 p b).fst.thr.getD i c0t)=encT ((zi p b).fst.thr.getD i c0t))/\((RR leaf/\(z7 p b).fst.mem.vars.length=(zi p b).fst.mem.vars.length/\∀ (i:Nat),i < (z7 p b).fst.mem.vars.length->qjo p b i=AV.int j6 ((zi p b).fst.mem.vars.getD i 0))/\(RR leaf/\(z7 p b).fst.mem.owners.length=(zi p b).fst.mem.owners.length/\∀ (i:Nat),i < (z7 p b).fst.mem.owners.length->qjp p b i=AV.int j6 ((zi p b).fst.mem.owners.getD i 0))/\(RR leaf/\(z7 p b).fst.mem.queues.length=(zi p b).fst.mem.queues.length/\∀ (i:Nat),i < (z7 p b).fst.mem.queues.length->qjq p b i=rowI ((zi p b).fst.mem.queues.getD i []))/\(RR leaf/\(z7 p b).fst.mem.sig.length=(zi p b).fst.mem.sig.length/\∀ (i:Nat),i < (z7 p b).fst.mem.sig.length->qjr p b i=AV.int j6 ((zi p b).fst.mem.sig.getD i 0))/\True)/\(RR zo/\i=(zi p b).fst.thr.length/\∀ (i_1:Nat),i_1 < i->qjs p b i_1=AV.agg (AV.int j6 ((zi p b).fst.thr.getD i_1 c0t).id::q5c))/\True)/\(RR j6/\0=(zi p b).snd)/\True))):=by kernel_rfl
theorem kTst (p : PProg) (b : Int) (hp : PSm p) : Known Tryz.prog GG 12 [vP p, .int .i64 b] (.tup [.mc stSh (.agg [rowT (zi p b).1.thr, encM (zi p b).1.mem, vTn (zi p b).1.thr]), .int .i64 (zi p b).2])  := by
  refine Known.of (V := vBu 37 (zyb (z7 p b).1)) (fn := Tryz.f12) Tryz.func12 (by kernel_rfl) (zl _ _) rfl ?_
  show gTst p b
  rw [eTst]; try delta q14c q8s q14d qjn q14e qjo qjp q14f qjq qjr qb q8 q14g q14h qe qi q5c qjs q14i q14j
  simp only [SB, inIx]
  refine ⟨ztn p b hp, fun h => ?_, fun h => ?_⟩
  . have hz : stdE p b ≠ 0 := fun hz => h (by unfold z7; rw [if_neg (by simp [hz])])
    have e1 : z7 p b = (c0st, stdE p b) := by unfold z7; rw [if_pos hz]
    have e2 : zi p b = (c0st, stdE p b) := by unfold zi; rw [if_pos hz]
    rw [e1, e2]; exact ⟨⟨rfl, zMem, rfl⟩, rfl⟩
  . have hz : stdE p b = 0 := by
      refine Classical.byContradiction fun hz => ?_
      unfold z7 at h; rw [if_pos hz] at h; exact hz h
    have e2 : zi p b = (zdu (z7 p b).1 [], 0) := by unfold zi; rw [if_neg (by simp [hz])]
    have h1 := (za2 (b := b) hp).thr
    refine ⟨by omega, ⟨0, by omega, rfl, rfl, rfl⟩, fun i hi => ⟨fun hlt => ⟨hlt, by decide, by omega, zg (by omega) (by omega), i + 1, by omega, by omega, by omega, rfl, rfl, fun j hj => ?_⟩, fun hge => ?_⟩⟩
    . split
      . rfl
      . rw [show j = i from by omega, Nat.sub_self]; rfl
    . rw [e2, show i = (z7 p b).1.thr.length from by omega]
      exact ⟨⟨⟨rfl, fun _ _ => rfl⟩, ⟨⟨rfl, fun _ _ => rfl⟩, ⟨rfl, fun _ _ => rfl⟩, ⟨rfl, fun _ _ => rfl⟩, rfl, fun _ _ => rfl⟩, rfl, fun _ _ => rfl⟩, rfl⟩
theorem eTd1 (b:Buf):gTd1 b=(↑b.entries.length<=(9223372036854775807:Int)/\decide ((0:Int) < ↑b.entries.length)=decide ((0:Nat) < b.entries.length)):=by kernel_rfl
theorem kTd1 (b : Buf) (hb : b.entries.length <= 140737488355328) : Known Tryz.prog GG 34 [vB b] (.bool (decide (0 < b.entries.length)))  := by
  refine Known.of (V := vBu 7 fun _ => none) (fn := Tryz.f34) Tryz.func34 (by kernel_rfl) (zl _ _) rfl ?_
  show gTd1 b
  rw [eTd1]
  exact ⟨by omega, by rw [Bool.eq_iff_iff, decide_eq_true_eq, decide_eq_true_eq]; omega⟩
theorem zmo (P : Buf -> Bool) (l : List Buf) (i : Nat) (hi : i < l.length) : zdv P l (l.length - i) = if P (l.getD i c0b) then (i : Int) else zdv P l (l.length - (i + 1)) := by
  obtain ⟨k, hk⟩ : ∃ k, l.length - i = k + 1 := ⟨l.length - i - 1, by omega⟩
  rw [hk]
  show (if P (l.getD (l.length - (k + 1)) c0b) then ((l.length - (k + 1) : Nat) : Int) else zdv P l k) = _
  rw [show l.length - (k + 1) = i from by omega, show l.length - (i + 1) = k from by omega]
def q14k:Buf->Bool:=fun b=>decide (0 < b.entries.length)
section
variable (l:List Buf)
def qjt:Int:=idxF q14k l
variable (x1:Nat)
def qju:=x1<=l.length/\qjt l=zdv q14k l (l.length - x1)
def qjv:=decide (0 < (dR dE (rowE (l.getD (↑x1:Int).toNat c0b).entries)).length)
end
theorem eTif (l:List Buf):gTif l=(↑l.length<=(9223372036854775807:Int)/\(∃ i,qju l i/\((RW zo l.length fun i=>encB (l.getD i c0b))/\RR (AV.clo (34:FuncId) [])/\RI ↑l.length/\(RR j6/\(0:Int)=↑i)/\True)/\True)/\∀ i:Nat,qju l i->(q1j l i=true->inIx (↑i) l.length/\KN 34 [AV.mc zo (encB (l.getD (↑i:Int).toNat c0b))] (AV.bool (qjv l i))/\(qjv l i=true->RR j6/\↑i=qjt l)/\(qjv l i=false->InR j6 (q8 i)/\(∃ j,qju l j/\l.length - j < l.length - i/\((RW zo l.length fun i=>encB (l.getD i c0b))/\RR (AV.clo 34 [])/\RI ↑l.length/\(RR j6/\q8 i=↑j)/\True)/\True)))/\(q1j l i=false->RR j6/\-1=qjt l)):=by kernel_rfl
theorem kTif (l : List Buf) (hl : l.length <= 1000000) (he : ∀ j, (l.getD j c0b).entries.length <= 140737488355328) : Known Tryz.prog GG 67 [rowB l, .clo 34 []] (.int .i64 (idxF (fun b => decide (0 < b.entries.length)) l))  := by
  refine Known.of (V := vBu 19 (zyc l)) (fn := Tryz.f67) Tryz.func67 (by kernel_rfl) (zl _ _) rfl ?_
  show gTif l
  rw [eTif]; try delta q14k qjt qju qjv q8 q1j
  simp only [SB, inIx]
  refine ⟨by omega, ⟨0, ⟨by omega, by rw [Nat.sub_zero]; rfl⟩, rfl⟩, fun i hi => ⟨fun hlt => ⟨hlt, kTd1 _ (he i), fun h => ?_, fun h => ⟨zg (by omega) (by omega), i + 1, ⟨by omega, ?_⟩, by omega, by omega⟩⟩, fun hge => ?_⟩⟩
  . rw [hi.2, zmo _ l i hlt, if_pos (decide_eq_true h)]
  . rw [hi.2, zmo _ l i hlt, if_neg (by simpa using h)]
  . rw [hi.2, show l.length - i = 0 from by omega]; rfl
theorem zie (l : List Buf) : ∀ k, k <= l.length -> (0 <= zdv (fun b => decide (0 < b.entries.length)) l k ↔ ∃ j, l.length - k <= j /\ j < l.length /\ 0 < (l.getD j c0b).entries.length)
  | 0, _ => ⟨fun h => absurd (show (0 : Int) <= -1 from h) (by decide), fun ⟨j, h1, h2, _⟩ => by omega⟩
  | k + 1, hk => by
    unfold zdv
    split
    . rename_i q
      exact ⟨fun _ => ⟨l.length - (k + 1), by omega, by omega, of_decide_eq_true q⟩, fun _ => by omega⟩
    . rename_i q
      rw [zie l k (by omega)]
      constructor
      . rintro ⟨j, h1, h2, h3⟩; exact ⟨j, by omega, h2, h3⟩
      . rintro ⟨j, h1, h2, h3⟩
        refine ⟨j, ?_, h2, h3⟩
        by_cases e : j = l.length - (k + 1)
        . subst e; exact absurd (decide_eq_true h3) q
        . omega
theorem ztw (l : List Buf) : decide (0 <= idxF (fun b => decide (0 < b.entries.length)) l) = !drnB l := by
  rw [Bool.eq_iff_iff, decide_eq_true_eq]
  unfold idxF
  rw [zie l _ (Nat.le_refl _)]
  unfold drnB
  rw [Bool.not_eq_true', <- Bool.not_eq_true, z1u l _ c0b]
  constructor
  . rintro ⟨j, _, h2, h3⟩ h
    have := h j h2
    rw [beq_iff_eq] at this; omega
  . intro h
    refine Classical.byContradiction fun hn => h fun j hj => ?_
    rw [beq_iff_eq]
    exact Nat.eq_zero_of_not_pos fun h3 => hn ⟨j, by omega, hj, h3⟩
theorem eTcf (l:List Buf):gTcf l=((KN 67 [rowB l,AV.clo (34:FuncId) []] (AV.int j6 (idxF (fun b=>decide ((0:Nat) < b.entries.length)) (dR dB (rowB l)))))/\decide (0<=idxF (fun b=>decide (0 < b.entries.length)) (dR dB (rowB l)))=!drnB l):=by kernel_rfl
theorem kTcf (l : List Buf) (hl : l.length <= 1000000) (he : ∀ j, (l.getD j c0b).entries.length <= 140737488355328) : Known Tryz.prog GG 33 [rowB l, .clo 34 []] (.bool (!drnB l))  := by
  refine Known.of (V := vBu 9 fun _ => none) (fn := Tryz.f33) Tryz.func33 (by kernel_rfl) (zl _ _) rfl ?_
  show gTcf l
  rw [eTcf]
  simp only [SB]
  exact ⟨kTif l hl he, ztw l⟩
theorem eTdr (s:SState):gTdr s=(KN 33 [rowB s.bufs,AV.clo (34:Nat) []] (AV.bool !drnB (dR dB (rowB s.bufs)))/\(!!drnB (dR dB (rowB s.bufs)))=drnB s.bufs):=by kernel_rfl
theorem kTdr (s : SState) (hb : s.bufs.length <= 1000000) (he : ∀ j, (s.bufs.getD j c0b).entries.length <= 140737488355328) : Known Tryz.prog GG 15 [vSt s] (.bool (drnB s.bufs))  := by
  refine Known.of (V := vBu 7 fun _ => none) (fn := Tryz.f15) Tryz.func15 (by kernel_rfl) (zl _ _) rfl ?_
  show gTdr s
  rw [eTdr]
  simp only [SB]
  exact ⟨kTcf _ hb he, by simp⟩
theorem zgs (p : PProg) (b : Int) : (zi p b).1.bufs = bufL (zi p b).1.thr [] (zi p b).1.thr.length := by
  unfold zi; split <;> rfl
theorem kTst' (p : PProg) (b : Int) (hp : PSm p) : Known Tryz.prog GG 12 [vP p, .int .i64 b] (.tup [vSt (zi p b).1, .int .i64 (zi p b).2]) := by
  refine (kTst p b hp).imp fun w F v h => RepR.of_tup (r := [_, _]) (r' := [_, _]) (by rfl) (fun j hj u hu => ?_) h
  match j, hj with
  | 1, _ => exact hu
  | 0, _ =>
    have hu : RepS w F u (.mc stSh (.agg [rowT (zi p b).1.thr, encM (zi p b).1.mem, vTn (zi p b).1.thr])) := hu
    cases hu with
    | mc cs sh x hs hr =>
      refine .mc cs _ _ hs fun j hj => ?_
      have h := hr j hj
      match j, hj with
      | 0, _ | 1, _ | 2, _ | 3, _ | 4, _ => exact h
      | 5, _ =>
        show RepS w F _ (rowB (zi p b).1.bufs)
        rw [zgs]
        exact zql (zi p b).1.thr [] _ (Nat.le_refl _) h
end
end
end Go.Proofs.S25
namespace Go.Proofs.S25
open Go Go.AV Go.RowKit Go.Lib
set_option maxHeartbeats 2000000 in
set_option maxRecDepth 100000 in
theorem zbi (ad : Addr) (n c : Nat) (news : List Value) (w : World) (hl : news.length = n * 2) (hbig : n * 16 <= 140737488355328) (hc : ∀ j u, news[j]? = some u -> w.cell? (ad.add j) = some u) (h1 : ∀ u ∈ news, u.oneCell' = true) :
    Calls Tryz.prog 187 #[.slice (some ad) n c] w fun e w' => ∃ v', e = .returned v' /\ w'.ownsRow w.heap.size 118 2 v' n news /\ v' ≠ .slice none 0 0 /\ Below w.heap.size w w' := by
  have mixed : Tryz.prog.follows .mixedOrders = true := by kernel_rfl
  have t22 : Tryz.prog.underlying 66 = some (TypeDesc.slice 118) := by kernel_rfl
  obtain ⟨i0, hi, hz0, hz1, hz2⟩ := info_parts (P := Tryz.prog) (e := 118) (z := .agg #[.int .i64 0, .int .i64 0]) (size := 2) (bytes := 16) (by kernel_rfl)
  have q22 : ∀ (w : World) (a : Option Addr) (n c n' c' : Nat), (binOp .eql 66 (.slice a n c) (.slice none n' c')).run Tryz.prog w = .ok (.bool a.isNone) w := fun w a n c n' c' => Lib.run_eql_slice_nil w _ _ a n c n' c' t22
  have u22 : ∀ w, Sem.run Tryz.prog (underlying 66) w = .ok (TypeDesc.slice 118) w := run_underlying t22
  have A : Aside (∀ j u, news[j]? = some u -> w.cell? (ad.add j) = some u) := hc
  clear hc
  go_enter Tryz.func187, Tryz.ntmps187
  go_wp2_with (at_builtin; refine wpList_append_own _ rfl _ _ 66 rfl w.heap.size 118 i0 (.agg #[.int .i64 0, .int .i64 0]) 2 16 t22 hi hz0 hz1 hz2 rfl (by decide) _ _ _ rfl (World.ownsRow_made w #[] 0 (Nat.le_refl _) (Nat.zero_le _) rfl) ad n c news rfl hl ?qc2 h1 ?qc4 ?qc5 ?qc6 ?_)
  case qc2 => exact fun j u hj => Lib.cell?_alloc_some _ (A.out j u hj)
  case qc4 => unfold maxLen; omega
  case qc5 => omega
  case qc6 => simp
  intro v' w1 hown hgrow hnil
  go_wp2
  go_ret
  refine ⟨v', rfl, by simpa using hown, ?_, ?_⟩
  . exact hnil
  . exact ((Below.refl _ w).alloc (Nat.le_refl _) _).grown hgrow (by simp) (by intro k hk; simp [Value.ownBlock] at hk; omega)
theorem zjc (n c : Nat) (w : World) : Calls Tryz.prog 187 #[.slice none n c] w fun e w' => e = .returned (.slice none 0 0) /\ w' = w := by
  have mixed : Tryz.prog.follows .mixedOrders = true := by kernel_rfl
  have t22 : Tryz.prog.underlying 66 = some (TypeDesc.slice 118) := by kernel_rfl
  have q22 : ∀ (w : World) (a : Option Addr) (n c n' c' : Nat), (binOp .eql 66 (.slice a n c) (.slice none n' c')).run Tryz.prog w = .ok (.bool a.isNone) w := fun w a n c n' c' => Lib.run_eql_slice_nil w _ _ a n c n' c' t22
  go_enter Tryz.func187, Tryz.ntmps187
  go_wp2
  go_ret
  exact ⟨rfl, rfl⟩
abbrev entB (l : List BEnt) : BoxC := .row 118 ze l.length fun i => encE (l.getD i c0e)
def zcl (cs : Nat -> Nat -> Value) (n : Nat) : List Value := (List.range (n * 2)).map fun j => cs (j / 2) (j % 2)
theorem zon (l : List BEnt) (hl : l.length <= 1000000) : KnownF Tryz.prog GG 187 [rowE l] (.own 0 l.length) [entB l] := by
  refine ⟨z1d.of Tryz.func187 (by kernel_rfl) (by kernel_rfl), ?_⟩
  intro w F vs hro hglob hsz hr
  obtain ⟨v, rfl⟩ : ∃ v, vs = #[v] := by
    match vs, hsz with
    | ⟨[c]⟩, _ => exact ⟨c, rfl⟩
  have hv : RepS w F v (rowE l) := hr 0 (by simp)
  have one : ∀ i c, ([entB l] : List BoxC)[i]? = some c -> i = 0 /\ c = entB l := by
    intro i c hc
    match i, hc with
    | 0, hc => cases hc; exact ⟨rfl, rfl⟩
  have own : ∀ (news : List Value) v' w', w'.ownsRow w.heap.size 118 2 v' l.length news -> (∀ i, i < l.length -> ∀ j, j < 2 -> ∃ u, news[i * 2 + j]? = some u /\ RepS w F u (z6 ze (encE (l.getD i c0e)) j)) -> Below w.heap.size w w' -> ∃ v F' φ', (Ending.returned v' : Ending) = .returned v /\ Below w.heap.size w w' /\ (∀ k, F k -> F' k) /\ (∀ k, F' k -> F k ∨ w.heap.size <= k) /\ (∀ k, F' k -> k < w'.heap.size) /\ Rep w' F' φ' v (.own 0 l.length) /\
      (∀ i c, ([entB l] : List BoxC)[i]? = some c -> z1i w' F' φ' (fun k => w.heap.size <= k) i c) /\ ∀ i i' g, i < ([entB l] : List BoxC).length -> i' < ([entB l] : List BoxC).length -> (φ' i).blk = some g -> (φ' i').blk = some g -> i = i' := by
    intro news v' w' hown hR hbel
    have hbk : ∀ k, v'.ownBlock = some k -> w.heap.size <= k := by
      intro k hk
      rcases hown.2 with ⟨rfl, _⟩ | ⟨g, cap, cur, rfl, hbg, _⟩
      . cases hk
      . cases hk; exact hbg
    obtain ⟨pl, p1, p2, p3, hpl⟩ := z35 (w := w') (F := F) (b := 0) (sh := ze) (B := fun k => w.heap.size <= k) (f := fun i => encE (l.getD i c0e)) hown hbk (fun k hk hf => by have := hbk k hk; have := hro k hf; omega) fun i hi j hj => by
      obtain ⟨u, h1, h2⟩ := hR i hi j hj
      exact ⟨u, h1, h2.keep (fun k hk => hbel.block k (hro k hk)) fun _ h => h⟩
    obtain ⟨h1, h2⟩ := hpl (fun _ => pl) rfl
    refine ⟨v', F, fun _ => pl, rfl, hbel, fun _ h => h, fun _ h => .inl h, fun k hk => Nat.lt_of_lt_of_le (hro k hk) hbel.size, h2, fun i c hc => ?_, fun i i' g hi hi' _ _ => ?_⟩
    . obtain ⟨rfl, rfl⟩ := one i c hc
      exact h1
    . simp at hi hi'; omega
  have hv' : RepS w F v (.seq ze l.length fun i => encE (l.getD i c0e)) := hv
  generalize hn : l.length = n at hv'
  cases hv' with
  | seq0 a cap sh f =>
    have hl0 : l = [] := List.eq_nil_of_length_eq_zero hn
    subst hl0
    cases a with
    | none =>
      refine (zjc 0 cap w).mono ?_
      rintro e w' ⟨rfl, rfl⟩
      exact own [] _ _ ⟨rfl, .inl ⟨rfl, rfl⟩⟩ (fun i hi => absurd hi (Nat.not_lt_zero i)) (Below.refl _ _)
    | some a =>
      refine (zbi a 0 cap [] w rfl (by decide) (by intro j u hj; simp at hj) (by intro u hu; cases hu)).mono ?_
      rintro e w' ⟨v', rfl, h1, _, h2⟩
      exact own [] _ _ h1 (fun i hi => absurd hi (Nat.not_lt_zero i)) h2
  | seq g o n cap sh f cs hF hnc hc hrr =>
    subst hn
    have get : ∀ i j, i < l.length -> j < 2 -> (zcl cs l.length)[i * 2 + j]? = some (cs i j) := by
      intro i j hi hj
      unfold zcl
      rw [List.getElem?_map, List.getElem?_range (by omega)]
      show some (cs ((i * 2 + j) / 2) ((i * 2 + j) % 2)) = _
      rw [show (i * 2 + j) / 2 = i by omega, show (i * 2 + j) % 2 = j by omega]
    have split : ∀ j u, (zcl cs l.length)[j]? = some u -> j / 2 < l.length /\ u = cs (j / 2) (j % 2) := by
      intro j u hj
      have hlt := (List.getElem?_eq_some_iff.1 hj).1
      have hlt : j < l.length * 2 := by simpa [zcl] using hlt
      have := get (j / 2) (j % 2) (by omega) (by omega)
      rw [show j / 2 * 2 + j % 2 = j by omega, hj] at this
      exact ⟨by omega, Option.some.inj this⟩
    refine (zbi ⟨g, o, none⟩ l.length cap (zcl cs l.length) w (by simp [zcl]) (by omega) (fun j u hj => ?_) fun u hu => ?_).mono ?_
    . obtain ⟨h1, rfl⟩ := split j u hj
      have := hc (j / 2) h1 (j % 2) (Nat.mod_lt _ (by decide))
      have e : o + (j / 2 * ze.size + j % 2) = o + j := by
        show o + (j / 2 * 2 + j % 2) = o + j
        omega
      rw [e] at this
      unfold Addr.add
      split
      . rename_i q; subst q; exact this
      . exact this
    . obtain ⟨j, hj⟩ := List.getElem?_of_mem hu
      obtain ⟨h1, rfl⟩ := split j u hj
      exact RepS.leaf1 _ _ _ (hrr (j / 2) h1 (j % 2) (Nat.mod_lt _ (by decide)))
    . rintro e w' ⟨v', rfl, h1, _, h2⟩
      exact own _ _ _ h1 (fun i hi j hj => ⟨_, get i j hi hj, hrr i hi j hj⟩) h2
theorem ztx (l : List BEnt) (hl : l.length <= 1000000) : Known Tryz.prog GG 187 [rowE l] (rowE l) := (zon l hl).stat
theorem zty (l : List Int) (hl : l.length <= 1000000) : Known Tryz.prog GG 186 [rowI l] (rowI l) := (zdk l hl).stat
end Go.Proofs.S25
namespace Go.Proofs.S25
open Go Go.AV
open Go.IntKind renaming i64 -> j6
open Go.AV.Shape (leaf)
noncomputable section
def spMc : FuncId -> List AV -> Option AV
  | 185, [.mc _ m] => some (vM (dM m))
  | 186, [.seq _ n f] => some (rowI (z1b n f))
  | 187, [.seq _ n f] => some (rowE (dR dE (.seq ze n f)))
  | f, l => spB4 f l
noncomputable def vMc (n : Nat) (inv : Nat -> Option Inv) : VCtx := { C := cfgM n fun _ _ => false, CC := Known Tryz.prog GG, orc := fun _ _ => spMc, inv := inv }
def zmp (s : SState) : AV := .mc stSh (.agg [.own 0 s.thr.length, encM s.mem, .own 1 s.bufs.length])
def zgt (s : SState) : List BoxC := [tBox s.thr, bBox s.bufs]
noncomputable def zyh (m : Mem) : Prop := fnVc (vM3 36 (fun d => Nat.beq d 8 || (Nat.beq d 11 || Nat.beq d 18)) (zo9 m)) Tryz.f185 [vM m] (vM m)
def zyi (s : SState) (k : Nat) : Option Inv := match Nat.beq k 5 with
  | true => some { ι := Nat, S := fun i => ⟨[(1, .ptr 1 []), (2, .ptr 2 []), (3, .ptr 3 []), (22, .int .i64 s.thr.length), (23, .int .i64 i)], [(1, z3z s), (2, z3z c0st), (3, .cell 35 stSh (.agg [.own 13 s.thr.length, encM s.mem, .nils])), (13, tBox s.thr)]⟩, μ := fun i => s.thr.length - i, ok := fun i => i <= s.thr.length }
  | false => match Nat.beq k 12 with
    | true => some { ι := Nat, S := fun i => ⟨[(1, .ptr 1 []), (2, .ptr 2 []), (3, .ptr 3 []), (51, .int .i64 s.bufs.length), (52, .int .i64 i)], [(1, z3z s), (2, z3z c0st), (3, .cell 35 stSh (.agg [.own 13 s.thr.length, encM s.mem, .own 42 s.bufs.length])), (13, tBox s.thr), (42, bBox s.bufs)]⟩, μ := fun i => s.bufs.length - i, ok := fun i => i <= s.bufs.length }
    | false => none
noncomputable def zqt (s : SState) : Prop := zj3 (vMc 69 (zyi s)) Tryz.f124 [vSt s] (zmp s) (zgt s)
end
end Go.Proofs.S25
namespace Go.Proofs.S25
open Go Go.AV
open Go.IntKind renaming i64 -> j6
open Go.AV.Shape (leaf)
noncomputable section
open Go.IntKind renaming i64 -> j6
open Go.AV.Shape (leaf)
noncomputable section

section
variable (m:Mem)
def q14l:=q7r m/\True
def q14m:=RR zw/\q54 m/\q55 m/\q1f m/\q14l m
end
theorem z12a (m:Mem):zyh m=((KnownF Tryz.prog GG (225:Nat) [rowI m.vars] (AV.own (0:Nat) m.vars.length) [BoxC.row (3:TypeId) leaf (q3e m) fun i=>q7p m i])/\(KnownF Tryz.prog GG (225:Nat) [rowI m.owners] (AV.own (0:Nat) m.owners.length) [BoxC.row (3:TypeId) leaf (q3f m) fun i=>q7q m i])/\q1l m/\((0:Int)<=↑m.queues.length/\(↑m.queues.length:Int)<=(↑m.queues.length:Int)/\↑(24:Nat) * ↑m.queues.length<=(140737488355328:Int)/\q1l m)/\(KnownF Tryz.prog GG (225:Nat) [rowI m.sig] (AV.own (0:Nat) m.sig.length) [BoxC.row (3:TypeId) leaf (q1g m) fun i=>q2q m i])/\q1l m/\(∃ (i:Nat),i<=List.length (Mem.queues m)/\(RR (AV.ptr (1:Nat) [])/\RR (AV.ptr (2:Nat) [])/\RR (AV.ptr (3:Nat) [])/\q1f m/\RI (↑(List.length (Mem.queues m)):Int)/\(RR j6/\(0:Int)=(↑i:Int))/\True)/\((32:Nat)=(32:TypeId)/\q14m m)/\((32:Nat)=(32:TypeId)/\RR zw/\(0:Nat)=(0:Nat)/\(0:Nat)=(0:Nat)/\(0:Nat)=(0:Nat)/\(0:Nat)=(0:Nat)/\True)/\((32:Nat)=(32:TypeId)/\RR zw/\q7s m/\q7t m/\(RR (15:Nat)/\q7u m)/\q7v m)/\(RR (3:TypeId)/\RR leaf/\q3e m=List.length (Mem.vars m)/\∀ (i:Nat),i < q3e m->q7p m i=AV.int j6 (List.getD (Mem.vars m) i (0:Int)))/\(RR (3:TypeId)/\RR leaf/\q3f m=List.length (Mem.owners m)/\∀ (i:Nat),i < q3f m->q7q m i=AV.int j6 (List.getD (Mem.owners m) i (0:Int)))/\(RR (29:TypeId)/\RR leaf/\q7u m/\∀ (i_1:Nat),i_1 < Int.toNat (↑(List.length (Mem.queues m)):Int)->AV.nils=q23 m i i_1)/\(RR (3:TypeId)/\RR leaf/\q1g m=List.length (Mem.sig m)/\∀ (i:Nat),i < q1g m->q2q m i=AV.int j6 (List.getD (Mem.sig m) i (0:Int)))/\True)/\∀ i:Nat,i<=m.queues.length->(q2s m i=true->inIx (↑i) m.queues.length/\KN 225 [rowI (m.queues.getD (↑i:Int).toNat [])] (q7w m i)/\inIx (↑i) m.queues.length/\(↑i:Int).toNat < m.queues.length/\InR j6 (q8 i)/\(∃ (j:Nat),j<=List.length (Mem.queues m)/\q2r m j < q2r m i/\(RR (AV.ptr (1:Nat) [])/\RR (AV.ptr (2:Nat) [])/\RR (AV.ptr (3:Nat) [])/\q1f m/\RI (↑(List.length (Mem.queues m)):Int)/\(RR j6/\q8 i=(↑j:Int))/\True)/\(RR (32:TypeId)/\q14m m)/\(RR (32:TypeId)/\RR zw/\qe/\qe/\(RW leaf ((0:Nat)) fun (i:Nat)=>rowI (List.getD [] i []))/\qe/\True)/\(RR (32:TypeId)/\RR zw/\q7s m/\q7t m/\(RR (15:Nat)/\RR (List.length (Mem.queues m)))/\q7v m)/\(RR (3:TypeId)/\q54 m)/\(RR (3:TypeId)/\q55 m)/\(RR (29:TypeId)/\RR leaf/\RR (List.length (Mem.queues m))/\∀ (i_1:Nat),i_1 < List.length (Mem.queues m)->(if i_1=Int.toNat (↑i:Int) then strip1 (q7w m i) else q23 m i i_1)=q23 m j i_1)/\(RR (3:TypeId)/\q7r m)/\True))/\(q2s m i=false->m.vars.length<=m.vars.length/\m.owners.length<=m.owners.length/\m.queues.length<=m.queues.length/\m.sig.length<=m.sig.length/\RR zw/\q54 m/\q55 m/\(RR leaf/\RR m.queues.length/\∀ (i_1:Nat),i_1 < m.queues.length->q23 m i i_1=rowI (m.queues.getD i_1 []))/\q14l m)):=by kernel_rfl
theorem z12b (m : Mem) (hm : MSm m) : Known Tryz.prog GG 185 [vM m] (vM m)  := by
  refine Known.of (V := vM3 36 (fun d => Nat.beq d 8 || (Nat.beq d 11 || Nat.beq d 18)) (zo9 m)) (fn := Tryz.f185) Tryz.func185 (by kernel_rfl) (zl _ _) rfl ?_
  show zyh m
  rw [z12a]; try delta qhu qhv q3e q7p qhw qhx q3f q7q q1l q7m q7n q1g q2q q1f q54 q55 q7r q14l q14m q7s q7t q7u q7v q23 q7w q8 q2r qe q2s
  simp only [SB, inIx]
  simp only [oR, implies_true, and_true, true_and]
  have s3 := hm.queues
  refine ⟨z5k _ hm.vars, z5k _ hm.owners, by omega, ⟨by omega, by omega⟩, z5k _ hm.sig, by omega, ⟨0, by omega, rfl, fun j hj => by rw [if_neg (by omega)]⟩, fun i hi => ⟨fun hlt => ⟨hlt, zi2 _ (hm.q i), hlt, hlt, zg (by omega) (by omega), i + 1, hlt, by omega, by omega, fun j hj => ?_⟩, fun hge j hj => by rw [if_pos (by omega)]⟩⟩
  by_cases e : j = i
  . subst e; rw [if_pos rfl, if_pos (by omega)]; rfl
  . rw [if_neg e]
    by_cases h : j < i
    . rw [if_pos h, if_pos (by omega)]
    . rw [if_neg h, if_neg (by omega)]
section
variable (s:SState)
def q32:=↑s.thr.length<=(9223372036854775807:Int)
def q14n:=(↑(↑s.thr.length:Int).toNat:Int)<=9223372036854775807
variable (x1:Nat)
def q14o:=AV.int j6 (s.mem.vars.getD x1 0)
def q14p:=AV.int j6 (s.mem.owners.getD x1 0)
def q14q:=AV.int j6 (s.mem.sig.getD x1 0)
def qcb:=(RW leaf s.mem.vars.length fun i=>q14o s i)/\(RW leaf s.mem.owners.length fun i=>q14p s i)/\(RW leaf s.mem.queues.length fun i=>rowI (s.mem.queues.getD i []))/\(RW leaf s.mem.sig.length fun i=>q14q s i)/\True
def q14r:=RW zo s.bufs.length fun i=>encB (s.bufs.getD i c0b)
def q14s:=RR stSh/\qk s/\qcb s/\q14r s/\True
def q14t:=(↑s.thr.length:Int).toNat=s.thr.length
def q14u:Nat:=(dR (dR dI) (rowQ s.mem.queues)).length
def q14v:List AV:=[AV.int j6 0,AV.int j6 0,AV.nils]
def q14w:List AV:=[rowI (s.thr.getD (↑x1:Int).toNat c0t).held]
def q14x:=rowI (z1b (s.thr.getD (↑x1:Int).toNat c0t).held.length fun i=>AV.int j6 ((s.thr.getD (↑x1:Int).toNat c0t).held.getD i 0))
def qjw:=RR (35:TypeId)/\q14s s
def qjx:=RR 13/\RR s.thr.length
def q8t:=↑s.bufs.length<=(9223372036854775807:Int)
def q14y:=(↑(↑s.bufs.length:Int).toNat:Int)<=9223372036854775807
def q14z:=(↑s.bufs.length:Int).toNat=s.bufs.length
def qjy:=RR (51:TypeId)/\qk s
def q150:List AV:=[rowE (s.bufs.getD (↑x1:Int).toNat c0b).entries]
def q151:=rowE (dR dE (rowE (s.bufs.getD (↑x1:Int).toNat c0b).entries))
def q152:=RR stSh/\qjx s/\qcb s/\(RR 42/\RR s.bufs.length)/\True
end
theorem zyj (s:SState):zqt s=(KN 185 [AV.mc zw (encM s.mem)] (AV.mc zw (AV.agg [rowI (dR dI (rowI s.mem.vars)),rowI (dR dI (rowI s.mem.owners)),rowQ (dR (dR dI) (rowQ s.mem.queues)),rowI (dR dI (rowI s.mem.sig))]))/\q32 s/\((0:Int)<=↑s.thr.length/\(↑s.thr.length:Int)<=(↑s.thr.length:Int)/\↑(152:Nat) * ↑s.thr.length<=(140737488355328:Int)/\q32 s)/\((↑s.thr.length:Int).toNat<=(↑s.thr.length:Int).toNat/\q14n s)/\q14n s/\(∃ (i:Nat),i<=List.length (SState.thr s)/\(RR (AV.ptr (1:Nat) [])/\RR (AV.ptr (2:Nat) [])/\RR (AV.ptr (3:Nat) [])/\(RR j6/\(↑(Int.toNat (↑(List.length (SState.thr s)):Int)):Int)=(↑(List.length (SState.thr s)):Int))/\qc i)/\((35:Nat)=(35:TypeId)/\q14s s)/\((35:Nat)=(35:TypeId)/\RR stSh/\(0:Nat)=(0:Nat)/\((0:Nat)=(0:Nat)/\(0:Nat)=(0:Nat)/\(0:Nat)=(0:Nat)/\(0:Nat)=(0:Nat)/\True)/\(0:Nat)=(0:Nat)/\True)/\((35:Nat)=(35:TypeId)/\RR stSh/\(RR (13:Nat)/\q14t s)/\((RR leaf/\List.length (dR dI (rowI (Mem.vars (SState.mem s))))=List.length (Mem.vars (SState.mem s))/\∀ (i:Nat),i < List.length (dR dI (rowI (Mem.vars (SState.mem s))))->AV.int j6 (List.getD (dR dI (rowI (Mem.vars (SState.mem s)))) i (0:Int))=q14o s i)/\(RR leaf/\List.length (dR dI (rowI (Mem.owners (SState.mem s))))=List.length (Mem.owners (SState.mem s))/\∀ (i:Nat),i < List.length (dR dI (rowI (Mem.owners (SState.mem s))))->AV.int j6 (List.getD (dR dI (rowI (Mem.owners (SState.mem s)))) i (0:Int))=q14p s i)/\(RR leaf/\q14u s=List.length (Mem.queues (SState.mem s))/\∀ (i:Nat),i < q14u s->rowI (List.getD (dR (dR dI) (rowQ (Mem.queues (SState.mem s)))) i [])=rowI (List.getD (Mem.queues (SState.mem s)) i []))/\(RR leaf/\List.length (dR dI (rowI (Mem.sig (SState.mem s))))=List.length (Mem.sig (SState.mem s))/\∀ (i:Nat),i < List.length (dR dI (rowI (Mem.sig (SState.mem s))))->AV.int j6 (List.getD (dR dI (rowI (Mem.sig (SState.mem s)))) i (0:Int))=q14q s i)/\True)/\RR AV.nils/\True)/\(RR (51:TypeId)/\RR zd/\q14t s/\∀ (i:Nat),i < Int.toNat (↑(List.length (SState.thr s)):Int)->(if i < min (List.length (SState.thr s)) (Int.toNat (↑(List.length (SState.thr s)):Int)) then encT (List.getD (SState.thr s) i c0t) else AV.agg (AV.int j6 (0:Int)::AV.int j6 (0:Int)::AV.int j6 (0:Int)::(AV.arr (8:Nat) fun (_:Nat)=>AV.int j6 (0:Int))::AV.int j6 (0:Int)::AV.int j6 (0:Int)::AV.int j6 (0:Int)::q14v))=encT (List.getD (SState.thr s) i c0t))/\True)/\∀ i:Nat,i<=s.thr.length->(ql s i=true->inIx (↑i) s.thr.length/\KN 186 (q14w s i) (q14x s i)/\inIx (↑i) s.thr.length/\(↑i:Int).toNat < s.thr.length/\q9 i/\(∃ j,j<=s.thr.length/\s.thr.length - j < s.thr.length - i/\(RR (AV.ptr (1:Nat) [])/\RR (AV.ptr (2:Nat) [])/\RR (AV.ptr (3:Nat) [])/\RI (↑s.thr.length:Int)/\qd i j)/\qjw s/\q5b/\(RR (35:TypeId)/\RR stSh/\qjx s/\qcb s/\RR AV.nils/\True)/\(RR (51:TypeId)/\RR zd/\RR s.thr.length/\∀ (i_1:Nat),i_1 < s.thr.length->(if i_1=(↑i:Int).toNat then AV.agg ((AV.int j6 (s.thr.getD (↑i:Int).toNat c0t).id::AV.int j6 (s.thr.getD (↑i:Int).toNat c0t).fn::AV.int j6 (s.thr.getD (↑i:Int).toNat c0t).pc::arr8 (s.thr.getD (↑i:Int).toNat c0t).regs::AV.int j6 (s.thr.getD (↑i:Int).toNat c0t).steps::AV.int j6 (s.thr.getD (↑i:Int).toNat c0t).kids::AV.int j6 (s.thr.getD (↑i:Int).toNat c0t).phase::AV.int j6 (s.thr.getD (↑i:Int).toNat c0t).status::AV.int j6 (s.thr.getD (↑i:Int).toNat c0t).fault::q14w s i).set (9:Nat) (strip1 (q14x s i))) else encT (s.thr.getD i_1 c0t))=encT (s.thr.getD i_1 c0t))/\True))/\(ql s i=false->q8t s/\((0:Int)<=↑s.bufs.length/\(↑s.bufs.length:Int)<=(↑s.bufs.length:Int)/\↑(40:Nat) * ↑s.bufs.length<=(140737488355328:Int)/\q8t s)/\((↑s.bufs.length:Int).toNat<=(↑s.bufs.length:Int).toNat/\q14y s)/\q14y s/\(∃ i,i<=s.bufs.length/\(RR (AV.ptr (1:Nat) [])/\RR (AV.ptr (2:Nat) [])/\RR (AV.ptr (3:Nat) [])/\(RR j6/\(↑(↑s.bufs.length:Int).toNat:Int)=(↑s.bufs.length:Int))/\qc i)/\qjw s/\q5b/\(RR (35:TypeId)/\RR stSh/\qjx s/\qcb s/\(RR (42:Nat)/\q14z s)/\True)/\qjy s/\(RR (68:TypeId)/\RR zo/\q14z s/\∀ (i:Nat),i < (↑s.bufs.length:Int).toNat->(if i < min s.bufs.length (↑s.bufs.length:Int).toNat then encB (s.bufs.getD i c0b) else AV.agg q14v)=encB (s.bufs.getD i c0b))/\True)/\∀ (i:Nat),i<=s.bufs.length->(q30 s i=true->inIx (↑i:Int) s.bufs.length/\KN 187 (q150 s i) (q151 s i)/\inIx (↑i:Int) s.bufs.length/\(↑i:Int).toNat < s.bufs.length/\q9 i/\∃ j,j<=s.bufs.length/\s.bufs.length - j < s.bufs.length - i/\(RR (AV.ptr (1:Nat) [])/\RR (AV.ptr (2:Nat) [])/\RR (AV.ptr (3:Nat) [])/\RI (↑s.bufs.length:Int)/\qd i j)/\qjw s/\q5b/\(RR (35:TypeId)/\q152 s)/\qjy s/\(RR (68:TypeId)/\RR zo/\RR s.bufs.length/\∀ (i_1:Nat),i_1 < s.bufs.length->(if i_1=(↑i:Int).toNat then AV.agg ((AV.int j6 (s.bufs.getD (↑i:Int).toNat c0b).thread::AV.int j6 (s.bufs.getD (↑i:Int).toNat c0b).first::q150 s i).set (2:Nat) (strip1 (q151 s i))) else encB (s.bufs.getD i_1 c0b))=encB (s.bufs.getD i_1 c0b))/\True)/\(q30 s i=false->(q152 s/\True)/\qjy s/\(RR (68:TypeId)/\q14r s)/\True))):=by kernel_rfl
theorem zyk (s : SState) (hs : SSm s) : KnownF Tryz.prog GG 124 [vSt s] (zmp s) (zgt s) := by
  refine KnownF.of (V := vMc 69 (zyi s)) (fn := Tryz.f124) Tryz.func124 (by kernel_rfl) (zl _ _) rfl ?_
  show zqt s
  rw [zyj]; try delta q32 q14n qc qk q14o q14p q14q qcb q14r q14s q14t q14u q14v q14w q14x q8 q9 qd qjw qe q5b qjx ql q8t q14y q14z qjy q150 q151 q152 q30
  simp only [SB, inIx]
  simp only [oR]
  have h1 := hs.thr
  have h2 := hs.bufs
  refine ⟨z12b _ hs.mem, by omega, ⟨by omega, by omega⟩, by omega, by omega, ⟨0, by omega, rfl, fun j hj => by rw [if_pos (by omega)]⟩, fun i hi => ⟨fun hlt => ⟨hlt, zty _ (by have := (hs.ok i).held; omega), hlt, hlt, zg (by omega) (by omega), i + 1, by omega, by omega, by omega, fun j hj => ?_⟩, fun hge => ⟨by omega, ⟨by omega, by omega⟩, by omega, by omega, ⟨0, by omega, rfl, fun j hj => by rw [if_pos (by omega)]⟩, fun i hi hlt => ⟨hlt, ztx _ (hs.ents i), hlt, hlt, zg (by omega) (by omega), i + 1, by omega, by omega, by omega, fun j hj => ?_⟩⟩⟩⟩
  . by_cases e : j = i
    . subst e; rw [if_pos rfl]; rfl
    . rw [if_neg e]
  . by_cases e : j = i
    . subst e; rw [if_pos rfl]; rfl
    . rw [if_neg e]
end
end
end Go.Proofs.S25
