import Derived.Test.YtgcpdfihjmmggaaGreatDoorXs
namespace Go.Proofs.S25
open Go Go.AV
open Go.IntKind renaming i64 -> j6
open Go.AV.Shape (leaf)
noncomputable section
open Go.IntKind renaming i64 -> j6
open Go.AV.Shape (leaf)
noncomputable section

theorem fT' (a b c : Int) (r : List Int) (s k ph st f : Int) (h : List Int) : AV.agg [AV.int .i64 a, AV.int .i64 b, AV.int .i64 c, arr8 r, AV.int .i64 s, AV.int .i64 k, AV.int .i64 ph, AV.int .i64 st, AV.int .i64 f, rowI h] = encT ⟨a, b, c, r, s, k, ph, st, f, h⟩ := rfl
theorem leP (p : PProg) : AV.le [] [] (vP p) (vP p) := ⟨rfl, ⟨rfl, rfl, fun _ _ => rfl⟩, ⟨rfl, rfl, fun _ _ => rfl⟩, ⟨rfl, rfl, fun _ _ => rfl⟩, ⟨rfl, rfl, fun _ _ => rfl⟩, ⟨rfl, rfl, fun _ _ => rfl⟩, trivial⟩
theorem z7b {p : PProg} {b : Int} (h : stdE p b = 0) : (zb p).1 = 0 /\ 1 <= b /\ b <= 32 := by
  unfold stdE at h
  split at h
  . rename_i q; exact absurd h (by simpa using q)
  . rename_i q
    split at h
    . exact absurd h (by decide)
    . exact ⟨by simpa using q, by omega⟩
theorem z9y {p : PProg} {b : Int} {t : Thr} (h : valT p b t = true) : Formed p b t := by
  unfold valT at h
  rw [Bool.and_eq_true] at h
  exact zfa.1 h.1
theorem zdq {p : PProg} {b : Int} {t : Thr} (h : valT p b t = true) (hs : t.status = 1) : t.fault = 0 /\ atB p t = true /\ visB (atI p t).op = true /\ obsE t (atI p t) = 0 /\ t.steps < b := by
  unfold valT at h
  rw [Bool.and_eq_true, if_pos (.inl hs)] at h
  have h := h.2
  unfold vRun at h
  simp only [Bool.and_eq_true, beq_iff_eq, Bool.or_eq_true, decide_eq_true_eq] at h
  obtain ⟨h1, h2, h3, h4, h5⟩ := h
  exact ⟨h1, h2, h3, h4, by omega⟩
theorem zbf {p : PProg} {b : Int} {t : Thr} : z9n p b t = true ↔ stdE p b = 0 /\ valT p b t = true := by
  unfold z9n; rw [Bool.and_eq_true, beq_iff_eq]
theorem zwi {i : Inst} (h : (defI i).2 = true) : (defI i).1 = i.a /\ 0 <= i.a /\ i.a < 8 := by
  unfold defI at h
  split at h
  . cases h
  . rename_i q
    have e : defI i = (i.a, true) := by unfold defI; rw [if_neg q]
    rw [e]
    have q' : z13 i = 0 /\ z1l i.op 0 = true := by simpa using q
    have := (zf8 q'.1).a q'.2
    exact ⟨rfl, this⟩
theorem zgo {p : PProg} {id fn arg : Int} (hid : id <= 9223372036854775807) (h : 0 <= fn /\ fn < p.funs.length) : TWf p (zfb id fn arg) :=
  ⟨⟨rfl, hid, by show (0 : Int) < _; omega, by show 0 <= 1000; omega⟩, h, by show 0 <= (0 : Int) /\ (0 : Int) <= _; omega⟩
theorem zlw (l : List Int) (v : Int) : (remI l v).length <= l.length := Nat.le_trans (List.length_filter_le _ _) (z6i l)
theorem zlx (l : List Int) (v : Int) : (addI l v).length <= l.length + 1 := by
  have h : (addI l v).length <= (l ++ [v]).length := z6i _
  rw [List.length_append] at h
  exact h
theorem zck (t : Thr) (i : Inst) (r : Int) : (wrote t i r).regs.length = t.regs.length := by
  unfold wrote setR
  dsimp only
  split
  . rw [List.length_set]
  . rfl
theorem zly (t : Thr) (i : Inst) (r : Int) : (z25 t i r).id = t.id /\ (z25 t i r).fn = t.fn /\ (z25 t i r).fault = t.fault /\ (z25 t i r).regs = (wrote t i r).regs /\ (z25 t i r).steps = t.steps + 1 /\ (z25 t i r).status = t.status /\ ((z25 t i r).pc = t.pc ∨ (z25 t i r).pc = t.pc + 1) /\ (z25 t i r).held.length <= t.held.length + 1 := by
  have h1 := zlw t.held i.n
  have h2 := zlx t.held i.n
  have h3 := zlx t.held i.obj
  have h4 := zlw t.held i.obj
  unfold z25 z1t
  repeat' split
  all_goals first
    | exact ⟨rfl, rfl, rfl, rfl, rfl, rfl, .inl rfl, by show (remI t.held i.n).length <= _; omega⟩
    | exact ⟨rfl, rfl, rfl, rfl, rfl, rfl, .inl rfl, Nat.le_succ _⟩
    | exact ⟨rfl, rfl, rfl, rfl, rfl, rfl, .inr rfl, by show (addI t.held i.n).length <= _; omega⟩
    | exact ⟨rfl, rfl, rfl, rfl, rfl, rfl, .inr rfl, by show (addI t.held i.obj).length <= _; omega⟩
    | exact ⟨rfl, rfl, rfl, rfl, rfl, rfl, .inr rfl, by show (remI t.held i.obj).length <= _; omega⟩
    | exact ⟨rfl, rfl, rfl, rfl, rfl, rfl, .inr rfl, Nat.le_succ _⟩
theorem zt5 {p : PProg} {b : Int} {t : Thr} (hp : POk p) (ht : TOK t) (h : valT p b t = true) (hs : t.status = 1) (r : Int) : TWf p (z25 t (atI p t) r) := by
  have F := z9y h
  have W := F.wf ht
  obtain ⟨_, ha, _⟩ := zdq h hs
  obtain ⟨e1, e2, _, e4, _, _, e7, e8⟩ := zly t (atI p t) r
  have hl := F.hlen hp
  have hc := (zdp W ha).1
  have hf := F.fn
  have hpc := F.pc
  have h64 := (hp.code (f := t.fn.toNat) (by omega)).1
  refine ⟨⟨by rw [e4, zck]; exact ht.regs, by rw [e1]; exact ht.id, by omega, by omega⟩, by rw [e2]; exact hf, by rw [e2]; omega⟩
theorem wE (t : Thr) (i : Inst) (r : Int) : (⟨t.id, t.fn, t.pc, if (defI i).2 = true then setR t.regs (defI i).1 r else t.regs, t.steps + 1, t.kids, t.phase, t.status, t.fault, t.held⟩ : Thr) = wrote t i r := rfl
theorem zlz (t : Thr) (m : Int) : (z1t t m).regs = t.regs := by
  unfold z1t
  repeat' split
  all_goals rfl
theorem zThr : (0 = c0t.id /\ 0 = c0t.fn /\ 0 = c0t.pc /\ (∀ i : Nat, AV.int .i64 0 = AV.int .i64 (c0t.regs.getD i 0)) /\ 0 = c0t.steps /\ 0 = c0t.kids /\ 0 = c0t.phase /\ 0 = c0t.status /\ 0 = c0t.fault /\ c0t.held.length = 0) :=
  ⟨rfl, rfl, rfl, fun i => by show _ = AV.int .i64 ((List.replicate 8 0).getD i 0); rw [zls], rfl, rfl, rfl, rfl, rfl, rfl⟩
theorem zm0 (id fn arg : Int) : dT (AV.agg [.int .i64 id, .int .i64 fn, .int .i64 0, .arr 8 (fun j => if j = 0 then AV.int .i64 arg else AV.int .i64 0), .int .i64 0, .int .i64 0, .int .i64 0, .int .i64 1, .int .i64 0, .nils]) = zfb id fn arg := rfl
theorem zfd (arg : Int) (j : Nat) : (if j = 0 then AV.int .i64 arg else AV.int .i64 0) = AV.int .i64 ((arg :: List.replicate 7 0).getD j 0) := by
  cases j with
  | zero => rfl
  | succ j =>
    rw [if_neg (by omega), List.getD_cons_succ, List.getD_eq_getElem?_getD, List.getElem?_replicate]
    split <;> rfl
section
variable (p:PProg) (b:Int) (id:Int) (fn:Int) (arg:Int) (x5:Nat)
def qav:=AV.int j6 ((newT p b id fn arg).fst.regs.getD x5 0)
def q51:=RR zd/\(RR j6/\0=(newT p b id fn arg).fst.id)/\(RR j6/\0=(newT p b id fn arg).fst.fn)/\(RR j6/\0=(newT p b id fn arg).fst.pc)/\(RR 8/\∀ i:Nat,AV.int j6 0=qav p b id fn arg i)/\(RR j6/\0=(newT p b id fn arg).fst.steps)/\(RR j6/\0=(newT p b id fn arg).fst.kids)/\(RR j6/\0=(newT p b id fn arg).fst.phase)/\(RR j6/\0=(newT p b id fn arg).fst.status)/\(RR j6/\0=(newT p b id fn arg).fst.fault)/\(newT p b id fn arg).fst.held.length=0/\True
def qv:=stdE (dP (encP p)) b != 0
def q76:=q51 p b id fn arg/\(RR j6/\2=(newT p b id fn arg).snd)/\True
def qwd:=decide (depI id < 0)
def qgx:=decide (fn < 0)
def q77:=(!qgx fn)=true
def q1c:=q77 fn->q77 fn
def q78:=qgx fn||decide (↑p.funs.length<=fn)
def qaw:=AV.agg [AV.int j6 id,AV.int j6 fn,AV.int j6 0,AV.arr 8 fun j=>if j=Int.toNat 0 then strip1 (strip1 (AV.int j6 arg)) else AV.int j6 0,AV.int j6 0,AV.int j6 0,AV.int j6 0,AV.int j6 1,AV.int j6 0,AV.nils]
def qg:Thr:=setl (dP (encP p)) b (dT (qaw id fn arg))
def qax:List Int:=(qg p b id fn arg).held
def q79:Nat:=(qax p b id fn arg).length
end
theorem z10y (p:PProg) (b id fn arg:Int):zwe p b id fn arg=(KN 136 [AV.mc za (encP p),AV.int j6 b] (AV.int j6 (stdE (dP (encP p)) b))/\(qv p b=true->q51 p b id fn arg/\(RR j6/\stdE (dP (encP p)) b=(newT p b id fn arg).snd)/\True)/\(qv p b=false->KN 137 [AV.int j6 id] (AV.int j6 (depI id))/\(qwd id=true->q76 p b id fn arg)/\(qwd id=false->q1c fn/\q1c fn/\(q77 fn->↑p.funs.length<=(9223372036854775807:Int))/\q1c fn/\q1c fn/\q1c fn/\(q78 p fn=true->q51 p b id fn arg/\(RR j6/\11=(newT p b id fn arg).snd)/\True)/\(q78 p fn=false->KN 138 [AV.int j6 arg] (AV.int j6 (wr arg))/\((wr arg != arg)=true->q76 p b id fn arg)/\((wr arg != arg)=false->inIx 0 8/\KN 139 [AV.mc za (encP p),AV.int j6 b,AV.mc zd (qaw id fn arg)] (AV.mc zd (encT (qg p b id fn arg)))/\(RR zd/\(RR j6/\(qg p b id fn arg).id=(newT p b id fn arg).fst.id)/\(RR j6/\(qg p b id fn arg).fn=(newT p b id fn arg).fst.fn)/\(RR j6/\(qg p b id fn arg).pc=(newT p b id fn arg).fst.pc)/\(RR 8/\∀ i:Nat,AV.int j6 ((qg p b id fn arg).regs.getD i 0)=qav p b id fn arg i)/\(RR j6/\(qg p b id fn arg).steps=(newT p b id fn arg).fst.steps)/\(RR j6/\(qg p b id fn arg).kids=(newT p b id fn arg).fst.kids)/\(RR j6/\(qg p b id fn arg).phase=(newT p b id fn arg).fst.phase)/\(RR j6/\(qg p b id fn arg).status=(newT p b id fn arg).fst.status)/\(RR j6/\(qg p b id fn arg).fault=(newT p b id fn arg).fst.fault)/\(RR leaf/\q79 p b id fn arg=(newT p b id fn arg).fst.held.length/\∀ i:Nat,i < q79 p b id fn arg->AV.int j6 ((qax p b id fn arg).getD i 0)=AV.int j6 ((newT p b id fn arg).fst.held.getD i 0))/\True)/\(RR j6/\0=(newT p b id fn arg).snd)/\True))))):=by kernel_rfl
theorem z10z (p : PProg) (b id fn arg : Int) (hp : PSm p) (hid : id <= 9223372036854775807) : Known Tryz.prog GG 63 [vP p, .int .i64 b, .int .i64 id, .int .i64 fn, .int .i64 arg] (.tup [vT (newT p b id fn arg).1, .int .i64 (newT p b id fn arg).2])  := by
  refine Known.of (V := vTv 50 fun _ => none) (fn := Tryz.f63) Tryz.func63 (by kernel_rfl) (zv _) rfl ?_
  show zwe p b id fn arg
  rw [z10y]; try delta qav q51 qv q76 qwd qgx q77 q1c q78 qaw qg qax q79
  simp only [SB, inIx]
  simp only [zm0]
  refine ⟨kStd p b hp, fun h => ?_, fun h => ⟨kDep id hid, fun hd => ?_, fun hd => ⟨fun _ => by have := hp.funs; omega, fun hf => ?_, fun hf => ⟨zb4 _, fun hw => ?_, fun hw => ⟨by decide, ?_, ?_⟩⟩⟩⟩⟩
  . have e : newT p b id fn arg = (c0t, stdE p b) := by unfold newT; rw [if_pos h]
    rw [e]; exact ⟨zThr, rfl⟩
  . have e : newT p b id fn arg = (c0t, 2) := by unfold newT; rw [if_neg (by simp [h]), if_pos hd]
    rw [e]; exact ⟨zThr, rfl⟩
  . have e : newT p b id fn arg = (c0t, 11) := by unfold newT; rw [if_neg (by simp [h]), if_neg hd, if_pos hf]
    rw [e]; exact ⟨zThr, rfl⟩
  . have e : newT p b id fn arg = (c0t, 2) := by unfold newT; rw [if_neg (by simp [h]), if_neg hd, if_neg (by omega), if_pos hw]
    rw [e]; exact ⟨zThr, rfl⟩
  . have hk := zsz p b (zfb id fn arg) ⟨hp, (z7b h).1⟩ (zgo hid (by omega))
    exact hk.weaken (args' := [_, _, _]) rfl ⟨leP p, ⟨rfl, rfl⟩, ⟨rfl, ⟨rfl, rfl⟩, ⟨rfl, rfl⟩, ⟨rfl, rfl⟩, ⟨rfl, zfd arg⟩, ⟨rfl, rfl⟩, ⟨rfl, rfl⟩, ⟨rfl, rfl⟩, ⟨rfl, rfl⟩, ⟨rfl, rfl⟩, rfl, trivial⟩, trivial⟩
  . have e : newT p b id fn arg = (setl p b (zfb id fn arg), 0) := by unfold newT; rw [if_neg (by simp [h]), if_neg hd, if_neg (by omega), if_neg (by simp [hw])]
    rw [e]; exact ⟨⟨rfl, rfl, rfl, fun _ => rfl, rfl, rfl, rfl, rfl, rfl, rfl, fun _ _ => rfl⟩, rfl⟩
section
variable (t:Thr)
def qwe:=(!t.fault != 0)=true
def qwf:=qwe t->qwe t
end
section
variable (p:PProg) (t:Thr)
def qwg:=t.fault != 0||!atB (dP (encP p)) (dT (encT t))
def qgy:=(!qwg p t)=true
def qay:=qgy p t->qgy p t
def qwh:=KN 203 [AV.int j6 (atI (dP (encP p)) (dT (encT t))).op] (AV.bool (visB (atI (dP (encP p)) (dT (encT t))).op))
def qwi:=qwg p t||!visB (atI (dP (encP p)) (dT (encT t))).op
def qgz:=(!qwi p t)=true
def qaz:=qgz p t->qgz p t
def qh0:Int:=obsE (dT (encT t)) (dIn (encI (atI (dP (encP p)) (dT (encT t)))))
def qwj:=KN 204 [AV.mc zd (encT t),AV.mc zt (encI (atI (dP (encP p)) (dT (encT t))))] (AV.int j6 (qh0 p t))
def qwk:=qwi p t||qh0 p t != 0
def qb0:=(t.status == 1)=true
def qb1:=qb0 t->qb0 t
end
section
variable (b:Int) (t:Thr)
def qwl:=t.status == 1&&decide (t.steps < b)
def qwm:=!qwl b t
def qh1:=qwm b t=true
def q7a:=qh1 b t->qh1 b t
def qh2:=(qwm b t&&t.status == 4)=true
def qwn:=qh2 b t->qh2 b t
def qwo:=(t.status == 4)=true
end
section
variable (p:PProg) (b:Int) (t:Thr)
def qwp:=qwf t/\qwf t/\qay p t/\qay p t/\(qgy p t->qwh p t)/\qay p t/\qay p t/\qaz p t/\qaz p t/\(qgz p t->qwj p t)/\qaz p t/\qaz p t/\(qwk p t=true->false=valT p b t)/\(qwk p t=false->qb1 t/\qb1 t/\qb1 t/\qb1 t/\q7a b t/\q7a b t/\q7a b t/\qwn b t/\qwn b t/\q7a b t/\(qh1 b t->qwo t->qh2 b t)/\q7a b t/\(qwl b t||t.status == 4&&decide (1<=t.steps))=valT p b t)
def qwq:=(t.fault == 0)=true
def qh3:=qwq t->qwq t
def qh4:=t.fault == 0&&t.phase == 0
def qh5:=qh4 t=true
def qb2:=qh5 t->qh5 t
def qh6:=(qh4 t&&!!atB (dP (encP p)) (dT (encT t)))=true
def qwr:=qh6 p t->qh6 p t
def qws:=(!t.phase != 0)=true
def qwt:=qws t->qws t
def qwu:=t.phase != 0||!atB (dP (encP p)) (dT (encT t))
def qwv:=(atI (dP (encP p)) (dT (encT t))).op == 6
def qh7:=qwv p t=true
def q52:=qh7 p t->qh7 p t
def qh8:=(t.fault != 0)=true
def q53:=qh8 t->qh8 t
def qww:=((t.status == 2)=true->qh3 t/\qh3 t/\qh3 t/\qb2 t/\qb2 t/\qwr p t/\qwr p t/\qb2 t/\(qh5 t->(!!atB (dP (encP p)) (dT (encT t)))=true->qh6 p t)/\qb2 t/\(qh4 t&&(!atB (dP (encP p)) (dT (encT t))||(atI (dP (encP p)) (dT (encT t))).op == 7))=valT p b t)/\((t.status == 2)=false->((t.status == 3)=true->qwt t/\qwt t/\(qwu p t=true->false=valT p b t)/\(qwu p t=false->((t.fault == 26)=true->q52 p t/\q52 p t/\q52 p t/\(qh7 p t->inIx (atI (dP (encP p)) (dT (encT t))).b 8)/\q52 p t/\q52 p t/\q52 p t/\(qwv p t&&t.regs.getD (atI (dP (encP p)) (dT (encT t))).b.toNat 0 == 0)=valT p b t)/\((t.fault == 26)=false->((t.fault == 29)=true->qwh p t/\(!visB (atI (dP (encP p)) (dT (encT t))).op)=valT p b t)/\((t.fault == 29)=false->q53 t/\q53 t/\(qh8 t->qwj p t)/\q53 t/\q53 t/\q53 t/\q53 t/\(t.fault != 0&&qh0 p t == t.fault)=valT p b t))))/\((t.status == 3)=false->false=valT p b t))
def qwx:=(t.status == 1)=false
end
theorem zwj (p:PProg) (b:Int) (t:Thr):zq8 p b t=(KN 226 [AV.mc za (encP p),AV.int j6 b,AV.mc zd (encT t)] (AV.bool (z3y (dP (encP p)) b (dT (encT t))))/\((!z3y (dP (encP p)) b (dT (encT t)))=true->false=valT p b t)/\((!z3y (dP (encP p)) b (dT (encT t)))=false->KN 190 [AV.mc za (encP p),AV.mc zd (encT t)] (AV.tup [AV.mc zt (encI (atI (dP (encP p)) (dT (encT t)))),AV.bool (atB (dP (encP p)) (dT (encT t)))])/\(qb0 t->(qb0 t->qwp p b t)/\(qwx t->qww p b t))/\(qwx t->(qwo t->qwp p b t)/\((t.status == 4)=false->qww p b t)))):=by kernel_rfl
theorem zq9 (p : PProg) (b : Int) (t : Thr) (hp : POk p) (ht : TOK t) : Known Tryz.prog GG 174 [vP p, .int .i64 b, vT t] (.bool (valT p b t))  := by
  refine Known.of (V := vTv 123 fun _ => none) (fn := Tryz.f174) Tryz.func174 (by kernel_rfl) (zv _) rfl ?_
  show zq8 p b t
  rw [zwj]; try delta qwe qwf qwg qgy qay qwh qwi qgz qaz qh0 qwj qwk qb0 qb1 qwl qwm qh1 q7a qh2 qwn qwo qwp qwq qh3 qh4 qh5 qb2 qh6 qwr qws qwt qwu qwv qh7 q52 qh8 q53 qww qwx
  simp only [SB, inIx]
  simp only [z2u t ht.regs]
  refine ⟨z10p p b t hp.sm ht, fun hf => by unfold valT; rw [hf]; rfl, fun hf => ?_⟩
  have F := zfa.1 hf
  have W := F.wf ht
  have hb : atB p t = true -> (atI p t).op = 6 -> 0 <= (atI p t).b /\ (atI p t).b < 8 := fun ha h6 => (zf8 (zbe (zf9 hp W ha)).1).b (by rw [h6]; rfl)
  refine ⟨kAt p t F.fn F.pc.1 hp.sm, ?_⟩
  repeat' (first | apply And.intro | intro _)
  all_goals first
    | ((with_reducible show Known _ _ 203 _ _); exact kVis _)
    | ((with_reducible show Known _ _ 204 _ _); exact kObs t _ ht)
    | omega
    | (have := hb (by simp_all) (by assumption); omega)
    | (simp_all [valT, vRun, vFin, zt4, regT]; done)
    | (unfold valT vFin; rw [hf, Bool.true_and, if_neg (by omega), if_pos (by assumption), Bool.and_assoc]; done)
    | (rename_i h; rcases h with ((h|h)|h)|h <;> simp_all [valT, vRun] <;> done)
    | (rename_i h; rcases h with h|h <;> simp_all [valT, zt4, regT] <;> done)
section
variable (p:PProg) (b:Int)
def qwy:=stdE (dP (encP p)) b == 0
def qh9:=qwy p b=true
def qb3:=qh9 p b->qh9 p b
end
theorem zt6 (p:PProg) (b:Int) (t:Thr):zlu p b t=(KN 136 [AV.mc za (encP p),AV.int j6 b] (AV.int j6 (stdE (dP (encP p)) b))/\qb3 p b/\qb3 p b/\qb3 p b/\(qh9 p b->KN 174 [AV.mc za (encP p),AV.int j6 b,AV.mc zd (encT t)] (AV.bool (valT (dP (encP p)) b (dT (encT t)))))/\qb3 p b/\(qwy p b&&valT (dP (encP p)) b (dT (encT t)))=z9n p b t):=by kernel_rfl
theorem zgp (p : PProg) (b : Int) (t : Thr) (hp : PSm p) (ht : TOK t) : Known Tryz.prog GG 113 [vP p, .int .i64 b, vT t] (.bool (z9n p b t))  := by
  refine Known.of (V := vTv 17 fun _ => none) (fn := Tryz.f113) Tryz.func113 (by kernel_rfl) (zv _) rfl ?_
  show zlu p b t
  rw [zt6]; try delta qwy qh9 qb3
  simp only [SB]
  simp only [z2u t ht.regs]
  exact ⟨kStd p b hp, fun h => zq9 p b t ⟨hp, (z7b h).1⟩ ht, rfl⟩
section
variable (t:Thr)
def qha:=(!t.status != 1)=true
def qb4:=qha t->qha t
end
section
variable (p:PProg) (t:Thr)
def qwz:=t.status != 1||!z9n (dP (encP p)) 32 (dT (encT t))
end
theorem z110 (p:PProg) (t:Thr):zwf p t=(qb4 t/\qb4 t/\(qha t->KN 113 [AV.mc za (encP p),AV.int j6 (32:Int),AV.mc zd (encT t)] (AV.bool (z9n (dP (encP p)) (32:Int) (dT (encT t)))))/\qb4 t/\qb4 t/\(qwz p t=true->(RR zt/\(RR j6/\0=(zu p t).op)/\(RR j6/\0=(zu p t).a)/\(RR j6/\0=(zu p t).b)/\(RR j6/\0=(zu p t).c)/\(RR j6/\0=(zu p t).obj)/\(RR j6/\0=(zu p t).n)/\(RR j6/\0=(zu p t).fn)/\(RR j6/\0=(zu p t).ord)/\True)/\false=z3l p t/\True)/\(qwz p t=false->KN 190 [AV.mc za (encP p),AV.mc zd (encT t)] (AV.tup [AV.mc zt (encI (atI (dP (encP p)) (dT (encT t)))),AV.bool (atB (dP (encP p)) (dT (encT t)))])/\(RR zt/\(RR j6/\(atI (dP (encP p)) (dT (encT t))).op=(zu p t).op)/\(RR j6/\(atI (dP (encP p)) (dT (encT t))).a=(zu p t).a)/\(RR j6/\(atI (dP (encP p)) (dT (encT t))).b=(zu p t).b)/\(RR j6/\(atI (dP (encP p)) (dT (encT t))).c=(zu p t).c)/\(RR j6/\(atI (dP (encP p)) (dT (encT t))).obj=(zu p t).obj)/\(RR j6/\(atI (dP (encP p)) (dT (encT t))).n=(zu p t).n)/\(RR j6/\(atI (dP (encP p)) (dT (encT t))).fn=(zu p t).fn)/\(RR j6/\(atI (dP (encP p)) (dT (encT t))).ord=(zu p t).ord)/\True)/\atB (dP (encP p)) (dT (encT t))=z3l p t/\True)):=by kernel_rfl
theorem zo7 (p : PProg) (t : Thr) (hp : PSm p) (ht : TOK t) : Known Tryz.prog GG 177 [vP p, vT t] (.tup [vI (zu p t), .bool (z3l p t)])  := by
  refine Known.of (V := vTv 21 fun _ => none) (fn := Tryz.f177) Tryz.func177 (by kernel_rfl) (zv _) rfl ?_
  show zwf p t
  rw [z110]; try delta qha qb4 qwz
  simp only [SB]
  simp only [z2u t ht.regs]
  refine ⟨fun h => zgp p 32 t hp ht, fun h => ?_, fun h => ⟨?_, ?_⟩⟩
  . have e : z3l p t = false := by
      unfold z3l
      rcases h with h | h <;> simp [h]
    unfold zu; rw [e]; exact ⟨⟨rfl, rfl, rfl, rfl, rfl, rfl, rfl, rfl⟩, rfl⟩
  . have F := z9y (zbf.1 h.2).2
    exact kAt p t F.fn F.pc.1 hp
  . have e : z3l p t = true := by unfold z3l; simp [h]
    unfold zu; rw [e]; exact ⟨⟨rfl, rfl, rfl, rfl, rfl, rfl, rfl, rfl⟩, (zdq (zbf.1 h.2).2 h.1).2.1⟩
section
variable (t:Thr) (m:Int)
def qhb:List Int:=remI (q20 t) m
def qhc:=RR 8/\∀ i:Nat,AV.int j6 (t.regs.getD i 0)=AV.int j6 ((z1t t m).regs.getD i 0)
def qx0:Nat:=(qhb t m).length
variable (x2:Nat)
def qhd:=AV.int j6 ((z1t t m).held.getD x2 0)
def qhe:List Int:=addI (q20 t) m
def qx1:Nat:=(qhe t m).length
end
theorem z111 (t:Thr) (m:Int):zwg t m=(((t.phase == 0)=true->KN 194 [rowI t.held,AV.int j6 m] (rowI (qhb t m))/\RR zd/\(RR j6/\t.id=(z1t t m).id)/\(RR j6/\t.fn=(z1t t m).fn)/\(RR j6/\t.pc=(z1t t m).pc)/\qhc t m/\(RR j6/\t.steps=(z1t t m).steps)/\(RR j6/\t.kids=(z1t t m).kids)/\(RR j6/\1=(z1t t m).phase)/\(RR j6/\t.status=(z1t t m).status)/\(RR j6/\t.fault=(z1t t m).fault)/\(RR leaf/\qx0 t m=(z1t t m).held.length/\∀ i:Nat,i < qx0 t m->AV.int j6 ((qhb t m).getD i 0)=qhd t m i)/\True)/\((t.phase == 0)=false->((t.phase == 1)=true->RR zd/\(RR j6/\t.id=(z1t t m).id)/\(RR j6/\t.fn=(z1t t m).fn)/\(RR j6/\t.pc=(z1t t m).pc)/\qhc t m/\(RR j6/\t.steps=(z1t t m).steps)/\(RR j6/\t.kids=(z1t t m).kids)/\(RR j6/\2=(z1t t m).phase)/\(RR j6/\t.status=(z1t t m).status)/\(RR j6/\t.fault=(z1t t m).fault)/\(RR leaf/\t.held.length=(z1t t m).held.length/\∀ i:Nat,i < t.held.length->AV.int j6 (t.held.getD i 0)=qhd t m i)/\True)/\((t.phase == 1)=false->KN 193 [rowI t.held,AV.int j6 m] (rowI (qhe t m))/\InR j6 (q39 t)/\RR zd/\(RR j6/\t.id=(z1t t m).id)/\(RR j6/\t.fn=(z1t t m).fn)/\(RR j6/\q39 t=(z1t t m).pc)/\qhc t m/\(RR j6/\t.steps=(z1t t m).steps)/\(RR j6/\t.kids=(z1t t m).kids)/\(RR j6/\0=(z1t t m).phase)/\(RR j6/\t.status=(z1t t m).status)/\(RR j6/\t.fault=(z1t t m).fault)/\(RR leaf/\qx1 t m=(z1t t m).held.length/\∀ i:Nat,i < qx1 t m->AV.int j6 ((qhe t m).getD i 0)=qhd t m i)/\True))):=by kernel_rfl
theorem z112 (t : Thr) (m : Int) (ht : TOK t) (hpc : 0 <= t.pc /\ t.pc <= 1000000) : Known Tryz.prog GG 192 [vT t, .int .i64 m] (vT (z1t t m))  := by
  refine Known.of (V := vTv 29 fun _ => none) (fn := Tryz.f192) Tryz.func192 (by kernel_rfl) (zv _) rfl ?_
  show zwg t m
  rw [z111]; try delta q20 qhb qhc qx0 qhd qhe q39 qx1
  simp only [SB]
  simp only [oR]
  refine ⟨fun h => ⟨kRem _ _ (by have := ht.held; omega), by unfold z1t; rw [if_pos h]; exact ⟨rfl, rfl, rfl, fun _ => rfl, rfl, rfl, rfl, rfl, rfl, rfl, fun _ _ => rfl⟩⟩, fun h => ⟨fun h1 => by unfold z1t; rw [if_neg h, if_pos h1]; exact ⟨rfl, rfl, rfl, fun _ => rfl, rfl, rfl, rfl, rfl, rfl, rfl, fun _ _ => rfl⟩, fun h1 => ⟨kAdd _ _ (by have := ht.held; omega), zg (by omega) (by omega), by unfold z1t; rw [if_neg h, if_neg h1]; exact ⟨rfl, rfl, rfl, fun _ => rfl, rfl, rfl, rfl, rfl, rfl, rfl, fun _ _ => rfl⟩⟩⟩⟩
section
variable (p:PProg) (b:Int) (t:Thr) (r:Int) (x4:Nat)
def qhf:=AV.int j6 ((z16 p b t r).fst.regs.getD x4 0)
def qb5:=RR zd/\(RR j6/\0=(z16 p b t r).fst.id)/\(RR j6/\0=(z16 p b t r).fst.fn)/\(RR j6/\0=(z16 p b t r).fst.pc)/\(RR 8/\∀ i:Nat,AV.int j6 0=qhf p b t r i)/\(RR j6/\0=(z16 p b t r).fst.steps)/\(RR j6/\0=(z16 p b t r).fst.kids)/\(RR j6/\0=(z16 p b t r).fst.phase)/\(RR j6/\0=(z16 p b t r).fst.status)/\(RR j6/\0=(z16 p b t r).fst.fault)/\(z16 p b t r).fst.held.length=0/\True
def qb6:Int:=t.steps + 1
def qx2:Int:=(defI (dIn (encI (atI (dP (encP p)) (dT (encT t)))))).fst
def qhg:=(defI (dIn (encI (atI (dP (encP p)) (dT (encT t)))))).snd
def qx3:=RI b/\RI r/\RR (AV.ptr 4 [])/\RR (AV.ptr 6 [])/\RR (AV.ptr 8 [])/\RR (AV.ptr 11 [])/\True
def qx4:=(27:Nat)=(27:TypeId)/\qa p
variable (x3:Nat)
def qb7:=AV.int j6 ((if (defI (atI p t)).snd=true then setR t.regs (defI (atI p t)).fst r else t.regs).getD x3 0)
def qx5:=RI (qb6 t)/\RI t.kids/\RI t.phase/\RI t.status/\RI t.fault/\RW leaf t.held.length (qak t)/\True
def qx6:=((51:Nat)=(51:TypeId)/\RR zd/\RI 0/\RI 0/\RI 0/\(RR 8/\∀ i:Nat,AV.int j6 0=q2n i)/\RI 0/\RI 0/\RI 0/\RI 0/\RI 0/\(0:Nat)=(0:Nat)/\True)/\((92:Nat)=(92:TypeId)/\RR zt/\(RR j6/\(atI (dP (encP p)) (dT (encT t))).op=(atI p t).op)/\(RR j6/\(atI (dP (encP p)) (dT (encT t))).a=(atI p t).a)/\(RR j6/\(atI (dP (encP p)) (dT (encT t))).b=(atI p t).b)/\(RR j6/\(atI (dP (encP p)) (dT (encT t))).c=(atI p t).c)/\(RR j6/\(atI (dP (encP p)) (dT (encT t))).obj=(atI p t).obj)/\(RR j6/\(atI (dP (encP p)) (dT (encT t))).n=(atI p t).n)/\(RR j6/\(atI (dP (encP p)) (dT (encT t))).fn=(atI p t).fn)/\(RR j6/\(atI (dP (encP p)) (dT (encT t))).ord=(atI p t).ord)/\True)/\True
def qx7:=AV.agg [AV.int j6 t.id,AV.int j6 t.fn,AV.int j6 t.pc,AV.arr 8 fun i=>qb7 p t r i,AV.int j6 (qb6 t),AV.int j6 t.kids,AV.int j6 t.phase,AV.int j6 t.status,AV.int j6 t.fault,rowI t.held]
def qx8:=encT (z1t (dT (qx7 p t r)) (atI p t).n)
def qx9:=AV.mc zd (qx8 p t r)
def q1d:Thr:=setl (dP (encP p)) b (dT (qx8 p t r))
def qxa:List Int:=(q1d p b t r).held
def qxb:Nat:=(qxa p b t r).length
def qxc:=AV.int j6 ((z16 p b t r).fst.held.getD x4 0)
def qxd:=(RR j6/\0=(z16 p b t r).snd)/\True
def qxe:=(atI p t).op == 18
variable (x0:Thr)
def qhh:Int:=x0.pc + 1
end
section
variable (p:PProg) (b:Int) (t:Thr) (r:Int) (x4:Thr)
def q7b:=z7a p b t r/\z25 t (atI p t) r=Thr.mk x4.id x4.fn (qhh x4) x4.regs x4.steps x4.kids x4.phase x4.status x4.fault x4.held/\x4.pc=t.pc
def q7c:=RI b/\RR (AV.ptr 4 [])/\RR (AV.ptr 6 [])/\RR (AV.ptr 8 [])/\True
variable (x3:Thr)
def qb8:=RR 8/\∀ (i:Nat),qb7 p t r i=AV.int j6 (x3.regs.getD i 0)
variable (x1:Thr)
def qb9:=RR j6/\qb6 t=x1.steps
def qxf:=(RR j6/\t.phase=x1.phase)/\(RR j6/\t.status=x1.status)/\(RR j6/\t.fault=x1.fault)/\(RR leaf/\t.held.length=x1.held.length/\∀ (i:Nat),i < t.held.length->AV.int j6 (t.held.getD i 0)=AV.int j6 (x1.held.getD i 0))/\True
def q7d:=(RR (51:TypeId)/\RR zd/\RI 0/\RI 0/\RI 0/\(RR 8/\∀ (i:Nat),RR (q2n i))/\RI 0/\RI 0/\RI 0/\RI 0/\RI 0/\(RW leaf ((0:Nat)) fun (i:Nat)=>AV.int j6 (List.getD [] i (0:Int)))/\True)/\True
def qxg:=∃ j,q7b p b t r j/\q7c b/\qf p/\(RR (51:TypeId)/\RR zd/\(RR j6/\t.id=j.id)/\(RR j6/\t.fn=j.fn)/\(RR j6/\t.pc=j.pc)/\qb8 p t r j/\qb9 t j/\(RR j6/\t.kids=j.kids)/\qxf t j)/\q7d
def qxh:List AV:=[rowI t.held,AV.int j6 (atI p t).obj]
def qhi:List Int:=addI (q6v t) (atI p t).obj
def qxi:Nat:=(qhi p t).length
def qxj:=KN 193 (qxh p t) (rowI (qhi p t))/\(∃ j,q7b p b t r j/\q7c b/\qf p/\(RR (51:TypeId)/\RR zd/\(RR j6/\t.id=j.id)/\(RR j6/\t.fn=j.fn)/\(RR j6/\t.pc=j.pc)/\qb8 p t r j/\qb9 t j/\(RR j6/\t.kids=j.kids)/\(RR j6/\t.phase=j.phase)/\(RR j6/\t.status=j.status)/\(RR j6/\t.fault=j.fault)/\(RR leaf/\qxi p t=j.held.length/\∀ (i:Nat),i < qxi p t->AV.int j6 ((qhi p t).getD i (0:Int))=AV.int j6 (j.held.getD i (0:Int)))/\True)/\q7d)
def qxk:=(atI p t).op == 17
def qxl:=(atI p t).op == 15
def qhj:List Int:=remI (q6v t) (atI p t).obj
def qxm:Nat:=(qhj p t).length
def qxn:=(atI p t).op == 16
def qxo:Int:=t.kids + 1
def qxp:=(atI p t).op == 21
def q1e:Thr:=setl (dP (encP p)) b (dT (encT (z25 t (atI p t) r)))
def qxq:List Int:=(q1e p b t r).held
def qxr:Nat:=(qxq p b t r).length
end
theorem z113 (p:PProg) (b:Int) (t:Thr) (r:Int):zwh p b t r=(KN 136 [AV.mc za (encP p),AV.int j6 b] (AV.int j6 (stdE (dP (encP p)) b))/\(qv p b=true->qb5 p b t r/\(RR j6/\stdE (dP (encP p)) b=(z16 p b t r).snd)/\True)/\(qv p b=false->KN 174 [AV.mc za (encP p),AV.int j6 b,AV.mc zd (encT t)] (AV.bool (valT (dP (encP p)) b (dT (encT t))))/\((!valT (dP (encP p)) b (dT (encT t)))=true->qb5 p b t r/\(RR j6/\1=(z16 p b t r).snd)/\True)/\((!valT (dP (encP p)) b (dT (encT t)))=false->((t.status != 1)=true->qb5 p b t r/\(RR j6/\30=(z16 p b t r).snd)/\True)/\((t.status != 1)=false->KN 138 [AV.int j6 r] (AV.int j6 (wr r))/\((wr r != r)=true->qb5 p b t r/\(RR j6/\2=(z16 p b t r).snd)/\True)/\((wr r != r)=false->KN 190 [AV.mc za (encP p),AV.mc zd (encT t)] (AV.tup [AV.mc zt (encI (atI (dP (encP p)) (dT (encT t)))),AV.bool (atB (dP (encP p)) (dT (encT t)))])/\InR j6 (qb6 t)/\(KN 191 [AV.mc zt (encI (atI (dP (encP p)) (dT (encT t))))] (AV.tup [AV.int j6 (qx2 p t),AV.bool (qhg p t)])/\(qhg p t=true->inIx (qx2 p t) 8/\(∃ (_:Unit),z7a p b t r/\qx3 b r/\qx4 p/\((51:Nat)=(51:TypeId)/\RR zd/\RI t.id/\RI t.fn/\RI t.pc/\(RR (8:Nat)/\∀ (i:Nat),(if i=(defI (dIn (encI (atI (dP (encP p)) (dT (encT t)))))).fst.toNat then strip1 (strip1 (AV.int j6 r)) else AV.int j6 (t.regs.getD i (0:Int)))=qb7 p t r i)/\qx5 t)/\qx6 p t))/\(qhg p t=false->∃ (_:Unit),z7a p b t r/\qx3 b r/\qx4 p/\((51:Nat)=(51:TypeId)/\RR zd/\RI t.id/\RI t.fn/\RI t.pc/\(RR (8:Nat)/\∀ (i:Nat),AV.int j6 (t.regs.getD i (0:Int))=qb7 p t r i)/\qx5 t)/\qx6 p t))/\∀ _:Unit,z7a p b t r->(qxe p t=true->KN 192 [AV.mc zd (qx7 p t r),AV.int j6 (atI p t).n] (qx9 p t r)/\KN 139 [AV.mc za (encP p),AV.int j6 b,qx9 p t r] (AV.mc zd (encT (q1d p b t r)))/\(RR zd/\(RR j6/\(q1d p b t r).id=(z16 p b t r).fst.id)/\(RR j6/\(q1d p b t r).fn=(z16 p b t r).fst.fn)/\(RR j6/\(q1d p b t r).pc=(z16 p b t r).fst.pc)/\(RR 8/\∀ (i:Nat),AV.int j6 ((q1d p b t r).regs.getD i 0)=qhf p b t r i)/\(RR j6/\(q1d p b t r).steps=(z16 p b t r).fst.steps)/\(RR j6/\(q1d p b t r).kids=(z16 p b t r).fst.kids)/\(RR j6/\(q1d p b t r).phase=(z16 p b t r).fst.phase)/\(RR j6/\(q1d p b t r).status=(z16 p b t r).fst.status)/\(RR j6/\(q1d p b t r).fault=(z16 p b t r).fst.fault)/\(RR leaf/\qxb p b t r=(z16 p b t r).fst.held.length/\∀ (i:Nat),i < qxb p b t r->AV.int j6 ((qxa p b t r).getD i 0)=qxc p b t r i)/\True)/\qxd p b t r)/\(qxe p t=false->((qxk p t=true->((r == 0)=true->qxg p b t r)/\((r == 0)=false->qxj p b t r))/\(qxk p t=false->(qxl p t=true->qxj p b t r)/\(qxl p t=false->(qxn p t=true->KN 194 (qxh p t) (rowI (qhj p t))/\(∃ j,q7b p b t r j/\q7c b/\qf p/\(RR (51:TypeId)/\RR zd/\(RR j6/\t.id=j.id)/\(RR j6/\t.fn=j.fn)/\(RR j6/\t.pc=j.pc)/\qb8 p t r j/\qb9 t j/\(RR j6/\t.kids=j.kids)/\(RR j6/\t.phase=j.phase)/\(RR j6/\t.status=j.status)/\(RR j6/\t.fault=j.fault)/\(RR leaf/\qxm p t=j.held.length/\∀ (i:Nat),i < qxm p t->AV.int j6 ((qhj p t).getD i (0:Int))=AV.int j6 (j.held.getD i (0:Int)))/\True)/\q7d))/\(qxn p t=false->(qxp p t=true->InR j6 (qxo t)/\(∃ j,q7b p b t r j/\q7c b/\qf p/\(RR (51:TypeId)/\RR zd/\(RR j6/\t.id=j.id)/\(RR j6/\t.fn=j.fn)/\(RR j6/\t.pc=j.pc)/\qb8 p t r j/\qb9 t j/\(RR j6/\qxo t=j.kids)/\qxf t j)/\q7d))/\(qxp p t=false->qxg p b t r)))))/\∀ (i:Thr),q7b p b t r i->(InR j6 (qhh i)/\∃ (_:Unit),z7a p b t r/\q7c b/\qf p/\(RR (51:TypeId)/\RR zd/\(RR j6/\i.id=(z25 t (atI p t) r).id)/\(RR j6/\i.fn=(z25 t (atI p t) r).fn)/\(RR j6/\qhh i=(z25 t (atI p t) r).pc)/\(RR (8:Nat)/\∀ (i_1:Nat),AV.int j6 (i.regs.getD i_1 (0:Int))=AV.int j6 ((z25 t (atI p t) r).regs.getD i_1 (0:Int)))/\(RR j6/\i.steps=(z25 t (atI p t) r).steps)/\(RR j6/\i.kids=(z25 t (atI p t) r).kids)/\(RR j6/\i.phase=(z25 t (atI p t) r).phase)/\(RR j6/\i.status=(z25 t (atI p t) r).status)/\(RR j6/\i.fault=(z25 t (atI p t) r).fault)/\(RR leaf/\i.held.length=(z25 t (atI p t) r).held.length/\∀ (i_1:Nat),i_1 < i.held.length->AV.int j6 (i.held.getD i_1 (0:Int))=AV.int j6 ((z25 t (atI p t) r).held.getD i_1 (0:Int)))/\True)/\q7d)/\∀ (_:Unit),z7a p b t r->KN 139 [AV.mc za (encP p),AV.int j6 b,AV.mc zd (encT (z25 t (atI p t) r))] (AV.mc zd (encT (q1e p b t r)))/\(RR zd/\(RR j6/\(q1e p b t r).id=(z16 p b t r).fst.id)/\(RR j6/\(q1e p b t r).fn=(z16 p b t r).fst.fn)/\(RR j6/\(q1e p b t r).pc=(z16 p b t r).fst.pc)/\(RR (8:Nat)/\∀ (i:Nat),AV.int j6 ((q1e p b t r).regs.getD i (0:Int))=qhf p b t r i)/\(RR j6/\(q1e p b t r).steps=(z16 p b t r).fst.steps)/\(RR j6/\(q1e p b t r).kids=(z16 p b t r).fst.kids)/\(RR j6/\(q1e p b t r).phase=(z16 p b t r).fst.phase)/\(RR j6/\(q1e p b t r).status=(z16 p b t r).fst.status)/\(RR j6/\(q1e p b t r).fault=(z16 p b t r).fst.fault)/\(RR leaf/\qxr p b t r=(z16 p b t r).fst.held.length/\∀ (i:Nat),i < qxr p b t r->AV.int j6 ((qxq p b t r).getD i (0:Int))=qxc p b t r i)/\True)/\qxd p b t r)))))):=by kernel_rfl
theorem z114 (p : PProg) (b : Int) (t : Thr) (r : Int) (hp : PSm p) (ht : TOK t) : Known Tryz.prog GG 129 [vP p, .int .i64 b, vT t, .int .i64 r] (.tup [vT (z16 p b t r).1, .int .i64 (z16 p b t r).2])  := by
  refine Known.of (V := { vTv 103 (fun _ => none) with cut := zlv p b t r }) (fn := Tryz.f129) Tryz.func129 (by kernel_rfl) (zv _) rfl ?_
  show zwh p b t r
  rw [z113]; try delta qhf qb5 qv qb6 qx2 qhg qx3 qa qx4 qb7 qak qx5 q2n qx6 qx7 qx8 qx9 q1d qxa qxb qxc qxd qxe qhh q7b q7c qf qb8 qb9 qxf q7d qxg qxh q6v qhi qxi qxj qxk qxl qhj qxm qxn qxo qxp q1e qxq qxr
  simp only [SB, inIx]
  have hw := zck t (atI p t) r
  rw [ht.regs] at hw
  have hw' : (if (defI (atI p t)).2 = true then setR t.regs (defI (atI p t)).1 r else t.regs).length = 8 := hw
  have hd : (z25 t (atI p t) r).regs.length = 8 := by rw [(zly t (atI p t) r).2.2.2.1]; exact hw
  have hww : (z1t (wrote t (atI p t) r) (atI p t).n).regs.length = 8 := by rw [zlz]; exact hw
  simp only [z2u t ht.regs, fT', wE, z2u _ hw, z2u _ hww, z2u _ hd, oR, and_true]
  refine ⟨kStd p b hp, fun h => ?_, fun h => ⟨zq9 p b t ⟨hp, (z7b h).1⟩ ht, fun hv => ?_, fun hv => ⟨fun hs => ?_, fun hs => ⟨zb4 _, fun hr => ?_, fun hr => ?_⟩⟩⟩⟩
  . have e : z16 p b t r = (c0t, stdE p b) := by unfold z16; rw [if_pos h]
    rw [e]; exact ⟨zThr, rfl⟩
  . have e : z16 p b t r = (c0t, 1) := by unfold z16; rw [if_neg (by simp [h]), if_pos hv]
    rw [e]; exact ⟨zThr, rfl⟩
  . have e : z16 p b t r = (c0t, 30) := by unfold z16; rw [if_neg (by simp [h]), if_neg (by simp [hv]), if_pos hs]
    rw [e]; exact ⟨zThr, rfl⟩
  . have e : z16 p b t r = (c0t, 2) := by unfold z16; rw [if_neg (by simp [h]), if_neg (by simp [hv]), if_neg (by simp [hs]), if_pos hr]
    rw [e]; exact ⟨zThr, rfl⟩
  have hf : z7a p b t r := ⟨h, hv, hs, hr⟩
  have e : z16 p b t r = (setl p b (z25 t (atI p t) r), 0) := by unfold z16; rw [if_neg (by simp [h]), if_neg (by simp [hv]), if_neg (by simp [hs]), if_neg (by simp [hr])]
  have P : POk p := ⟨hp, (z7b h).1⟩
  have F := z9y hv
  have W := F.wf ht
  obtain ⟨r1, r2, r3, r4, r5⟩ := zdq hv hs
  have DW := zt5 P ht hv hs r
  have h5 := F.steps
  have hsm := W.small P
  have hlen := F.hlen P
  have hstd := (z7b h).2
  rw [e]
  refine ⟨kAt p t F.fn F.pc.1 hp, zg (by omega) (by omega), ⟨kDef _, fun hd => ⟨by have := zwi hd; omega, (), hf, fun j => ?_, fun j => by rw [zls]⟩, fun hd => ⟨(), hf, fun j => ?_, fun j => by rw [zls]⟩⟩, ?_⟩
  . rw [if_pos hd]
    obtain ⟨q1, q2⟩ := zwi hd
    rw [q1]; exact zht _ _ _ ht.regs q2 j
  . rw [if_neg (by simp [hd])]
  refine fun _ _ => ⟨fun h18 => ?_, fun h18 => ⟨⟨fun h17 => ⟨fun r0 => ?_, fun r0 => ⟨kAdd _ _ (by omega), ?_⟩⟩, fun h17 => ?_⟩, ?_⟩⟩
  . have ed : z25 t (atI p t) r = z1t (wrote t (atI p t) r) (atI p t).n := by unfold z25; rw [if_pos h18]
    rw [ed] at DW ⊢
    exact ⟨z112 _ _ ⟨hw, ht.id, by show t.pc < _; omega, by show t.held.length <= _; omega⟩ (by show 0 <= t.pc /\ t.pc <= _; omega), zsz p b _ P DW, ⟨rfl, rfl, rfl, fun _ => rfl, rfl, rfl, rfl, rfl, rfl, rfl, fun _ _ => rfl⟩, rfl⟩
  . exact ⟨wrote t (atI p t) r, ⟨hf, by unfold z25; rw [if_neg h18, if_neg (by omega), if_neg (by omega), if_neg (by omega)]; rfl, rfl⟩, ⟨rfl, rfl, rfl, fun _ => rfl, rfl, rfl, rfl, rfl, rfl, rfl, fun _ _ => rfl⟩⟩
  . exact ⟨{ wrote t (atI p t) r with held := addI t.held (atI p t).obj }, ⟨hf, by unfold z25; rw [if_neg h18, if_pos (.inl ⟨h17, r0⟩)]; rfl, rfl⟩, ⟨rfl, rfl, rfl, fun _ => rfl, rfl, rfl, rfl, rfl, rfl, rfl, fun _ _ => rfl⟩⟩
  . refine ⟨fun h15 => ⟨kAdd _ _ (by omega), ?_⟩, fun h15 => ⟨fun h16 => ⟨kRem _ _ (by omega), ?_⟩, fun h16 => ⟨fun h21 => ⟨zg (by have := F.kids; omega) (by have := F.kids; omega), ?_⟩, fun h21 => ?_⟩⟩⟩
    . exact ⟨{ wrote t (atI p t) r with held := addI t.held (atI p t).obj }, ⟨hf, by unfold z25; rw [if_neg h18, if_pos (.inr h15)]; rfl, rfl⟩, ⟨rfl, rfl, rfl, fun _ => rfl, rfl, rfl, rfl, rfl, rfl, rfl, fun _ _ => rfl⟩⟩
    . exact ⟨{ wrote t (atI p t) r with held := remI t.held (atI p t).obj }, ⟨hf, by unfold z25; rw [if_neg h18, if_neg (by omega), if_pos h16]; rfl, rfl⟩, ⟨rfl, rfl, rfl, fun _ => rfl, rfl, rfl, rfl, rfl, rfl, rfl, fun _ _ => rfl⟩⟩
    . exact ⟨{ wrote t (atI p t) r with kids := t.kids + 1 }, ⟨hf, by unfold z25; rw [if_neg h18, if_neg (by omega), if_neg h16, if_pos h21]; rfl, rfl⟩, ⟨rfl, rfl, rfl, fun _ => rfl, rfl, rfl, rfl, rfl, rfl, rfl, fun _ _ => rfl⟩⟩
    . exact ⟨wrote t (atI p t) r, ⟨hf, by unfold z25; rw [if_neg h18, if_neg (by omega), if_neg h16, if_neg h21]; rfl, rfl⟩, ⟨rfl, rfl, rfl, fun _ => rfl, rfl, rfl, rfl, rfl, rfl, rfl, fun _ _ => rfl⟩⟩
  . rintro u ⟨_, hu, hpc⟩
    refine ⟨⟨zg (by omega) (by omega), (), hf, by rw [hu]; exact ⟨rfl, rfl, rfl, fun _ => rfl, rfl, rfl, rfl, rfl, rfl, rfl, fun _ _ => rfl⟩⟩, fun _ _ => ⟨zsz p b _ P DW, ⟨rfl, rfl, rfl, fun _ => rfl, rfl, rfl, rfl, rfl, rfl, rfl, fun _ _ => rfl⟩, rfl⟩⟩
end
end
end Go.Proofs.S25
namespace Go.Proofs.S25
open Go Go.AV
open Go.IntKind renaming i64 -> j6
open Go.AV.Shape (leaf)
noncomputable section
noncomputable def zm1 (n : Int) : Prop := fnVc (vTv 9 fun _ => none) Tryz.f85 [.int .i64 n] (.bool (valB n))
noncomputable def zwk (p : PProg) (b : Int) : Prop := fnVc (vTv 23 fun _ => none) Tryz.f83 [vP p, .int .i64 b] (.int .i64 (stdE p b))
noncomputable def zqa (p : PProg) (b id fn arg : Int) : Prop := fnVc (vTv 49 fun _ => none) Tryz.f40 [vP p, .int .i64 b, .int .i64 id, .int .i64 fn, .int .i64 arg] (.tup [vT (newT p b id fn arg).1, .int .i64 (newT p b id fn arg).2])
def uA (t : Thr) (i : Inst) (r : Int) : Thr := { wrote t i r with held := if (i.op = 17 /\ r ≠ 0) ∨ i.op = 15 then addI t.held i.obj else t.held }
def uB (t : Thr) (i : Inst) (r : Int) : Thr := { wrote t i r with held := if i.op = 16 then remI t.held i.obj else (uA t i r).held }
def zhy (a b : Thr) (k : Nat) : Option Inv := match Nat.beq k 4 with
  | true => some { ι := Nat, S := fun i => ⟨[(2, .ptr 2 []), (3, .ptr 3 []), (5, .int .i64 i)], [(2, zfc a), (3, zfc b)]⟩, μ := fun i => a.held.length - i, ok := fun i => i <= a.held.length /\ a.held.length = b.held.length /\ ∀ j, j < i -> a.held.getD j 0 = b.held.getD j 0 }
  | false => none
noncomputable def zqb (a b : Thr) : Prop := fnVc (vTv 90 (zhy a b)) Tryz.f31 [vT a, vT b] (.bool (a == b))
end
end Go.Proofs.S25
namespace Go.Proofs.S25
open Go Go.AV
open Go.IntKind renaming i64 -> j6
open Go.AV.Shape (leaf)
noncomputable section
open Go.IntKind renaming i64 -> j6
open Go.AV.Shape (leaf)
noncomputable section

theorem zt7 (n:Int):zm1 n=(q2e n/\q2e n/\(q4d n&&decide (n<=2147483647))=valB n):=by kernel_rfl
theorem zt8 (n : Int)  : Known Tryz.prog GG 85 [.int .i64 n] (.bool (valB n))  := by
  refine Known.of (V := vTv 9 fun _ => none) (fn := Tryz.f85) Tryz.func85 (by kernel_rfl) (zv _) rfl ?_
  show zm1 n
  rw [zt7]; try delta q4d qaa q2e
  simp only [SB]
  rfl
theorem z115 (p:PProg) (b:Int):zwk p b=(KN 68 [AV.mc za (encP p)] (AV.tup [AV.int j6 (zb (dP (encP p))).fst,AV.int j6 (zb (dP (encP p))).snd.fst,AV.int j6 (zb (dP (encP p))).snd.snd])/\(qo p=true->RR j6/\(zb (dP (encP p))).fst=stdE p b)/\(qo p=false->qt b/\qt b/\(qu b=true->RR j6/\2=stdE p b)/\(qu b=false->RR j6/\0=stdE p b))):=by kernel_rfl
theorem z116 (p : PProg) (b : Int) (hp : PSm p) : Known Tryz.prog GG 83 [vP p, .int .i64 b] (.int .i64 (stdE p b))  := by
  refine Known.of (V := vTv 23 fun _ => none) (fn := Tryz.f83) Tryz.func83 (by kernel_rfl) (zv _) rfl ?_
  show zwk p b
  rw [z115]; try delta qo q4t q4u qt qu
  simp only [SB]
  refine ⟨zsc p hp, fun h => ?_, fun h => ⟨fun h2 => ?_, fun h2 => ?_⟩⟩
  . unfold stdE; rw [if_pos (by simpa using h)]
  . unfold stdE; rw [if_neg (by simp [h]), if_pos h2]
  . unfold stdE; rw [if_neg (by simp [h]), if_neg (by omega)]
section
variable (id:Int)
def qxs:=decide (0<=depI id)
def qxt:=!qxs id
end
theorem zwl (p:PProg) (b id fn arg:Int):zqa p b id fn arg=(KN 83 [AV.mc za (encP p),AV.int j6 b] (AV.int j6 (stdE (dP (encP p)) b))/\(qv p b=true->q51 p b id fn arg/\(RR j6/\stdE (dP (encP p)) b=(newT p b id fn arg).snd)/\True)/\(qv p b=false->KN 84 [AV.int j6 id] (AV.bool (qxs id))/\(qxt id=true->q76 p b id fn arg)/\(qxt id=false->q1c fn/\q1c fn/\(q77 fn->↑p.funs.length<=(9223372036854775807:Int))/\q1c fn/\q1c fn/\q1c fn/\(q78 p fn=true->q51 p b id fn arg/\(RR j6/\11=(newT p b id fn arg).snd)/\True)/\(q78 p fn=false->KN 85 [AV.int j6 arg] (AV.bool (valB arg))/\((!valB arg)=true->q76 p b id fn arg)/\((!valB arg)=false->inIx 0 8/\KN 86 [AV.mc za (encP p),AV.int j6 b,AV.mc zd (qaw id fn arg)] (AV.mc zd (encT (qg p b id fn arg)))/\(RR zd/\(RR j6/\(qg p b id fn arg).id=(newT p b id fn arg).fst.id)/\(RR j6/\(qg p b id fn arg).fn=(newT p b id fn arg).fst.fn)/\(RR j6/\(qg p b id fn arg).pc=(newT p b id fn arg).fst.pc)/\(RR 8/\∀ i:Nat,AV.int j6 ((qg p b id fn arg).regs.getD i 0)=qav p b id fn arg i)/\(RR j6/\(qg p b id fn arg).steps=(newT p b id fn arg).fst.steps)/\(RR j6/\(qg p b id fn arg).kids=(newT p b id fn arg).fst.kids)/\(RR j6/\(qg p b id fn arg).phase=(newT p b id fn arg).fst.phase)/\(RR j6/\(qg p b id fn arg).status=(newT p b id fn arg).fst.status)/\(RR j6/\(qg p b id fn arg).fault=(newT p b id fn arg).fst.fault)/\(RR leaf/\q79 p b id fn arg=(newT p b id fn arg).fst.held.length/\∀ i:Nat,i < q79 p b id fn arg->AV.int j6 ((qax p b id fn arg).getD i 0)=AV.int j6 ((newT p b id fn arg).fst.held.getD i 0))/\True)/\(RR j6/\0=(newT p b id fn arg).snd)/\True))))):=by kernel_rfl
theorem zwm (p : PProg) (b id fn arg : Int) (hp : PSm p) (hid : id <= 9223372036854775807) : Known Tryz.prog GG 40 [vP p, .int .i64 b, .int .i64 id, .int .i64 fn, .int .i64 arg] (.tup [vT (newT p b id fn arg).1, .int .i64 (newT p b id fn arg).2])  := by
  refine Known.of (V := vTv 49 fun _ => none) (fn := Tryz.f40) Tryz.func40 (by kernel_rfl) (zv _) rfl ?_
  show zqa p b id fn arg
  rw [zwl]; try delta qav q51 qv qxs q76 qxt qgx q77 q1c q78 qaw qg qax q79
  simp only [SB, inIx]
  simp only [zm0]
  refine ⟨z116 p b hp, fun h => ?_, fun h => ⟨zsv id hid, fun hd => ?_, fun hd => ⟨fun _ => by have := hp.funs; omega, fun hf => ?_, fun hf => ⟨zt8 _, fun hw => ?_, fun hw => ⟨by decide, ?_, ?_⟩⟩⟩⟩⟩
  . have e : newT p b id fn arg = (c0t, stdE p b) := by unfold newT; rw [if_pos h]
    rw [e]; exact ⟨zThr, rfl⟩
  . have e : newT p b id fn arg = (c0t, 2) := by unfold newT; rw [if_neg (by simp [h]), if_pos (by omega)]
    rw [e]; exact ⟨zThr, rfl⟩
  . have e : newT p b id fn arg = (c0t, 11) := by unfold newT; rw [if_neg (by simp [h]), if_neg (by omega), if_pos hf]
    rw [e]; exact ⟨zThr, rfl⟩
  . have hw' : wr arg ≠ arg := fun q => by
      have := z5i.2 (zf7.1 q)
      rw [hw] at this; cases this
    have e : newT p b id fn arg = (c0t, 2) := by unfold newT; rw [if_neg (by simp [h]), if_neg (by omega), if_neg (by omega), if_pos hw']
    rw [e]; exact ⟨zThr, rfl⟩
  . have hk := zwd p b (zfb id fn arg) ⟨hp, (z7b h).1⟩ (zgo hid (by omega)) rfl
    exact hk.weaken (args' := [_, _, _]) rfl ⟨leP p, ⟨rfl, rfl⟩, ⟨rfl, ⟨rfl, rfl⟩, ⟨rfl, rfl⟩, ⟨rfl, rfl⟩, ⟨rfl, zfd arg⟩, ⟨rfl, rfl⟩, ⟨rfl, rfl⟩, ⟨rfl, rfl⟩, ⟨rfl, rfl⟩, ⟨rfl, rfl⟩, rfl, trivial⟩, trivial⟩
  . have hw' := zf7.2 (z5i.1 hw)
    have e : newT p b id fn arg = (setl p b (zfb id fn arg), 0) := by unfold newT; rw [if_neg (by simp [h]), if_neg (by omega), if_neg (by omega), if_neg (by simp [hw'])]
    rw [e]; exact ⟨⟨rfl, rfl, rfl, fun _ => rfl, rfl, rfl, rfl, rfl, rfl, rfl, fun _ _ => rfl⟩, rfl⟩
theorem zt9 {a b : List Int} (ha : a.length = 8) (hb : b.length = 8) (h : a.getD 0 0 = b.getD 0 0 /\ a.getD 1 0 = b.getD 1 0 /\ a.getD 2 0 = b.getD 2 0 /\ a.getD 3 0 = b.getD 3 0 /\ a.getD 4 0 = b.getD 4 0 /\ a.getD 5 0 = b.getD 5 0 /\ a.getD 6 0 = b.getD 6 0 /\ a.getD 7 0 = b.getD 7 0) : a = b := by
  refine z2q (d := 0) (by omega) fun j hj => ?_
  obtain ⟨h0, h1, h2, h3, h4, h5, h6, h7⟩ := h
  have : j = 0 ∨ j = 1 ∨ j = 2 ∨ j = 3 ∨ j = 4 ∨ j = 5 ∨ j = 6 ∨ j = 7 := by omega
  rcases this with rfl | rfl | rfl | rfl | rfl | rfl | rfl | rfl <;> assumption
section
variable (a:Thr)
def qxu:=↑a.held.length<=(9223372036854775807:Int)
variable (b:Thr)
def qxv:=(↑a.held.length:Int) != (↑b.held.length:Int)
variable (x2:Nat)
def qhk:=x2<=a.held.length/\a.held.length=b.held.length/\∀ j:Nat,j < x2->a.held.getD j 0=b.held.getD j 0
def qxw:=RR zd/\RI a.id/\RI a.fn/\RI a.pc/\(RR 8/\∀ (i:Nat),RR (AV.int j6 (a.regs.getD i 0)))/\RI a.steps/\RI a.kids/\RI a.phase/\RI a.status/\RI a.fault/\(RW leaf a.held.length fun i=>AV.int j6 (a.held.getD i 0))/\True
def qxx:=RR zd/\RI b.id/\RI b.fn/\RI b.pc/\(RR 8/\∀ (i:Nat),RR (AV.int j6 (b.regs.getD i 0)))/\RI b.steps/\RI b.kids/\RI b.phase/\RI b.status/\RI b.fault/\(RW leaf b.held.length fun i=>AV.int j6 (b.held.getD i 0))/\True
def qxy:=a.held.getD (↑x2:Int).toNat 0 != b.held.getD (↑x2:Int).toNat 0
variable (x1:Nat)
def qxz:=decide ((↑x1:Int) < (↑a.held.length:Int))
def qy0:=(!a.id != b.id)=true
def q7e:=qy0 a b->qy0 a b
def qy1:=a.id != b.id||a.fn != b.fn
def qy2:=(!qy1 a b)=true
def q7f:=qy2 a b->qy2 a b
def qy3:=qy1 a b||a.pc != b.pc
def qy4:=(!qy3 a b)=true
def q7g:=qy4 a b->qy4 a b
def qy5:=qy3 a b||!(a.regs.getD (nat_lit 0) (0:Int) == b.regs.getD (nat_lit 0) (0:Int)&&(a.regs.getD (nat_lit 1) (0:Int) == b.regs.getD (nat_lit 1) (0:Int)&&(a.regs.getD (nat_lit 2) (0:Int) == b.regs.getD (nat_lit 2) (0:Int)&&(a.regs.getD (nat_lit 3) (0:Int) == b.regs.getD (nat_lit 3) (0:Int)&&(a.regs.getD (nat_lit 4) (0:Int) == b.regs.getD (nat_lit 4) (0:Int)&&(a.regs.getD (nat_lit 5) (0:Int) == b.regs.getD (nat_lit 5) (0:Int)&&(a.regs.getD (nat_lit 6) (0:Int) == b.regs.getD (nat_lit 6) (0:Int)&&(a.regs.getD (nat_lit 7) (0:Int) == b.regs.getD (nat_lit 7) (0:Int)&&true))))))))
def qy6:=(!qy5 a b)=true
def q7h:=qy6 a b->qy6 a b
def qy7:=qy5 a b||a.steps != b.steps
def q7i:=(a.kids == b.kids)=true->(a.kids == b.kids)=true
def qy8:=a.kids == b.kids&&a.phase == b.phase
def qy9:=qy8 a b=true
def q7j:=qy9 a b->qy9 a b
def qya:=qy8 a b&&a.status == b.status
def qyb:=qya a b=true
def q7k:=qyb a b->qyb a b
end
theorem zwn (a b:Thr):zqb a b=(qxu a/\↑b.held.length<=(9223372036854775807:Int)/\(qxv a b=true->false=(a == b))/\(qxv a b=false->(∃ i,qhk a b i/\(RR (AV.ptr (2:Nat) [])/\RR (AV.ptr (3:Nat) [])/\(RR j6/\(0:Int)=↑i)/\True)/\((51:Nat)=(51:TypeId)/\qxw a)/\((51:Nat)=(51:TypeId)/\qxx b)/\True)/\∀ i:Nat,qhk a b i->qxu a/\(qxz a i=true->inIx (↑i) a.held.length/\inIx (↑i) b.held.length/\(qxy a b i=true->false=(a == b))/\(qxy a b i=false->InR j6 (q8 i)/\(∃ j,qhk a b j/\a.held.length - j < a.held.length - i/\(RR (AV.ptr (2:Nat) [])/\RR (AV.ptr (3:Nat) [])/\(RR j6/\q8 i=↑j)/\True)/\(RR (51:TypeId)/\qxw a)/\(RR (51:TypeId)/\qxx b)/\True)))/\(qxz a i=false->q7e a b/\q7e a b/\q7e a b/\q7e a b/\q7e a b/\q7f a b/\q7f a b/\q7f a b/\q7f a b/\q7f a b/\q7g a b/\q7g a b/\q7g a b/\q7g a b/\q7g a b/\q7h a b/\q7h a b/\q7h a b/\q7h a b/\q7h a b/\(qy7 a b=true->false=(a == b))/\(qy7 a b=false->q7i a b/\q7i a b/\q7i a b/\q7i a b/\q7i a b/\q7j a b/\q7j a b/\q7j a b/\q7j a b/\q7j a b/\q7k a b/\q7k a b/\q7k a b/\q7k a b/\q7k a b/\(qya a b&&a.fault == b.fault)=(a == b))))):=by kernel_rfl
theorem zwo (a b : Thr) (ha : TOK a) (hb : TOK b) : Known Tryz.prog GG 31 [vT a, vT b] (.bool (a == b))  := by
  refine Known.of (V := vTv 90 (zhy a b)) (fn := Tryz.f31) Tryz.func31 (by kernel_rfl) (zv _) rfl ?_
  show zqb a b
  rw [zwn]; try delta qxu qxv qhk qxw qxx qxy q8 qxz qy0 q7e qy1 qy2 q7f qy3 qy4 q7g qy5 qy6 q7h qy7 q7i qy8 qy9 q7j qya qyb q7k
  simp only [SB, inIx, reduceCtorEq]
  have h1 := ha.held
  have h2 := hb.held
  refine ⟨by omega, by omega, fun h => ?_, fun h => ⟨⟨0, ⟨by omega, by omega, fun j hj => by omega⟩, rfl⟩, fun i hi => ⟨by omega, fun hlt => ⟨hlt, by omega, fun hne => ?_, fun he => ⟨zg (by omega) (by omega), i + 1, ⟨by omega, hi.2.1, fun j hj => ?_⟩, by omega, by omega⟩⟩, fun hge => ⟨fun hne => ?_, fun he => ?_⟩⟩⟩⟩
  . symm; rw [beq_eq_false_iff_ne]; rintro rfl; omega
  . symm; rw [beq_eq_false_iff_ne]; rintro rfl; exact hne rfl
  . by_cases e : j = i
    . subst e; exact he
    . exact hi.2.2 j (by omega)
  . symm; rw [beq_eq_false_iff_ne]; rintro rfl; simp at hne
  . have hh : a.held = b.held := z2q (d := 0) hi.2.1 fun j hj => hi.2.2 j (by omega)
    obtain ⟨⟨⟨⟨e1, e2⟩, e3⟩, e4⟩, e5⟩ := he
    have hr := zt9 ha.regs hb.regs e4
    cases a
    cases b
    simp only at e1 e2 e3 e5 hr hh
    subst e1 e2 e3 e5 hr hh
    rw [Bool.eq_iff_iff]
    simp only [Bool.and_eq_true, beq_iff_eq, Thr.mk.injEq, true_and, and_true]
    constructor
    . rintro ⟨⟨⟨a, b⟩, c⟩, d⟩; exact ⟨a, b, c, d⟩
    . rintro ⟨a, b, c, d⟩; exact ⟨⟨⟨a, b⟩, c⟩, d⟩
end
end
end Go.Proofs.S25
namespace Go.Proofs.S25
open Go Go.AV
open Go.IntKind renaming i64 -> j6
open Go.AV.Shape (leaf)
noncomputable section
abbrev zbg (m : Mem) : BoxC := .cell 32 zw (encM m)
def qBox (l : List (List Int)) : BoxC := .row 29 .leaf l.length fun i => rowI (l.getD i [])
def allI (m : Mem) : List Int := m.sig ++ m.queues.flatten
def zta (l : List Int) : Bool := (List.range l.length).all fun i => !decide (l.getD i 0 < 0) && !hasI (l.take i) (l.getD i 0)
def z5j (m : Mem) : Bool := !(decide (8 < m.vars.length) || (decide (4 < m.owners.length) || decide (4 < m.queues.length))) && (z5p m.sig && (m.vars.all valB && (m.owners.all (fun o => decide (-1 <= o)) && zta (allI m))))
def newM (p : PProg) : Mem × Int := if (zb p).1 ≠ 0 then (c0m, (zb p).1) else (⟨p.vars.map (·.init), List.replicate p.muts.length (-1), List.replicate p.conds.length [], []⟩, 0)
def z2c (p : PProg) (m : Mem) : Bool := (zb p).1 == 0 && (z5j m && (m.vars.length == p.vars.length && (m.owners.length == p.muts.length && m.queues.length == p.conds.length)))
def insE (m : Mem) (i n : Int) : Int := if z5j m = false then 1 else if i < 0 ∨ n <= i then 11 else 0
def z31 (m : Mem) (x : Int) : Int × Int := if insE m x m.vars.length ≠ 0 then (0, insE m x m.vars.length) else (m.vars.getD x.toNat 0, 0)
def zy (m : Mem) (x v : Int) : Mem × Int :=
  if insE m x m.vars.length ≠ 0 then (c0m, insE m x m.vars.length) else if v < -2147483648 ∨ 2147483647 < v then (c0m, 2) else ({ m with vars := m.vars.set x.toNat v }, 0)
def z7q (m : Mem) (i : Int) : Bool := insE m i m.owners.length == 0 && m.owners.getD i.toNat 0 == -1
def ownM (m : Mem) (i id fr to : Int) : Mem × Int :=
  if insE m i m.owners.length ≠ 0 then (c0m, insE m i m.owners.length) else if id < 0 then (c0m, 2) else if m.owners.getD i.toNat 0 ≠ fr then (c0m, 30) else ({ m with owners := m.owners.set i.toNat to }, 0)
def zqc (m : Mem) (id : Int) : Bool := m.queues.any (fun q => hasI q id) || hasI m.sig id
def enqM (m : Mem) (c id : Int) : Mem × Int :=
  if insE m c m.queues.length ≠ 0 then (c0m, insE m c m.queues.length) else if id < 0 then (c0m, 2) else if zqc m id then (c0m, 30) else ({ m with queues := m.queues.set c.toNat (m.queues.getD c.toNat [] ++ [id]) }, 0)
def z117 (m : Mem) (c : Nat) (n : Nat) : Mem := { m with sig := ((m.queues.getD c []).take n).foldl addI m.sig, queues := m.queues.set c ((m.queues.getD c []).drop n) }
def z4y (m : Mem) (c n : Int) : Mem × Int × Int :=
  if insE m c m.queues.length ≠ 0 then (c0m, 0, insE m c m.queues.length) else (z117 m c.toNat (min n ((m.queues.getD c.toNat []).length : Int)).toNat, min n ((m.queues.getD c.toNat []).length : Int), 0)
def zm2 (l : List (List Int)) : Int := l.foldl (fun a q => max a (q.length : Int)) 0
def zo8 (m : Mem) (id : Int) : Mem × Int := if z5j m = false then (c0m, 1) else if hasI m.sig id = false then (c0m, 30) else ({ m with sig := remI m.sig id }, 0)
structure MSm (m : Mem) : Prop where
  vars : m.vars.length <= 1000000
  owners : m.owners.length <= 1000000
  queues : m.queues.length <= 1000000
  sig : m.sig.length <= 1000000
  all : (allI m).length <= 400000
def ztb (m : Mem) : AV := .mc zw (.agg [.own 0 m.vars.length, .own 1 m.owners.length, .own 2 m.queues.length, .own 3 m.sig.length])
def zm3 (m : Mem) : List BoxC := [iBox m.vars, iBox m.owners, qBox m.queues, iBox m.sig]
def spM : FuncId -> List AV -> Option AV
  | 225, [.seq _ n _] => some (.own 0 n)
  | 173, [.mc _ m] => some (.bool (z5j (dM m)))
  | 62, [.mc _ p] => some (.tup [vM (newM (dP p)).1, .int .i64 (newM (dP p)).2])
  | 112, [.mc _ p, .mc _ m] => some (.bool (z2c (dP p) (dM m)))
  | 189, [.mc _ m, .int _ i, .int _ n] => some (.int .i64 (insE (dM m) i n))
  | 227, [.mc _ m, .int _ x] => some (.tup [.int .i64 (z31 (dM m) x).1, .int .i64 (z31 (dM m) x).2])
  | 127, [.mc _ m, .int _ x, .int _ v] => some (.tup [vM (zy (dM m) x v).1, .int .i64 (zy (dM m) x v).2])
  | 228, [.mc _ m, .int _ i] => some (.bool (z7q (dM m) i))
  | 252, [.mc _ m, .int _ i, .int _ id, .int _ a, .int _ b] => some (.tup [vM (ownM (dM m) i id a b).1, .int .i64 (ownM (dM m) i id a b).2])
  | 237, [.mc _ m, .int _ i, .int _ id] => some (.tup [vM (ownM (dM m) i id (-1) id).1, .int .i64 (ownM (dM m) i id (-1) id).2])
  | 238, [.mc _ m, .int _ i, .int _ id] => some (.tup [vM (ownM (dM m) i id id (-1)).1, .int .i64 (ownM (dM m) i id id (-1)).2])
  | 253, [.mc _ m, .int _ id] => some (.bool (zqc (dM m) id))
  | 239, [.mc _ m, .int _ c, .int _ id] => some (.tup [vM (enqM (dM m) c id).1, .int .i64 (enqM (dM m) c id).2])
  | 254, [.mc _ m, .int _ c, .int _ n] => some (.tup [vM (z4y (dM m) c n).1, .int .i64 (z4y (dM m) c n).2.1, .int .i64 (z4y (dM m) c n).2.2])
  | 241, [.mc _ m, .int _ c] => some (.tup [vM (z4y (dM m) c 1).1, .int .i64 (z4y (dM m) c 1).2.1, .int .i64 (z4y (dM m) c 1).2.2])
  | 242, [.mc _ m, .int _ c] => some (.tup [vM (z4y (dM m) c (zm2 (dM m).queues)).1, .int .i64 (z4y (dM m) c (zm2 (dM m).queues)).2.1, .int .i64 (z4y (dM m) c (zm2 (dM m).queues)).2.2])
  | 240, [.mc _ m, .int _ id] => some (.tup [vM (zo8 (dM m) id).1, .int .i64 (zo8 (dM m) id).2])
  | 185, [.mc _ m] => some (ztb (dM m))
  | f, l => spTv f l
def spMs : FuncId -> List AV -> Option AV
  | 225, [.seq _ n f] => some (rowI (z1b n f))
  | f, l => spM f l
def frM : FuncId -> List AV -> Option (List BoxC)
  | 225, [.seq _ n f] => some [iBox (z1b n f)]
  | 185, [.mc _ m] => some (zm3 (dM m))
  | f, l => frI f l
def mkM : FuncId -> List AV -> Option (AV × BoxC)
  | 225, [.seq _ n f] => some (.own 0 n, iBox (z1b n f))
  | _, _ => none
noncomputable def cfgM (n : Nat) (mk : FuncId -> Nat -> Bool) : Cfg := { cfgS n with fresh := frM, mkr := mkM, isMk := mk }
theorem zl (n : Nat) (mk : FuncId -> Nat -> Bool) : z12 (cfgM n mk) := z74 (by kernel_rfl)
noncomputable def vM2 (n : Nat) (inv : Nat -> Option Inv) : VCtx := { C := cfgM n fun _ _ => false, CC := Known Tryz.prog GG, orc := fun _ _ => spM, inv := inv }
noncomputable def vM3 (n : Nat) (mk : Nat -> Bool) (inv : Nat -> Option Inv) : VCtx := { C := cfgM n fun f d => Nat.beq f 225 && mk d, CC := Known Tryz.prog GG, orc := fun _ _ => spMs, inv := inv }
noncomputable def zhz (l : List Int) : Prop := zj3 (vM2 11 fun _ => none) Tryz.f225 [rowI l] (.own 0 l.length) [iBox l]
noncomputable def zi0 (l : List Int) : Prop := fnVc (vM2 11 fun _ => none) Tryz.f225 [rowI l] (rowI l)
def zwp (m : Mem) (k : Nat) : Option Inv := match Nat.beq k 4 with
  | true => some { ι := Nat, S := fun i => ⟨[(1, .ptr 1 []), (35, rowI m.vars), (36, .int .i64 m.vars.length), (37, .int .i64 i)], [(1, zbg m)]⟩, μ := fun i => m.vars.length - i, ok := fun i => i <= m.vars.length /\ ∀ j, j < i -> valB (m.vars.getD j 0) = true }
  | false => match Nat.beq k 10 with
    | true => some { ι := Nat, S := fun i => ⟨[(1, .ptr 1 []), (49, rowI m.owners), (50, .int .i64 m.owners.length), (51, .int .i64 i)], [(1, zbg m)]⟩, μ := fun i => m.owners.length - i, ok := fun i => i <= m.owners.length /\ ∀ j, j < i -> -1 <= m.owners.getD j 0 }
    | false => match Nat.beq k 17 with
      | true => some { ι := Nat, S := fun i => ⟨[(7, .own 249856 (m.sig ++ (m.queues.take i).flatten).length), (62, rowQ m.queues), (63, .int .i64 m.queues.length), (64, .int .i64 i)], [(249856, iBox (m.sig ++ (m.queues.take i).flatten))]⟩, μ := fun i => m.queues.length - i, ok := fun i => i <= m.queues.length }
      | false => match Nat.beq k 22 with
        | true => some { ι := Nat, S := fun i => ⟨[(7, rowI (allI m)), (72, rowI (allI m)), (73, .int .i64 (allI m).length), (74, .int .i64 i)], []⟩, μ := fun i => (allI m).length - i, ok := fun i => i <= (allI m).length /\ ∀ j, j < i -> 0 <= (allI m).getD j 0 /\ hasI ((allI m).take j) ((allI m).getD j 0) = false }
        | false => none
noncomputable def zi1 (m : Mem) : Prop := fnVc { vM2 89 (zwp m) with fzL := fun k => match Nat.beq k 22 with | true => [249856] | false => [] } Tryz.f173 [vM m] (.bool (z5j m))
def zo9 (m : Mem) (k : Nat) : Option Inv := match Nat.beq k 3 with
  | true => some { ι := Nat, S := fun i => ⟨[(1, .ptr 1 []), (2, .ptr 2 []), (3, .ptr 3 []), (21, rowQ m.queues), (22, .int .i64 m.queues.length), (23, .int .i64 i)], [(1, zbg m), (2, zbg c0m), (3, .cell 32 zw (.agg [.own 8 m.vars.length, .own 11 m.owners.length, .own 15 m.queues.length, .own 18 m.sig.length])), (8, iBox m.vars), (11, iBox m.owners), (15, .row 29 .leaf m.queues.length fun j => if j < i then rowI (m.queues.getD j []) else .nils), (18, iBox m.sig)]⟩, μ := fun i => m.queues.length - i, ok := fun i => i <= m.queues.length }
  | false => none
noncomputable def zm4 (m : Mem) : Prop := zj3 (vM3 36 (fun d => Nat.beq d 8 || (Nat.beq d 11 || Nat.beq d 18)) (zo9 m)) Tryz.f185 [vM m] (ztb m) (zm3 m)
noncomputable def zwq (m : Mem) (i n : Int) : Prop := fnVc (vM2 17 fun _ => none) Tryz.f189 [vM m, .int .i64 i, .int .i64 n] (.int .i64 (insE m i n))
noncomputable def zqd (m : Mem) (x : Int) : Prop := fnVc (vM2 21 fun _ => none) Tryz.f227 [vM m, .int .i64 x] (.tup [.int .i64 (z31 m x).1, .int .i64 (z31 m x).2])
noncomputable def zm5 (m : Mem) (x v : Int) : Prop := fnVc (vM2 35 fun _ => none) Tryz.f127 [vM m, .int .i64 x, .int .i64 v] (.tup [vM (zy m x v).1, .int .i64 (zy m x v).2])
noncomputable def zqe (m : Mem) (i : Int) : Prop := fnVc (vM2 20 fun _ => none) Tryz.f228 [vM m, .int .i64 i] (.bool (z7q m i))
end
end Go.Proofs.S25
