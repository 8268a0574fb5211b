import Derived.Test.YtcfagpelpjdmaaaGreatDoorXp
namespace Go.Proofs.S25
open Go Go.AV
open Go.IntKind renaming i64 -> j6
open Go.AV.Shape (leaf)
noncomputable section
structure POk (p:PProg):Prop where
 sm:PSm p
 ok:(zc p).1=0
theorem zhe {p:PProg}:∀ k,k<=p.funs.length ->(z88 p k).1=0 ->∀ i,p.funs.length - k<=i ->i<p.funs.length ->(z31 p (p.funs.getD i c0f)).1=0
 |0,_,_,i,h1,h2=>by omega
 |k+1,hk,h,i,h1,h2=>by
  simp only[z88]at h
  split at h
  . rename_i hb
    have hb':(z31 p (p.funs.getD (p.funs.length - (k+1)) c0f)).1≠0:=by simpa using hb
    exact absurd h hb'
  . rename_i hb
    have hb':(z31 p (p.funs.getD (p.funs.length - (k+1)) c0f)).1=0:=by simpa using hb
    by_cases e:i=p.funs.length - (k+1)
    . subst e;exact hb'
    . exact zhe k (by omega) h i (by omega) h2
theorem zl1 {p:PProg} {f:PFun}:∀ k,k<=f.code.length ->(z78 p f k).1=0 ->∀ i,f.code.length - k<=i ->i<f.code.length ->z3e p (f.code.getD i c0i) f.code.length=0
 |0,_,_,i,h1,h2=>by omega
 |k+1,hk,h,i,h1,h2=>by
  simp only[z78]at h
  split at h
  . rename_i hb
    have hb':z3e p (f.code.getD (f.code.length - (k+1)) c0i) f.code.length≠0:=by simpa using hb
    exact absurd h hb'
  . rename_i hb
    have hb':z3e p (f.code.getD (f.code.length - (k+1)) c0i) f.code.length=0:=by simpa using hb
    by_cases e:i=f.code.length - (k+1)
    . subst e;exact hb'
    . exact zl1 k (by omega) h i (by omega) h2
theorem zl2 {p:PProg}:∀ k,k<=p.thr.length ->z8m p k=0 ->∀ i,p.thr.length - k<=i ->i<p.thr.length ->(0<=(p.thr.getD i c0s).fn/\(p.thr.getD i c0s).fn<p.funs.length)/\valB (p.thr.getD i c0s).arg=true
 |0,_,_,i,h1,h2=>by omega
 |k+1,hk,h,i,h1,h2=>by
  simp only[z8m]at h
  split at h
  . omega
  . split at h
    . omega
    . rename_i q1 q2
      by_cases e:i=p.thr.length - (k+1)
      . subst e;exact⟨by omega,by simpa using q2⟩
      . exact zl2 k (by omega) h i (by omega) h2
theorem zfi {p:PProg} (h:(zc p).1=0):z2j p=0/\(z13 p).1=0/\z2e p=0:=by
 unfold zc at h
 split at h
 . rename_i q;exact absurd h (by simpa using q)
 . split at h
   . rename_i q;exact absurd h (by simpa using q)
   . rename_i q1
     split at h
     . rename_i q;exact absurd h (by simpa using q)
     . rename_i q2
       exact⟨by simpa using q1,by simpa using q2,h⟩
theorem POk.code {p:PProg} (h:POk p) {f:Nat} (hf:f<p.funs.length):(p.funs.getD f c0f).code.length<=64/\∀ i,i<(p.funs.getD f c0f).code.length ->z3e p ((p.funs.getD f c0f).code.getD i c0i) (p.funs.getD f c0f).code.length=0:=by
 have h1:=zhe p.funs.length (Nat.le_refl _) (zfi h.ok).2.1 f (by omega) hf
 unfold z31 at h1
 split at h1
 . exact absurd h1 (by decide)
 . rename_i hl
   exact⟨by omega,fun i hi=>zl1 _ (Nat.le_refl _) h1 i (by omega) hi⟩
theorem POk.thr {p:PProg} (h:POk p):(1<=p.thr.length/\p.thr.length<=8)/\∀ i,i<p.thr.length ->(0<=(p.thr.getD i c0s).fn/\(p.thr.getD i c0s).fn<p.funs.length)/\valB (p.thr.getD i c0s).arg=true:=by
 have h1:=(zfi h.ok).2.2
 unfold z2e at h1
 split at h1
 . omega
 . exact⟨by omega,fun i hi=>zl2 _ (Nat.le_refl _) h1 i (by omega) hi⟩
theorem POk.objs {p:PProg} (h:POk p):(p.vars.length<=8/\p.muts.length<=4/\p.conds.length<=4/\p.funs.length<=8)/\∀ v∈p.vars,valB v.init=true:=by
 have h1:=(zfi h.ok).1
 unfold z2j at h1
 split at h1
 . omega
 . rename_i q
   split at h1
   . rename_i q2
     exact⟨by omega,List.all_eq_true.1 q2⟩
   . omega
theorem z3f {n:Int}:valB n=true↔ -2147483648<=n/\n<=2147483647:=by unfold valB;simp only[Bool.and_eq_true,decide_eq_true_eq]
theorem z60 {n:Int}:wr n=n↔ -2147483648<=n/\n<=2147483647:=by unfold wr;omega
theorem z7d {p:PProg} {i:Inst} {n:Int} (h:z3e p i n=0):z1a i=0/\z5d p i=false/\((i.op=4∨i.op=5) ->0<=i.n/\i.n<=n):=by
 unfold z3e at h
 split at h
 . rename_i q;exact absurd h (by simpa using q)
 . rename_i q
   split at h
   . omega
   . rename_i q2
     split at h
     . omega
     . rename_i q3
       refine⟨by simpa using q,by simpa using q2,fun ho=>?_⟩
       have :¬ (((i.op=4∨i.op=5)/\(i.n<0∨n<i.n))):=by simpa [Bool.and_eq_true,Bool.or_eq_true]using q3
       omega
theorem zcv {i:Inst} (h:z1a i=0):IReg i:=by
 have hk:=zsy h
 have h3:∀ k,k<3 ->badR i k=false:=by
  unfold z1a at h
  split at h
  . omega
  . split at h
    . omega
    . split at h
      . omega
      . rename_i q
        intro k hk
        cases hb:badR i k with
        |false=>rfl
        |true=>exact absurd (List.any_eq_true.2 ⟨k,List.mem_range.2 hk,hb⟩) q
 have key:∀ k,k<3 ->z1r i.op k=true ->0<=fldI i k/\fldI i k<8:=by
  intro k hk hu
  have :=h3 k hk
  unfold badR at this
  rw[hu,Bool.true_and,Bool.or_eq_false_iff,decide_eq_false_iff_not,decide_eq_false_iff_not]at this
  omega
 exact⟨key 0 (by omega),key 1 (by omega),key 2 (by omega)⟩
def vsT (b:Int) (t:Thr) (i:Inst):Thr:=if obsE t i≠0 then endT t 3 (obsE t i)else if t.steps=b then endT t 4 0 else t
def z4q (p:PProg) (b:Int):Nat ->Thr ->Thr
 |0,t=>if atB p t=false then endT t 2 0 else if visB (atI p t).op then vsT b t (atI p t)else endT t 3 29
 |k+1,t=>if atB p t=false then endT t 2 0 else if visB (atI p t).op then vsT b t (atI p t)else
  if(locP t (atI p t)).2 then z4q p b k (locP t (atI p t)).1 else(locP t (atI p t)).1
def setl (p:PProg) (b:Int) (t:Thr):Thr:=z4q p b 256 t
def spSe:FuncId ->List AV ->Option AV
 |206,[.mc _ p, .int _ b, .mc _ t] |132,[.mc _ p, .int _ b, .mc _ t]=>some (vT (setl (dP p) b (dT t)))
 |144,[.mc _ p, .mc _ t]=>some (z4l ((dP p).funs.getD (dT t).fn.toNat c0f).code)
 |217,[.mc _ t, .mc _ i]=>some (.int .i64 (obsE (dT t) (dIn i)))
 |218,[.mc _ t, .int _ e]=>some (vT (endT (dT t) 3 e))
 |257,[.seq _ n f, .int _ v]=>some (.bool (hasI (zw n f) v))
 |f,l=>spR0 f l
noncomputable def vS2 (n:Nat) (inv:Nat ->Option Inv):VCtx:={C:=cfgS n,CC:=Known Tryz.prog GG,orc:=fun _ _=>spSe,inv:=inv}
structure TWf (p:PProg) (t:Thr):Prop where
 ok:TOK t
 fn:0<=t.fn/\t.fn<p.funs.length
 pc:0<=t.pc/\t.pc<=((p.funs.getD t.fn.toNat c0f).code.length:Int)
def zpj (p:PProg) (b:Int) (t:Thr) (k:Nat):Option Inv:=match Nat.beq k 4 with
 |true=>some {ι:=Nat×Thr,S:=fun i=>⟨[(1, .int .i64 b),(3, .ptr 3 []),(5, .ptr 5 []),(6, .ptr 6 []),(7, .int .i64 i.1)],[(3, .cell 27 z7 (encP p)),(5, .cell 86 zk (encT i.2)),(6, .cell 86 zk (encT c0t))]⟩,μ:=fun i=>256 - i.1,ok:=fun i=>i.1<=256/\TWf p i.2/\setl p b t=z4q p b (256 - i.1) i.2}
 |false=>none
theorem z162 (t:Thr) (i:Inst):(locP t i).1.fn=t.fn:=by
 unfold locP endT
 repeat' split
 all_goals rfl
theorem ztf (t:Thr) (i:Inst):(locP t i).1.held=t.held:=by
 unfold locP endT
 repeat' split
 all_goals rfl
theorem zpk (t:Thr) (i:Inst):(locP t i).1.id=t.id:=by
 unfold locP endT
 repeat' split
 all_goals rfl
theorem ztg (t:Thr) (i:Inst):(locP t i).1.regs.length=t.regs.length:=by
 unfold locP endT setR
 repeat' split
 all_goals simp only[List.length_set]
theorem z163 (t:Thr) (i:Inst):(locP t i).1.pc=t.pc∨(locP t i).1.pc=t.pc+1∨((i.op=4∨i.op=5)/\(locP t i).1.pc=i.n):=by
 by_cases h4:i.op=4∨i.op=5
 . rcases h4 with h |h
   . exact .inr (.inr ⟨.inl h,by simp only[locP,h,reduceIte,Int.reduceEq]⟩)
   . by_cases h0:regT t i.b=0
     . exact .inr (.inl (by simp only[locP,h,h0,reduceIte,Int.reduceEq]))
     . exact .inr (.inr ⟨.inr h,by simp only[locP,h,h0,reduceIte,Int.reduceEq]⟩)
 . unfold locP endT
   repeat' split
   all_goals first
    |exact .inl rfl
    |exact .inr (.inl rfl)
    |omega
theorem za6 {p:PProg} {t:Thr} (ht:TWf p t) (ha:atB p t=true):t.pc.toNat<(p.funs.getD t.fn.toNat c0f).code.length/\atI p t=(p.funs.getD t.fn.toNat c0f).code.getD t.pc.toNat c0i:=by
 have h1:t.pc<((p.funs.getD t.fn.toNat c0f).code.length:Int):=by unfold atB at ha;simpa using ha
 have :=ht.pc
 refine⟨by omega, ?_⟩
 unfold atI;rw[if_pos ha]
theorem zav {p:PProg} {t:Thr} (hp:POk p) (ht:TWf p t) (ha:atB p t=true):z3e p (atI p t) (p.funs.getD t.fn.toNat c0f).code.length=0:=by
 obtain⟨h1,h2⟩:=za6 ht ha
 have :=ht.fn
 rw[h2];exact(hp.code (by omega)).2 _ h1
theorem TWf.small {p:PProg} {t:Thr} (hp:POk p) (ht:TWf p t):0<=t.pc/\t.pc<=64:=by
 have h1:=ht.fn
 have h2:=(hp.code (f:=t.fn.toNat) (by omega)).1
 have :=ht.pc
 omega
theorem zpl {p:PProg} {t:Thr} (hp:POk p) (ht:TWf p t) (ha:atB p t=true):TWf p (locP t (atI p t)).1:=by
 have h1:=z162 t (atI p t)
 have h2:=z7d (zav hp ht ha)
 obtain⟨h3,_⟩:=za6 ht ha
 have h4:=ht.pc
 have h5:=ht.ok
 have h6:=ht.small hp
 have h7:0<=(locP t (atI p t)).1.pc/\(locP t (atI p t)).1.pc<=((p.funs.getD t.fn.toNat c0f).code.length:Int):=by
  rcases z163 t (atI p t)with h |h | ⟨h,h'⟩
  . omega
  . omega
  . have :=h2.2.2 h;omega
 refine⟨⟨by rw[ztg];exact h5.regs,by rw[zpk];exact h5.id, ?_,by rw[ztf];exact h5.held⟩,by rw[h1];exact ht.fn,by rw[h1];exact h7⟩
 have h8:=ht.fn
 have :=(hp.code (f:=t.fn.toNat) (by omega)).1
 omega
theorem z164 {p:PProg} {b:Int} {t:Thr} (h:atB p t=false):∀ k,z4q p b k t=endT t 2 0
 |0=>by unfold z4q;rw[if_pos h]
 |k+1=>by unfold z4q;rw[if_pos h]
theorem zmz {p:PProg} {b:Int} {t:Thr} (h:atB p t=true) (hv:visB (atI p t).op=true):∀ k,z4q p b k t=vsT b t (atI p t)
 |0=>by unfold z4q;rw[if_neg (by rw[h];simp),if_pos hv]
 |k+1=>by unfold z4q;rw[if_neg (by rw[h];simp),if_pos hv]
theorem s_0 {p:PProg} {b:Int} {t:Thr} (h:atB p t=true) (hv:visB (atI p t).op=false):z4q p b 0 t=endT t 3 29:=by
 unfold z4q;rw[if_neg (by rw[h];simp),if_neg (by rw[hv];simp)]
theorem s_s {p:PProg} {b:Int} {t:Thr} (h:atB p t=true) (hv:visB (atI p t).op=false) (k:Nat):z4q p b (k+1) t=if(locP t (atI p t)).2 then z4q p b k (locP t (atI p t)).1 else(locP t (atI p t)).1:=by
 rw[z4q,if_neg (by rw[h];simp),if_neg (by rw[hv];simp)]
theorem zj2 (i:Nat):(List.replicate 8 (0:Int)).getD i 0=0:=by
 rw[List.getD_eq_getElem?_getD,List.getElem?_replicate]
 split<;>rfl
theorem s_k {i:Nat} (h:i<=256) (h':(i:Int)≠256):256 - i=256 - (i+1)+1:=by omega
section
variable (t:Thr)
def q12y:Nat:=(qw t).length
variable (x1:Nat)
def q12z:=AV.int j6 ((qw t).getD x1 0)
variable (x0:Nat×Thr)
def q5h:Nat:=256 - x0.fst
end
section
variable (p:PProg) (b:Int) (t:Thr) (x3:Nat×Thr)
def qne:=x3.fst<=256/\TWf p x3.snd/\setl p b t=z4q p b (q5h x3) x3.snd
def q130:=t.held.length<=q12y t
variable (x0:Nat×Thr) (x1:Nat)
def qao:=AV.int j6 (x0.snd.regs.getD x1 0)
end
section
variable (x0:Nat)
def q2e:=AV.int j6 ((List.replicate 8 0).getD x0 0)
variable (p:PProg) (x1:Nat×Thr)
def q131:=AV.mc zy (encI (atI (dP (encP p)) (dT (encT x1.snd))))
end
section
variable (x0:Nat×Thr) (x1:Nat)
def qgr:=AV.int j6 ((dA dI (AV.arr 8 fun i=>qao x0 i)).getD x1 0)
def q44:=AV.arr 8 fun i=>qgr x0 i
def q5i:List AV:=[rowI (dR dI (rowI x0.snd.held))]
def q132:List AV:=AV.int j6 0::q5i x0
variable (p:PProg) (b:Int) (t:Thr) (x3:Nat×Thr)
def qgs:=∀ (i:Nat),qgr x3 i=AV.int j6 ((setl p b t).regs.getD i 0)
def q5j:=LS (rowI (dR dI (rowI x3.snd.held))) (rowI (setl p b t).held)
def q133:=0=(setl p b t).fault/\q5j p b t x3
end
section
variable (p:PProg) (x1:Nat×Thr)
def q134:List AV:=[AV.mc zk (encT x1.snd),q131 p x1]
def qnf:Int:=obsE (dT (encT x1.snd)) (dIn (encI (atI (dP (encP p)) (dT (encT x1.snd)))))
def qng:=AV.int j6 (qnf p x1)
def q135:=qnf p x1 !=0
variable (x0:Nat×Thr)
def qap:=↑x0.fst==(256:Int)
def q136:Thr×Bool:=locP (dT (encT x1.snd)) (dIn (encI (atI (dP (encP p)) (dT (encT x1.snd)))))
def qnh:=encT (q136 p x1).fst
def q137:=(q136 p x1).snd
def q138:=!q137 p x1
def qaq:Int:=↑x0.fst+1
end
theorem z10z (p:PProg) (b:Int) (t:Thr) (hp:POk p) (ht:TWf p t):KN 206 [vP p, .int .i64 b,vT t] (vT (setl p b t)):=by
 refine Kn {vS2 59 (zpj p b t)with fzL:=fun _=>[61440]} Tryz.func206 ((KF (193:Nat) [rowI t.held] (AV.own (0:Nat) t.held.length) [BoxC.row (3:TypeId) leaf (q12y t) fun i=>q12z t i])/\(∃ (i:Nat×Thr),qne p b t i/\q130 t/\q130 t/\(RR b/\(0:Int)=(↑(Prod.fst i):Int))/\LT (encP p)/\(Thr.id t=Thr.id (Prod.snd i)/\Thr.fn t=Thr.fn (Prod.snd i)/\Thr.pc t=Thr.pc (Prod.snd i)/\(∀ (i_1:Nat),AV.int j6 (List.getD (Thr.regs t) i_1 (0:Int))=qao i i_1)/\Thr.steps t=Thr.steps (Prod.snd i)/\Thr.kids t=Thr.kids (Prod.snd i)/\Thr.phase t=Thr.phase (Prod.snd i)/\Thr.status t=Thr.status (Prod.snd i)/\Thr.fault t=Thr.fault (Prod.snd i)/\List.length (Thr.held t)=List.length (Thr.held (Prod.snd i))/\∀ (i_1:Nat),i_1<List.length (Thr.held t)->q12z t i_1=AV.int j6 (List.getD (Thr.held (Prod.snd i)) i_1 (0:Int)))/\RR (0:Int)/\RR (0:Int)/\RR (0:Int)/\(∀ (i:Nat),AV.int j6 (0:Int)=q2e i)/\RR (0:Int)/\RR (0:Int)/\RR (0:Int)/\RR (0:Int)/\RR (0:Int)/\(0:Nat)=(0:Nat))/\∀ i:Nat×Thr,qne p b t i->KN 174 [AV.mc z7 (encP p),AV.mc zk (encT i.snd)] (AV.tup [q131 p i,AV.bool (atB (dP (encP p)) (dT (encT i.snd)))])/\((!atB (dP (encP p)) (dT (encT i.snd)))=true->KN 250 [AV.mc zk (encT i.snd),AV.int j6 (2:Int),AV.int j6 (0:Int)] (AV.mc zk (AV.agg (AV.int j6 i.snd.id::AV.int j6 i.snd.fn::AV.int j6 i.snd.pc::q44 i::AV.int j6 i.snd.steps::AV.int j6 i.snd.kids::AV.int j6 i.snd.phase::AV.int j6 (2:Int)::q132 i)))/\i.snd.id=(setl p b t).id/\i.snd.fn=(setl p b t).fn/\i.snd.pc=(setl p b t).pc/\qgs p b t i/\i.snd.steps=(setl p b t).steps/\i.snd.kids=(setl p b t).kids/\i.snd.phase=(setl p b t).phase/\2=(setl p b t).status/\q133 p b t i)/\((!atB (dP (encP p)) (dT (encT i.snd)))=false->KN 248 [AV.int j6 (atI (dP (encP p)) (dT (encT i.snd))).op] (AV.bool (visB (atI (dP (encP p)) (dT (encT i.snd))).op))/\(visB (atI (dP (encP p)) (dT (encT i.snd))).op=true->KN 249 (q134 p i) (qng p i)/\(q135 p i=true->KN 250 [AV.mc zk (encT i.snd),AV.int j6 (3:Int),qng p i] (AV.mc zk (AV.agg (AV.int j6 i.snd.id::AV.int j6 i.snd.fn::AV.int j6 i.snd.pc::q44 i::AV.int j6 i.snd.steps::AV.int j6 i.snd.kids::AV.int j6 i.snd.phase::AV.int j6 (3:Int)::qng p i::q5i i)))/\i.snd.id=(setl p b t).id/\i.snd.fn=(setl p b t).fn/\i.snd.pc=(setl p b t).pc/\qgs p b t i/\i.snd.steps=(setl p b t).steps/\i.snd.kids=(setl p b t).kids/\i.snd.phase=(setl p b t).phase/\3=(setl p b t).status/\qnf p i=(setl p b t).fault/\q5j p b t i)/\(q135 p i=false->((i.snd.steps==b)=true->KN 250 [AV.mc zk (encT i.snd),AV.int j6 (4:Int),AV.int j6 (0:Int)] (AV.mc zk (AV.agg (AV.int j6 i.snd.id::AV.int j6 i.snd.fn::AV.int j6 i.snd.pc::q44 i::AV.int j6 i.snd.steps::AV.int j6 i.snd.kids::AV.int j6 i.snd.phase::AV.int j6 (4:Int)::q132 i)))/\i.snd.id=(setl p b t).id/\i.snd.fn=(setl p b t).fn/\i.snd.pc=(setl p b t).pc/\qgs p b t i/\i.snd.steps=(setl p b t).steps/\i.snd.kids=(setl p b t).kids/\i.snd.phase=(setl p b t).phase/\4=(setl p b t).status/\q133 p b t i)/\((i.snd.steps==b)=false->LS (encT i.snd) (encT (setl p b t)))))/\(visB (atI (dP (encP p)) (dT (encT i.snd))).op=false->(qap i=true->KN 250 [AV.mc zk (encT i.snd),AV.int j6 (3:Int),AV.int j6 (29:Int)] (AV.mc zk (AV.agg (AV.int j6 i.snd.id::AV.int j6 i.snd.fn::AV.int j6 i.snd.pc::q44 i::AV.int j6 i.snd.steps::AV.int j6 i.snd.kids::AV.int j6 i.snd.phase::AV.int j6 (3:Int)::AV.int j6 (29:Int)::q5i i)))/\i.snd.id=(setl p b t).id/\i.snd.fn=(setl p b t).fn/\i.snd.pc=(setl p b t).pc/\qgs p b t i/\i.snd.steps=(setl p b t).steps/\i.snd.kids=(setl p b t).kids/\i.snd.phase=(setl p b t).phase/\3=(setl p b t).status/\29=(setl p b t).fault/\q5j p b t i)/\(qap i=false->KN 251 (q134 p i) (AV.tup [AV.mc zk (qnh p i),AV.bool (q137 p i)])/\(q138 p i=true->LS (qnh p i) (encT (setl p b t)))/\(q138 p i=false->InR j6 (qaq i)/\(∃ j,qne p b t j/\q5h j<q5h i/\(RR b/\qaq i=↑j.fst)/\LT (encP p)/\LS (qnh p i) (encT j.snd)/\RR (0:Int)/\RR (0:Int)/\RR (0:Int)/\(∀ (i:Nat),RR (q2e i))/\RR (0:Int)/\RR (0:Int)/\RR (0:Int)/\RR (0:Int)/\RR (0:Int)/\LT (rowI []))))))) ?_
 try delta qw q12y q12z q5h qne q130 qao q2e q131 qgr q44 q5i q132 qgs q5j q133 q134 qnf qng q135 qap q136 qnh q137 q138 qaq
 simp only[SB,SX,inIx,reduceCtorEq,Int.reduceToNat]
 simp only[oR]
 have hr:=ht.ok.regs
 refine⟨zfd _ (by have :=ht.ok.held;omega),⟨(0,t),⟨by simp,ht,rfl⟩,Nat.le_refl _,Nat.le_refl _,rfl,⟨rfl,rfl,rfl,fun _=>rfl,rfl,rfl,rfl,rfl,rfl,rfl,fun _ _=>rfl⟩,fun j=>by rw[zj2]⟩,fun i hi=>?_⟩
 obtain⟨a1,a2,a3⟩:=hi
 simp only[z2c _ a2.ok.regs,dA_8 a2.ok.regs]
 refine⟨kAt p i.2 a2.fn a2.pc.1 hp.sm,fun h=>⟨kEnd i.2 _ _,by rw[a3,z164 h];exact⟨rfl,rfl,rfl,fun _=>rfl,rfl,rfl,rfl,rfl,rfl,rfl,fun _ _=>rfl⟩⟩,fun ha=>⟨kVis _,fun hv=>⟨kObs i.2 _ a2.ok,fun ho=>⟨kEnd i.2 _ _,by rw[a3,zmz ha hv];unfold vsT;rw[if_pos ho];exact⟨rfl,rfl,rfl,fun _=>rfl,rfl,rfl,rfl,rfl,rfl,rfl,fun _ _=>rfl⟩⟩,fun ho=>⟨fun hs=>⟨kEnd i.2 _ _,by rw[a3,zmz ha hv];unfold vsT;rw[if_neg (by omega),if_pos hs];exact⟨rfl,rfl,rfl,fun _=>rfl,rfl,rfl,rfl,rfl,rfl,rfl,fun _ _=>rfl⟩⟩,fun hs=>by rw[a3,zmz ha hv];unfold vsT;rw[if_neg (by omega),if_neg hs];exact⟨rfl,rfl,rfl,fun _=>rfl,rfl,rfl,rfl,rfl,rfl,rfl,fun _ _=>rfl⟩⟩⟩,fun hv=>⟨fun hn=>⟨kEnd i.2 _ _,by rw[a3,show 256 - i.1=0 by omega,s_0 ha hv];exact⟨rfl,rfl,rfl,fun _=>rfl,rfl,rfl,rfl,rfl,rfl,rfl,fun _ _=>rfl⟩⟩,fun hn=>⟨kLoc i.2 _ a2.ok (zcv (z7d (zav hp a2 ha)).1) (by have :=a2.small hp;omega), ?_⟩⟩⟩⟩
 rw[a3,s_k a1 hn,s_s ha hv]
 refine⟨fun hm=>?_,fun hm=>?_⟩
 . rw[if_neg (by rw[hm];simp)];exact⟨rfl,rfl,rfl,fun _=>rfl,rfl,rfl,rfl,rfl,rfl,rfl,fun _ _=>rfl⟩
 . rw[if_pos hm]
   exact⟨za (by omega) (by omega),(i.1+1,(locP i.2 (atI p i.2)).1),⟨by show i.1+1<=256;omega,zpl hp a2 ha,rfl⟩,by show 256 - (i.1+1)<_;omega,rfl,⟨rfl,rfl,rfl,fun _=>rfl,rfl,rfl,rfl,rfl,rfl,rfl,fun _ _=>rfl⟩⟩
structure Formed (p:PProg) (b:Int) (t:Thr):Prop where
 id:0<=depI t.id
 fn:0<=t.fn/\t.fn<p.funs.length
 pc:0<=t.pc/\t.pc<=((p.funs.getD t.fn.toNat c0f).code.length:Int)
 regs:∀ r∈t.regs,-2147483648<=r/\r<=2147483647
 steps:0<=t.steps/\t.steps<=b
 kids:0<=t.kids/\t.kids<=7
 deep:depI t.id=4 ->t.kids=0
 ris:Ris t.held
 held:∀ m∈t.held,0<=m/\m<p.muts.length
 ph:t.phase=0∨((t.phase=1∨t.phase=2)/\atB p t=true/\(atI p t).op=18/\(atI p t).n∉t.held)
theorem z61 {p:PProg} {b:Int} {t:Thr}:z2w p b t=true↔Formed p b t:=by
 unfold z2w
 rw[Bool.and_eq_true,Bool.and_eq_true,Bool.and_eq_true,Bool.and_eq_true]
 have hA:fmA p t=true↔0<=depI t.id/\(0<=t.fn/\t.fn<p.funs.length)/\0<=t.pc/\t.pc<=((p.funs.getD t.fn.toNat c0f).code.length:Int):=by
  unfold fmA;simp only[Bool.not_eq_true',Bool.or_eq_false_iff,decide_eq_false_iff_not];omega
 have hR:fmR t=true↔∀ r∈t.regs,-2147483648<=r/\r<=2147483647:=by
  unfold fmR;rw[List.all_eq_true]
  exact⟨fun h r hr=>z60.1 (by simpa using h r hr),fun h r hr=>by simpa using z60.2 (h r hr)⟩
 have hS:fmS b t=true↔(0<=t.steps/\t.steps<=b)/\(0<=t.kids/\t.kids<=7)/\(depI t.id=4 ->t.kids=0)/\Ris t.held:=by
  unfold fmS
  rw[<- z5a]
  simp only[Bool.not_eq_true',Bool.or_eq_false_iff,decide_eq_false_iff_not,Bool.and_eq_false_iff,beq_eq_false_iff_ne,bne_eq_false_iff_eq,Bool.not_eq_false']
  constructor
  . rintro⟨⟨⟨⟨⟨h1,h2⟩,h3⟩,h4⟩,h5⟩,h6⟩
    exact⟨by omega,by omega,fun h=>h5.resolve_left (fun q=>q h),h6⟩
  . rintro⟨h1,h2,h3,h4⟩
    refine⟨⟨⟨⟨⟨by omega,by omega⟩,by omega⟩,by omega⟩, ?_⟩,h4⟩
    by_cases q:depI t.id=4
    . exact .inr (h3 q)
    . exact .inl q
 have hH:fmH p t=true↔∀ m∈t.held,0<=m/\m<p.muts.length:=by
  unfold fmH;rw[List.all_eq_true]
  simp only[Bool.not_eq_true',Bool.or_eq_false_iff,decide_eq_false_iff_not]
  exact⟨fun h m hm=>by have :=h m hm;omega,fun h m hm=>by have :=h m hm;omega⟩
 have hP:fmP p t=true↔t.phase=0∨((t.phase=1∨t.phase=2)/\atB p t=true/\(atI p t).op=18/\(atI p t).n∉t.held):=by
  unfold fmP
  simp only[Bool.or_eq_true,Bool.and_eq_true,beq_iff_eq,Bool.not_eq_true']
  rw[<- Bool.not_eq_true,zcu]
  constructor
  . rintro(h | ⟨⟨⟨h1,h2⟩,h3⟩,h4⟩)
    . exact .inl h
    . exact .inr ⟨h1,h2,h3,h4⟩
  . rintro(h | ⟨h1,h2,h3,h4⟩)
    . exact .inl h
    . exact .inr ⟨⟨⟨h1,h2⟩,h3⟩,h4⟩
 rw[hA,hR,hS,hH,hP]
 exact⟨fun⟨⟨a,b,c⟩,d,⟨e,f,g,h⟩,i,j⟩=>⟨a,b,c,d,e,f,g,h,i,j⟩,fun⟨a,b,c,d,e,f,g,h,i,j⟩=>⟨⟨a,b,c⟩,d,⟨e,f,g,h⟩,i,j⟩⟩
theorem z112:∀ (n:Nat) (l:List Int),Ris l ->(∀ x∈l,0<=x/\x<(n:Int)) ->l.length<=n:=by
 have key:∀ (l:List Int) (a:Int),Ris l ->(∀ x∈l,a<=x) ->∀ n:Int,(∀ x∈l,x<n) ->a<=n ->(l.length:Int)<=n - a:=by
  intro l
  induction l with
  |nil=>intro a _ _ n _ h;simp;omega
  |cons y l ih=>
   intro a hr ha n hn _
   obtain⟨h1,h2⟩:=List.pairwise_cons.1 hr
   have hy:=hn y (by simp)
   have hya:=ha y (by simp)
   have :=ih (y+1) h2 (fun x hx=>by have :=h1 x hx;omega) n (fun x hx=>hn x (by simp[hx])) (by omega)
   simp only[List.length_cons];omega
 intro n l hr h
 have :=key l 0 hr (fun x hx=>(h x hx).1) n (fun x hx=>(h x hx).2) (by omega)
 omega
theorem Formed.hlen {p:PProg} {b:Int} {t:Thr} (hp:POk p) (h:Formed p b t):t.held.length<=4:=by
 have :=hp.objs.1.2.1
 exact Nat.le_trans (z112 p.muts.length _ h.ris h.held) this
theorem Formed.wf {p:PProg} {b:Int} {t:Thr} (h:Formed p b t) (ht:TOK t):TWf p t:=⟨ht,h.fn,h.pc⟩
def zhf (id fn arg:Int):Thr:=⟨id,fn,0,arg::List.replicate 7 0,0,0,0,1,0,[]⟩
def newT (p:PProg) (b id fn arg:Int):Thr×Int:=
 if stdE p b≠0 then(c0t,stdE p b)else if depI id<0 then(c0t,2)else if fn<0∨(p.funs.length:Int)<=fn then(c0t,11)else if wr arg≠arg then(c0t,2)
 else(setl p b (zhf id fn arg),0)
def vRun (p:PProg) (b:Int) (t:Thr):Bool:=t.fault==0&&(atB p t&&(visB (atI p t).op&&(obsE t (atI p t)==0&&((t.status==1&&decide (t.steps<b)) || (t.status==4&&decide (1<=t.steps))))))
def vFin (p:PProg) (t:Thr):Bool:=t.fault==0&&(t.phase==0&&(!atB p t || (atI p t).op==7))
def zdh (p:PProg) (t:Thr):Bool:=t.phase==0&&(atB p t&&(if t.fault=26 then(atI p t).op==6&&regT t (atI p t).b==0 else if t.fault=29 then !visB (atI p t).op else t.fault !=0&&obsE t (atI p t)==t.fault))
def valT (p:PProg) (b:Int) (t:Thr):Bool:=z2w p b t&&(if t.status=1∨t.status=4 then vRun p b t else if t.status=2 then vFin p t else if t.status=3 then zdh p t else false)
def z2x (p:PProg) (b:Int) (t:Thr):Bool:=stdE p b==0&&valT p b t
def z1b (p:PProg) (t:Thr):Bool:=t.status==1&&z2x p 32 t
def zg (p:PProg) (t:Thr):Inst:=if z1b p t then atI p t else c0i
def z2f (t:Thr) (m:Int):Thr:=
 if t.phase=0 then {t with held:=remI t.held m,phase:=1}else if t.phase=1 then {t with phase:=2}else {t with held:=addI t.held m,phase:=0,pc:=t.pc+1}
def wrote (t:Thr) (i:Inst) (r:Int):Thr:={t with steps:=t.steps+1,regs:=if(defI i).2 then setR t.regs (defI i).1 r else t.regs}
def z14 (t:Thr) (i:Inst) (r:Int):Thr:=
 if i.op=18 then z2f (wrote t i r) i.n
 else if(i.op=17/\r≠0)∨i.op=15 then {wrote t i r with held:=addI t.held i.obj,pc:=t.pc+1}
 else if i.op=16 then {wrote t i r with held:=remI t.held i.obj,pc:=t.pc+1}
 else if i.op=21 then {wrote t i r with kids:=t.kids+1,pc:=t.pc+1}
 else {wrote t i r with pc:=t.pc+1}
def z15 (p:PProg) (b:Int) (t:Thr) (r:Int):Thr×Int:=
 if stdE p b≠0 then(c0t,stdE p b)else if valT p b t=false then(c0t,1)else if t.status≠1 then(c0t,30)else if wr r≠r then(c0t,2)
 else(setl p b (z14 t (atI p t) r),0)
def zcw (l:List Int) (v:Int):List Int:=l.filter (fun x=>decide (x<v))++([v]++l.filter fun x=>decide (v<x))
def z4j (l:List Int) (v:Int):List Int:=l.filter fun x=>x !=v
def spTv:FuncId ->List AV ->Option AV
 |121,[.mc _ p, .int _ b, .int _ id, .int _ fn, .int _ arg] |71,[.mc _ p, .int _ b, .int _ id, .int _ fn, .int _ arg]=>some (.tup [vT (newT (dP p) b id fn arg).1, .int .i64 (newT (dP p) b id fn arg).2])
 |203,[.mc _ p, .int _ b, .mc _ t]=>some (.bool (valT (dP p) b (dT t)))
 |220,[.mc _ p, .int _ b, .mc _ t]=>some (.bool (z2w (dP p) b (dT t)))
 |170,[.mc _ p, .int _ b, .mc _ t] |134,[.mc _ p, .int _ b, .mc _ t]=>some (.bool (z2x (dP p) b (dT t)))
 |104,[.mc _ p, .mc _ t] |79,[.mc _ p, .mc _ t]=>some (.tup [vI (zg (dP p) (dT t)), .bool (z1b (dP p) (dT t))])
 |207,[.mc _ t, .int _ m]=>some (vT (z2f (dT t) m))
 |118,[.mc _ p, .int _ b, .mc _ t, .int _ r] |89,[.mc _ p, .int _ b, .mc _ t, .int _ r]=>some (.tup [vT (z15 (dP p) b (dT t) r).1, .int .i64 (z15 (dP p) b (dT t) r).2])
 |131,[.int _ n]=>some (.bool (valB n))
 |152,[.seq _ n f, .int _ v]=>some (rowI (zcw (zw n f) v))
 |153,[.seq _ n f, .int _ v]=>some (rowI (z4j (zw n f) v))
 |82,[.seq _ n f, .int _ id]=>some (.tup [.int .i64 (max (fid (dR dT (.seq zk n f)) id) 0), .bool (decide (0<=fid (dR dT (.seq zk n f)) id))])
 |39,[.mc _ a, .mc _ b]=>some (.bool (dT a==dT b))
 |f,l=>spSe f l
abbrev zb1 (t:Thr):BoxC:= .cell 86 zk (encT t)
abbrev z4f (p:PProg):BoxC:= .cell 27 z7 (encP p)
abbrev z169 (i:Inst):BoxC:= .cell 105 zy (encI i)
noncomputable def vTv (n:Nat) (inv:Nat ->Option Inv):VCtx:={C:=cfgS n,CC:=Known Tryz.prog GG,orc:=fun _ _=>spTv,inv:=inv}
def z1w (p:PProg) (b:Int) (t:Thr) (r:Int):Prop:=stdE p b=0/\valT p b t=true/\t.status=1/\wr r=r
def zpp (p:PProg) (b:Int) (t:Thr) (r:Int) (k:Nat):Option Inv:=match Nat.beq k 15 with
 |true=>some {ι:=Unit,S:=fun _=>⟨[(1, .int .i64 b),(3, .int .i64 r),(4, .ptr 4 []),(6, .ptr 6 []),(8, .ptr 8 []),(11, .ptr 11 [])],[(4,z4f p),(6,zb1 (wrote t (atI p t) r)),(8,zb1 c0t),(11,z169 (atI p t))]⟩,μ:=fun _=>0,ok:=fun _=>z1w p b t r}
 |false=>match Nat.beq k 26 with
  |true=>some {ι:=Thr,S:=fun u=>⟨[(1, .int .i64 b),(4, .ptr 4 []),(6, .ptr 6 []),(8, .ptr 8 [])],[(4,z4f p),(6,zb1 u),(8,zb1 c0t)]⟩,μ:=fun _=>0,ok:=fun u=>z1w p b t r/\z14 t (atI p t) r={u with pc:=u.pc+1}/\u.pc=t.pc}
  |false=>match Nat.beq k 27 with
   |true=>some {ι:=Unit,S:=fun _=>⟨[(1, .int .i64 b),(4, .ptr 4 []),(6, .ptr 6 []),(8, .ptr 8 [])],[(4,z4f p),(6,zb1 (z14 t (atI p t) r)),(8,zb1 c0t)]⟩,μ:=fun _=>0,ok:=fun _=>z1w p b t r}
   |false=>none
end
end Go.Proofs.S25
