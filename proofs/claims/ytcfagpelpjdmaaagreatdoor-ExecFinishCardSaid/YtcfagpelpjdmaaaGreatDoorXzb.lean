import Derived.Test.YtcfagpelpjdmaaaGreatDoorXza
namespace Go.Proofs.S25
open Go Go.AV
open Go.IntKind renaming i64 -> j6
open Go.AV.Shape (leaf)
noncomputable section
noncomputable def gJ0 (p:PProg) (c:Conf) (l:List Int):Prop:=pcVc (vXr p c c0st 0 37) (jReg 0) (j0 p c l) (pN (jA p c l 0)) none none
noncomputable def gJ1 (p:PProg) (c:Conf) (l:List Int) (i:Nat):Prop:=pcVc (vXr p c c0st 0 37) (jReg 1) (jA p c l i) (pN ⟨jE l i++[(13, .bool (decide (i<l.length)))],jH p c (xN p c l i)⟩) none none
noncomputable def gJ2 (p:PProg) (c:Conf) (l:List Int) (i:Nat):Prop:=pcVc (vXr p c c0st 0 37) (jReg 2) (jA p c l i) (pN (jB p c l i)) none none
noncomputable def gJ3 (p:PProg) (c:Conf) (l:List Int) (i:Nat):Prop:=pcVc (vXr p c (xN p c l i) (l.getD i 0) 37) (jReg 3) (jB p c l i) (pN (jC p c l i)) none none
noncomputable def gJ4 (p:PProg) (c:Conf) (l:List Int) (i:Nat):Prop:=opVc (vXr p c c0st 0 37) 4 (ziu (jReg 4)) (((ziu (jReg 4)).drop 1).take 4) 1 (jC p c l i) (jD p c l i)
noncomputable def gJ4b (p:PProg) (c:Conf) (l:List Int) (i:Nat):Prop:=opVc (vXr p c c0st 0 37) 4 (ziu (jReg 4)) ((ziu (jReg 4)).drop 6) 6 ⟨put (jD p c l i).env 29 (.bool true),jCh p c l i⟩ (jF p c l i true)
noncomputable def gJ4c (p:PProg) (c:Conf) (l:List Int) (i:Nat):Prop:=opVc (vXr p c c0st 0 37) 4 (ziu (jReg 4)) ((ziu (jReg 4)).drop 6) 6 ⟨put (jD p c l i).env 29 (.bool false),jCh p c l i⟩ (jF p c l i false)
noncomputable def gJ5 (p:PProg) (c:Conf) (l:List Int) (i:Nat):Prop:=pcVc (vXr p c c0st 0 37) (jReg 5) ⟨jCe p c l i,jCh p c l i⟩ (pN ⟨jE l i,jH p c (xN p c l (i+1))⟩) none none
noncomputable def gJ6 (p:PProg) (c:Conf) (l:List Int) (i:Nat):Prop:=pcVc (vXr p c c0st 0 37) (jReg 6) ⟨jE l i,jH p c (xN p c l (i+1))⟩ (pN (jA p c l (i+1))) none none
noncomputable def gM0 (p:PProg) (c:Conf) (l:List Int):Prop:=pcVc (vXr p c c0st 0 8) (mReg 0) ⟨[(0,vRn p c),(1,vSt (xN p c l 0)),(2,rowI l)],[]⟩ (pN ⟨[(3, .ptr 3 []),(4, .ptr 4 []),(5, .ptr 5 [])],[(3,z1lk p c),(4,z2z (xN p c l 0)),(5,z1m1 l)]⟩) none none
noncomputable def gU0 (p:PProg) (c:Conf) (l:List Int):Prop:=z1nq (vXr p c c0st 0 47) (z1lj 4 z1mu) ⟨z87 0 [vRn p c,rowI l],[]⟩ Tryz.f34 (.tup [vRu (xRun p c l).1, .int .i64 (xRun p c l).2]) ((xSt p c).2=0/\l.length<=512) (u0 p c l)
noncomputable def gU7 (p:PProg) (c:Conf) (l:List Int):Prop:=opVc (vXr p c c0st 0 47) 7 (ziu (uReg 7)) ((ziu (uReg 7)).take 3) 0 (u0 p c l) (u7 p c l)
noncomputable def gU8 (p:PProg) (c:Conf) (l:List Int) (i:Nat):Prop:=pcVc (vXr p c c0st 0 47) uAsg ⟨put (uE l) 29 (vRs (xR p c l i)),uH p c l i⟩ (pN (u1 p c l i)) none none
noncomputable def gU9 (p:PProg) (c:Conf) (l:List Int) (i:Nat):Prop:=pcVc (vXr p c c0st 0 47) uRnd (u1 p c l i) (some ((xR p c l i).2.2=0,⟨uE l,uH p c l (i+1)⟩)) none (some (¬(xR p c l i).2.2=0,⟨uE l,uX (xR p c l i).2.2⟩))
noncomputable def gUe (p:PProg) (c:Conf) (l:List Int):Prop:=z1mq (vXr p c c0st 0 47) ((uReg 13).seq .ret) ⟨uE l,uH p c l l.length⟩ Tryz.f34 (.tup [vRu (xRun p c l).1, .int .i64 (xRun p c l).2])
noncomputable def gUx (p:PProg) (c:Conf) (l:List Int) (e:Int):Prop:=z1mq (vXr p c c0st 0 47) .ret ⟨uE l,uX e⟩ Tryz.f34 (.tup [vRu (xRun p c l).1, .int .i64 (xRun p c l).2])
theorem eJ0 (p:PProg) (c:Conf) (l:List Int):gJ0 p c l=(↑l.length<=(9223372036854775807:Int)/\True/\((RR l.length/\∀ i:Nat,i<l.length->RR (AV.int j6 (l.getD i 0)))/\RR (↑l.length:Int)/\(0:Int)=↑(0:Nat))/\(LS (encP p) (encP p)/\RR c.model/\RR c.bound)/\LS (ze (xN p c l 0)) (ze (xN p c l 0))):=by kernel_rfl
theorem eJ1 (p:PProg) (c:Conf) (l:List Int) (i:Nat):gJ1 p c l i=(True/\((RR l.length/\∀ (i:Nat),i<l.length->RR (AV.int j6 (l.getD i 0)))/\RR (↑l.length:Int)/\RR (↑i:Int)/\decide ((↑i:Int)<(↑l.length:Int))=decide (i<l.length))/\(LS (encP p) (encP p)/\RR c.model/\RR c.bound)/\LS (ze (xN p c l i)) (ze (xN p c l i))):=by kernel_rfl
theorem eJ2 (p:PProg) (c:Conf) (l:List Int) (i:Nat):gJ2 p c l i=(inIx (↑i) l.length/\True/\((RR l.length/\∀ (i:Nat),i<l.length->RR (AV.int j6 (l.getD i 0)))/\RR (↑l.length:Int)/\RR (↑i:Int)/\l.getD (↑i:Int).toNat 0=l.getD i 0)/\(LS (encP p) (encP p)/\RR c.model/\RR c.bound)/\LS (ze (xN p c l i)) (ze (xN p c l i))):=by kernel_rfl
section
variable (p:PProg) (c:Conf) (l:List Int) (i:Nat)
def q20i:SState×Ev×Int:=xSp p c (xN p c l i) (l.getD i 0)
def q20j:=ze (q20i p c l i).fst
def q20k:Ev×Int:=(q20i p c l i).snd
def q20l:=z11 (q20k p c l i).fst
def q20m:Int:=(q20k p c l i).snd
end
theorem eJ3 (p:PProg) (c:Conf) (l:List Int) (i:Nat):gJ3 p c l i=(KN 36 [AV.mc (Shape.agg [z7,z16]) (AV.agg [encP p,AV.agg [AV.int j6 c.model,AV.int j6 c.bound]]),AV.mc stSh (ze (xN p c l i)),AV.int j6 (l.getD i (0:Int))] (AV.tup [AV.mc stSh (q20j p c l i),AV.mc evSh (q20l p c l i),AV.int j6 (q20m p c l i)])/\True/\((RR l.length/\∀ (i:Nat),i<l.length->RR (AV.int j6 (l.getD i 0)))/\RR (↑l.length:Int)/\RR (↑i:Int)/\q20m p c l i=(xR p c l i).snd.snd)/\(LS (encP p) (encP p)/\RR c.model/\RR c.bound)/\LS (ze (xN p c l i)) (ze (xN p c l i))/\LS (q20j p c l i) (ze (xR p c l i).fst)/\LS (q20l p c l i) (z11 (xR p c l i).snd.fst)):=by kernel_rfl
section
variable (p:PProg) (c:Conf) (l:List Int) (i:Nat)
def q20n:=RR (xR p c l i).snd.snd
def q20o:=LS (ze (xR p c l i).fst) (ze (xR p c l i).fst)
def q1w5:=z11 (xR p c l i).snd.fst
def q20p:=LS (q1w5 p c l i) (q1w5 p c l i)
end
theorem eJ4 (p:PProg) (c:Conf) (l:List Int) (i:Nat):gJ4 p c l i=(((RR l.length/\∀ (i:Nat),i<l.length->RR (AV.int j6 (l.getD i 0)))/\RR (↑l.length:Int)/\RR (↑i:Int)/\q20n p c l i/\q20o p c l i/\q20p p c l i/\q20n p c l i)/\(LS (encP p) (encP p)/\RR c.model/\RR c.bound)/\LS (ze (xN p c l i)) (ze (xN p c l i))/\q20o p c l i/\q20p p c l i):=by kernel_rfl
section
variable (p:PProg) (c:Conf) (l:List Int) (i:Nat)
def q1wb:Int:=(xR p c l i).snd.snd
end
theorem eJ4b (p:PProg) (c:Conf) (l:List Int) (i:Nat):gJ4b p c l i=(((!!true)=true->(!!true)=true)/\((!!true)=true->(!!true)=true)/\((RR l.length/\∀ (i:Nat),i<l.length->RR (AV.int j6 (l.getD i 0)))/\RR (↑l.length:Int)/\RR (↑i:Int)/\RR (q1wb p c l i)/\RR (!true||q1wb p c l i !=0))/\(LS (encP p) (encP p)/\RR c.model/\RR c.bound)/\LS (ze (xN p c l i)) (ze (xN p c l i))/\LS (ze (xR p c l i).fst) (ze (xR p c l i).fst)/\LS (q1w5 p c l i) (q1w5 p c l i)):=by kernel_rfl
theorem eJ4c (p:PProg) (c:Conf) (l:List Int) (i:Nat):gJ4c p c l i=(((!!false)=true->(!!false)=true)/\((!!false)=true->(!!false)=true)/\((RR l.length/\∀ (i:Nat),i<l.length->RR (AV.int j6 (l.getD i 0)))/\RR (↑l.length:Int)/\RR (↑i:Int)/\RR (q1wb p c l i)/\RR (!false||q1wb p c l i !=0))/\(LS (encP p) (encP p)/\RR c.model/\RR c.bound)/\LS (ze (xN p c l i)) (ze (xN p c l i))/\LS (ze (xR p c l i).fst) (ze (xR p c l i).fst)/\LS (q1w5 p c l i) (q1w5 p c l i)):=by kernel_rfl
theorem eJ5 (p:PProg) (c:Conf) (l:List Int) (i:Nat):gJ5 p c l i=(True/\((RR l.length/\∀ (i:Nat),i<l.length->RR (AV.int j6 (l.getD i 0)))/\RR (↑l.length:Int)/\RR (↑i:Int))/\(LS (encP p) (encP p)/\RR c.model/\RR c.bound)/\LS (ze (xR p c l i).fst) (ze (xN p c l (i+1)))):=by kernel_rfl
section
variable (i:Nat)
def q1w7:Nat:=i+1
end
section
variable (p:PProg) (c:Conf) (l:List Int) (i:Nat)
def q20q:=ze (xN p c l (q1w7 i))
end
theorem eJ6 (p:PProg) (c:Conf) (l:List Int) (i:Nat):gJ6 p c l i=(InR j6 (qzm i)/\True/\((RR l.length/\∀ (i:Nat),i<l.length->RR (AV.int j6 (l.getD i 0)))/\RR (↑l.length:Int)/\qzm i=↑(q1w7 i))/\(LS (encP p) (encP p)/\RR c.model/\RR c.bound)/\LS (q20q p c l i) (q20q p c l i)):=by kernel_rfl
theorem eM0 (p:PProg) (c:Conf) (l:List Int):gM0 p c l=(True/\(LS (encP p) (encP p)/\RR c.model/\RR c.bound)/\LS (ze (xN p c l 0)) (ze (xN p c l 0))/\RR l.length/\∀ i:Nat,i<l.length->RR (AV.int j6 (l.getD i 0))):=by kernel_rfl
section
variable (p:PProg) (c:Conf) (l:List Int)
def q20r:=(xRun p c l).fst.evs.length=0/\(xRun p c l).fst.st.thr.length=0/\((xRun p c l).fst.st.mem.vars.length=0/\(xRun p c l).fst.st.mem.owners.length=0/\(xRun p c l).fst.st.mem.queues.length=0/\(xRun p c l).fst.st.mem.sig.length=0)/\(xRun p c l).fst.st.bufs.length=0
def q20s:=(xSt p c).snd !=0
def q20t:=decide ((512:Int)<↑l.length)
def q20u:=LS (ze (xSt p c).fst) (ze (xN p c l 0))
end
theorem eU0 (p:PProg) (c:Conf) (l:List Int):gU0 p c l=(KN 41 [AV.mc (Shape.agg [z7,z16]) (AV.agg [encP p,AV.agg [AV.int j6 c.model,AV.int j6 c.bound]])] (AV.tup [AV.mc stSh (ze (xSt p c).fst),AV.int j6 (xSt p c).snd])/\(q20s p c=true->q20r p c l/\(xSt p c).snd=(xRun p c l).snd)/\(q20s p c=false->↑l.length<=(9223372036854775807:Int)/\(q20t l=true->q20r p c l/\4=(xRun p c l).snd)/\(q20t l=false->((xSt p c).snd=0/\l.length<=512)/\(RR l.length/\∀ i:Nat,i<l.length->RR (AV.int j6 (l.getD i 0)))/\(LS (encP p) (encP p)/\RR c.model/\RR c.bound)/\((0:Nat)=(0:Nat)/\((0:Nat)=(0:Nat)/\(0:Nat)=(0:Nat)/\(0:Nat)=(0:Nat)/\(0:Nat)=(0:Nat))/\(0:Nat)=(0:Nat))/\RR (0:Int)/\(RR 0/\q20u p c l)/\(xEv p c l 0).length=0/\q20u p c l))):=by kernel_rfl
section
variable (l:List Int)
def q20v:=RR l.length/\∀ i:Nat,i<l.length->RR (AV.int j6 (l.getD i 0))
variable (p:PProg) (c:Conf)
def q20w:=LS (encP p) (encP p)/\RR c.model/\RR c.bound
end
section
variable (p:PProg) (c:Conf) (l:List Int)
def q20x:=LS (ze (xN p c l 0)) (ze (xN p c l 0))
def q1xy:=RR ((0:Nat))/\∀ i:Nat,i<(0:Nat)->RR (AV.int j6 ([].getD i 0))
end
theorem eU7 (p:PProg) (c:Conf) (l:List Int):gU7 p c l=((q20v l/\q20w p c/\q20x p c l/\q20v l)/\q20w p c/\((RR ((0:Nat))/\∀ i:Nat,i<(0:Nat)->RR (encT ([].getD i c0t)))/\(q1xy/\q1xy/\(RR ((0:Nat))/\∀ i:Nat,i<(0:Nat)->RR (rowI ([].getD i [])))/\q1xy)/\RR ((0:Nat))/\∀ i:Nat,i<(0:Nat)->RR (encB ([].getD i c0b)))/\RR (0:Int)/\(RR 0/\q20x p c l)/\RR (xEv p c l 0).length/\∀ i:Nat,i<(xEv p c l 0).length->RR (z11 ((xEv p c l 0).getD i c0ev))):=by kernel_rfl
theorem eU8 (p:PProg) (c:Conf) (l:List Int) (i:Nat):gU8 p c l i=(True/\(RR l.length/\∀ (i:Nat),i<l.length->RR (AV.int j6 (l.getD i 0)))/\(LS (encP p) (encP p)/\RR c.model/\RR c.bound)/\((RR ((0:Nat))/\∀ (i:Nat),i<(0:Nat)->RR (encT (List.getD [] i c0t)))/\(q20/\q20/\(RR ((0:Nat))/\∀ (i:Nat),i<(0:Nat)->RR (rowI (List.getD [] i [])))/\q20)/\RR ((0:Nat))/\∀ (i:Nat),i<(0:Nat)->RR (encB (List.getD [] i c0b)))/\RR (0:Int)/\(RR i/\LS (ze (xN p c l i)) (ze (xN p c l i)))/\(RR (xEv p c l i).length/\∀ (i_1:Nat),i_1<(xEv p c l i).length->RR (z11 ((xEv p c l i).getD i_1 c0ev)))/\LS (ze (xR p c l i).fst) (ze (xR p c l i).fst)/\LS (q1w5 p c l i) (q1w5 p c l i)/\RR (xR p c l i).snd.snd):=by kernel_rfl
section
variable (p:PProg) (c:Conf) (l:List Int) (i:Nat)
def q20y:=q1wb p c l i=0
def q1ww:=RR l.length/\∀ (i:Nat),i<l.length->RR (AV.int j6 (l.getD i 0))
def q20z:=q1wb p c l i !=0
def q210:List Ev:=xEv p c l (q1w7 i)
end
theorem eU9 (p:PProg) (c:Conf) (l:List Int) (i:Nat):gU9 p c l i=((q20z p c l i=true->¬q20y p c l i/\q1ww l/\((0:Nat)=(0:Nat)/\((0:Nat)=(0:Nat)/\(0:Nat)=(0:Nat)/\(0:Nat)=(0:Nat)/\(0:Nat)=(0:Nat))/\(0:Nat)=(0:Nat))/\RR (q1wb p c l i))/\(q20z p c l i=false->1*evSh.size<=16777216/\(i=(xEv p c l i).length/\↑(q1w7 i)*↑(72:Nat)<=(140737488355328:Int)/\q1w7 i<=9223372036854775807)/\1<=1/\q20y p c l i/\q1ww l/\(LS (encP p) (encP p)/\RR c.model/\RR c.bound)/\((RR ((0:Nat))/\∀ (i:Nat),i<(0:Nat)->RR (encT (List.getD [] i c0t)))/\(q20/\q20/\(RR ((0:Nat))/\∀ (i:Nat),i<(0:Nat)->RR (rowI (List.getD [] i [])))/\q20)/\RR ((0:Nat))/\∀ (i:Nat),i<(0:Nat)->RR (encB (List.getD [] i c0b)))/\RR (0:Int)/\(RR (q1w7 i)/\LS (ze (xR p c l i).fst) (ze (xN p c l (q1w7 i))))/\q1w7 i=(q210 p c l i).length/\∀ (i_1:Nat),i_1<q1w7 i->(if i_1<i then z11 ((xEv p c l i).getD i_1 c0ev)else((List.replicate 1 (AV.agg [AV.int j6 0,AV.int j6 0,AV.int j6 0,AV.int j6 0,AV.int j6 0,AV.int j6 0,AV.int j6 0,AV.int j6 0,AV.int j6 0])).set 0 (z11 (xR p c l i).snd.fst)).getD (i_1 - i) AV.any)=z11 ((q210 p c l i).getD i_1 c0ev))):=by kernel_rfl
theorem eUe (p:PProg) (c:Conf) (l:List Int):gUe p c l=(l.length<=(xEv p c l l.length).length/\((l.length=(xRun p c l).fst.evs.length/\∀ i:Nat,i<l.length->z11 ((xEv p c l l.length).getD i c0ev)=z11 ((xRun p c l).fst.evs.getD i c0ev))/\LS (ze (xN p c l l.length)) (ze (xRun p c l).fst.st))/\0=(xRun p c l).snd):=by kernel_rfl
theorem eUx (p:PProg) (c:Conf) (l:List Int) (e:Int):gUx p c l e=(((xRun p c l).fst.evs.length=0/\((0:Nat)=List.length (SState.thr (XRun.st (Prod.fst (xRun p c l))))/\∀ i:Nat,i<(0:Nat)->encT ([].getD i c0t)=encT ((xRun p c l).fst.st.thr.getD i c0t))/\(((0:Nat)=List.length (Mem.vars (SState.mem (XRun.st (Prod.fst (xRun p c l)))))/\∀ i:Nat,i<(0:Nat)->AV.int j6 ([].getD i 0)=AV.int j6 ((xRun p c l).fst.st.mem.vars.getD i 0))/\((0:Nat)=List.length (Mem.owners (SState.mem (XRun.st (Prod.fst (xRun p c l)))))/\∀ i:Nat,i<(0:Nat)->AV.int j6 ([].getD i 0)=AV.int j6 ((xRun p c l).fst.st.mem.owners.getD i 0))/\((0:Nat)=List.length (Mem.queues (SState.mem (XRun.st (Prod.fst (xRun p c l)))))/\∀ i:Nat,i<(0:Nat)->rowI ([].getD i [])=rowI ((xRun p c l).fst.st.mem.queues.getD i []))/\(0:Nat)=List.length (Mem.sig (SState.mem (XRun.st (Prod.fst (xRun p c l)))))/\∀ i:Nat,i<(0:Nat)->AV.int j6 ([].getD i 0)=AV.int j6 ((xRun p c l).fst.st.mem.sig.getD i 0))/\(0:Nat)=List.length (SState.bufs (XRun.st (Prod.fst (xRun p c l))))/\∀ i:Nat,i<(0:Nat)->encB ([].getD i c0b)=encB ((xRun p c l).fst.st.bufs.getD i c0b))/\e=(xRun p c l).snd):=by kernel_rfl
theorem kJ0 (p:PProg) (c:Conf) (l:List Int) (hl:l.length<=512):gJ0 p c l:=by
 rw[eJ0]
 simp only[SB,inIx,reduceCtorEq,Int.reduceToNat]
 simp only[LS_t,and_true,true_and]
 exact⟨by omega,rfl⟩
theorem kJ1 (p:PProg) (c:Conf) (l:List Int) (i:Nat):gJ1 p c l i:=by
 rw[eJ1]
 simp only[SB,inIx,reduceCtorEq,Int.reduceToNat]
 simp only[LS_t,and_true]
theorem kJ2 (p:PProg) (c:Conf) (l:List Int) (i:Nat) (h:i<l.length):gJ2 p c l i:=by
 rw[eJ2]
 simp only[SB,inIx,reduceCtorEq,Int.reduceToNat]
 simp only[LS_t,and_true,true_and]
 exact h
theorem kJ3 (p:PProg) (c:Conf) (l:List Int) (i:Nat) (hp:PSm p) (w:XW (xN p c l i)) (hE:KEnq) (ha:I64 (l.getD i 0)):gJ3 p c l i:=by
 rw[eJ3];try delta q20i q20j q20k q20l q20m
 simp only[SB,inIx,reduceCtorEq,Int.reduceToNat]
 simp only[LS_t,and_true,true_and]
 exact⟨z1no p c _ _ hp w hE ha,rfl,z34 rfl,z34 rfl⟩
theorem kJ4 (p:PProg) (c:Conf) (l:List Int) (i:Nat):gJ4 p c l i:=by
 rw[eJ4];try delta q20n q20o q1w5 q20p
 simp only[SB,inIx,reduceCtorEq,Int.reduceToNat]
 simp only[LS_t,and_true]
theorem kJ4b (p:PProg) (c:Conf) (l:List Int) (i:Nat):gJ4b p c l i:=by
 rw[eJ4b];try delta q1wb q1w5
 simp only[SB,inIx,reduceCtorEq,Int.reduceToNat]
 simp only[LS_t,and_true]
theorem kJ4c (p:PProg) (c:Conf) (l:List Int) (i:Nat):gJ4c p c l i:=by
 rw[eJ4c];try delta q1wb q1w5
 simp only[SB,inIx,reduceCtorEq,Int.reduceToNat]
 simp only[LS_t,and_true]
theorem kJ5 (p:PProg) (c:Conf) (l:List Int) (i:Nat):gJ5 p c l i:=by
 rw[eJ5]
 simp only[SB,inIx,reduceCtorEq,Int.reduceToNat]
 simp only[LS_t,and_true,true_and]
 exact z34 rfl
theorem kJ6 (p:PProg) (c:Conf) (l:List Int) (i:Nat) (hl:l.length<=512) (h:i<l.length):gJ6 p c l i:=by
 rw[eJ6];try delta qzm q1w7 q20q
 simp only[SB,inIx,reduceCtorEq,Int.reduceToNat]
 simp only[LS_t,and_true,true_and]
 exact⟨za (by omega) (by omega),by omega⟩
theorem kM0 (p:PProg) (c:Conf) (l:List Int):gM0 p c l:=by
 rw[eM0]
 simp only[SB,inIx,reduceCtorEq,Int.reduceToNat]
 simp only[LS_t,and_true]
theorem kU0 (p:PProg) (c:Conf) (l:List Int) (hp:PSm p) (hl:(l.length:Int)<=9223372036854775807):gU0 p c l:=by
 rw[eU0];try delta q20r q20s q20t q20u
 simp only[SB,inIx,reduceCtorEq,Int.reduceToNat]
 refine⟨z1nn p c hp,fun h=>?_,fun h=>⟨hl,fun h2=>?_,fun h2=>⟨⟨h,by omega⟩,z34 rfl,z34 rfl,rfl,z34 rfl⟩⟩⟩
 . have e:xRun p c l=(c0ru,(xSt p c).2):=if_pos h
   rw[e];exact⟨⟨rfl,zSt⟩,rfl⟩
 . have e:xRun p c l=(c0ru,4):=by unfold xRun;rw[if_neg (fun h'=>h' h),if_pos (by omega)]
   rw[e];exact⟨⟨rfl,zSt⟩,rfl⟩
theorem kU7 (p:PProg) (c:Conf) (l:List Int):gU7 p c l:=by
 rw[eU7];try delta q20v q20w q20x q1xy
 simp only[SB,inIx,reduceCtorEq,Int.reduceToNat]
 simp only[LS_t,and_true]
theorem kU8 (p:PProg) (c:Conf) (l:List Int) (i:Nat):gU8 p c l i:=by
 rw[eU8];try delta q20 q1w5
 simp only[SB,inIx,reduceCtorEq,Int.reduceToNat]
 simp only[LS_t,and_true]
theorem z1lc (p:PProg) (c:Conf) (l:List Int) (n:Nat):(xEv p c l n).length=n:=by unfold xEv;simp
theorem z1ll (p:PProg) (c:Conf) (l:List Int) {n i:Nat} (h:i<n):(xEv p c l n).getD i c0ev=(xR p c l i).2.1:=by
 unfold xEv;simp[List.getD_eq_getElem?_getD,h]
theorem kU9 (p:PProg) (c:Conf) (l:List Int) (i:Nat) (hi:i<512):gU9 p c l i:=by
 rw[eU9];try delta q1wb q20y q1ww q20z q1w7 q20 q210
 simp only[SB,inIx,reduceCtorEq,Int.reduceToNat]
 simp only[LS_t,and_true,true_and]
 refine fun h=>⟨by decide,⟨(z1lc p c l i).symm,by omega,by omega⟩,h,z34 rfl,(z1lc p c l _).symm,fun j hj=>?_⟩
 rw[z1ll p c l hj]
 by_cases e:j<i
 . rw[if_pos e,z1ll p c l e]
 . obtain rfl:j=i:=by omega
   rw[if_neg e,Nat.sub_self];rfl
theorem kUe (p:PProg) (c:Conf) (l:List Int) (h0:(xSt p c).2=0) (hl:l.length<=512) (hM:l.length<=xM p c l):gUe p c l:=by
 rw[eUe]
 have e:xRun p c l=(⟨xEv p c l l.length,xN p c l l.length⟩,0):=by unfold xRun;rw[if_neg (fun h=>h h0),if_neg (by omega),if_neg (by omega)]
 rw[e]
 exact⟨by rw[z1lc];exact Nat.le_refl _,⟨⟨(z1lc _ _ _ _).symm,fun _ _=>rfl⟩,z34 rfl⟩,rfl⟩
theorem kUx (p:PProg) (c:Conf) (l:List Int) (e:Int) (h0:(xSt p c).2=0) (hl:l.length<=512) (hM:xM p c l<l.length) (he:e=(xR p c l (xM p c l)).2.2):gUx p c l e:=by
 rw[eUx]
 have e':xRun p c l=(c0ru,e):=by unfold xRun;rw[if_neg (fun h=>h h0),if_neg (by omega),if_pos hM,he]
 rw[e']
 exact⟨⟨rfl,⟨rfl,fun i hi=>absurd hi (Nat.not_lt_zero i)⟩,⟨⟨rfl,fun i hi=>absurd hi (Nat.not_lt_zero i)⟩,⟨rfl,fun i hi=>absurd hi (Nat.not_lt_zero i)⟩,⟨rfl,fun i hi=>absurd hi (Nat.not_lt_zero i)⟩,rfl,fun i hi=>absurd hi (Nat.not_lt_zero i)⟩,rfl,fun i hi=>absurd hi (Nat.not_lt_zero i)⟩,rfl⟩
theorem z1or:Tryz.f100.body=some ((jReg 0).seq (.block 0 (.loop ((jReg 1).seq ((Code.cond (.tmp 13) .skip (.exit 0)).seq ((Code.block 1 ((jReg 2).seq ((jReg 3).seq (((jReg 4).seq (.cond (.tmp 34) .ret .skip)).seq (jReg 5))))).seq (jReg 6))))))):=by kernel_rfl
theorem z1os:Tryz.f56.body=some ((mReg 0).seq ((Code.region 1 (ziu (mReg 1)).toArray false).seq .ret)):=by kernel_rfl
theorem z1ot:Tryz.f34.body=some z1mu:=by kernel_rfl
theorem z1ou:z1m7 4 z1mu=((uReg 7).seq (.block 0 (.rangeFunc (.tmp 28) #[29] uAsg uRnd))).seq ((uReg 13).seq .ret):=by kernel_rfl
theorem z1ov:jReg 4= .region 4 (ziu (jReg 4)).toArray false:=by kernel_rfl
theorem z1ow:uReg 7= .region 7 (ziu (uReg 7)).toArray false:=by kernel_rfl
section
variable {p:PProg} {c:Conf} {l:List Int}
theorem z1mj:∀ k i n,n<=i+k ->(∀ j,i<=j ->j<n ->(xR p c l j).2.2=0) ->n<=xF p c l k i
 |0,i,n,h,_=>h
 |k+1,i,n,h,hz=>by
  unfold xF;split
  . rename_i hne
    exact Nat.le_of_not_lt fun q=>hne (hz i (Nat.le_refl _) q)
  . exact z1mj k (i+1) n (by omega) fun j hj=>hz j (by omega)
theorem z1mk:∀ k i n,i<=n ->n<i+k ->(xR p c l n).2.2≠0 ->xF p c l k i<=n
 |0,i,n,h,h2,_=>by omega
 |k+1,i,n,h,h2,hz=>by
  unfold xF;split
  . exact h
  . rename_i hne
    refine z1mk k (i+1) n ?_ (by omega) hz
    rcases Nat.lt_or_ge i n with q |q
    . exact q
    . obtain rfl:i=n:=by omega
      exact absurd hz hne
theorem z1m2 {n:Nat} (h:n<=l.length) (hz:∀ j,j<n ->(xR p c l j).2.2=0):n<=xM p c l:=z1mj _ _ _ (by omega) fun j _ hj=>hz j hj
theorem z1ml {n:Nat} (h:n<l.length) (hz:∀ j,j<n ->(xR p c l j).2.2=0) (hn:(xR p c l n).2.2≠0):xM p c l=n:=by
 have h1:=z1m2 (Nat.le_of_lt h) hz
 have h2:=z1mk (p:=p) (c:=c) (l:=l) l.length 0 n (Nat.zero_le _) (by omega) hn
 exact Nat.le_antisymm h2 h1
theorem tX (n:Nat) (s:SState) (a:Int):z1d (vXr p c s a n).C:=zd n _
theorem oX (n:Nat) (s:SState) (a:Int):CCOK (vXr p c s a n).C (vXr p c s a n).CC:=z9a (vXr p c s a n).C (fun _ _ _ _ h=>h)
theorem getA {s:Nat} {x:AV} {m:List (Nat×AV)}:∀ {l:List (Nat×AV)},AV.get l s=some x ->AV.get (l++m) s=some x
 | (k,y)::l,h=>by
  simp only[AV.get,List.cons_append]at h ⊢
  split at h
  . exact h
  . exact getA h
theorem z1m8 (hp:PSm p) (hl:l.length<=512) (hE:KEnq) (hw:∀ i,i<=l.length ->XW (xN p c l i)) (hI:∀ i,I64 (l.getD i 0)) {w:World} {F:Nat ->Prop} {φ:Nat ->AV.Place} {v1 v2 v3:Value}
 (hfit:∀ a:Act,a.defers=[] ->a.tmps.size=37 ->a.tmps[1]? =some v1 ->a.tmps[2]? =some v2 ->a.tmps[3]? =some v3 ->Fit (vXr p c c0st 0 37).C (j0 p c l) a w F φ):
 Iter Tryz.prog 100 #[v1,v2,v3] (min (xM p c l+1) l.length) (fun i=>vRs (xR p c l i)) w F (AV.Own (j0 p c l) φ):=by
 intro n lp X J Jx sJ sX hy W O hsz hW h0 hO
 refine callsIn_of_wp Tryz.func100 z1or trivial ?_
 have hnt:Tryz.f100.ntmps=37:=by kernel_rfl
 have hres:Tryz.f100.results=#[]:=by kernel_rfl
 rw[hnt]
 obtain⟨a0,ha0⟩:∃ a0:Act,({tmps:=#[z1la lp]++#[v1,v2,v3]++Array.replicate (37 - (#[z1la lp]++#[v1,v2,v3]).size) undef,defers:=[]}:Act)=a0:=⟨_,rfl⟩
 rw[ha0]
 have f0:=hfit a0 (by rw[<- ha0]) (by rw[<- ha0];simp) (by rw[<- ha0];simp) (by rw[<- ha0];simp) (by rw[<- ha0];simp)
 have f1:Fit (vXr p c c0st 0 37).C (j0 p c l) a0 W F φ:=f0.fit f0.dfr (fun k hk=>hW k (f0.ro k hk)) (fun g hg=>hW g (f0.ownlt hg).1) (fun _ h=>h) fun k hk=>⟨Nat.lt_of_lt_of_le (f0.ro k hk) hsz,fun q=>(f0.ownlt q).2.1 hk⟩
 have I0:ItSt (vXr p c c0st 0 37).C X lp (J 0) (j0 p c l) a0 W:=⟨F,φ,O,f1,h0,hO,by rw[<- ha0];simp⟩
 have fin:∀ {e a W K S},(e= .normal∨e= .ret) ->ItSt (vXr p c c0st 0 37).C X lp K S a W ->(∀ W F O,K W F O ->J (min (xM p c l+1) l.length) W F O∨Jx W F O) ->bodyPost Tryz.prog Tryz.f100 (fun e W'=>(∃ v,e= .returned v)/\∃ F' O',J (min (xM p c l+1) l.length) W' F' O'∨Jx W' F' O') e a W:=by
  rintro e a W K S he ⟨F,φ,O,hf,hj,_⟩ hK
  have :a.defers=[]:=hf.dfr
  rcases he with rfl |rfl<;>exact⟨this, .tuple #[],by simp[results,hres],⟨_,rfl⟩,F,O,hK _ _ _ hj⟩
 refine wpIn_seq (z1le (V:=vXr p c c0st 0 37) (tX _ _ _) (oX _ _ _) (sJ 0) I0 (by kernel_rfl) (kJ0 p c l hl) ?_)
 intro a1 w1 I1
 refine wpIn_block (z7b (fun k a w=>∃ i,i<=l.length/\(∀ j,j<i ->(xR p c l j).2.2=0)/\k=l.length - i/\ItSt (vXr p c c0st 0 37).C X lp (J i) (jA p c l i) a w) l.length ⟨0,Nat.zero_le _,fun j hj=>absurd hj (Nat.not_lt_zero j),rfl,I1⟩ ?_)
 rintro k a w ⟨i,hi,hok,rfl,I⟩
 refine wpIn_seq (z1le (V:=vXr p c c0st 0 37) (tX _ _ _) (oX _ _ _) (sJ i) I (by kernel_rfl) (kJ1 p c l i) ?_)
 clear I
 intro a w I
 have hb:=I.eval (s:=13) (b:=decide (i<l.length)) rfl
 have hM:=z1m2 hi hok
 refine wpIn_seq (wpIn_cond_split hb (fun hlt=>?_) (fun hge=>?_))
 case refine_2=>
  have :=of_decide_eq_false hge
  refine wpIn_exit (fin (.inl rfl) I fun W F O h=> .inl ?_)
  rw[show min (xM p c l+1) l.length=i from by omega];exact h
 have hlt:=of_decide_eq_true hlt
 have I:=I.sub (env':=jE l i) fun s x h=>getA h
 refine wpIn_skip ?_
 refine wpIn_seq (wpIn_block (wpIn_seq (z1le (V:=vXr p c c0st 0 37) (tX _ _ _) (oX _ _ _) (sJ i) I (by kernel_rfl) (kJ2 p c l i hlt) ?_)))
 clear I hb
 intro a w I
 refine wpIn_seq (z1le (V:=vXr p c (xN p c l i) (l.getD i 0) 37) (tX _ _ _) (oX _ _ _) (sJ i) I (by kernel_rfl) (kJ3 p c l i hp (hw i hi) hE (hI i)) ?_)
 clear I
 intro a w I
 rw[z1ov]
 refine wpIn_seq (wpIn_seq (AV.it_yield (V:=vXr p c c0st 0 37) (k:=4) (s0:=24) (d:=29) (q:=28) (tys:=#[115]) (S1:=jD p c l i) (S2:=jF p c l i) (tX _ _ _) (oX _ _ _) (sJ i) (sJ (i+1)) sX I (by kernel_rfl) (by decide) (show 24<37 by decide) rfl (kJ4 p c l i) (by kernel_rfl) (by kernel_rfl) (by kernel_rfl) (by kernel_rfl) (by kernel_rfl) (by decide) (show 29<37 by decide) (x:=vRs (xR p c l i)) rfl rfl ?_ (by kernel_rfl) (by kernel_rfl) (by kernel_rfl) (hy i (by omega)) ?_))
 . intro b
   cases b
   . exact kJ4c p c l i
   . exact kJ4b p c l i
 clear I
 intro b a w I
 have hb:=I.eval (s:=34) (b:=!b || (xR p c l i).2.2 !=0) rfl
 refine wpIn_cond_split hb (fun ht=>?_) (fun hf=>?_)
 . refine wpIn_ret (fin (.inr rfl) I fun W F O h=>?_)
   cases b with
   |false=>exact .inr h
   |true=>
    have hne:(xR p c l i).2.2≠0:=by simpa using ht
    have :=z1ml hlt hok hne
    refine .inl ?_
    rw[show min (xM p c l+1) l.length=i+1 from by omega];exact h
 . refine wpIn_skip ?_
   cases b with
   |false=>cases hf
   |true=>
   have h0':(xR p c l i).2.2=0:=by simpa using hf
   have I:=I.sub (env':=jCe p c l i) fun s x h=>getA h
   refine z1le (V:=vXr p c c0st 0 37) (tX _ _ _) (oX _ _ _) (sJ (i+1)) I (by kernel_rfl) (kJ5 p c l i) ?_
   clear I
   intro a w I
   refine z1le (V:=vXr p c c0st 0 37) (tX _ _ _) (oX _ _ _) (sJ (i+1)) I (by kernel_rfl) (kJ6 p c l i hl hlt) ?_
   intro a w I
   refine⟨l.length - (i+1),by omega,i+1,hlt,fun j hj=>?_,rfl,I⟩
   by_cases e:j=i
   . subst e;exact h0'
   . exact hok j (by omega)
end
section
variable {p:PProg} {c:Conf} {l:List Int}
theorem Rel.less {C:Cfg} {E:Entry} {F0 F:Nat ->Prop} {S:St} {a:Act} {w:World} {φ:Nat ->AV.Place} {env':List (Nat×AV)} (h:Rel C E F0 S a w F φ) (he:∀ s x,AV.get env' s=some x ->AV.get S.env s=some x):Rel C E F0 ⟨env',S.heap⟩ a w F φ:=
 ⟨fun s x hx=>h.env s x (he s x hx),h.heap,h.inj,h.ro,h.base,h.sub,h.new,h.dfr,h.tsz,h.glob,h.anc⟩
def sRen:Nat ->Nat
 |1=>5
 |2=>3
 |3=>4
 |k=>k
def m8 (p:PProg) (c:Conf) (l:List Int):St:=⟨[(3, .ptr 3 []),(4, .ptr 4 []),(5, .ptr 5 [])],[(3,z1lk p c),(4,z2z (xN p c l 0)),(5,z1m1 l)]⟩
theorem ent2 {α:Type} {s:Nat} {x:α}:∀ {l:List (Nat×α)},AV.get l s=some x ->(s,x)∈l
 | (k,y)::l,h=>by
  simp only[AV.get]at h
  split at h
  . rename_i e;cases h;rw[Nat.eq_of_beq_eq_true e];exact List.mem_cons_self ..
  . exact List.mem_cons_of_mem _ (ent2 h)
theorem z1m3 {E:Entry} {F1 F:Nat ->Prop} {a8:Act} {w:World} {φ:Nat ->AV.Place} (h:Rel (vXr p c c0st 0 8).C E F1 (m8 p c l) a8 w F φ) (a:Act) (hd:a.defers=[]) (hs:a.tmps.size=37) (h1:a.tmps[1]? =some (a8.eval (.tmp 5))) (h2:a.tmps[2]? =some (a8.eval (.tmp 3))) (h3:a.tmps[3]? =some (a8.eval (.tmp 4))):
 Fit (vXr p c c0st 0 37).C (j0 p c l) a w F fun b=>φ (sRen b):=by
 have ev:∀ {s v},a8.tmps[s]? =some v ->a8.eval (.tmp s)=v:=fun {s v} hs=>by
  show a8.tmps.getD s undef=_
  rw[Array.getD_eq_getD_getElem?,hs];rfl
 refine z1mt (C:=(vXr p c c0st 0 8).C) (C':=(vXr p c c0st 0 37).C) rfl h sRen (fun s x hx=>?_) (fun b x hx=>?_) (fun b b' x x' hx hx' e=>?_) hd hs fun s x hx g hg=>?_
 . have :=ent2 hx
   simp only[j0,List.mem_cons,Prod.mk.injEq,List.not_mem_nil,or_false]at this
   rcases this with⟨rfl,rfl⟩ | ⟨rfl,rfl⟩ | ⟨rfl,rfl⟩<;>exact⟨rfl,_,rfl⟩
 . have :=ent2 hx
   simp only[j0,List.mem_cons,Prod.mk.injEq,List.not_mem_nil,or_false]at this
   rcases this with⟨rfl,rfl⟩ | ⟨rfl,rfl⟩ | ⟨rfl,rfl⟩<;>exact⟨rfl,rfl⟩
 . have t1:=ent2 hx
   have t2:=ent2 hx'
   simp only[j0,List.mem_cons,Prod.mk.injEq,List.not_mem_nil,or_false]at t1 t2
   rcases t1 with⟨rfl,rfl⟩ | ⟨rfl,rfl⟩ | ⟨rfl,rfl⟩<;>rcases t2 with⟨rfl,rfl⟩ | ⟨rfl,rfl⟩ | ⟨rfl,rfl⟩<;>first |rfl |exact absurd e (by decide)
 . have :=ent2 hx
   simp only[j0,List.mem_cons,Prod.mk.injEq,List.not_mem_nil,or_false]at this
   rcases this with⟨rfl,rfl⟩ | ⟨rfl,rfl⟩ | ⟨rfl,rfl⟩
   . rw[h1,ev (h.ptrAt (s:=5) rfl hg)]
   . rw[h2,ev (h.ptrAt (s:=3) rfl hg)]
   . rw[h3,ev (h.ptrAt (s:=4) rfl hg)]
theorem z1nw:((ziu (uReg 7)).toArray[3]?).map AV.opK=some (some 28, .call {callee:= .value (.func 56),args:=#[.tmp 25, .tmp 26, .tmp 27],argTypes:=#[73,41,31]},none):=by kernel_rfl
theorem z1nx:∀ k i,xF p c l k i<i+k ->(xR p c l (xF p c l k i)).2.2≠0
 |0,i,h=>by unfold xF at h;omega
 |k+1,i,h=>by
  unfold xF at h ⊢
  split at h
  . rename_i q;rw[if_pos q];exact q
  . rename_i q;rw[if_neg q];exact z1nx k (i+1) (by omega)
theorem z1ny (h:xM p c l<l.length):(xR p c l (xM p c l)).2.2≠0:=z1nx _ _ (by rw[Nat.zero_add];exact h)
theorem z1nz (l:List Int):EnvOK [1,2,4,5,8] (uE l) (uE l):=⟨fun s x h=>by
 have :=ent2 h
 simp only[uE,List.mem_cons,Prod.mk.injEq,List.not_mem_nil,or_false]at this
 rcases this with⟨rfl,_⟩ | ⟨rfl,_⟩ | ⟨rfl,_⟩ | ⟨rfl,_⟩ | ⟨rfl,_⟩<;>simp,fun s x h=> .inr h⟩
theorem z1o0 (p:PProg) (c:Conf) (l:List Int) (hp:PSm p) (hl:(l.length:Int)<=9223372036854775807) (hE:KEnq) (hw:(xSt p c).2=0 ->l.length<=512 ->∀ i,i<=l.length ->XW (xN p c l i)) (hI:∀ i,I64 (l.getD i 0)):KN 34 [vRn p c,rowI l] (.tup [vRu (xRun p c l).1, .int .i64 (xRun p c l).2]):=by
 refine .inl ⟨z2i.of Tryz.func34 (by kernel_rfl) (by kernel_rfl), ?_⟩
 intro w F vs hro hglob hsz hr
 refine(callsIn_wide (n:=9)).1 (callsIn_of_wp_marks Tryz.func34 z1ot trivial ?_)
 have hnt:Tryz.f34.ntmps=47:=by kernel_rfl
 have start:Rel (vXr p c c0st 0 47).C (.of w) F ⟨z87 0 [vRn p c,rowI l],[]⟩ {tmps:=vs++Array.replicate (Tryz.f34.ntmps - vs.size) undef,defers:=[]} w F (fun _=>⟨none,0, .leaf,0⟩):=
  Rel.start (C:=(vXr p c c0st 0 47).C) hnt (by show 2<=47;decide) hro hglob hsz hr
 show Code.wpIn (FR none) 9 _ _ _ _ _
 refine z1mr (V:=vXr p c c0st 0 47) (tX _ _ _) (oX _ _ _) (fun _=>rfl) (k:=4) start (by kernel_rfl) (kU0 p c l hp hl) ?_
 rintro⟨h0,h512⟩ a w1 F1 φ1 hR
 have hw:=hw h0 h512
 rw[z1ou,z1ow]
 refine wpIn_seq (wpIn_seq (wpIn_region ?_))
 have sz7:(ziu (uReg 7)).toArray.size=3+1:=by kernel_rfl
 have len3:((ziu (uReg 7)).take 3).length=3:=by kernel_rfl
 rw[sz7,List.range_eq_range']
 have pre:=kU7 p c l
 unfold gU7 opVc at pre
 split at pre
 case h_2=>exact pre.elim
 rename_i st' ps hops
 obtain⟨hps,hle⟩:=z39 pre
 rw[show List.range' 0 (3+1)=List.range' 0 (((ziu (uReg 7)).take 3).length+1)from by rw[len3]]
 refine zok (C:=(vXr p c c0st 0 47).C) (orc:=(vXr p c c0st 0 47).orc 7) (ro:=none) (n:=9) (m:=1) (ops:=(ziu (uReg 7)).toArray) (tX _ _ _) (oX _ _ _) ((ziu (uReg 7)).take 3) 0 (u0 p c l) st' ps a w1 F1 φ1 (fun j hj=>by rw[len3]at hj;simp[List.getElem?_take,hj]) hops hps hR (by kernel_rfl) ?_
 rw[len3,show List.range' (0+3) 1=[3]from rfl]
 intro a4 w4 F4 φ4 hR4 _
 obtain⟨φ5,hR5⟩:=hR4.weaken hle
 obtain⟨v25,t25,r25⟩:=hR5.statEnv (s:=25) (x:=vRn p c) rfl rfl
 obtain⟨v26,t26,r26⟩:=hR5.statEnv (s:=26) (x:=vSt (xN p c l 0)) rfl rfl
 obtain⟨v27,t27,r27⟩:=hR5.statEnv (s:=27) (x:=rowI l) rfl rfl
 obtain⟨o3,h3,d3,e3,g3⟩:=AV.opAt z1nw
 have ev:∀ {a:Act} {s v},a.tmps[s]? =some v ->a.eval (.tmp s)=v:=fun {a s v} hs=>by
  show a.tmps.getD s undef=_
  rw[Array.getD_eq_getD_getElem?,hs];rfl
 have okS:z2i Tryz.prog 56:=z2i.of Tryz.func56 (by kernel_rfl) (by kernel_rfl)
 have okJ:z2i Tryz.prog 100:=z2i.of Tryz.func100 (by kernel_rfl) (by kernel_rfl)
 have mk:=z1nt (V:=vXr p c c0st 0 8) (n:=8) (f:=56) (g:=100) (d:=7) (r:=6) (ts:=[5,3,4]) (args:=[vRn p c,vSt (xN p c l 0),rowI l]) (S:=m8 p c l) (w:=w4) (F:=F4) (vs:=#[v25,v26,v27]) (tX _ _ _) (oX _ _ _) Tryz.func56 z1os (by kernel_rfl) (by show 3<=8;decide) (kM0 p c l) (by kernel_rfl) (by kernel_rfl) (by kernel_rfl) (by kernel_rfl) (by kernel_rfl) (by show 7<8;decide) (by show 6<8;decide) okJ hR5.ro hR5.glob rfl fun j hj=>by
  match j,hj with
  |0,_=>exact r25
  |1,_=>exact r26
  |2,_=>exact r27
 refine z1m0 (f:=56) (args:=#[v25,v26,v27]) h3 g3 ?_ (mk.mono ?_)
 . show(o3.semAt (FR none).round a4.eval).run Tryz.prog w4=_
   rw[Oper.semAt_eq _ _ _ (fun c=>by rw[e3];simp)]
   simp only[execOp,e3,resolve,Sem.run_bind]
   have em:(#[Operand.tmp 25,Operand.tmp 26,Operand.tmp 27].map a4.eval)=#[v25,v26,v27]:=by
    simp only[List.map_toArray,List.map_cons,List.map_nil,ev t25,ev t26,ev t27]
   have ef:a4.eval (.func 56)= .func (.func 56) #[] #[]:=rfl
   rw[ef,em]
   simp only[Deferred.ofValue,Sem.run_pure,Result.andThen_ok,invoke,Array.empty_append,Array.append_empty]
   exact okS _ _
 rintro e w8 ⟨a8,F8,φ8,hR8,rfl⟩
 refine⟨_,rfl, ?_⟩
 rw[d3]
 have fr8:Fr w4 w8 (fun _=>False) (AV.Own (m8 p c l) φ8) F4 F8:=Rel.fr (O:=fun _=>False) hR8
 obtain⟨hu8,hd8⟩:=Rel.other hR5 hR5.dfr (O:=fun _=>False) (O':=AV.Own (m8 p c l) φ8) (G:=F4) (G':=F8) fr8 (fun _ h=>h.elim) fun _ h=>h
 have eF:(fun k=>F4 k∨F8 k)=F8:=funext fun k=>propext ⟨fun h=>h.elim (fr8.sub k) fun h=>h, .inr⟩
 rw[eF]at hu8
 obtain⟨sn4,own4⟩:=Rel.sn (A:=fun _=>none) (ds:=[]) hR5
 have sn8:=sn4.step fr8 fun _ h=>h.elim
 generalize hv:(Value.func (.func 100) #[] ([5,3,4].map fun t=>a8.eval (.tmp t)).toArray)=v
 have hf:Fit (vXr p c c0st 0 47).C ⟨uE l,uH p c l 0⟩ (a4.put (some 28) v) w8 F8 φ5:=Rel.less (hu8.putU 28 v) (env':=uE l) fun s x hs=>by
  show AV.get (del (u7 p c l).env 28) s=some x
  rw[z66 _ _ _ (fun e=>by rw[e]at hs;cases hs)]
  exact getA hs
 have t28:(a4.put (some 28) v).tmps[28]? =some v:=by simp[Act.put,hR5.tsz,vXr,cfgM,cfgS,cfgT]
 subst hv
 have hit:=z1m8 (w:=w8) (F:=F8) hp h512 hE hw hI (z1m3 hR8)
 have hOi:∀ g,AV.Own (j0 p c l) (fun b=>φ8 (sRen b)) g ->¬ AV.Own ⟨uE l,uH p c l 0⟩ φ5 g/\w.heap.size<=g/\g<w8.heap.size:=by
  rintro g ⟨b,x,hb,hg⟩
  have o8:AV.Own (m8 p c l) φ8 g:=by
   have :=ent2 hb
   simp only[j0,List.mem_cons,Prod.mk.injEq,List.not_mem_nil,or_false]at this
   rcases this with⟨rfl,rfl⟩ | ⟨rfl,rfl⟩ | ⟨rfl,rfl⟩<;>exact⟨_,_,rfl,hg⟩
  refine⟨(hd8 g o8).1, ?_,(hR8.ownlt o8).1⟩
  rcases fr8.own g o8 with q |q
  . exact Nat.le_trans sn4.size q
  . exact q.elim
 refine(wpIn_block (z1lt (V:=vXr p c c0st 0 47) (n:=7) (ms:=[1,2,4,5,8]) (Hs:=fun i H=>H=uH p c l i/\∀ j,j<i ->(xR p c l j).2.2=0) (Out:=fun H k=>k= .ret/\∃ i,i<l.length/\(∀ j,j<i ->(xR p c l j).2.2=0)/\(xR p c l i).2.2≠0/\H=uX (xR p c l i).2.2)
  (tX _ _ _) (oX _ _ _) hf sn8 own4 t28 okJ hit hOi (show 29<47 by decide) (by kernel_rfl) (by kernel_rfl) (by decide) ⟨rfl,fun j hj=>absurd hj (Nat.not_lt_zero j)⟩ ?_ ?_ ?_):Code.wpIn (FR none) 9 Tryz.prog (.block 0 (.rangeFunc (.tmp 28) #[29] uAsg uRnd)) _ _ _)
 . rintro i hi H ⟨rfl,hok⟩
   refine⟨u1 p c l i,some ((xR p c l i).2.2=0,⟨uE l,uH p c l (i+1)⟩),none,some (¬(xR p c l i).2.2=0,⟨uE l,uX (xR p c l i).2.2⟩),kU8 p c l i,kU9 p c l i (by omega),fun P S e hP=>?_,fun id P S e=>(by cases e),fun P S e hP=>?_⟩
   . cases e
     refine⟨z1nz l,rfl,fun j hj=>?_⟩
     by_cases e:j=i
     . subst e;exact hP
     . exact hok j (by omega)
   . cases e
     exact⟨z1nz l,rfl,i,by omega,hok,hP,rfl⟩
 . rintro D W F9 φ9 H ⟨rfl,hok⟩ hb
   have hM:l.length<=xM p c l:=Nat.le_of_not_lt fun q=>z1ny q (hok _ (by omega))
   have em:min (xM p c l+1) l.length=l.length:=by omega
   rw[em]at hb
   exact z1ns (V:=vXr p c c0st 0 47) (tX _ _ _) (oX _ _ _) hf.dfr hb (by kernel_rfl) (kUe p c l h0 h512 hM)
 . rintro D W F9 φ9 H k ⟨rfl,i,hi,hok,hne,rfl⟩ hb
   have hM:=z1ml hi hok hne
   refine wpIn_ret ?_
   exact z1nr (V:=vXr p c c0st 0 47) (tX _ _ _) hf.dfr hb (kUx p c l _ h0 h512 (by omega) (by rw[hM]))
end
end
end Go.Proofs.S25
