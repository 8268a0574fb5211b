import Derived.Test.YtcfagpelpjdmaaaGreatDoorXl
import Derived.RangeFuncNested
import Derived.RangeFuncLeaves
import Derived.RangeFuncCalls
import Derived.LoopNIn
import Derived.Test.YtcfagpelpjdmaaaGreatDoorXj
import Derived.TacticsInMore
namespace Go.Proofs.S25
open Go Go.AV
open Go.IntKind renaming i64 -> j6
open Go.AV.Shape (leaf)
noncomputable section
structure PSm (p:PProg):Prop where
 vars:p.vars.length<=1000000
 muts:p.muts.length<=1000000
 conds:p.conds.length<=1000000
 funs:p.funs.length<=1000000
 thr:p.thr.length<=1000000
 code:∀ i,(p.funs.getD i c0f).code.length<=1000000
 vn:∀ i,((z5m p).getD i []).length<=9223372036854775807
 mn:∀ i,(p.muts.getD i []).length<=9223372036854775807
 cn:∀ i,(p.conds.getD i []).length<=9223372036854775807
 fn:∀ i,((z6q p).getD i []).length<=9223372036854775807
section
variable (n:Int)
def q73:=decide (-2147483648<=n)
def qg7:=q73 n=true
def q3x:=qg7 n->qg7 n
end
theorem kVal (n:Int):KN 163 [.int .i64 n] (.bool (valB n)):=by
 refine Kn (vP25 9 fun _=>none) Tryz.func163 (q3x n/\q3x n/\(q73 n&&decide (n<=2147483647))=valB n) ?_
 try delta q73 qg7 q3x
 simp only[SB,SX,inIx,reduceCtorEq,Int.reduceToNat]
 rfl
section
variable (p:PProg) (op:Int)
def q74:=↑p.vars.length<=(9223372036854775807:Int)/\↑p.vars.length=z4n p op
def qxo:=(op==8)=true
def qlb:=↑p.muts.length<=(9223372036854775807:Int)/\↑p.muts.length=z4n p op
def qxp:=(op==15)=true
def qlc:=↑p.conds.length<=(9223372036854775807:Int)/\↑p.conds.length=z4n p op
def qxq:=(op==18)=true
def qld:=((op==21)=true->↑p.funs.length<=(9223372036854775807:Int)/\↑p.funs.length=z4n p op)/\((op==21)=false->-1=z4n p op)
def qxr:=(op==18)=false
def qxs:=(op==19)=true
def qxt:=(op==19)=false
def qle:=(qxq op->(qxq op->qlc p op)/\(qxr op->qld p op))/\(qxr op->(qxs op->(qxs op->qlc p op)/\(qxt op->qld p op))/\(qxt op->((op==20)=true->qlc p op)/\((op==20)=false->qld p op)))
def qxu:=(op==15)=false
def qxv:=(op==16)=true
def qxw:=(op==16)=false
def q75:=(qxp op->(qxp op->qlb p op)/\(qxu op->qle p op))/\(qxu op->(qxv op->(qxv op->qlb p op)/\(qxw op->qle p op))/\(qxw op->((op==17)=true->qlb p op)/\((op==17)=false->qle p op)))
def qxx:=(op==8)=false
def qxy:=(op==9)=true
def qxz:=(op==9)=false
def qy0:=(op==10)=true
def qy1:=(op==10)=false
def qy2:=(op==11)=true
def qy3:=(op==11)=false
def qy4:=(op==12)=true
def qy5:=(op==12)=false
end
theorem z1ds (p:PProg) (op:Int) (hp:PSm p):KN 235 [vP p, .int .i64 op] (.int .i64 (z4n p op)):=by
 refine Kn (vP25 35 fun _=>none) Tryz.func235 ((qxo op->(qxo op->q74 p op)/\(qxx op->q75 p op))/\(qxx op->(qxy op->(qxy op->q74 p op)/\(qxz op->q75 p op))/\(qxz op->(qy0 op->(qy0 op->q74 p op)/\(qy1 op->q75 p op))/\(qy1 op->(qy2 op->(qy2 op->q74 p op)/\(qy3 op->q75 p op))/\(qy3 op->(qy4 op->(qy4 op->q74 p op)/\(qy5 op->q75 p op))/\(qy5 op->((op==14)=true->q74 p op)/\((op==14)=false->q75 p op))))))) ?_
 try delta q74 qxo qlb qxp qlc qxq qld qxr qxs qxt qle qxu qxv qxw q75 qxx qxy qxz qy0 qy1 qy2 qy3 qy4 qy5
 simp only[SB,SX,inIx,reduceCtorEq,Int.reduceToNat]
 obtain⟨h1,h2,h3,h4,_⟩:=hp
 unfold z4n
 repeat' (first |exact trivial |intro _ |apply And.intro)
 all_goals first
  |omega
  | (repeat (first |rw[if_pos (by omega)] |rw[if_neg (by omega)]))
theorem za2 {p:PProg} {i:Inst} {n:Int} (h:z1a i=0):z3e p i n=if z5d p i then 11 else if(i.op==4 || i.op==5)&&(decide (i.n<0) || decide (n<i.n))then 12 else 0:=by
 unfold z3e;rw[if_neg (by simp[h])]
theorem z5z {p:PProg} {i:Inst}:z5d p i=true↔(0<=z4n p i.op/\(i.obj<0∨z4n p i.op<=i.obj))∨(i.op=18/\(i.n<0∨(p.muts.length:Int)<=i.n)):=by
 unfold z5d
 simp only[Bool.or_eq_true,Bool.and_eq_true,decide_eq_true_eq,beq_iff_eq]
section
variable (p:PProg) (i:Inst)
def qlf:=decide (0<=z4n (dP (encP p)) i.op)
def qlg:=qlf p i=true
def q9b:=qlg p i->qlg p i
def qy6:=decide (i.obj<0)
def qy7:=!qy6 i
def qlh:=(qlf p i&&qy7 i)=true
def qli:=qlh p i->qlh p i
def qy8:=qlf p i&&(qy6 i||decide (z4n (dP (encP p)) i.op<=i.obj))
def qlj:=(i.op==18)=true
def q9c:=qlj i->qlj i
def q76:=decide (i.n<0)
def qlk:=!q76 i
def qg8:=(i.op==18&&qlk i)=true
def q9d:=qg8 i->qg8 i
def qy9:=qlk i=true
def qya:=i.op==18&&(q76 i||decide (↑p.muts.length<=i.n))
def qyb:=(!i.op==4)=true
def qll:=qyb i->qyb i
def qlm:=i.op==4||i.op==5
def qln:=qlm i=true
def q9e:=qln i->qln i
def qlo:=(qlm i&&qlk i)=true
def qlp:=qlo i->qlo i
variable (n:Int)
def qyc:=qlm i&&(q76 i||decide (n<i.n))
end
theorem z153 (p:PProg) (i:Inst) (n:Int) (hp:PSm p):KN 167 [vP p,vI i, .int .i64 n] (.int .i64 (z3e p i n)):=by
 refine Kn (vP25 66 fun _=>none) Tryz.func167 (KN 234 [AV.mc zy (encI i)] (AV.int j6 (z1a (dIn (encI i))))/\(q51 i=true->z1a (dIn (encI i))=z3e p i n)/\(q51 i=false->KN 235 [AV.mc z7 (encP p),AV.int j6 i.op] (AV.int j6 (z4n (dP (encP p)) i.op))/\q9b p i/\q9b p i/\q9b p i/\qli p i/\qli p i/\qli p i/\q9b p i/\(qlg p i->qy7 i=true->qlh p i)/\q9b p i/\(qy8 p i=true->11=z3e p i n)/\(qy8 p i=false->q9c i/\q9c i/\q9c i/\q9d i/\q9d i/\q9d i/\(qg8 i->↑p.muts.length<=(9223372036854775807:Int))/\q9d i/\q9d i/\q9c i/\(qlj i->qy9 i->qg8 i)/\q9c i/\(qya p i=true->11=z3e p i n)/\(qya p i=false->qll i/\qll i/\qll i/\q9e i/\q9e i/\q9e i/\qlp i/\qlp i/\qlp i/\q9e i/\(qln i->qy9 i->qlo i)/\q9e i/\(qyc i n=true->12=z3e p i n)/\(qyc i n=false->0=z3e p i n))))) ?_
 try delta q51 qlf qlg q9b qy6 qy7 qlh qli qy8 qlj q9c q76 qlk qg8 q9d qy9 qya qyb qll qlm qln q9e qlo qlp qyc
 simp only[SB,SX,inIx,reduceCtorEq,Int.reduceToNat]
 have h2:=hp.muts
 refine⟨zvg i,fun h=>?_,fun h=>⟨z1ds p i.op hp,fun hb=>?_,fun hg=>⟨fun _=>by omega,fun hb=>?_,fun hn=>?_⟩⟩⟩
 . unfold z3e;rw[if_pos (by simpa using h)]
 . rw[za2 h,if_pos (z5z.2 (.inl hb))]
 . rw[za2 h,if_pos (z5z.2 (.inr hb))]
 have e:¬ z5d p i=true:=fun hx=>by
  rcases z5z.1 hx with hx |hx
  . omega
  . omega
 rw[za2 h,if_neg e]
 refine⟨fun ht=>?_,fun ht=>?_⟩
 . rw[if_pos (by simpa using ht)]
 . rw[if_neg (by simp only[Bool.and_eq_true,Bool.or_eq_true,beq_iff_eq,decide_eq_true_eq];omega)]
theorem ze7 (p:PProg) (i:Nat) (hi:i<p.thr.length):z8m p (p.thr.length - i)=if(p.thr.getD i c0s).fn<0∨(p.funs.length:Int)<=(p.thr.getD i c0s).fn then 11 else if valB (p.thr.getD i c0s).arg=false then 2 else z8m p (p.thr.length - (i+1)):=by
 obtain⟨k,hk⟩:∃ k,p.thr.length - i=k+1:=⟨p.thr.length - i - 1,by omega⟩
 rw[hk,z8m,show p.thr.length - (k+1)=i from by omega,show k=p.thr.length - (i+1)from by omega]
section
variable (p:PProg)
def q55:=↑p.thr.length<=(9223372036854775807:Int)
def qlq:=decide (↑p.thr.length<(1:Int))
def q9f:=(!qlq p)=true
def q35:=q9f p->q9f p
def q2t:=RR (-1)/\RR (-1)
def q9g:=qlq p||decide ((8:Int)<↑p.thr.length)
variable (x1:Nat)
def q56:=x1<=p.thr.length/\z8m p p.thr.length=z8m p (p.thr.length - x1)
def qyd:=LT (encP p)/\(RR (0:Int)/\RR (0:Int))/\q2t
def qlr:=decide ((p.thr.getD (↑x1:Int).toNat c0s).fn<0)
def q77:=(!qlr p x1)=true
def q10:=q77 p x1->q77 p x1
def q9h:=qlr p x1||decide ((↑p.funs.length:Int)<=(p.thr.getD (↑x1:Int).toNat c0s).fn)
def q9i:=!valB (p.thr.getD (↑x1:Int).toNat c0s).arg
def q2a:=decide ((↑x1:Int)<(↑p.thr.length:Int))
end
theorem kThr (p:PProg) (hp:PSm p):KN 99 [vP p] (.tup [.int .i64 (z2e p),vPl (-1) (-1)]):=by
 refine Kn (vP25 45 (zvr p)) Tryz.func99 (q55 p/\q35 p/\q35 p/\(q9f p->q55 p)/\q35 p/\q35 p/\(q9g p=true->4=z2e p/\q2t)/\(q9g p=false->q55 p/\(∃ i,q56 p i/\(LT (z8l p.thr)/\RR (↑p.thr.length:Int)/\0=(↑i:Int))/\qyd p)/\∀ i:Nat,q56 p i->(q2a p i=true->inIx (↑i) p.thr.length/\q10 p i/\q10 p i/\q10 p i/\(q77 p i->↑p.funs.length<=(9223372036854775807:Int))/\q10 p i/\q10 p i/\q10 p i/\(q9h p i=true->11=z2e p/\q2t)/\(q9h p i=false->KN 163 [AV.int j6 (p.thr.getD (↑i:Int).toNat c0s).arg] (AV.bool (valB (p.thr.getD (↑i:Int).toNat c0s).arg))/\(q9i p i=true->2=z2e p/\q2t)/\(q9i p i=false->InR j6 (q6 i)/\(∃ j,q56 p j/\p.thr.length - j<p.thr.length - i/\(LT (z8l p.thr)/\RR (↑p.thr.length:Int)/\q6 i=(↑j:Int))/\qyd p))))/\(q2a p i=false->0=z2e p/\q2t))) ?_
 try delta q55 qlq q9f q35 q2t q9g q56 qyd qlr q77 q10 q9h q9i q6 q2a
 simp only[SB,SX,inIx,reduceCtorEq,Int.reduceToNat]
 have h1:=hp.thr
 have h2:=hp.funs
 refine⟨by omega,fun _=>by omega,fun h=>?_,fun h=>?_⟩
 . unfold z2e;rw[if_pos (by omega)]
 have e:z2e p=z8m p p.thr.length:=by unfold z2e;rw[if_neg (by omega)]
 rw[e]
 refine⟨by omega,⟨0,⟨by omega,by rw[Nat.sub_zero]⟩,rfl⟩,fun i hi=>⟨fun hlt=>⟨hlt,fun _=>by omega,fun hb=>?_,fun hg=>⟨kVal _,fun hv=>?_,fun hv=>⟨za (by omega) (by omega),i+1,⟨by omega, ?_⟩,by omega,by omega⟩⟩⟩,fun hge=>?_⟩⟩
 . rw[hi.2,ze7 p i hlt,if_pos hb]
 . rw[hi.2,ze7 p i hlt,if_neg (by omega),if_pos hv]
 . rw[hi.2,ze7 p i hlt,if_neg (by omega),if_neg (by rw[hv];simp)]
 . rw[hi.2,show p.thr.length - i=0 from by omega];rfl
section
variable (p:PProg)
def q9j:=↑p.vars.length<=(9223372036854775807:Int)
def qls:=decide ((8:Int)<↑p.vars.length)
def q9k:=(!qls p)=true
def q36:=q9k p->q9k p
def qlt:=qls p||decide ((4:Int)<↑p.muts.length)
def q9l:=(!qlt p)=true
def q37:=q9l p->q9l p
def qlu:=qlt p||decide ((4:Int)<↑p.conds.length)
def q9m:=(!qlu p)=true
def q38:=q9m p->q9m p
def q9n:=qlu p||decide ((8:Int)<↑p.funs.length)
variable (x1:Nat)
def q57:=x1<=p.vars.length/\∀ j:Nat,j<x1->valB (p.vars.getD j c0v).init=true
def qye:=(RR (0:Int)/\RR (0:Int))/\q2t
def q9o:=!valB (p.vars.getD (↑x1:Int).toNat c0v).init
end
theorem kObj (p:PProg) (hp:PSm p):KN 97 [vP p] (.tup [.int .i64 (z2j p),vPl (-1) (-1)]):=by
 refine Kn (vP25 45 (zvs p)) Tryz.func97 (q9j p/\q36 p/\q36 p/\(q9k p->↑p.muts.length<=(9223372036854775807:Int))/\q36 p/\q36 p/\q37 p/\q37 p/\(q9l p->↑p.conds.length<=(9223372036854775807:Int))/\q37 p/\q37 p/\q38 p/\q38 p/\(q9m p->↑p.funs.length<=(9223372036854775807:Int))/\q38 p/\q38 p/\(q9n p=true->4=z2j p/\q2t)/\(q9n p=false->q9j p/\(∃ i,q57 p i/\(LT (rowV p.vars)/\RR (↑p.vars.length:Int)/\0=(↑i:Int))/\qye)/\∀ i:Nat,q57 p i->(qz p i=true->inIx (↑i) p.vars.length/\KN 163 [AV.int j6 (p.vars.getD (↑i:Int).toNat c0v).init] (AV.bool (valB (p.vars.getD (↑i:Int).toNat c0v).init))/\(q9o p i=true->2=z2j p/\q2t)/\(q9o p i=false->InR j6 (q6 i)/\(∃ j,q57 p j/\p.vars.length - j<p.vars.length - i/\(LT (rowV p.vars)/\RR (↑p.vars.length:Int)/\q6 i=(↑j:Int))/\qye)))/\(qz p i=false->0=z2j p/\q2t))) ?_
 try delta q9j qls q9k q36 qlt q9l q37 qlu q9m q38 q2t q9n q57 qye q9o q6 qz
 simp only[SB,SX,inIx,reduceCtorEq,Int.reduceToNat]
 have h1:=hp.vars
 have h2:=hp.muts
 have h3:=hp.conds
 have h4:=hp.funs
 refine⟨by omega,fun _=>by omega,fun _=>by omega,fun _=>by omega,fun h=>?_,fun h=>?_⟩
 . unfold z2j;rw[if_pos (by omega)]
 have e:z2j p=if p.vars.all (fun v=>valB v.init)then 0 else 2:=by unfold z2j;rw[if_neg (by omega)]
 rw[e]
 refine⟨by omega,⟨0,⟨by omega,fun j hj=>absurd hj (by omega)⟩,rfl⟩,fun i hi=>⟨fun hlt=>⟨hlt,kVal _,fun hb=>?_,fun hv=>⟨za (by omega) (by omega),i+1,⟨by omega,fun j hj=>?_⟩,by omega,by omega⟩⟩,fun hge=>?_⟩⟩
 . rw[if_neg (fun h=>?_)]
   have :=(z2d _ _ c0v).1 h i hlt
   rw[hb]at this;cases this
 . by_cases e:j=i
   . subst e;exact hv
   . exact hi.2 j (by omega)
 . rw[if_pos ((z2d _ _ c0v).2 fun j hj=>hi.2 j (by omega))]
theorem nm_0 (p:PProg):nm3 p 0=z5m p:=rfl
theorem nm_1 (p:PProg):nm3 p 1=p.muts:=rfl
theorem nm_2 (p:PProg):nm3 p 2=p.conds:=rfl
section
variable (p:PProg)
def q78:=rowS (List.map (fun x=>x.name) (dR dV (rowV p.vars)))
variable (x1:Nat)
def qlv:=x1<=3/\∀ j:Nat,j<x1->(zo (nm3 p j)).fst=0
def q9p:=RR (0:Int)/\RR (0:Int)
def qyf:Int×Int:=zo (dR dStr (rowS (nm3 p (↑x1:Int).toNat)))
def qlw:Int:=(qyf p x1).fst
def qyg:=-1=(z2h p).snd.snd
def qyh:=qlw p x1 !=0
def q9q:=rowS (List.map (fun x=>x.name) (dR dF (rowF p.funs)))
def qg9:Int×Int:=zo (dR dStr (q9q p))
def q79:Int:=(qg9 p).fst
def qyi:Int:=(qg9 p).snd
end
theorem kNm (p:PProg) (hp:PSm p):KN 96 [vP p] (.tup [.int .i64 (z2h p).1,vPl (z2h p).2.1 (z2h p).2.2]):=by
 refine Kn (vP25 41 (z150 p)) Tryz.func96 (KN 160 [AV.mc z7 (encP p)] (q78 p)/\3*leaf.size<=16777216/\↑(3:Nat)<=(9223372036854775807:Int)/\(∃ i,qlv p i/\(RR (3:Nat)/\↑(3:Nat)=(3:Int)/\(0:Int)=↑i)/\LT (encP p)/\q9p/\RR (3:Nat)/\∀ (i:Nat),i<(3:Nat)->((((List.replicate (3:Nat) AV.nils).set (0:Nat) (strip1 (q78 p))).set (1:Nat) (strip1 (rowS p.muts))).set (2:Nat) (strip1 (rowS p.conds))).getD i AV.any=rowS (nm3 p i))/\∀ i:Nat,qlv p i->(q90 i=true->inIx (↑i) 3/\(↑i:Int).toNat<3/\KN 161 [rowS (nm3 p (↑i:Int).toNat)] (AV.tup [AV.int j6 (qlw p i),AV.int j6 (qyf p i).snd])/\(qyh p i=true->qlw p i=(z2h p).fst/\-1=(z2h p).snd.fst/\qyg p)/\(qyh p i=false->InR j6 (q6 i)/\(∃ j,qlv p j/\q8z j<q8z i/\(RR (3:Nat)/\RR (3:Int)/\q6 i=↑j)/\LT (encP p)/\q9p/\RR (3:Nat)/\∀ (i:Nat),i<(3:Nat)->RR (rowS (nm3 p i)))))/\(q90 i=false->KN 162 [AV.mc z7 (encP p)] (q9q p)/\KN 161 [q9q p] (AV.tup [AV.int j6 (q79 p),AV.int j6 (qyi p)])/\q79 p=(z2h p).fst/\qyi p=(z2h p).snd.fst/\qyg p)) ?_
 try delta q78 qlv q9p qyf qlw qyg qyh q6 q8z q90 q9q qg9 q79 qyi
 simp only[SB,SX,inIx,reduceCtorEq,Int.reduceToNat]
 have h1:=hp.vars
 have h2:=hp.muts
 have h3:=hp.conds
 have h4:=hp.funs
 have len:∀ i,i<3 ->(nm3 p i).length<=1000000:=fun i hi=>by
  match i,hi with
  |0,_=>rw[nm_0];show(p.vars.map _).length<=_;rw[List.length_map];exact h1
  |1,_=>exact h2
  |2,_=>exact h3
 have sl:∀ i,i<3 ->∀ j,((nm3 p i).getD j []).length<=9223372036854775807:=fun i hi=>by
  match i,hi with
  |0,_=>exact hp.vn
  |1,_=>exact hp.mn
  |2,_=>exact hp.cn
 refine⟨kVar p h1,by decide,by omega,⟨0,⟨by omega,fun j hj=>absurd hj (by omega)⟩,⟨by omega,rfl⟩,fun i hi=>?_⟩,fun i hi=>⟨fun hlt=>⟨by omega,by omega,zvp _ (len i (by omega)) (sl i (by omega)),fun he=>?_,fun h0=>⟨za (by omega) (by omega),i+1,⟨by omega,fun j hj=>?_⟩,by omega,by omega⟩⟩,fun hge=>?_⟩⟩
 . match i,hi with
   |0,_ |1,_ |2,_=>rfl
 . have hlt:i<3:=by omega
   match i,hlt with
   |0,_=>
    rw[nm_0]at he ⊢
    unfold z2h;rw[if_pos (by simpa using he)];exact⟨rfl,rfl,rfl⟩
   |1,_=>
    have z0:=hi.2 0 (by omega)
    rw[nm_0]at z0
    rw[nm_1]at he ⊢
    unfold z2h;rw[if_neg (by simp[z0]),if_pos (by simpa using he)];exact⟨rfl,rfl,rfl⟩
   |2,_=>
    have z0:=hi.2 0 (by omega)
    have z1:=hi.2 1 (by omega)
    rw[nm_0]at z0
    rw[nm_1]at z1
    rw[nm_2]at he ⊢
    unfold z2h;rw[if_neg (by simp[z0]),if_neg (by simp[z1]),if_pos (by simpa using he)];exact⟨rfl,rfl,rfl⟩
 . by_cases e:j=i
   . subst e;exact h0
   . exact hi.2 j (by omega)
 . have z0:=hi.2 0 (by omega)
   have z1:=hi.2 1 (by omega)
   have z2:=hi.2 2 (by omega)
   rw[nm_0]at z0
   rw[nm_1]at z1
   rw[nm_2]at z2
   have e:z2h p=((zo (z6q p)).1,(zo (z6q p)).2,-1):=by unfold z2h;rw[if_neg (by simp[z0]),if_neg (by simp[z1]),if_neg (by simp[z2])]
   rw[e]
   exact⟨kFun p h4,zvp _ (by show(p.funs.map _).length<=_;rw[List.length_map];exact h4) hp.fn,rfl,rfl,rfl⟩
theorem zoh (p:PProg) (f:PFun) (i:Nat) (hi:i<f.code.length):z78 p f (f.code.length - i)=if z3e p (f.code.getD i c0i) f.code.length !=0 then(z3e p (f.code.getD i c0i) f.code.length,(i:Int))else z78 p f (f.code.length - (i+1)):=by
 obtain⟨k,hk⟩:∃ k,f.code.length - i=k+1:=⟨f.code.length - i - 1,by omega⟩
 rw[hk,z78,show f.code.length - (k+1)=i from by omega,show k=f.code.length - (i+1)from by omega]
theorem zb8 {p:PProg} {f:PFun} {i:Nat} (hi:i<f.code.length) {e:Int} (h:z3e p (f.code.getD i c0i) f.code.length=e) (he:e≠0):z78 p f (f.code.length - i)=(e,(i:Int)):=by
 rw[zoh p f i hi,h,if_pos (by simpa using he)]
theorem zh2 {p:PProg} {f:PFun} {i:Nat} (hi:i<f.code.length) (h:z3e p (f.code.getD i c0i) f.code.length=0):z78 p f (f.code.length - i)=z78 p f (f.code.length - (i+1)):=by
 rw[zoh p f i hi,h,if_neg (by simp)]
theorem z9d (p:PProg) (i:Nat) (hi:i<p.funs.length):z88 p (p.funs.length - i)=if(z31 p (p.funs.getD i c0f)).1 !=0 then((z31 p (p.funs.getD i c0f)).1,(i:Int),(z31 p (p.funs.getD i c0f)).2)else z88 p (p.funs.length - (i+1)):=by
 obtain⟨k,hk⟩:∃ k,p.funs.length - i=k+1:=⟨p.funs.length - i - 1,by omega⟩
 rw[hk,z88,show p.funs.length - (k+1)=i from by omega,show k=p.funs.length - (i+1)from by omega]
theorem cp5 {p:PProg} (h:(z2h p).1=0) (ho:z2j p≠0):zc p=(z2j p,-1,-1):=by
 unfold zc;rw[if_neg (by simp[h]),if_pos (by simpa using ho)]
theorem cp6 {p:PProg} (h:(z2h p).1=0) (ho:z2j p=0) (hc:(z13 p).1≠0):zc p=z13 p:=by
 unfold zc;rw[if_neg (by simp[h]),if_neg (by simp[ho]),if_pos (by simpa using hc)]
theorem cp7 {p:PProg} (h:(z2h p).1=0) (ho:z2j p=0) (hc:(z13 p).1=0):zc p=(z2e p,-1,-1):=by
 unfold zc;rw[if_neg (by simp[h]),if_neg (by simp[ho]),if_neg (by simp[hc])]
end
end Go.Proofs.S25
namespace Go.AV
open Go.RowKit
section
variable {P:Program}
def z79:List Oper ->Bool
 | []=>true
 |o::l=>(match o.op with | .defer _=>false |_=>true)&&z79 l
theorem zcn {o:Oper} {l:List Oper} (h:z79 l=true) (hm:o∈l):∀ c,o.op≠ .defer c:=by
 induction l with
 |nil=>cases hm
 |cons x l ih=>
  simp only[z79,Bool.and_eq_true]at h
  cases hm with
  |head=>intro c e;rw[e]at h;exact Bool.noConfusion h.1
  |tail _ hm=>exact ih h.2 hm
def FR (ro:Option Nat):Fence:={Fence.wide with round:=ro}
theorem zvu {ro:Option Nat} {n:Nat} {row:String} {args:Array Value} {w:World} {R:Value ->World ->Prop} (h:Rows P row args w R):RowsIn (FR ro) n P row args w R:=
 fun c cs _=>let ⟨v,w',hr,hs⟩:=h c cs;⟨v,w',hr,stepsIn_wide.2 hs⟩
theorem zis {ro:Option Nat} {n:Nat} {f:FuncId} {args:Array Value} {w:World} {R:Ending ->World ->Prop} (h:Calls P f args w R):CallsIn (FR ro) n P f args w R:=
 ⟨trivial,fun cs _=>let ⟨e,w',fr,hr,hs,hx⟩:=h cs;⟨e,w',fr,hr,comesIn_wide.2 hs,hx⟩⟩
theorem z2t {a:Act} {d:Option Tmp} {s:Nat} (h:d≠some s) (v:Value):(a.put d v).tmps[s]? =a.tmps[s]? :=by
 cases d with
 |none=>rfl
 |some d=>
  show(a.tmps.setIfInBounds d v)[s]? =a.tmps[s]?
  rw[Array.getElem?_setIfInBounds]
  rw[if_neg (fun e=>h (by rw[e]))]
theorem zms {o:Oper} {a:Act} {next next':Act ->World ->Prop} {Q Q':Exit ->Act ->World ->Prop} {ro:Option Nat} {n:Nat} (hQ:¬ LetsOut Q) (hQ':∀ ch w,Q (.panic ch) a w ->Q' (.panic ch) a w) (hn:∀ a' w,next a' w ->(∀ s,o.dst≠some s ->a'.tmps[s]? =a.tmps[s]?) ->next' a' w):
 ∀ (res:Result Go.Next),o.upon P a next Q res ->o.uponIn (FR ro) n P a next' Q' res:=by
 intro res h
 match res,h with
 | .ok (.value v) w',h=>exact hn _ _ h fun s hs=>z2t hs v
 | .ok .skip w',h=>exact hn _ _ h fun s hs=>z2t hs _
 | .ok (.defer d) w',h=>exact hn _ _ h fun s hs=>z2t (a:={a with defers:=d::a.defers}) hs _
 | .ok (.enter f args) w',h=>
  refine⟨fun he=>by simp[FR,Fence.wide]at he,zis ?_⟩
  intro cs
  obtain⟨e,w'',fr,hr,hx⟩:=h cs
  refine⟨e,w'',fr, ?_,hx⟩
  match e,hr with
  | .returned v,hr=>exact hn _ _ hr fun s hs=>z2t hs v
  | .panicked chain,hr=>exact hQ' _ _ hr
  | .outgrown,hr=>exact(hQ hr).elim
 | .ok (.row row args) w',h=>exact⟨fun he=>by simp[FR,Fence.wide]at he,zvu (h.mono fun v _ hr=>hn _ _ hr fun s hs=>z2t hs v)⟩
 | .halt (.panic v) w',h=>exact hQ' _ _ h
def z7a (s:Nat):List Oper ->Bool
 | []=>true
 |o::l=>(match o.dst with |some d=>!Nat.beq d s |none=>true)&&z7a s l
theorem z8n {s:Nat} {o:Oper} {l:List Oper} (h:z7a s l=true) (hm:o∈l):o.dst≠some s:=by
 induction l with
 |nil=>cases hm
 |cons x l ih=>
  simp only[z7a,Bool.and_eq_true]at h
  cases hm with
  |head=>intro e;rw[e]at h;simp at h
  |tail _ hm=>exact ih h.2 hm
def z1lf (m:List Nat) (l:List Oper):Bool:=m.all fun s=>z7a s l
def z1lu (m:List Nat) (u:Nat ->Option Value) (Q:Exit ->Act ->World ->Prop):Exit ->Act ->World ->Prop:=fun e a w=>Q e a w/\∀ s∈m,a.tmps[s]? =u s
def Slot (s:Nat) (u:Option Value) (Q:Exit ->Act ->World ->Prop):Exit ->Act ->World ->Prop:=fun e a w=>Q e a w/\a.tmps[s]? =u
theorem zt2 {o:Oper} {a:Act} {w:World} {next next':Act ->World ->Prop} {Q':Exit ->Act ->World ->Prop} {ro:Option Nat} {n:Nat} (hd:∀ c,o.op≠ .defer c)
 (hn:∀ a' w,next a' w ->(∀ s,o.dst≠some s ->a'.tmps[s]? =a.tmps[s]?) ->next' a' w) (h:o.wp P a w next (fun _ _ _=>False)):o.wpIn (FR ro) n P a w next' Q':=by
 refine⟨fun f _=>trivial, ?_⟩
 rw[Oper.semAt_eq _ _ _ hd]
 exact zms (by rintro⟨_,_,h⟩;exact h) (fun _ _ h=>h.elim) hn _ h
theorem zmt {o:Oper} {a:Act} {w:World} {next next':Act ->World ->Prop} {Q Q':Exit ->Act ->World ->Prop} {ro:Option Nat} {n:Nat} (hd:∀ c,o.op≠ .defer c) (hQ:¬ LetsOut Q) (hQ':∀ ch w,Q (.panic ch) a w ->Q' (.panic ch) a w)
 (hn:∀ a' w,next a' w ->(∀ s,o.dst≠some s ->a'.tmps[s]? =a.tmps[s]?) ->next' a' w) (h:o.wp P a w next Q):o.wpIn (FR ro) n P a w next' Q':=by
 refine⟨fun f _=>trivial, ?_⟩
 rw[Oper.semAt_eq _ _ _ hd]
 exact zms hQ hQ' hn _ h
theorem z58 {ops:Array Oper} {Q:Exit ->Act ->World ->Prop} {ro:Option Nat} {n:Nat} {m:List Nat} {u:Nat ->Option Value} (hQ:¬ LetsOut Q) (hd:z79 ops.toList=true) (hs:z1lf m ops.toList=true):
 ∀ (l:List Nat) (a:Act) (w:World),(∀ s∈m,a.tmps[s]? =u s) ->wpOps P ops Q l a w ->wpOpsIn (FR ro) n P ops (z1lu m u Q) l a w
 | [],a,w,hu,h=>⟨h,hu⟩
 |i::rest,a,w,hu,h=>by
  simp only[wpOps]at h
  simp only[wpOpsIn]
  cases ho:ops[i]? with
  |none=>rw[ho]at h;exact z58 hQ hd hs rest a w hu h
  |some o=>
   rw[ho]at h
   simp only[]at h ⊢
   have hm:o∈ops.toList:=Array.mem_toList_iff.2 (Array.mem_of_getElem? ho)
   have nw:∀ s∈m,o.dst≠some s:=fun s hsm=>z8n (List.all_eq_true.1 hs s hsm) hm
   split
   . rename_i hw
     rw[if_pos hw]at h
     rcases h with h | ⟨_,h⟩
     . exact zmt (zcn hd hm) hQ (fun ch w hq=>⟨hq,hu⟩) (fun a' w' hh hu'=>z58 hQ hd hs rest a' w' (fun s hsm=>(hu' s (nw s hsm)).trans (hu s hsm)) hh) h
     . exact(hQ h).elim
   . rename_i hw
     rw[if_neg hw]at h
     exact⟨fun _ _=>trivial,z58 hQ hd hs rest _ w (fun s hsm=>(z2t (nw s hsm) _).trans (hu s hsm)) h⟩
theorem z7b {F:Fence} {n:Nat} {c:Code} {Q:Exit ->Act ->World ->Prop} (I:Nat ->Act ->World ->Prop) (k:Nat) {a:Act} {w:World} (h0:I k a w)
 (round:∀ k a w,I k a w ->c.wpIn F n P (Exit.then (fun a' w'=>∃ m,m<k/\I m a' w') Q) a w):(Code.loop c).wpIn F n P Q a w:=by
 have key:∀ m k,k<m ->∀ a w,I k a w ->Code.roundsIn F n P c Q m a w:=by
  intro m
  induction m with
  |zero=>intro k hk;omega
  |succ m ih=>
   intro k hk a w hi
   refine wpIn_mono (round k a w hi) ?_
   intro e a' w' hq
   cases e with
   |normal=>obtain⟨j,hj,hi'⟩:=hq;exact ih j (by omega) a' w' hi'
   |_=>exact hq
 exact wpIn_loop_rounds (k+1) (key (k+1) k (by omega) a w h0)
end
theorem zok {C:Cfg} {CC:FuncId ->List AV ->AV ->Prop} {W0:Entry} {F0:Nat ->Prop} {Q:Exit ->Act ->World ->Prop} {ops:Array Oper} {orc:Nat ->FuncId ->List AV ->Option AV} {ro:Option Nat} {n m:Nat} (hT:z1d C) (hCC:CCOK C CC):
 ∀ (rest:List Oper) (i:Nat) (st st':St) (ps:List Prop) (a:Act) (w:World) (F:Nat ->Prop) (φ:Nat ->Place),(∀ j,j<rest.length ->rest[j]? =ops[i+j]?) ->
 z6o C CC orc ops.toList rest i st=some (st',ps) ->(∀ p∈ps,p) ->Rel C W0 F0 st a w F φ ->z79 rest=true ->
 (∀ a' w' F' φ',Rel C W0 F0 st' a' w' F' φ' ->(∀ s,z7a s rest=true ->a'.tmps[s]? =a.tmps[s]?) ->wpOpsIn (FR ro) n C.P ops Q (List.range' (i+rest.length) m) a' w') ->wpOpsIn (FR ro) n C.P ops Q (List.range' i (rest.length+m)) a w
 | [],i,st,st',ps,a,w,F,φ,_,h,_,hR,_,hK=>by
  simp only[z6o,Option.some.injEq,Prod.mk.injEq]at h
  obtain⟨rfl,_⟩:=h
  have :=hK _ _ _ _ hR fun _ _=>rfl
  simpa using this
 |o::rest,i,st,st',ps,a,w,F,φ,hj,h,hps,hR,hd,hK=>by
  simp only[z6o]at h
  split at h
  case h_2=>cases h
  rename_i st1 ps1 h1
  split at h
  case h_2=>cases h
  rename_i st2 ps2 h2
  cases h
  have ho:ops[i]? =some o:=by simpa using(hj 0 (by simp)).symm
  have hm:o∈o::rest:=by simp
  have hne:=zcn hd hm
  simp only[z79,Bool.and_eq_true]at hd
  have ih:∀ a' w',(∃ F' φ',Rel C W0 F0 st1 a' w' F' φ') ->(∀ s,o.dst≠some s ->a'.tmps[s]? =a.tmps[s]?) ->wpOpsIn (FR ro) n C.P ops Q (List.range' (i+1) (rest.length+m)) a' w':=by
   rintro a' w' ⟨F',φ',hR'⟩ hu'
   refine zok hT hCC rest (i+1) st1 st' ps2 a' w' F' φ' (fun j hlt=>by rw[show i+1+j=i+(j+1)from by omega,<- hj (j+1) (by simp;omega)];simp) h2 (fun p hp=>hps p (by simp[hp])) hR' hd.2 ?_
   intro a2 w2 F2 φ2 hR2 hu2
   have :=hK a2 w2 F2 φ2 hR2 fun s hs=>by
    have hs0:=z8n hs hm
    simp only[z7a,Bool.and_eq_true]at hs
    exact(hu2 s hs.2).trans (hu' s hs0)
   rwa [List.length_cons,show i+(rest.length+1)=i+1+rest.length from by omega]at this
  rw[List.length_cons,show rest.length+1+m=(rest.length+m)+1 from by omega,List.range'_succ]
  simp only[wpOpsIn,ho]
  have hstep:=z4b (Q:=fun _ _ _=>False) (ops:=ops) (K:=fun a' w'=>∃ F' φ',Rel C W0 F0 st1 a' w' F' φ') hR hT hCC h1 (fun p hp=>hps p (by simp[hp])) fun a' w' F' φ' hR'=>⟨F',φ',hR'⟩
  split
  . rename_i hw
    rw[if_pos hw]at hstep
    exact zt2 hne ih hstep
  . rename_i hw
    rw[if_neg hw]at hstep
    exact⟨fun _ _=>trivial,ih _ _ hstep fun s hs=>z2t hs _⟩
def z1l8 (m:List Nat):Code ->Bool
 | .skip | .exit _ | .ret=>true
 | .region _ ops _=>z79 ops.toList&&z1lf m ops.toList
 | .seq x y | .cond _ x y=>z1l8 m x&&z1l8 m y
 | .block _ c=>z1l8 m c
 |_=>false
abbrev z4o (s:Nat):Code ->Bool:=z1l8 [s]
section
variable {V:VCtx} {W0:Entry} {F0:Nat ->Prop}
theorem zit {C:Cfg} {CC:FuncId ->List AV ->AV ->Prop} {orc:Nat ->FuncId ->List AV ->Option AV} {ops:Array Oper} {st st':St} {Q:Exit ->Act ->World ->Prop} {ro:Option Nat} {n:Nat} {m:List Nat} {u:Nat ->Option Value} {ps:List Prop} {a:Act} {w:World} {F:Nat ->Prop} {φ:Nat ->Place} {id:Nat}
 (hO:¬ LetsOut Q) (hd:z79 ops.toList=true) (hs:z1lf m ops.toList=true) (hu:∀ s∈m,a.tmps[s]? =u s) (hT:z1d C) (hCC:CCOK C CC) (h:z6o C CC orc ops.toList ops.toList 0 st=some (st',ps)) (hps:∀ p∈ps,p) (hok:zc4 C CC orc ops.toList st=true)
 (hR:Rel C W0 F0 st a w F φ) (hQ:∀ a' w' F' φ',Rel C W0 F0 st' a' w' F' φ' ->Q .normal a' w'):(Code.region id ops true).wpIn (FR ro) n C.P (z1lu m u Q) a w:=by
 obtain⟨σ,T⟩:=z13r h hps hok
 have key:∀ md,wpAny C.P md ops Q ops.size (Array.replicate ops.size false) a {w with drawn:=w.drawn+1}:=by
  intro md
  have hno:∀ k,¬ ((Array.replicate ops.size false).getD k false=true):=by
   intro k
   simp only[Array.getD_eq_getD_getElem?,Array.getElem?_replicate]
   split<;>simp
  refine zk9 T hT hCC hQ ops.size (List.range ops.size) _ a _ st F φ (by simp) List.nodup_range (by simp) (fun k hk=>?_) ⟨fun s=>⟨0,Nat.zero_le _,fun k o _ _=>⟨fun h=>absurd h (hno k),fun h=>by omega⟩,by rw[T.s0]⟩,fun b=>⟨0,Nat.zero_le _,fun k o _ _=>⟨fun h=>absurd h (hno k),fun h=>by omega⟩,by rw[T.s0]⟩⟩
   (fun k o hk=>absurd hk (hno k)) ?_
  . simp[Array.getD_eq_getD_getElem?,hk]
  . exact hR.grown ⟨rfl,rfl,rfl,Nat.le_refl _,fun _ _=>rfl⟩ (fun _ hk=>hk) (fun _ hk=> .inl hk) hR.ro
 refine wpIn_region_draw fun t=>z58 hO hd hs _ _ _ hu ?_
 unfold Region.schedule
 split
 . exact wpAny_sound _ _ _ _ _ (key .any)
 . exact wpAny_sound _ _ _ _ _ (key _)
theorem ze8 (hT:z1d V.C) (hCC:CCOK V.C V.CC) {ro:Option Nat} {n:Nat} {m:List Nat} {u:Nat ->Option Value} {id:Nat} {ops:Array Oper} {draw:Bool} {st:St} {Q:Exit ->St ->Prop} {a:Act} {w:World} {F:Nat ->Prop} {φ:Nat ->Place} (hok:z1l8 m (.region id ops draw)=true) (hu:∀ s∈m,a.tmps[s]? =u s) (hO:∀ st,¬ Q .outgrown st) (h:zgu V id ops draw st Q) (hR:Rel V.C W0 F0 st a w F φ):
 (Code.region id ops draw).wpIn (FR ro) n V.C.P (z1lu m u (Fits V.C W0 F0 Q)) a w:=by
 have hO':¬ LetsOut (Fits V.C W0 F0 Q):=by rintro⟨a,w,st,F,φ,_,hq⟩;exact hO _ hq
 simp only[z1l8,Bool.and_eq_true]at hok
 obtain⟨hd,hs⟩:=hok
 cases draw with
 |true=>
  simp only[zgu]at h
  split at h
  case h_2=>exact h.elim
  rename_i st' ps hops
  split at h
  case h_2=>exact h.elim
  rename_i hdr
  obtain⟨h1,h2⟩:=z39 h
  exact zit hO' hd hs hu hT hCC hops h1 hdr hR fun a' w' F' φ' hR'=>⟨st',F',φ',hR',h2⟩
 |false=>
  simp only[zgu]at h
  split at h
  case h_2=>exact h.elim
  rename_i st' ps hops
  obtain⟨h1,h2⟩:=z39 h
  refine wpIn_region (z58 hO' hd hs _ _ _ hu ?_)
  have :=za1 (Q:=Fits V.C W0 F0 Q) (ops:=ops) hT hCC ops.toList 0 st st' ps a w F φ (fun j=>by simp) hops h1 hR fun a' w' F' φ' hR'=>⟨st',F',φ',hR',h2⟩
  rw[Array.length_toList,<- List.range_eq_range']at this
  exact this
theorem z1l9 (hT:z1d V.C) (hCC:CCOK V.C V.CC) {ro:Option Nat} {n:Nat} {m:List Nat} {u:Nat ->Option Value}:∀ (c:Code) (st:St) (Q:Exit ->St ->Prop) (a:Act) (w:World) (F:Nat ->Prop) (φ:Nat ->Place),z1l8 m c=true ->(∀ s∈m,a.tmps[s]? =u s) ->(∀ st,¬ Q .outgrown st) ->vc V c st Q ->Rel V.C W0 F0 st a w F φ ->
 c.wpIn (FR ro) n V.C.P (z1lu m u (Fits V.C W0 F0 Q)) a w:=by
 intro c
 induction c with
 |skip=>intro st Q a w F φ _ hu _ h hR;exact wpIn_skip ⟨⟨st,F,φ,hR,h⟩,hu⟩
 |region id ops draw=>
  intro st Q a w F φ hok hu hO h hR
  simp only[vc]at h
  split at h
  . exact ze8 hT hCC hok hu hO h hR
  . obtain⟨hp,h'⟩:=z39 h
    obtain⟨F',hR'⟩:=hR.frzT hp
    exact ze8 hT hCC hok hu hO h' hR'
 |seq x y ihx ihy=>
  intro st Q a w F φ hok hu hO h hR
  simp only[z1l8,Bool.and_eq_true]at hok
  simp only[vc]at h
  split at h
  . rename_i k I _
    obtain⟨h1,h2⟩:=h
    refine wpIn_seq (wpIn_mono (ihx st (fun e st'=>match e with | .normal=>∃ i,I.ok i/\leZ V k st' (I.S i) |e=>Q e st') a w F φ hok.1 hu (fun st hq=>hO _ hq) h1 hR) ?_)
    rintro e a' w' ⟨⟨st',F',φ',hR',hq⟩,hu'⟩
    cases e with
    |normal=>
     obtain⟨i,hi,hle⟩:=hq
     obtain⟨F3,φ3,hR3⟩:=z54 hR' hle
     exact ihy _ _ _ _ _ _ hok.2 hu' hO (h2 i hi) hR3
    |_=>exact⟨⟨st',F',φ',hR',hq⟩,hu'⟩
  . refine wpIn_seq (wpIn_mono (ihx st (fun e st'=>match e with | .normal=>vc V y st' Q |e=>Q e st') a w F φ hok.1 hu (fun st hq=>hO _ hq) h hR) ?_)
    rintro e a' w' ⟨⟨st',F',φ',hR',hq⟩,hu'⟩
    cases e with
    |normal=>exact ihy _ _ _ _ _ _ hok.2 hu' hO hq hR'
    |_=>exact⟨⟨st',F',φ',hR',hq⟩,hu'⟩
 |cond c x y ihx ihy=>
  intro st Q a w F φ hok hu hO h hR
  simp only[z1l8,Bool.and_eq_true]at hok
  simp only[vc]at h
  split at h
  case h_2=>exact h.elim
  rename_i p hp
  have hb:=(hR.ev hp).bool_inv
  exact wpIn_cond_split hb (fun hp=>ihx _ _ _ _ _ _ hok.1 hu hO (h.1 hp) hR) (fun hp=>ihy _ _ _ _ _ _ hok.2 hu hO (h.2 hp) hR)
 |block id c ih=>
  intro st Q a w F φ hok hu hO h hR
  have hb:∀ Q',vc V c st Q' ->(∀ st,¬ Q' .outgrown st) ->c.wpIn (FR ro) n V.C.P (z1lu m u (Fits V.C W0 F0 Q')) a w:=fun Q' h hO=>ih st Q' a w F φ hok hu hO h hR
  refine wpIn_block (wpIn_mono (hb _ h fun st hq=>hO _ hq) ?_)
  rintro e a' w' ⟨⟨st',F',φ',hR',hq⟩,hu'⟩
  cases e with
  |exit i=>
   simp only[Exit.inBlock]
   simp only at hq
   split at hq
   . rename_i hi
     rw[if_pos (Nat.eq_of_beq_eq_true hi)]
     exact⟨⟨st',F',φ',hR',hq⟩,hu'⟩
   . rename_i hi
     rw[if_neg (fun e=>by subst e;simp at hi)]
     exact⟨⟨st',F',φ',hR',hq⟩,hu'⟩
  |_=>exact⟨⟨st',F',φ',hR',hq⟩,hu'⟩
 |exit id=>intro st Q a w F φ _ hu _ h hR;exact wpIn_exit ⟨⟨st,F,φ,hR,h⟩,hu⟩
 |ret=>intro st Q a w F φ _ hu _ h hR;exact wpIn_ret ⟨⟨st,F,φ,hR,h⟩,hu⟩
 |_=>intro st Q a w F φ hok;simp[z1l8]at hok
theorem z3k (hT:z1d V.C) (hCC:CCOK V.C V.CC) {ro:Option Nat} {n s:Nat} {u:Option Value} (c:Code) (st:St) (Q:Exit ->St ->Prop) (a:Act) (w:World) (F:Nat ->Prop) (φ:Nat ->Place) (ok:z4o s c=true) (hu:a.tmps[s]? =u) (hO:∀ st,¬ Q .outgrown st) (h:vc V c st Q) (hR:Rel V.C W0 F0 st a w F φ):
 c.wpIn (FR ro) n V.C.P (Slot s u (Fits V.C W0 F0 Q)) a w:=
 wpIn_mono (z1l9 (m:=[s]) (u:=fun _=>u) hT hCC c st Q a w F φ ok (fun s' h=>by rw[List.mem_singleton.1 h];exact hu) hO h hR) fun _ _ _ h=>⟨h.1,h.2 s (List.mem_singleton.2 rfl)⟩
end
section
variable {w:World} {F:Nat ->Prop} {φ:Nat ->Place}
variable {C:Cfg} {W0:Entry} {F0:Nat ->Prop} {st:St} {a:Act}
theorem Rel.mkStat {env:List (Nat×AV)} (henv:∀ s x,get env s=some x ->∃ v,a.tmps[s]? =some v/\RepS w F v x) (hro:∀ k,F k ->k<w.heap.size) (hd:a.defers=[]) (hsz:a.tmps.size=C.ntmps)
 (hglob:∀ g x,get C.G g=some x ->RepS w F (.pointer (some ⟨g,0,none⟩)) x) (φ:Nat ->Place):Rel C (.of w) F ⟨env,[]⟩ a w F φ:=
 ⟨fun s x hs=>let ⟨v,h1,h2⟩:=henv s x hs;⟨v,h1, .stat h2⟩,fun b c hc=>by simp[get]at hc,fun b b' c c' g h1=>by simp[get]at h1,hro,Kept.refl _ _,fun _ h=>h,fun _ h=> .inl h,hd,hsz,hglob,fun b p hp=>by cases hp⟩
theorem Rel.statEnv (h:Rel C W0 F0 st a w F φ) {s:Nat} {x:AV} (hx:get st.env s=some x) (hs:x.isStat=true):∃ v,a.tmps[s]? =some v/\RepS w F v x:=
 let ⟨v,h1,h2⟩:=h.env s x hx;⟨v,h1,h2.toS hs⟩
theorem Rel.putObj (h:Rel C W0 F0 st a w F φ) {l:Nat} (o:Obj) (hl:l<W0.w.heap.size) (hL:¬ W0.L l) (hF:¬ F0 l):Rel C ⟨W0.w.putObj l o,W0.L,W0.A,W0.D⟩ F0 st a (w.putObj l o) F φ:=by
 have hB:¬ W0.B l:=by rintro(h |h);· omega
                      . exact hL h
 have hFl:¬ F l:=fun h1=>(h.new l h1).elim hF hB
 have hk:∀ k,F k ->(w.putObj l o).heap[k]? =w.heap[k]? :=fun k hk=>World.putObj_heap_other (fun e=>hFl (e ▸ hk))
 have hBB:∀ g,W0.B g ->(⟨W0.w.putObj l o,W0.L,W0.A,W0.D⟩:Entry).B g:=fun g hg=>hg.imp (fun h=>by simpa using h) id
 refine⟨fun s x hs=>?_,fun b c hc=>?_,h.inj,fun k hk=>by rw[World.putObj_size];exact h.ro k hk, ?_,h.sub,fun k hk=>(h.new k hk).imp_right (hBB k),h.dfr,h.tsz,fun g x hg=>(h.glob g x hg).keep hk (fun _ h=>h),h.anc⟩
 . obtain⟨v,hv,hr⟩:=h.env s x hs
   exact⟨v,hv,hr.keep hk (fun _ h=>h) fun _ _=>rfl⟩
 . have h1:z24 w F φ (⟨W0.w.putObj l o,W0.L,W0.A,W0.D⟩:Entry).B b c:=by
    have :=h.heap b c hc
    cases c with
    |cell tc sh x=>obtain⟨a1,g,cs,a2,a3,a4⟩:=this;exact⟨a1,g,cs,a2,hBB g a3,a4⟩
    |row ty sh n f=>
     obtain⟨a1,a2,a3 | ⟨g,cs,b2,b3,b4⟩⟩:=this
     . exact⟨a1,a2, .inl a3⟩
     . exact⟨a1,a2, .inr ⟨g,cs,b2,hBB g b3,b4⟩⟩
   refine h1.keep hk (fun _ h=>h) (fun g hg=>?_) rfl fun _ _=>rfl
   obtain⟨_,c2,c3⟩:=(h.heap b c hc).lt hg
   exact⟨World.putObj_heap_other fun e=>hB (e ▸ c3),c2⟩
 . obtain⟨k1,k2,k3,k4,k5⟩:=h.base
   refine⟨k1,k2,k3,by simpa using k4,fun k hk hkL=>?_⟩
   have hk':k<W0.w.heap.size:=by simpa using hk
   by_cases e:k=l
   . subst e
     have h2:=k5 k hk' hkL
     have h1:k<w.heap.size:=by omega
     exact(World.putObj_heap_same h1).trans (World.putObj_heap_same hk').symm
   . exact(World.putObj_heap_other e).trans ((k5 k hk' hkL).trans (World.putObj_heap_other e).symm)
end
def zfc (k:Nat):Code ->Option Code
 | .region id ops d=>match Nat.beq id k with |true=>some (.region id ops d) |false=>none
 | .seq x y | .cond _ x y | .rangeFunc _ _ x y=>match zfc k x with |some c=>some c |none=>zfc k y
 | .block _ c | .loop c | .scope c=>zfc k c
 |_=>none
def z10f (fn:Func) (k:Nat):Code:=match fn.body with
 |some c=>match zfc k c with |some c=>c |none=> .skip
 |none=> .skip
def zco:Code ->Option (Code×Code)
 | .rangeFunc _ _ x y=>some (x,y)
 | .seq x y | .cond _ x y=>match zco x with |some c=>some c |none=>zco y
 | .block _ c | .loop c | .scope c=>zco c
 |_=>none
def zol (fn:Func):Code:=match fn.body with
 |some c=>match zco c with |some (x,_)=>x |none=> .skip
 |none=> .skip
def z10g (fn:Func):Code:=match fn.body with
 |some c=>match zco c with |some (_,y)=>y |none=> .skip
 |none=> .skip
def z10h (fn:Func):Code:=match fn.body with
 |some (.seq _ (.seq _ (.seq _ c)))=>c
 |_=> .skip
def ziu:Code ->List Oper
 | .region _ ops _=>ops.toList
 |_=>[]
def pcQ (n:Option (Prop×St)) (x:Option (Nat×Prop×St)) (r:Option (Prop×St)):Exit ->St ->Prop:=fun e st'=>match e with
 | .normal=>match n with |some (p,S)=>p/\st'.leP S |none=>False
 | .exit i=>match x with |some (id,p,S)=>(match Nat.beq i id with |true=>p/\st'.leP S |false=>False) |none=>False
 | .ret=>match r with |some (p,S)=>p/\st'.leP S |none=>False
 |_=>False
def pcVc (V:VCtx) (c:Code) (st:St) (n:Option (Prop×St)) (x:Option (Nat×Prop×St)) (r:Option (Prop×St)):Prop:=vc V c st (pcQ n x r)
def opVc (V:VCtx) (id:Nat) (ops rest:List Oper) (i:Nat) (st S:St):Prop:=match z6o V.C V.CC (V.orc id) ops rest i st with
 |some (st',ps)=>conj ps (st'.leP S)
 |none=>False
end Go.AV
namespace Go.Proofs.S25
open Go Go.AV
open Go.IntKind renaming i64 -> j6
open Go.AV.Shape (leaf)
noncomputable section
def lngR (p:PProg):Nat ->Int
 |0=> -1
 |k+1=>if 64<(p.funs.getD (p.funs.length - (k+1)) c0f).code.length then((p.funs.length - (k+1):Nat):Int)else lngR p k
def z35 (p:PProg):Int:=lngR p p.funs.length
def dFs (f:Nat ->AV) (n:Nat):List PFun:=(List.range n).map fun i=>dF (f i)
def spQ:FuncId ->List AV ->Option AV
 |165,[.mc _ f]=>some (.bool (decide (64<(dF f).code.length)))
 |164,[.seq _ n f, .clo 165 []]=>some (.int .i64 (z35 ⟨[],[],[],dFs f n,[]⟩))
 |166,[.mc _ p]=>some (.clo 233 [.rptr z7 p])
 |f,l=>spP f l
noncomputable def vQ25 (n:Nat) (inv:Nat ->Option Inv):VCtx:={C:=cfgT n,CC:=Known Tryz.prog GG,orc:=fun _ _=>spQ,inv:=inv}
def zom (p:PProg) (k:Nat):Option Inv:=match Nat.beq k 2 with
 |true=>iw p.funs.length (fun i=>⟨[(0,rowF p.funs),(1, .clo 165 []),(7, .int .i64 p.funs.length),(8, .int .i64 i)],[]⟩) fun i=>z35 p=lngR p (p.funs.length - i)
 |false=>none
theorem z1dz (f:PFun) (hf:f.code.length<=1000000):KN 165 [.mc z16 (encF f)] (.bool (decide (64<f.code.length))):=by
 refine Kn (vQ25 7 fun _=>none) Tryz.func165 (↑f.code.length<=(9223372036854775807:Int)/\decide ((64:Int)<↑f.code.length)=decide ((64:Nat)<f.code.length)) ?_
 exact⟨by omega,by simp only[decide_eq_decide];omega⟩
theorem zh3 (p:PProg) (i:Nat) (hi:i<p.funs.length):lngR p (p.funs.length - i)=if 64<(p.funs.getD i c0f).code.length then(i:Int)else lngR p (p.funs.length - (i+1)):=by
 obtain⟨k,hk⟩:∃ k,p.funs.length - i=k+1:=⟨p.funs.length - i - 1,by omega⟩
 rw[hk,lngR,show p.funs.length - (k+1)=i from by omega,show k=p.funs.length - (i+1)from by omega]
section
variable (p:PProg) (x1:Nat)
def qma:=x1<=p.funs.length/\z35 p=lngR p (p.funs.length - x1)
def qmb:=decide (64<(dR dIn (z4l (p.funs.getD (↑x1:Int).toNat c0f).code)).length)
end
theorem z1e1 (p:PProg) (hp:PSm p):KN 164 [rowF p.funs, .clo 165 []] (.int .i64 (z35 p)):=by
 refine Kn (vQ25 19 (zom p)) Tryz.func164 (↑p.funs.length<=(9223372036854775807:Int)/\(∃ i,qma p i/\LT (rowF p.funs)/\RR (AV.clo 165 [])/\RR (↑p.funs.length:Int)/\0=(↑i:Int))/\∀ i:Nat,qma p i->(q1n p i=true->inIx (↑i) p.funs.length/\KN 165 [AV.mc z16 (encF (p.funs.getD (↑i:Int).toNat c0f))] (AV.bool (qmb p i))/\(qmb p i=true->↑i=z35 p)/\(qmb p i=false->InR j6 (q6 i)/\(∃ j,qma p j/\p.funs.length - j<p.funs.length - i/\LT (rowF p.funs)/\RR (AV.clo 165 [])/\RR (↑p.funs.length:Int)/\q6 i=(↑j:Int))))/\(q1n p i=false->-1=z35 p)) ?_
 try delta qma qmb q6 q1n
 simp only[SB,SX,inIx,reduceCtorEq,Int.reduceToNat]
 have h1:=hp.funs
 refine⟨by omega,⟨0,⟨by omega,by rw[Nat.sub_zero];rfl⟩,rfl⟩,fun i hi=>⟨fun hlt=>⟨hlt,z1dz _ (hp.code i),fun h=>?_,fun h=>⟨za (by omega) (by omega),i+1,⟨by omega, ?_⟩,by omega,by omega⟩⟩,fun hge=>?_⟩⟩
 . rw[hi.2,zh3 p i hlt,if_pos h]
 . rw[hi.2,zh3 p i hlt,if_neg h]
 . rw[hi.2,show p.funs.length - i=0 from by omega];rfl
theorem z10j (p:PProg):KN 166 [vP p] (.clo 233 [.rptr z7 (encP p)]):=by
 refine Kn (vQ25 4 fun _=>none) Tryz.func166 (AV.clo (233:Nat) [AV.rptr z7 (encP p)]=AV.clo (233:FuncId) [AV.rptr z7 (encP p)]) rfl
abbrev pN (S:St):Option (Prop×St):=some (True,S)
abbrev fO (p:PProg) (k:Nat):PFun:=p.funs.getD k c0f
abbrev iO (p:PProg) (k i:Nat):Inst:=(fO p k).code.getD i c0i
def itA (p:PProg) (k:Nat):List (Nat×AV):=[(8,rowF p.funs),(9, .int .i64 p.funs.length),(10, .int .i64 k)]
def itB (p:PProg) (k i:Nat):List (Nat×AV):=itA p k++[(3, .int .i64 k),(16,z4l (fO p k).code),(17, .int .i64 (fO p k).code.length),(18, .int .i64 i)]
def itC (p:PProg) (k i:Nat):List (Nat×AV):=itB p k i++[(5, .int .i64 i),(6, .ptr 6 [])]
def itH (p:PProg) (k i:Nat):List (Nat×BoxC):=[(6, .cell 105 zy (encI (iO p k i)))]
noncomputable def z4p:VCtx:=vQ25 32 fun _=>none
noncomputable def iReg (k:Nat):Code:=z10f Tryz.f233 k
noncomputable def gIt0 (p:PProg):Prop:=pcVc z4p (iReg 0) ⟨[(1, .rptr z7 (encP p))],[]⟩ (pN ⟨itA p 0,[]⟩) none none
noncomputable def gIt1 (p:PProg) (k:Nat):Prop:=pcVc z4p (iReg 1) ⟨itA p k,[]⟩ (pN ⟨itA p k++[(11, .bool (decide (k<p.funs.length)))],[]⟩) none none
noncomputable def gIt2 (p:PProg) (k:Nat):Prop:=pcVc z4p (.seq (iReg 2) (iReg 3)) ⟨itA p k,[]⟩ (pN ⟨itB p k 0,[]⟩) none none
noncomputable def gIt4 (p:PProg) (k i:Nat):Prop:=pcVc z4p (iReg 4) ⟨itB p k i,[]⟩ (pN ⟨itB p k i++[(19, .bool (decide (i<(fO p k).code.length)))],[]⟩) none none
noncomputable def gIt5 (p:PProg) (k i:Nat):Prop:=pcVc z4p (iReg 5) ⟨itB p k i,[]⟩ (pN ⟨itC p k i,itH p k i⟩) none none
noncomputable def gIt6 (p:PProg) (k i:Nat):Prop:=opVc z4p 6 (ziu (iReg 6)) (((ziu (iReg 6)).drop 1).take 4) 1 ⟨itC p k i,itH p k i⟩ ⟨itB p k i++[(26,vPl k i),(27,vI (iO p k i))],[]⟩
noncomputable def gIt7 (p:PProg) (k i:Nat):Prop:=pcVc z4p (iReg 7) ⟨itB p k i,[]⟩ (pN ⟨itB p k (i+1),[]⟩) none none
noncomputable def gIt8 (p:PProg) (k:Nat):Prop:=pcVc z4p (iReg 8) ⟨itA p k,[]⟩ (pN ⟨itA p (k+1),[]⟩) none none
theorem eIt0 (p:PProg):gIt0 p=(↑p.funs.length<=(9223372036854775807:Int)/\True/\LT (rowF p.funs)/\RR (↑p.funs.length:Int)/\(0:Int)=↑(0:Nat)):=by kernel_rfl
theorem eIt1 (p:PProg) (k:Nat):gIt1 p k=(True/\LT (rowF p.funs)/\RR (↑p.funs.length:Int)/\RR (↑k:Int)/\decide ((↑k:Int)<(↑p.funs.length:Int))=decide (k<p.funs.length)):=by kernel_rfl
section
variable (p:PProg) (k:Nat)
def q7f:Int:=(↑(p.funs.getD (↑k:Int).toNat c0f).code.length:Int)
end
theorem eIt2 (p:PProg) (k:Nat):gIt2 p k=(inIx (↑k) p.funs.length/\q7f p k<=9223372036854775807/\True/\LT (rowF p.funs)/\RR (↑p.funs.length:Int)/\RR (↑k:Int)/\RR (↑k:Int)/\LS (z4l (p.funs.getD (↑k:Int).toNat c0f).code) (z4l (fO p k).code)/\q7f p k=↑(fO p k).code.length/\(0:Int)=↑(0:Nat)):=by kernel_rfl
theorem eIt4 (p:PProg) (k i:Nat):gIt4 p k i=(True/\LT (rowF p.funs)/\RR (↑p.funs.length:Int)/\RR (↑k:Int)/\RR (↑k:Int)/\LT (z4l (fO p k).code)/\RR (↑(fO p k).code.length:Int)/\RR (↑i:Int)/\decide ((↑i:Int)<(↑(fO p k).code.length:Int))=decide (i<(fO p k).code.length)):=by kernel_rfl
theorem eIt5 (p:PProg) (k i:Nat):gIt5 p k i=(inIx (↑i) (fO p k).code.length/\True/\(LT (rowF p.funs)/\RR (↑p.funs.length:Int)/\RR (↑k:Int)/\RR (↑k:Int)/\LT (z4l (fO p k).code)/\RR (↑(fO p k).code.length:Int)/\RR (↑i:Int)/\RR (↑i:Int))/\LS (encI ((fO p k).code.getD (↑i:Int).toNat c0i)) (encI (iO p k i))):=by kernel_rfl
theorem eIt6 (p:PProg) (k i:Nat):gIt6 p k i=(LT (rowF p.funs)/\RR (↑p.funs.length:Int)/\RR (↑k:Int)/\RR (↑k:Int)/\LT (z4l (fO p k).code)/\RR (↑(fO p k).code.length:Int)/\RR (↑i:Int)/\(RR (↑k:Int)/\RR (↑i:Int))/\LT (encI (iO p k i))):=by kernel_rfl
section
variable (i:Nat)
def qzm:Int:=↑i+1
end
theorem eIt7 (p:PProg) (k i:Nat):gIt7 p k i=(InR j6 (qzm i)/\True/\LT (rowF p.funs)/\RR (↑p.funs.length:Int)/\RR (↑k:Int)/\RR (↑k:Int)/\LT (z4l (fO p k).code)/\RR (↑(fO p k).code.length:Int)/\qzm i=↑(i+1)):=by kernel_rfl
section
variable (k:Nat)
def qzn:Int:=↑k+1
end
theorem eIt8 (p:PProg) (k:Nat):gIt8 p k=(InR j6 (qzn k)/\True/\LT (rowF p.funs)/\RR (↑p.funs.length:Int)/\qzn k=↑(k+1)):=by kernel_rfl
theorem kIt0 (p:PProg) (hp:PSm p):gIt0 p:=by
 rw[eIt0];try delta RR
 have h1:=hp.funs
 simp only[SB,SX,inIx,reduceCtorEq,Int.reduceToNat]
 exact⟨by omega,rfl⟩
theorem kIt1 (p:PProg) (k:Nat):gIt1 p k:=by
 rw[eIt1]
 simp only[SB,SX,inIx,reduceCtorEq,Int.reduceToNat]
theorem kIt2 (p:PProg) (k:Nat) (hp:PSm p) (h:k<p.funs.length):gIt2 p k:=by
 rw[eIt2];try delta q7f RR
 have h1:=hp.code k
 simp only[SB,SX,inIx,reduceCtorEq,Int.reduceToNat]
 exact⟨h,by omega,rfl⟩
theorem kIt4 (p:PProg) (k i:Nat):gIt4 p k i:=by
 rw[eIt4]
 simp only[SB,SX,inIx,reduceCtorEq,Int.reduceToNat]
theorem kIt5 (p:PProg) (k i:Nat) (h:i<(fO p k).code.length):gIt5 p k i:=by
 rw[eIt5]
 simp only[SB,SX,inIx,reduceCtorEq,Int.reduceToNat]
 exact h
theorem kIt6 (p:PProg) (k i:Nat):gIt6 p k i:=by
 rw[eIt6]
 simp only[SB,SX,inIx,reduceCtorEq,Int.reduceToNat]
theorem kIt7 (p:PProg) (k i:Nat) (hp:PSm p) (h:i<(fO p k).code.length):gIt7 p k i:=by
 rw[eIt7];try delta qzm RR
 have h1:(fO p k).code.length<=1000000:=hp.code k
 simp only[SB,SX,inIx,reduceCtorEq,Int.reduceToNat]
 exact⟨za (by omega) (by omega),by omega⟩
theorem kIt8 (p:PProg) (k:Nat) (hp:PSm p) (h:k<p.funs.length):gIt8 p k:=by
 rw[eIt8];try delta qzn RR
 have h1:=hp.funs
 simp only[SB,SX,inIx,reduceCtorEq,Int.reduceToNat]
 exact⟨za (by omega) (by omega),by omega⟩
structure ISt (D:Nat) (u:Value) (env:List (Nat×AV)) (a:Act) (w:World) (F:Nat ->Prop):Prop where
 env:∀ s x,get env s=some x ->∃ v,a.tmps[s]? =some v/\RepS w F v x
 ro:∀ k,F k ->k<w.heap.size
 off:∀ k,F k ->k≠D/\k≠D+1
 dfr:a.defers=[]
 sz:a.tmps.size=32
 glob:∀ g x,get GG g=some x ->RepS w F (.pointer (some ⟨g,0,none⟩)) x
 yld:a.tmps[0]? =some u
structure Same (D:Nat) (w w':World):Prop where
 size:w.heap.size<=w'.heap.size
 block:∀ k,k<w.heap.size ->k≠D ->k≠D+1 ->w'.heap[k]? =w.heap[k]?
theorem ISt.keep {D:Nat} {u:Value} {env:List (Nat×AV)} {a:Act} {w w':World} {F:Nat ->Prop} (h:ISt D u env a w F) (hs:Same D w w'):ISt D u env a w' F:=by
 have hk:∀ k,F k ->w'.heap[k]? =w.heap[k]? :=fun k hk=>hs.block k (h.ro k hk) (h.off k hk).1 (h.off k hk).2
 exact⟨fun s x hx=>let ⟨v,h1,h2⟩:=h.env s x hx;⟨v,h1,h2.keep hk fun _ h=>h⟩,fun k hk=>Nat.lt_of_lt_of_le (h.ro k hk) hs.size,h.off,h.dfr,h.sz,fun g x hg=>(h.glob g x hg).keep hk fun _ h=>h,h.yld⟩
theorem ISt.rel {D:Nat} {u:Value} {env:List (Nat×AV)} {a:Act} {w:World} {F:Nat ->Prop} (h:ISt D u env a w F):Rel z4p.C (.of w) F ⟨env,[]⟩ a w F (fun _=>⟨none,0, .leaf,0⟩):=
 Rel.mkStat h.env h.ro h.dfr h.sz h.glob _
def zmu:List (Nat×AV) ->Bool
 | []=>true
 | (_,x)::l=>x.isStat&&zmu l
theorem zh4 {s:Nat} {x:AV}:∀ {l:List (Nat×AV)},zmu l=true ->get l s=some x ->x.isStat=true
 | (k,y)::l,h,hg=>by
  simp only[zmu,Bool.and_eq_true]at h
  simp only[AV.get]at hg
  split at hg
  . cases hg;exact h.1
  . exact zh4 h.2 hg
theorem ISt.of {D:Nat} {u:Value} {env:List (Nat×AV)} {hp:List (Nat×BoxC)} {a:Act} {w0 w:World} {F0 F:Nat ->Prop} {φ:Nat ->AV.Place} (h:Rel z4p.C (.of w0) F0 ⟨env,hp⟩ a w F φ) (hs:zmu env=true) (hu:a.tmps[0]? =some u) (hD:D+1<w0.heap.size) (hoff:∀ k,F0 k ->k≠D/\k≠D+1):ISt D u env a w F:=
 ⟨fun s x hx=>h.statEnv hx (zh4 hs hx),h.ro,fun k hk=>by
  rcases h.new k hk with h1 |h1 |h1
  . exact hoff k h1
  . have :w0.heap.size<=k:=h1;omega
  . exact h1.elim,h.dfr,h.tsz,h.glob,hu⟩
theorem zoo:CCOK z4p.C z4p.CC:=z9a z4p.C (fun _ _ _ _ h=>h.elim)
theorem zop:z1d z4p.C:=zq 32
theorem z6i {n:Option (Prop×St)} {x:Option (Nat×Prop×St)} {r:Option (Prop×St)} (st:St):¬ pcQ n x r .outgrown st:=fun h=>h
theorem z9e {D n:Nat} {u:Value} {env env':List (Nat×AV)} {a:Act} {w:World} {F:Nat ->Prop} {c:Code} {Q:Exit ->Act ->World ->Prop} (hI:ISt D u env a w F) (hD:D+1<w.heap.size) (hr:z4o 0 c=true) (h:pcVc z4p c ⟨env,[]⟩ (pN ⟨env',[]⟩) none none) (hs:zmu env'=true)
 (hQ:∀ a' w' F',ISt D u env' a' w' F' ->RowKit.Below w.heap.size w w' ->Q .normal a' w'):c.wpIn (FR none) n Tryz.prog Q a w:=by
 refine wpIn_mono (z3k (V:=z4p) (W0:= .of w) (F0:=F) zop zoo c ⟨env,[]⟩ _ a w F _ hr hI.yld z6i h hI.rel) ?_
 rintro e a' w' ⟨⟨st',F',φ',hR,hq⟩,hu⟩
 cases e<;>try exact hq.elim
 obtain⟨φ2,hR2⟩:=hR.weaken hq.2
 exact hQ a' w' F' (ISt.of hR2 hs hu hD hI.off) hR2.base.toBelow
theorem zoq {D n:Nat} {u:Value} {env env':List (Nat×AV)} {a:Act} {w:World} {F:Nat ->Prop} {x y c:Code} {Q:Exit ->Act ->World ->Prop} (hI:ISt D u env a w F) (hD:D+1<w.heap.size) (hx:z4o 0 x=true) (hy:z4o 0 y=true) (h:pcVc z4p (.seq x y) ⟨env,[]⟩ (pN ⟨env',[]⟩) none none) (hs:zmu env'=true)
 (hQ:∀ a' w' F',ISt D u env' a' w' F' ->RowKit.Below w.heap.size w w' ->c.wpIn (FR none) n Tryz.prog Q a' w'):(Code.seq x (.seq y c)).wpIn (FR none) n Tryz.prog Q a w:=by
 refine wpIn_seq (wpIn_mono (z3k (V:=z4p) (W0:= .of w) (F0:=F) zop zoo x ⟨env,[]⟩ (fun e st'=>match e with | .normal=>vc z4p y st' (pcQ (pN ⟨env',[]⟩) none none) |e=>pcQ (pN ⟨env',[]⟩) none none e st') a w F _ hx hI.yld (fun _ h=>h) (zv2 (V:=z4p) (fun _=>rfl) h) hI.rel) ?_)
 rintro e a' w' ⟨⟨st',F',φ',hR,hq⟩,hu⟩
 cases e<;>try exact hq.elim
 refine wpIn_seq (wpIn_mono (z3k (V:=z4p) (W0:= .of w) (F0:=F) zop zoo y st' _ a' w' F' _ hy hu z6i hq hR) ?_)
 rintro e a' w' ⟨⟨st',F',φ',hR,hq⟩,hu⟩
 cases e<;>try exact hq.elim
 obtain⟨φ2,hR2⟩:=hR.weaken hq.2
 exact hQ a' w' F' (ISt.of hR2 hs hu hD hI.off) hR2.base.toBelow
end
end Go.Proofs.S25
