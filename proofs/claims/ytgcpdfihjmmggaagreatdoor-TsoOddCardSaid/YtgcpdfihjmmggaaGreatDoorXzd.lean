import Derived.Test.YtgcpdfihjmmggaaGreatDoorXzc
namespace Go.Proofs.S25
open Go Go.AV
open Go.IntKind renaming i64 -> j6
open Go.AV.Shape (leaf)
noncomputable section
variable (m:Mem) (l:List aB) (id:Int) (s:ag) (t:aB) (i:aK) (e:Ev)
section
variable (l:List Int) (v:Int) (x2:Nat)
def qs4:=x2<=l.length/\∀ n:Nat,n<x2->l.getD n 0≠v
def UE:=RR l.length/\∀ (i:Nat),i<l.length->RR (AV.int j6 (l.getD i 0))
end
theorem zyq (l:List Int) (v:Int) (hl:l.length<=1000000):KN 42 [a8 l, .int .i64 v] (.bool (aQ l v)):=by
 refine Kn (tR lX aN ao dL 18 (zrh l v)) Tryz.func42 ((∃ i,qs4 l v i/\UE l/\RR v/\(0:Int)=↑i)/\∀ i:Nat,qs4 l v i->↑l.length<=(9223372036854775807:Int)/\(qe l i=true->af (↑i) l.length/\(sP l v i=true->true=aQ l v)/\(sP l v i=false->aM j6 (q9 i)/\(∃ j,qs4 l v j/\l.length - j<l.length - i/\UE l/\RR v/\q9 i=↑j)))/\(qe l i=false->false=aQ l v)) ?_
 try delta qs4 UE sP q9 qe
 simp only[SB,af]
 refine⟨⟨0,⟨by omega,λn hn=>by omega⟩,rfl⟩,λi hi=>⟨by omega,λhlt=>⟨hlt,λh=>?_,λh=>⟨za (by omega) (by omega),i+1,⟨by omega,λn hn=>?_⟩,by omega,by omega⟩⟩,λhge=>?_⟩⟩
 . exact((tY l v).2 ⟨i,hlt,h.symm⟩).symm
 . by_cases e:n=i
   . grind
   . exact hi.2 n (by omega)
 . apply eI;intro h
   obtain⟨n,h1,h2⟩:=(tY l v).1 h
   exact hi.2 n (by omega) h2.symm
section
variable (s:ag) (v:Int)
def qjc:=decide (0<=aS s.ab v)
def qjd:=qjc s v=true
def uU:=qjd s v->qjd s v
def Ao:=af (max (aS s.ab v) 0) s.ab.length
def GM:Int:=(s.ab.getD (max (aS s.ab v) 0).toNat ao).status
def MV:=GM s v==2
def BH:=!MV s v
def qje:=(qjc s v&&BH s v)=true
def Tv:=qje s v->qje s v
end
theorem ajo (v:Int) (hs:cw s):KN 156 [aF s.ab, .int .i64 v] (.bool (xT s.ab v)):=by
 refine Kn (tR lX s ao dL 30 λ_=>none) Tryz.func156 (KN 44 [aF s.ab,AV.int j6 v] (AV.av [AV.int j6 (max (aS s.ab v) (0:Int)),AV.bool (qjc s v)])/\uU s v/\uU s v/\(qjd s v->Ao s v)/\uU s v/\uU s v/\uU s v/\uU s v/\Tv s v/\Tv s v/\(qje s v->Ao s v)/\Tv s v/\Tv s v/\Tv s v/\uU s v/\(qjd s v->BH s v=true->qje s v)/\uU s v/\(qjc s v&&(MV s v||GM s v==3))=xT s.ab v) ?_
 try delta qjc qjd uU Ao GM MV BH qje Tv
 simp only[SB,af]
 have hf:=YW s.ab v
 refine⟨KW _ _ hs.ab,λh=>by omega,λh=>by omega, ?_⟩
 unfold xT
 by_cases h0:0<=aS s.ab v
 . rw[yc h0]
 . rw[decide_eq_false h0,je,je]
theorem zyr (b:Bool):KN 92 [.bool b] (.int .i64 (ek b)):=by
 refine Kn (tR lX aN ao dL 4 λ_=>none) Tryz.func92 ((b=true->1=ek b)/\(b=false->0=ek b)) ?_
 try simp only[SB,af]
 unfold ek
 grind
theorem zys (f a b:Int):KN 91 [.int .i64 f, .int .i64 a, .int .i64 b] (.int .i64 (app f a b).1):=by
 refine Kn (tR lX aN ao dL 17 λ_=>none) Tryz.func91 (KN 150 [AV.int j6 f,AV.int j6 a,AV.int j6 b] (AV.av [AV.int j6 (app f a b).fst,AV.int j6 (app f a b).snd])/\RR (app f a b).fst) ?_
 simp only[SB,af]
 exact G9 f a b
section
variable (s:ag) (t:aB) (i:aK) (e:Ev)
def DY:=e.entry=(cr s t i e).entry/\e.ord=(cr s t i e).ord/\e.read=(cr s t i e).read/\e.wrote=(cr s t i e).wrote
def qjf:=e.mutex=(cr s t i e).mutex/\DY s t i e
end
theorem ac4 (hs:cw s) (ht:dU t) (hi:mA s.mem i):KN 94 [cx s,vT t,vI i,dh e] (dh (cr s t i e)):=by
 refine Kn (tR lX s t i 72 λ_=>none) Tryz.func94 (((i.op==18)=true->((t.phase==0)=true->e.aC=(cr s t i e).aC/\e.idx=(cr s t i e).idx/\12=(cr s t i e).kind/\e.obj=(cr s t i e).obj/\i.n=(cr s t i e).mutex/\DY s t i e)/\((t.phase==0)=false->((t.phase==1)=true->e.aC=(cr s t i e).aC/\e.idx=(cr s t i e).idx/\13=(cr s t i e).kind/\e.obj=(cr s t i e).obj/\qjf s t i e)/\((t.phase==1)=false->e.aC=(cr s t i e).aC/\e.idx=(cr s t i e).idx/\9=(cr s t i e).kind/\i.n=(cr s t i e).obj/\qjf s t i e)))/\((i.op==18)=false->((i.op==19)=true->af i.obj s.mem.a6.length/\U7 s i/\e.aC=(cr s t i e).aC/\e.idx=(cr s t i e).idx/\14=(cr s t i e).kind/\e.obj=(cr s t i e).obj/\e.mutex=(cr s t i e).mutex/\e.entry=(cr s t i e).entry/\e.ord=(cr s t i e).ord/\(if(1:Int)<↑(s.mem.a6.getD i.obj.toNat []).length then(1:Int)else Sr s i)=(cr s t i e).read/\e.wrote=(cr s t i e).wrote)/\((i.op==19)=false->((i.op==20)=true->af i.obj s.mem.a6.length/\U7 s i/\e.aC=(cr s t i e).aC/\e.idx=(cr s t i e).idx/\15=(cr s t i e).kind/\e.obj=(cr s t i e).obj/\e.mutex=(cr s t i e).mutex/\e.entry=(cr s t i e).entry/\e.ord=(cr s t i e).ord/\Sr s i=(cr s t i e).read/\e.wrote=(cr s t i e).wrote)/\((i.op==20)=false->((i.op==21)=true->KN 157 [AV.mc zk (ak t)] (AV.av [AV.int j6 (eU t),AV.bool (cA t)])/\e.aC=(cr s t i e).aC/\e.idx=(cr s t i e).idx/\16=(cr s t i e).kind/\eU t=(cr s t i e).obj/\qjf s t i e)/\((i.op==21)=false->((i.op==22)=true->af i.b 8/\e.aC=(cr s t i e).aC/\e.idx=(cr s t i e).idx/\17=(cr s t i e).kind/\t.aw.getD i.b.toNat 0=(cr s t i e).obj/\qjf s t i e)/\((i.op==22)=false->LS (bX e) (bX (cr s t i e)))))))) ?_
 try delta DY qjf Sr U7
 simp only[SB,af]
 have hm:=hs.mem.q i.obj.toNat
 refine⟨λh18=>⟨λh=>?_,λh=>⟨λh'=>?_,λh'=>?_⟩⟩,λh18=>⟨λh19=>⟨hi.ok.q (by omega),by omega, ?_⟩,λh19=>⟨λh20=>⟨hi.ok.q (by omega),by omega, ?_⟩,λh20=>⟨λh21=>⟨zpf t ht.aw ht.id, ?_⟩,λh21=>⟨λh22=>⟨hi.b, ?_⟩,λh22=>?_⟩⟩⟩⟩⟩
 all_goals unfold cr
 all_goals simp[*,nK,bp,iL]
 omega
theorem agh (x:AV) (hx:x=bX (jX x)) (hs:cw s) (ht:dU t) (hi:mA s.mem i):KN 94 [cx s,vT t,vI i, .mc bF x] (dh (cr s t i (jX x))):=by
 have :=ac4 s t i (jX x) hs ht hi
 unfold dh at this
 rw[<- hx]at this
 exact this
theorem ap1 (hi:mA s.mem i) (x:AV) (h:cr s t i (jX x)=aR s t i):LS (bX (cr s t i (jX x))) (bX (aR s t i)):=fp (by rw[h])
section
variable (i:aK)
def Iz:=decide (i.op<=14)
def Mf:=Iz i=true
def qs5:=Mf i->Mf i
end
section
variable (t:aB) (i:aK)
def D7:=t.aw.getD i.b.toNat 0=bp t i.b
def Ef:=t.aw.getD i.c.toNat 0=bp t i.c
end
section
variable (s:ag) (t:aB) (i:aK)
def Im:=LS (ze s) (ze s)/\LS (ak t) (ak t)/\LS (encI i) (encI i)/\(RR (0:Int)/\RR (0:Int)/\RR (0:Int)/\RR (0:Int)/\RR (0:Int)/\RR (0:Int)/\RR (0:Int)/\Wg)/\RR t.id/\RR t.steps/\RR (0:Int)/\RR i.obj/\RR (-1)/\RR (-1)/\RR i.ord/\Wg
def Ax:=Iz i&&i.op !=13
def qs6:List AV:=[AV.int j6 i.obj,AV.int j6 (-1),AV.int j6 (-1),AV.int j6 i.ord,AV.int j6 (iH s.mem i),AV.int j6 0]
def Ex:=AV.agg (AV.int j6 t.id::AV.int j6 t.steps::AV.int j6 1::qs6 s i)
def EG:=bX (cr s t i (jX (Ex s t i)))
def zD:=AV.agg (AV.int j6 t.id::AV.int j6 t.steps::AV.int j6 8::qs6 s i)
def NU:=bX (cr s t i (jX (zD s t i)))
def Gw:=AV.agg [AV.int j6 t.id,AV.int j6 t.steps,AV.int j6 2,AV.int j6 i.obj,AV.int j6 (-1),AV.int j6 (-1),AV.int j6 i.ord,AV.int j6 0,AV.int j6 (bp t i.b)]
def zK:=bX (cr s t i (jX (Gw t i)))
def Ca:List AV:=[AV.int j6 (iH s.mem i),AV.int j6 (bp t i.b)]
def Rj:=AV.agg (AV.int j6 t.id::AV.int j6 t.steps::AV.int j6 5::AV.int j6 i.obj::AV.int j6 (-1)::AV.int j6 (-1)::AV.int j6 i.ord::Ca s t i)
def KJ:=bX (cr s t i (jX (Rj s t i)))
def Pj:=AV.int j6 (wr (wr (iH s.mem i)+wr (bp t i.b)))
def EH:=AV.agg [AV.int j6 t.id,AV.int j6 t.steps,AV.int j6 5,AV.int j6 i.obj,AV.int j6 (-1),AV.int j6 (-1),AV.int j6 i.ord,AV.int j6 (iH s.mem i),Pj s t i]
def PV:=bX (cr s t i (jX (EH s t i)))
def EU:=AV.agg [AV.int j6 t.id,AV.int j6 t.steps,AV.int j6 5,AV.int j6 i.obj,AV.int j6 (-1),AV.int j6 (-1),AV.int j6 i.ord,AV.int j6 (iH s.mem i),AV.int j6 (bp t i.c)]
def Pt:=bX (cr s t i (jX (EU s t i)))
def GC:=iH s.mem i==bp t i.b
def LH:=AV.agg (AV.int j6 t.id::AV.int j6 t.steps::AV.int j6 6::qs6 s i)
def A5:=bX (cr s t i (jX (LH s t i)))
def qjg:List AV:=[AV.int j6 i.obj,AV.int j6 (-1),AV.int j6 (-1),AV.int j6 i.ord,AV.int j6 0,AV.int j6 0]
def RQ:=AV.agg (AV.int j6 t.id::AV.int j6 t.steps::AV.int j6 7::qjg i)
def Hh:=bX (cr s t i (jX (RQ t i)))
def MN:=AV.agg (AV.int j6 t.id::AV.int j6 t.steps::AV.int j6 9::qjg i)
def AQ:=bX (cr s t i (jX (MN t i)))
def Qv:=AV.agg (AV.int j6 t.id::AV.int j6 t.steps::AV.int j6 10::qjg i)
def Cm:=bX (cr s t i (jX (Qv t i)))
def Hr:=AV.agg [AV.int j6 t.id,AV.int j6 t.steps,AV.int j6 11,AV.int j6 i.obj,AV.int j6 (-1),AV.int j6 (-1),AV.int j6 i.ord,AV.int j6 (ek (iJ s.mem i.obj)),AV.int j6 0]
def C5:=bX (cr s t i (jX (Hr s t i)))
def Es:=AV.agg (AV.int j6 t.id::AV.int j6 t.steps::AV.int j6 0::qjg i)
def Iy:=bX (cr s t i (jX (Es t i)))
end
theorem zyt (hs:cw s) (ht:dU t) (hi:mA s.mem i):KN 45 [cx s,vT t,vI i] (dh (aR s t i)):=by
 refine Kn ({tR lX s t i 113 (λ_=>none)with cut:=zym s t i}) Tryz.func45 (af i.b 8/\af i.c 8/\(qs5 i/\qs5 i/\qs5 i/\(Ax i=true->af i.obj s.mem.vars.length/\(∃ (j:Unit),True/\(D7 t i/\Ef t i/\s.mem.vars.getD i.obj.toNat 0=iH s.mem i)/\Im s t i))/\(Ax i=false->∃ (j:Unit),True/\(D7 t i/\Ef t i/\0=iH s.mem i)/\Im s t i))/\∀ (i_1:Unit),True->((i.op==(8:Int))=true->KN 94 [AV.mc aI (ze s),AV.mc zk (ak t),AV.mc zy (encI i),AV.mc bF (Ex s t i)] (AV.mc bF (EG s t i))/\LS (EG s t i) (bX (aR s t i)))/\((i.op==(8:Int))=false->((i.op==(14:Int))=true->KN 94 [AV.mc aI (ze s),AV.mc zk (ak t),AV.mc zy (encI i),AV.mc bF (zD s t i)] (AV.mc bF (NU s t i))/\LS (NU s t i) (bX (aR s t i)))/\((i.op==(14:Int))=false->((i.op==(9:Int))=true->KN 94 [AV.mc aI (ze s),AV.mc zk (ak t),AV.mc zy (encI i),AV.mc bF (Gw t i)] (AV.mc bF (zK s t i))/\LS (zK s t i) (bX (aR s t i)))/\((i.op==(9:Int))=false->((i.op==(10:Int))=true->KN 94 [AV.mc aI (ze s),AV.mc zk (ak t),AV.mc zy (encI i),AV.mc bF (Rj s t i)] (AV.mc bF (KJ s t i))/\LS (KJ s t i) (bX (aR s t i)))/\((i.op==(10:Int))=false->((i.op==(11:Int))=true->KN 91 (AV.int j6 (1:Int)::Ca s t i) (Pj s t i)/\KN 94 [AV.mc aI (ze s),AV.mc zk (ak t),AV.mc zy (encI i),AV.mc bF (EH s t i)] (AV.mc bF (PV s t i))/\LS (PV s t i) (bX (aR s t i)))/\((i.op==(11:Int))=false->((i.op==(12:Int))=true->(GC s t i=true->KN 94 [AV.mc aI (ze s),AV.mc zk (ak t),AV.mc zy (encI i),AV.mc bF (EU s t i)] (AV.mc bF (Pt s t i))/\LS (Pt s t i) (bX (aR s t i)))/\(GC s t i=false->KN 94 [AV.mc aI (ze s),AV.mc zk (ak t),AV.mc zy (encI i),AV.mc bF (LH s t i)] (AV.mc bF (A5 s t i))/\LS (A5 s t i) (bX (aR s t i))))/\((i.op==(12:Int))=false->((i.op==(13:Int))=true->KN 94 [AV.mc aI (ze s),AV.mc zk (ak t),AV.mc zy (encI i),AV.mc bF (RQ t i)] (AV.mc bF (Hh s t i))/\LS (Hh s t i) (bX (aR s t i)))/\((i.op==(13:Int))=false->((i.op==(15:Int))=true->KN 94 [AV.mc aI (ze s),AV.mc zk (ak t),AV.mc zy (encI i),AV.mc bF (MN t i)] (AV.mc bF (AQ s t i))/\LS (AQ s t i) (bX (aR s t i)))/\((i.op==(15:Int))=false->((i.op==(16:Int))=true->KN 94 [AV.mc aI (ze s),AV.mc zk (ak t),AV.mc zy (encI i),AV.mc bF (Qv t i)] (AV.mc bF (Cm s t i))/\LS (Cm s t i) (bX (aR s t i)))/\((i.op==(16:Int))=false->((i.op==(17:Int))=true->KN 93 [AV.mc zm (aj s.mem),AV.int j6 i.obj] (AV.bool (iJ s.mem i.obj))/\KN 92 [AV.bool (iJ s.mem i.obj)] (AV.int j6 (ek (iJ s.mem i.obj)))/\KN 94 [AV.mc aI (ze s),AV.mc zk (ak t),AV.mc zy (encI i),AV.mc bF (Hr s t i)] (AV.mc bF (C5 s t i))/\LS (C5 s t i) (bX (aR s t i)))/\((i.op==(17:Int))=false->KN 94 [AV.mc aI (ze s),AV.mc zk (ak t),AV.mc zy (encI i),AV.mc bF (Es t i)] (AV.mc bF (Iy s t i))/\LS (Iy s t i) (bX (aR s t i))))))))))))) ?_
 try delta Iz Mf qs5 D7 Ef Wg Im Ax qs6 Ex EG zD NU Gw zK Ca Rj KJ Pj EH PV EU Pt GC LH A5 qjg RQ Hh MN AQ Qv Cm Hr C5 Es Iy
 simp only[SB,af]
 have ho:=hi.ok.op
 have K:=λx hx=>agh s t i x hx hs ht hi
 have V:i.op<=14/\i.op≠13 ->iH s.mem i=(fo s.mem i.obj).1:=λh=>by
  unfold iH;rw[x9 (show Xt i from h),zjm hi.form (hi.v (by omega))]
 refine⟨hi.b,hi.c,⟨λh=>⟨hi.v (by omega),(),⟨rfl,rfl,by unfold iH;rw[x9 (show Xt i from h)]⟩,fp rfl,fp rfl,fp rfl⟩,λh=>⟨(),⟨rfl,rfl,by unfold iH;rw[x8 (by unfold Xt;omega)]⟩,fp rfl,fp rfl,fp rfl⟩⟩,λ_ _=>⟨λh8=>⟨K _ rfl,ap1 _ _ _ hi _ ?_⟩,λh8=>⟨λh14=>⟨K _ rfl,ap1 _ _ _ hi _ ?_⟩,λh14=>⟨λh9=>⟨K _ rfl,ap1 _ _ _ hi _ ?_⟩,λh9=>⟨λh10=>⟨K _ rfl,ap1 _ _ _ hi _ ?_⟩,λh10=>⟨λh11=>⟨zys 1 _ _,K _ rfl,ap1 _ _ _ hi _ ?_⟩,λh11=>⟨λh12=>⟨λh=>⟨K _ rfl,ap1 _ _ _ hi _ ?_⟩,λh=>⟨K _ rfl,ap1 _ _ _ hi _ ?_⟩⟩,λh12=>⟨λh13=>⟨K _ rfl,ap1 _ _ _ hi _ ?_⟩,λh13=>⟨λh15=>⟨K _ rfl,ap1 _ _ _ hi _ ?_⟩,λh15=>⟨λh16=>⟨K _ rfl,ap1 _ _ _ hi _ ?_⟩,λh16=>⟨λh17=>⟨zjh _ _ hs.mem,zyr _,K _ rfl,ap1 _ _ _ hi _ ?_⟩,λh17=>⟨K _ rfl,ap1 _ _ _ hi _ ?_⟩⟩⟩⟩⟩⟩⟩⟩⟩⟩⟩⟩
 all_goals rw[XL]
 all_goals have hord:=hi.ord
 all_goals clear K hs ht hi
 iterate 2
  . have v:=V (by omega)
    clear V hord ho
    simp only[cr,aR,bz,iP,v, *,reduceIte,Int.reduceEq]
 . clear V hord ho
   simp only[cr,aR,bz,iP, *,reduceIte,Int.reduceEq]
 iterate 2
  . have v:=V (by omega)
    clear V hord ho
    simp only[cr,aR,bz,iP,v, *,reduceIte,Int.reduceEq]
    try rfl
 . have v:=V (by omega)
   rw[v]at h ⊢
   clear V hord ho v
   simp only[cr,aR,bz,iP, *,reduceIte,Int.reduceEq]
 . have v:=V (by omega)
   rw[v]at h ⊢
   clear V hord ho v
   simp only[cr,aR,bz,iP, *,reduceIte,Int.reduceEq]
 iterate 4
  . have o:=hord (by omega)
    clear V hord ho
    simp only[cr,aR,iP,o, *,reduceIte,Int.reduceEq]
 . have o:=hord (by omega)
   have hc:i.op=18∨i.op=19∨i.op=20∨i.op=21∨i.op=22:=by omega
   clear V hord ho
   rcases hc with e |e |e |e |e
   . simp only[cr,aR,im,iP,o,e,reduceIte,Int.reduceEq]
   . simp only[cr,aR,iP,o,e,reduceIte,Int.reduceEq]
     rw[Int.min_comm]
   all_goals simp only[cr,aR,iP,o,e,reduceIte,Int.reduceEq]
section
variable (s:ag) (i:aK)
def CQ:Int:=s.mem.vars.getD i.obj.toNat 0
end
section
variable (s:ag) (t:aB) (i:aK)
def D6:Int:=(app i.fn (CQ s i) (t.aw.getD i.b.toNat 0)).fst
def qs7:=(!t.phase==0)=true
def TF:=qs7 t->qs7 t
def LF:=xT s.ab (t.aw.getD i.b.toNat 0)
end
theorem afc (hs:cw s) (ht:dU t) (hi:mA s.mem i) (hph:t.phase=0∨t.phase=1∨t.phase=2):KN 90 [cx s,vT t,vI i] (.bool (z20 s t i)):=by
 refine Kn (tR lX s t i 65 λ_=>none) Tryz.func90 (((i.op==14)=true->af i.obj s.mem.vars.length/\af i.b 8/\KN 91 (AV.int j6 i.fn::AV.int j6 (CQ s i)::Te t i) (AV.int j6 (D6 s t i))/\(D6 s t i !=0)=z20 s t i)/\((i.op==14)=false->((i.op==15)=true->KN 93 [AV.mc zm (aj s.mem),AV.int j6 i.obj] (AV.bool (iJ s.mem i.obj))/\iJ s.mem i.obj=z20 s t i)/\((i.op==15)=false->((i.op==18)=true->((t.phase==1)=true->KN 42 [a8 s.mem.sig,AV.int j6 t.id] (AV.bool (X2 s t))/\X2 s t=z20 s t i)/\((t.phase==1)=false->TF t/\TF t/\TF t/\TF t/\(qs7 t->KN 93 [AV.mc zm (aj s.mem),AV.int j6 i.n] (AV.bool (iJ s.mem i.n)))/\TF t/\(t.phase==0||iJ s.mem i.n)=z20 s t i))/\((i.op==18)=false->((i.op==22)=true->af i.b 8/\KN 156 (aF s.ab::Te t i) (AV.bool (LF s t i))/\LF s t i=z20 s t i)/\((i.op==22)=false->true=z20 s t i))))) ?_
 try delta CQ Te D6 X2 qs7 TF LF
 simp only[SB,af]
 simp only[oR]
 refine⟨λh=>⟨hi.v (by omega),hi.b,zys _ _ _, ?_⟩,λh14=>⟨λh=>⟨zjh _ _ hs.mem, ?_⟩,λh15=>⟨λh=>⟨λh2=>⟨zyq _ _ hs.mem.sig, ?_⟩,λh2=>⟨λ_=>zjh _ _ hs.mem, ?_⟩⟩,λh18=>⟨λh=>⟨hi.b,ajo s _ hs, ?_⟩,λh22=>?_⟩⟩⟩⟩
 . unfold z20;rw[x9 h,zjm hi.form (hi.v (by omega))];rfl
 . unfold z20;rw[x8 h14,x9 h]
 . unfold z20;rw[x8 h14,x8 h15,x9 h,x9 h2]
 . unfold z20;rw[x8 h14,x8 h15,x9 h,x8 h2]
   rcases hph with e |e |e
   . grind
   . omega
   . grind
 . unfold z20;rw[x8 h14,x8 h15,x8 h18,x9 h];rfl
 . unfold z20;rw[x8 h14,x8 h15,x8 h18,x8 h22]
section
variable (p:ai) (b:Int) (s:ag) (x3:Nat)
def qs8:=x3<=s.ab.length/\∀ n:Nat,n<x3->kg p b s.ab n
end
theorem akz (p:ai) (b:Int) (s:ag) (hp:bI p) (hs:cw s):KN 88 [vP p, .int .i64 b,aF s.ab] (.bool (rZ p b s.ab)):=by
 refine Kn (tR p s ao dL 40 (zrk p b s)) Tryz.func88 ((∃ i,qs8 p b s i/\(RR b/\nh s/\(0:Int)=↑i)/\LS (ah p) (ah p))/\∀ i:Nat,qs8 p b s i->↑s.ab.length<=(9223372036854775807:Int)/\(qc s i=true->af (↑i) s.ab.length/\KN 102 [AV.mc z7 (ah p),AV.int j6 b,AV.mc zk (ak (s.ab.getD (↑i:Int).toNat ao))] (AV.bool (PU p b s i))/\mG p b s i/\mG p b s i/\qh p b s i/\(mf p b s i->aM j6 (qg i))/\qh p b s i/\qh p b s i/\(mf p b s i->af (qg i) s.ab.length)/\qh p b s i/\qh p b s i/\qh p b s i/\qh p b s i/\(mf p b s i->af (↑i) s.ab.length)/\qh p b s i/\qh p b s i/\qh p b s i/\qh p b s i/\mG p b s i/\(vD p b s i->mh i=true->mf p b s i)/\mG p b s i/\(uc p b s i=true->false=rZ p b s.ab)/\(uc p b s i=false->aM j6 (q9 i)/\(∃ j,qs8 p b s j/\s.ab.length - j<s.ab.length - i/\(RR b/\nh s/\q9 i=↑j)/\LS (ah p) (ah p))))/\(qc s i=false->true=rZ p b s.ab)) ?_
 try delta qs8 nh PU qin qio vD mG mh mf qh qg uc q9 qc
 simp only[SB,af]
 have h1:=hs.ab
 have eT:∀ i,dT (ak (s.ab.getD i ao))=s.ab.getD i ao:=λi=>iz _ (hs.ok i).aw
 simp only[eT,iL]
 refine⟨⟨0,⟨by omega,λj hj=>by omega⟩,rfl,trivial⟩,λi hi=>⟨by omega,λhlt=>⟨hlt,zbb p b _ hp (hs.ok i).wo,λ_=>za (by omega) (by omega),λh=>⟨by omega,by omega⟩,λ_=>hlt,λh=>?_,λh=>⟨za (by omega) (by omega),i+1,⟨by omega,λj hj=>?_⟩,by omega,by omega,trivial⟩⟩,λhge=>?_⟩⟩
 . apply eI;intro hv
   have :=z9k.1 hv i hlt
   rcases h with h | ⟨h,h'⟩
   . rw[this.1]at h;cases h
   . have :=this.2 (by omega)
     rw[show((i:Int) - 1).toNat=i - 1 from by omega]at h'
     omega
 . by_cases e:j=i
   . subst e
     refine⟨h.1,λh0=>?_⟩
     simp_all
   . exact hi.2 j (by omega)
 . symm;rw[z9k]
   exact λj hj=>hi.2 j (by omega)
section
variable (p:ai)
def qs9:=JK p=true
def TK:=qs9 p->qs9 p
variable (b:Int) (s:ag)
def L6:=JK p&&rZ p b s.ab
def qsa:=L6 p b s=true
def qjh:=qsa p b s->qsa p b s
def MF:=L6 p b s&&ec p s.mem
def qsb:=MF p b s=true
def qji:=qsb p b s->qsb p b s
end
theorem zrl (p:ai) (b:Int) (s:ag) (hp:bI p) (hs:cw s):KN 41 [vP p, .int .i64 b,cx s] (.bool (bT p b s)):=by
 refine Kn (tR p s ao dL 28 λ_=>none) Tryz.func41 (KN 87 [AV.mc z7 (ah p)] (AV.bool (JK p))/\TK p/\TK p/\TK p/\TK p/\(qs9 p->KN 88 [AV.mc z7 (ah p),AV.int j6 b,aF s.ab] (AV.bool (rZ p b s.ab)))/\TK p/\qjh p b s/\qjh p b s/\qjh p b s/\(qsa p b s->KN 89 [AV.mc z7 (ah p),AV.mc zm (aj s.mem)] (AV.bool (ec p s.mem)))/\qjh p b s/\qji p b s/\qji p b s/\(qsb p b s->↑s.ae.length<=(9223372036854775807:Int))/\qji p b s/\qji p b s/\(MF p b s&&↑s.ae.length==(0:Int))=bT p b s) ?_
 try delta JK qs9 TK L6 qsa qjh MF qsb qji
 simp only[SB,af]
 have h2:=hs.ae
 refine⟨zoj p hp,λ_=>akz p b s hp hs,λ_=>zy3 p s.mem hp hs.mem.wo,λ_=>by omega, ?_⟩
 grind[bT,ec]
def bW:Mem×Int:=
 if e.kind=2∨e.kind=5 then zr m e.obj e.wrote
 else if e.kind=9 then bc m e.obj e.aC (-1) e.aC
 else if e.kind=11 then(if e.read=1 then bc m e.obj e.aC (-1) e.aC else(m,0))
 else if e.kind=10 then bc m e.obj e.aC e.aC (-1)
 else if e.kind=12 then(if(bc m e.mutex e.aC e.aC (-1)).2≠0 then(m,(bc m e.mutex e.aC e.aC (-1)).2)else aZ (bc m e.mutex e.aC e.aC (-1)).1 e.obj e.aC)
 else if e.kind=13 then dD m e.aC
 else if e.kind=14 then((zi m e.obj 1).1,(zi m e.obj 1).2.2)
 else if e.kind=15 then((zi m e.obj (jn m.a6)).1,(zi m e.obj (jn m.a6)).2.2)
 else(m,0)
def eG:Int:=
 if i.op=8∨i.op=14∨i.op=10∨i.op=11∨i.op=17 then e.read else if i.op=12 then ek (e.kind==5)else if i.op=21 then e.obj else 0
def iq (n:Nat):List aB:=(l.take n).filter λt=>decide (t.id<id)
def nJ (n:Nat):List aB:=(l.take n).filter λt=>decide (id<t.id)
def mJ:List aB:=iq l t.id l.length++(t::nJ l t.id l.length)
abbrev wK:Prop:=∀ (m:Mem) (c id:Int),dk m ->KN 97 [vM m, .int .i64 c, .int .i64 id] (.av [vM (aZ m c id).1, .int .i64 (aZ m c id).2])
def oR4:FuncId ->List AV ->Option AV
 |73,[.mc _ m, .int _ x, .int _ v]=>some (.av [vM (zr (dM m) x v).1, .int .i64 (zr (dM m) x v).2])
 |95,[.mc _ m, .int _ i, .int _ id]=>some (.av [vM (bc (dM m) i id (-1) id).1, .int .i64 (bc (dM m) i id (-1) id).2])
 |96,[.mc _ m, .int _ i, .int _ id]=>some (.av [vM (bc (dM m) i id id (-1)).1, .int .i64 (bc (dM m) i id id (-1)).2])
 |97,[.mc _ m, .int _ c, .int _ id]=>some (.av [vM (aZ (dM m) c id).1, .int .i64 (aZ (dM m) c id).2])
 |98,[.mc _ m, .int _ id]=>some (.av [vM (dD (dM m) id).1, .int .i64 (dD (dM m) id).2])
 |99,[.mc _ m, .int _ c]=>some (.av [vM (zi (dM m) c 1).1, .int .i64 (zi (dM m) c 1).2.1, .int .i64 (zi (dM m) c 1).2.2])
 |100,[.mc _ m, .int _ c]=>some (.av [vM (zi (dM m) c (jn (dM m).a6)).1, .int .i64 (zi (dM m) c (jn (dM m).a6)).2.1, .int .i64 (zi (dM m) c (jn (dM m).a6)).2.2])
 |101,[.mc _ m]=>some (vM (dM m))
 |92,[.bool b]=>some (.int .i64 (ek b))
 |_,_=>none
noncomputable def vR4 (n:Nat) (I:Nat ->Option Inv):bm:={C:=di n λ_ _=>false,CC:=eS Tryz.prog GG,b9:=λ_ _=>oR4,inv:=I}
def KnE:Prop:=((m.vars.length=(bW m e).1.vars.length/\∀ i:Nat,i<m.vars.length ->AV.int .i64 (m.vars.getD i 0)= .int .i64 ((bW m e).1.vars.getD i 0))/\(m.aa.length=(bW m e).1.aa.length/\∀ i:Nat,i<m.aa.length ->AV.int .i64 (m.aa.getD i 0)= .int .i64 ((bW m e).1.aa.getD i 0))/\(m.a6.length=(bW m e).1.a6.length/\∀ i:Nat,i<m.a6.length ->a8 (m.a6.getD i [])=a8 ((bW m e).1.a6.getD i []))/\m.sig.length=(bW m e).1.sig.length/\∀ i:Nat,i<m.sig.length ->AV.int .i64 (m.sig.getD i 0)= .int .i64 ((bW m e).1.sig.getD i 0))/\0=(bW m e).2
def Bw:AV:= .mc aI (.agg [.own 0 s.ab.length,aj s.mem, .own 1 s.ae.length])
def zyx (k:Nat):Option Inv:=match Nat.beq k 3 with
 |true=>iv l.length λi=>⟨[(0,aF l),(3, .ptr 3 []),(5, .own 28 (iq l t.id i).length),(6, .int .i64 i)],[(3, .cell 51 zk (ak t)),(28,eO (iq l t.id i))]⟩
 |false=>match Nat.beq k 9 with
  |true=>iv l.length λi=>⟨[(0,aF l),(3, .ptr 3 []),(5, .own 28 (iq l t.id l.length++(t::nJ l t.id i)).length),(7, .int .i64 i)],[(3, .cell 51 zk (ak t)),(28,eO (iq l t.id l.length++(t::nJ l t.id i)))]⟩
  |false=>none
def zyz (k:Nat):Option Inv:=match Nat.beq k 3 with
 |true=>iv s.ab.length λi=>⟨[(1, .ptr 1 []),(2, .ptr 2 []),(3, .ptr 3 []),(4, .int .i64 i)],[(1,fb s),(2,fb aN),(3, .cell 35 aI (.agg [.own 33 (s.ab.take i).length,aj s.mem, .ax])),(33,eO (s.ab.take i))]⟩
 |false=>match Nat.beq k 9 with
  |true=>iv s.ae.length λi=>⟨[(1, .ptr 1 []),(2, .ptr 2 []),(3, .ptr 3 []),(6, .int .i64 i)],[(1,fb s),(2,fb aN),(3, .cell 35 aI (.agg [.own 33 s.ab.length,aj s.mem, .own 56 (s.ae.take i).length])),(33,eO s.ab),(56,aox (s.ae.take i))]⟩
  |false=>none
theorem zrm (hm:dk m):KN 101 [vM m] (vM m):=by
 refine Kn (sF 34 (λd=>Nat.beq d 7 || (Nat.beq d 10 || Nat.beq d 13)) (zeh m)) Tryz.func101 ((KF (161:Nat) [a8 m.vars] (AV.own (0:Nat) m.vars.length) [ar.row (3:TypeId) leaf (ql m) λi=>qu m i])/\(KF (161:Nat) [a8 m.aa] (AV.own (0:Nat) m.aa.length) [ar.row (3:TypeId) leaf (qm m) λi=>qv m i])/\(KF (161:Nat) [a8 m.sig] (AV.own (0:Nat) m.sig.length) [ar.row (3:TypeId) leaf (qk m) λi=>qo m i])/\(∃ (i:Nat),i<=List.length (Mem.a6 m)/\(0:Int)=(↑i:Int)/\LS (aj m) (aj m)/\((0:Nat)=(0:Nat)/\(0:Nat)=(0:Nat)/\(0:Nat)=(0:Nat)/\(0:Nat)=(0:Nat))/\(RR (List.length (Mem.vars m))/\RR (List.length (Mem.aa m))/\oi m i/\RR (List.length (Mem.sig m)))/\(ql m=List.length (Mem.vars m)/\∀ (i:Nat),i<ql m->qu m i=AV.int j6 (List.getD (Mem.vars m) i (0:Int)))/\(qm m=List.length (Mem.aa m)/\∀ (i:Nat),i<qm m->qv m i=AV.int j6 (List.getD (Mem.aa m) i (0:Int)))/\oi m i/\qk m=List.length (Mem.sig m)/\∀ (i:Nat),i<qk m->qo m i=AV.int j6 (List.getD (Mem.sig m) i (0:Int)))/\∀ i:Nat,i<=m.a6.length->↑m.a6.length<=(9223372036854775807:Int)/\(qj m i=true->af (↑i) m.a6.length/\KN 161 [a8 (m.a6.getD (↑i:Int).toNat [])] (mE m i)/\1*leaf.size<=16777216/\(RR (List.take i m.a6).length/\↑(lU m i)*↑(24:Nat)<=(140737488355328:Int)/\lU m i<=9223372036854775807)/\1<=1/\aM j6 (q9 i)/\(∃ (j:Nat),j<=List.length (Mem.a6 m)/\qi m j<qi m i/\q9 i=(↑j:Int)/\LS (aj m) (aj m)/\(nj/\nj/\(RR ((0:Nat))/\∀ (i:Nat),i<(0:Nat)->RR (a8 (List.getD [] i [])))/\nj)/\(RR (List.length (Mem.vars m))/\RR (List.length (Mem.aa m))/\oH m i j/\RR (List.length (Mem.sig m)))/\lp m/\lg m/\(oH m i j/\∀ (i_1:Nat),i_1<lU m i->(if i_1<List.length (List.take i (Mem.a6 m))then oA m i i_1 else List.getD (List.set (List.replicate (1:Nat) AV.ax) (0:Nat) (aq (mE m i))) (i_1 - List.length (List.take i (Mem.a6 m))) AV.any)=oA m j i_1)/\mw m))/\(qj m i=false->m.vars.length<=m.vars.length/\m.aa.length<=m.aa.length/\(List.take i m.a6).length<=(List.take i m.a6).length/\m.sig.length<=m.sig.length/\lp m/\lg m/\((List.take i m.a6).length=m.a6.length/\∀ (i_1:Nat),i_1<(List.take i m.a6).length->oA m i i_1=a8 (m.a6.getD i_1 []))/\mw m)) ?_
 try delta sQ ql qu tZ qm qv qB qk qo oi mE lU q9 qi nj oH lp lg oA mw qj
 simp only[SB,af]
 simp only[oR,w6,iL]
 have s3:=hm.a6
 refine⟨nF _ hm.vars,nF _ hm.aa,nF _ hm.sig,⟨0,by omega,rfl,by simp⟩,λi hi=>⟨by omega,λhlt=>?_,λhge=>?_⟩⟩
 . have hn:(m.a6.take i).length=i:=by rw[xr];omega
   have e:m.a6.take (i+1)=m.a6.take i++[m.a6.getD i []]:=by
    simp_all
   refine⟨hlt,zlu _ (hm.q i),by decide,⟨by omega,by omega⟩,za (by omega) (by omega),i+1,by omega,by omega,by omega, ?_⟩
   rw[e];exact⟨by simp,by simp,λj hj=>nS a8 _ [] _ _ j hj⟩
 . rw[xu (by omega)];exact⟨rfl,λ_ _=>rfl⟩
section
variable (m:Mem) (e:Ev)
def Nr:=KN 73 [AV.mc zm (aj m),AV.int j6 e.obj,AV.int j6 e.wrote] (AV.av [AV.mc zm (aj (zr (dM (aj m)) e.obj e.wrote).fst),AV.int j6 (zr (dM (aj m)) e.obj e.wrote).snd])/\LS (aj (zr (dM (aj m)) e.obj e.wrote).fst) (aj (bW m e).fst)/\(zr (dM (aj m)) e.obj e.wrote).snd=(bW m e).snd
def asv:=(e.kind==2)=true
def Na:List AV:=[AV.int j6 e.obj,AV.int j6 e.aC]
def LJ:List AV:=AV.mc zm (aj m)::Na e
def Ar:Mem×Int:=bc (dM (aj m)) e.obj e.aC (-1) e.aC
def NO:=aj (Ar m e).fst
def Bf:Int:=(Ar m e).snd
def Mz:=KN 95 (LJ m e) (AV.av [AV.mc zm (NO m e),AV.int j6 (Bf m e)])/\LS (NO m e) (aj (bW m e).fst)/\Bf m e=(bW m e).snd
def Gn:=KN 101 [AV.mc zm (aj m)] (AV.mc zm (AV.agg [a8 (dR dI (a8 m.vars)),a8 (dR dI (a8 m.aa)),aE (dR (dR dI) (aE m.a6)),a8 (dR dI (a8 m.sig))]))/\(((dR dI (a8 m.vars)).length=(bW m e).fst.vars.length/\∀ i:Nat,i<(dR dI (a8 m.vars)).length->AV.int j6 ((dR dI (a8 m.vars)).getD i 0)=AV.int j6 ((bW m e).fst.vars.getD i 0))/\((dR dI (a8 m.aa)).length=(bW m e).fst.aa.length/\∀ i:Nat,i<(dR dI (a8 m.aa)).length->AV.int j6 ((dR dI (a8 m.aa)).getD i 0)=AV.int j6 ((bW m e).fst.aa.getD i 0))/\((dR (dR dI) (aE m.a6)).length=(bW m e).fst.a6.length/\∀ i:Nat,i<(dR (dR dI) (aE m.a6)).length->a8 ((dR (dR dI) (aE m.a6)).getD i [])=a8 ((bW m e).fst.a6.getD i []))/\(dR dI (a8 m.sig)).length=(bW m e).fst.sig.length/\∀ i:Nat,i<(dR dI (a8 m.sig)).length->AV.int j6 ((dR dI (a8 m.sig)).getD i 0)=AV.int j6 ((bW m e).fst.sig.getD i 0))/\0=(bW m e).snd
def Is:Mem×Int:=bc (dM (aj m)) e.obj e.aC e.aC (-1)
def Rf:=aj (Is m e).fst
def Qd:Int:=(Is m e).snd
def Qe:Mem×Int:=bc (dM (aj m)) e.mutex e.aC e.aC (-1)
def Mp:=aj (Qe m e).fst
def M8:=AV.mc zm (Mp m e)
def qsc:Int:=(Qe m e).snd
def CH:=qsc m e !=0
def SL:Mem×Int:=aZ (dM (Mp m e)) e.obj e.aC
def OH:=aj (SL m e).fst
def LA:Int:=(SL m e).snd
def SJ:=((e.kind==9)=true->Mz m e)/\((e.kind==9)=false->((e.kind==11)=true->((e.read==1)=true->Mz m e)/\((e.read==1)=false->Gn m e))/\((e.kind==11)=false->((e.kind==10)=true->KN 96 (LJ m e) (AV.av [AV.mc zm (Rf m e),AV.int j6 (Qd m e)])/\LS (Rf m e) (aj (bW m e).fst)/\Qd m e=(bW m e).snd)/\((e.kind==10)=false->((e.kind==12)=true->KN 96 [AV.mc zm (aj m),AV.int j6 e.mutex,AV.int j6 e.aC] (AV.av [M8 m e,AV.int j6 (qsc m e)])/\(CH m e=true->LS (aj m) (aj (bW m e).fst)/\qsc m e=(bW m e).snd)/\(CH m e=false->KN 97 (M8 m e::Na e) (AV.av [AV.mc zm (OH m e),AV.int j6 (LA m e)])/\LS (OH m e) (aj (bW m e).fst)/\LA m e=(bW m e).snd))/\((e.kind==12)=false->((e.kind==13)=true->KN 98 [AV.mc zm (aj m),AV.int j6 e.aC] (AV.av [AV.mc zm (aj (dD (dM (aj m)) e.aC).fst),AV.int j6 (dD (dM (aj m)) e.aC).snd])/\LS (aj (dD (dM (aj m)) e.aC).fst) (aj (bW m e).fst)/\(dD (dM (aj m)) e.aC).snd=(bW m e).snd)/\((e.kind==13)=false->((e.kind==14)=true->KN 99 (Wn m e) (AV.av [AV.mc zm (TE m e),AV.int j6 (ZA m e).fst,AV.int j6 (U9 m e)])/\LS (TE m e) (aj (bW m e).fst)/\U9 m e=(bW m e).snd)/\((e.kind==14)=false->((e.kind==15)=true->KN 100 (Wn m e) (AV.av [AV.mc zm (TI m e),AV.int j6 (qj4 m e).fst,AV.int j6 (UF m e)])/\LS (TI m e) (aj (bW m e).fst)/\UF m e=(bW m e).snd)/\((e.kind==15)=false->Gn m e)))))))
def J8:=(e.kind==2)=false
end
theorem aha (hm:dk m) (hE:wK):KN 46 [vM m,dh e] (.av [vM (bW m e).1, .int .i64 (bW m e).2]):=by
 refine Kn (vR4 117 λ_=>none) Tryz.func46 ((asv e->(asv e->Nr m e)/\(J8 e->SJ m e))/\(J8 e->((e.kind==5)=true->Nr m e)/\((e.kind==5)=false->SJ m e))) ?_
 try delta Nr asv Na LJ Ar NO Bf Mz Gn Is Rf Qd Qe Mp M8 qsc CH SL OH LA Wn TE ZA U9 qrs TI qj4 UF SJ J8
 simp only[SB,af]
 have L:∀ {x:Mem} {v:Int},bW m e=(x,v) ->LS (aj x) (aj (bW m e).1)/\v=(bW m e).2:=λh=>by rw[h];exact⟨fp rfl,rfl⟩
 have L2:=λ(h:bW m e=(m,0))=>show KnE m e from by unfold KnE;rw[h];exact⟨⟨⟨rfl,λ_ _=>rfl⟩,⟨rfl,λ_ _=>rfl⟩,⟨rfl,λ_ _=>rfl⟩,rfl,λ_ _=>rfl⟩,rfl⟩
 refine⟨λh2=>⟨λ_=>⟨zfx _ _ _ hm,L ?_⟩,λh=>(h h2).elim⟩,λh2=>⟨λh5=>⟨zfx _ _ _ hm,L ?_⟩,λh5=>⟨λh9=>⟨zy4 _ _ _ hm,L ?_⟩,λh9=>⟨λh11=>⟨λh=>⟨zy4 _ _ _ hm,L ?_⟩,λh=>⟨zrm _ hm,L2 ?_⟩⟩,λh11=>⟨λh10=>⟨zy5 _ _ _ hm,L ?_⟩,λh10=>⟨λh12=>⟨zy5 _ _ _ hm,λh=>L ?_,λh=>⟨hE _ _ _ (Zg hm _ _ _ _).1,L ?_⟩⟩,λh12=>⟨λh13=>⟨aiv _ _ hm,L ?_⟩,λh13=>⟨λh14=>⟨akp _ _ hm,L ?_⟩,λh14=>⟨λh15=>⟨al7 _ _ hm,L ?_⟩,λh15=>⟨zrm _ hm,L2 ?_⟩⟩⟩⟩⟩⟩⟩⟩⟩⟩
 all_goals clear L L2 hE hm
 all_goals simp[bW, *]
section
variable (e:Ev)
def Ol:Int:=ek (e.kind==5)
end
section
variable (i:aK) (e:Ev)
def Ut:=((i.op==12)=true->KN 92 [AV.bool (e.kind==(5:Int))] (AV.int j6 (Ol e))/\Ol e=eG i e)/\((i.op==12)=false->((i.op==21)=true->e.obj=eG i e)/\((i.op==21)=false->0=eG i e))
def Cr:=(i.op==14)=true
def Bq:=(i.op==14)=false
end
theorem zz0:KN 50 [vI i,dh e] (.int .i64 (eG i e)):=by
 refine Kn (vR4 25 λ_=>none) Tryz.func50 ((W7 i->(W7 i->e.read=eG i e)/\(WD i->Ut i e))/\(WD i->(Cr i->(Cr i->e.read=eG i e)/\(Bq i->Ut i e))/\(Bq i->(Tg i->(Tg i->e.read=eG i e)/\(UC i->Ut i e))/\(UC i->(Uj i->(Uj i->e.read=eG i e)/\(VV i->Ut i e))/\(VV i->((i.op==17)=true->e.read=eG i e)/\((i.op==17)=false->Ut i e)))))) ?_
 try delta W7 Ol Ut WD Cr Bq Tg UC Uj VV
 simp only[SB,af]
 refine⟨λa=>⟨λ_=>?_,λh=>(h a).elim⟩,λa=>⟨λb=>⟨λ_=>?_,λh=>(h b).elim⟩,λb=>⟨λc=>⟨λ_=>?_,λh=>(h c).elim⟩,λc=>⟨λd=>⟨λ_=>?_,λh=>(h d).elim⟩,λd=>⟨λf=>?_,λf=>⟨λg=>⟨zyr _, ?_⟩,λg=>⟨λh=>?_,λh=>?_⟩⟩⟩⟩⟩⟩⟩
 all_goals simp[eG, *]
theorem Zx (P:aB ->Bool) (l:List aB) {i:Nat} (hi:i<l.length):(l.take (i+1)).filter P=(l.take i).filter P++(if P (l.getD i ao)then [l.getD i ao]else []):=by
 rw[ja,xe hi,List.filter_append,x7,xe hi]
 simp[List.filter_cons]
theorem Yv {l:List aB} {id:Int} {i:Nat} (hi:i<l.length):iq l id (i+1)=iq l id i++(if(l.getD i ao).id<id then [l.getD i ao]else []):=by
 unfold iq;rw[Zx _ l hi];simp
theorem aax {l:List aB} {id:Int} {i:Nat} (hi:i<l.length):nJ l id (i+1)=nJ l id i++(if id<(l.getD i ao).id then [l.getD i ao]else []):=by
 unfold nJ;rw[Zx _ l hi];simp
theorem zz1 (P:aB ->Bool) (l:List aB) (i:Nat):((l.take i).filter P).length<=i:=yd (yo _ _) (by rw[xr];omega)
theorem aj9 (i:Nat):(iq l id i).length<=i:=zz1 _ l i
theorem agt (i:Nat):(nJ l id i).length<=i:=zz1 _ l i
section
variable (l:List aB)
def P0:=RR l.length/\∀ (i:Nat),i<l.length->RR (ak (l.getD i ao))
variable (t:aB) (x2:Nat)
def B9:=(iq l t.id x2).length=0
def E4:=↑l.length<=(9223372036854775807:Int)
def qsd:=1*zk.size<=16777216
def Vo:Nat:=(iq l t.id x2).length+1
def Hw:=RR (iq l t.id x2).length/\↑(Vo l t x2)*↑(152:Nat)<=(140737488355328:Int)/\Vo l t x2<=9223372036854775807
end
section
variable (l:List aB) (x1:Nat) (x2:Nat)
def qjj:=l.length - x2<l.length - x1
end
section
variable (l:List aB) (t:aB) (x2:Nat) (x3:Nat)
def Mj:=Vo l t x2=(iq l t.id x3).length
def Pz:List AV:=List.replicate 1 (AV.agg [AV.int j6 0,AV.int j6 0,AV.int j6 0,AV.arr 8 λx=>AV.int j6 0,AV.int j6 0,AV.int j6 0,AV.int j6 0,AV.int j6 0,AV.int j6 0,AV.ax])
variable (x1:Nat)
def Jg:List AV:=Pz.set 0 (ak (l.getD (↑x1:Int).toNat ao))
def Rn:Nat:=x3 - (iq l t.id x2).length
def R6:=x3<Vo l t x2
def Jt:=decide ((l.getD (↑x2:Int).toNat ao).id<t.id)
def G3:=(iq l t.id x2).length=(iq l t.id x3).length
def Bo:=sX l x1=true
def Hz:List aB:=iq l t.id l.length++t::nJ l t.id x2
def sd:Nat:=(Hz l t x2).length
def Od:=Vo l t x2=sd l t x3
def Qk:=ak ((Hz l t x2).getD x3 ao)
def qjk:Nat:=sd l t x2+1
def Jh:=qjk l t x2=sd l t x3
def QB:=decide (t.id<(l.getD (↑x2:Int).toNat ao).id)
def Ec:=sd l t x2=sd l t x3
def KD:=x3<sd l t x2
def BB:=sd l t x2=(mJ l t).length
def LN:=sX l x1=false
end
theorem agr (hl:l.length<1000000):KF 48 [aF l,vT t] (.own 0 (mJ l t).length) [eO (mJ l t)]:=by
 refine nc (vR4 55 (zyx l t)) Tryz.func48 ((∃ i,i<=l.length/\(P0 l/\B9 l t i/\(0:Int)=↑i)/\LS (ak t) (ak t)/\B9 l t i)/\∀ i:Nat,i<=l.length->E4 l/\(Bo l i->af (↑i) l.length/\(Jt l t i=true->af (↑i) l.length/\qsd/\Hw l t i/\qf/\qa i/\(∃ j,j<=l.length/\qjj l i j/\(P0 l/\Mj l t i j/\qb i j)/\LS (ak t) (ak t)/\Mj l t i j/\∀ (i_1:Nat),R6 l t i i_1->(if i_1<(iq l t.id i).length then ak ((iq l t.id i).getD i_1 ao)else(Jg l i).getD (Rn l t i i_1) AV.any)=ak ((iq l t.id j).getD i_1 ao)))/\(Jt l t i=false->qa i/\(∃ j,j<=l.length/\qjj l i j/\(P0 l/\G3 l t i j/\qb i j)/\LS (ak t) (ak t)/\G3 l t i j/\∀ (i_1:Nat),i_1<(iq l t.id i).length->ak ((iq l t.id i).getD i_1 ao)=ak ((iq l t.id j).getD i_1 ao))))/\(LN l i->qsd/\Hw l t i/\qf/\(∃ i_1,i_1<=l.length/\(P0 l/\Od l t i i_1/\(0:Int)=↑i_1)/\LS (ak t) (ak t)/\Od l t i i_1/\∀ (i_2:Nat),R6 l t i i_2->(if i_2<(iq l t.id i).length then ak ((iq l t.id i).getD i_2 ao)else(Pz.set (0:Nat) (ak t)).getD (Rn l t i i_2) AV.any)=Qk l t i_1 i_2)/\∀ (i:Nat),i<=l.length->E4 l/\(Bo l i->af (↑i) l.length/\(QB l t i=true->af (↑i) l.length/\qsd/\(RR (sd l t i)/\↑(qjk l t i)*↑(152:Nat)<=(140737488355328:Int)/\qjk l t i<=(9223372036854775807:Nat))/\qf/\qa i/\∃ j,j<=l.length/\qjj l i j/\(P0 l/\Jh l t i j/\qb i j)/\LS (ak t) (ak t)/\Jh l t i j/\∀ (i_1:Nat),i_1<qjk l t i->(if i_1<(iq l t.id l.length++t::nJ l t.id i).length then Qk l t i i_1 else(Jg l i).getD (i_1 - sd l t i) AV.any)=Qk l t j i_1)/\(QB l t i=false->qa i/\∃ j,j<=l.length/\qjj l i j/\(P0 l/\Ec l t i j/\qb i j)/\LS (ak t) (ak t)/\Ec l t i j/\∀ (i_1:Nat),KD l t i i_1->Qk l t i i_1=Qk l t j i_1))/\(LN l i->BB l t i/\BB l t i/\∀ (i_1:Nat),KD l t i i_1->Qk l t i i_1=ak ((mJ l t).getD i_1 ao)))) ?_
 try delta P0 B9 E4 qsd Vo Hw qf q9 qa qjj Mj qb Pz Jg Rn R6 Jt G3 sX Bo Hz sd Od Qk qjk Jh QB Ec KD BB LN
 simp only[SB,af]
 simp only[iL,w6]
 have tE:∀ (L:List aB) (x:aB) (j:Nat),j<L.length+1 ->_:=λL x j hj=>nS ak (AV.agg [.int .i64 0, .int .i64 0, .int .i64 0, .arr 8 λ_=> .int .i64 0, .int .i64 0, .int .i64 0, .int .i64 0, .int .i64 0, .int .i64 0, .ax]) ao L x j hj
 have hz:=aj9 l t.id
 have hy:=agt l t.id
 refine⟨⟨0,by omega,⟨rfl,rfl⟩,rfl⟩,λi hi=>⟨by omega,λhlt=>⟨hlt,λh=>⟨hlt,by decide, ?_,za (by omega) (by omega),i+1,by omega,by omega, ?_⟩,λh=>⟨za (by omega) (by omega),i+1,by omega,by omega, ?_⟩⟩,λhge=>⟨by decide, ?_,⟨0,by omega, ?_⟩,λk hk=>⟨by omega,λhlt=>⟨hlt,λh=>⟨hlt,by decide, ?_,za (by omega) (by omega),k+1,by omega,by omega, ?_⟩,λh=>⟨za (by omega) (by omega),k+1,by omega,by omega, ?_⟩⟩,λhge=>?_⟩⟩⟩⟩
 . have :=hz i;omega
 . rw[Yv hlt,x9 h]
   grind
 . rw[Yv hlt,x8 h,yb]
   grind
 . have :=hz i;omega
 . rw[show i=l.length from by omega]
   have e:nJ l t.id 0=[]:=rfl
   grind
 . have :=hz l.length
   have :=hy k
   simp only[xl,yp];omega
 . have e:iq l t.id l.length++(t::nJ l t.id (k+1))=(iq l t.id l.length++(t::nJ l t.id k))++[l.getD k ao]:=by
    rw[aax hlt,x9 h];simp
   rw[e]
   exact⟨⟨by rw[xl (bs:=[_])];rfl,by omega⟩,by rw[xl (bs:=[_])];rfl,λj hj=>tE _ _ j hj⟩
 . rw[aax hlt,x8 h,yb]
   exact⟨⟨rfl,by omega⟩,rfl,λ_ _=>rfl⟩
 . rw[show k=l.length from by omega]
   exact⟨rfl,rfl,λ_ _=>rfl⟩
section
variable (s:ag) (x1:Nat)
def QO:=(List.take x1 s.ab).length=0
def Wd:Nat:=0+(s.ab.getD (↑x1:Int).toNat ao).held.length
def qse:=Wd s x1<=Wd s x1
def qjl:Nat:=(List.take x1 s.ab).length+1
variable (x2:Nat)
def QX:=qjl s x1=(List.take x2 s.ab).length
def CL:=(List.take x1 s.ab).length=s.ab.length
def Ns:=(List.take x1 s.ae).length=0
def Th:Nat:=0+(s.ae.getD (↑x1:Int).toNat az).entries.length
def qsf:=Th s x1<=Th s x1
def Zt:Nat:=(List.take x1 s.ae).length+1
def Kw:=Zt s x1=(List.take x2 s.ae).length
def BF:=(List.take x1 s.ae).length=s.ae.length
end
theorem Yi (hs:cw s):KF 47 [cx s] (Bw s) [eO s.ab,aox s.ae]:=by
 refine nc (vR4 59 (zyz s)) Tryz.func47 (KN 101 [AV.mc zm (aj s.mem)] (AV.mc zm (AV.agg [a8 (dR dI (a8 s.mem.vars)),a8 (dR dI (a8 s.mem.aa)),aE (dR (dR dI) (aE s.mem.a6)),a8 (dR dI (a8 s.mem.sig))]))/\(∃ (i:Nat),i<=List.length (ag.ab s)/\(0:Int)=(↑i:Int)/\LS (ze s) (ze s)/\((0:Nat)=(0:Nat)/\((0:Nat)=(0:Nat)/\(0:Nat)=(0:Nat)/\(0:Nat)=(0:Nat)/\(0:Nat)=(0:Nat))/\(0:Nat)=(0:Nat))/\(QO s i/\(List.length (dR dI (a8 (Mem.vars (ag.mem s))))=List.length (Mem.vars (ag.mem s))/\∀ (i:Nat),i<List.length (dR dI (a8 (Mem.vars (ag.mem s))))->AV.int j6 (List.getD (dR dI (a8 (Mem.vars (ag.mem s)))) i (0:Int))=AV.int j6 (List.getD (Mem.vars (ag.mem s)) i (0:Int)))/\(List.length (dR dI (a8 (Mem.aa (ag.mem s))))=List.length (Mem.aa (ag.mem s))/\∀ (i:Nat),i<List.length (dR dI (a8 (Mem.aa (ag.mem s))))->AV.int j6 (List.getD (dR dI (a8 (Mem.aa (ag.mem s)))) i (0:Int))=AV.int j6 (List.getD (Mem.aa (ag.mem s)) i (0:Int)))/\(WE s=List.length (Mem.a6 (ag.mem s))/\∀ (i:Nat),i<WE s->a8 (List.getD (dR (dR dI) (aE (Mem.a6 (ag.mem s)))) i [])=a8 (List.getD (Mem.a6 (ag.mem s)) i []))/\List.length (dR dI (a8 (Mem.sig (ag.mem s))))=List.length (Mem.sig (ag.mem s))/\∀ (i:Nat),i<List.length (dR dI (a8 (Mem.sig (ag.mem s))))->AV.int j6 (List.getD (dR dI (a8 (Mem.sig (ag.mem s)))) i (0:Int))=AV.int j6 (List.getD (Mem.sig (ag.mem s)) i (0:Int)))/\QO s i)/\∀ i:Nat,i<=s.ab.length->↑s.ab.length<=(9223372036854775807:Int)/\(qc s i=true->af (↑i) s.ab.length/\0*leaf.size<=16777216/\(RR 0/\↑(Wd s i)*↑(8:Nat)<=(140737488355328:Int)/\Wd s i<=9223372036854775807)/\qse s i/\qse s i/\qse s i/\1*zk.size<=16777216/\(RR (List.take i s.ab).length/\↑(qjl s i)*↑(152:Nat)<=(140737488355328:Int)/\qjl s i<=9223372036854775807)/\qf/\qa i/\(∃ j,j<=s.ab.length/\s.ab.length - j<s.ab.length - i/\qb i j/\LS (ze s) (ze s)/\pL/\(QX s i j/\LS (aj s.mem) (aj s.mem))/\QX s i j/\∀ (i_1:Nat),i_1<qjl s i->(if i_1<(List.take i s.ab).length then ak ((List.take i s.ab).getD i_1 ao)else((List.replicate 1 (AV.agg (AV.int j6 0::AV.int j6 0::AV.int j6 0::(AV.arr 8 λx=>AV.int j6 0)::AV.int j6 0::AV.int j6 0::AV.int j6 0::um))).set 0 (AV.agg [AV.int j6 (s.ab.getD (↑i:Int).toNat ao).id,AV.int j6 (s.ab.getD (↑i:Int).toNat ao).fn,AV.int j6 (s.ab.getD (↑i:Int).toNat ao).pc,AV.arr 8 λi_2=>AV.int j6 ((s.ab.getD (↑i:Int).toNat ao).aw.getD i_2 0),AV.int j6 (s.ab.getD (↑i:Int).toNat ao).steps,AV.int j6 (s.ab.getD (↑i:Int).toNat ao).kids,AV.int j6 (s.ab.getD (↑i:Int).toNat ao).phase,AV.int j6 (s.ab.getD (↑i:Int).toNat ao).status,AV.int j6 (s.ab.getD (↑i:Int).toNat ao).fault,AV.seq leaf (Wd s i) λi_2=>if i_2<0 then(List.replicate 0 (AV.int j6 0)).getD i_2 AV.any else AV.int j6 ((s.ab.getD (↑i:Int).toNat ao).held.getD (Uh i_2) 0)])).getD (i_1 - (List.take i s.ab).length) AV.any)=ak ((List.take j s.ab).getD i_1 ao)))/\(qc s i=false->(∃ i_1,i_1<=s.ae.length/\(0:Int)=↑i_1/\LS (ze s) (ze s)/\pL/\(CL s i/\LS (aj s.mem) (aj s.mem)/\Ns s i_1)/\(CL s i/\∀ (i_2:Nat),i_2<(List.take i s.ab).length->ak ((List.take i s.ab).getD i_2 ao)=ak (s.ab.getD i_2 ao))/\Ns s i_1)/\∀ (i:Nat),i<=s.ae.length->(↑s.ae.length:Int)<=(9223372036854775807:Int)/\(uJ s i=true->af (↑i:Int) s.ae.length/\(0:Nat)*dz.size<=(16777216:Nat)/\(RR (0:Nat)/\(↑(Th s i):Int)*(↑(16:Nat):Int)<=(140737488355328:Int)/\Th s i<=(9223372036854775807:Nat))/\qsf s i/\qsf s i/\qsf s i/\(1:Nat)*c7.size<=(16777216:Nat)/\(RR (List.take i s.ae).length/\(↑(Zt s i):Int)*(↑(40:Nat):Int)<=(140737488355328:Int)/\Zt s i<=(9223372036854775807:Nat))/\qf/\qa i/\∃ j,j<=s.ae.length/\s.ae.length - j<s.ae.length - i/\qb i j/\LS (ze s) (ze s)/\pL/\(RR s.ab.length/\LS (aj s.mem) (aj s.mem)/\Kw s i j)/\nh s/\Kw s i j/\∀ (i_1:Nat),i_1<Zt s i->(if i_1<(List.take i s.ae).length then aA ((List.take i s.ae).getD i_1 az)else((List.replicate (1:Nat) (AV.agg um)).set (0:Nat) (AV.agg [AV.int j6 (s.ae.getD (↑i:Int).toNat az).ay,AV.int j6 (s.ae.getD (↑i:Int).toNat az).first,AV.seq dz (Th s i) λi_2=>if i_2<(0:Nat)then(List.replicate (0:Nat) (AV.agg [AV.int j6 (0:Int),AV.int j6 (0:Int)])).getD i_2 AV.any else cF ((s.ae.getD (↑i:Int).toNat az).entries.getD (Uh i_2) cc)])).getD (i_1 - (List.take i s.ae).length) AV.any)=aA ((List.take j s.ae).getD i_1 az))/\(uJ s i=false->(RR s.ab.length/\LS (aj s.mem) (aj s.mem)/\BF s i)/\nh s/\BF s i/\∀ (i_1:Nat),i_1<(List.take i s.ae).length->aA ((List.take i s.ae).getD i_1 az)=aA (s.ae.getD i_1 az)))) ?_
 try delta QO WE Wd qse qjl qf q9 qa qb nj pL QX um Uh qc CL Ns Th qsf Zt Kw nh uJ BF
 simp only[SB,af]
 simp only[iL,w6,wg,jo,yi,yg]
 have h1:=hs.ab
 have h2:=hs.ae
 have tE:∀ (L:List aB) (x:aB) (j:Nat),j<L.length+1 ->_:=λL x j hj=>nS ak (AV.agg [.int .i64 0, .int .i64 0, .int .i64 0, .arr 8 λ_=> .int .i64 0, .int .i64 0, .int .i64 0, .int .i64 0, .int .i64 0, .int .i64 0, .ax]) ao L x j hj
 have bE:∀ (L:List bR) (x:bR) (j:Nat),j<L.length+1 ->_:=λL x j hj=>nS aA (AV.agg [.int .i64 0, .int .i64 0, .ax]) az L x j hj
 have tk:∀ {i:Nat},i<s.ab.length ->s.ab.take (i+1)=s.ab.take i++[s.ab.getD i ao]:=fun {i} h=>by
  simp_all
 have bk:∀ {i:Nat},i<s.ae.length ->s.ae.take (i+1)=s.ae.take i++[s.ae.getD i az]:=fun {i} h=>by
  simp_all
 refine⟨zrm _ hs.mem,⟨0,by omega,rfl,rfl,rfl⟩,λi hi=>⟨by omega,λhlt=>⟨hlt,by decide,by have :=(hs.ok i).held;omega,by decide,by rw[xr];omega,za (by omega) (by omega),i+1,by omega,by omega,by omega, ?_⟩,λhge=>⟨?_,λk hk=>⟨by omega,λhlt=>⟨hlt,by decide,by have :=hs.cf k;omega,by decide,by rw[xr];omega,za (by omega) (by omega),k+1,by omega,by omega,by omega, ?_⟩,λhge=>?_⟩⟩⟩⟩
 . rw[tk hlt]
   exact⟨by simp,by simp,λj hj=>tE _ _ j hj⟩
 . rw[xu (by omega)]
   exact⟨0,by omega,rfl,⟨rfl,rfl⟩,⟨rfl,λ_ _=>rfl⟩,rfl⟩
 . rw[bk hlt]
   exact⟨by simp,by simp,λj hj=>bE _ _ j hj⟩
 . rw[xu (by omega)]
   grind
theorem zhu {p:ai} {m:Mem} {t:aB} (hp:bI p) (ht:dU t) (hm:ec p m=true) (h:cm p t=true):mA m (aD p t)/\zg p t=aD p t/\fy p 32 t/\bS t (aD p t)=0/\t.status=1/\((aD p t).op=21 ->0<=(aD p t).obj/\(aD p t).obj<p.ef.length):=by
 obtain⟨k1,k2⟩:=Ud hp ht hm h
 unfold cm at h
 rw[xa,xo]at h
 obtain⟨h1,h2⟩:=h
 obtain⟨h3,h4⟩:=mD.1 h2
 have hpo:jM p:=⟨hp,(l6 h3).1⟩
 have hr:=sZ h4 h1
 have hc:=vi hpo ((oo h4).wf ht) hr.2.1
 obtain⟨c1,c2,_⟩:=vO hc
 have hg:=S2 c1
 obtain⟨_,_,_,hz⟩:=zj1 c1
 have hv:=k1.op
 unfold ec at hm
 simp at hm
 have reg:∀ k,k<7 ->(cZ (aD p t).op k=true∨cC (aD p t) k=0):=λk hk=>by
  cases hu:cZ (aD p t).op k with
  |true=>exact .inl rfl
  |false=>exact .inr (hz k hk hu)
 unfold ky at c2
 have obj:∀ n:Int,jI p (aD p t).op=n ->0<=n ->0<=(aD p t).obj/\(aD p t).obj<n:=λn hn h0=>by
  grind
 refine⟨⟨k1,hm.2.1, ?_, ?_,λho=>?_,λho=>?_⟩,k2,oo h4,hr.2.2.2.1,h1,λho=>?_⟩
 . rcases reg 1 (by decide)with h |h
   . exact hg.b h
   . have h:(aD p t).b=0:=h
     omega
 . rcases reg 2 (by decide)with h |h
   . exact hg.c h
   . have h:(aD p t).c=0:=h
     omega
 . rcases reg 6 (by decide)with h |h
   . exfalso
     have hc:(aD p t).op=13∨(aD p t).op=15∨(aD p t).op=16∨(aD p t).op=17∨(aD p t).op=18∨(aD p t).op=19∨(aD p t).op=20∨(aD p t).op=21∨(aD p t).op=22:=by omega
     rcases hc with e |e |e |e |e |e |e |e |e<;>(rw[e]at h;exact absurd h (by decide))
   . exact h
 . have :=obj p.vars.length (by unfold jI;rw[x9 (by omega)]) (by omega)
   omega
 . exact obj p.ef.length (by unfold jI;rw[x8 (by omega),x8 (by omega),x8 (by omega),x9 ho]) (by omega)
theorem zrn {m:Mem} (h:ca m=true) (x:Int):wr (fo m x).1=(fo m x).1:=by
 unfold fo
 split
 . rfl
 . rename_i hi
   have hc:=kM (ye.1 hi)
   exact oa.2 ((uE.1 h).uZ _ (oI (by omega)))
theorem zbg {i:aK} (h:8<=i.op/\i.op<=22):i.op=8∨i.op=9∨i.op=10∨i.op=11∨i.op=12∨i.op=13∨i.op=14∨i.op=15∨i.op=16∨i.op=17∨i.op=18∨i.op=19∨i.op=20∨i.op=21∨i.op=22:=by omega
theorem ajj {s:ag} {t:aB} {i:aK} (h:8<=i.op/\i.op<=22):(cY s.mem t i (aR s t i)).2.1=eG i (aR s t i):=by
 rcases zbg h with e |e |e |e |e |e |e |e |e |e |e |e |e |e |e
 all_goals simp only[aR,bz,iP,cY,eG,e,reduceIte,Int.reduceEq,or_true,true_or,or_self]
 . by_cases hv:(fo s.mem i.obj).1=bp t i.b
   . simp only[x9 hv,reduceIte,Int.reduceEq];rfl
   . simp only[x8 hv,reduceIte,Int.reduceEq,or_self];rfl
 . cases hb:iJ s.mem i.obj<;>rfl
 . unfold im
   by_cases h0:t.phase=0
   . simp only[x9 h0,reduceIte,Int.reduceEq,or_self];split<;>rfl
   . by_cases h1:t.phase=1
     . grind
     . simp only[x8 h0,x8 h1,reduceIte,Int.reduceEq,or_self]
theorem akn {s:ag} {t:aB} {i:aK} (h:8<=i.op/\i.op<=22) (hf:ca s.mem=true):wr (eG i (aR s t i))=eG i (aR s t i):=by
 have hr:=zrn hf i.obj
 have h0:wr 0=0:=rfl
 have h1:wr 1=1:=rfl
 have hc:wr (eU t)=eU t:=oa.2 (by
  have :=Zb t
  have :0<=eU t:=by
   unfold eU
   split
   . rename_i h
     unfold cA at h
     simp at h
     have :=tO (id:=t.id) (by omega)
     omega
   . decide
  omega)
 rcases zbg h with e |e |e |e |e |e |e |e |e |e |e |e |e |e |e
 all_goals simp[aR,bz,eG,e,Int.reduceEq,or_true,true_or,or_self,hr,h0,hc]
 . unfold ek;split<;>assumption
 . unfold ek;split<;>assumption
theorem ak4 {t:aB} (i:aK) {e:Ev} (ha:e.aC=t.id) (h11:e.kind=11 ->e.read=0∨e.read=1):(bW m e).2=(cY m t i e).2.2/\((cY m t i e).2.2=0 ->(bW m e).1=(cY m t i e).1):=by
 unfold bW cY
 rw[ha]
 by_cases h5:e.kind=5
 . rw[x9 (.inr h5),x9 h5];exact⟨rfl,λ_=>rfl⟩
 rw[x8 h5]
 by_cases h2:e.kind=2
 . rw[x9 (.inl h2),x9 h2];exact⟨rfl,λ_=>rfl⟩
 rw[x8 h2,x8 (by omega)]
 by_cases h1:e.kind=1∨e.kind=8
 . rw[x9 h1,x8 (by omega),x8 (by omega),x8 (by omega),x8 (by omega),x8 (by omega),x8 (by omega),x8 (by omega)];exact⟨rfl,λ_=>rfl⟩
 rw[x8 h1]
 by_cases h9:e.kind=9
 . rw[x9 h9,x8 (by omega),x9 h9];exact⟨rfl,λ_=>rfl⟩
 rw[x8 h9,x8 h9]
 by_cases h11':e.kind=11
 . rw[x9 h11',x9 h11']
   rcases h11 h11' with h |h
   . rw[x8 (by omega),x9 h];exact⟨rfl,λ_=>rfl⟩
   . rw[x9 h,x8 (by omega)];exact⟨rfl,λ_=>rfl⟩
 rw[x8 h11',x8 h11']
 by_cases h10:e.kind=10
 . rw[x9 h10,x9 h10];exact⟨rfl,λ_=>rfl⟩
 rw[x8 h10,x8 h10]
 by_cases h12:e.kind=12
 . rw[x9 h12,x9 h12]
   by_cases hr:(bc m e.mutex t.id t.id (-1)).2=0
   . rw[x8 (by simpa using hr),x9 hr];exact⟨rfl,λ_=>rfl⟩
   . rw[x9 hr,x8 hr];exact⟨rfl,λh=>absurd h hr⟩
 rw[x8 h12,x8 h12]
 by_cases h13:e.kind=13
 . rw[x9 h13,x9 h13];exact⟨rfl,λ_=>rfl⟩
 rw[x8 h13,x8 h13]
 by_cases h14:e.kind=14
 . rw[x9 h14,x9 h14];exact⟨rfl,λ_=>rfl⟩
 rw[x8 h14,x8 h14]
 by_cases h15:e.kind=15
 . rw[x9 h15,x9 h15];exact⟨rfl,λ_=>rfl⟩
 rw[x8 h15,x8 h15]
 split
 . exact⟨rfl,λ_=>rfl⟩
 . exact⟨rfl,λ_=>rfl⟩
end
end Go.Proofs.S25
