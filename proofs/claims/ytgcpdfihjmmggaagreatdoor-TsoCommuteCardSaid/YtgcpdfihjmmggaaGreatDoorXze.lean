import Derived.Test.YtgcpdfihjmmggaaGreatDoorXzd
namespace Go.Proofs.S25
open Go Go.AV Tryz
open Go.IntKind renaming i64 -> j6
open Go.AV.ex (ey)
noncomputable section
variable {p:ai} {b:Int} {m:i8} {s:ja} {t:i5} {i:aK} {l:List i5}
theorem zrm (m:i8) (h:dk m):KN 101 [vM m] (vM m):=by
 refine Kn (sF 34 (λd=>Nat.beq d 7 || (Nat.beq d 10 || Nat.beq d 13)) (zeh m)) func101 ((KF (161:Nat) [a8 m.eA] (AV.own (0:Nat) m.eA.length) [ar.row (3:TypeId) ey (ql m) λi=>qu m i])/\(KF (161:Nat) [a8 m.aa] (AV.own (0:Nat) m.aa.length) [ar.row (3:TypeId) ey (qm m) λi=>qv m i])/\(KF (161:Nat) [a8 m.lT] (AV.own (0:Nat) m.lT.length) [ar.row (3:TypeId) ey (qk m) λi=>qo m i])/\(∃ (i:Nat),i<=List.length (i8.a6 m)/\(0:Int)=(↑i:Int)/\LS (aj m) (aj m)/\(bt/\bt/\bt/\bt)/\(RR (List.length (i8.eA m))/\RR (List.length (i8.aa m))/\oi m i/\RR (List.length (i8.lT m)))/\(ql m=List.length (i8.eA m)/\∀ (i:Nat),i<ql m->qu m i=AV.int j6 (List.getD (i8.eA m) i (0:Int)))/\(qm m=List.length (i8.aa m)/\∀ (i:Nat),i<qm m->qv m i=AV.int j6 (List.getD (i8.aa m) i (0:Int)))/\oi m i/\qk m=List.length (i8.lT m)/\∀ (i:Nat),i<qk m->qo m i=AV.int j6 (List.getD (i8.lT m) i (0:Int)))/\∀ i:Nat,i<=m.a6.length->aH ↑m.a6.length/\Z (qj m i) (af (↑i) m.a6.length/\KN 161 [a8 (m.a6.getD (↑i:Int).toNat [])] (mE m i)/\1*ey.size<=16777216/\(RR (List.take i m.a6).length/\↑(lU m i)*↑(24:Nat)<=(140737488355328:Int)/\lU m i<=9223372036854775807)/\1<=1/\aM j6 (q9 i)/\(∃ (j:Nat),j<=List.length (i8.a6 m)/\qi m j<qi m i/\q9 i=(↑j:Int)/\LS (aj m) (aj m)/\(nj/\nj/\(RR ((0:Nat))/\∀ (i:Nat),i<(0:Nat)->RR (a8 (List.getD [] i [])))/\nj)/\(RR (List.length (i8.eA m))/\RR (List.length (i8.aa m))/\oH m i j/\RR (List.length (i8.lT m)))/\lp m/\lg m/\(oH m i j/\∀ (f:Nat),f<lU m i->(if f<List.length (List.take i (i8.a6 m))then oA m i f else List.getD (List.set (List.replicate (1:Nat) AV.ax) (0:Nat) (aq (mE m i))) (f - List.length (List.take i (i8.a6 m))) AV.any)=oA m j f)/\mw m)) (m.eA.length<=m.eA.length/\m.aa.length<=m.aa.length/\(List.take i m.a6).length<=(List.take i m.a6).length/\m.lT.length<=m.lT.length/\lp m/\lg m/\((List.take i m.a6).length=m.a6.length/\∀ (f:Nat),f<(List.take i m.a6).length->oA m i f=a8 (m.a6.getD f []))/\mw m)) ?_;try delta Z aH bt sQ ql qu tZ qm qv qB qk qo oi mE lU q9 qi nj oH lp lg oA mw qj
 simp only[SZ];simp only[oR,w6,iL];have s3:=h.a6;refine⟨nF _ h.eA,nF _ h.aa,nF _ h.lT,⟨0,O,rfl,ap⟩,λi hi=>⟨O,λhlt=>?_,λhge=>?_⟩⟩;have k:(m.a6.take i).length=i:=by rw[xr];omega
 have e:m.a6.take (i+1)=m.a6.take i++[m.a6.getD i []]:=by
  simp_all
 refine⟨hlt,zlu _ (h.q i),am,⟨O,O⟩,f9,i+1,O,O,O, ?_⟩;rw[e];exact⟨ap,ap,λj hj=>nS a8 _ [] _ _ j hj⟩;rw[xu O];exact⟨rfl,λ_ _=>rfl⟩
section
variable (m:i8) (e:Ev)
def Nr:=KN 73 [AV.mc zm (aj m),d9 e.ii,d9 e.i4] (AV.av [AV.mc zm (aj (zr (dM (aj m)) e.ii e.i4).fst),d9 (zr (dM (aj m)) e.ii e.i4).snd])/\LS (aj (zr (dM (aj m)) e.ii e.i4).fst) (aj (bW m e).fst)/\(zr (dM (aj m)) e.ii e.i4).snd=(bW m e).snd
def asv:=(e.kind==2)=true
def Na:List AV:=[d9 e.ii,d9 e.aC]
def LJ:List AV:=AV.mc zm (aj m)::Na e
def Ar:i8×Int:=bc (dM (aj m)) e.ii e.aC (-1) e.aC
def NO:=aj (Ar m e).fst
def Bf:Int:=(Ar m e).snd
def Mz:=KN 95 (LJ m e) (AV.av [AV.mc zm (NO m e),d9 (Bf m e)])/\LS (NO m e) (aj (bW m e).fst)/\Bf m e=(bW m e).snd
def Gn:=KN 101 [AV.mc zm (aj m)] (AV.mc zm (AV.agg [a8 (dR dI (a8 m.eA)),a8 (dR dI (a8 m.aa)),aE (dR (dR dI) (aE m.a6)),a8 (dR dI (a8 m.lT))]))/\(((dR dI (a8 m.eA)).length=(bW m e).fst.eA.length/\∀ i:Nat,i<(dR dI (a8 m.eA)).length->d9 ((dR dI (a8 m.eA)).getD i 0)=d9 ((bW m e).fst.eA.getD i 0))/\((dR dI (a8 m.aa)).length=(bW m e).fst.aa.length/\∀ i:Nat,i<(dR dI (a8 m.aa)).length->d9 ((dR dI (a8 m.aa)).getD i 0)=d9 ((bW m e).fst.aa.getD i 0))/\((dR (dR dI) (aE m.a6)).length=(bW m e).fst.a6.length/\∀ i:Nat,i<(dR (dR dI) (aE m.a6)).length->a8 ((dR (dR dI) (aE m.a6)).getD i [])=a8 ((bW m e).fst.a6.getD i []))/\(dR dI (a8 m.lT)).length=(bW m e).fst.lT.length/\∀ i:Nat,i<(dR dI (a8 m.lT)).length->d9 ((dR dI (a8 m.lT)).getD i 0)=d9 ((bW m e).fst.lT.getD i 0))/\0=(bW m e).snd
def Is:i8×Int:=bc (dM (aj m)) e.ii e.aC e.aC (-1)
def Rf:=aj (Is m e).fst
def Qd:Int:=(Is m e).snd
def Qe:i8×Int:=bc (dM (aj m)) e.k7 e.aC e.aC (-1)
def Mp:=aj (Qe m e).fst
def M8:=AV.mc zm (Mp m e)
def qsc:Int:=(Qe m e).snd
def CH:=qsc m e !=0
def SL:i8×Int:=aZ (dM (Mp m e)) e.ii e.aC
def OH:=aj (SL m e).fst
def LA:Int:=(SL m e).snd
def SJ:=Z (e.kind==9) (Mz m e) (Z (e.kind==11) (Z (e.read==1) (Mz m e) (Gn m e)) (Z (e.kind==10) (KN 96 (LJ m e) (AV.av [AV.mc zm (Rf m e),d9 (Qd m e)])/\LS (Rf m e) (aj (bW m e).fst)/\Qd m e=(bW m e).snd) (Z (e.kind==12) (KN 96 [AV.mc zm (aj m),d9 e.k7,d9 e.aC] (AV.av [M8 m e,d9 (qsc m e)])/\Z (CH m e) (LS (aj m) (aj (bW m e).fst)/\qsc m e=(bW m e).snd) (KN 97 (M8 m e::Na e) (AV.av [AV.mc zm (OH m e),d9 (LA m e)])/\LS (OH m e) (aj (bW m e).fst)/\LA m e=(bW m e).snd)) (Z (e.kind==13) (KN 98 [AV.mc zm (aj m),d9 e.aC] (AV.av [AV.mc zm (aj (dD (dM (aj m)) e.aC).fst),d9 (dD (dM (aj m)) e.aC).snd])/\LS (aj (dD (dM (aj m)) e.aC).fst) (aj (bW m e).fst)/\(dD (dM (aj m)) e.aC).snd=(bW m e).snd) (Z (e.kind==14) (KN 99 (Wn m e) (AV.av [AV.mc zm (TE m e),d9 (ZA m e).fst,d9 (U9 m e)])/\LS (TE m e) (aj (bW m e).fst)/\U9 m e=(bW m e).snd) (Z (e.kind==15) (KN 100 (Wn m e) (AV.av [AV.mc zm (TI m e),d9 (qj4 m e).fst,d9 (UF m e)])/\LS (TI m e) (aj (bW m e).fst)/\UF m e=(bW m e).snd) (Gn m e)))))))
def J8:=(e.kind==2)=false
end
theorem aha (m:i8) (e:Ev) (f:dk m) (j:wK):KN 46 [vM m,dh e] (.av [vM (bW m e).1,d9 (bW m e).2]):=by
 refine Kn (vR4 117 λ_=>none) func46 ((asv e->(asv e->Nr m e)/\(J8 e->SJ m e))/\(J8 e->Z (e.kind==5) (Nr m e) (SJ m e))) ?_;try delta Z Nr asv Na LJ Ar NO Bf Mz Gn Is Rf Qd Qe Mp M8 qsc CH SL OH LA Wn TE ZA U9 qrs TI qj4 UF SJ J8
 simp only[SZ];have L:∀ {x:i8} {v:Int},bW m e=(x,v) ->LS (aj x) (aj (bW m e).1)/\v=(bW m e).2:=λh=>by rw[h];exact⟨fp rfl,rfl⟩
 have i:=λ(h:bW m e=(m,0))=>show KnE m e from by unfold KnE;rw[h];exact⟨⟨⟨rfl,λ_ _=>rfl⟩,⟨rfl,λ_ _=>rfl⟩,⟨rfl,λ_ _=>rfl⟩,rfl,λ_ _=>rfl⟩,rfl⟩
 refine⟨λh2=>⟨λ_=>⟨zfx _ _ _ f,L ?_⟩,λh=>(h h2).elim⟩,λh2=>⟨λh5=>⟨zfx _ _ _ f,L ?_⟩,λh5=>⟨λh9=>⟨zy4 _ _ _ f,L ?_⟩,λh9=>⟨λh11=>⟨λh=>⟨zy4 _ _ _ f,L ?_⟩,λh=>⟨zrm _ f,i ?_⟩⟩,λh11=>⟨λh10=>⟨zy5 _ _ _ f,L ?_⟩,λh10=>⟨λh12=>⟨zy5 _ _ _ f,λh=>L ?_,λh=>⟨j _ _ _ (Zg f _ _ _ _).1,L ?_⟩⟩,λh12=>⟨λh13=>⟨aiv _ _ f,L ?_⟩,λh13=>⟨λh14=>⟨akp _ _ f,L ?_⟩,λh14=>⟨λh15=>⟨al7 _ _ f,L ?_⟩,λh15=>⟨zrm _ f,i ?_⟩⟩⟩⟩⟩⟩⟩⟩⟩⟩;all_goals clear L i j f
 all_goals simp[bW, *]
section
variable (e:Ev)
def Ol:Int:=ek (e.kind==5)
end
section
variable (i:aK) (e:Ev)
def Ut:=Z (i.op==12) (KN 92 [AV.bool (e.kind==(5:Int))] (d9 (Ol e))/\Ol e=eG i e) (Z (i.op==21) (e.ii=eG i e) (0=eG i e))
def Cr:=(i.op==14)=true
def Bq:=(i.op==14)=false
end
theorem zz0 (i:aK) (e:Ev):KN 50 [vI i,dh e] (d9 (eG i e)):=by
 refine Kn (vR4 25 λ_=>none) func50 ((W7 i->(W7 i->e.read=eG i e)/\(WD i->Ut i e))/\(WD i->(Cr i->(Cr i->e.read=eG i e)/\(Bq i->Ut i e))/\(Bq i->(Tg i->(Tg i->e.read=eG i e)/\(UC i->Ut i e))/\(UC i->(Uj i->(Uj i->e.read=eG i e)/\(VV i->Ut i e))/\(VV i->Z (i.op==17) (e.read=eG i e) (Ut i e)))))) ?_;try delta Z W7 Ol Ut WD Cr Bq Tg UC Uj VV
 simp only[SZ];refine⟨λa=>⟨λ_=>?_,λh=>(h a).elim⟩,λa=>⟨λb=>⟨λ_=>?_,λh=>(h b).elim⟩,λb=>⟨λc=>⟨λ_=>?_,λh=>(h c).elim⟩,λc=>⟨λd=>⟨λ_=>?_,λh=>(h d).elim⟩,λd=>⟨λf=>?_,λf=>⟨λg=>⟨zyr _, ?_⟩,λg=>⟨λh=>?_,λh=>?_⟩⟩⟩⟩⟩⟩⟩;all_goals simp[eG, *]
theorem Zx (P:i5 ->Bool) (l:List i5) {i:Nat} (e:i<l.length):(l.take (i+1)).filter P=(l.take i).filter P++(if P (l.getD i ao)then [l.getD i ao]else []):=by
 rw[List.take_add_one,xe e,List.filter_append,x7,xe e];simp[List.filter_cons]
theorem Yv {id:Int} {i:Nat} (e:i<l.length):iq l id (i+1)=iq l id i++(if(l.getD i ao).id<id then [l.getD i ao]else []):=by
 unfold iq;rw[Zx _ l e];simp
theorem aax {id:Int} {i:Nat} (e:i<l.length):nJ l id (i+1)=nJ l id i++(if id<(l.getD i ao).id then [l.getD i ao]else []):=by
 unfold nJ;rw[Zx _ l e];simp
theorem zz1 (P:i5 ->Bool) (l:List i5) (i:Nat):((l.take i).filter P).length<=i:=yd (yo _ _) (by rw[xr];omega)
theorem aj9 (l:List i5) (id:Int) (i:Nat):(iq l id i).length<=i:=zz1 _ l i
theorem agt (l:List i5) (id:Int) (i:Nat):(nJ l id i).length<=i:=zz1 _ l i
section
variable (l:List i5)
def P0:=RR l.length/\∀ (i:Nat),i<l.length->RR (ak (l.getD i ao))
variable (t:i5) (x2:Nat)
def B9:=(iq l t.id x2).length=0
def E4:=↑l.length<=(9223372036854775807:Int)
def qsd:=1*zk.size<=16777216
def Vo:Nat:=(iq l t.id x2).length+1
def Hw:=RR (iq l t.id x2).length/\↑(Vo l t x2)*↑(152:Nat)<=(140737488355328:Int)/\Vo l t x2<=9223372036854775807
end
section
variable (l:List i5) (x1:Nat) (x2:Nat)
def qjj:=l.length - x2<l.length - x1
end
section
variable (l:List i5) (t:i5) (x2:Nat) (x3:Nat)
def Mj:=Vo l t x2=(iq l t.id x3).length
def Pz:List AV:=List.replicate 1 (AV.agg [d9 0,d9 0,d9 0,AV.arr 8 λx=>d9 0,d9 0,d9 0,d9 0,d9 0,d9 0,AV.ax])
variable (x1:Nat)
def Jg:List AV:=Pz.set 0 (ak (l.getD (↑x1:Int).toNat ao))
def Rn:Nat:=x3 - (iq l t.id x2).length
def R6:=x3<Vo l t x2
def Jt:=decide ((l.getD (↑x2:Int).toNat ao).id<t.id)
def G3:=(iq l t.id x2).length=(iq l t.id x3).length
def Bo:=sX l x1=true
def Hz:List i5:=iq l t.id l.length++t::nJ l t.id x2
def sd:Nat:=(Hz l t x2).length
def Od:=Vo l t x2=sd l t x3
def Qk:=ak ((Hz l t x2).getD x3 ao)
def qjk:Nat:=sd l t x2+1
def Jh:=qjk l t x2=sd l t x3
def QB:=decide (t.id<(l.getD (↑x2:Int).toNat ao).id)
def Ec:=sd l t x2=sd l t x3
def KD:=x3<sd l t x2
def BB:=sd l t x2=(mJ l t).length
def LN:=sX l x1=false
end
theorem agr (l:List i5) (t:i5) (hl:l.length<1000000):KF 48 [aF l,vT t] (.own 0 (mJ l t).length) [eO (mJ l t)]:=by
 refine nc (vR4 55 (zyx l t)) func48 ((∃ i,i<=l.length/\(P0 l/\B9 l t i/\(0:Int)=↑i)/\LS (ak t) (ak t)/\B9 l t i)/\∀ i:Nat,i<=l.length->E4 l/\(Bo l i->af (↑i) l.length/\Z (Jt l t i) (af (↑i) l.length/\qsd/\Hw l t i/\qf/\qa i/\(∃ j,j<=l.length/\qjj l i j/\(P0 l/\Mj l t i j/\qb i j)/\LS (ak t) (ak t)/\Mj l t i j/\∀ (i_1:Nat),R6 l t i i_1->(if i_1<(iq l t.id i).length then ak ((iq l t.id i).getD i_1 ao)else(Jg l i).getD (Rn l t i i_1) AV.any)=ak ((iq l t.id j).getD i_1 ao))) (qa i/\(∃ j,j<=l.length/\qjj l i j/\(P0 l/\G3 l t i j/\qb i j)/\LS (ak t) (ak t)/\G3 l t i j/\∀ (i_1:Nat),i_1<(iq l t.id i).length->ak ((iq l t.id i).getD i_1 ao)=ak ((iq l t.id j).getD i_1 ao))))/\(LN l i->qsd/\Hw l t i/\qf/\(∃ i_1,i_1<=l.length/\(P0 l/\Od l t i i_1/\(0:Int)=↑i_1)/\LS (ak t) (ak t)/\Od l t i i_1/\∀ (f:Nat),R6 l t i f->(if f<(iq l t.id i).length then ak ((iq l t.id i).getD f ao)else(Pz.set (0:Nat) (ak t)).getD (Rn l t i f) AV.any)=Qk l t i_1 f)/\∀ (i:Nat),i<=l.length->E4 l/\(Bo l i->af (↑i) l.length/\Z (QB l t i) (af (↑i) l.length/\qsd/\(RR (sd l t i)/\↑(qjk l t i)*↑(152:Nat)<=(140737488355328:Int)/\qjk l t i<=(9223372036854775807:Nat))/\qf/\qa i/\∃ j,j<=l.length/\qjj l i j/\(P0 l/\Jh l t i j/\qb i j)/\LS (ak t) (ak t)/\Jh l t i j/\∀ (i_1:Nat),i_1<qjk l t i->(if i_1<(iq l t.id l.length++t::nJ l t.id i).length then Qk l t i i_1 else(Jg l i).getD (i_1 - sd l t i) AV.any)=Qk l t j i_1) (qa i/\∃ j,j<=l.length/\qjj l i j/\(P0 l/\Ec l t i j/\qb i j)/\LS (ak t) (ak t)/\Ec l t i j/\∀ (i_1:Nat),KD l t i i_1->Qk l t i i_1=Qk l t j i_1))/\(LN l i->BB l t i/\BB l t i/\∀ (i_1:Nat),KD l t i i_1->Qk l t i i_1=ak ((mJ l t).getD i_1 ao)))) ?_;try delta Z P0 B9 E4 qsd Vo Hw qf q9 qa qjj Mj qb Pz Jg Rn R6 Jt G3 sX Bo Hz sd Od Qk qjk Jh QB Ec KD BB LN
 simp only[SB,af];simp only[iL,w6];have tE:∀ (L:List i5) (x:i5) (j:Nat),j<L.length+1 ->_:=λL x j hj=>nS ak (AV.agg [d9 0,d9 0,d9 0, .arr 8 λ_=> d9 0,d9 0,d9 0,d9 0,d9 0,d9 0, .ax]) ao L x j hj;have m:=aj9 l t.id;have hy:=agt l t.id;refine⟨⟨0,O,⟨rfl,rfl⟩,rfl⟩,λi hi=>⟨O,λhlt=>⟨hlt,λh=>⟨hlt,am, ?_,f9,i+1,O,O, ?_⟩,λh=>⟨f9,i+1,O,O, ?_⟩⟩,λhge=>⟨am, ?_,⟨0,O, ?_⟩,λk u=>⟨O,λhlt=>⟨hlt,λh=>⟨hlt,am, ?_,f9,k+1,O,O, ?_⟩,λh=>⟨f9,k+1,O,O, ?_⟩⟩,λhge=>?_⟩⟩⟩⟩;have :=m i;omega;rw[Yv hlt,x9 h];grind;rw[Yv hlt,x8 h,yb];grind;have :=m i;omega;rw[show i=l.length from O];have e:nJ l t.id 0=[]:=rfl;grind;have :=m l.length;have :=hy k;simp only[xl,yp];omega;have e:iq l t.id l.length++(t::nJ l t.id (k+1))=(iq l t.id l.length++(t::nJ l t.id k))++[l.getD k ao]:=by
  rw[aax hlt,x9 h];simp
 rw[e];exact⟨⟨by rw[xl (bs:=[_])];rfl,O⟩,by rw[xl (bs:=[_])];rfl,λj hj=>tE _ _ j hj⟩;rw[aax hlt,x8 h,yb];exact⟨⟨rfl,O⟩,rfl,λ_ _=>rfl⟩;rw[show k=l.length from O];exact⟨rfl,rfl,λ_ _=>rfl⟩
section
variable (s:ja) (x1:Nat)
def QO:=(List.take x1 s.ab).length=0
def Wd:Nat:=0+(s.ab.getD (↑x1:Int).toNat ao).ic.length
def qse:=Wd s x1<=Wd s x1
def qjl:Nat:=(List.take x1 s.ab).length+1
variable (x2:Nat)
def QX:=qjl s x1=(List.take x2 s.ab).length
def CL:=(List.take x1 s.ab).length=s.ab.length
def Ns:=(List.take x1 s.ae).length=0
def Th:Nat:=0+(s.ae.getD (↑x1:Int).toNat az).bO.length
def qsf:=Th s x1<=Th s x1
def Zt:Nat:=(List.take x1 s.ae).length+1
def Kw:=Zt s x1=(List.take x2 s.ae).length
def BF:=(List.take x1 s.ae).length=s.ae.length
end
theorem Yi (s:ja) (hs:cw s):KF 47 [cx s] (Bw s) [eO s.ab,Cg s.ae]:=by
 refine nc (vR4 59 (zyz s)) func47 (KN 101 [AV.mc zm (aj s.l5)] (AV.mc zm (AV.agg [a8 (dR dI (a8 s.l5.eA)),a8 (dR dI (a8 s.l5.aa)),aE (dR (dR dI) (aE s.l5.a6)),a8 (dR dI (a8 s.l5.lT))]))/\(∃ (i:Nat),i<=List.length (ja.ab s)/\(0:Int)=(↑i:Int)/\LS (ze s) (ze s)/\(bt/\(bt/\bt/\bt/\bt)/\bt)/\(QO s i/\(List.length (dR dI (a8 (i8.eA (ja.l5 s))))=List.length (i8.eA (ja.l5 s))/\∀ (i:Nat),i<List.length (dR dI (a8 (i8.eA (ja.l5 s))))->d9 (List.getD (dR dI (a8 (i8.eA (ja.l5 s)))) i (0:Int))=d9 (List.getD (i8.eA (ja.l5 s)) i (0:Int)))/\(List.length (dR dI (a8 (i8.aa (ja.l5 s))))=List.length (i8.aa (ja.l5 s))/\∀ (i:Nat),i<List.length (dR dI (a8 (i8.aa (ja.l5 s))))->d9 (List.getD (dR dI (a8 (i8.aa (ja.l5 s)))) i (0:Int))=d9 (List.getD (i8.aa (ja.l5 s)) i (0:Int)))/\(WE s=List.length (i8.a6 (ja.l5 s))/\∀ (i:Nat),i<WE s->a8 (List.getD (dR (dR dI) (aE (i8.a6 (ja.l5 s)))) i [])=a8 (List.getD (i8.a6 (ja.l5 s)) i []))/\List.length (dR dI (a8 (i8.lT (ja.l5 s))))=List.length (i8.lT (ja.l5 s))/\∀ (i:Nat),i<List.length (dR dI (a8 (i8.lT (ja.l5 s))))->d9 (List.getD (dR dI (a8 (i8.lT (ja.l5 s)))) i (0:Int))=d9 (List.getD (i8.lT (ja.l5 s)) i (0:Int)))/\QO s i)/\∀ i:Nat,i<=s.ab.length->aH ↑s.ab.length/\Z (qc s i) (af (↑i) s.ab.length/\0*ey.size<=16777216/\(RR 0/\↑(Wd s i)*↑(8:Nat)<=(140737488355328:Int)/\Wd s i<=9223372036854775807)/\qse s i/\qse s i/\qse s i/\1*zk.size<=16777216/\(RR (List.take i s.ab).length/\↑(qjl s i)*↑(152:Nat)<=(140737488355328:Int)/\qjl s i<=9223372036854775807)/\qf/\qa i/\(∃ j,j<=s.ab.length/\s.ab.length - j<s.ab.length - i/\qb i j/\LS (ze s) (ze s)/\pL/\(QX s i j/\LS (aj s.l5) (aj s.l5))/\QX s i j/\∀ (e:Nat),e<qjl s i->(if e<(List.take i s.ab).length then ak ((List.take i s.ab).getD e ao)else((List.replicate 1 (AV.agg (d9 0::d9 0::d9 0::(AV.arr 8 λx=>d9 0)::d9 0::d9 0::d9 0::um))).set 0 (AV.agg [d9 (s.ab.getD (↑i:Int).toNat ao).id,d9 (s.ab.getD (↑i:Int).toNat ao).fn,d9 (s.ab.getD (↑i:Int).toNat ao).pc,AV.arr 8 λi_2=>d9 ((s.ab.getD (↑i:Int).toNat ao).aw.getD i_2 0),d9 (s.ab.getD (↑i:Int).toNat ao).io,d9 (s.ab.getD (↑i:Int).toNat ao).i7,d9 (s.ab.getD (↑i:Int).toNat ao).gH,d9 (s.ab.getD (↑i:Int).toNat ao).ip,d9 (s.ab.getD (↑i:Int).toNat ao).i9,AV.seq ey (Wd s i) λi_2=>if i_2<0 then(List.replicate 0 (d9 0)).getD i_2 AV.any else d9 ((s.ab.getD (↑i:Int).toNat ao).ic.getD (Uh i_2) 0)])).getD (e - (List.take i s.ab).length) AV.any)=ak ((List.take j s.ab).getD e ao))) ((∃ e,e<=s.ae.length/\(0:Int)=↑e/\LS (ze s) (ze s)/\pL/\(CL s i/\LS (aj s.l5) (aj s.l5)/\Ns s e)/\(CL s i/\∀ (i_2:Nat),i_2<(List.take i s.ab).length->ak ((List.take i s.ab).getD i_2 ao)=ak (s.ab.getD i_2 ao))/\Ns s e)/\∀ (i:Nat),i<=s.ae.length->aH (↑s.ae.length:Int)/\Z (uJ s i) (af (↑i:Int) s.ae.length/\(0:Nat)*dz.size<=(16777216:Nat)/\(RR (0:Nat)/\(↑(Th s i):Int)*(↑(16:Nat):Int)<=(140737488355328:Int)/\Th s i<=(9223372036854775807:Nat))/\qsf s i/\qsf s i/\qsf s i/\(1:Nat)*c7.size<=(16777216:Nat)/\(RR (List.take i s.ae).length/\(↑(Zt s i):Int)*(↑(40:Nat):Int)<=(140737488355328:Int)/\Zt s i<=(9223372036854775807:Nat))/\qf/\qa i/\∃ j,j<=s.ae.length/\s.ae.length - j<s.ae.length - i/\qb i j/\LS (ze s) (ze s)/\pL/\(RR s.ab.length/\LS (aj s.l5) (aj s.l5)/\Kw s i j)/\nh s/\Kw s i j/\∀ (e:Nat),e<Zt s i->(if e<(List.take i s.ae).length then aA ((List.take i s.ae).getD e az)else((List.replicate (1:Nat) (AV.agg um)).set (0:Nat) (AV.agg [d9 (s.ae.getD (↑i:Int).toNat az).ay,d9 (s.ae.getD (↑i:Int).toNat az).first,AV.seq dz (Th s i) λi_2=>if i_2<(0:Nat)then(List.replicate (0:Nat) (AV.agg [d9 (0:Int),d9 (0:Int)])).getD i_2 AV.any else cF ((s.ae.getD (↑i:Int).toNat az).bO.getD (Uh i_2) cc)])).getD (e - (List.take i s.ae).length) AV.any)=aA ((List.take j s.ae).getD e az)) ((RR s.ab.length/\LS (aj s.l5) (aj s.l5)/\BF s i)/\nh s/\BF s i/\∀ (e:Nat),e<(List.take i s.ae).length->aA ((List.take i s.ae).getD e az)=aA (s.ae.getD e az)))) ?_;try delta Z aH bt QO WE Wd qse qjl qf q9 qa qb nj pL QX um Uh qc CL Ns Th qsf Zt Kw nh uJ BF
 simp only[SZ];simp only[iL,w6,wg,jo,yi,yg];have u:=hs.ab;have h2:=hs.ae;have tE:∀ (L:List i5) (x:i5) (j:Nat),j<L.length+1 ->_:=λL x j hj=>nS ak (AV.agg [d9 0,d9 0,d9 0, .arr 8 λ_=> d9 0,d9 0,d9 0,d9 0,d9 0,d9 0, .ax]) ao L x j hj;have bE:∀ (L:List bR) (x:bR) (j:Nat),j<L.length+1 ->_:=λL x j hj=>nS aA (AV.agg [d9 0,d9 0, .ax]) az L x j hj;have f:∀ {i:Nat},i<s.ab.length ->s.ab.take (i+1)=s.ab.take i++[s.ab.getD i ao]:=fun {i} h=>by
  simp_all
 have bk:∀ {i:Nat},i<s.ae.length ->s.ae.take (i+1)=s.ae.take i++[s.ae.getD i az]:=fun {i} h=>by
  simp_all
 refine⟨zrm _ hs.l5,⟨0,O,rfl,rfl,rfl⟩,λi hi=>⟨O,λhlt=>⟨hlt,am,by have :=(hs.ok i).ic;omega,am,by rw[xr];omega,f9,i+1,O,O,O, ?_⟩,λhge=>⟨?_,λk m=>⟨O,λhlt=>⟨hlt,am,by have :=hs.nw k;omega,am,by rw[xr];omega,f9,k+1,O,O,O, ?_⟩,λhge=>?_⟩⟩⟩⟩;rw[f hlt];exact⟨ap,ap,λj hj=>tE _ _ j hj⟩;rw[xu O];exact⟨0,O,rfl,⟨rfl,rfl⟩,⟨rfl,λ_ _=>rfl⟩,rfl⟩;rw[bk hlt];exact⟨ap,ap,λj hj=>bE _ _ j hj⟩;rw[xu O];grind
theorem zhu (H:bI p) (E:dU t) (i:ec p m) (h:cm p t):mA m (i6 p t)/\zg p t=i6 p t/\fy p 32 t/\bS t (i6 p t)=0/\t.ip=1/\((i6 p t).op=21 ->0<=(i6 p t).ii/\(i6 p t).ii<p.ef.length):=by
 have⟨y,Q⟩:=Ud H E i h;unfold cm at h;rw[xa,xo]at h;have⟨K,Y⟩:=h;have⟨X,x⟩:=mD.1 Y;have j:jM p:=⟨H,(l6 X).1⟩;have F:=sZ x K;have u:=vi j ((oo x).wf E) F.2.1;have⟨N,Z,_⟩:=vO u;have J:=zcv N;have⟨_,_,_,R⟩:=zj1 N;have hv:=y.op;unfold ec at i;simp at i;have f:∀ k,k<7 ->(cZ (i6 p t).op k=true∨cC (i6 p t) k=0):=λk V=>by
  cases U:cZ (i6 p t).op k with
  |true=>exact .inl rfl
  |false=>exact .inr (R k V U)
 unfold ky at Z;have ii:∀ n:Int,jI p (i6 p t).op=n ->0<=n ->0<=(i6 p t).ii/\(i6 p t).ii<n:=λn hn h0=>by
  grind
 refine⟨⟨y,i.2.1, ?_, ?_,λho=>?_,λho=>?_⟩,Q,oo x,F.2.2.2.1,K,λho=>?_⟩;rcases f 1 (am)with h |h;exact J.b h;have h:(i6 p t).b=0:=h;omega;rcases f 2 (am)with h |h;exact J.c h;have h:(i6 p t).c=0:=h;omega;rcases f 6 (am)with h |h;exfalso;have u:(i6 p t).op=13∨(i6 p t).op=15∨(i6 p t).op=16∨(i6 p t).op=17∨(i6 p t).op=18∨(i6 p t).op=19∨(i6 p t).op=20∨(i6 p t).op=21∨(i6 p t).op=22:=O;rcases u with e |e |e |e |e |e |e |e |e<;>(rw[e]at h;exact absurd h am);exact h;have :=ii p.eA.length (by unfold jI;rw[x9 O]) O;omega;exact ii p.ef.length (by unfold jI;rw[x8 O,x8 O,x8 O,x9 ho]) (O)
theorem zrn (h:ca m) (x:Int):wr (fo m x).1=(fo m x).1:=by
 unfold fo;split;rfl;rename_i e;have f:=kM (ye.1 e);exact oa.2 ((z47.1 h).uZ _ (oI O))
theorem zbg (h:8<=i.op/\i.op<=22):i.op=8∨i.op=9∨i.op=10∨i.op=11∨i.op=12∨i.op=13∨i.op=14∨i.op=15∨i.op=16∨i.op=17∨i.op=18∨i.op=19∨i.op=20∨i.op=21∨i.op=22:=O
theorem ajj (h:8<=i.op/\i.op<=22):(cY s.l5 t i (m8 s t i)).2.1=eG i (m8 s t i):=by
 rcases zbg h with e |e |e |e |e |e |e |e |e |e |e |e |e |e |e;all_goals simp only[m8,bz,iP,cY,eG,e,reduceIte,Int.reduceEq,ju,jv,jr]
 by_cases f:(fo s.l5 i.ii).1=bp t i.b;simp only[x9 f,reduceIte,Int.reduceEq];rfl;simp only[x8 f,reduceIte,Int.reduceEq,jr];rfl;cases m:iJ s.l5 i.ii<;>rfl;unfold im;by_cases j:t.gH=0;simp only[x9 j,reduceIte,Int.reduceEq,jr];split<;>rfl;by_cases k:t.gH=1;grind;simp only[x8 j,x8 k,reduceIte,Int.reduceEq,jr]
theorem akn (h:8<=i.op/\i.op<=22) (j:ca s.l5):wr (eG i (m8 s t i))=eG i (m8 s t i):=by
 have f:=zrn j i.ii;have m:wr 0=0:=rfl;have u:wr 1=1:=rfl;have k:wr (eU t)=eU t:=oa.2 (by
  have :=Zb t;have :0<=eU t:=by
   unfold eU;split;rename_i h;unfold cA at h;simp at h;have :=tO (id:=t.id) O;omega;decide
  omega)
 rcases zbg h with e |e |e |e |e |e |e |e |e |e |e |e |e |e |e;all_goals simp[m8,bz,eG,e,Int.reduceEq,ju,jv,jr,f,m,k]
 unfold ek;split<;>assumption;unfold ek;split<;>assumption
theorem ak4 (m:i8) {t:i5} (i:aK) {e:Ev} (Q:e.aC=t.id) (K:e.kind=11 ->e.read=0∨e.read=1):(bW m e).2=(cY m t i e).2.2/\((cY m t i e).2.2=0 ->(bW m e).1=(cY m t i e).1):=by
 unfold bW cY;rw[Q];by_cases H:e.kind=5;rw[x9 (.inr H),x9 H];exact⟨rfl,λ_=>rfl⟩;rw[x8 H];by_cases J:e.kind=2;rw[x9 (.inl J),x9 J];exact⟨rfl,λ_=>rfl⟩;rw[x8 J,x8 O];by_cases N:e.kind=1∨e.kind=8;rw[x9 N,x8 O,x8 O,x8 O,x8 O,x8 O,x8 O,x8 O];exact⟨rfl,λ_=>rfl⟩;rw[x8 N];by_cases F:e.kind=9;rw[x9 F,x8 O,x9 F];exact⟨rfl,λ_=>rfl⟩;rw[x8 F,x8 F];by_cases f:e.kind=11;rw[x9 f,x9 f];rcases K f with h |h;rw[x8 O,x9 h];exact⟨rfl,λ_=>rfl⟩;rw[x9 h,x8 O];exact⟨rfl,λ_=>rfl⟩;rw[x8 f,x8 f];by_cases y:e.kind=10;rw[x9 y,x9 y];exact⟨rfl,λ_=>rfl⟩;rw[x8 y,x8 y];by_cases x:e.kind=12;rw[x9 x,x9 x];by_cases E:(bc m e.k7 t.id t.id (-1)).2=0;rw[x8 (by simpa using E),x9 E];exact⟨rfl,λ_=>rfl⟩;rw[x9 E,x8 E];exact⟨rfl,λh=>absurd h E⟩;rw[x8 x,x8 x];by_cases u:e.kind=13;rw[x9 u,x9 u];exact⟨rfl,λ_=>rfl⟩;rw[x8 u,x8 u];by_cases k:e.kind=14;rw[x9 k,x9 k];exact⟨rfl,λ_=>rfl⟩;rw[x8 k,x8 k];by_cases j:e.kind=15;rw[x9 j,x9 j];exact⟨rfl,λ_=>rfl⟩;rw[x8 j,x8 j];split;exact⟨rfl,λ_=>rfl⟩;exact⟨rfl,λ_=>rfl⟩
theorem zjn (h:fq p b t):fq p 32 t=true:=by
 have⟨j,f⟩:=mD.1 h;have⟨i,k⟩:=l6 j;refine mD.2 ⟨by unfold aV;rw[x8 (by simp[i]),x8 am], ?_⟩;have F:=oo f;unfold cG at f ⊢;rw[xa]at f ⊢;refine⟨TG.2 ⟨F.id,F.fn,F.pc,F.aw,by have :=F.io;omega,F.i7,F.deep,F.mO,F.ic,F.ph⟩, ?_⟩;have e:=f.2;split at e;rename_i hs;rw[x9 hs];unfold kN at e ⊢;simp at e ⊢;refine⟨e.1,e.2.1,e.2.2.1,e.2.2.2.1, ?_⟩;omega;grind
theorem agy (h:bT p b s):bT p 32 s=true:=by
 have⟨k,i,f⟩:=oP.1 h;exact oP.2 ⟨k,i,λj e=>⟨zjn (f j e).1,(f j e).2⟩⟩
theorem UP {p:ai} {b:Int} {l:List i5} (h:∀ j,j<l.length ->z5e p b l j):∀ j i,i<j ->j<l.length ->(l.getD i ao).id<(l.getD j ao).id
 |0,_,m,_=>O
 |j+1,i,m,k=>by
  have f:=(h (j+1) k).2 O
  rw[Nat.add_sub_cancel]at f
  by_cases e:i=j
  subst e;exact f
  have :=UP h j i O O;omega
theorem zg0 (h:∀ j,j<l.length ->z5e p b l j) {k:Nat} (f:k<l.length):aS l (l.getD k ao).id=k:=by
 have m:=zm2 f rfl;have⟨i,u⟩:=nL m;have :(aS l (l.getD k ao).id).toNat=k:=by
  rcases jp (aS l (l.getD k ao).id).toNat k with e |e |e;have :=UP h _ _ e f;omega;exact e;have :=UP h _ _ e i;omega
 omega
theorem zro {a:Int} (h:bT p b s):aQ (cX p s) a=true↔(bg p s a).2.2=true/\z20 s (cl p s a) (c5 p s a)=true:=by
 have V:=(oP.1 h).2.2;unfold cX;rw[x9 (agy h),tY];have l5:(∃ j,j<((s.ab.filter (np p s)).map (·.id)).length/\a=((s.ab.filter (np p s)).map (·.id)).getD j 0)↔∃ k,k<s.ab.length/\np p s (s.ab.getD k ao)=true/\(s.ab.getD k ao).id=a:=by
  constructor;rintro⟨j,m,e⟩;have r:a∈(s.ab.filter (np p s)).map (·.id):=by rw[e];exact oI m
  obtain⟨t,y,rfl⟩:=wv.1 r;have⟨f,u⟩:=yh.1 y;obtain⟨k,i,rfl⟩:=yq f;exact⟨k,i,by rw[x7,xe i];exact u,by rw[x7,xe i];rfl⟩;rintro⟨k,i,f,u⟩;have r:a∈(s.ab.filter (np p s)).map (·.id):=by
   grind
  have⟨j,m,e⟩:=yq r;exact⟨j,m,by rw[x7,xe m];exact e.symm⟩
 rw[l5];constructor;rintro⟨k,i,f,rfl⟩;have E:=zg0 V i;unfold np at f;rw[xa]at f;unfold cl c5 bg;rw[x8 O,E,gp];exact f;rintro⟨f,u⟩;have⟨x,J,H,F⟩:=NG f;have⟨M,K⟩:=nL x;unfold np;grind
theorem zrp (x:i5) (id:Int):∀ l:List i5,l.Pairwise (λa b=>a.id<b.id) ->(∀ t∈l,t.id≠id) ->l.filter (λt=>decide (t.id<id))++(x::l.filter λt=>decide (id<t.id))=gB l x (gK l id)
 | [],_,_=>rfl
 |t::l,y,k=>by
  have i:=j7.1 y
  by_cases h:t.id<id
  have m:=zrp x id l i.2 λu f=>k u (by simp[f])
  have e:gK (t::l) id=gK l id+1:=by
   unfold gK;rw[List.takeWhile_cons_of_pos (by simpa using h)];rfl
  rw[e,List.filter_cons_of_pos (by simpa using h),List.filter_cons_of_neg co,List.cons_append,m];unfold gB;simp;have j:id<t.id:=by have :=k t ap;omega
  have e:gK (t::l) id=0:=by
   unfold gK;rw[List.takeWhile_cons_of_neg (by simpa using h)];rfl
  have F:(t::l).filter (λt=>decide (t.id<id))=[]:=by
   rw[List.filter_eq_nil_iff];intro u f;rcases xv.1 f with rfl |f;simpa using h;have :=i.1 u f;simp;omega
  have E:(t::l).filter (λt=>decide (id<t.id))=t::l:=by
   rw[List.filter_eq_self];intro u f;rcases xv.1 f with rfl |f;simpa using j;have :=i.1 u f;simp;omega
  rw[e,F,E];rfl
theorem akj {x:i5} (h:∀ j,j<l.length ->z5e p b l j) (E:aS l x.id<0):mJ l x=gB l x (gK l x.id):=by
 unfold mJ iq nJ;rw[jk];refine zrp x x.id l ?_ λt u e=>?_;rw[wh];intro i j F y f;have :=UP h j i f y;grind;obtain⟨k,m,rfl⟩:=yq u;have :=zm2 (l:=l) (id:=x.id) m (by simpa [x7,m]using e);omega
theorem zrq:∀ (k:Nat) (n:Int),pu n k<=4
 |0,n=>by unfold pu;decide
 |k+1,n=>by
  rw[z9j]
  split
  omega
  split
  decide
  exact zrq k _
theorem zhv:∀ (k:Nat) (n c:Int),0<=n ->0<=c ->c<=6 ->0<=pu n k ->pu n k<4 ->k<=5 ->0<=pu (8*(n+1)+c) k
 |0,n,c,_,_,_,e,f,_=>by unfold pu at e;omega
 |k+1,n,c,i,F,y,e,f,E=>by
  rw[z9j]at e f ⊢
  have m:(8*(n+1)+c).tmod 8=c:=by rw[j0 O];omega
  have u:(8*(n+1)+c).tdiv 8 - 1=n:=by rw[Int.tdiv_eq_ediv_of_nonneg O];omega
  have en:=j0 (b:=8) i
  have H:=Int.tdiv_eq_ediv_of_nonneg (b:=8) i
  rw[x8 O,m,x8 O,u]
  by_cases h:n<8
  rw[x9 h]at e f
  cases k with
  |zero=>omega
  |succ k=>rw[z9j,x9 h];omega
  rw[x8 h]at e f
  by_cases x:7<=n.tmod 8
  omega
  rw[x8 x]at e f
  cases k with
  |zero=>unfold pu at e;omega
  |succ k=>
   have j:=zhv (k+1) (n.tdiv 8 - 1) (n.tmod 8) O O O O f O
   rw[show 8*(n.tdiv 8 - 1+1)+n.tmod 8=n from O]at j
   omega
theorem ajc (h:cA t):0<=br (eU t):=by
 unfold eU;rw[x9 h];unfold cA at h;simp at h;have⟨⟨⟨i,f⟩,m⟩,k⟩:=h;have e:=tO (id:=t.id) O;rw[zj0 O]at i f ⊢;have j:pu t.id 5<=4:=zrq 5 t.id;exact zhv 5 t.id t.i7 e.1 O O O O (O)
theorem ag8 (x:bI p) (i:dU t) (F:aV p b=0) (y:ec p m) (h:cm p t) (f:(zg p t).op=21):(ba p b (eU t) (zg p t).ii (bp t (zg p t).b)).2=0:=by
 have⟨K,J,j,H,R,Q⟩:=zhu x i y h;rw[J]at f ⊢;have u:t.gH=0:=by
  rcases j.ph with e |e;exact e;omega
 have E:cA t=true:=by
  unfold bS at H;grind
 have N:=ajc E;have k:wr (bp t (i6 p t).b)=bp t (i6 p t).b:=oa.2 (j.aw _ (oI (by rw[i.aw];have :=K.b;omega)));unfold ba;rw[x8 (by simp[F]),x8 O,x8 O,x8 (by simpa using k)]
theorem zz2 {r:Int} (h:fq p b t) (f:t.ip=1) (e:wr r=r):(cd p b t r).2=0:=by
 have⟨a,c⟩:=mD.1 h;grind[cd]
def tg (s:ja) (p:ai) (a:Int):i8×Int:=bW s.l5 (bP p s a)
def rp (p:ai) (b:Int) (s:ja) (a:Int):i5×Int:=ba p b (bP p s a).ii (c5 p s a).ii (bp (cl p s a) (c5 p s a).b)
def kj (p:ai) (b:Int) (s:ja) (a:Int):List i5:=mJ s.ab (rp p b s a).1
def tn (p:ai) (b:Int) (s:ja) (a:Int):i5×Int:=cd p b (cl p s a) (eG (c5 p s a) (bP p s a))
def oR5 (p:ai) (b:Int) (s:ja) (a:Int):FuncId ->List AV ->Option AV
 |38,_=>some (d9 (aV p b))
 |41,[_, .int _ c,_]=>some (.bool (bT p c s))
 |90,[_, .mc _ t, .mc _ i]=>some (.bool (z20 s (dT t) (dX i)))
 |45,_=>some (dh (bP p s a))
 |43,_=>some (a8 (cX p s))
 |42,_=>some (.bool (aQ (cX p s) a))
 |46,_=>some (.av [vM (tg s p a).1,d9 (tg s p a).2])
 |47,_=>some (Bw s)
 |40,_=>some (.av [vT (rp p b s a).1,d9 (rp p b s a).2])
 |50,_=>some (d9 (eG (c5 p s a) (bP p s a)))
 |49,_=>some (.av [vT (tn p b s a).1,d9 (tn p b s a).2])
 |44,[.seq _ n f, .int _ i]=>some (.av [d9 (max (aS (dR dT (.seq zk n f)) i) 0), .bool (decide (0<=aS (dR dT (.seq zk n f)) i))])
 |_,_=>none
noncomputable def XQ (p:ai) (b:Int) (s:ja) (a:Int) (n:Nat):ls:={di n λ_ _=>false with
 fresh:=λf _=>match Nat.beq f 47 with |true=>some [eO s.ab,Cg s.ae] |false=>none,
 Vs:=λ_ _=>some (.own 0 (kj p b s a).length,eO (kj p b s a)),mU:=λf _=>Nat.beq f 48}
noncomputable def vR5 (p:ai) (b:Int) (s:ja) (a:Int) (n:Nat) (I:Nat ->Option lm):bm:={C:=XQ p b s a n,CC:=mp prog GG,b9:=λ_ _=>oR5 p b s a,inv:=I,fz:=λk=>match Nat.beq k 22 with |true=>[364544,364545] |false=>[]}
def zz3 (p:ai) (s:ja) (k:Nat):Option lm:=match Nat.beq k 5 with
 |true=>iw s.ab.length (λi=>⟨[(2, .ptr 2 []),(3, .ptr 3 []),(5, .own 47 (ez p s i).length),(6,d9 i)],[(2,iM p),(3,fb s),(47,bw (ez p s i))]⟩) λi=>bT p 32 s=true
 |false=>none
end
end Go.Proofs.S25
