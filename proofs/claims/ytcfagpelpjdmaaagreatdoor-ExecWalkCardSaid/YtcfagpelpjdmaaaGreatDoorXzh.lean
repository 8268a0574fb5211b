import Derived.Test.YtcfagpelpjdmaaaGreatDoorXzg
namespace Go.Proofs.S25
open Go Go.AV
open Go.IntKind renaming i64 -> j6
open Go.AV.Shape (leaf)
noncomputable section
variable {p:aj} {b:Int} {m:Mem} {s:ah} {t:aF} {i:aP} {l:List aF}
theorem zrm (m:Mem) (f:dN m):KN 148 [vM m] (vM m):=by
 refine Kn (zA 34 (λd=>Nat.beq d 7 || (Nat.beq d 10 || Nat.beq d 13)) (zeh m)) Tryz.func148 ((KF (225:Nat) [ab m.vars] (AV.own (0:Nat) m.vars.length) [aw.row (3:TypeId) leaf (ql m) λi=>qu m i])/\(KF (225:Nat) [ab m.ae] (AV.own (0:Nat) m.ae.length) [aw.row (3:TypeId) leaf (qm m) λi=>qv m i])/\(KF (225:Nat) [ab m.sig] (AV.own (0:Nat) m.sig.length) [aw.row (3:TypeId) leaf (qk m) λi=>qo m i])/\(∃ (i:Nat),i<=List.length (Mem.aa m)/\(0:Int)=(↑i:Int)/\LS (ao m) (ao m)/\((0:Nat)=(0:Nat)/\(0:Nat)=(0:Nat)/\(0:Nat)=(0:Nat)/\(0:Nat)=(0:Nat))/\(RR (List.length (Mem.vars m))/\RR (List.length (Mem.ae m))/\rW m i/\RR (List.length (Mem.sig m)))/\(ql m=List.length (Mem.vars m)/\∀ (i:Nat),i<ql m->qu m i=AV.int j6 (List.getD (Mem.vars m) i (0:Int)))/\(qm m=List.length (Mem.ae m)/\∀ (i:Nat),i<qm m->qv m i=AV.int j6 (List.getD (Mem.ae m) i (0:Int)))/\rW m i/\qk m=List.length (Mem.sig m)/\∀ (i:Nat),i<qk m->qo m i=AV.int j6 (List.getD (Mem.sig m) i (0:Int)))/\∀ i:Nat,i<=m.aa.length->↑m.aa.length<=(9223372036854775807:Int)/\(qj m i=true->ai (↑i) m.aa.length/\KN 225 [ab (m.aa.getD (↑i:Int).toNat [])] (oi m i)/\1*leaf.size<=16777216/\(RR (List.take i m.aa).length/\↑(nk m i)*↑(24:Nat)<=(140737488355328:Int)/\nk m i<=9223372036854775807)/\1<=1/\aU j6 (q9 i)/\(∃ (j:Nat),j<=List.length (Mem.aa m)/\qi m j<qi m i/\q9 i=(↑j:Int)/\LS (ao m) (ao m)/\(lB/\lB/\(RR ((0:Nat))/\∀ (i:Nat),i<(0:Nat)->RR (ab (List.getD [] i [])))/\lB)/\(RR (List.length (Mem.vars m))/\RR (List.length (Mem.ae m))/\sy m i j/\RR (List.length (Mem.sig m)))/\mI m/\mG m/\(sy m i j/\∀ (ar:Nat),ar<nk m i->(if ar<List.length (List.take i (Mem.aa m))then rN m i ar else List.getD (List.set (List.replicate (1:Nat) AV.aA) (0:Nat) (av (oi m i))) (ar - List.length (List.take i (Mem.aa m))) AV.any)=rN m j ar)/\nT m))/\(qj m i=false->m.vars.length<=m.vars.length/\m.ae.length<=m.ae.length/\(List.take i m.aa).length<=(List.take i m.aa).length/\m.sig.length<=m.sig.length/\mI m/\mG m/\((List.take i m.aa).length=m.aa.length/\∀ (ar:Nat),ar<(List.take i m.aa).length->rN m i ar=ab (m.aa.getD ar []))/\nT m)) ?_;try delta yH ql qu A4 qm qv sE qk qo rW oi nk q9 qi lB sy mI mG rN nT qj
 simp only[SZ];simp only[oR,yx];have s3:=f.aa;refine⟨qL _ f.vars,qL _ f.ae,qL _ f.sig,⟨0,ac,rfl,be⟩,λi hi=>⟨ac,λhlt=>?_,λhge=>?_⟩⟩
 . have h:(m.aa.take i).length=i:=by rw[xu];omega
   have e:m.aa.take (i+1)=m.aa.take i++[m.aa.getD i []]:=by
    simp_all
   refine⟨hlt,zlu _ (f.q i),ap,ey,dl,i+1,ac,ac,ac, ?_⟩;rw[e];exact⟨be,be,λj hj=>rj ab _ [] _ _ j hj⟩
 . rw[xv ac];exact eq
section
variable (m:Mem) (e:Ev)
def Ee:=KN 87 [AV.mc zm (ao m),co e.obj,co e.wrote] (AV.ax [AV.mc zm (ao (zr (dM (ao m)) e.obj e.wrote).fst),co (zr (dM (ao m)) e.obj e.wrote).snd])/\LS (ao (zr (dM (ao m)) e.obj e.wrote).fst) (ao (ca m e).fst)/\(zr (dM (ao m)) e.obj e.wrote).snd=(ca m e).snd
def Qh:=(e.kind==2)=true
def Rv:List AV:=[co e.obj,co e.aG]
def Q4:List AV:=AV.mc zm (ao m)::Rv e
def Mp:Mem×Int:=bm (dM (ao m)) e.obj e.aG (-1) e.aG
def GL:=ao (Mp m e).fst
def R4:Int:=(Mp m e).snd
def QO:=KN 154 (Q4 m e) (AV.ax [AV.mc zm (GL m e),co (R4 m e)])/\LS (GL m e) (ao (ca m e).fst)/\R4 m e=(ca m e).snd
def TD:=KN 148 [AV.mc zm (ao m)] (AV.mc zm (AV.agg [ab (dR dI (ab m.vars)),ab (dR dI (ab m.ae)),aJ (dR (dR dI) (aJ m.aa)),ab (dR dI (ab m.sig))]))/\(((dR dI (ab m.vars)).length=(ca m e).fst.vars.length/\∀ i:Nat,i<(dR dI (ab m.vars)).length->co ((dR dI (ab m.vars)).getD i 0)=co ((ca m e).fst.vars.getD i 0))/\((dR dI (ab m.ae)).length=(ca m e).fst.ae.length/\∀ i:Nat,i<(dR dI (ab m.ae)).length->co ((dR dI (ab m.ae)).getD i 0)=co ((ca m e).fst.ae.getD i 0))/\((dR (dR dI) (aJ m.aa)).length=(ca m e).fst.aa.length/\∀ i:Nat,i<(dR (dR dI) (aJ m.aa)).length->ab ((dR (dR dI) (aJ m.aa)).getD i [])=ab ((ca m e).fst.aa.getD i []))/\(dR dI (ab m.sig)).length=(ca m e).fst.sig.length/\∀ i:Nat,i<(dR dI (ab m.sig)).length->co ((dR dI (ab m.sig)).getD i 0)=co ((ca m e).fst.sig.getD i 0))/\0=(ca m e).snd
def Gm:Mem×Int:=bm (dM (ao m)) e.obj e.aG e.aG (-1)
def Ed:=ao (Gm m e).fst
def Jc:Int:=(Gm m e).snd
def Ms:Mem×Int:=bm (dM (ao m)) e.mutex e.aG e.aG (-1)
def J2:=ao (Ms m e).fst
def Kc:=AV.mc zm (J2 m e)
def qsc:Int:=(Ms m e).snd
def PR:=qsc m e !=0
def Vo:Mem×Int:=b9 (dM (J2 m e)) e.obj e.aG
def VA:=ao (Vo m e).fst
def Qk:Int:=(Vo m e).snd
def Jo:=((e.kind==9)=true->QO m e)/\((e.kind==9)=false->((e.kind==11)=true->((e.read==1)=true->QO m e)/\((e.read==1)=false->TD m e))/\((e.kind==11)=false->((e.kind==10)=true->KN 155 (Q4 m e) (AV.ax [AV.mc zm (Ed m e),co (Jc m e)])/\LS (Ed m e) (ao (ca m e).fst)/\Jc m e=(ca m e).snd)/\((e.kind==10)=false->((e.kind==12)=true->KN 155 [AV.mc zm (ao m),co e.mutex,co e.aG] (AV.ax [Kc m e,co (qsc m e)])/\(PR m e=true->LS (ao m) (ao (ca m e).fst)/\qsc m e=(ca m e).snd)/\(PR m e=false->KN 156 (Kc m e::Rv e) (AV.ax [AV.mc zm (VA m e),co (Qk m e)])/\LS (VA m e) (ao (ca m e).fst)/\Qk m e=(ca m e).snd))/\((e.kind==12)=false->((e.kind==13)=true->KN 157 [AV.mc zm (ao m),co e.aG] (AV.ax [AV.mc zm (ao (eh (dM (ao m)) e.aG).fst),co (eh (dM (ao m)) e.aG).snd])/\LS (ao (eh (dM (ao m)) e.aG).fst) (ao (ca m e).fst)/\(eh (dM (ao m)) e.aG).snd=(ca m e).snd)/\((e.kind==13)=false->((e.kind==14)=true->KN 158 (Yr m e) (AV.ax [AV.mc zm (Yi m e),co (qj3 m e).fst,co (qel m e)])/\LS (Yi m e) (ao (ca m e).fst)/\qel m e=(ca m e).snd)/\((e.kind==14)=false->((e.kind==15)=true->KN 159 (Yr m e) (AV.ax [AV.mc zm (WW m e),co (qj4 m e).fst,co (WN m e)])/\LS (WW m e) (ao (ca m e).fst)/\WN m e=(ca m e).snd)/\((e.kind==15)=false->TD m e)))))))
def Mv:=(e.kind==2)=false
end
theorem akb (m:Mem) (e:Ev) (hm:dN m) (hE:Bp):KN 92 [vM m,dg e] (.ax [vM (ca m e).1, .int .i64 (ca m e).2]):=by
 refine Kn (vR4 117 λ_=>none) Tryz.func92 ((Qh e->(Qh e->Ee m e)/\(Mv e->Jo m e))/\(Mv e->((e.kind==5)=true->Ee m e)/\((e.kind==5)=false->Jo m e))) ?_;try delta Ee Qh Rv Q4 Mp GL R4 QO TD Gm Ed Jc Ms J2 Kc qsc PR Vo VA Qk Yr Yi qj3 qel qrs WW qj4 WN Jo Mv
 simp only[SZ];have L:∀ {x:Mem} {v:Int},ca m e=(x,v) ->LS (ao x) (ao (ca m e).1)/\v=(ca m e).2:=λh=>by rw[h];exact⟨eE rfl,rfl⟩
 have L2:=λ(h:ca m e=(m,0))=>show KnE m e from by unfold KnE;rw[h];exact eq
 refine⟨λh2=>⟨λ_=>⟨zfx _ _ _ hm,L ?_⟩,λh=>(h h2).elim⟩,λh2=>⟨λh5=>⟨zfx _ _ _ hm,L ?_⟩,λh5=>⟨λh9=>⟨zy4 _ _ _ hm,L ?_⟩,λh9=>⟨λh11=>⟨λh=>⟨zy4 _ _ _ hm,L ?_⟩,λh=>⟨zrm _ hm,L2 ?_⟩⟩,λh11=>⟨λh10=>⟨zy5 _ _ _ hm,L ?_⟩,λh10=>⟨λh12=>⟨zy5 _ _ _ hm,λh=>L ?_,λh=>⟨hE _ _ _ (zd6 hm _ _ _ _).1,L ?_⟩⟩,λh12=>⟨λh13=>⟨aii _ _ hm,L ?_⟩,λh13=>⟨λh14=>⟨ajz _ _ hm,L ?_⟩,λh14=>⟨λh15=>⟨ak5 _ _ hm,L ?_⟩,λh15=>⟨zrm _ hm,L2 ?_⟩⟩⟩⟩⟩⟩⟩⟩⟩⟩;all_goals clear L L2 hE hm
 all_goals simp[ca, *]
section
variable (e:Ev)
def NI:Int:=fi (e.kind==5)
end
section
variable (i:aP) (e:Ev)
def Za:=((i.op==12)=true->KN 146 [AV.bool (e.kind==(5:Int))] (co (NI e))/\NI e=fG i e)/\((i.op==12)=false->((i.op==21)=true->e.obj=fG i e)/\((i.op==21)=false->0=fG i e))
def SV:=(i.op==14)=true
def FM:=(i.op==14)=false
end
theorem zz0 (i:aP) (e:Ev):KN 94 [vI i,dg e] (co (fG i e)):=by
 refine Kn (vR4 25 λ_=>none) Tryz.func94 ((YC i->(YC i->e.read=fG i e)/\(Xa i->Za i e))/\(Xa i->(SV i->(SV i->e.read=fG i e)/\(FM i->Za i e))/\(FM i->(jk i->(jk i->e.read=fG i e)/\(q9v i->Za i e))/\(q9v i->(q9w i->(q9w i->e.read=fG i e)/\(X8 i->Za i e))/\(X8 i->((i.op==17)=true->e.read=fG i e)/\((i.op==17)=false->Za i e)))))) ?_;try delta YC NI Za Xa SV FM jk q9v q9w X8
 simp only[SZ];refine⟨λa=>⟨λ_=>?_,λh=>(h a).elim⟩,λa=>⟨λb=>⟨λ_=>?_,λh=>(h b).elim⟩,λb=>⟨λc=>⟨λ_=>?_,λh=>(h c).elim⟩,λc=>⟨λd=>⟨λ_=>?_,λh=>(h d).elim⟩,λd=>⟨λf=>?_,λf=>⟨λg=>⟨zyr _, ?_⟩,λg=>⟨λh=>?_,λh=>?_⟩⟩⟩⟩⟩⟩⟩;all_goals simp[fG, *]
theorem ab7 (P:aF ->Bool) (l:List aF) {i:Nat} (e:i<l.length):(l.take (i+1)).filter P=(l.take i).filter P++(if P (l.getD i au)then [l.getD i au]else []):=by
 rw[List.take_add_one,xe e,List.filter_append,x7,xe e];simp[List.filter_cons]
theorem ad3 {id:Int} {i:Nat} (e:i<l.length):jy l id (i+1)=jy l id i++(if(l.getD i au).id<id then [l.getD i au]else []):=by
 unfold jy;rw[ab7 _ l e];simp
theorem abo {id:Int} {i:Nat} (e:i<l.length):qJ l id (i+1)=qJ l id i++(if id<(l.getD i au).id then [l.getD i au]else []):=by
 unfold qJ;rw[ab7 _ l e];simp
theorem zz1 (P:aF ->Bool) (l:List aF) (i:Nat):((l.take i).filter P).length<=i:=y6 (yw _ _) (by rw[xu];omega)
theorem al4 (l:List aF) (id:Int) (i:Nat):(jy l id i).length<=i:=zz1 _ l i
theorem air (l:List aF) (id:Int) (i:Nat):(qJ l id i).length<=i:=zz1 _ l i
section
variable (l:List aF)
def QY:=RR l.length/\∀ (i:Nat),i<l.length->RR (aq (l.getD i au))
variable (t:aF) (x2:Nat)
def L0:=(jy l t.id x2).length=0
def RV:=↑l.length<=(9223372036854775807:Int)
def qsd:=1*zk.size<=16777216
def qf1:Nat:=(jy l t.id x2).length+1
def Gf:=RR (jy l t.id x2).length/\↑(qf1 l t x2)*↑(152:Nat)<=(140737488355328:Int)/\qf1 l t x2<=9223372036854775807
end
section
variable (l:List aF) (x1:Nat) (x2:Nat)
def qjj:=l.length - x2<l.length - x1
end
section
variable (l:List aF) (t:aF) (x2:Nat) (x3:Nat)
def HW:=qf1 l t x2=(jy l t.id x3).length
def DJ:List AV:=List.replicate 1 (AV.agg [co 0,co 0,co 0,AV.arr 8 λx=>co 0,co 0,co 0,co 0,co 0,co 0,AV.aA])
variable (x1:Nat)
def Nt:List AV:=DJ.set 0 (aq (l.getD (↑x1:Int).toNat au))
def UA:Nat:=x3 - (jy l t.id x2).length
def Cs:=x3<qf1 l t x2
def CI:=decide ((l.getD (↑x2:Int).toNat au).id<t.id)
def Wv:=(jy l t.id x2).length=(jy l t.id x3).length
def Gk:=yS l x1=true
def Lx:List aF:=jy l t.id l.length++t::qJ l t.id x2
def uK:Nat:=(Lx l t x2).length
def Ur:=qf1 l t x2=uK l t x3
def EM:=aq ((Lx l t x2).getD x3 au)
def qjk:Nat:=uK l t x2+1
def DO:=qjk l t x2=uK l t x3
def Fg:=decide (t.id<(l.getD (↑x2:Int).toNat au).id)
def PT:=uK l t x2=uK l t x3
def Qs:=x3<uK l t x2
def Ua:=uK l t x2=(nW l t).length
def PE:=yS l x1=false
end
theorem amx (l:List aF) (t:aF) (hl:l.length<1000000):KF 93 [aK l,vT t] (.own 0 (nW l t).length) [fy (nW l t)]:=by
 refine pK (vR4 55 (zyx l t)) Tryz.func93 ((∃ i,i<=l.length/\(QY l/\L0 l t i/\(0:Int)=↑i)/\LS (aq t) (aq t)/\L0 l t i)/\∀ i:Nat,i<=l.length->RV l/\(Gk l i->ai (↑i) l.length/\(CI l t i=true->ai (↑i) l.length/\qsd/\Gf l t i/\qf/\qa i/\(∃ j,j<=l.length/\qjj l i j/\(QY l/\HW l t i j/\qb i j)/\LS (aq t) (aq t)/\HW l t i j/\∀ (ar:Nat),Cs l t i ar->(if ar<(jy l t.id i).length then aq ((jy l t.id i).getD ar au)else(Nt l i).getD (UA l t i ar) AV.any)=aq ((jy l t.id j).getD ar au)))/\(CI l t i=false->qa i/\(∃ j,j<=l.length/\qjj l i j/\(QY l/\Wv l t i j/\qb i j)/\LS (aq t) (aq t)/\Wv l t i j/\∀ (ar:Nat),ar<(jy l t.id i).length->aq ((jy l t.id i).getD ar au)=aq ((jy l t.id j).getD ar au))))/\(PE l i->qsd/\Gf l t i/\qf/\(∃ ar,ar<=l.length/\(QY l/\Ur l t i ar/\(0:Int)=↑ar)/\LS (aq t) (aq t)/\Ur l t i ar/\∀ (f:Nat),Cs l t i f->(if f<(jy l t.id i).length then aq ((jy l t.id i).getD f au)else(DJ.set (0:Nat) (aq t)).getD (UA l t i f) AV.any)=EM l t ar f)/\∀ (i:Nat),i<=l.length->RV l/\(Gk l i->ai (↑i) l.length/\(Fg l t i=true->ai (↑i) l.length/\qsd/\(RR (uK l t i)/\↑(qjk l t i)*↑(152:Nat)<=(140737488355328:Int)/\qjk l t i<=(9223372036854775807:Nat))/\qf/\qa i/\∃ j,j<=l.length/\qjj l i j/\(QY l/\DO l t i j/\qb i j)/\LS (aq t) (aq t)/\DO l t i j/\∀ (ar:Nat),ar<qjk l t i->(if ar<(jy l t.id l.length++t::qJ l t.id i).length then EM l t i ar else(Nt l i).getD (ar - uK l t i) AV.any)=EM l t j ar)/\(Fg l t i=false->qa i/\∃ j,j<=l.length/\qjj l i j/\(QY l/\PT l t i j/\qb i j)/\LS (aq t) (aq t)/\PT l t i j/\∀ (ar:Nat),Qs l t i ar->EM l t i ar=EM l t j ar))/\(PE l i->Ua l t i/\Ua l t i/\∀ (ar:Nat),Qs l t i ar->EM l t i ar=aq ((nW l t).getD ar au)))) ?_;try delta QY L0 RV qsd qf1 Gf qf q9 qa qjj HW qb DJ Nt UA Cs CI Wv yS Gk Lx uK Ur EM qjk DO Fg PT Qs Ua PE
 simp only[SB,ai];simp only[ep,yx];have tE:∀ (L:List aF) (x:aF) (j:Nat),j<L.length+1 ->_:=λL x j hj=>rj aq (AV.agg [co 0,co 0,co 0, .arr 8 λ_=> co 0,co 0,co 0,co 0,co 0,co 0, .aA]) au L x j hj;have m:=al4 l t.id;have hy:=air l t.id;refine⟨⟨0,ac,eq,rfl⟩,λi hi=>⟨ac,λhlt=>⟨hlt,λh=>⟨hlt,ap, ?_,dl,i+1,ac,ac, ?_⟩,λh=>⟨dl,i+1,ac,ac, ?_⟩⟩,λhge=>⟨ap, ?_,⟨0,ac, ?_⟩,λk o=>⟨ac,λhlt=>⟨hlt,λh=>⟨hlt,ap, ?_,dl,k+1,ac,ac, ?_⟩,λh=>⟨dl,k+1,ac,ac, ?_⟩⟩,λhge=>?_⟩⟩⟩⟩
 . have :=m i;omega
 . rw[ad3 hlt,x9 h];grind
 . rw[ad3 hlt,x8 h,yg];grind
 . have :=m i;omega
 . rw[show i=l.length from ac];have e:qJ l t.id 0=[]:=rfl;grind
 . have :=m l.length;have :=hy k;simp only[xl,yz];omega
 . have e:jy l t.id l.length++(t::qJ l t.id (k+1))=(jy l t.id l.length++(t::qJ l t.id k))++[l.getD k au]:=by
    rw[abo hlt,x9 h];simp
   rw[e];exact⟨⟨by rw[xl (bs:=[_])];rfl,ac⟩,by rw[xl (bs:=[_])];rfl,λj hj=>tE _ _ j hj⟩
 . rw[abo hlt,x8 h,yg];exact⟨⟨rfl,ac⟩,rfl,λ_ _=>rfl⟩
 . rw[show k=l.length from ac];exact eq
section
variable (s:ah) (x1:Nat)
def M0:=(List.take x1 s.af).length=0
def qf2:Nat:=0+(s.af.getD (↑x1:Int).toNat au).held.length
def qse:=qf2 s x1<=qf2 s x1
def qjl:Nat:=(List.take x1 s.af).length+1
variable (x2:Nat)
def Q0:=qjl s x1=(List.take x2 s.af).length
def SO:=(List.take x1 s.af).length=s.af.length
def Qy:=(List.take x1 s.ag).length=0
def XQ:Nat:=0+(s.ag.getD (↑x1:Int).toNat aD).entries.length
def qsf:=XQ s x1<=XQ s x1
def qjm:Nat:=(List.take x1 s.ag).length+1
def Du:=qjm s x1=(List.take x2 s.ag).length
def Lu:=(List.take x1 s.ag).length=s.ag.length
end
theorem acx (s:ah) (hs:cK s):KF 85 [cj s] (HM s) [fy s.af,ky s.ag]:=by
 refine pK (vR4 59 (zyz s)) Tryz.func85 (KN 148 [AV.mc zm (ao s.mem)] (AV.mc zm (AV.agg [ab (dR dI (ab s.mem.vars)),ab (dR dI (ab s.mem.ae)),aJ (dR (dR dI) (aJ s.mem.aa)),ab (dR dI (ab s.mem.sig))]))/\(∃ (i:Nat),i<=List.length (ah.af s)/\(0:Int)=(↑i:Int)/\LS (ze s) (ze s)/\((0:Nat)=(0:Nat)/\((0:Nat)=(0:Nat)/\(0:Nat)=(0:Nat)/\(0:Nat)=(0:Nat)/\(0:Nat)=(0:Nat))/\(0:Nat)=(0:Nat))/\(M0 s i/\(List.length (dR dI (ab (Mem.vars (ah.mem s))))=List.length (Mem.vars (ah.mem s))/\∀ (i:Nat),i<List.length (dR dI (ab (Mem.vars (ah.mem s))))->co (List.getD (dR dI (ab (Mem.vars (ah.mem s)))) i (0:Int))=co (List.getD (Mem.vars (ah.mem s)) i (0:Int)))/\(List.length (dR dI (ab (Mem.ae (ah.mem s))))=List.length (Mem.ae (ah.mem s))/\∀ (i:Nat),i<List.length (dR dI (ab (Mem.ae (ah.mem s))))->co (List.getD (dR dI (ab (Mem.ae (ah.mem s)))) i (0:Int))=co (List.getD (Mem.ae (ah.mem s)) i (0:Int)))/\(ZV s=List.length (Mem.aa (ah.mem s))/\∀ (i:Nat),i<ZV s->ab (List.getD (dR (dR dI) (aJ (Mem.aa (ah.mem s)))) i [])=ab (List.getD (Mem.aa (ah.mem s)) i []))/\List.length (dR dI (ab (Mem.sig (ah.mem s))))=List.length (Mem.sig (ah.mem s))/\∀ (i:Nat),i<List.length (dR dI (ab (Mem.sig (ah.mem s))))->co (List.getD (dR dI (ab (Mem.sig (ah.mem s)))) i (0:Int))=co (List.getD (Mem.sig (ah.mem s)) i (0:Int)))/\M0 s i)/\∀ i:Nat,i<=s.af.length->↑s.af.length<=(9223372036854775807:Int)/\(qc s i=true->ai (↑i) s.af.length/\0*leaf.size<=16777216/\(RR 0/\↑(qf2 s i)*↑(8:Nat)<=(140737488355328:Int)/\qf2 s i<=9223372036854775807)/\qse s i/\qse s i/\qse s i/\1*zk.size<=16777216/\(RR (List.take i s.af).length/\↑(qjl s i)*↑(152:Nat)<=(140737488355328:Int)/\qjl s i<=9223372036854775807)/\qf/\qa i/\(∃ j,j<=s.af.length/\s.af.length - j<s.af.length - i/\qb i j/\LS (ze s) (ze s)/\ta/\(Q0 s i j/\LS (ao s.mem) (ao s.mem))/\Q0 s i j/\∀ (ar:Nat),ar<qjl s i->(if ar<(List.take i s.af).length then aq ((List.take i s.af).getD ar au)else((List.replicate 1 (AV.agg (co 0::co 0::co 0::(AV.arr 8 λx=>co 0)::co 0::co 0::co 0::yJ))).set 0 (AV.agg [co (s.af.getD (↑i:Int).toNat au).id,co (s.af.getD (↑i:Int).toNat au).fn,co (s.af.getD (↑i:Int).toNat au).pc,AV.arr 8 λi_2=>co ((s.af.getD (↑i:Int).toNat au).az.getD i_2 0),co (s.af.getD (↑i:Int).toNat au).steps,co (s.af.getD (↑i:Int).toNat au).kids,co (s.af.getD (↑i:Int).toNat au).phase,co (s.af.getD (↑i:Int).toNat au).status,co (s.af.getD (↑i:Int).toNat au).fault,AV.seq leaf (qf2 s i) λi_2=>if i_2<0 then(List.replicate 0 (co 0)).getD i_2 AV.any else co ((s.af.getD (↑i:Int).toNat au).held.getD (Xu i_2) 0)])).getD (ar - (List.take i s.af).length) AV.any)=aq ((List.take j s.af).getD ar au)))/\(qc s i=false->(∃ ar,ar<=s.ag.length/\(0:Int)=↑ar/\LS (ze s) (ze s)/\ta/\(SO s i/\LS (ao s.mem) (ao s.mem)/\Qy s ar)/\(SO s i/\∀ (i_2:Nat),i_2<(List.take i s.af).length->aq ((List.take i s.af).getD i_2 au)=aq (s.af.getD i_2 au))/\Qy s ar)/\∀ (i:Nat),i<=s.ag.length->(↑s.ag.length:Int)<=(9223372036854775807:Int)/\(xD s i=true->ai (↑i:Int) s.ag.length/\(0:Nat)*ct.size<=(16777216:Nat)/\(RR (0:Nat)/\(↑(XQ s i):Int)*(↑(16:Nat):Int)<=(140737488355328:Int)/\XQ s i<=(9223372036854775807:Nat))/\qsf s i/\qsf s i/\qsf s i/\(1:Nat)*cz.size<=(16777216:Nat)/\(RR (List.take i s.ag).length/\(↑(qjm s i):Int)*(↑(40:Nat):Int)<=(140737488355328:Int)/\qjm s i<=(9223372036854775807:Nat))/\qf/\qa i/\∃ j,j<=s.ag.length/\s.ag.length - j<s.ag.length - i/\qb i j/\LS (ze s) (ze s)/\ta/\(RR s.af.length/\LS (ao s.mem) (ao s.mem)/\Du s i j)/\pG s/\Du s i j/\∀ (ar:Nat),ar<qjm s i->(if ar<(List.take i s.ag).length then aB ((List.take i s.ag).getD ar aD)else((List.replicate (1:Nat) (AV.agg yJ)).set (0:Nat) (AV.agg [co (s.ag.getD (↑i:Int).toNat aD).aC,co (s.ag.getD (↑i:Int).toNat aD).first,AV.seq ct (XQ s i) λi_2=>if i_2<(0:Nat)then(List.replicate (0:Nat) (AV.agg [co (0:Int),co (0:Int)])).getD i_2 AV.any else de ((s.ag.getD (↑i:Int).toNat aD).entries.getD (Xu i_2) cw)])).getD (ar - (List.take i s.ag).length) AV.any)=aB ((List.take j s.ag).getD ar aD))/\(xD s i=false->(RR s.af.length/\LS (ao s.mem) (ao s.mem)/\Lu s i)/\pG s/\Lu s i/\∀ (ar:Nat),ar<(List.take i s.ag).length->aB ((List.take i s.ag).getD ar aD)=aB (s.ag.getD ar aD)))) ?_;try delta M0 ZV qf2 qse qjl qf q9 qa qb lB ta Q0 yJ Xu qc SO Qy XQ qsf qjm Du pG xD Lu
 simp only[SZ];simp only[wg,yp,yo];have o:=hs.af;have h2:=hs.ag;have f:∀ (L:List aF) (x:aF) (j:Nat),j<L.length+1 ->_:=λL x j hj=>rj aq (AV.agg [co 0,co 0,co 0, .arr 8 λ_=> co 0,co 0,co 0,co 0,co 0,co 0, .aA]) au L x j hj;have bE:∀ (L:List cg) (x:cg) (j:Nat),j<L.length+1 ->_:=λL x j hj=>rj aB (AV.agg [co 0,co 0, .aA]) aD L x j hj;have e:∀ {i:Nat},i<s.af.length ->s.af.take (i+1)=s.af.take i++[s.af.getD i au]:=fun {i} h=>by
  simp_all
 have bk:∀ {i:Nat},i<s.ag.length ->s.ag.take (i+1)=s.ag.take i++[s.ag.getD i aD]:=fun {i} h=>by
  simp_all
 refine⟨zrm _ hs.mem,⟨0,ac,rfl,rfl,rfl⟩,λi hi=>⟨ac,λhlt=>⟨hlt,ap,by have :=(hs.ok i).held;omega,ap,by rw[xu];omega,dl,i+1,ac,ac,ac, ?_⟩,λhge=>⟨?_,λk m=>⟨ac,λhlt=>⟨hlt,ap,by have :=hs.cE k;omega,ap,by rw[xu];omega,dl,k+1,ac,ac,ac, ?_⟩,λhge=>?_⟩⟩⟩⟩
 . rw[e hlt];exact⟨be,be,λj hj=>f _ _ j hj⟩
 . rw[xv ac];exact⟨0,ac,rfl,eq,eq,rfl⟩
 . rw[bk hlt];exact⟨be,be,λj hj=>bE _ _ j hj⟩
 . rw[xv ac];grind
theorem zhu (o:bG p) (j:eL t) (f:fc p m=true) (h:cH p t=true):oH m (aI p t)/\zg p t=aI p t/\gZ p 32 t/\c7 t (aI p t)=0/\t.status=1/\((aI p t).op=21 ->0<=(aI p t).obj/\(aI p t).obj<p.al.length):=by
 have⟨k1,r⟩:=zaa o j f h;unfold cH at h;rw[xa,xo]at h;have⟨h1,x⟩:=h;have⟨h3,i⟩:=o7.1 x;have hpo:kP p:=⟨o,(mF h3).1⟩;have hr:=vS i h1;have hc:=BU hpo ((sj i).wf j) hr.2.1;have⟨c1,y,_⟩:=BS hc;have hg:=Fx c1;have⟨_,_,_,s⟩:=zj1 c1;have hv:=k1.op;unfold fc at f;simp at f;have reg:∀ k,k<7 ->(dC (aI p t).op k=true∨cU (aI p t) k=0):=λk hk=>by
  cases u:dC (aI p t).op k with
  |true=>exact .inl rfl
  |false=>exact .inr (s k hk u)
 unfold lF at y;have obj:∀ n:Int,kQ p (aI p t).op=n ->0<=n ->0<=(aI p t).obj/\(aI p t).obj<n:=λn hn h0=>by
  grind
 refine⟨⟨k1,f.2.1, ?_, ?_,λho=>?_,λho=>?_⟩,r,sj i,hr.2.2.2.1,h1,λho=>?_⟩
 . rcases reg 1 (ap)with h |h
   . exact hg.b h
   . have h:(aI p t).b=0:=h;omega
 . rcases reg 2 (ap)with h |h
   . exact hg.c h
   . have h:(aI p t).c=0:=h;omega
 . rcases reg 6 (ap)with h |h
   . exfalso;have hc:(aI p t).op=13∨(aI p t).op=15∨(aI p t).op=16∨(aI p t).op=17∨(aI p t).op=18∨(aI p t).op=19∨(aI p t).op=20∨(aI p t).op=21∨(aI p t).op=22:=ac;rcases hc with e |e |e |e |e |e |e |e |e<;>(rw[e]at h;exact absurd h ap)
   . exact h
 . have :=obj p.vars.length (by unfold kQ;rw[x9 ac]) ac;omega
 . exact obj p.al.length (by unfold kQ;rw[x8 ac,x8 ac,x8 ac,x9 ho]) (ac)
theorem zrn (h:cx m=true) (x:Int):wr (gT m x).1=(gT m x).1:=by
 unfold gT;split
 . rfl
 . rename_i e;have f:=ma (yk.1 e);exact qC.2 ((yT.1 h).vU _ (rC ac))
theorem zbg (h:8<=i.op/\i.op<=22):i.op=8∨i.op=9∨i.op=10∨i.op=11∨i.op=12∨i.op=13∨i.op=14∨i.op=15∨i.op=16∨i.op=17∨i.op=18∨i.op=19∨i.op=20∨i.op=21∨i.op=22:=ac
theorem ai5 (h:8<=i.op/\i.op<=22):(du s.mem t i (aT s t i)).2.1=fG i (aT s t i):=by
 rcases zbg h with e |e |e |e |e |e |e |e |e |e |e |e |e |e |e;all_goals simp only[aT,bJ,jW,du,fG,e,reduceIte,Int.reduceEq,or_true,true_or,or_self]
 . by_cases f:(gT s.mem i.obj).1=bz t i.b
   . simp only[x9 f,reduceIte,Int.reduceEq];rfl
   . simp only[x8 f,reduceIte,Int.reduceEq,or_self];rfl
 . cases m:jU s.mem i.obj<;>rfl
 . unfold jz;by_cases j:t.phase=0
   . simp only[x9 j,reduceIte,Int.reduceEq,or_self];split<;>rfl
   . by_cases k:t.phase=1
     . grind
     . simp only[x8 j,x8 k,reduceIte,Int.reduceEq,or_self]
theorem agv (h:8<=i.op/\i.op<=22) (j:cx s.mem=true):wr (fG i (aT s t i))=fG i (aT s t i):=by
 have f:=zrn j i.obj;have m:wr 0=0:=rfl;have o:wr 1=1:=rfl;have k:wr (fZ t)=fZ t:=qC.2 (by
  have :=z9t t;have :0<=fZ t:=by
   unfold fZ;split
   . rename_i h;unfold cV at h;simp at h;have :=yO (id:=t.id) ac;omega
   . decide
  omega)
 rcases zbg h with e |e |e |e |e |e |e |e |e |e |e |e |e |e |e;all_goals simp[aT,bJ,fG,e,Int.reduceEq,or_true,or_self,f,m,k]
 . unfold fi;split<;>assumption
 . unfold fi;split<;>assumption
theorem agr (m:Mem) {t:aF} (i:aP) {e:Ev} (H:e.aG=t.id) (E:e.kind=11 ->e.read=0∨e.read=1):(ca m e).2=(du m t i e).2.2/\((du m t i e).2.2=0 ->(ca m e).1=(du m t i e).1):=by
 unfold ca du;rw[H];by_cases y:e.kind=5
 . rw[x9 (.inr y),x9 y];exact eq
 rw[x8 y];by_cases z:e.kind=2
 . rw[x9 (.inl z),x9 z];exact eq
 rw[x8 z,x8 ac];by_cases F:e.kind=1∨e.kind=8
 . rw[x9 F,x8 ac,x8 ac,x8 ac,x8 ac,x8 ac,x8 ac,x8 ac];exact eq
 rw[x8 F];by_cases x:e.kind=9
 . rw[x9 x,x8 ac,x9 x];exact eq
 rw[x8 x,x8 x];by_cases f:e.kind=11
 . rw[x9 f,x9 f];rcases E f with h |h
   . rw[x8 ac,x9 h];exact eq
   . rw[x9 h,x8 ac];exact eq
 rw[x8 f,x8 f];by_cases s:e.kind=10
 . rw[x9 s,x9 s];exact eq
 rw[x8 s,x8 s];by_cases r:e.kind=12
 . rw[x9 r,x9 r];by_cases u:(bm m e.mutex t.id t.id (-1)).2=0
   . rw[x8 (by simpa using u),x9 u];exact eq
   . rw[x9 u,x8 u];exact⟨rfl,λh=>absurd h u⟩
 rw[x8 r,x8 r];by_cases o:e.kind=13
 . rw[x9 o,x9 o];exact eq
 rw[x8 o,x8 o];by_cases k:e.kind=14
 . rw[x9 k,x9 k];exact eq
 rw[x8 k,x8 k];by_cases j:e.kind=15
 . rw[x9 j,x9 j];exact eq
 rw[x8 j,x8 j];split
 . exact eq
 . exact eq
theorem zjn (h:gV p b t=true):gV p 32 t=true:=by
 have⟨j,f⟩:=o7.1 h;have⟨i,k⟩:=mF j;refine o7.2 ⟨by unfold aX;rw[x8 (by simp[i]),x8 ap], ?_⟩;have F:=sj f;unfold df at f ⊢;rw[xa]at f ⊢;refine⟨Y9.2 ⟨F.id,F.fn,F.pc,F.az,by have :=F.steps;omega,F.kids,F.deep,F.ou,F.held,F.ph⟩, ?_⟩;have e:=f.2;split at e
 . rename_i hs;rw[x9 hs];unfold mw at e ⊢;simp at e ⊢;refine⟨e.1,e.2.1,e.2.2.1,e.2.2.2.1, ?_⟩;omega
 . grind
theorem an4 (h:c9 p b s=true):c9 p 32 s=true:=by
 have⟨k,i,f⟩:=qH.1 h;exact qH.2 ⟨k,i,λj e=>⟨zjn (f j e).1,(f j e).2⟩⟩
theorem YQ {p:aj} {b:Int} {l:List aF} (h:∀ j,j<l.length ->lD p b l j):∀ j i,i<j ->j<l.length ->(l.getD i au).id<(l.getD j au).id
 |0,_,m,_=>ac
 |j+1,i,m,k=>by
  have f:=(h (j+1) k).2 ac;rw[Nat.add_sub_cancel]at f;by_cases e:i=j
  . subst e;exact f
  . have :=YQ h j i ac ac;omega
theorem zg0 (h:∀ j,j<l.length ->lD p b l j) {k:Nat} (f:k<l.length):aV l (l.getD k au).id=k:=by
 have m:=zm2 f rfl;have⟨i,o⟩:=pT m;have :(aV l (l.getD k au).id).toNat=k:=by
  rcases js (aV l (l.getD k au).id).toNat k with e |e |e
  . have :=YQ h _ _ e f;omega
  . exact e
  . have :=YQ h _ _ e i;omega
 omega
theorem zro {a:Int} (h:c9 p b s=true):aW (cY p s) a=true↔(bn p s a).2.2=true/\z20 s (cF p s a) (cq p s a)=true:=by
 have V:=(qH.1 h).2.2;unfold cY;rw[x9 (an4 h),zV];have mem:(∃ j,j<((s.af.filter (oU p s)).map (·.id)).length/\a=((s.af.filter (oU p s)).map (·.id)).getD j 0)↔∃ k,k<s.af.length/\oU p s (s.af.getD k au)=true/\(s.af.getD k au).id=a:=by
  constructor
  . rintro⟨j,m,e⟩;have o:a∈(s.af.filter (oU p s)).map (·.id):=by rw[e];exact rC m
    obtain⟨t,u,rfl⟩:=ge.1 o;have⟨f,r⟩:=yn.1 u;obtain⟨k,i,rfl⟩:=w6 f;exact⟨k,i,by rw[x7,xe i];exact r,by rw[x7,xe i];rfl⟩
  . rintro⟨k,i,f,r⟩;have o:a∈(s.af.filter (oU p s)).map (·.id):=by
     grind
    have⟨j,m,e⟩:=w6 o;exact⟨j,m,by rw[x7,xe m];exact e.symm⟩
 rw[mem];constructor
 . rintro⟨k,i,f,rfl⟩;have x:=zg0 V i;unfold oU at f;rw[xa]at f;unfold cF cq bn;rw[x8 ac,x,j7];exact f
 . rintro⟨f,r⟩;have⟨r1,r2,z,y⟩:=Hu f;have⟨F,E⟩:=pT r1;unfold oU;grind
theorem zrp (x:aF) (id:Int):∀ l:List aF,l.Pairwise (λa b=>a.id<b.id) ->(∀ t∈l,t.id≠id) ->l.filter (λt=>decide (t.id<id))++(x::l.filter λt=>decide (id<t.id))=iu l x (iD l id)
 | [],_,_=>rfl
 |t::l,o,k=>by
  have i:=jf.1 o;by_cases h:t.id<id
  . have m:=zrp x id l i.2 λu f=>k u (by simp[f]);have e:iD (t::l) id=iD l id+1:=by
     unfold iD;rw[List.takeWhile_cons_of_pos (by simpa using h)];rfl
    rw[e,List.filter_cons_of_pos (by simpa using h),List.filter_cons_of_neg ci,List.cons_append,m];unfold iu;simp
  . have j:id<t.id:=by have :=k t be;omega
    have e:iD (t::l) id=0:=by
     unfold iD;rw[List.takeWhile_cons_of_neg (by simpa using h)];rfl
    have s:(t::l).filter (λt=>decide (t.id<id))=[]:=by
     rw[List.filter_eq_nil_iff];intro u f;rcases xq.1 f with rfl |f
     . simpa using h
     . have :=i.1 u f;simp;omega
    have r:(t::l).filter (λt=>decide (id<t.id))=t::l:=by
     rw[List.filter_eq_self];intro u f;rcases xq.1 f with rfl |f
     . simpa using j
     . have :=i.1 u f;simp;omega
    rw[e,s,r];rfl
theorem ajq {x:aF} (h:∀ j,j<l.length ->lD p b l j) (s:aV l x.id<0):nW l x=iu l x (iD l x.id):=by
 unfold nW jy qJ;rw[List.take_length];refine zrp x x.id l ?_ λt o e=>?_
 . rw[wn];intro i j u r f;have :=YQ h j i f r;grind
 . obtain⟨k,m,rfl⟩:=w6 o;have :=zm2 (l:=l) (id:=x.id) m (by simpa [x7,m]using e);omega
theorem zrq:∀ (k:Nat) (n:Int),da n k<=4
 |0,n=>by unfold da;decide
 |k+1,n=>by
  rw[xO];split
  . omega
  . split
    . decide
    . exact zrq k _
theorem zhv:∀ (k:Nat) (n c:Int),0<=n ->0<=c ->c<=6 ->0<=da n k ->da n k<4 ->k<=5 ->0<=da (8*(n+1)+c) k
 |0,n,c,_,_,_,e,f,_=>by unfold da at e;omega
 |k+1,n,c,i,x,s,e,f,u=>by
  rw[xO]at e f ⊢;have m:(8*(n+1)+c).tmod 8=c:=by rw[jb ac];omega
  have o:(8*(n+1)+c).tdiv 8 - 1=n:=by rw[Int.tdiv_eq_ediv_of_nonneg ac];omega
  have y:=jb (b:=8) i;have z:=Int.tdiv_eq_ediv_of_nonneg (b:=8) i;rw[x8 ac,m,x8 ac,o];by_cases h:n<8
  . rw[x9 h]at e f;cases k with
    |zero=>omega
    |succ k=>rw[xO,x9 h];omega
  . rw[x8 h]at e f;by_cases r:7<=n.tmod 8
    . omega
    . rw[x8 r]at e f;cases k with
      |zero=>unfold da at e;omega
      |succ k=>
       have j:=zhv (k+1) (n.tdiv 8 - 1) (n.tmod 8) ac ac ac ac f ac;rw[show 8*(n.tdiv 8 - 1+1)+n.tmod 8=n from ac]at j;omega
theorem ai3 (h:cV t=true):0<=bC (fZ t):=by
 unfold fZ;rw[x9 h];unfold cV at h;simp at h;have⟨⟨⟨i,f⟩,m⟩,k⟩:=h;have e:=yO (id:=t.id) ac;rw[zj0 ac]at i f ⊢;have j:da t.id 5<=4:=zrq 5 t.id;exact zhv 5 t.id t.kids e.1 ac ac ac ac (ac)
theorem akj (r:bG p) (i:eL t) (x:aX p b=0) (s:fc p m=true) (h:cH p t=true) (f:(zg p t).op=21):(bf p b (fZ t) (zg p t).obj (bz t (zg p t).b)).2=0:=by
 have⟨E,z,j,y,J,H⟩:=zhu r i s h;rw[z]at f ⊢;have o:t.phase=0:=by
  rcases j.ph with e |e
  . exact e
  . omega
 have u:cV t=true:=by
  unfold c7 at y;grind
 have F:=ai3 u;have k:wr (bz t (aI p t).b)=bz t (aI p t).b:=qC.2 (j.az _ (rC (by rw[i.az];have :=E.b;omega)));unfold bf;rw[x8 (by simp[x]),x8 ac,x8 ac,x8 (by simpa using k)]
theorem zz2 {r:Int} (h:gV p b t=true) (f:t.status=1) (e:wr r=r):(cy p b t r).2=0:=by
 have⟨a,c⟩:=o7.1 h;grind[cy]
def zG (s:ah) (p:aj) (a:Int):Mem×Int:=ca s.mem (c4 p s a)
def vj (p:aj) (b:Int) (s:ah) (a:Int):aF×Int:=bf p b (c4 p s a).obj (cq p s a).obj (bz (cF p s a) (cq p s a).b)
def lN (p:aj) (b:Int) (s:ah) (a:Int):List aF:=nW s.af (vj p b s a).1
def zM (p:aj) (b:Int) (s:ah) (a:Int):aF×Int:=cy p b (cF p s a) (fG (cq p s a) (c4 p s a))
def oR5 (p:aj) (b:Int) (s:ah) (a:Int):FuncId ->List AV ->Option AV
 |69,_=>some (co (aX p b))
 |76,[_, .int _ c,_]=>some (.bool (c9 p c s))
 |77,[_, .mc _ t, .mc _ i]=>some (.bool (z20 s (dT t) (eQ i)))
 |83,_=>some (dg (c4 p s a))
 |46,_=>some (ab (cY p s))
 |91,_=>some (.bool (aW (cY p s) a))
 |92,_=>some (.ax [vM (zG s p a).1,co (zG s p a).2])
 |85,_=>some (HM s)
 |71,_=>some (.ax [vT (vj p b s a).1,co (vj p b s a).2])
 |94,_=>some (co (fG (cq p s a) (c4 p s a)))
 |89,_=>some (.ax [vT (zM p b s a).1,co (zM p b s a).2])
 |82,[.seq _ n f, .int _ i]=>some (.ax [co (max (aV (dR dT (.seq zk n f)) i) 0), .bool (decide (0<=aV (dR dT (.seq zk n f)) i))])
 |_,_=>none
def aeb (p:aj) (b:Int) (s:ah) (a:Int) (n:Nat):bt:={dc n λ_ _=>false with
 fresh:=λf _=>match Nat.beq f 85 with |true=>some [fy s.af,ky s.ag] |false=>none,
 mkr:=λ_ _=>some (.own 0 (lN p b s a).length,fy (lN p b s a)),oC:=λf _=>Nat.beq f 93}
theorem zg1 (p:aj) (b:Int) (s:ah) (a:Int) (n:Nat):cf (aeb p b s a n):=mC (am)
def vR5 (p:aj) (b:Int) (s:ah) (a:Int) (n:Nat) (I:Nat ->Option Inv):bj:={C:=aeb p b s a n,CC:=aL Tryz.prog GG,bb:=λ_ _=>oR5 p b s a,inv:=I,fz:=λk=>match Nat.beq k 22 with |true=>[364544,364545] |false=>[]}
def zz3 (p:aj) (s:ah) (k:Nat):Option Inv:=match Nat.beq k 5 with
 |true=>iw s.af.length (λi=>⟨[(2, .ptr 2 []),(3, .ptr 3 []),(5, .own 47 (ft p s i).length),(6,co i)],[(2,jO p),(3,fJ s),(47,bI (ft p s i))]⟩) λi=>c9 p 32 s=true
 |false=>none
end
end Go.Proofs.S25
