import Derived.Test.YtcfagpelpjdmaaaGreatDoorXq
namespace Go.Proofs.S25
open Go Go.AV
open Go.IntKind renaming i64 -> j6
open Go.AV.Shape (leaf)
noncomputable section
variable (l:List Int) (v:Int) (p:aj) (b:Int) (id:Int) (t:aF) (i:aP) (r:Int) (k:Nat)
theorem fT' (a b c:Int) (r:List Int) (s k ph st f:Int) (h:List Int):AV.agg [co a,co b,co c,my r,co s,co k,co ph,co st,co f,ab h]=aq ⟨a,b,c,r,s,k,ph,st,f,h⟩:=rfl
theorem mv:AV.le [] [] (vP p) (vP p):=⟨rfl,eq,eq,eq,eq,eq,trivial⟩
theorem mF {p:aj} {b:Int} (h:aX p b=0):(zc p).1=0/\1<=b/\b<=32:=by grind[aX]
theorem sj {p:aj} {b:Int} {t:aF} (h:df p b t=true):gZ p b t:=by grind[df,Y9.1]
theorem vS {p:aj} {b:Int} {t:aF} (h:df p b t=true) (hs:t.status=1):t.fault=0/\ec p t=true/\di (aI p t).op=true/\c7 t (aI p t)=0/\t.steps<b:=by grind[df,mw]
theorem o7 {p:aj} {b:Int} {t:aF}:gV p b t=true↔aX p b=0/\df p b t=true:=by grind[gV]
theorem zti {i:aP} (h:(cC i).2=true):(cC i).1=i.a/\0<=i.a/\i.a<8:=by
 unfold cC at h;split at h
 . cases h
 . rename_i q;have e:cC i=(i.a,true):=by unfold cC;rw[x8 q]
   rw[e];have f:eG i=0/\dC i.op 0=true:=by simpa using q
   have :=(Fx f.1).a f.2;omega
theorem zfj {p:aj} {id fn arg:Int} (e:id<=9223372036854775807) (h:0<=fn/\fn<p.al.length):kR p (B9 id fn arg):=
 ⟨⟨rfl,e,by show(0:Int)<_;omega,by show 0<=1000;omega⟩,h,by show 0<=(0:Int)/\(0:Int)<=_;omega⟩
theorem zj5:(dt l v).length<=l.length:=y6 (yw _ _) (uV _)
theorem zj6:(cu l v).length<=l.length+1:=by grind[cu,uV]
theorem za7:(wrote t i r).az.length=t.az.length:=by grind[wrote,kG]
theorem zcx:(cr t i r).id=t.id/\(cr t i r).fn=t.fn/\(cr t i r).fault=t.fault/\(cr t i r).az=(wrote t i r).az/\(cr t i r).steps=t.steps+1/\(cr t i r).status=t.status/\((cr t i r).pc=t.pc∨(cr t i r).pc=t.pc+1)/\(cr t i r).held.length<=t.held.length+1:=by
 have j:=zj5 t.held i.n;have h:=zj6 t.held i.n;have f:=zj6 t.held i.obj;have e:=zj5 t.held i.obj;unfold cr fg;repeat' split
 all_goals first
  |exact⟨rfl,rfl,rfl,rfl,rfl,rfl, .inl rfl,by show(dt t.held i.n).length<=_;omega⟩
  |exact⟨rfl,rfl,rfl,rfl,rfl,rfl, .inl rfl,Nat.le_succ _⟩
  |exact⟨rfl,rfl,rfl,rfl,rfl,rfl, .inr rfl,by show(cu t.held i.n).length<=_;omega⟩
  |exact⟨rfl,rfl,rfl,rfl,rfl,rfl, .inr rfl,by show(cu t.held i.obj).length<=_;omega⟩
  |exact⟨rfl,rfl,rfl,rfl,rfl,rfl, .inr rfl,by show(dt t.held i.obj).length<=_;omega⟩
  |exact⟨rfl,rfl,rfl,rfl,rfl,rfl, .inr rfl,Nat.le_succ _⟩
theorem zj7 {p:aj} {b:Int} {t:aF} (i:kP p) (e:eL t) (h:df p b t=true) (hs:t.status=1) (r:Int):kR p (cr t (aI p t) r):=by
 have F:=sj h;have W:=F.wf e;have⟨_,o,_⟩:=vS h hs;have⟨x,j,_,u,_,_,E,z⟩:=zcx t (aI p t) r;have hl:=F.hlen i;have y:=(Z5 W o).1;have m:=F.fn;have k:=F.pc;have s:=(i.code (f:=t.fn.toNat) ac).1;refine⟨⟨by rw[u,za7];exact e.az,by rw[x];exact e.id,ac,ac⟩,by rw[j];exact m,by rw[j];omega⟩
theorem wE:(⟨t.id,t.fn,t.pc,if(cC i).2=true then kG t.az (cC i).1 r else t.az,t.steps+1,t.kids,t.phase,t.status,t.fault,t.held⟩:aF)=wrote t i r:=rfl
theorem zpq (m:Int):(fg t m).az=t.az:=by
 unfold fg;repeat' split
 all_goals rfl
theorem iA:(0=au.id/\0=au.fn/\0=au.pc/\(∀ i:Nat,co 0=co (au.az.getD i 0))/\0=au.steps/\0=au.kids/\0=au.phase/\0=au.status/\0=au.fault/\au.held.length=0):=
 ⟨rfl,rfl,rfl,λi=>by show _=co ((List.replicate 8 0).getD i 0);rw[S5],rfl,rfl,rfl,rfl,rfl,rfl⟩
theorem zpr (fn arg:Int):dT (AV.agg [co id,co fn,co 0, .arr 8 (λj=>if j=0 then co arg else co 0),co 0,co 0,co 0,co 1,co 0, .aA])=B9 id fn arg:=rfl
theorem zhg (arg:Int) (j:Nat):(if j=0 then co arg else co 0)=co ((arg::List.replicate 7 0).getD j 0):=by
 cases j with
 |zero=>rfl
 |succ j=>
  grind
section
variable (p:aj) (b:Int) (id:Int) (fn:Int) (arg:Int)
def OK:=0=(bf p b id fn arg).fst.id/\0=(bf p b id fn arg).fst.fn/\0=(bf p b id fn arg).fst.pc/\(∀ i:Nat,co 0=co ((bf p b id fn arg).fst.az.getD i 0))/\0=(bf p b id fn arg).fst.steps/\0=(bf p b id fn arg).fst.kids/\0=(bf p b id fn arg).fst.phase/\0=(bf p b id fn arg).fst.status/\0=(bf p b id fn arg).fst.fault/\(bf p b id fn arg).fst.held.length=0
def qt:=aX (dP (ak p)) b !=0
def Zx:=OK p b id fn arg/\2=(bf p b id fn arg).snd
def Lg:=decide (bC id<0)
def qnr:=decide (fn<0)
def qau:=(!qnr fn)=true
def rH:=qau fn->qau fn
def ZQ:=qnr fn||decide (↑p.al.length<=fn)
def qgv:=AV.agg [co id,co fn,co 0,AV.arr 8 λj=>if j=Int.toNat 0 then av (av (co arg))else co 0,co 0,co 0,co 0,co 1,co 0,AV.aA]
def gj:=aq (b8 (dP (ak p)) b (dT (qgv id fn arg)))
end
theorem aaz (fn arg:Int) (hp:bG p) (hid:id<=9223372036854775807):KN 121 [vP p,co b,co id,co fn,co arg] (.ax [vT (bf p b id fn arg).1,co (bf p b id fn arg).2]):=by
 refine Kn (mW 50 λ_=>none) Tryz.func121 (KN 202 [AV.mc z7 (ak p),co b] (co (aX (dP (ak p)) b))/\(qt p b=true->OK p b id fn arg/\aX (dP (ak p)) b=(bf p b id fn arg).snd)/\(qt p b=false->KN 212 [co id] (co (bC id))/\(Lg id=true->Zx p b id fn arg)/\(Lg id=false->rH fn/\rH fn/\(qau fn->↑p.al.length<=(9223372036854775807:Int))/\rH fn/\rH fn/\rH fn/\(ZQ p fn=true->OK p b id fn arg/\11=(bf p b id fn arg).snd)/\(ZQ p fn=false->KN 204 [co arg] (co (wr arg))/\((wr arg !=arg)=true->Zx p b id fn arg)/\((wr arg !=arg)=false->ai 0 8/\KN 206 [AV.mc z7 (ak p),co b,AV.mc zk (qgv id fn arg)] (AV.mc zk (gj p b id fn arg))/\LS (gj p b id fn arg) (aq (bf p b id fn arg).fst)/\0=(bf p b id fn arg).snd))))) ?_;try delta OK qt Zx Lg qnr qau rH ZQ qgv gj
 simp only[SZ];simp only[zpr];refine⟨Ve p b hp,λh=>?_,λh=>⟨Sx id hid,λhd=>?_,λhd=>⟨λ_=>by have :=hp.al;omega,λhf=>?_,λhf=>⟨ua _,λhw=>?_,λhw=>⟨ap, ?_, ?_⟩⟩⟩⟩⟩
 . have e:bf p b id fn arg=(au,aX p b):=by unfold bf;rw[x9 h]
   rw[e];exact⟨iA,rfl⟩
 . have e:bf p b id fn arg=(au,2):=by unfold bf;rw[x8 (by simp[h]),x9 hd]
   rw[e];exact⟨iA,rfl⟩
 . have e:bf p b id fn arg=(au,11):=by unfold bf;rw[x8 (by simp[h]),x8 hd,x9 hf]
   rw[e];exact⟨iA,rfl⟩
 . have e:bf p b id fn arg=(au,2):=by unfold bf;rw[x8 (by simp[h]),x8 hd,x8 ac,x9 hw]
   rw[e];exact⟨iA,rfl⟩
 . have hk:=Hg p b (B9 id fn arg) ⟨hp,(mF h).1⟩ (zfj hid ac);exact hk.weaken (args':=[_,_,_]) rfl ⟨mv p,eq,⟨rfl,eq,eq,eq,⟨rfl,zhg arg⟩,eq,eq,eq,eq,eq,rfl,trivial⟩,trivial⟩
 . have e:bf p b id fn arg=(b8 p b (B9 id fn arg),0):=by unfold bf;rw[x8 (by simp[h]),x8 hd,x8 ac,x8 (by simp[hw])]
   rw[e];exact eq
section
variable (t:aF)
def ND:=(!t.fault !=0)=true
def OO:=ND t->ND t
end
section
variable (p:aj) (t:aF)
def Ub:=t.fault !=0||!ec (dP (ak p)) (dT (aq t))
def qns:=(!Ub p t)=true
def qgw:=qns p t->qns p t
def FO:=KN 248 [co (aI (dP (ak p)) (dT (aq t))).op] (AV.bool (di (aI (dP (ak p)) (dT (aq t))).op))
def Gg:=Ub p t||!di (aI (dP (ak p)) (dT (aq t))).op
def qnt:=(!Gg p t)=true
def qgx:=qnt p t->qnt p t
def qnu:Int:=c7 (dT (aq t)) (eQ (encI (aI (dP (ak p)) (dT (aq t)))))
def CK:=KN 249 [AV.mc zk (aq t),AV.mc zy (encI (aI (dP (ak p)) (dT (aq t))))] (co (qnu p t))
def S9:=Gg p t||qnu p t !=0
def qgy:=(t.status==1)=true
def qgz:=qgy t->qgy t
end
section
variable (b:Int) (t:aF)
def qh0:=t.status==1&&decide (t.steps<b)
def Zy:=!qh0 b t
def qnv:=Zy b t=true
def Yy:=qnv b t->qnv b t
def qnw:=(Zy b t&&t.status==4)=true
def Ng:=qnw b t->qnw b t
def LH:=(t.status==4)=true
end
section
variable (p:aj) (b:Int) (t:aF)
def MF:=OO t/\OO t/\qgw p t/\qgw p t/\(qns p t->FO p t)/\qgw p t/\qgw p t/\qgx p t/\qgx p t/\(qnt p t->CK p t)/\qgx p t/\qgx p t/\(S9 p t=true->false=df p b t)/\(S9 p t=false->qgz t/\qgz t/\qgz t/\qgz t/\Yy b t/\Yy b t/\Yy b t/\Ng b t/\Ng b t/\Yy b t/\(qnv b t->LH t->qnw b t)/\Yy b t/\(qh0 b t||t.status==4&&decide (1<=t.steps))=df p b t)
def qnx:=(t.fault==0)=true
def yL:=qnx t->qnx t
def GD:=t.fault==0&&t.phase==0
def XN:=GD t=true
def xQ:=XN t->XN t
def qny:=(GD t&&!!ec (dP (ak p)) (dT (aq t)))=true
def Ij:=qny p t->qny p t
def My:=(!t.phase !=0)=true
def MJ:=My t->My t
def SK:=t.phase !=0||!ec (dP (ak p)) (dT (aq t))
def Qt:=(aI (dP (ak p)) (dT (aq t))).op==6
def qnz:=Qt p t=true
def SP:=qnz p t->qnz p t
def UY:=(t.fault !=0)=true
def PM:=UY t->UY t
def Nj:=((t.status==2)=true->yL t/\yL t/\yL t/\xQ t/\xQ t/\Ij p t/\Ij p t/\xQ t/\(XN t->(!!ec (dP (ak p)) (dT (aq t)))=true->qny p t)/\xQ t/\(GD t&&(!ec (dP (ak p)) (dT (aq t))||(aI (dP (ak p)) (dT (aq t))).op==7))=df p b t)/\((t.status==2)=false->((t.status==3)=true->MJ t/\MJ t/\(SK p t=true->false=df p b t)/\(SK p t=false->((t.fault==26)=true->SP p t/\SP p t/\SP p t/\(qnz p t->ai (aI (dP (ak p)) (dT (aq t))).b 8)/\SP p t/\SP p t/\SP p t/\(Qt p t&&t.az.getD (aI (dP (ak p)) (dT (aq t))).b.toNat 0==0)=df p b t)/\((t.fault==26)=false->((t.fault==29)=true->FO p t/\(!di (aI (dP (ak p)) (dT (aq t))).op)=df p b t)/\((t.fault==29)=false->PM t/\PM t/\(UY t->CK p t)/\PM t/\PM t/\PM t/\PM t/\(t.fault !=0&&qnu p t==t.fault)=df p b t))))/\((t.status==3)=false->false=df p b t))
def Uz:=(t.status==1)=false
end
theorem zwj (f:kP p) (e:eL t):KN 203 [vP p,co b,vT t] (.bool (df p b t)):=by
 refine Kn (mW 123 λ_=>none) Tryz.func203 (KN 247 [AV.mc z7 (ak p),co b,AV.mc zk (aq t)] (AV.bool (gP (dP (ak p)) b (dT (aq t))))/\((!gP (dP (ak p)) b (dT (aq t)))=true->false=df p b t)/\((!gP (dP (ak p)) b (dT (aq t)))=false->KN 174 [AV.mc z7 (ak p),AV.mc zk (aq t)] (AV.ax [AV.mc zy (encI (aI (dP (ak p)) (dT (aq t)))),AV.bool (ec (dP (ak p)) (dT (aq t)))])/\(qgy t->(qgy t->MF p b t)/\(Uz t->Nj p b t))/\(Uz t->(LH t->MF p b t)/\((t.status==4)=false->Nj p b t)))) ?_;try delta ND OO Ub qns qgw FO Gg qnt qgx qnu CK S9 qgy qgz qh0 Zy qnv Yy qnw Ng LH MF qnx yL GD XN xQ qny Ij My MJ SK Qt qnz SP UY PM Nj Uz
 simp only[SZ];simp[jJ t e.az];refine⟨ahu p b t f.sm e,λhf=>by unfold df;rw[hf];rfl,λhf=>?_⟩;have F:=Y9.1 hf;have W:=F.wf e;have hb:ec p t=true ->(aI p t).op=6 ->0<=(aI p t).b/\(aI p t).b<8:=λha h6=>(Fx (BS (BU f W ha)).1).b (by rw[h6];rfl);refine⟨kAt p t F.fn F.pc.1 f.sm, ?_⟩;repeat' (first |apply And.intro |intro _)
 all_goals first
  | ((with_reducible show aL _ _ 248 _ _);exact En _)
  | ((with_reducible show aL _ _ 249 _ _);exact abt t _ e)
  |omega
  | (have :=hb (by simp_all) ce;omega)
  | (simp_all [df,mw,vq,ei];done)
  | (unfold df nr;rw[hf,wd,x8 ac,x9 ce,Bool.and_assoc];done)
  | (rename_i h;rcases h with((h|h)|h)|h<;>simp_all [df,mw]<;>done)
  | (rename_i h;rcases h with h|h<;>simp_all [df,vq,ei]<;>done)
section
variable (p:aj) (b:Int)
def Ix:=aX (dP (ak p)) b==0
def qo0:=Ix p b=true
def qh1:=qo0 p b->qo0 p b
end
theorem zj8 (f:bG p) (e:eL t):KN 170 [vP p,co b,vT t] (.bool (gV p b t)):=by
 refine Kn (mW 17 λ_=>none) Tryz.func170 (KN 202 [AV.mc z7 (ak p),co b] (co (aX (dP (ak p)) b))/\qh1 p b/\qh1 p b/\qh1 p b/\(qo0 p b->KN 203 [AV.mc z7 (ak p),co b,AV.mc zk (aq t)] (AV.bool (df (dP (ak p)) b (dT (aq t)))))/\qh1 p b/\(Ix p b&&df (dP (ak p)) b (dT (aq t)))=gV p b t) ?_;try delta Ix qo0 qh1
 simp only[SZ];simp[jJ t e.az];exact⟨Ve p b f,λh=>zwj p b t ⟨f,(mF h).1⟩ e,rfl⟩
section
variable (t:aF)
def qo1:=(!t.status !=1)=true
def qh2:=qo1 t->qo1 t
end
section
variable (p:aj) (t:aF)
def Db:=t.status !=1||!gV (dP (ak p)) 32 (dT (aq t))
end
theorem ztj (i:bG p) (f:eL t):KN 104 [vP p,vT t] (.ax [vI (zg p t), .bool (cH p t)]):=by
 refine Kn (mW 21 λ_=>none) Tryz.func104 (qh2 t/\qh2 t/\(qo1 t->KN 170 [AV.mc z7 (ak p),co (32:Int),AV.mc zk (aq t)] (AV.bool (gV (dP (ak p)) (32:Int) (dT (aq t)))))/\qh2 t/\qh2 t/\(Db p t=true->(0=(zg p t).op/\0=(zg p t).a/\0=(zg p t).b/\0=(zg p t).c/\0=(zg p t).obj/\0=(zg p t).n/\0=(zg p t).fn/\0=(zg p t).ord)/\false=cH p t)/\(Db p t=false->KN 174 [AV.mc z7 (ak p),AV.mc zk (aq t)] (AV.ax [AV.mc zy (encI (aI (dP (ak p)) (dT (aq t)))),AV.bool (ec (dP (ak p)) (dT (aq t)))])/\LS (encI (aI (dP (ak p)) (dT (aq t)))) (encI (zg p t))/\ec (dP (ak p)) (dT (aq t))=cH p t)) ?_;try delta qo1 qh2 Db
 simp only[SZ];simp only[jJ t f.az];refine⟨λh=>zj8 p 32 t i f,λh=>?_,λh=>⟨?_, ?_⟩⟩
 . have e:cH p t=false:=by
    grind[cH]
   unfold zg;rw[e];exact eq
 . have F:=sj (o7.1 h.2).2;exact kAt p t F.fn F.pc.1 i
 . have e:cH p t=true:=by unfold cH;simp[h]
   unfold zg;rw[e];exact⟨eq,(vS (o7.1 h.2).2 h.1).2.1⟩
section
variable (t:aF) (m:Int)
def KQ:=ab (dt (qw t) m)
def qo2:=∀ i:Nat,co (t.az.getD i 0)=co ((fg t m).az.getD i 0)
def Ip:=ab (cu (qw t) m)
end
theorem ana (m:Int) (e:eL t) (f:0<=t.pc/\t.pc<=1000000):KN 207 [vT t,co m] (vT (fg t m)):=by
 refine Kn (mW 29 λ_=>none) Tryz.func207 (((t.phase==0)=true->KN 209 [ab t.held,co m] (KQ t m)/\t.id=(fg t m).id/\t.fn=(fg t m).fn/\t.pc=(fg t m).pc/\qo2 t m/\t.steps=(fg t m).steps/\t.kids=(fg t m).kids/\1=(fg t m).phase/\t.status=(fg t m).status/\t.fault=(fg t m).fault/\LS (KQ t m) (ab (fg t m).held))/\((t.phase==0)=false->((t.phase==1)=true->t.id=(fg t m).id/\t.fn=(fg t m).fn/\t.pc=(fg t m).pc/\qo2 t m/\t.steps=(fg t m).steps/\t.kids=(fg t m).kids/\2=(fg t m).phase/\t.status=(fg t m).status/\t.fault=(fg t m).fault/\LS (ab t.held) (ab (fg t m).held))/\((t.phase==1)=false->KN 208 [ab t.held,co m] (Ip t m)/\aU j6 (uh t)/\t.id=(fg t m).id/\t.fn=(fg t m).fn/\uh t=(fg t m).pc/\qo2 t m/\t.steps=(fg t m).steps/\t.kids=(fg t m).kids/\0=(fg t m).phase/\t.status=(fg t m).status/\t.fault=(fg t m).fault/\LS (Ip t m) (ab (fg t m).held)))) ?_;try delta qw KQ qo2 Ip uh
 simp only[SZ];simp only[oR];refine⟨λh=>⟨Wn _ _ (by have :=e.held;omega),by unfold fg;rw[x9 h];exact eq⟩,λh=>⟨λh1=>by unfold fg;rw[x8 h,x9 h1];exact eq,λh1=>⟨tU _ _ (by have :=e.held;omega),dl,by unfold fg;rw[x8 h,x8 h1];exact eq⟩⟩⟩
section
variable (p:aj) (b:Int) (t:aF) (r:Int)
def vr:=0=(cy p b t r).fst.id/\0=(cy p b t r).fst.fn/\0=(cy p b t r).fst.pc/\(∀ i:Nat,co 0=co ((cy p b t r).fst.az.getD i 0))/\0=(cy p b t r).fst.steps/\0=(cy p b t r).fst.kids/\0=(cy p b t r).fst.phase/\0=(cy p b t r).fst.status/\0=(cy p b t r).fst.fault/\(cy p b t r).fst.held.length=0
def yB:Int:=t.steps+1
def Vg:Int:=(cC (eQ (encI (aI (dP (ak p)) (dT (aq t)))))).fst
def qo3:=(cC (eQ (encI (aI (dP (ak p)) (dT (aq t)))))).snd
variable (x3:Nat)
def uT:=co ((if(cC (aI p t)).snd=true then kG t.az (cC (aI p t)).fst r else t.az).getD x3 0)
def KZ:=RR (yB t)/\RR t.kids/\RR t.phase/\RR t.status/\RR t.fault/\LT (ab t.held)
def Ks:=(RR (0:Int)/\RR (0:Int)/\RR (0:Int)/\(∀ i:Nat,co 0=sd i)/\RR (0:Int)/\RR (0:Int)/\RR (0:Int)/\RR (0:Int)/\RR (0:Int)/\(0:Nat)=(0:Nat))/\LS (encI (aI (dP (ak p)) (dT (aq t)))) (encI (aI p t))
def Hm:=AV.agg [co t.id,co t.fn,co t.pc,AV.arr 8 λi=>uT p t r i,co (yB t),co t.kids,co t.phase,co t.status,co t.fault,ab t.held]
def NO:=aq (fg (dT (Hm p t r)) (aI p t).n)
def Mw:=AV.mc zk (NO p t r)
def Tu:=aq (b8 (dP (ak p)) b (dT (NO p t r)))
def PN:=0=(cy p b t r).snd
def Tz:=(aI p t).op==18
variable (x0:aF)
def qo4:Int:=x0.pc+1
variable (x4:aF)
def gz:=gO p b t r/\cr t (aI p t) r=aF.mk x4.id x4.fn (qo4 x4) x4.az x4.steps x4.kids x4.phase x4.status x4.fault x4.held/\x4.pc=t.pc
end
section
variable (p:aj) (t:aF) (r:Int) (x3:aF)
def qh3:=∀ (i:Nat),uT p t r i=co (x3.az.getD i 0)
variable (x1:aF)
def qh4:=yB t=x1.steps
def J8:=t.phase=x1.phase/\t.status=x1.status/\t.fault=x1.fault/\LS (ab t.held) (ab x1.held)
def Yg:=RR (0:Int)/\RR (0:Int)/\RR (0:Int)/\(∀ (i:Nat),RR (sd i))/\RR (0:Int)/\RR (0:Int)/\RR (0:Int)/\RR (0:Int)/\RR (0:Int)/\LT (ab [])
end
section
variable (p:aj) (b:Int) (t:aF) (r:Int)
def Ri:=∃ j,gz p b t r j/\RR b/\LT (ak p)/\(t.id=j.id/\t.fn=j.fn/\t.pc=j.pc/\qh3 p t r j/\qh4 t j/\t.kids=j.kids/\J8 t j)/\Yg
def N7:List AV:=[ab t.held,co (aI p t).obj]
def Ly:=ab (cu (qw t) (aI p t).obj)
def Pf:=KN 208 (N7 p t) (Ly p t)/\(∃ j,gz p b t r j/\RR b/\LT (ak p)/\(t.id=j.id/\t.fn=j.fn/\t.pc=j.pc/\qh3 p t r j/\qh4 t j/\t.kids=j.kids/\t.phase=j.phase/\t.status=j.status/\t.fault=j.fault/\LS (Ly p t) (ab j.held))/\Yg)
def KR:=(aI p t).op==17
def jc:=(aI p t).op==15
def Od:=ab (dt (qw t) (aI p t).obj)
def WQ:=(aI p t).op==16
def QX:Int:=t.kids+1
def qb4:=(aI p t).op==21
def YH:=aq (b8 (dP (ak p)) b (dT (aq (cr t (aI p t) r))))
end
theorem z117 (k:bG p) (f:eL t):KN 118 [vP p,co b,vT t,co r] (.ax [vT (cy p b t r).1,co (cy p b t r).2]):=by
 refine Kn {mW 103 (λ_=>none)with cut:=zpp p b t r} Tryz.func118 (KN 202 [AV.mc z7 (ak p),co b] (co (aX (dP (ak p)) b))/\(qt p b=true->vr p b t r/\aX (dP (ak p)) b=(cy p b t r).snd)/\(qt p b=false->KN 203 [AV.mc z7 (ak p),co b,AV.mc zk (aq t)] (AV.bool (df (dP (ak p)) b (dT (aq t))))/\((!df (dP (ak p)) b (dT (aq t)))=true->vr p b t r/\1=(cy p b t r).snd)/\((!df (dP (ak p)) b (dT (aq t)))=false->((t.status !=1)=true->vr p b t r/\30=(cy p b t r).snd)/\((t.status !=1)=false->KN 204 [co r] (co (wr r))/\((wr r !=r)=true->vr p b t r/\2=(cy p b t r).snd)/\((wr r !=r)=false->KN 174 [AV.mc z7 (ak p),AV.mc zk (aq t)] (AV.ax [AV.mc zy (encI (aI (dP (ak p)) (dT (aq t)))),AV.bool (ec (dP (ak p)) (dT (aq t)))])/\aU j6 (yB t)/\(KN 205 [AV.mc zy (encI (aI (dP (ak p)) (dT (aq t))))] (AV.ax [co (Vg p t),AV.bool (qo3 p t)])/\(qo3 p t=true->ai (Vg p t) 8/\(∃ (j:Unit),gO p b t r/\(RR b/\RR r)/\LT (ak p)/\(RR t.id/\RR t.fn/\RR t.pc/\(∀ (i:Nat),(if i=(cC (eQ (encI (aI (dP (ak p)) (dT (aq t)))))).fst.toNat then av (av (co r))else co (t.az.getD i 0))=uT p t r i)/\KZ t)/\Ks p t))/\(qo3 p t=false->∃ (j:Unit),gO p b t r/\(RR b/\RR r)/\LT (ak p)/\(RR t.id/\RR t.fn/\RR t.pc/\(∀ (i:Nat),co (t.az.getD i 0)=uT p t r i)/\KZ t)/\Ks p t))/\∀ i:Unit,gO p b t r->(Tz p t=true->KN 207 [AV.mc zk (Hm p t r),co (aI p t).n] (Mw p t r)/\KN 206 [AV.mc z7 (ak p),co b,Mw p t r] (AV.mc zk (Tu p b t r))/\LS (Tu p b t r) (aq (cy p b t r).fst)/\PN p b t r)/\(Tz p t=false->((KR p t=true->((r==0)=true->Ri p b t r)/\((r==0)=false->Pf p b t r))/\(KR p t=false->(jc p t=true->Pf p b t r)/\(jc p t=false->(WQ p t=true->KN 209 (N7 p t) (Od p t)/\(∃ j,gz p b t r j/\RR b/\LT (ak p)/\(t.id=j.id/\t.fn=j.fn/\t.pc=j.pc/\qh3 p t r j/\qh4 t j/\t.kids=j.kids/\t.phase=j.phase/\t.status=j.status/\t.fault=j.fault/\LS (Od p t) (ab j.held))/\Yg))/\(WQ p t=false->(qb4 p t=true->aU j6 (QX t)/\(∃ j,gz p b t r j/\RR b/\LT (ak p)/\(t.id=j.id/\t.fn=j.fn/\t.pc=j.pc/\qh3 p t r j/\qh4 t j/\QX t=j.kids/\J8 t j)/\Yg))/\(qb4 p t=false->Ri p b t r)))))/\∀ (i:aF),gz p b t r i->(aU j6 (qo4 i)/\∃ (j:Unit),gO p b t r/\RR b/\LT (ak p)/\(i.id=(cr t (aI p t) r).id/\i.fn=(cr t (aI p t) r).fn/\qo4 i=(cr t (aI p t) r).pc/\(∀ (ar:Nat),co (i.az.getD ar (0:Int))=co ((cr t (aI p t) r).az.getD ar (0:Int)))/\i.steps=(cr t (aI p t) r).steps/\i.kids=(cr t (aI p t) r).kids/\i.phase=(cr t (aI p t) r).phase/\i.status=(cr t (aI p t) r).status/\i.fault=(cr t (aI p t) r).fault/\LS (ab i.held) (ab (cr t (aI p t) r).held))/\Yg)/\∀ (i:Unit),gO p b t r->KN 206 [AV.mc z7 (ak p),co b,AV.mc zk (aq (cr t (aI p t) r))] (AV.mc zk (YH p b t r))/\LS (YH p b t r) (aq (cy p b t r).fst)/\PN p b t r)))))) ?_;try delta vr qt yB Vg qo3 uT KZ sd Ks Hm NO Mw Tu PN Tz qo4 gz qh3 qh4 J8 Yg Ri N7 qw Ly Pf KR jc Od WQ QX qb4 YH
 simp only[SZ];have hw:=za7 t (aI p t) r;rw[f.az]at hw;have hw':(if(cC (aI p t)).2=true then kG t.az (cC (aI p t)).1 r else t.az).length=8:=hw;have hd:(cr t (aI p t) r).az.length=8:=by rw[(zcx t (aI p t) r).2.2.2.1];exact hw
 have hww:(fg (wrote t (aI p t) r) (aI p t).n).az.length=8:=by rw[zpq];exact hw
 simp only[jJ t f.az,fT',wE,jJ _ hw,jJ _ hww,jJ _ hd,oR,ym];refine⟨Ve p b k,λh=>?_,λh=>⟨zwj p b t ⟨k,(mF h).1⟩ f,λhv=>?_,λhv=>⟨λhs=>?_,λhs=>⟨ua _,λhr=>?_,λhr=>?_⟩⟩⟩⟩
 . have e:cy p b t r=(au,aX p b):=by unfold cy;rw[x9 h]
   rw[e];exact⟨iA,rfl⟩
 . have e:cy p b t r=(au,1):=by unfold cy;rw[x8 (by simp[h]),x9 hv]
   rw[e];exact⟨iA,rfl⟩
 . have e:cy p b t r=(au,30):=by unfold cy;rw[x8 (by simp[h]),x8 (by simp[hv]),x9 hs]
   rw[e];exact⟨iA,rfl⟩
 . have e:cy p b t r=(au,2):=by unfold cy;rw[x8 (by simp[h]),x8 (by simp[hv]),x8 (by simp[hs]),x9 hr]
   rw[e];exact⟨iA,rfl⟩
 have hf:gO p b t r:=⟨h,hv,hs,hr⟩;have e:cy p b t r=(b8 p b (cr t (aI p t) r),0):=by unfold cy;rw[x8 (by simp[h]),x8 (by simp[hv]),x8 (by simp[hs]),x8 (by simp[hr])]
 have P:kP p:=⟨k,(mF h).1⟩;have F:=sj hv;have W:=F.wf f;have⟨r1,r2,r3,r4,r5⟩:=vS hv hs;have DW:=zj7 P f hv hs r;have h5:=F.steps;have hsm:=W.small P;have hlen:=F.hlen P;have hstd:=(mF h).2;rw[e];refine⟨kAt p t F.fn F.pc.1 k,dl,⟨ang _,λhd=>⟨by have :=zti hd;omega,(),hf,λj=>?_,λj=>by rw[S5]⟩,λhd=>⟨(),hf,λj=>?_,λj=>by rw[S5]⟩⟩, ?_⟩
 . rw[x9 hd];have⟨q1,q2⟩:=zti hd;rw[q1];exact zhd _ _ _ f.az q2 j
 . rw[x8 (by simp[hd])]
 refine λ_ _=>⟨λh18=>?_,λh18=>⟨⟨λh17=>⟨λr0=>?_,λr0=>⟨tU _ _ ac, ?_⟩⟩,λh17=>?_⟩, ?_⟩⟩
 . have ed:cr t (aI p t) r=fg (wrote t (aI p t) r) (aI p t).n:=by unfold cr;rw[x9 h18]
   rw[ed]at DW ⊢;exact⟨ana _ _ ⟨hw,f.id,by show t.pc<_;omega,by show t.held.length<=_;omega⟩ (by show 0<=t.pc/\t.pc<=_;omega),Hg p b _ P DW,eq,rfl⟩
 . exact⟨wrote t (aI p t) r,⟨hf,by unfold cr;rw[x8 h18,x8 ac,x8 ac,x8 ac];rfl,rfl⟩,eq⟩
 . exact⟨{wrote t (aI p t) r with held:=cu t.held (aI p t).obj},⟨hf,by unfold cr;rw[x8 h18,x9 (.inl ⟨h17,r0⟩)];rfl,rfl⟩,eq⟩
 . refine⟨λh15=>⟨tU _ _ ac, ?_⟩,λh15=>⟨λh16=>⟨Wn _ _ ac, ?_⟩,λh16=>⟨λh21=>⟨za (by have :=F.kids;omega) (by have :=F.kids;omega), ?_⟩,λh21=>?_⟩⟩⟩
   . exact⟨{wrote t (aI p t) r with held:=cu t.held (aI p t).obj},⟨hf,by unfold cr;rw[x8 h18,x9 (.inr h15)];rfl,rfl⟩,eq⟩
   . exact⟨{wrote t (aI p t) r with held:=dt t.held (aI p t).obj},⟨hf,by unfold cr;rw[x8 h18,x8 ac,x9 h16];rfl,rfl⟩,eq⟩
   . exact⟨{wrote t (aI p t) r with kids:=t.kids+1},⟨hf,by unfold cr;rw[x8 h18,x8 ac,x8 h16,x9 h21];rfl,rfl⟩,eq⟩
   . exact⟨wrote t (aI p t) r,⟨hf,by unfold cr;rw[x8 h18,x8 ac,x8 h16,x8 h21];rfl,rfl⟩,eq⟩
 . rintro u ⟨_,hu,hpc⟩;refine⟨⟨dl,(),hf,by rw[hu];exact eq⟩,λ_ _=>⟨Hg p b _ P DW,eq,rfl⟩⟩
def wA (i:Nat):List Int:=(l.take i).filter λx=>decide (x<v)
def wB (i:Nat):List Int:=l.filter (λx=>decide (x<v))++([v]++(l.take i).filter λx=>decide (v<x))
def zps:Option Inv:=match Nat.beq k 3 with
 |true=>iv l.length λi=>⟨[(0,ab l),(1,co v),(5, .own 26 (wA l v i).length),(6,co i)],[(26,bI (wA l v i))]⟩
 |false=>match Nat.beq k 9 with
  |true=>iv l.length λi=>⟨[(0,ab l),(1,co v),(5, .own 26 (wB l v i).length),(7,co i)],[(26,bI (wB l v i))]⟩
  |false=>none
def wC (i:Nat):List Int:=(l.take i).filter λx=>x !=v
def zea:Option Inv:=match Nat.beq k 3 with
 |true=>iv l.length λi=>⟨[(0,ab l),(1,co v),(5, .own 25 (wC l v i).length),(6,co i)],[(25,bI (wC l v i))]⟩
 |false=>none
def zl5:Option Inv:=match Nat.beq k 4 with
 |true=>iw 8 (λi=>⟨[(1,co b),(3, .ptr 3 []),(5, .ptr 5 []),(7,co i)],[(3,jO p),(5,rz t)]⟩) λi=>∀ j,j<i ->cl (t.az.getD j 0)=true
 |false=>match Nat.beq k 11 with
  |true=>iw t.held.length (λi=>⟨[(3, .ptr 3 []),(5, .ptr 5 []),(8,co i)],[(3,jO p),(5,rz t)]⟩) λi=>(∀ j,j<i ->0<=t.held.getD j 0/\t.held.getD j 0<(p.aS.length:Int))/\∀ j,j+1<i ->t.held.getD j 0<t.held.getD (j+1) 0
  |false=>none
def uA:aF:={wrote t i r with held:=if(i.op=17/\r≠0)∨i.op=15 then cu t.held i.obj else t.held}
def uB:aF:={wrote t i r with held:=if i.op=16 then dt t.held i.obj else(uA t i r).held}
def uC:aF:={uB t i r with kids:=if i.op=21 then t.kids+1 else t.kids}
def ot (i:aP) (u:aF):St:=⟨[(1,co b),(3,co r),(4, .ptr 4 []),(6, .ptr 6 []),(8, .ptr 8 []),(11, .ptr 11 [])],[(4,jO p),(6,rz u),(8,rz au),(11,acq i)]⟩
def oG (P:Prop) (s:St):Inv:={ι:=Unit,S:=λ_=>s,μ:=λ_=>0,ok:=λ_=>P}
def zl7:Option Inv:=match Nat.beq k 15 with
 |true=>some (oG (gO p b t r) (ot p b r (aI p t) (wrote t (aI p t) r)))
 |false=>match Nat.beq k 17 with
  |true=>some (oG (gO p b t r) (ot p b r (aI p t) (uA t (aI p t) r)))
  |false=>match Nat.beq k 19 with
   |true=>some (oG (gO p b t r) (ot p b r (aI p t) (uB t (aI p t) r)))
   |false=>match Nat.beq k 21 with
    |true=>some (oG (gO p b t r) (ot p b r (aI p t) (uC t (aI p t) r)))
    |false=>match Nat.beq k 23 with
     |true=>some (oG (gO p b t r/\(aI p t).op≠18) (ot p b r (aI p t) (cr t (aI p t) r)))
     |false=>match Nat.beq k 24 with
      |true=>some (oG (gO p b t r/\(aI p t).op=18) (ot p b r (aI p t) (wrote t (aI p t) r)))
      |false=>match Nat.beq k 32 with
       |true=>some (oG (gO p b t r) (ot p b r (aI p t) (cr t (aI p t) r)))
       |false=>none
def zl8 (l:List aF) (id:Int) (k:Nat):Option Inv:=match Nat.beq k 2 with
 |true=>iw l.length (λi=>⟨[(0,aK l),(1,co id),(6,co i)],[]⟩) λi=>aV l id=fm l id (l.length - i)
 |false=>none
def zl9 (a b:aF) (k:Nat):Option Inv:=match Nat.beq k 4 with
 |true=>iw a.held.length (λi=>⟨[(2, .ptr 2 []),(3, .ptr 3 []),(5,co i)],[(2,rz a),(3,rz b)]⟩) λi=>a.held.length=b.held.length/\∀ j,j<i ->a.held.getD j 0=b.held.getD j 0
 |false=>none
end
end Go.Proofs.S25
