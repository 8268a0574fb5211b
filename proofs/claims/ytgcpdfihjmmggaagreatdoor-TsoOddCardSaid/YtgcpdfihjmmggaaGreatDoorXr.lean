import Derived.Test.YtgcpdfihjmmggaaGreatDoorXq
namespace Go.Proofs.S25
open Go Go.AV
open Go.IntKind renaming i64 -> j6
open Go.AV.Shape (leaf)
noncomputable section
variable (l:List Int) (v:Int) (p:ai) (b:Int) (id:Int) (t:aB) (i:aK) (r:Int) (k:Nat)
theorem fT' (a b c:Int) (r:List Int) (s k ph st f:Int) (h:List Int):AV.agg [AV.int .i64 a,AV.int .i64 b,AV.int .i64 c,kT r,AV.int .i64 s,AV.int .i64 k,AV.int .i64 ph,AV.int .i64 st,AV.int .i64 f,a8 h]=ak ⟨a,b,c,r,s,k,ph,st,f,h⟩:=rfl
theorem kY:AV.le [] [] (vP p) (vP p):=⟨rfl,⟨rfl,rfl,λ_ _=>rfl⟩,⟨rfl,rfl,λ_ _=>rfl⟩,⟨rfl,rfl,λ_ _=>rfl⟩,⟨rfl,rfl,λ_ _=>rfl⟩,⟨rfl,rfl,λ_ _=>rfl⟩,trivial⟩
theorem l6 {p:ai} {b:Int} (h:aV p b=0):(zc p).1=0/\1<=b/\b<=32:=by grind[aV]
theorem oo {p:ai} {b:Int} {t:aB} (h:cG p b t=true):fy p b t:=by grind[cG,TG.1]
theorem sZ {p:ai} {b:Int} {t:aB} (h:cG p b t=true) (hs:t.status=1):t.fault=0/\dv p t=true/\cM (aD p t).op=true/\bS t (aD p t)=0/\t.steps<b:=by grind[cG,kN]
theorem mD {p:ai} {b:Int} {t:aB}:fq p b t=true↔aV p b=0/\cG p b t=true:=by grind[fq]
theorem zti {i:aK} (h:(cj i).2=true):(cj i).1=i.a/\0<=i.a/\i.a<8:=by
 unfold cj at h
 split at h
 . cases h
 . rename_i q
   have e:cj i=(i.a,true):=by unfold cj;rw[x8 q]
   rw[e]
   have q':dN i=0/\cZ i.op 0=true:=by simpa using q
   have :=(S2 q'.1).a q'.2
   omega
theorem zfj {p:ai} {id fn arg:Int} (hid:id<=9223372036854775807) (h:0<=fn/\fn<p.ef.length):jJ p (vm id fn arg):=
 ⟨⟨rfl,hid,by show(0:Int)<_;omega,by show 0<=1000;omega⟩,h,by show 0<=(0:Int)/\(0:Int)<=_;omega⟩
theorem zj5:(cU l v).length<=l.length:=yd (yo _ _) (rf l)
theorem zj6:(c9 l v).length<=l.length+1:=by grind[c9,rf]
theorem za7:(wrote t i r).aw.length=t.aw.length:=by grind[wrote,jD]
theorem Y2:(uk t i r).id=t.id/\(uk t i r).fn=t.fn/\(uk t i r).fault=t.fault/\(uk t i r).aw=(wrote t i r).aw/\(uk t i r).steps=t.steps+1/\(uk t i r).status=t.status/\((uk t i r).pc=t.pc∨(uk t i r).pc=t.pc+1)/\(uk t i r).held.length<=t.held.length+1:=by
 have h1:=zj5 t.held i.n
 have h2:=zj6 t.held i.n
 have h3:=zj6 t.held i.obj
 have h4:=zj5 t.held i.obj
 unfold uk al
 repeat' split
 all_goals first
  |exact⟨rfl,rfl,rfl,rfl,rfl,rfl, .inl rfl,by show(cU t.held i.n).length<=_;omega⟩
  |exact⟨rfl,rfl,rfl,rfl,rfl,rfl, .inl rfl,Nat.le_succ _⟩
  |exact⟨rfl,rfl,rfl,rfl,rfl,rfl, .inr rfl,by show(c9 t.held i.n).length<=_;omega⟩
  |exact⟨rfl,rfl,rfl,rfl,rfl,rfl, .inr rfl,by show(c9 t.held i.obj).length<=_;omega⟩
  |exact⟨rfl,rfl,rfl,rfl,rfl,rfl, .inr rfl,by show(cU t.held i.obj).length<=_;omega⟩
  |exact⟨rfl,rfl,rfl,rfl,rfl,rfl, .inr rfl,Nat.le_succ _⟩
theorem zj7 {p:ai} {b:Int} {t:aB} (hp:jM p) (ht:dU t) (h:cG p b t=true) (hs:t.status=1) (r:Int):jJ p (uk t (aD p t) r):=by
 have F:=oo h
 have W:=F.wf ht
 obtain⟨_,ha,_⟩:=sZ h hs
 obtain⟨e1,e2,_,e4,_,_,e7,e8⟩:=Y2 t (aD p t) r
 have hl:=F.hlen hp
 have hc:=(VG W ha).1
 have hf:=F.fn
 have hpc:=F.pc
 have h64:=(hp.code (f:=t.fn.toNat) (by omega)).1
 refine⟨⟨by rw[e4,za7];exact ht.aw,by rw[e1];exact ht.id,by omega,by omega⟩,by rw[e2];exact hf,by rw[e2];omega⟩
theorem wE:(⟨t.id,t.fn,t.pc,if(cj i).2=true then jD t.aw (cj i).1 r else t.aw,t.steps+1,t.kids,t.phase,t.status,t.fault,t.held⟩:aB)=wrote t i r:=rfl
theorem zpq (m:Int):(al t m).aw=t.aw:=by
 unfold al
 repeat' split
 all_goals rfl
theorem gF:(0=ao.id/\0=ao.fn/\0=ao.pc/\(∀ i:Nat,AV.int .i64 0=AV.int .i64 (ao.aw.getD i 0))/\0=ao.steps/\0=ao.kids/\0=ao.phase/\0=ao.status/\0=ao.fault/\ao.held.length=0):=
 ⟨rfl,rfl,rfl,λi=>by show _=AV.int .i64 ((List.replicate 8 0).getD i 0);rw[Oh],rfl,rfl,rfl,rfl,rfl,rfl⟩
theorem zpr (fn arg:Int):dT (AV.agg [.int .i64 id, .int .i64 fn, .int .i64 0, .arr 8 (λj=>if j=0 then AV.int .i64 arg else AV.int .i64 0), .int .i64 0, .int .i64 0, .int .i64 0, .int .i64 1, .int .i64 0, .ax])=vm id fn arg:=rfl
theorem zhg (arg:Int) (j:Nat):(if j=0 then AV.int .i64 arg else AV.int .i64 0)=AV.int .i64 ((arg::List.replicate 7 0).getD j 0):=by
 cases j with
 |zero=>rfl
 |succ j=>
  grind
section
variable (p:ai) (b:Int) (id:Int) (fn:Int) (arg:Int)
def Mw:=0=(ba p b id fn arg).fst.id/\0=(ba p b id fn arg).fst.fn/\0=(ba p b id fn arg).fst.pc/\(∀ i:Nat,AV.int j6 0=AV.int j6 ((ba p b id fn arg).fst.aw.getD i 0))/\0=(ba p b id fn arg).fst.steps/\0=(ba p b id fn arg).fst.kids/\0=(ba p b id fn arg).fst.phase/\0=(ba p b id fn arg).fst.status/\0=(ba p b id fn arg).fst.fault/\(ba p b id fn arg).fst.held.length=0
def qt:=aV (dP (ah p)) b !=0
def Vy:=Mw p b id fn arg/\2=(ba p b id fn arg).snd
def Au:=decide (br id<0)
def qnr:=decide (fn<0)
def Xy:=(!qnr fn)=true
def pn:=Xy fn->Xy fn
def Xo:=qnr fn||decide (↑p.ef.length<=fn)
def qgv:=AV.agg [AV.int j6 id,AV.int j6 fn,AV.int j6 0,AV.arr 8 λj=>if j=Int.toNat 0 then aq (aq (AV.int j6 arg))else AV.int j6 0,AV.int j6 0,AV.int j6 0,AV.int j6 0,AV.int j6 1,AV.int j6 0,AV.ax]
def Xs:=ak (b7 (dP (ah p)) b (dT (qgv id fn arg)))
end
theorem abv (fn arg:Int) (hp:bI p) (hid:id<=9223372036854775807):KN 63 [vP p, .int .i64 b, .int .i64 id, .int .i64 fn, .int .i64 arg] (.av [vT (ba p b id fn arg).1, .int .i64 (ba p b id fn arg).2]):=by
 refine Kn (lQ 50 λ_=>none) Tryz.func63 (KN 136 [AV.mc z7 (ah p),AV.int j6 b] (AV.int j6 (aV (dP (ah p)) b))/\(qt p b=true->Mw p b id fn arg/\aV (dP (ah p)) b=(ba p b id fn arg).snd)/\(qt p b=false->KN 137 [AV.int j6 id] (AV.int j6 (br id))/\(Au id=true->Vy p b id fn arg)/\(Au id=false->pn fn/\pn fn/\(Xy fn->↑p.ef.length<=(9223372036854775807:Int))/\pn fn/\pn fn/\pn fn/\(Xo p fn=true->Mw p b id fn arg/\11=(ba p b id fn arg).snd)/\(Xo p fn=false->KN 138 [AV.int j6 arg] (AV.int j6 (wr arg))/\((wr arg !=arg)=true->Vy p b id fn arg)/\((wr arg !=arg)=false->af 0 8/\KN 139 [AV.mc z7 (ah p),AV.int j6 b,AV.mc zk (qgv id fn arg)] (AV.mc zk (Xs p b id fn arg))/\LS (Xs p b id fn arg) (ak (ba p b id fn arg).fst)/\0=(ba p b id fn arg).snd))))) ?_
 try delta Mw qt Vy Au qnr Xy pn Xo qgv Xs
 simp only[SZ]
 simp only[zpr]
 refine⟨MJ p b hp,λh=>?_,λh=>⟨J7 id hid,λhd=>?_,λhd=>⟨λ_=>by have :=hp.ef;omega,λhf=>?_,λhf=>⟨qH _,λhw=>?_,λhw=>⟨by decide, ?_, ?_⟩⟩⟩⟩⟩
 . have e:ba p b id fn arg=(ao,aV p b):=by unfold ba;rw[x9 h]
   rw[e];exact⟨gF,rfl⟩
 . have e:ba p b id fn arg=(ao,2):=by unfold ba;rw[x8 (by simp[h]),x9 hd]
   rw[e];exact⟨gF,rfl⟩
 . have e:ba p b id fn arg=(ao,11):=by unfold ba;rw[x8 (by simp[h]),x8 hd,x9 hf]
   rw[e];exact⟨gF,rfl⟩
 . have e:ba p b id fn arg=(ao,2):=by unfold ba;rw[x8 (by simp[h]),x8 hd,x8 (by omega),x9 hw]
   rw[e];exact⟨gF,rfl⟩
 . have hk:=OZ p b (vm id fn arg) ⟨hp,(l6 h).1⟩ (zfj hid (by omega))
   exact hk.weaken (args':=[_,_,_]) rfl ⟨kY p,⟨rfl,rfl⟩,⟨rfl,⟨rfl,rfl⟩,⟨rfl,rfl⟩,⟨rfl,rfl⟩,⟨rfl,zhg arg⟩,⟨rfl,rfl⟩,⟨rfl,rfl⟩,⟨rfl,rfl⟩,⟨rfl,rfl⟩,⟨rfl,rfl⟩,rfl,trivial⟩,trivial⟩
 . have e:ba p b id fn arg=(b7 p b (vm id fn arg),0):=by unfold ba;rw[x8 (by simp[h]),x8 hd,x8 (by omega),x8 (by simp[hw])]
   rw[e];exact⟨⟨rfl,rfl,rfl,λ_=>rfl,rfl,rfl,rfl,rfl,rfl,rfl,λ_ _=>rfl⟩,rfl⟩
section
variable (t:aB)
def Gz:=(!t.fault !=0)=true
def NW:=Gz t->Gz t
end
section
variable (p:ai) (t:aB)
def ID:=t.fault !=0||!dv (dP (ah p)) (dT (ak t))
def qns:=(!ID p t)=true
def Yq:=qns p t->qns p t
def Ct:=KN 203 [AV.int j6 (aD (dP (ah p)) (dT (ak t))).op] (AV.bool (cM (aD (dP (ah p)) (dT (ak t))).op))
def CU:=ID p t||!cM (aD (dP (ah p)) (dT (ak t))).op
def qnt:=(!CU p t)=true
def Y0:=qnt p t->qnt p t
def qnu:Int:=bS (dT (ak t)) (dX (encI (aD (dP (ah p)) (dT (ak t)))))
def Ib:=KN 204 [AV.mc zk (ak t),AV.mc zy (encI (aD (dP (ah p)) (dT (ak t))))] (AV.int j6 (qnu p t))
def Sp:=CU p t||qnu p t !=0
def qgy:=(t.status==1)=true
def qgz:=qgy t->qgy t
end
section
variable (b:Int) (t:aB)
def qh0:=t.status==1&&decide (t.steps<b)
def Ue:=!qh0 b t
def qnv:=Ue b t=true
def X3:=qnv b t->qnv b t
def qnw:=(Ue b t&&t.status==4)=true
def Hi:=qnw b t->qnw b t
def Ij:=(t.status==4)=true
end
section
variable (p:ai) (b:Int) (t:aB)
def FW:=NW t/\NW t/\Yq p t/\Yq p t/\(qns p t->Ct p t)/\Yq p t/\Yq p t/\Y0 p t/\Y0 p t/\(qnt p t->Ib p t)/\Y0 p t/\Y0 p t/\(Sp p t=true->false=cG p b t)/\(Sp p t=false->qgz t/\qgz t/\qgz t/\qgz t/\X3 b t/\X3 b t/\X3 b t/\Hi b t/\Hi b t/\X3 b t/\(qnv b t->Ij t->qnw b t)/\X3 b t/\(qh0 b t||t.status==4&&decide (1<=t.steps))=cG p b t)
def qnx:=(t.fault==0)=true
def sD:=qnx t->qnx t
def Ll:=t.fault==0&&t.phase==0
def V5:=Ll t=true
def tP:=V5 t->V5 t
def qny:=(Ll t&&!!dv (dP (ah p)) (dT (ak t)))=true
def CD:=qny p t->qny p t
def Q8:=(!t.phase !=0)=true
def AD:=Q8 t->Q8 t
def OA:=t.phase !=0||!dv (dP (ah p)) (dT (ak t))
def Ez:=(aD (dP (ah p)) (dT (ak t))).op==6
def qnz:=Ez p t=true
def Qb:=qnz p t->qnz p t
def Bs:=(t.fault !=0)=true
def M1:=Bs t->Bs t
def Se:=((t.status==2)=true->sD t/\sD t/\sD t/\tP t/\tP t/\CD p t/\CD p t/\tP t/\(V5 t->(!!dv (dP (ah p)) (dT (ak t)))=true->qny p t)/\tP t/\(Ll t&&(!dv (dP (ah p)) (dT (ak t))||(aD (dP (ah p)) (dT (ak t))).op==7))=cG p b t)/\((t.status==2)=false->((t.status==3)=true->AD t/\AD t/\(OA p t=true->false=cG p b t)/\(OA p t=false->((t.fault==26)=true->Qb p t/\Qb p t/\Qb p t/\(qnz p t->af (aD (dP (ah p)) (dT (ak t))).b 8)/\Qb p t/\Qb p t/\Qb p t/\(Ez p t&&t.aw.getD (aD (dP (ah p)) (dT (ak t))).b.toNat 0==0)=cG p b t)/\((t.fault==26)=false->((t.fault==29)=true->Ct p t/\(!cM (aD (dP (ah p)) (dT (ak t))).op)=cG p b t)/\((t.fault==29)=false->M1 t/\M1 t/\(Bs t->Ib p t)/\M1 t/\M1 t/\M1 t/\M1 t/\(t.fault !=0&&qnu p t==t.fault)=cG p b t))))/\((t.status==3)=false->false=cG p b t))
def Bb:=(t.status==1)=false
end
theorem zwj (hp:jM p) (ht:dr t):KN 174 [vP p, .int .i64 b,vT t] (.bool (cG p b t)):=by
 refine Kn (lQ 123 λ_=>none) Tryz.func174 (KN 226 [AV.mc z7 (ah p),AV.int j6 b,AV.mc zk (ak t)] (AV.bool (fw (dP (ah p)) b (dT (ak t))))/\((!fw (dP (ah p)) b (dT (ak t)))=true->false=cG p b t)/\((!fw (dP (ah p)) b (dT (ak t)))=false->KN 190 [AV.mc z7 (ah p),AV.mc zk (ak t)] (AV.av [AV.mc zy (encI (aD (dP (ah p)) (dT (ak t)))),AV.bool (dv (dP (ah p)) (dT (ak t)))])/\(qgy t->(qgy t->FW p b t)/\(Bb t->Se p b t))/\(Bb t->(Ij t->FW p b t)/\((t.status==4)=false->Se p b t)))) ?_
 try delta Gz NW ID qns Yq Ct CU qnt Y0 qnu Ib Sp qgy qgz qh0 Ue qnv X3 qnw Hi Ij FW qnx sD Ll V5 tP qny CD Q8 AD OA Ez qnz Qb Bs M1 Se Bb
 simp only[SZ]
 simp[iz t ht.aw]
 refine⟨akb p b t hp.sm ht,λhf=>by unfold cG;rw[hf];rfl,λhf=>?_⟩
 have F:=TG.1 hf
 have W:=F.wf (F.tok hp ht)
 have hb:dv p t=true ->(aD p t).op=6 ->0<=(aD p t).b/\(aD p t).b<8:=λha h6=>(S2 (vO (vi hp W ha)).1).b (by rw[h6];rfl)
 refine⟨ZR p t F.fn F.pc.1 hp.sm, ?_⟩
 repeat' (first |apply And.intro |intro _)
 all_goals first
  | ((with_reducible show eS _ _ 203 _ _);exact yN _)
  | ((with_reducible show eS _ _ 204 _ _);exact Y7 t _ ht)
  |omega
  | (have :=hb (by simp_all) (by assumption);omega)
  | (simp_all [cG,kN,r6,dy];done)
  | (unfold cG lM;rw[hf,wc,x8 (by omega),x9 (by assumption),Bool.and_assoc];done)
  | (rename_i h;rcases h with((h|h)|h)|h<;>simp_all [cG,kN,r6,dy]<;>done)
  | (rename_i h;rcases h with h|h<;>simp_all [cG,kN,lM,r6,dy]<;>done)
section
variable (p:ai) (b:Int)
def Oe:=aV (dP (ah p)) b==0
def qo0:=Oe p b=true
def Ys:=qo0 p b->qo0 p b
end
theorem zj8 (hp:bI p) (ht:dr t):KN 113 [vP p, .int .i64 b,vT t] (.bool (fq p b t)):=by
 refine Kn (lQ 17 λ_=>none) Tryz.func113 (KN 136 [AV.mc z7 (ah p),AV.int j6 b] (AV.int j6 (aV (dP (ah p)) b))/\Ys p b/\Ys p b/\Ys p b/\(qo0 p b->KN 174 [AV.mc z7 (ah p),AV.int j6 b,AV.mc zk (ak t)] (AV.bool (cG (dP (ah p)) b (dT (ak t)))))/\Ys p b/\(Oe p b&&cG (dP (ah p)) b (dT (ak t)))=fq p b t) ?_
 try delta Oe qo0 Ys
 simp only[SZ]
 simp[iz t ht.aw]
 exact⟨MJ p b hp,λh=>zwj p b t ⟨hp,(l6 h).1⟩ ht,rfl⟩
section
variable (t:aB)
def qo1:=(!t.status !=1)=true
def qh2:=qo1 t->qo1 t
end
section
variable (p:ai) (t:aB)
def Lh:=t.status !=1||!fq (dP (ah p)) 32 (dT (ak t))
end
theorem ztj (hp:bI p) (ht:dU t):KN 177 [vP p,vT t] (.av [vI (zg p t), .bool (cm p t)]):=by
 refine Kn (lQ 21 λ_=>none) Tryz.func177 (qh2 t/\qh2 t/\(qo1 t->KN 113 [AV.mc z7 (ah p),AV.int j6 (32:Int),AV.mc zk (ak t)] (AV.bool (fq (dP (ah p)) (32:Int) (dT (ak t)))))/\qh2 t/\qh2 t/\(Lh p t=true->(0=(zg p t).op/\0=(zg p t).a/\0=(zg p t).b/\0=(zg p t).c/\0=(zg p t).obj/\0=(zg p t).n/\0=(zg p t).fn/\0=(zg p t).ord)/\false=cm p t)/\(Lh p t=false->KN 190 [AV.mc z7 (ah p),AV.mc zk (ak t)] (AV.av [AV.mc zy (encI (aD (dP (ah p)) (dT (ak t)))),AV.bool (dv (dP (ah p)) (dT (ak t)))])/\LS (encI (aD (dP (ah p)) (dT (ak t)))) (encI (zg p t))/\dv (dP (ah p)) (dT (ak t))=cm p t)) ?_
 try delta qo1 qh2 Lh
 simp only[SZ]
 simp only[iz t ht.aw]
 refine⟨λh=>zj8 p 32 t hp ht.wo,λh=>?_,λh=>⟨?_, ?_⟩⟩
 . have e:cm p t=false:=by
    grind[cm]
   unfold zg;rw[e];exact⟨⟨rfl,rfl,rfl,rfl,rfl,rfl,rfl,rfl⟩,rfl⟩
 . have F:=oo (mD.1 h.2).2
   exact ZR p t F.fn F.pc.1 hp
 . have e:cm p t=true:=by unfold cm;simp[h]
   unfold zg;rw[e];exact⟨⟨rfl,rfl,rfl,rfl,rfl,rfl,rfl,rfl⟩,(sZ (mD.1 h.2).2 h.1).2.1⟩
section
variable (t:aB) (m:Int)
def SA:=a8 (cU (qw t) m)
def qo2:=∀ i:Nat,AV.int j6 (t.aw.getD i 0)=AV.int j6 ((al t m).aw.getD i 0)
def KY:=a8 (c9 (qw t) m)
end
theorem aj0 (m:Int) (ht:dU t) (hpc:0<=t.pc/\t.pc<=1000000):KN 192 [vT t, .int .i64 m] (vT (al t m)):=by
 refine Kn (lQ 29 λ_=>none) Tryz.func192 (((t.phase==0)=true->KN 194 [a8 t.held,AV.int j6 m] (SA t m)/\t.id=(al t m).id/\t.fn=(al t m).fn/\t.pc=(al t m).pc/\qo2 t m/\t.steps=(al t m).steps/\t.kids=(al t m).kids/\1=(al t m).phase/\t.status=(al t m).status/\t.fault=(al t m).fault/\LS (SA t m) (a8 (al t m).held))/\((t.phase==0)=false->((t.phase==1)=true->t.id=(al t m).id/\t.fn=(al t m).fn/\t.pc=(al t m).pc/\qo2 t m/\t.steps=(al t m).steps/\t.kids=(al t m).kids/\2=(al t m).phase/\t.status=(al t m).status/\t.fault=(al t m).fault/\LS (a8 t.held) (a8 (al t m).held))/\((t.phase==1)=false->KN 193 [a8 t.held,AV.int j6 m] (KY t m)/\aM j6 (pZ t)/\t.id=(al t m).id/\t.fn=(al t m).fn/\pZ t=(al t m).pc/\qo2 t m/\t.steps=(al t m).steps/\t.kids=(al t m).kids/\0=(al t m).phase/\t.status=(al t m).status/\t.fault=(al t m).fault/\LS (KY t m) (a8 (al t m).held)))) ?_
 try delta qw SA qo2 KY pZ
 simp only[SZ]
 simp only[oR]
 refine⟨λh=>⟨Lw _ _ (by have :=ht.held;omega),by unfold al;rw[x9 h];exact⟨rfl,rfl,rfl,λ_=>rfl,rfl,rfl,rfl,rfl,rfl,rfl,λ_ _=>rfl⟩⟩,λh=>⟨λh1=>by unfold al;rw[x8 h,x9 h1];exact⟨rfl,rfl,rfl,λ_=>rfl,rfl,rfl,rfl,rfl,rfl,rfl,λ_ _=>rfl⟩,λh1=>⟨qN _ _ (by have :=ht.held;omega),za (by omega) (by omega),by unfold al;rw[x8 h,x8 h1];exact⟨rfl,rfl,rfl,λ_=>rfl,rfl,rfl,rfl,rfl,rfl,rfl,λ_ _=>rfl⟩⟩⟩⟩
section
variable (p:ai) (b:Int) (t:aB) (r:Int)
def sf:=0=(cd p b t r).fst.id/\0=(cd p b t r).fst.fn/\0=(cd p b t r).fst.pc/\(∀ i:Nat,AV.int j6 0=AV.int j6 ((cd p b t r).fst.aw.getD i 0))/\0=(cd p b t r).fst.steps/\0=(cd p b t r).fst.kids/\0=(cd p b t r).fst.phase/\0=(cd p b t r).fst.status/\0=(cd p b t r).fst.fault/\(cd p b t r).fst.held.length=0
def uQ:Int:=t.steps+1
def PM:Int:=(cj (dX (encI (aD (dP (ah p)) (dT (ak t)))))).fst
def qo3:=(cj (dX (encI (aD (dP (ah p)) (dT (ak t)))))).snd
variable (x3:Nat)
def qX:=AV.int j6 ((if(cj (aD p t)).snd=true then jD t.aw (cj (aD p t)).fst r else t.aw).getD x3 0)
def OU:=RR (uQ t)/\RR t.kids/\RR t.phase/\RR t.status/\RR t.fault/\LT (a8 t.held)
def IX:=(RR (0:Int)/\RR (0:Int)/\RR (0:Int)/\(∀ i:Nat,AV.int j6 0=oU i)/\RR (0:Int)/\RR (0:Int)/\RR (0:Int)/\RR (0:Int)/\RR (0:Int)/\(0:Nat)=(0:Nat))/\LS (encI (aD (dP (ah p)) (dT (ak t)))) (encI (aD p t))
def IK:=AV.agg [AV.int j6 t.id,AV.int j6 t.fn,AV.int j6 t.pc,AV.arr 8 λi=>qX p t r i,AV.int j6 (uQ t),AV.int j6 t.kids,AV.int j6 t.phase,AV.int j6 t.status,AV.int j6 t.fault,a8 t.held]
def K1:=ak (al (dT (IK p t r)) (aD p t).n)
def Sz:=AV.mc zk (K1 p t r)
def Dz:=ak (b7 (dP (ah p)) b (dT (K1 p t r)))
def Sn:=0=(cd p b t r).snd
def BG:=(aD p t).op==18
variable (x0:aB)
def qo4:Int:=x0.pc+1
variable (x4:aB)
def Xd:=ft p b t r/\uk t (aD p t) r=aB.mk x4.id x4.fn (qo4 x4) x4.aw x4.steps x4.kids x4.phase x4.status x4.fault x4.held/\x4.pc=t.pc
end
section
variable (p:ai) (t:aB) (r:Int) (x3:aB)
def Yy:=∀ (i:Nat),qX p t r i=AV.int j6 (x3.aw.getD i 0)
variable (x1:aB)
def Yp:=uQ t=x1.steps
def Eu:=t.phase=x1.phase/\t.status=x1.status/\t.fault=x1.fault/\LS (a8 t.held) (a8 x1.held)
def T6:=RR (0:Int)/\RR (0:Int)/\RR (0:Int)/\(∀ (i:Nat),RR (oU i))/\RR (0:Int)/\RR (0:Int)/\RR (0:Int)/\RR (0:Int)/\RR (0:Int)/\LT (a8 [])
end
section
variable (p:ai) (b:Int) (t:aB) (r:Int)
def Mm:=∃ j,Xd p b t r j/\RR b/\LT (ah p)/\(t.id=j.id/\t.fn=j.fn/\t.pc=j.pc/\Yy p t r j/\Yp t j/\t.kids=j.kids/\Eu t j)/\T6
def OB:List AV:=[a8 t.held,AV.int j6 (aD p t).obj]
def Ri:=a8 (c9 (qw t) (aD p t).obj)
def RB:=KN 193 (OB p t) (Ri p t)/\(∃ j,Xd p b t r j/\RR b/\LT (ah p)/\(t.id=j.id/\t.fn=j.fn/\t.pc=j.pc/\Yy p t r j/\Yp t j/\t.kids=j.kids/\t.phase=j.phase/\t.status=j.status/\t.fault=j.fault/\LS (Ri p t) (a8 j.held))/\T6)
def HD:=(aD p t).op==17
def UJ:=(aD p t).op==15
def JJ:=a8 (cU (qw t) (aD p t).obj)
def WT:=(aD p t).op==16
def PX:Int:=t.kids+1
def V1:=(aD p t).op==21
def Us:=ak (b7 (dP (ah p)) b (dT (ak (uk t (aD p t) r))))
end
theorem z117 (hp:bI p) (ht:dU t):KN 129 [vP p, .int .i64 b,vT t, .int .i64 r] (.av [vT (cd p b t r).1, .int .i64 (cd p b t r).2]):=by
 refine Kn {lQ 103 (λ_=>none)with cut:=zpp p b t r} Tryz.func129 (KN 136 [AV.mc z7 (ah p),AV.int j6 b] (AV.int j6 (aV (dP (ah p)) b))/\(qt p b=true->sf p b t r/\aV (dP (ah p)) b=(cd p b t r).snd)/\(qt p b=false->KN 174 [AV.mc z7 (ah p),AV.int j6 b,AV.mc zk (ak t)] (AV.bool (cG (dP (ah p)) b (dT (ak t))))/\((!cG (dP (ah p)) b (dT (ak t)))=true->sf p b t r/\1=(cd p b t r).snd)/\((!cG (dP (ah p)) b (dT (ak t)))=false->((t.status !=1)=true->sf p b t r/\30=(cd p b t r).snd)/\((t.status !=1)=false->KN 138 [AV.int j6 r] (AV.int j6 (wr r))/\((wr r !=r)=true->sf p b t r/\2=(cd p b t r).snd)/\((wr r !=r)=false->KN 190 [AV.mc z7 (ah p),AV.mc zk (ak t)] (AV.av [AV.mc zy (encI (aD (dP (ah p)) (dT (ak t)))),AV.bool (dv (dP (ah p)) (dT (ak t)))])/\aM j6 (uQ t)/\(KN 191 [AV.mc zy (encI (aD (dP (ah p)) (dT (ak t))))] (AV.av [AV.int j6 (PM p t),AV.bool (qo3 p t)])/\(qo3 p t=true->af (PM p t) 8/\(∃ (j:Unit),ft p b t r/\(RR b/\RR r)/\LT (ah p)/\(RR t.id/\RR t.fn/\RR t.pc/\(∀ (i:Nat),(if i=(cj (dX (encI (aD (dP (ah p)) (dT (ak t)))))).fst.toNat then aq (aq (AV.int j6 r))else AV.int j6 (t.aw.getD i 0))=qX p t r i)/\OU t)/\IX p t))/\(qo3 p t=false->∃ (j:Unit),ft p b t r/\(RR b/\RR r)/\LT (ah p)/\(RR t.id/\RR t.fn/\RR t.pc/\(∀ (i:Nat),AV.int j6 (t.aw.getD i 0)=qX p t r i)/\OU t)/\IX p t))/\∀ i:Unit,ft p b t r->(BG p t=true->KN 192 [AV.mc zk (IK p t r),AV.int j6 (aD p t).n] (Sz p t r)/\KN 139 [AV.mc z7 (ah p),AV.int j6 b,Sz p t r] (AV.mc zk (Dz p b t r))/\LS (Dz p b t r) (ak (cd p b t r).fst)/\Sn p b t r)/\(BG p t=false->((HD p t=true->((r==0)=true->Mm p b t r)/\((r==0)=false->RB p b t r))/\(HD p t=false->(UJ p t=true->RB p b t r)/\(UJ p t=false->(WT p t=true->KN 194 (OB p t) (JJ p t)/\(∃ j,Xd p b t r j/\RR b/\LT (ah p)/\(t.id=j.id/\t.fn=j.fn/\t.pc=j.pc/\Yy p t r j/\Yp t j/\t.kids=j.kids/\t.phase=j.phase/\t.status=j.status/\t.fault=j.fault/\LS (JJ p t) (a8 j.held))/\T6))/\(WT p t=false->(V1 p t=true->aM j6 (PX t)/\(∃ j,Xd p b t r j/\RR b/\LT (ah p)/\(t.id=j.id/\t.fn=j.fn/\t.pc=j.pc/\Yy p t r j/\Yp t j/\PX t=j.kids/\Eu t j)/\T6))/\(V1 p t=false->Mm p b t r)))))/\∀ (i:aB),Xd p b t r i->(aM j6 (qo4 i)/\∃ (j:Unit),ft p b t r/\RR b/\LT (ah p)/\(i.id=(uk t (aD p t) r).id/\i.fn=(uk t (aD p t) r).fn/\qo4 i=(uk t (aD p t) r).pc/\(∀ (i_1:Nat),AV.int j6 (i.aw.getD i_1 (0:Int))=AV.int j6 ((uk t (aD p t) r).aw.getD i_1 (0:Int)))/\i.steps=(uk t (aD p t) r).steps/\i.kids=(uk t (aD p t) r).kids/\i.phase=(uk t (aD p t) r).phase/\i.status=(uk t (aD p t) r).status/\i.fault=(uk t (aD p t) r).fault/\LS (a8 i.held) (a8 (uk t (aD p t) r).held))/\T6)/\∀ (i:Unit),ft p b t r->KN 139 [AV.mc z7 (ah p),AV.int j6 b,AV.mc zk (ak (uk t (aD p t) r))] (AV.mc zk (Us p b t r))/\LS (Us p b t r) (ak (cd p b t r).fst)/\Sn p b t r)))))) ?_
 try delta sf qt uQ PM qo3 qX OU oU IX IK K1 Sz Dz Sn BG qo4 Xd Yy Yp Eu T6 Mm OB qw Ri RB HD UJ JJ WT PX V1 Us
 simp only[SZ]
 have hw:=za7 t (aD p t) r
 rw[ht.aw]at hw
 have hw':(if(cj (aD p t)).2=true then jD t.aw (cj (aD p t)).1 r else t.aw).length=8:=hw
 have hd:(uk t (aD p t) r).aw.length=8:=by rw[(Y2 t (aD p t) r).2.2.2.1];exact hw
 have hww:(al (wrote t (aD p t) r) (aD p t).n).aw.length=8:=by rw[zpq];exact hw
 simp only[iz t ht.aw,fT',wE,iz _ hw,iz _ hww,iz _ hd,oR,wg]
 refine⟨MJ p b hp,λh=>?_,λh=>⟨zwj p b t ⟨hp,(l6 h).1⟩ ht.wo,λhv=>?_,λhv=>⟨λhs=>?_,λhs=>⟨qH _,λhr=>?_,λhr=>?_⟩⟩⟩⟩
 . have e:cd p b t r=(ao,aV p b):=by unfold cd;rw[x9 h]
   rw[e];exact⟨gF,rfl⟩
 . have e:cd p b t r=(ao,1):=by unfold cd;rw[x8 (by simp[h]),x9 hv]
   rw[e];exact⟨gF,rfl⟩
 . have e:cd p b t r=(ao,30):=by unfold cd;rw[x8 (by simp[h]),x8 (by simp[hv]),x9 hs]
   rw[e];exact⟨gF,rfl⟩
 . have e:cd p b t r=(ao,2):=by unfold cd;rw[x8 (by simp[h]),x8 (by simp[hv]),x8 (by simp[hs]),x9 hr]
   rw[e];exact⟨gF,rfl⟩
 have hf:ft p b t r:=⟨h,hv,hs,hr⟩
 have e:cd p b t r=(b7 p b (uk t (aD p t) r),0):=by unfold cd;rw[x8 (by simp[h]),x8 (by simp[hv]),x8 (by simp[hs]),x8 (by simp[hr])]
 have P:jM p:=⟨hp,(l6 h).1⟩
 have F:=oo hv
 have W:=F.wf ht
 obtain⟨r1,r2,r3,r4,r5⟩:=sZ hv hs
 have DW:=zj7 P ht hv hs r
 have h5:=F.steps
 have hsm:=W.small P
 have hlen:=F.hlen P
 have hstd:=(l6 h).2
 rw[e]
 refine⟨ZR p t F.fn F.pc.1 hp,za (by omega) (by omega),⟨ad6 _,λhd=>⟨by have :=zti hd;omega,(),hf,λj=>?_,λj=>by rw[Oh]⟩,λhd=>⟨(),hf,λj=>?_,λj=>by rw[Oh]⟩⟩, ?_⟩
 . rw[x9 hd]
   obtain⟨q1,q2⟩:=zti hd
   rw[q1];exact zhd _ _ _ ht.aw q2 j
 . rw[x8 (by simp[hd])]
 refine λ_ _=>⟨λh18=>?_,λh18=>⟨⟨λh17=>⟨λr0=>?_,λr0=>⟨qN _ _ (by omega), ?_⟩⟩,λh17=>?_⟩, ?_⟩⟩
 . have ed:uk t (aD p t) r=al (wrote t (aD p t) r) (aD p t).n:=by unfold uk;rw[x9 h18]
   rw[ed]at DW ⊢
   exact⟨aj0 _ _ ⟨hw,ht.id,by show t.pc<_;omega,by show t.held.length<=_;omega⟩ (by show 0<=t.pc/\t.pc<=_;omega),OZ p b _ P DW,⟨rfl,rfl,rfl,λ_=>rfl,rfl,rfl,rfl,rfl,rfl,rfl,λ_ _=>rfl⟩,rfl⟩
 . exact⟨wrote t (aD p t) r,⟨hf,by unfold uk;rw[x8 h18,x8 (by omega),x8 (by omega),x8 (by omega)];rfl,rfl⟩,⟨rfl,rfl,rfl,λ_=>rfl,rfl,rfl,rfl,rfl,rfl,rfl,λ_ _=>rfl⟩⟩
 . exact⟨{wrote t (aD p t) r with held:=c9 t.held (aD p t).obj},⟨hf,by unfold uk;rw[x8 h18,x9 (.inl ⟨h17,r0⟩)];rfl,rfl⟩,⟨rfl,rfl,rfl,λ_=>rfl,rfl,rfl,rfl,rfl,rfl,rfl,λ_ _=>rfl⟩⟩
 . refine⟨λh15=>⟨qN _ _ (by omega), ?_⟩,λh15=>⟨λh16=>⟨Lw _ _ (by omega), ?_⟩,λh16=>⟨λh21=>⟨za (by have :=F.kids;omega) (by have :=F.kids;omega), ?_⟩,λh21=>?_⟩⟩⟩
   . exact⟨{wrote t (aD p t) r with held:=c9 t.held (aD p t).obj},⟨hf,by unfold uk;rw[x8 h18,x9 (.inr h15)];rfl,rfl⟩,⟨rfl,rfl,rfl,λ_=>rfl,rfl,rfl,rfl,rfl,rfl,rfl,λ_ _=>rfl⟩⟩
   . exact⟨{wrote t (aD p t) r with held:=cU t.held (aD p t).obj},⟨hf,by unfold uk;rw[x8 h18,x8 (by omega),x9 h16];rfl,rfl⟩,⟨rfl,rfl,rfl,λ_=>rfl,rfl,rfl,rfl,rfl,rfl,rfl,λ_ _=>rfl⟩⟩
   . exact⟨{wrote t (aD p t) r with kids:=t.kids+1},⟨hf,by unfold uk;rw[x8 h18,x8 (by omega),x8 h16,x9 h21];rfl,rfl⟩,⟨rfl,rfl,rfl,λ_=>rfl,rfl,rfl,rfl,rfl,rfl,rfl,λ_ _=>rfl⟩⟩
   . exact⟨wrote t (aD p t) r,⟨hf,by unfold uk;rw[x8 h18,x8 (by omega),x8 h16,x8 h21];rfl,rfl⟩,⟨rfl,rfl,rfl,λ_=>rfl,rfl,rfl,rfl,rfl,rfl,rfl,λ_ _=>rfl⟩⟩
 . rintro u ⟨_,hu,hpc⟩
   refine⟨⟨za (by omega) (by omega),(),hf,by rw[hu];exact⟨rfl,rfl,rfl,λ_=>rfl,rfl,rfl,rfl,rfl,rfl,rfl,λ_ _=>rfl⟩⟩,λ_ _=>⟨OZ p b _ P DW,⟨rfl,rfl,rfl,λ_=>rfl,rfl,rfl,rfl,rfl,rfl,rfl,λ_ _=>rfl⟩,rfl⟩⟩
def wA (i:Nat):List Int:=(l.take i).filter λx=>decide (x<v)
def wB (i:Nat):List Int:=l.filter (λx=>decide (x<v))++([v]++(l.take i).filter λx=>decide (v<x))
def zps:Option Inv:=match Nat.beq k 3 with
 |true=>iv l.length λi=>⟨[(0,a8 l),(1, .int .i64 v),(5, .own 26 (wA l v i).length),(6, .int .i64 i)],[(26,bw (wA l v i))]⟩
 |false=>match Nat.beq k 9 with
  |true=>iv l.length λi=>⟨[(0,a8 l),(1, .int .i64 v),(5, .own 26 (wB l v i).length),(7, .int .i64 i)],[(26,bw (wB l v i))]⟩
  |false=>none
def wC (i:Nat):List Int:=(l.take i).filter λx=>x !=v
def zea:Option Inv:=match Nat.beq k 3 with
 |true=>iv l.length λi=>⟨[(0,a8 l),(1, .int .i64 v),(5, .own 25 (wC l v i).length),(6, .int .i64 i)],[(25,bw (wC l v i))]⟩
 |false=>none
def zl5:Option Inv:=match Nat.beq k 4 with
 |true=>iw 8 (λi=>⟨[(1, .int .i64 b),(3, .ptr 3 []),(5, .ptr 5 []),(7, .int .i64 i)],[(3,iM p),(5,oF t)]⟩) λi=>∀ j,j<i ->bZ (t.aw.getD j 0)=true
 |false=>match Nat.beq k 11 with
  |true=>iw t.held.length (λi=>⟨[(3, .ptr 3 []),(5, .ptr 5 []),(8, .int .i64 i)],[(3,iM p),(5,oF t)]⟩) λi=>(∀ j,j<i ->0<=t.held.getD j 0/\t.held.getD j 0<(p.aP.length:Int))/\∀ j,j+1<i ->t.held.getD j 0<t.held.getD (j+1) 0
  |false=>none
def uA:aB:={wrote t i r with held:=if(i.op=17/\r≠0)∨i.op=15 then c9 t.held i.obj else t.held}
def uB:aB:={wrote t i r with held:=if i.op=16 then cU t.held i.obj else(uA t i r).held}
def uC:aB:={uB t i r with kids:=if i.op=21 then t.kids+1 else t.kids}
def mu (i:aK) (u:aB):St:=⟨[(1, .int .i64 b),(3, .int .i64 r),(4, .ptr 4 []),(6, .ptr 6 []),(8, .ptr 8 []),(11, .ptr 11 [])],[(4,iM p),(6,oF u),(8,oF ao),(11,ab9 i)]⟩
def mN (P:Prop) (s:St):Inv:={ι:=Unit,S:=λ_=>s,μ:=λ_=>0,ok:=λ_=>P}
def zl7:Option Inv:=match Nat.beq k 15 with
 |true=>some (mN (ft p b t r) (mu p b r (aD p t) (wrote t (aD p t) r)))
 |false=>match Nat.beq k 17 with
  |true=>some (mN (ft p b t r) (mu p b r (aD p t) (uA t (aD p t) r)))
  |false=>match Nat.beq k 19 with
   |true=>some (mN (ft p b t r) (mu p b r (aD p t) (uB t (aD p t) r)))
   |false=>match Nat.beq k 21 with
    |true=>some (mN (ft p b t r) (mu p b r (aD p t) (uC t (aD p t) r)))
    |false=>match Nat.beq k 23 with
     |true=>some (mN (ft p b t r/\(aD p t).op≠18) (mu p b r (aD p t) (uk t (aD p t) r)))
     |false=>match Nat.beq k 24 with
      |true=>some (mN (ft p b t r/\(aD p t).op=18) (mu p b r (aD p t) (wrote t (aD p t) r)))
      |false=>match Nat.beq k 32 with
       |true=>some (mN (ft p b t r) (mu p b r (aD p t) (uk t (aD p t) r)))
       |false=>none
def zl8 (l:List aB) (id:Int) (k:Nat):Option Inv:=match Nat.beq k 2 with
 |true=>iw l.length (λi=>⟨[(0,aF l),(1, .int .i64 id),(6, .int .i64 i)],[]⟩) λi=>aS l id=aoo l id (l.length - i)
 |false=>none
def zl9 (a b:aB) (k:Nat):Option Inv:=match Nat.beq k 4 with
 |true=>iw a.held.length (λi=>⟨[(2, .ptr 2 []),(3, .ptr 3 []),(5, .int .i64 i)],[(2,oF a),(3,oF b)]⟩) λi=>a.held.length=b.held.length/\∀ j,j<i ->a.held.getD j 0=b.held.getD j 0
 |false=>none
end
end Go.Proofs.S25
