import Derived.Test.YtgcpdfihjmmggaaGreatDoorXq
namespace Go.Proofs.S25
open Go Go.AV Tryz
open Go.IntKind renaming i64 -> j6
open Go.AV.ex (ey)
noncomputable section
variable (l:List Int) (v:Int) (p:ai) (b:Int) (id:Int) (t:i5) (i:aK) (r:Int) (k:Nat)
theorem fT' (a b c:Int) (r:List Int) (s k ph st f:Int) (h:List Int):AV.agg [d9 a,d9 b,d9 c,kT r,d9 s,d9 k,d9 ph,d9 st,d9 f,a8 h]=ak ⟨a,b,c,r,s,k,ph,st,f,h⟩:=rfl
theorem kY:AV.le [] [] (vP p) (vP p):=⟨rfl,⟨rfl,rfl,λ_ _=>rfl⟩,⟨rfl,rfl,λ_ _=>rfl⟩,⟨rfl,rfl,λ_ _=>rfl⟩,⟨rfl,rfl,λ_ _=>rfl⟩,⟨rfl,rfl,λ_ _=>rfl⟩,trivial⟩
theorem l6 {p:ai} {b:Int} (h:aV p b=0):(zc p).1=0/\1<=b/\b<=32:=by grind[aV]
theorem oo {p:ai} {b:Int} {t:i5} (h:cG p b t):fy p b t:=by grind[cG,TG.1]
theorem sZ {p:ai} {b:Int} {t:i5} (h:cG p b t) (hs:t.ip=1):t.i9=0/\dv p t=true/\cM (i6 p t).op=true/\bS t (i6 p t)=0/\t.io<b:=by grind[cG,kN]
theorem mD {p:ai} {b:Int} {t:i5}:fq p b t=true↔aV p b=0/\cG p b t=true:=by grind[fq]
theorem zti {i:aK} (h:(cj i).2=true):(cj i).1=i.a/\0<=i.a/\i.a<8:=by
 unfold cj at h;split at h;cases h;rename_i q;have e:cj i=(i.a,true):=by unfold cj;rw[x8 q]
 rw[e];have f:dN i=0/\cZ i.op 0=true:=by simpa using q
 have :=(zcv f.1).a f.2;omega
theorem zfj {p:ai} {id fn arg:Int} (e:id<=9223372036854775807) (h:0<=fn/\fn<p.ef.length):jJ p (zhf id fn arg):=
 ⟨⟨rfl,e,by show(0:Int)<_;omega,by show 0<=1000;omega⟩,h,by show 0<=(0:Int)/\(0:Int)<=_;omega⟩
theorem zj5:(cU l v).length<=l.length:=yd (yo _ _) (rf l)
theorem zj6:(c9 l v).length<=l.length+1:=by grind[c9,rf]
theorem za7:(i4 t i r).aw.length=t.aw.length:=by grind[i4,jD]
theorem Y2:(uk t i r).id=t.id/\(uk t i r).fn=t.fn/\(uk t i r).i9=t.i9/\(uk t i r).aw=(i4 t i r).aw/\(uk t i r).io=t.io+1/\(uk t i r).ip=t.ip/\((uk t i r).pc=t.pc∨(uk t i r).pc=t.pc+1)/\(uk t i r).ic.length<=t.ic.length+1:=by
 have j:=zj5 t.ic i.n;have h:=zj6 t.ic i.n;have f:=zj6 t.ic i.ii;have e:=zj5 t.ic i.ii;unfold uk z2f;repeat' split
 all_goals first
  |exact⟨rfl,rfl,rfl,rfl,rfl,rfl, .inl rfl,by show(cU t.ic i.n).length<=_;omega⟩
  |exact⟨rfl,rfl,rfl,rfl,rfl,rfl, .inl rfl,Nat.le_succ _⟩
  |exact⟨rfl,rfl,rfl,rfl,rfl,rfl, .inr rfl,by show(c9 t.ic i.n).length<=_;omega⟩
  |exact⟨rfl,rfl,rfl,rfl,rfl,rfl, .inr rfl,by show(c9 t.ic i.ii).length<=_;omega⟩
  |exact⟨rfl,rfl,rfl,rfl,rfl,rfl, .inr rfl,by show(cU t.ic i.ii).length<=_;omega⟩
  |exact⟨rfl,rfl,rfl,rfl,rfl,rfl, .inr rfl,Nat.le_succ _⟩
theorem zj7 {p:ai} {b:Int} {t:i5} (i:jM p) (e:dU t) (h:cG p b t) (hs:t.ip=1) (r:Int):jJ p (uk t (i6 p t) r):=by
 have F:=oo h;have W:=F.wf e;have⟨_,u,_⟩:=sZ h hs;have⟨E,j,_,y,_,_,K,J⟩:=Y2 t (i6 p t) r;have hl:=F.hlen i;have H:=(VG W u).1;have m:=F.fn;have k:=F.pc;have x:=(i.code (f:=t.fn.toNat) O).1;refine⟨⟨by rw[y,za7];exact e.aw,by rw[E];exact e.id,O,O⟩,by rw[j];exact m,by rw[j];omega⟩
theorem wE:(⟨t.id,t.fn,t.pc,if(cj i).2=true then jD t.aw (cj i).1 r else t.aw,t.io+1,t.i7,t.gH,t.ip,t.i9,t.ic⟩:i5)=i4 t i r:=rfl
theorem zpq (m:Int):(z2f t m).aw=t.aw:=by
 unfold z2f;repeat' split
 all_goals rfl
theorem gF:(0=ao.id/\0=ao.fn/\0=ao.pc/\(∀ i:Nat,d9 0=d9 (ao.aw.getD i 0))/\0=ao.io/\0=ao.i7/\0=ao.gH/\0=ao.ip/\0=ao.i9/\ao.ic.length=0):=
 ⟨rfl,rfl,rfl,λi=>by show _=d9 ((List.replicate 8 0).getD i 0);rw[Oh],rfl,rfl,rfl,rfl,rfl,rfl⟩
theorem zpr (fn arg:Int):dT (AV.agg [d9 id,d9 fn,d9 0, .arr 8 (λj=>if j=0 then d9 arg else d9 0),d9 0,d9 0,d9 0,d9 1,d9 0, .ax])=zhf id fn arg:=rfl
theorem zhg (arg:Int) (j:Nat):(if j=0 then d9 arg else d9 0)=d9 ((arg::List.replicate 7 0).getD j 0):=by
 cases j with
 |zero=>rfl
 |succ j=>
  grind
section
variable (p:ai) (b:Int) (id:Int) (fn:Int) (arg:Int)
def Mw:=0=(ba p b id fn arg).fst.id/\0=(ba p b id fn arg).fst.fn/\0=(ba p b id fn arg).fst.pc/\(∀ i:Nat,d9 0=d9 ((ba p b id fn arg).fst.aw.getD i 0))/\0=(ba p b id fn arg).fst.io/\0=(ba p b id fn arg).fst.i7/\0=(ba p b id fn arg).fst.gH/\0=(ba p b id fn arg).fst.ip/\0=(ba p b id fn arg).fst.i9/\(ba p b id fn arg).fst.ic.length=0
def qt:=aV (dP (ah p)) b !=0
def Vy:=Mw p b id fn arg/\2=(ba p b id fn arg).snd
def Au:=decide (br id<0)
def qnr:=decide (fn<0)
def Xy:=(!qnr fn)=true
def pn:=Xy fn->Xy fn
def Xo:=qnr fn||decide (↑p.ef.length<=fn)
def qgv:=AV.agg [d9 id,d9 fn,d9 0,AV.arr 8 λj=>if j=Int.toNat 0 then aq (aq (d9 arg))else d9 0,d9 0,d9 0,d9 0,d9 1,d9 0,AV.ax]
def Xs:=ak (b7 (dP (ah p)) b (dT (qgv id fn arg)))
end
theorem abv (fn arg:Int) (hp:bI p) (hid:id<=9223372036854775807):KN 63 [vP p,d9 b,d9 id,d9 fn,d9 arg] (.av [vT (ba p b id fn arg).1,d9 (ba p b id fn arg).2]):=by
 refine Kn (lQ 50 λ_=>none) func63 (KN 136 [AV.mc z7 (ah p),d9 b] (d9 (aV (dP (ah p)) b))/\Z (qt p b) (Mw p b id fn arg/\aV (dP (ah p)) b=(ba p b id fn arg).snd) (KN 137 [d9 id] (d9 (br id))/\Z (Au id) (Vy p b id fn arg) (pn fn/\pn fn/\(Xy fn->aH ↑p.ef.length)/\pn fn/\pn fn/\pn fn/\Z (Xo p fn) (Mw p b id fn arg/\11=(ba p b id fn arg).snd) (KN 138 [d9 arg] (d9 (wr arg))/\Z (wr arg !=arg) (Vy p b id fn arg) (af 0 8/\KN 139 [AV.mc z7 (ah p),d9 b,AV.mc zk (qgv id fn arg)] (AV.mc zk (Xs p b id fn arg))/\LS (Xs p b id fn arg) (ak (ba p b id fn arg).fst)/\0=(ba p b id fn arg).snd))))) ?_;try delta Z aH Mw qt Vy Au qnr Xy pn Xo qgv Xs
 simp only[SZ];simp only[zpr];refine⟨MJ p b hp,λh=>?_,λh=>⟨J7 id hid,λhd=>?_,λhd=>⟨λ_=>by have :=hp.ef;omega,λhf=>?_,λhf=>⟨qH _,λhw=>?_,λhw=>⟨am, ?_, ?_⟩⟩⟩⟩⟩;have e:ba p b id fn arg=(ao,aV p b):=by unfold ba;rw[x9 h]
 rw[e];exact⟨gF,rfl⟩;have e:ba p b id fn arg=(ao,2):=by unfold ba;rw[x8 (by simp[h]),x9 hd]
 rw[e];exact⟨gF,rfl⟩;have e:ba p b id fn arg=(ao,11):=by unfold ba;rw[x8 (by simp[h]),x8 hd,x9 hf]
 rw[e];exact⟨gF,rfl⟩;have e:ba p b id fn arg=(ao,2):=by unfold ba;rw[x8 (by simp[h]),x8 hd,x8 O,x9 hw]
 rw[e];exact⟨gF,rfl⟩;have hk:=OZ p b (zhf id fn arg) ⟨hp,(l6 h).1⟩ (zfj hid O);exact hk.weaken (args':=[_,_,_]) rfl ⟨kY p,⟨rfl,rfl⟩,⟨rfl,⟨rfl,rfl⟩,⟨rfl,rfl⟩,⟨rfl,rfl⟩,⟨rfl,zhg arg⟩,⟨rfl,rfl⟩,⟨rfl,rfl⟩,⟨rfl,rfl⟩,⟨rfl,rfl⟩,⟨rfl,rfl⟩,rfl,trivial⟩,trivial⟩;have e:ba p b id fn arg=(b7 p b (zhf id fn arg),0):=by unfold ba;rw[x8 (by simp[h]),x8 hd,x8 O,x8 (by simp[hw])]
 rw[e];exact⟨⟨rfl,rfl,rfl,λ_=>rfl,rfl,rfl,rfl,rfl,rfl,rfl,λ_ _=>rfl⟩,rfl⟩
section
variable (t:i5)
def Gz:=(!t.i9 !=0)=true
def NW:=Gz t->Gz t
end
section
variable (p:ai) (t:i5)
def ID:=t.i9 !=0||!dv (dP (ah p)) (dT (ak t))
def qns:=(!ID p t)=true
def Yq:=qns p t->qns p t
def Ct:=KN 203 [d9 (i6 (dP (ah p)) (dT (ak t))).op] (AV.bool (cM (i6 (dP (ah p)) (dT (ak t))).op))
def CU:=ID p t||!cM (i6 (dP (ah p)) (dT (ak t))).op
def qnt:=(!CU p t)=true
def Y0:=qnt p t->qnt p t
def qnu:Int:=bS (dT (ak t)) (dX (k8 (i6 (dP (ah p)) (dT (ak t)))))
def Ib:=KN 204 [AV.mc zk (ak t),AV.mc zy (k8 (i6 (dP (ah p)) (dT (ak t))))] (d9 (qnu p t))
def Sp:=CU p t||qnu p t !=0
def qgy:=(t.ip==1)=true
def qgz:=qgy t->qgy t
end
section
variable (b:Int) (t:i5)
def qh0:=t.ip==1&&decide (t.io<b)
def Ue:=!qh0 b t
def qnv:=Ue b t=true
def X3:=qnv b t->qnv b t
def qnw:=(Ue b t&&t.ip==4)=true
def Hi:=qnw b t->qnw b t
def Ij:=(t.ip==4)=true
end
section
variable (p:ai) (b:Int) (t:i5)
def FW:=NW t/\NW t/\Yq p t/\Yq p t/\(qns p t->Ct p t)/\Yq p t/\Yq p t/\Y0 p t/\Y0 p t/\(qnt p t->Ib p t)/\Y0 p t/\Y0 p t/\Z (Sp p t) (false=cG p b t) (qgz t/\qgz t/\qgz t/\qgz t/\X3 b t/\X3 b t/\X3 b t/\Hi b t/\Hi b t/\X3 b t/\(qnv b t->Ij t->qnw b t)/\X3 b t/\(qh0 b t||t.ip==4&&decide (1<=t.io))=cG p b t)
def qnx:=(t.i9==0)=true
def sD:=qnx t->qnx t
def Ll:=t.i9==0&&t.gH==0
def V5:=Ll t=true
def tP:=V5 t->V5 t
def qny:=(Ll t&&!!dv (dP (ah p)) (dT (ak t)))=true
def CD:=qny p t->qny p t
def Q8:=(!t.gH !=0)=true
def AD:=Q8 t->Q8 t
def OA:=t.gH !=0||!dv (dP (ah p)) (dT (ak t))
def Ez:=(i6 (dP (ah p)) (dT (ak t))).op==6
def qnz:=Ez p t=true
def Qb:=qnz p t->qnz p t
def Bs:=(t.i9 !=0)=true
def M1:=Bs t->Bs t
def Se:=Z (t.ip==2) (sD t/\sD t/\sD t/\tP t/\tP t/\CD p t/\CD p t/\tP t/\(V5 t->(!!dv (dP (ah p)) (dT (ak t)))=true->qny p t)/\tP t/\(Ll t&&(!dv (dP (ah p)) (dT (ak t))||(i6 (dP (ah p)) (dT (ak t))).op==7))=cG p b t) (Z (t.ip==3) (AD t/\AD t/\Z (OA p t) (false=cG p b t) (Z (t.i9==26) (Qb p t/\Qb p t/\Qb p t/\(qnz p t->af (i6 (dP (ah p)) (dT (ak t))).b 8)/\Qb p t/\Qb p t/\Qb p t/\(Ez p t&&t.aw.getD (i6 (dP (ah p)) (dT (ak t))).b.toNat 0==0)=cG p b t) (Z (t.i9==29) (Ct p t/\(!cM (i6 (dP (ah p)) (dT (ak t))).op)=cG p b t) (M1 t/\M1 t/\(Bs t->Ib p t)/\M1 t/\M1 t/\M1 t/\M1 t/\(t.i9 !=0&&qnu p t==t.i9)=cG p b t)))) (false=cG p b t))
def Bb:=(t.ip==1)=false
end
theorem zwj (f:jM p) (e:TOW t):KN 174 [vP p,d9 b,vT t] (.bool (cG p b t)):=by
 refine Kn (lQ 123 λ_=>none) func174 (KN 226 [AV.mc z7 (ah p),d9 b,AV.mc zk (ak t)] (AV.bool (fw (dP (ah p)) b (dT (ak t))))/\Z (!fw (dP (ah p)) b (dT (ak t))) (false=cG p b t) (KN 190 [AV.mc z7 (ah p),AV.mc zk (ak t)] (AV.av [AV.mc zy (k8 (i6 (dP (ah p)) (dT (ak t)))),AV.bool (dv (dP (ah p)) (dT (ak t)))])/\(qgy t->(qgy t->FW p b t)/\(Bb t->Se p b t))/\(Bb t->(Ij t->FW p b t)/\((t.ip==4)=false->Se p b t)))) ?_;try delta Z Gz NW ID qns Yq Ct CU qnt Y0 qnu Ib Sp qgy qgz qh0 Ue qnv X3 qnw Hi Ij FW qnx sD Ll V5 tP qny CD Q8 AD OA Ez qnz Qb Bs M1 Se Bb
 simp only[SZ];simp[iz t e.aw];refine⟨akb p b t f.sm e,λhf=>by unfold cG;rw[hf];rfl,λhf=>?_⟩;have F:=TG.1 hf;have W:=F.wf (F.tok f e);have hb:dv p t=true ->(i6 p t).op=6 ->0<=(i6 p t).b/\(i6 p t).b<8:=λha h6=>(zcv (vO (vi f W ha)).1).b (by rw[h6];rfl);refine⟨ZR p t F.fn F.pc.1 f.sm, ?_⟩;repeat' (first |apply And.intro |intro _)
 all_goals first
  | ((with_reducible show mp _ _ 203 _ _);exact yN _)
  | ((with_reducible show mp _ _ 204 _ _);exact Y7 t _ e)
  |omega
  | (have :=hb ce bv;omega)
  | (simp_all [cG,kN,r6,dy];done)
  | (unfold cG lM;rw[hf,wc,x8 O,x9 bv,Bool.and_assoc];done)
  | (rename_i h;rcases h with((h|h)|h)|h<;>simp_all [cG,kN,r6,dy]<;>done)
  | (rename_i h;rcases h with h|h<;>simp_all [cG,kN,lM,r6,dy]<;>done)
section
variable (p:ai) (b:Int)
def Oe:=aV (dP (ah p)) b==0
def qo0:=Oe p b=true
def Ys:=qo0 p b->qo0 p b
end
theorem zj8 (f:bI p) (e:TOW t):KN 113 [vP p,d9 b,vT t] (.bool (fq p b t)):=by
 refine Kn (lQ 17 λ_=>none) func113 (KN 136 [AV.mc z7 (ah p),d9 b] (d9 (aV (dP (ah p)) b))/\Ys p b/\Ys p b/\Ys p b/\(qo0 p b->KN 174 [AV.mc z7 (ah p),d9 b,AV.mc zk (ak t)] (AV.bool (cG (dP (ah p)) b (dT (ak t)))))/\Ys p b/\(Oe p b&&cG (dP (ah p)) b (dT (ak t)))=fq p b t) ?_;try delta Oe qo0 Ys
 simp only[SZ];simp[iz t e.aw];exact⟨MJ p b f,λh=>zwj p b t ⟨f,(l6 h).1⟩ e,rfl⟩
section
variable (t:i5)
def qo1:=(!t.ip !=1)=true
def qh2:=qo1 t->qo1 t
end
section
variable (p:ai) (t:i5)
def Lh:=t.ip !=1||!fq (dP (ah p)) 32 (dT (ak t))
end
theorem ztj (i:bI p) (f:dU t):KN 177 [vP p,vT t] (.av [vI (zg p t), .bool (cm p t)]):=by
 refine Kn (lQ 21 λ_=>none) func177 (qh2 t/\qh2 t/\(qo1 t->KN 113 [AV.mc z7 (ah p),d9 (32:Int),AV.mc zk (ak t)] (AV.bool (fq (dP (ah p)) (32:Int) (dT (ak t)))))/\qh2 t/\qh2 t/\Z (Lh p t) ((0=(zg p t).op/\0=(zg p t).a/\0=(zg p t).b/\0=(zg p t).c/\0=(zg p t).ii/\0=(zg p t).n/\0=(zg p t).fn/\0=(zg p t).ord)/\false=cm p t) (KN 190 [AV.mc z7 (ah p),AV.mc zk (ak t)] (AV.av [AV.mc zy (k8 (i6 (dP (ah p)) (dT (ak t)))),AV.bool (dv (dP (ah p)) (dT (ak t)))])/\LS (k8 (i6 (dP (ah p)) (dT (ak t)))) (k8 (zg p t))/\dv (dP (ah p)) (dT (ak t))=cm p t)) ?_;try delta Z qo1 qh2 Lh
 simp only[SZ];simp only[iz t f.aw];refine⟨λh=>zj8 p 32 t i f.wo,λh=>?_,λh=>⟨?_, ?_⟩⟩;have e:cm p t=false:=by
  grind[cm]
 unfold zg;rw[e];exact⟨⟨rfl,rfl,rfl,rfl,rfl,rfl,rfl,rfl⟩,rfl⟩;have F:=oo (mD.1 h.2).2;exact ZR p t F.fn F.pc.1 i;have e:cm p t=true:=by unfold cm;simp[h]
 unfold zg;rw[e];exact⟨⟨rfl,rfl,rfl,rfl,rfl,rfl,rfl,rfl⟩,(sZ (mD.1 h.2).2 h.1).2.1⟩
section
variable (t:i5) (m:Int)
def SA:=a8 (cU (qw t) m)
def qo2:=∀ i:Nat,d9 (t.aw.getD i 0)=d9 ((z2f t m).aw.getD i 0)
def KY:=a8 (c9 (qw t) m)
end
theorem aj0 (m:Int) (e:dU t) (f:0<=t.pc/\t.pc<=1000000):KN 192 [vT t,d9 m] (vT (z2f t m)):=by
 refine Kn (lQ 29 λ_=>none) func192 (Z (t.gH==0) (KN 194 [a8 t.ic,d9 m] (SA t m)/\t.id=(z2f t m).id/\t.fn=(z2f t m).fn/\t.pc=(z2f t m).pc/\qo2 t m/\t.io=(z2f t m).io/\t.i7=(z2f t m).i7/\1=(z2f t m).gH/\t.ip=(z2f t m).ip/\t.i9=(z2f t m).i9/\LS (SA t m) (a8 (z2f t m).ic)) (Z (t.gH==1) (t.id=(z2f t m).id/\t.fn=(z2f t m).fn/\t.pc=(z2f t m).pc/\qo2 t m/\t.io=(z2f t m).io/\t.i7=(z2f t m).i7/\2=(z2f t m).gH/\t.ip=(z2f t m).ip/\t.i9=(z2f t m).i9/\LS (a8 t.ic) (a8 (z2f t m).ic)) (KN 193 [a8 t.ic,d9 m] (KY t m)/\aM j6 (pZ t)/\t.id=(z2f t m).id/\t.fn=(z2f t m).fn/\pZ t=(z2f t m).pc/\qo2 t m/\t.io=(z2f t m).io/\t.i7=(z2f t m).i7/\0=(z2f t m).gH/\t.ip=(z2f t m).ip/\t.i9=(z2f t m).i9/\LS (KY t m) (a8 (z2f t m).ic)))) ?_;try delta Z qw SA qo2 KY pZ
 simp only[SZ];simp only[oR];refine⟨λh=>⟨Lw _ _ (by have :=e.ic;omega),by unfold z2f;rw[x9 h];exact⟨rfl,rfl,rfl,λ_=>rfl,rfl,rfl,rfl,rfl,rfl,rfl,λ_ _=>rfl⟩⟩,λh=>⟨λh1=>by unfold z2f;rw[x8 h,x9 h1];exact⟨rfl,rfl,rfl,λ_=>rfl,rfl,rfl,rfl,rfl,rfl,rfl,λ_ _=>rfl⟩,λh1=>⟨qN _ _ (by have :=e.ic;omega),f9,by unfold z2f;rw[x8 h,x8 h1];exact⟨rfl,rfl,rfl,λ_=>rfl,rfl,rfl,rfl,rfl,rfl,rfl,λ_ _=>rfl⟩⟩⟩⟩
section
variable (p:ai) (b:Int) (t:i5) (r:Int)
def sf:=0=(cd p b t r).fst.id/\0=(cd p b t r).fst.fn/\0=(cd p b t r).fst.pc/\(∀ i:Nat,d9 0=d9 ((cd p b t r).fst.aw.getD i 0))/\0=(cd p b t r).fst.io/\0=(cd p b t r).fst.i7/\0=(cd p b t r).fst.gH/\0=(cd p b t r).fst.ip/\0=(cd p b t r).fst.i9/\(cd p b t r).fst.ic.length=0
def uQ:Int:=t.io+1
def PM:Int:=(cj (dX (k8 (i6 (dP (ah p)) (dT (ak t)))))).fst
def qo3:=(cj (dX (k8 (i6 (dP (ah p)) (dT (ak t)))))).snd
variable (x3:Nat)
def qX:=d9 ((if(cj (i6 p t)).snd=true then jD t.aw (cj (i6 p t)).fst r else t.aw).getD x3 0)
def OU:=RR (uQ t)/\RR t.i7/\RR t.gH/\RR t.ip/\RR t.i9/\LT (a8 t.ic)
def IX:=(RR (0:Int)/\RR (0:Int)/\RR (0:Int)/\(∀ i:Nat,d9 0=oU i)/\RR (0:Int)/\RR (0:Int)/\RR (0:Int)/\RR (0:Int)/\RR (0:Int)/\bt)/\LS (k8 (i6 (dP (ah p)) (dT (ak t)))) (k8 (i6 p t))
def IK:=AV.agg [d9 t.id,d9 t.fn,d9 t.pc,AV.arr 8 λi=>qX p t r i,d9 (uQ t),d9 t.i7,d9 t.gH,d9 t.ip,d9 t.i9,a8 t.ic]
def K1:=ak (z2f (dT (IK p t r)) (i6 p t).n)
def Sz:=AV.mc zk (K1 p t r)
def Dz:=ak (b7 (dP (ah p)) b (dT (K1 p t r)))
def Sn:=0=(cd p b t r).snd
def BG:=(i6 p t).op==18
variable (x0:i5)
def qo4:Int:=x0.pc+1
variable (x4:i5)
def Xd:=ft p b t r/\uk t (i6 p t) r=i5.mk x4.id x4.fn (qo4 x4) x4.aw x4.io x4.i7 x4.gH x4.ip x4.i9 x4.ic/\x4.pc=t.pc
end
section
variable (p:ai) (t:i5) (r:Int) (x3:i5)
def Yy:=∀ (i:Nat),qX p t r i=d9 (x3.aw.getD i 0)
variable (x1:i5)
def Yp:=uQ t=x1.io
def Eu:=t.gH=x1.gH/\t.ip=x1.ip/\t.i9=x1.i9/\LS (a8 t.ic) (a8 x1.ic)
def T6:=RR (0:Int)/\RR (0:Int)/\RR (0:Int)/\(∀ (i:Nat),RR (oU i))/\RR (0:Int)/\RR (0:Int)/\RR (0:Int)/\RR (0:Int)/\RR (0:Int)/\LT (a8 [])
end
section
variable (p:ai) (b:Int) (t:i5) (r:Int)
def Mm:=∃ j,Xd p b t r j/\RR b/\LT (ah p)/\(t.id=j.id/\t.fn=j.fn/\t.pc=j.pc/\Yy p t r j/\Yp t j/\t.i7=j.i7/\Eu t j)/\T6
def OB:List AV:=[a8 t.ic,d9 (i6 p t).ii]
def Ri:=a8 (c9 (qw t) (i6 p t).ii)
def RB:=KN 193 (OB p t) (Ri p t)/\(∃ j,Xd p b t r j/\RR b/\LT (ah p)/\(t.id=j.id/\t.fn=j.fn/\t.pc=j.pc/\Yy p t r j/\Yp t j/\t.i7=j.i7/\t.gH=j.gH/\t.ip=j.ip/\t.i9=j.i9/\LS (Ri p t) (a8 j.ic))/\T6)
def HD:=(i6 p t).op==17
def UJ:=(i6 p t).op==15
def JJ:=a8 (cU (qw t) (i6 p t).ii)
def WT:=(i6 p t).op==16
def PX:Int:=t.i7+1
def V1:=(i6 p t).op==21
def Us:=ak (b7 (dP (ah p)) b (dT (ak (uk t (i6 p t) r))))
end
theorem z117 (m:bI p) (f:dU t):KN 129 [vP p,d9 b,vT t,d9 r] (.av [vT (cd p b t r).1,d9 (cd p b t r).2]):=by
 refine Kn {lQ 103 (λ_=>none)with cut:=zpp p b t r} func129 (KN 136 [AV.mc z7 (ah p),d9 b] (d9 (aV (dP (ah p)) b))/\Z (qt p b) (sf p b t r/\aV (dP (ah p)) b=(cd p b t r).snd) (KN 174 [AV.mc z7 (ah p),d9 b,AV.mc zk (ak t)] (AV.bool (cG (dP (ah p)) b (dT (ak t))))/\Z (!cG (dP (ah p)) b (dT (ak t))) (sf p b t r/\1=(cd p b t r).snd) (Z (t.ip !=1) (sf p b t r/\30=(cd p b t r).snd) (KN 138 [d9 r] (d9 (wr r))/\Z (wr r !=r) (sf p b t r/\2=(cd p b t r).snd) (KN 190 [AV.mc z7 (ah p),AV.mc zk (ak t)] (AV.av [AV.mc zy (k8 (i6 (dP (ah p)) (dT (ak t)))),AV.bool (dv (dP (ah p)) (dT (ak t)))])/\aM j6 (uQ t)/\(KN 191 [AV.mc zy (k8 (i6 (dP (ah p)) (dT (ak t))))] (AV.av [d9 (PM p t),AV.bool (qo3 p t)])/\Z (qo3 p t) (af (PM p t) 8/\(∃ (j:Unit),ft p b t r/\(RR b/\RR r)/\LT (ah p)/\(RR t.id/\RR t.fn/\RR t.pc/\(∀ (i:Nat),(if i=(cj (dX (k8 (i6 (dP (ah p)) (dT (ak t)))))).fst.toNat then aq (aq (d9 r))else d9 (t.aw.getD i 0))=qX p t r i)/\OU t)/\IX p t)) (∃ (j:Unit),ft p b t r/\(RR b/\RR r)/\LT (ah p)/\(RR t.id/\RR t.fn/\RR t.pc/\(∀ (i:Nat),d9 (t.aw.getD i 0)=qX p t r i)/\OU t)/\IX p t))/\∀ i:Unit,ft p b t r->Z (BG p t) (KN 192 [AV.mc zk (IK p t r),d9 (i6 p t).n] (Sz p t r)/\KN 139 [AV.mc z7 (ah p),d9 b,Sz p t r] (AV.mc zk (Dz p b t r))/\LS (Dz p b t r) (ak (cd p b t r).fst)/\Sn p b t r) ((Z (HD p t) (Z (r==0) (Mm p b t r) (RB p b t r)) (Z (UJ p t) (RB p b t r) (Z (WT p t) (KN 194 (OB p t) (JJ p t)/\(∃ j,Xd p b t r j/\RR b/\LT (ah p)/\(t.id=j.id/\t.fn=j.fn/\t.pc=j.pc/\Yy p t r j/\Yp t j/\t.i7=j.i7/\t.gH=j.gH/\t.ip=j.ip/\t.i9=j.i9/\LS (JJ p t) (a8 j.ic))/\T6)) (Z (V1 p t) (aM j6 (PX t)/\(∃ j,Xd p b t r j/\RR b/\LT (ah p)/\(t.id=j.id/\t.fn=j.fn/\t.pc=j.pc/\Yy p t r j/\Yp t j/\PX t=j.i7/\Eu t j)/\T6)) (Mm p b t r)))))/\∀ (i:i5),Xd p b t r i->(aM j6 (qo4 i)/\∃ (j:Unit),ft p b t r/\RR b/\LT (ah p)/\(i.id=(uk t (i6 p t) r).id/\i.fn=(uk t (i6 p t) r).fn/\qo4 i=(uk t (i6 p t) r).pc/\(∀ (k:Nat),d9 (i.aw.getD k (0:Int))=d9 ((uk t (i6 p t) r).aw.getD k (0:Int)))/\i.io=(uk t (i6 p t) r).io/\i.i7=(uk t (i6 p t) r).i7/\i.gH=(uk t (i6 p t) r).gH/\i.ip=(uk t (i6 p t) r).ip/\i.i9=(uk t (i6 p t) r).i9/\LS (a8 i.ic) (a8 (uk t (i6 p t) r).ic))/\T6)/\∀ (i:Unit),ft p b t r->KN 139 [AV.mc z7 (ah p),d9 b,AV.mc zk (ak (uk t (i6 p t) r))] (AV.mc zk (Us p b t r))/\LS (Us p b t r) (ak (cd p b t r).fst)/\Sn p b t r)))))) ?_;try delta Z bt sf qt uQ PM qo3 qX OU oU IX IK K1 Sz Dz Sn BG qo4 Xd Yy Yp Eu T6 Mm OB qw Ri RB HD UJ JJ WT PX V1 Us
 simp only[SZ];have hw:=za7 t (i6 p t) r;rw[f.aw]at hw;have hw':(if(cj (i6 p t)).2=true then jD t.aw (cj (i6 p t)).1 r else t.aw).length=8:=hw;have hd:(uk t (i6 p t) r).aw.length=8:=by rw[(Y2 t (i6 p t) r).2.2.2.1];exact hw
 have hww:(z2f (i4 t (i6 p t) r) (i6 p t).n).aw.length=8:=by rw[zpq];exact hw
 simp only[iz t f.aw,fT',wE,iz _ hw,iz _ hww,iz _ hd,oR,wg];refine⟨MJ p b m,λh=>?_,λh=>⟨zwj p b t ⟨m,(l6 h).1⟩ f.wo,λhv=>?_,λhv=>⟨λhs=>?_,λhs=>⟨qH _,λhr=>?_,λhr=>?_⟩⟩⟩⟩;have e:cd p b t r=(ao,aV p b):=by unfold cd;rw[x9 h]
 rw[e];exact⟨gF,rfl⟩;have e:cd p b t r=(ao,1):=by unfold cd;rw[x8 (by simp[h]),x9 hv]
 rw[e];exact⟨gF,rfl⟩;have e:cd p b t r=(ao,30):=by unfold cd;rw[x8 (by simp[h]),x8 (by simp[hv]),x9 hs]
 rw[e];exact⟨gF,rfl⟩;have e:cd p b t r=(ao,2):=by unfold cd;rw[x8 (by simp[h]),x8 (by simp[hv]),x8 (by simp[hs]),x9 hr]
 rw[e];exact⟨gF,rfl⟩;have hf:ft p b t r:=⟨h,hv,hs,hr⟩;have e:cd p b t r=(b7 p b (uk t (i6 p t) r),0):=by unfold cd;rw[x8 (by simp[h]),x8 (by simp[hv]),x8 (by simp[hs]),x8 (by simp[hr])]
 have P:jM p:=⟨m,(l6 h).1⟩;have F:=oo hv;have W:=F.wf f;have⟨r1,r2,r3,r4,r5⟩:=sZ hv hs;have DW:=zj7 P f hv hs r;have h5:=F.io;have hsm:=W.small P;have hlen:=F.hlen P;have hstd:=(l6 h).2;rw[e];refine⟨ZR p t F.fn F.pc.1 m,f9,⟨ad6 _,λhd=>⟨by have :=zti hd;omega,(),hf,λj=>?_,λj=>by rw[Oh]⟩,λhd=>⟨(),hf,λj=>?_,λj=>by rw[Oh]⟩⟩, ?_⟩;rw[x9 hd];have⟨q1,q2⟩:=zti hd;rw[q1];exact zhd _ _ _ f.aw q2 j;rw[x8 (by simp[hd])];refine λ_ _=>⟨λh18=>?_,λh18=>⟨⟨λh17=>⟨λr0=>?_,λr0=>⟨qN _ _ O, ?_⟩⟩,λh17=>?_⟩, ?_⟩⟩;have ed:uk t (i6 p t) r=z2f (i4 t (i6 p t) r) (i6 p t).n:=by unfold uk;rw[x9 h18]
 rw[ed]at DW ⊢;exact⟨aj0 _ _ ⟨hw,f.id,by show t.pc<_;omega,by show t.ic.length<=_;omega⟩ (by show 0<=t.pc/\t.pc<=_;omega),OZ p b _ P DW,⟨rfl,rfl,rfl,λ_=>rfl,rfl,rfl,rfl,rfl,rfl,rfl,λ_ _=>rfl⟩,rfl⟩;exact⟨i4 t (i6 p t) r,⟨hf,by unfold uk;rw[x8 h18,x8 O,x8 O,x8 O];rfl,rfl⟩,⟨rfl,rfl,rfl,λ_=>rfl,rfl,rfl,rfl,rfl,rfl,rfl,λ_ _=>rfl⟩⟩;exact⟨{i4 t (i6 p t) r with ic:=c9 t.ic (i6 p t).ii},⟨hf,by unfold uk;rw[x8 h18,x9 (.inl ⟨h17,r0⟩)];rfl,rfl⟩,⟨rfl,rfl,rfl,λ_=>rfl,rfl,rfl,rfl,rfl,rfl,rfl,λ_ _=>rfl⟩⟩;refine⟨λh15=>⟨qN _ _ O, ?_⟩,λh15=>⟨λh16=>⟨Lw _ _ O, ?_⟩,λh16=>⟨λh21=>⟨za (by have :=F.i7;omega) (by have :=F.i7;omega), ?_⟩,λh21=>?_⟩⟩⟩;exact⟨{i4 t (i6 p t) r with ic:=c9 t.ic (i6 p t).ii},⟨hf,by unfold uk;rw[x8 h18,x9 (.inr h15)];rfl,rfl⟩,⟨rfl,rfl,rfl,λ_=>rfl,rfl,rfl,rfl,rfl,rfl,rfl,λ_ _=>rfl⟩⟩;exact⟨{i4 t (i6 p t) r with ic:=cU t.ic (i6 p t).ii},⟨hf,by unfold uk;rw[x8 h18,x8 O,x9 h16];rfl,rfl⟩,⟨rfl,rfl,rfl,λ_=>rfl,rfl,rfl,rfl,rfl,rfl,rfl,λ_ _=>rfl⟩⟩;exact⟨{i4 t (i6 p t) r with i7:=t.i7+1},⟨hf,by unfold uk;rw[x8 h18,x8 O,x8 h16,x9 h21];rfl,rfl⟩,⟨rfl,rfl,rfl,λ_=>rfl,rfl,rfl,rfl,rfl,rfl,rfl,λ_ _=>rfl⟩⟩;exact⟨i4 t (i6 p t) r,⟨hf,by unfold uk;rw[x8 h18,x8 O,x8 h16,x8 h21];rfl,rfl⟩,⟨rfl,rfl,rfl,λ_=>rfl,rfl,rfl,rfl,rfl,rfl,rfl,λ_ _=>rfl⟩⟩;rintro u ⟨_,hu,hpc⟩;refine⟨⟨f9,(),hf,by rw[hu];exact⟨rfl,rfl,rfl,λ_=>rfl,rfl,rfl,rfl,rfl,rfl,rfl,λ_ _=>rfl⟩⟩,λ_ _=>⟨OZ p b _ P DW,⟨rfl,rfl,rfl,λ_=>rfl,rfl,rfl,rfl,rfl,rfl,rfl,λ_ _=>rfl⟩,rfl⟩⟩
def wA (i:Nat):List Int:=(l.take i).filter λx=>decide (x<v)
def wB (i:Nat):List Int:=l.filter (λx=>decide (x<v))++([v]++(l.take i).filter λx=>decide (v<x))
def zps:Option lm:=match Nat.beq k 3 with
 |true=>iv l.length λi=>⟨[(0,a8 l),(1,d9 v),(5, .own 26 (wA l v i).length),(6,d9 i)],[(26,bw (wA l v i))]⟩
 |false=>match Nat.beq k 9 with
  |true=>iv l.length λi=>⟨[(0,a8 l),(1,d9 v),(5, .own 26 (wB l v i).length),(7,d9 i)],[(26,bw (wB l v i))]⟩
  |false=>none
def wC (i:Nat):List Int:=(l.take i).filter λx=>x !=v
def zea:Option lm:=match Nat.beq k 3 with
 |true=>iv l.length λi=>⟨[(0,a8 l),(1,d9 v),(5, .own 25 (wC l v i).length),(6,d9 i)],[(25,bw (wC l v i))]⟩
 |false=>none
def zl5:Option lm:=match Nat.beq k 4 with
 |true=>iw 8 (λi=>⟨[(1,d9 b),(3, .ptr 3 []),(5, .ptr 5 []),(7,d9 i)],[(3,iM p),(5,oF t)]⟩) λi=>∀ j,j<i ->bZ (t.aw.getD j 0)=true
 |false=>match Nat.beq k 11 with
  |true=>iw t.ic.length (λi=>⟨[(3, .ptr 3 []),(5, .ptr 5 []),(8,d9 i)],[(3,iM p),(5,oF t)]⟩) λi=>(∀ j,j<i ->0<=t.ic.getD j 0/\t.ic.getD j 0<(p.aP.length:Int))/\∀ j,j+1<i ->t.ic.getD j 0<t.ic.getD (j+1) 0
  |false=>none
def uA:i5:={i4 t i r with ic:=if(i.op=17/\r≠0)∨i.op=15 then c9 t.ic i.ii else t.ic}
def uB:i5:={i4 t i r with ic:=if i.op=16 then cU t.ic i.ii else(uA t i r).ic}
def uC:i5:={uB t i r with i7:=if i.op=21 then t.i7+1 else t.i7}
def mu (i:aK) (u:i5):St:=⟨[(1,d9 b),(3,d9 r),(4, .ptr 4 []),(6, .ptr 6 []),(8, .ptr 8 []),(11, .ptr 11 [])],[(4,iM p),(6,oF u),(8,oF ao),(11,ab9 i)]⟩
def mN (P:Prop) (s:St):lm:={ι:=Unit,S:=λ_=>s,μ:=λ_=>0,ok:=λ_=>P}
def zl7:Option lm:=match Nat.beq k 15 with
 |true=>some (mN (ft p b t r) (mu p b r (i6 p t) (i4 t (i6 p t) r)))
 |false=>match Nat.beq k 17 with
  |true=>some (mN (ft p b t r) (mu p b r (i6 p t) (uA t (i6 p t) r)))
  |false=>match Nat.beq k 19 with
   |true=>some (mN (ft p b t r) (mu p b r (i6 p t) (uB t (i6 p t) r)))
   |false=>match Nat.beq k 21 with
    |true=>some (mN (ft p b t r) (mu p b r (i6 p t) (uC t (i6 p t) r)))
    |false=>match Nat.beq k 23 with
     |true=>some (mN (ft p b t r/\(i6 p t).op≠18) (mu p b r (i6 p t) (uk t (i6 p t) r)))
     |false=>match Nat.beq k 24 with
      |true=>some (mN (ft p b t r/\(i6 p t).op=18) (mu p b r (i6 p t) (i4 t (i6 p t) r)))
      |false=>match Nat.beq k 32 with
       |true=>some (mN (ft p b t r) (mu p b r (i6 p t) (uk t (i6 p t) r)))
       |false=>none
def zl8 (l:List i5) (id:Int) (k:Nat):Option lm:=match Nat.beq k 2 with
 |true=>iw l.length (λi=>⟨[(0,aF l),(1,d9 id),(6,d9 i)],[]⟩) λi=>aS l id=t7 l id (l.length - i)
 |false=>none
def zl9 (a b:i5) (k:Nat):Option lm:=match Nat.beq k 4 with
 |true=>iw a.ic.length (λi=>⟨[(2, .ptr 2 []),(3, .ptr 3 []),(5,d9 i)],[(2,oF a),(3,oF b)]⟩) λi=>a.ic.length=b.ic.length/\∀ j,j<i ->a.ic.getD j 0=b.ic.getD j 0
 |false=>none
end
end Go.Proofs.S25
