import Derived.Test.YtcfagpelpjdmaaaGreatDoorXzj
namespace Go.Proofs.S25
open Go Go.AV
open Go.IntKind renaming i64 -> j6
open Go.AV.Shape (leaf)
noncomputable section
variable {w:World} {F:Nat ->Prop} {v:Value} (p:aj) (c:bq) (s:ah) (a:Int) (l:List Int)
theorem zur (hl:l.length<=1000000):KN 201 [ab l] (iQ l):=by
 refine Kn (vEc 11) Tryz.func201 (q8 l/\((0:Int)<=↑l.length/\(↑l.length:Int)<=(↑l.length:Int)/\↑(8:Nat)*↑l.length<=(140737488355328:Int)/\q8 l/\RR (↑l.length:Int))/\(0+(↑l.length:Int).toNat<=(↑l.length:Int).toNat/\(↑(↑l.length:Int).toNat:Int)<=9223372036854775807)/\(↑l.length:Int).toNat<=(↑l.length:Int).toNat/\(AV.bN leaf (↑l.length:Int).toNat λi=>if 0<=i/\i<0+min l.length (↑l.length:Int).toNat then co (l.getD (i - 0) 0)else co 0)=AV.bN leaf l.length λi=>co (l.getD i 0)) ?_;try delta q8
 simp only[SZ];grind
section
variable (m:Mem)
def Kj:=RR m.aa.length/\∀ (i:Nat),i<m.aa.length->RR (ab (m.aa.getD i []))
variable (x1:Nat) (x2:Nat)
def qjz:=if x2<x1 then iQ (m.aa.getD x2 [])else AV.aA
def Cd:List Int:=zw (m.aa.getD (↑x1:Int).toNat []).length λi=>co ((m.aa.getD (↑x1:Int).toNat []).getD i 0)
def BA:=RR ((0:Nat))/\∀ (i:Nat),i<(0:Nat)->RR (co (List.getD [] i (0:Int)))
end
theorem anr (m:Mem) (hm:dN m):KF 116 [vM m] (wY m) (aea m):=by
 refine pK (vEd 36 (zze m)) Tryz.func116 ((KF (201:Nat) [ab m.vars] (AV.own (0:Nat) m.vars.length) [aw.row (3:TypeId) leaf (ql m) λi=>qu m i])/\(KF (201:Nat) [ab m.ae] (AV.own (0:Nat) m.ae.length) [aw.row (3:TypeId) leaf (qm m) λi=>qv m i])/\mD m/\((0:Int)<=↑m.aa.length/\(↑m.aa.length:Int)<=(↑m.aa.length:Int)/\↑(24:Nat)*↑m.aa.length<=(140737488355328:Int)/\mD m)/\(KF (201:Nat) [ab m.sig] (AV.own (0:Nat) m.sig.length) [aw.row (3:TypeId) leaf (qk m) λi=>qo m i])/\mD m/\(∃ (i:Nat),i<=List.length (Mem.aa m)/\(Kj m/\RR (↑(List.length (Mem.aa m)):Int)/\(0:Int)=(↑i:Int))/\LS (ao m) (ao m)/\((0:Nat)=(0:Nat)/\(0:Nat)=(0:Nat)/\(0:Nat)=(0:Nat)/\(0:Nat)=(0:Nat))/\(RR (List.length (Mem.vars m))/\RR (List.length (Mem.ae m))/\AH m/\RR (List.length (Mem.sig m)))/\(ql m=List.length (Mem.vars m)/\∀ (i:Nat),i<ql m->qu m i=co (List.getD (Mem.vars m) i (0:Int)))/\(qm m=List.length (Mem.ae m)/\∀ (i:Nat),i<qm m->qv m i=co (List.getD (Mem.ae m) i (0:Int)))/\(AH m/\∀ (ar:Nat),ar<Int.toNat (↑(List.length (Mem.aa m)):Int)->AV.aA=qjz m i ar)/\qk m=List.length (Mem.sig m)/\∀ (i:Nat),i<qk m->qo m i=co (List.getD (Mem.sig m) i (0:Int)))/\∀ i:Nat,i<=m.aa.length->(qj m i=true->ai (↑i) m.aa.length/\(KN 201 [ab (m.aa.getD (↑i:Int).toNat [])] (AV.bN leaf (Cd m i).length λar=>co ((Cd m i).getD ar (0:Int))))/\ai (↑i) m.aa.length/\(↑i:Int).toNat<m.aa.length/\aU j6 (q9 i)/\(∃ (j:Nat),j<=List.length (Mem.aa m)/\qi m j<qi m i/\(Kj m/\RR (↑(List.length (Mem.aa m)):Int)/\q9 i=(↑j:Int))/\LS (ao m) (ao m)/\(BA/\BA/\(RR ((0:Nat))/\∀ (i:Nat),i<(0:Nat)->RR (ab (List.getD [] i [])))/\BA)/\Zw m/\mI m/\mG m/\(RR (List.length (Mem.aa m))/\∀ (ar:Nat),ar<List.length (Mem.aa m)->(if ar=Int.toNat (↑i:Int)then av (iQ (Cd m i))else qjz m i ar)=qjz m j ar)/\nT m))/\(qj m i=false->Zw m/\mI m/\mG m/\(RR m.aa.length/\∀ (ar:Nat),ar<m.aa.length->qjz m i ar=iQ (m.aa.getD ar []))/\nT m)) ?_;try delta yH ql qu A4 qm qv mD sE qk qo Kj AH qjz Cd q9 qi BA Zw mI mG nT qj
 simp only[SZ];simp only[oR,wj,ym,yx];have s3:=hm.aa;refine⟨uW _ hm.vars,uW _ hm.ae,ac,ey,uW _ hm.sig,ac,⟨0,ac,rfl,λj hj=>by rw[x8 ac]⟩,λi hi=>⟨λhlt=>⟨hlt,zur _ (hm.q i),hlt,hlt,dl,i+1,hlt,ac,ac,λj hj=>?_⟩,λhge j hj=>by rw[x9 ac]⟩⟩;by_cases e:j=i
 . subst e;rw[x9 rfl,x9 ac];rfl
 . rw[x8 e];by_cases h:j<i
   . rw[x9 h,x9 ac]
   . rw[x8 h,x8 ac]
theorem zus (x:Int):(AV.seq .leaf (l.length+1) λi=>if i<l.length then co (l.getD i 0)else((List.replicate 1 (co 0)).set 0 (co x)).getD (i - l.length) AV.any)=oj (l++[x]):=by
 unfold oj;have hl:(l++[x]).length=l.length+1:=be;rw[hl];congr 1;funext i;by_cases f:i<l.length
 . rw[x9 f,x9 ac,x7,x7,ye ac]
 . rw[x8 f];by_cases e:i<l.length+1
   . rw[x9 e];grind
   . rw[x8 e,x7,yi ci];rfl
section
variable (m:Mem) (c:Int) (id:Int)
def Cc:=(b9 m c id).fst.vars.length=0/\(b9 m c id).fst.ae.length=0/\(b9 m c id).fst.aa.length=0/\(b9 m c id).fst.sig.length=0
def Ff:=bM m c ↑m.aa.length !=0
def qti:Nat:=(m.aa.getD c.toNat []).length+1
variable (x3:Nat)
def WB:List Int:=(b9 m c id).fst.aa.getD x3 []
end
theorem aob (m:Mem) (c id:Int) (f:dN m):KN 197 [vM m,co c,co id] (.ax [vMq m c id,co (b9 m c id).2]):=by
 refine Kn (vEq m 42) Tryz.func197 (↑m.aa.length<=(9223372036854775807:Int)/\KN 240 [AV.mc zm (ao m),co c,co ↑m.aa.length] (co (bM m c ↑m.aa.length))/\(Ff m c=true->Cc m c id/\bM m c ↑m.aa.length=(b9 m c id).snd)/\(Ff m c=false->(rY id=true->Cc m c id/\2=(b9 m c id).snd)/\(rY id=false->KN 244 [AV.mc zm (ao m),co id] (AV.bool (oT m id))/\(oT m id=true->Cc m c id/\30=(b9 m c id).snd)/\(oT m id=false->(KF (116:Nat) [AV.mc zm (ao m)] (AV.mc zm (AV.agg [AV.own (0:Nat) m.vars.length,AV.own (1:Nat) m.ae.length,AV.own (2:Nat) m.aa.length,AV.own (3:Nat) m.sig.length])) [aw.row (3:TypeId) leaf m.vars.length λi=>co (m.vars.getD i (0:Int)),aw.row (3:TypeId) leaf m.ae.length λi=>co (m.ae.getD i (0:Int)),aw.row (31:TypeId) leaf m.aa.length λi=>iQ (m.aa.getD i []),aw.row (3:TypeId) leaf m.sig.length λi=>co (m.sig.getD i (0:Int))])/\ai c m.aa.length/\c.toNat<m.aa.length/\1*leaf.size<=16777216/\(0<1/\↑(qti m c)*↑(8:Nat)<=(140737488355328:Int)/\qti m c<=9223372036854775807)/\1<=1/\ai c m.aa.length/\c.toNat<m.aa.length/\m.vars.length<=m.vars.length/\m.ae.length<=m.ae.length/\m.aa.length<=m.aa.length/\m.sig.length<=m.sig.length/\((m.vars.length=(b9 m c id).fst.vars.length/\∀ i:Nat,i<m.vars.length->co (m.vars.getD i 0)=co ((b9 m c id).fst.vars.getD i 0))/\(m.ae.length=(b9 m c id).fst.ae.length/\∀ i:Nat,i<m.ae.length->co (m.ae.getD i 0)=co ((b9 m c id).fst.ae.getD i 0))/\(m.aa.length=(b9 m c id).fst.aa.length/\∀ i:Nat,i<m.aa.length->(if i=c.toNat then av (AV.seq leaf (qti m c) λi=>if i<(m.aa.getD c.toNat []).length then co ((m.aa.getD c.toNat []).getD i 0)else((List.replicate 1 (co 0)).set 0 (av (av (co id)))).getD (i - (m.aa.getD c.toNat []).length) AV.any)else iQ (m.aa.getD i []))=if i=c.toNat then oj (WB m c id i)else iQ (WB m c id i))/\m.sig.length=(b9 m c id).fst.sig.length/\∀ i:Nat,i<m.sig.length->co (m.sig.getD i 0)=co ((b9 m c id).fst.sig.getD i 0))/\0=(b9 m c id).snd)))) ?_;try delta Cc Ff rY qti WB
 simp only[SZ];have s3:=f.aa;have bad:∀ n:Int,b9 m c id=(eg,n) ->((b9 m c id).1.vars.length=0/\(b9 m c id).1.ae.length=0/\(b9 m c id).1.aa.length=0/\(b9 m c id).1.sig.length=0)/\n=(b9 m c id).2:=λn h=>by rw[h];exact eq
 refine⟨ac,X2 m c _ f,λh=>bad _ (by unfold b9;rw[x9 h]),λh1=>⟨λh=>bad _ (by unfold b9;rw[x8 (by simp[h1]),x9 h]),λh2=>⟨amo m id f,λh=>bad _ (by unfold b9;rw[x8 (by simp[h1]),x8 h2,x9 h]),λh3=>?_⟩⟩⟩;have e:b9 m c id=({m with aa:=m.aa.set c.toNat (m.aa.getD c.toNat []++[id])},0):=by unfold b9;rw[x8 (by simp[h1]),x8 h2,x8 (by simp[h3])]
 have hc:=(ma h1).2;have k:=f.q c.toNat;rw[e];refine⟨anr m f,hc,ac,ap,⟨ap,ac,ac⟩,hc,ac,⟨eq,eq,⟨be,λj hj=>?_⟩,rfl,λ_ _=>rfl⟩,rfl⟩;by_cases ej:j=c.toNat
 . rw[x9 ej,x9 ej,zus,ej,x7 (l:=m.aa.set _ _),List.getElem?_set_self ac];rfl
 . rw[x8 ej,x8 ej,x7 (l:=m.aa.set _ _),List.getElem?_set_ne (λe=>ej e.symm),<- x7]
theorem zjt {n:Nat} {f g:Nat ->AV} (h:ay w F v (.seq .leaf n f)) (z:∀ i,i<n ->(f i).ba=true/\(g i).ba=true/\∀ u,ay w F u (f i) ->ay w F u (g i)):ay w F v (.seq .leaf n g):=by
 cases h with
 |db=>exact .db _ _ _ _
 |seq M o n cap sh f N K J H E=>
  refine .seq M o _ _ .leaf _ N K J H λi r j m=>?_;have e:j=0:=by have :j<1:=m;omega
  subst e;have⟨y,x,s⟩:=z i r;have k:=E i r 0 m;unfold z6 fu at k ⊢;rw[y]at k;rw[x];exact s _ k
theorem zut {l:List Int} (h:ay w F v (iQ l)):ay w F v (ab l):=by
 unfold iQ at h;show ay w F v (.seq .leaf l.length λi=> co (l.getD i 0));generalize l.length=n at h ⊢;cases h with
 |jL=>exact .db _ _ _ _
 |bN g o n sh f m k j e=>exact .seq g o _ _ .leaf _ m k (xm _) j e
theorem zuu {l:List Int} (h:ay w F v (oj l)):ay w F v (ab l):=
 zjt h λi f=>⟨by rw[x9 f];rfl,rfl,λu e=>by rw[x9 f]at e;exact e⟩
theorem aos:jM:=λm c id s=>by
 refine(aob m c id s).imp λw F v h=>dU.kV (r:=[_,_]) (r':=[_,_]) (by rfl) (λj k u f=>?_) h;match j,k with
 |1,_=>exact f
 |0,_=>
  cases f with
  |mc y sh x hs o=>
   refine .mc y _ _ hs λj k=>?_;have h:=o j k;match j,k with
   |0,_ |1,_ |3,_=>exact h
   |2,_=>
    refine zjt h λi _=>?_;by_cases e:i=c.toNat
    . rw[x9 e];exact⟨rfl,rfl,λu f=>zuu f⟩
    . rw[x8 e];exact⟨rfl,rfl,λu f=>zut f⟩
def bK:iz×Int:=if bV p c≠0 then(mu,bV p c)else bD p c l
def ng:Bool:=bV p c==0&&((bD p c l).2==0&&(mT p c (bD p c l).1.st).length==0)
def oXb:FuncId ->List AV ->Option AV
 |33,_=>some (.ax [pL (c5 p c) (cc p c),co (bV p c)])
 |34,_=>some (.ax [qR (bD (c5 p c) (cc p c) l).1,co (bD (c5 p c) (cc p c) l).2])
 |35,[_, .mc _ s]=>some (ab (mT (c5 p c) (cc p c) (gF s)))
 |36,[_, .mc _ s, .int _ a]=>some (.ax [cj (iH (c5 p c) (cc p c) (gF s) a).1,dg (iH (c5 p c) (cc p c) (gF s) a).2.1,co (iH (c5 p c) (cc p c) (gF s) a).2.2])
 |_,_=>none
def vXb (p:aj) (c:bq) (l:List Int) (n:Nat) (I:Nat ->Option Inv):bj:={C:=dc n λ_ _=>false,CC:=aL Tryz.prog GG,bb:=λ_ _=>oXb p c l,inv:=I}
theorem anf {p:aj} {b:Int} {s:ah} {a:Int} {i n:Nat} (e:bG p) (w:mf s i n) (f:n<400000):mf (cA p b s a).1 (i+1) (n+1):=by
 have k:=w.all;have j:=w.af;have h:=zjl (b:=b) (a:=a) e w.sm ac ac;refine⟨h.1,ac,ac,λj=>?_,zul w.ids⟩;rw[ab8];exact xp _
theorem akx {p:aj} {b:Int} (f:bG p) (i:p.af.length<=1000):mf (zj p b).1 0 399000:=by
 have w:=ad5 (b:=b) f i;by_cases h:aX p b≠0
 . have e:zj p b=(aE,aX p b):=x9 h;rw[e];exact pr _ _
 . have e:zp p b=(uj (zj p b).1 [],0):=x8 h;rw[e]at w;exact⟨zbc f,w.all,w.af,λj=>by rw[ae9];exact xp _,w.ids⟩
theorem ajb {p:aj} {c:bq} (f:bG p) (e:p.af.length<=1000):mf (fb p c).1 0 399000:=by grind[fb,ad5,akx]
theorem amv {p:aj} {c:bq} {s:ah} {a:Int} {i n:Nat} (e:bG p) (w:mf s i n) (f:n<400000) (h:i<1000000):mf (iH p c s a).1 (i+1) (n+1):=by grind[iH,zza,anf]
theorem mf.xw {s:ah} {i n:Nat} (w:mf s i n) (e:n<400000):XW s:=⟨w.sm,by have :=w.all;omega,by have :=w.af;omega⟩
theorem tC {p:aj} {c:bq} {l:List Int} (e:bG p) (f:p.af.length<=1000):∀ i,i<=512 ->mf (xN p c l i) i (399000+i)
 |0,_=>ajb e f
 |i+1,h=>amv (n:=399000+i) e (tC e f i ac) ac (ac)
theorem ace {p:aj} {c:bq} {l:List Int} (f:bG p) (e:p.af.length<=1000):mf (bD p c l).1.st 512 399512:=by
 have z:mf aE 512 399512:=pr _ _;unfold bD;split
 . exact z
 . split
   . exact z
   . split
     . exact z
     . rename_i h _;have w:=tC (c:=c) (l:=l) f e l.length ac;exact⟨w.sm,y6 w.all ac,y6 w.af ac,λk=>y6 (w.cE k) ac,w.ids⟩
theorem ajk {p:aj} {c:bq} {s:ah} (hs:cK s):(mT p c s).length<=1000000:=by
 unfold mT;split
 . unfold dk;split
   . rename_i e;have h:=z9m s.ag 0;have f:=zbd p s s.af.length;have j:=(z12.1 e).2.1;have i:=zhw e;unfold dq;rw[xl];omega
   . grind
 . have :=zjf p s;have :=hs.af;omega
section
variable (p:aj) (c:bq) (l:List Int)
def xE:Nat:=(bD (c5 p c) (cc p c) l).fst.eJ.length
variable (x3:Nat)
def OD:=bP ((bD (c5 p c) (cc p c) l).fst.eJ.getD x3 aH)
def og:=ze (bD (c5 p c) (cc p c) l).fst.st
end
theorem KW (hp:bG p) (ht:p.af.length<=1000) (hl:(l.length:Int)<=9223372036854775807) (hE:jM) (hI:∀ i,jS (l.getD i 0)):KN 11 [vP p,pM c,ab l] (.ax [qR (bK p c l).1, .int .i64 (bK p c l).2]):=by
 refine Kn (vXb p c l 25 λ_=>none) Tryz.func11 (KN 33 [AV.mc z7 (ak p),AV.mc ct (AV.agg [AV.int j6 c.model,AV.int j6 c.bound])] (AV.ax [q7 p c,AV.int j6 (bV p c)])/\(iV p c=true->((bK p c l).fst.eJ.length=0/\(bK p c l).fst.st.af.length=0/\((bK p c l).fst.st.mem.vars.length=0/\(bK p c l).fst.st.mem.ae.length=0/\(bK p c l).fst.st.mem.aa.length=0/\(bK p c l).fst.st.mem.sig.length=0)/\(bK p c l).fst.st.ag.length=0)/\bV p c=(bK p c l).snd)/\(iV p c=false->(KN 34 [q7 p c,ab l] (AV.ax [AV.mc (Shape.agg [leaf,aM]) (AV.agg [AV.seq bp (xE p c l) λi=>OD p c l i,og p c l]),AV.int j6 (bD (c5 p c) (cc p c) l).snd]))/\((xE p c l=(bK p c l).fst.eJ.length/\∀ i:Nat,i<xE p c l->OD p c l i=bP ((bK p c l).fst.eJ.getD i aH))/\LS (og p c l) (ze (bK p c l).fst.st))/\(bD (c5 p c) (cc p c) l).snd=(bK p c l).snd)) ?_;try delta q7 iV xE OD og
 simp only[SB];refine⟨Sg p c hp,λh=>?_,λh=>?_⟩
 . have e:bK p c l=(mu,bV p c):=x9 h;rw[e];exact⟨⟨rfl,mq⟩,rfl⟩
 . have e:bK p c l=bD p c l:=x8 (λh'=>h' h);obtain⟨e1,e2⟩:=vZ h;rw[e,e1,e2];exact⟨acs p c l hp hl hE (λ_ h5 i hi=>(tC hp ht i ac).xw ac) hI,⟨eq,eE rfl⟩,rfl⟩
section
variable (p:aj) (c:bq) (l:List Int)
def Sv:=(bD (c5 p c) (cc p c) l).snd==0
def tW:=Sv p c l=true
def oK:=tW p c l->tW p c l
def N6:List Int:=mT (c5 p c) (cc p c) (gF (og p c l))
def RK:Int:=↑(N6 p c l).length
end
theorem ah3 (e:bG p) (f:p.af.length<=1000) (hl:(l.length:Int)<=9223372036854775807) (k:jM) (j:∀ i,jS (l.getD i 0)):KN 19 [vP p,pM c,ab l] (.bool (ng p c l)):=by
 refine Kn (vXb p c l 34 λ_=>none) Tryz.func19 (KN 33 [AV.mc z7 (ak p),AV.mc ct (AV.agg [co c.model,co c.bound])] (AV.ax [q7 p c,co (bV p c)])/\(iV p c=true->false=ng p c l)/\(iV p c=false->(KN 34 [q7 p c,ab l] (AV.ax [AV.mc (Shape.agg [leaf,aM]) (AV.agg [AV.seq bp (bD (c5 p c) (cc p c) l).fst.eJ.length λi=>bP ((bD (c5 p c) (cc p c) l).fst.eJ.getD i aH),og p c l]),co (bD (c5 p c) (cc p c) l).snd]))/\oK p c l/\oK p c l/\oK p c l/\(tW p c l->KN 35 [q7 p c,AV.mc aM (og p c l)] (ab (N6 p c l)))/\oK p c l/\(tW p c l->RK p c l<=9223372036854775807)/\oK p c l/\oK p c l/\(Sv p c l&&RK p c l==0)=ng p c l)) ?_;try delta q7 iV og Sv tW oK N6 RK
 simp only[SZ];refine⟨Sg p c e,λh=>?_,λh=>?_⟩
 . unfold ng;rw[xt.2 h];rfl
 . have⟨o,m⟩:=vZ h;have hs:=(ace (c:=c) (l:=l) e f).sm;rw[o,m,eP hs.r8];refine⟨acs p c l e hl k (λ_ s i r=>(tC e f i ac).xw ac) j,λ_=>agn p c _ e hs,λ_=>by have :=ajk (p:=p) (c:=c) hs;omega, ?_⟩;unfold ng;rw[h,beq_self_eq_true,wd];congr 1;rw[wq,xo,xo];omega
def oYa:FuncId ->List AV ->Option AV
 |66,[_]=>some (.ax [.int .i64 (zc p).1, .int .i64 (zc p).2.1, .int .i64 (zc p).2.2])
 |67,[_]=>some (.int .i64 (eH c))
 |42,_=>some (.int .i64 (bV p c))
 |43,_=>some (.ax [cj (zp p c.bound).1, .int .i64 (zp p c.bound).2])
 |44,_=>some (.ax [cj (zj p c.bound).1, .int .i64 (zj p c.bound).2])
 |45,_=>some (ab (dk p s))
 |46,_=>some (ab (cY p s))
 |49,_=>some (.ax [dg (zf p s a).1, .bool (zf p s a).2])
 |50,_=>some (.ax [dg (bA p s a).1, .bool (bA p s a).2])
 |51,_=>some (.ax [cj (zt p c.bound s a).1,dg (zt p c.bound s a).2.1, .int .i64 (zt p c.bound s a).2.2])
 |52,_=>some (.ax [cj (cA p c.bound s a).1,dg (cA p c.bound s a).2.1, .int .i64 (cA p c.bound s a).2.2])
 |_,_=>none
def vYa (p:aj) (c:bq) (s:ah) (a:Int) (n:Nat):bj:={C:=dc n λ_ _=>false,CC:=aL Tryz.prog GG,bb:=λ_ _=>oYa p c s a,inv:=λ_=>none}
theorem an2:KN 67 [pM c] (co (eH c)):=by
 refine Kn (vYa lX c aE 0 24) Tryz.func67 (nf c/\nf c/\nf c/\ny c/\ny c/\ny c/\(qQ c=true->18=eH c)/\(qQ c=false->nv c/\nv c/\nv c/\(qD c=true->2=eH c)/\(qD c=false->0=eH c))) ?_;try delta yN nf Ab xK ny qQ yY Ar nv qD
 simp only[SZ];unfold eH;omega
theorem aan (e:bG p):KN 42 [vP p,pM c] (co (bV p c)):=by
 refine Kn (vYa p c aE 0 26) Tryz.func42 (KN 66 [AV.mc z7 (ak p)] (AV.ax [co (zc p).fst,co (zc p).snd.fst,co (zc p).snd.snd])/\(si p=true->(zc p).fst=bV p c)/\(si p=false->KN 67 [AV.mc ct (AV.agg [co c.model,co c.bound])] (co (eH c))/\((eH c !=0)=true->eH c=bV p c)/\((eH c !=0)=false->((c.model==3)=true->18=bV p c)/\((c.model==3)=false->0=bV p c)))) ?_;try delta si
 simp only[SZ];unfold bV;exact⟨WT p e,λh=>(x9 h).symm,λh=>⟨an2 c,λq=>by rw[x8 (λh'=>h' h),x9 q],λq=>by rw[x8 (λh'=>h' h),x8 (λh'=>h' q)];exact⟨λr=>(x9 r).symm,λr=>(x8 r).symm⟩⟩⟩
theorem ahx (hp:bG p):KN 25 [vP p,pM c] (.ax [cj (fp p c).1, .int .i64 (fp p c).2]):=by
 refine Kn (vYa p c aE 0 29) Tryz.func25 (KN 42 [AV.mc z7 (ak p),AV.mc ct (AV.agg [AV.int j6 c.model,AV.int j6 c.bound])] (AV.int j6 (bV p c))/\(iV p c=true->((fp p c).fst.af.length=0/\((fp p c).fst.mem.vars.length=0/\(fp p c).fst.mem.ae.length=0/\(fp p c).fst.mem.aa.length=0/\(fp p c).fst.mem.sig.length=0)/\(fp p c).fst.ag.length=0)/\bV p c=(fp p c).snd)/\(iV p c=false->((c.model==2)=true->KN 43 (qO p c) (AV.ax [AV.mc aM (ze (zp p c.bound).fst),AV.int j6 (zp p c.bound).snd])/\LS (ze (zp p c.bound).fst) (ze (fp p c).fst)/\(zp p c.bound).snd=(fp p c).snd)/\((c.model==2)=false->KN 44 (qO p c) (AV.ax [AV.mc aM (ze (zj p c.bound).fst),AV.int j6 (zj p c.bound).snd])/\LS (ze (zj p c.bound).fst) (ze (fp p c).fst)/\(zj p c.bound).snd=(fp p c).snd))) ?_;try delta iV qO
 simp only[SB];unfold fp;refine⟨aan p c hp,λh=>by rw[x9 h];exact⟨mq,rfl⟩,λh=>?_⟩;rw[x8 (λh'=>h' h)];unfold fb;exact⟨λq=>by rw[x9 q];exact⟨z196 p _ hp,eE rfl,rfl⟩,λq=>by rw[x8 q];exact⟨ae1 p _ hp,eE rfl,rfl⟩⟩
section
variable (p:aj) (c:bq) (s:ah) (x3:Nat)
def aq4:=AV.int j6 ((eEn p c s).getD x3 0)
end
theorem ar0 (hp:bG p) (hs:cK s):KN 26 [vP p,pM c,cj s] (ab (eEn p c s)):=by
 refine Kn (vYa p c s 0 20) Tryz.func26 (KN 42 [AV.mc z7 (ak p),AV.mc ct (AV.agg [AV.int j6 c.model,AV.int j6 c.bound])] (AV.int j6 (bV p c))/\(iV p c=true->(eEn p c s).length=0)/\(iV p c=false->((c.model==2)=true->KN 45 (Mo p s) (ab (dk p s))/\(dk p s).length=(eEn p c s).length/\∀ i:Nat,i<(dk p s).length->AV.int j6 ((dk p s).getD i 0)=aq4 p c s i)/\((c.model==2)=false->KN 46 (Mo p s) (ab (cY p s))/\(cY p s).length=(eEn p c s).length/\∀ i:Nat,i<(cY p s).length->AV.int j6 ((cY p s).getD i 0)=aq4 p c s i))) ?_;try delta iV Mo aq4
 simp only[SZ];unfold eEn;refine⟨aan p c hp,λh=>by rw[x9 h];rfl,λh=>?_⟩;rw[x8 (λh'=>h' h)];unfold mT;exact⟨λq=>by rw[x9 q];exact⟨ajc p s hp hs,rfl,λ_ _=>rfl⟩,λq=>by rw[x8 q];exact⟨abw p s hp hs,rfl,λ_ _=>rfl⟩⟩
theorem atn (hp:bG p) (hs:cK s) (ha:jS a):KN 29 [vP p,pM c,cj s, .int .i64 a] (.ax [dg (eLb p c s a).1, .bool (eLb p c s a).2]):=by
 refine Kn (vYa p c s a 30) Tryz.func29 (KN 42 [AV.mc z7 (ak p),AV.mc ct (AV.agg [AV.int j6 c.model,AV.int j6 c.bound])] (AV.int j6 (bV p c))/\(iV p c=true->(0=(eLb p c s a).fst.aG/\0=(eLb p c s a).fst.idx/\0=(eLb p c s a).fst.kind/\0=(eLb p c s a).fst.obj/\0=(eLb p c s a).fst.mutex/\0=(eLb p c s a).fst.entry/\0=(eLb p c s a).fst.ord/\0=(eLb p c s a).fst.read/\0=(eLb p c s a).fst.wrote)/\false=(eLb p c s a).snd)/\(iV p c=false->((c.model==2)=true->KN 49 (as1 p s a) (AV.ax [AV.mc bp (bP (zf p s a).fst),AV.bool (zf p s a).snd])/\LS (bP (zf p s a).fst) (bP (eLb p c s a).fst)/\(zf p s a).snd=(eLb p c s a).snd)/\((c.model==2)=false->KN 50 (as1 p s a) (AV.ax [AV.mc bp (bP (bA p s a).fst),AV.bool (bA p s a).snd])/\LS (bP (bA p s a).fst) (bP (eLb p c s a).fst)/\(bA p s a).snd=(eLb p c s a).snd))) ?_;try delta iV as1
 simp only[SB];unfold eLb;refine⟨aan p c hp,λh=>by rw[x9 h];exact⟨zEv,rfl⟩,λh=>?_⟩;rw[x8 (λh'=>h' h)];unfold xLb;exact⟨λq=>by rw[x9 q];exact⟨zz9 p s a hp hs ha,eE rfl,rfl⟩,λq=>by rw[x8 q];exact⟨alw p s a hp hs,eE rfl,rfl⟩⟩
section
variable (p:aj) (c:bq) (s:ah) (a:Int)
def VW:=bP (arh p c s a)
end
theorem anm (hp:bG p) (w:XW s) (hE:Bp) (ha:jS a):KN 30 [vP p,pM c,cj s, .int .i64 a] (.ax [cj (mr p c s a).1,dg (mr p c s a).2.1, .int .i64 (mr p c s a).2.2]):=by
 refine Kn (vYa p c s a 41) Tryz.func30 (KN 42 [AV.mc z7 (ak p),AV.mc ct (AV.agg [AV.int j6 c.model,AV.int j6 c.bound])] (AV.int j6 (bV p c))/\(iV p c=true->((mr p c s a).fst.af.length=0/\((mr p c s a).fst.mem.vars.length=0/\(mr p c s a).fst.mem.ae.length=0/\(mr p c s a).fst.mem.aa.length=0/\(mr p c s a).fst.mem.sig.length=0)/\(mr p c s a).fst.ag.length=0)/\(0=(arh p c s a).aG/\0=(arh p c s a).idx/\0=(arh p c s a).kind/\0=(arh p c s a).obj/\0=(arh p c s a).mutex/\0=(arh p c s a).entry/\0=(arh p c s a).ord/\0=(arh p c s a).read/\0=(arh p c s a).wrote)/\bV p c=arz p c s a)/\(iV p c=false->((c.model==2)=true->KN 51 (qU p c s a) (AV.ax [AV.mc aM (ze (zt p c.bound s a).fst),AV.mc bp (r6 p c s a),AV.int j6 (qM p c s a)])/\LS (ze (zt p c.bound s a).fst) (ze (mr p c s a).fst)/\LS (r6 p c s a) (VW p c s a)/\qM p c s a=arz p c s a)/\((c.model==2)=false->KN 52 (qU p c s a) (AV.ax [AV.mc aM (ze (cA p c.bound s a).fst),AV.mc bp (pV p c s a),AV.int j6 (pI p c s a)])/\LS (ze (cA p c.bound s a).fst) (ze (mr p c s a).fst)/\LS (pV p c s a) (VW p c s a)/\pI p c s a=arz p c s a))) ?_;try delta arh arz iV qU r6 qM VW pV pI
 simp only[SB];unfold mr;have h1:=w.af;refine⟨aan p c hp,λh=>by rw[x9 h];exact⟨mq,zEv,rfl⟩,λh=>?_⟩;rw[x8 (λh'=>h' h)];unfold iH;exact⟨λq=>by rw[x9 q];exact⟨zs4 p _ s a hp w.sm hE ha w.all,eE rfl,eE rfl,rfl⟩,λq=>by rw[x8 q];exact⟨aa9 p _ s a hp w.sm hE ac,eE rfl,eE rfl,rfl⟩⟩
def ek:aj:=⟨[⟨[120],0⟩],[],[],[⟨[102],[⟨1,1,0,0,0,5,0,0⟩,⟨9,0,1,0,0,0,0,0⟩]⟩],[⟨0,0⟩]⟩
def ag7:AV:= .agg [fK ek.vars,br [],br [], .seq ct 1 λi=>([.agg [.str [102], .seq zy 2 λi=>([encI ⟨1,1,0,0,0,5,0,0⟩,encI ⟨9,0,1,0,0,0,0,0⟩]:List AV).getD i .any]]:List AV).getD i .any,nX ek.af]
structure ExX where
 q:aj
 r1:iz×Int
 r2:iz×Int
 s3:ah×Int
 cm:Bool
def oEx (x:ExX):FuncId ->List AV ->Option AV
 |32,_=>some (vP x.q)
 |11,[_, .mc _ (.agg [.int _ 1,_]),_]=>some (.ax [qR x.r1.1,co x.r1.2])
 |11,_=>some (.ax [qR x.r2.1,co x.r2.2])
 |24,_=>some (.ax [cj x.s3.1,co x.s3.2])
 |19,_=>some (.bool x.cm)
 |_,_=>none
def vEx (x:ExX) (n:Nat):bj:={C:={dc n λ_ _=>false with kH:=λd=>Nat.beq d 12 || (Nat.beq d 19 || Nat.beq d 84)},CC:=aL Tryz.prog GG,bb:=λ_ _=>oEx x,inv:=λ_=>none}
def exX:ExX:=⟨ek,bK ek ⟨1,4⟩ [0],bK ek ⟨2,4⟩ [0,-1],fp ek ⟨3,4⟩,ng ek ⟨1,4⟩ [0]⟩
theorem two {P:Nat ->Prop} (f:P 0) (e:P 1):∀ i,i<2 ->P i
 |0,_=>f
 |1,_=>e
theorem one {P:Nat ->Prop} (e:P 0):∀ i,i<1 ->P i
 |0,_=>e
theorem seq1 {sh:Shape} {f g:Nat ->AV} (h:ew sh (f 0) (g 0)):ew .leaf (.seq sh 1 f) (.seq sh 1 g):=
 ew.leaf rfl rfl (ew.seq λi e=>match i,e with
  |0,_=>h)
def vN:=1*ct.size<=16777216
def JR:=2<=2
def UP:List jV:=[jV.mk [120] 0]
def Vu:List AV:=[AV.str [],co 0]
def UT:=(0:Nat)=(0:Nat)
def wX:List AV:=co 0::co 0::co 0::co 0::co 0::co 0::zI
def UW:List dW:=[dW.mk 0 0]
def Wm:=AV.agg zI
theorem agb:KN 32 [] (.mc z7 ag7):=by
 refine Kn (vEx exX 11) Tryz.func32 (vN/\2*zy.size<=16777216/\JR/\JR/\vN/\vN/\qf/\qf/\qf/\(1=UP.length/\∀ i:Nat,i<1->((List.replicate 1 (AV.agg Vu)).set 0 (AV.agg (Vu.set 0 (av (AV.str [120]))))).getD i AV.any=lM (UP.getD i eR))/\UT/\UT/\(RR 1/\∀ i:Nat,i<1->((List.replicate 1 (AV.agg [AV.str [],AV.aA])).set 0 (AV.agg [AV.str [102],AV.seq zy 2 λi=>(((List.replicate 2 (AV.agg wX)).set 0 (AV.agg (((wX.set 0 (av (co 1))).set 1 (av (co 1))).set 5 (av (co 5))))).set 1 (AV.agg ((wX.set 0 (av (co 9))).set 2 (av (co 1))))).getD i AV.any])).getD i AV.any=[AV.agg [AV.str [102],AV.seq zy 2 λi=>[encI (aP.mk 1 1 0 0 0 5 0 0),encI (aP.mk 9 0 1 0 0 0 0 0)].getD i AV.any]].getD i AV.any)/\1=UW.length/\∀ i:Nat,i<1->((List.replicate 1 Wm).set 0 Wm).getD i AV.any=encS (UW.getD i dL)) ?_;try delta vN JR qf UP Vu UT zI wX UW Wm
 simp only[SZ];exact⟨ap,ap,ap,ap,⟨rfl,one rfl⟩,one rfl,rfl,one rfl⟩
theorem Af:KN 32 [] (vP ek):=
 Rd.known agb (ew.agg ⟨ew.refl _ _,ew.refl _ _,ew.refl _ _,seq1 (ew.agg ⟨ew.refl _ _,amj (ew.refl _ _) (ew.refl _ _),trivial⟩),ew.refl _ _,trivial⟩)
theorem Ai:bG ek:=by
 refine⟨ap,ap,ap,ap,ap,λi=>?_,λi=>?_,λi=>?_,λi=>?_,λi=>?_⟩;all_goals match i with
  |0=>decide
  |i+1=>exact xp _
theorem ann:(bK ek ⟨1,4⟩ [0]).2=0/\(bK ek ⟨1,4⟩ [0]).1.eJ.length=1/\((bK ek ⟨1,4⟩ [0]).1.eJ.getD 0 aH).kind=2/\((bK ek ⟨1,4⟩ [0]).1.eJ.getD 0 aH).wrote=5:=bv
theorem ah8:(bK ek ⟨2,4⟩ [0,-1]).2=0/\(bK ek ⟨2,4⟩ [0,-1]).1.eJ.length=2/\((bK ek ⟨2,4⟩ [0,-1]).1.eJ.getD 0 aH).kind=3/\((bK ek ⟨2,4⟩ [0,-1]).1.eJ.getD 1 aH).kind=4:=bv
theorem afi:(fp ek ⟨3,4⟩).2=18/\ng ek ⟨1,4⟩ [0]=true:=bv
theorem i_0 (i:Nat):jS (([0]:List Int).getD i 0):=by
 match i with
 |0=>exact⟨ap,ap⟩
 |i+1=>exact⟨be,be⟩
theorem ar (i:Nat):jS (([0,-1]:List Int).getD i 0):=by
 match i with
 |0=>exact⟨ap,ap⟩
 |1=>exact⟨ap,ap⟩
 |i+2=>exact⟨be,be⟩
section
variable (x:ExX)
def Qb:List AV:=[AV.mc z7 (ak x.q),AV.mc ct (AV.agg [co 1,co 4]),AV.seq leaf 1 λi=>((List.replicate 1 (co 0)).set 0 (av (co 0))).getD i AV.any]
def Dt:=x.r1.snd !=0
def Lw:=(!Dt x)=true
def V7:=Lw x->Lw x
def MB:=Dt x||x.r2.snd !=0
def wZ:=(!MB x)=true
def tg:=wZ x->wZ x
def Iv:=MB x||↑x.r1.fst.eJ.length !=(1:Int)
def A3:=(!Iv x)=true
def tY:=A3 x->A3 x
def Dn:=Iv x||↑x.r2.fst.eJ.length !=(2:Int)
def T9:=(!Dn x)=true
def Ec:=T9 x->T9 x
def VV:=Dn x||x.s3.snd !=18
def Ud:=ai 0 x.r1.fst.eJ.length
def Nc:Ev:=x.r1.fst.eJ.getD (Int.toNat 0) aH
def Oz:=(Nc x).kind==2
def Au:=Oz x=true
def nV:=Au x->Au x
def Wd:=Oz x&&(Nc x).wrote==5
def xZ:=Wd x=true
def o9:=xZ x->xZ x
def Sy:=Wd x&&(x.r2.fst.eJ.getD (Int.toNat 0) aH).kind==3
def wK:=Sy x=true
def nZ:=wK x->wK x
def Ct:=Sy x&&(x.r2.fst.eJ.getD (Int.toNat 1) aH).kind==4
def tL:=Ct x=true
def ud:=tL x->tL x
end
theorem kEx (x:ExX) (u:x=exX) (j:jM):KN 10 [] (.bool true):=by
 refine Kn (vEx x 87) Tryz.func10 (KN 32 [] (AV.mc z7 (ak x.q))/\qr/\(KN 11 (Qb x) (AV.ax [AV.mc (Shape.agg [leaf,aM]) (AV.agg [AV.seq bp x.r1.fst.eJ.length λi=>bP (x.r1.fst.eJ.getD i aH),ze x.r1.fst.st]),co x.r1.snd]))/\2*leaf.size<=16777216/\(KN 11 [AV.mc z7 (ak x.q),AV.mc ct (AV.agg [co (2:Int),co (4:Int)]),AV.seq leaf (2:Nat) λi=>(((List.replicate (2:Nat) (co (0:Int))).set (0:Nat) (av (co (0:Int)))).set (1:Nat) (av (co (-1:Int)))).getD i AV.any] (AV.ax [AV.mc (Shape.agg [leaf,aM]) (AV.agg [AV.seq bp x.r2.fst.eJ.length λi=>bP (x.r2.fst.eJ.getD i aH),ze x.r2.fst.st]),co x.r2.snd]))/\KN 24 [AV.mc z7 (ak x.q),AV.mc ct (AV.agg [co (3:Int),co (4:Int)])] (AV.ax [AV.mc aM (ze x.s3.fst),co x.s3.snd])/\V7 x/\V7 x/\tg x/\tg x/\(wZ x->↑x.r1.fst.eJ.length<=(9223372036854775807:Int))/\tg x/\tg x/\tY x/\tY x/\(A3 x->↑x.r2.fst.eJ.length<=(9223372036854775807:Int))/\tY x/\tY x/\Ec x/\Ec x/\(VV x=true->false=true)/\(VV x=false->Ud x/\nV x/\nV x/\(Au x->Ud x)/\nV x/\nV x/\nV x/\nV x/\o9 x/\o9 x/\(xZ x->ai 0 x.r2.fst.eJ.length)/\o9 x/\o9 x/\o9 x/\o9 x/\nZ x/\nZ x/\(wK x->ai 1 x.r2.fst.eJ.length)/\nZ x/\nZ x/\nZ x/\nZ x/\(tL x->qr)/\ud x/\ud x/\ud x/\(tL x->KN 19 (Qb x) (AV.bool x.cm))/\ud x/\(Ct x&&x.cm)=true)) ?_;try delta qr Qb Dt Lw V7 MB wZ tg Iv A3 tY Dn T9 Ec VV Ud Nc Oz Au nV Wd xZ o9 Sy wK nZ Ct tL ud
 subst u;simp only[SZ];dsimp only[exX];have⟨M,K,F,E⟩:=ann;have⟨J,b2,b3,z⟩:=ah8;have⟨H,y⟩:=afi;have e:ek.af.length<=1000:=ap;have s:=KW ek ⟨1,4⟩ [0] Ai e ap j i_0;have o:=KW ek ⟨2,4⟩ [0,-1] Ai e ap j ar;have m:=ah3 ek ⟨1,4⟩ [0] Ai e ap j i_0;have k:=an6 ek ⟨3,4⟩ Ai;have r1:∀ {f:FuncId} {r:AV},KN f [vP ek,pM ⟨1,4⟩,ab [0]] r ->KN f [vP ek,pM ⟨1,4⟩,AV.seq .leaf 1 λi=>((List.replicate 1 (co 0)).set 0 (co 0)).getD i .any] r:=λh=>h.weaken (args':=[_,_,_]) rfl ⟨zE,zE,⟨rfl,rfl,one rfl⟩,trivial⟩;exact⟨Af,ap,r1 s,ap,o.weaken (args':=[_,_,_]) rfl ⟨zE,zE,⟨rfl,rfl,two rfl rfl⟩,trivial⟩,k,λ_=>ac,λ_=>ac,λh=>ac,
  λ_=>⟨⟨ap,ac⟩,λ_=>⟨ap,ac⟩,λ_=>⟨ap,ac⟩,λ_=>⟨ap,ac⟩,λ_=>ap,λ_=>r1 m,⟨⟨⟨F,E⟩,b3⟩,z⟩,y⟩⟩
abbrev akd:aw:= .cell 30 ct (tJ c)
theorem abq {p:aj}:∀ k i,vf p k i=true ->∀ j,i<=j ->j<i+k ->(p.al.getD j bu).code.length<=12
 |0,i,_,j,m,f=>ac
 |k+1,i,h,j,m,f=>by
  unfold vf at h;rw[xa,xd]at h;by_cases e:j=i
  . rw[e];exact h.1
  . exact abq k (i+1) h.2 j ac (ac)
theorem ajf {p:aj} {b:Int} (h:oQ p b=true) (f:NmP p):bG p/\p.af.length<=1000:=by
 unfold oQ at h;rw[xa,xa]at h;have⟨j,m,_⟩:=h;unfold JU at j;rw[xd]at j;have k:=abq _ _ m;refine⟨⟨ac,ac,ac,ac,ac,λi=>?_,λi=>?_,λi=>?_,λi=>?_,λi=>?_⟩,ac⟩
 . by_cases o:i<p.al.length
   . have :=k i (xp _) ac;omega
   . rw[x7,yi ac];exact xp _
 . have e:((pE p).getD i []).length=(p.vars.getD i eR).name.length:=by
    unfold pE;rw[x7,x7,gm];cases p.vars[i]? <;>rfl
   have :=f.vn i;omega
 . have :=f.mn i;omega
 . have :=f.cn i;omega
 . have e:((ru p).getD i []).length=(p.al.getD i bu).name.length:=by
    unfold ru;rw[x7,x7,gm];cases p.al[i]? <;>rfl
   have :=f.fn i;omega
structure aoy (p:aj) (c:bq) (l:List Int):Prop where
 cho:bV p c=0
 st:(fb p c).2=0
 len:l.length<=512
 all:∀ j,j<l.length ->(xR p c l j).2.2=0
 run:bK p c l=(⟨jK p c l l.length,xN p c l l.length⟩,0)
theorem ar8 {p:aj} {c:bq} {s:ah} (hs:cK s):(eEn p c s).length<=1000000:=by grind[eEn,ajk]
end
end Go.Proofs.S25
namespace Go.AV
open Go.RowKit
def upN (b:Nat):Nat:=1099511627776+b
def ark:List (Nat×aw) ->List (Nat×aw)
 | []=>[]
 | (b,c)::l=>(upN b,c.sub upN)::ark l
def ars (b:Nat):Bool:=Nat.blt b 1099511627776
def okH:List (Nat×aw) ->Bool
 | []=>true
 | (b,c)::l=>ars b&&c.only ars&&okH l
theorem asl:∀ {H:List (Nat×aw)} {b:Nat} {c:aw},get (ark H) b=some c ->∃ f i,b=upN f/\c=i.sub upN/\get H f=some i
 | [],_,_,h=>by simp[ark,get]at h
 | (k,d)::l,b,c,h=>by
  simp only[ark,get]at h ⊢;split at h
  . rename_i e;cases h;exact⟨k,d,(xc e).symm,rfl,by rw[Nat.beq_refl]⟩
  . rename_i e;obtain⟨f,i,rfl,rfl,j⟩:=asl h;refine⟨f,i,rfl,rfl, ?_⟩;rw[show Nat.beq k f=false from by
     rw[<- gk];intro q;rw[xc q,Nat.beq_refl]at e;cases e]
    exact j
theorem asx:∀ {H:List (Nat×aw)} {b:Nat} {c:aw},get H b=some c ->get (ark H) (upN b)=some (c.sub upN)
 | [],_,_,h=>by simp[get]at h
 | (k,d)::l,b,c,h=>by
  simp[ark,get]at h ⊢;split at h
  . rename_i e;cases h;rw[xc e,Nat.beq_refl]
  . rename_i e;rw[show Nat.beq (upN k) (upN b)=false from by
     rw[<- gk];intro q;have :=xc q;unfold upN at this;rw[show k=b from ac,Nat.beq_refl]at e;cases e]
    exact asx h
theorem arv:∀ {H:List (Nat×aw)} {b:Nat} {c:aw},okH H=true ->get H b=some c ->ars b=true/\c.only ars=true
 | [],_,_,_,h=>by simp[get]at h
 | (k,d)::l,b,c,ok,h=>by
  simp[okH]at ok;simp[get]at h;split at h
  . rename_i e;cases h;rw[<- xc e];exact ok.1
  . exact arv ok.2 h
def aso (H:List (Nat×aw)):List (Nat×aw) ->Bool
 | []=>true
 | (b,c)::l=>(c.isRow || ari H b)&&aso H l
theorem avz {H:List (Nat×aw)}:∀ {f:List (Nat×aw)} {b:Nat},aso H f=true ->ari f b=true ->ari H b=true
 | [],_,_,h=>by simp[ari,get]at h
 | (k,d)::l,b,ok,h=>by
  simp only[aso,xa]at ok;simp[ari,get]at h;split at h
  . rename_i e;split at e
    . rename_i q;cases e;rw[<- xc q];exact ok.1
    . rename_i tc sh x _;exact avz ok.2 (by unfold ari;rw[e])
  . cases h
theorem arq.mono {P:Program} {G:List (Nat×AV)} {f:FuncId} {args:List AV} {i H j:List (Nat×aw)} (h:arq P G f args i j) (hs:∀ b c,get i b=some c ->get H b=some c):arq P G f args H j:=λC E y env a w F φ k s e=>
 h C E y env a w F φ k s ⟨e.env,λb c q=>e.heap b c (hs b c q),λb x c u g o m=>e.inj b x c u g (hs _ _ o) (hs _ _ m),e.ro,e.base,e.sub,e.new,e.cW,e.fW,e.bZ,λb p q=>⟨(e.gY b p q).1,(e.gY b p q).2.1,λc r=>(e.gY b p q).2.2 c (hs b c r)⟩⟩
theorem avv {m:Nat ->Bool}:∀ {l:List (Nat×AV)} {s:Nat} {x:AV},get (as0 m l) s=some x ->∃ y,get l s=some y/\((y=x/\okC m x=true)∨x= .when false .any)
 | [],_,_,h=>by simp[as0,get]at h
 | (k,v)::l,s,x,h=>by
  simp[as0,get]at h ⊢;split at h
  . refine⟨v,rfl, ?_⟩;cases h;split
    . rename_i e;exact .inl ⟨rfl,e⟩
    . exact .inr rfl
  . exact avv h
section
variable {w w':World} {F F':Nat ->Prop} {φ φ':Nat ->Place} {m:Nat ->Bool}
theorem avp (e:∀ k,F k ->w'.heap[k]? =w.heap[k]?) (f:∀ k,F k ->F' k) (i:∀ b,m b=true ->φ' b=φ b) {x:AV} (ok:okP m x=true) {v:Value} (h:aO w F φ v x):aO w' F' φ' v x:=by
 by_cases hs:x.aN=true
 . exact .stat ((h.lA hs).keep e f)
 . cases x with
   |ptr b p=>exact h.keep e f λc j=>i c (by rw[<- xc (show Nat.beq b c=true from j)];exact ok)
   |_=>exact absurd ok hs
theorem awf (e:∀ k,F k ->w'.heap[k]? =w.heap[k]?) (o:∀ k,F k ->F' k) (r:∀ b,m b=true ->φ' b=φ b) {x:AV} (ok:okC m x=true) {v:Value} (h:aO w F φ v x):aO w' F' φ' v x:=by
 cases x with
 |cI f l=>
  cases h with
  |stat h=>exact .stat (h.keep e o)
  |cI _ u _ hs s=>exact .cI f u l hs λj i=>avp e o r (by
   rw[x7,xe i];exact yy.1 ok _ (List.getElem_mem i)) (s j i)
 |_=>refine avp e o r ?_ h;exact ok
end
theorem arq.ug {V:bj} {f:FuncId} {fn:Func} {c:Code} {args:List AV} {H H':List (Nat×aw)} (hf:V.C.P.funcs[f]? =some fn) (hb:fn.body=some c) (hok:(Nat.beq fn.ntmps V.C.ntmps&&Nat.ble args.length V.C.ntmps&&fn.results.toList.isEmpty&&okH H&&okH H'&&aso H H'&&z9x args&&AV.hY ars args)=true)
 (hT:cf V.C) (hCC:cP V.C V.CC) (h:cO V c ⟨z87 0 (AV.me upN args),ark H⟩ (some (True,⟨[],ark H'⟩)) none (some (True,⟨[],ark H'⟩))):arq V.C.P V.C.G f args H H':=by
 simp only[xa]at hok;obtain⟨⟨⟨⟨⟨⟨⟨hn,hl⟩,hres⟩,okA⟩,okB⟩,ci⟩,va⟩,oa⟩:=hok;have hn:=xc hn;have hl:=wv hl;intro C E F0 env a w F φ vs hG hR hsz hv;let φL:Nat ->Place:=λb=>φ (b - 1099511627776);have hφ:∀ b,ars b=true ->φL (upN b)=φ b:=λb _=>by show φ (upN b - _)=_;unfold upN;rw[Nat.add_sub_cancel_left]
 let E2:Entry:=⟨w,Own ⟨env,H⟩ φ,λb=>if 1099511627776<=b/\ari H (b - 1099511627776)=true then some (φL b)else none,[]⟩;have h0:Rel V.C E2 F ⟨z87 0 (AV.me upN args),ark H⟩ {tmps:=vs++Array.replicate (fn.ntmps - vs.size) undef,defers:=[]} w F φL:=by
  refine⟨λs x hs=>?_,λb c hc=>?_,λb b' c c' g h1 h2 h3 h4=>?_,hR.ro,Kept.refl _ _,λ_ h=>h,λ_ h=> .inl h,rfl,by simp;omega,λg x hg=>hR.bZ g x (by rw[hG];exact hg),λb p hp=>?_⟩
  . obtain⟨_,h2,rfl⟩:=zdx _ 0 s x hs;rw[xy,z7p]at h2;rw[yo,z90 upN args s h2];refine⟨vs.getD s undef, ?_,zi9 hφ (z8z (z5i va h2)) (z69 oa h2) (hv s h2)⟩;rw[Array.getElem?_append_left ac,y7 ac,xb,y7 ac,yq]
  . obtain⟨b0,c0,rfl,rfl,h3⟩:=asl hc;obtain⟨o1,o2⟩:=arv okA h3;exact znj hφ o1 o2 ((hR.heap b0 c0 h3).here λg hg=> .inr ⟨b0,c0,h3,hg⟩)
  . obtain⟨b0,c0,rfl,rfl,q1⟩:=asl h1;obtain⟨b1,c1,rfl,rfl,q2⟩:=asl h2;rw[hφ _ (arv okA q1).1]at h3;rw[hφ _ (arv okA q2).1]at h4;rw[hR.inj b0 b1 c0 c1 g q1 q2 h3 h4]
  . have hp:(if 1099511627776<=b/\ari H (b - 1099511627776)=true then some (φL b)else none)=some p:=hp;split at hp
    . rename_i q;cases hp;refine⟨q.1,rfl,λc hc=>?_⟩;obtain⟨b0,c0,rfl,rfl,h3⟩:=asl hc;have :=q.2;unfold upN ari at this;rw[Nat.add_sub_cancel_left,h3]at this;cases c0 with
      |cell=>rfl
      |row=>cases this
    . cases hp
 refine calls_of_wp hf hb (wp_mono (z98 hT hCC c _ _ _ _ _ _ h h0) ?_);rintro e a2 w2 ⟨st2,F2,φ2,h2,hq⟩;obtain⟨he,hle⟩:(e= .normal∨e= .ret)/\st2.mv ⟨[],ark H'⟩:=by
  cases e with
  |normal=>exact⟨.inl rfl,hq.2⟩
  |ret=>exact⟨.inr rfl,hq.2⟩
  |_=>exact hq.elim
 obtain⟨φ3,h3⟩:=h2.weaken hle;have keep:∀ k,F k ->w2.heap[k]? =w.heap[k]? :=λk hk=>h3.base.block k (hR.ro k hk) λq=>(hR.dj q).2.1 hk;have cell:∀ b,ari H b=true ->φ3 (upN b)=φ b:=λb hb=>by
  have q:=(h3.gY (upN b) (φL (upN b)) (x9 ⟨Nat.le_add_right _ _,by rw[show upN b - 1099511627776=b from Nat.add_sub_cancel_left ..];exact hb⟩)).2.1;rw[q];show φ (upN b - _)=_;unfold upN;rw[Nat.add_sub_cancel_left]
 let φ4:Nat ->Place:=λb=>if ars b=true then φ3 (upN b)else φ b
 have h4:∀ b,ars b=true ->φ3 (upN b)=φ4 b:=λb hb=>(x9 hb).symm;have low:∀ b,ari H b=true ->ars b=true:=λb hb=>by
  unfold ari at hb;split at hb
  . rename_i q;exact(arv okA q).1
  . cases hb
 have hm:∀ b,ari H b=true ->φ4 b=φ b:=λb hb=>(h4 b (low b hb)).symm.trans (cell b hb);have own:∀ g,Own ⟨env,H⟩ φ g ->g<w.heap.size/\¬ F g/\E.B g:=λg hg=>hR.dj hg;have fin:Rel C E F0 ⟨as0 (ari H') env,H'⟩ a w2 F2 φ4:=by
  refine⟨λs x hs=>?_,λb c hc=>?_,λb b' c c' g q1 q2 q3 q4=>?_,h3.ro,hR.base.trans h3.base λi q hi=>(own i q).2.2.resolve_left (Nat.not_le.2 hi),λk hk=>h3.sub k (hR.sub k hk),λk hk=>?_,hR.cW,hR.fW,λg x hg=>(hR.bZ g x hg).keep keep h3.sub,λb p hp=>?_⟩
  . obtain⟨y,hy,q |rfl⟩:=avv hs
    . obtain⟨rfl,ok⟩:=q;obtain⟨v,v1,v2⟩:=hR.env s y hy;exact⟨v,v1,awf keep h3.sub (λb hb=>hm b (avz ci hb)) ok v2⟩
    . obtain⟨v,v1,_⟩:=hR.env s y hy;exact⟨v,v1, .gD false (λh=>by cases h) λ_=> .inr rfl⟩
  . obtain⟨o1,o2⟩:=arv okB hc;exact(awc h4 o1 o2 (h3.heap _ _ (asx hc))).base λk hk=>hk.elim (λq=> .inl (y6 hR.base.size q)) λq=>(own k q).2.2
  . rw[<- h4 b (arv okB q1).1]at q3;rw[<- h4 b' (arv okB q2).1]at q4;have :=h3.inj _ _ _ _ g (asx q1) (asx q2) q3 q4;unfold upN at this;omega
  . rcases h3.new k hk with q |q |q
    . exact hR.new k q
    . exact .inr (.inl (y6 hR.base.size q))
    . exact .inr (own k q).2.2
  . obtain⟨q1,q2,q3⟩:=hR.gY b p hp;have nb:ars b=false:=by rw[<- gk];intro q;have :=wv q;omega
    refine⟨q1,(x8 (by rw[nb];decide)).trans q2,λc hc=>?_⟩;rw[(arv okB hc).1]at nb;cases nb
 have hr:fn.results.toList=[]:=List.isEmpty_iff.1 hres;have res:=z8k (C:=V.C) (a:=a2) (w:=w2) (fn:=fn) (vs:=[]) (by rw[hr];rfl);rcases he with rfl |rfl<;>exact⟨h3.cW,_,res,_,F2,φ4,rfl,fin⟩
end Go.AV
namespace Go.Proofs.S25
open Go Go.AV
open Go.IntKind renaming i64 -> j6
open Go.AV.Shape (leaf)
noncomputable section
variable (g:Int ->Int) (p:aj) (c:bq) (s:ah) (l:List Int)
def cnd (n:Nat):Int:=if n<s.ag.length then g (s.ag.getD (s.ag.length - 1 - n) aD).aC else(s.af.getD (n - s.ag.length) au).id
def ard (a:Int):List Int:=if(eLb p c s a).2=true then l++[a]else l
def agN (g:Int ->Int) (p:aj) (c:bq) (s:ah):Nat ->List Int
 |0=>[]
 |n+1=>ard p c s (agN g p c s n) (cnd g s n)
def agA:List Int:=agN g p c s (s.ag.length+s.af.length)
def eS (t:Int):Int:= -t - 1
abbrev av0:aw:= .row 3 .leaf l.length λj=> .int .i64 (l.getD j 0)
def clH:List (Nat×aw):=[(5,fJ s),(7,sL p c),(9, .cell 31 .leaf (.own 18 l.length)),(18,av0 l)]
def oYd:FuncId ->List AV ->Option AV
 |33,_=>some (.ax [pL (c5 p c) (cc p c), .int .i64 (bV p c)])
 |37,[_,_, .int _ a]=>some (.ax [dg (xLb p c s a).1, .bool (xLb p c s a).2])
 |29,[_,_,_, .int _ a]=>some (.ax [dg (eLb p c s a).1, .bool (eLb p c s a).2])
 |48,[.int _ t]=>some (.int .i64 (dr t))
 |_,_=>none
def awm:FuncId ->List AV ->List (Nat×aw) ->Option (List (Nat×aw))
 |47,[.int _ a,_,_,_],H=>match AV.get H 18 with
  |some (.row _ _ n f)=>some (clH (c5 p c) (cc p c) s (ard p c s (dR dI (.seq .leaf n f)) a))
  |_=>none
 |_,_,_=>none
def vYd (p:aj) (c:bq) (s:ah) (n:Nat) (I:Nat ->Option Inv):bj:={C:={dc n (λ_ _=>false)with clh:=awm p c s},CC:=aL Tryz.prog GG,bb:=λ_ _=>oYd p c s,inv:=I}
def avt:Code:=(Tryz.f47.body).getD .skip
def agS:St:=⟨[],ark (clH p c s l)⟩
def aw0 (p:aj) (c:bq) (s:ah) (l:List Int) (a:Int):Prop:=cO (vYd p c s 19 λ_=>none) avt ⟨z87 0 (AV.me upN [.int .i64 a, .ptr 7 [], .ptr 5 [], .ptr 9 []]),ark (clH p c s l)⟩ (some (True,agS p c s (ard p c s l a))) none (some (True,agS p c s (ard p c s l a)))
def agE (n:List (Nat×AV)):List (Nat×AV):=[(5, .ptr 5 []),(7, .ptr 7 []),(9, .ptr 9 []),(10, .cI 47 [.ptr 7 [], .ptr 5 [], .ptr 9 []])]++n
def awo (k:Nat):Option Inv:=match Nat.beq k 7 with
 |true=>iw s.ag.length (λi=>⟨agE [(11, .int .i64 (s.ag.length - 1 - i))],clH p c s (agN dr p c s i)⟩) λi=>bV p c=0
 |false=>match Nat.beq k 11 with
  |true=>iw s.af.length (λi=>⟨agE [(41,aK s.af),(42, .int .i64 s.af.length),(43, .int .i64 i)],clH p c s (agN dr p c s (s.ag.length+i))⟩) λi=>bV p c=0
  |false=>none
def aw6 (k:Nat):Option Inv:=match Nat.beq k 3 with
 |true=>iv s.ag.length λi=>⟨[(3, .ptr 3 []),(4, .ptr 4 []),(5, .ptr 5 []),(7, .own 43 (agN eS p c s i).length),(8, .int .i64 (s.ag.length - 1 - i))],[(3,jO p),(4,akd c),(5,fJ s),(43,av0 (agN eS p c s i))]⟩
 |false=>match Nat.beq k 10 with
  |true=>iv s.af.length λi=>⟨[(3, .ptr 3 []),(4, .ptr 4 []),(5, .ptr 5 []),(7, .own 43 (agN eS p c s (s.ag.length+i)).length),(12, .int .i64 i)],[(3,jO p),(4,akd c),(5,fJ s),(43,av0 (agN eS p c s (s.ag.length+i)))]⟩
  |false=>none
end
end Go.Proofs.S25
