import Derived.Test.YtcfagpelpjdmaaaGreatDoorXy
namespace Go.Proofs.S25
open Go Go.AV
open Go.IntKind renaming i64 -> j6
open Go.AV.Shape (leaf)
noncomputable section
variable {sh:Shape} (l:List cg) (p:aj) (b:Int) (s:ah) (i:Nat) (a:Int) (k:Nat)
theorem z12 {p:aj} {b:Int} {s:ah}:dy p b s=true↔fc p s.mem=true/\s.ag.length=s.af.length/\∀ j,j<s.af.length ->lD p b s.af j/\wS p (s.af.getD j au) (s.ag.getD j aD)=true:=by
 unfold dy;rw[xa,xa,xa,z9k,xo,yy];simp only[yu];constructor
 . rintro⟨i,h,f,k⟩;exact⟨i,h,λj e=>⟨f j e,k j e⟩⟩
 . rintro⟨i,h,f⟩;exact⟨i,h,λj e=>(f j e).1,λj e=>(f j e).2⟩
theorem qG {p:aj} {t:aF} {b:cg}:wS p t b=true↔c6 b=true/\b.aC=t.id/\∀ j,j<b.entries.length ->(b.entries.getD j cw).var<p.vars.length:=by
 unfold wS;rw[xa,xa,xo,oY _ _ cw];grind
theorem zu1 (l:List Int):AV.le [] [] (ab l) (ab l):=eq
theorem leM (m:Mem):AV.le [] [] (ao m) (ao m):=⟨zu1 _,zu1 _,eq,zu1 _,trivial⟩
theorem leN:AV.le [] [] (fY s) (cj (bX s)):=⟨rfl,eq,leM _,rfl,trivial⟩
theorem cK.sc {s:ah} (h:cK s):cK (bX s):=⟨h.af,h.ok,h.mem,xp _,λ_=>xp _⟩
theorem ahl (e:bG p) (hs:cK s):KN 62 [vP p,fY s,co a] (.ax [dg (bA p (bX s) a).1, .bool (bA p (bX s) a).2]):=
 (ak3 p (bX s) a e hs.sc).weaken (by rfl) ⟨mv p,leN s,eq,trivial⟩
theorem aeg (e:bG p) (hs:cK s):KN 58 [vP p,fY s] (ab (cY p (bX s))):=
 (acy p (bX s) e hs.sc).weaken (by rfl) ⟨mv p,leN s,trivial⟩
theorem Qw (k:Int):KN 172 [pS s k] (fY s):=by
 refine Kn (qW lX s k.toNat aH 10 λ_=>none) Tryz.func172 (LT (aK s.af)/\LT (ao s.mem)) ?_;simp only[SZ]
theorem zqq (e:uQ s k):KN 183 [pS s k] (.ax [vT (s.af.getD k au),vB (s.ag.getD k aD)]):=by
 refine Kn (qW lX s k aH 18 λ_=>none) Tryz.func183 (ai (↑k) s.af.length/\ai (↑k) s.ag.length/\LS (aq (s.af.getD (↑k:Int).toNat au)) (aq (s.af.getD k au))/\LS (aB (s.ag.getD (↑k:Int).toNat aD)) (aB (s.ag.getD k aD))) ?_;simp only[SZ];exact e
section
variable (s:ah) (k:Nat) (v:Int)
def XY:Int:=(gC (s.ag.getD k aD) v).fst
def qqj:Int×Bool:=(gC (s.ag.getD k aD) v).snd
def ZP:Int:=(qqj s k v).fst
def Bn:=(qqj s k v).snd
end
theorem zxm (v:Int) (hs:cK s) (e:uQ s k):KN 238 [pS s k,co v] (.ax [co (gQ s k v).1,co (gQ s k v).2]):=by
 refine Kn (qW lX s k aH 37 λ_=>none) Tryz.func238 (KN 183 [AV.mc l8 (AV.agg [ze s,co ↑k])] (AV.ax [AV.mc zk (aq (s.af.getD k au)),AV.mc cz (aB (s.ag.getD k aD))])/\KN 268 [AV.mc cz (aB (s.ag.getD k aD)),co v] (AV.ax [co (XY s k v),co (ZP s k v),AV.bool (Bn s k v)])/\(Bn s k v=true->XY s k v=(gQ s k v).fst/\ZP s k v=(gQ s k v).snd)/\(Bn s k v=false->KN 175 [AV.mc zm (ao s.mem),co v] (AV.ax [co (gT s.mem v).fst,co (gT s.mem v).snd])/\(gT s.mem v).fst=(gQ s k v).fst/\-1=(gQ s k v).snd)) ?_;try delta XY qqj ZP Bn
 try simp only[SZ]
 refine⟨zqq s k e,al6 _ _ (hs.cE k),λh=>?_,λh=>⟨zpx _ _ hs.mem, ?_⟩⟩
 . unfold gQ;rw[x9 h];exact eq
 . unfold gQ;rw[x8 (by rw[h];simp)];exact eq
section
variable (s:ah) (k:Nat)
def Pj:=0=(cD s k).fst.ord
def L5:=0=(cD s k).fst.read
def UD:=↑(s.ag.getD k aD).entries.length==(0:Int)
def IM:=ai 0 (s.ag.getD k aD).entries.length
def Q9:cZ:=(s.ag.getD k aD).entries.getD (Int.toNat 0) cw
end
theorem aht (hs:cK s) (f:uQ s k) (i:0<=(s.af.getD k au).id):KN 181 [pS s k] (.ax [dg (cD s k).1, .bool (cD s k).2]):=by
 refine Kn (qW lX s k aH 34 λ_=>none) Tryz.func181 (KN 183 [AV.mc l8 (AV.agg [ze s,co ↑k])] (AV.ax [AV.mc zk (aq (s.af.getD k au)),AV.mc cz (aB (s.ag.getD k aD))])/\↑(s.ag.getD k aD).entries.length<=(9223372036854775807:Int)/\(UD s k=true->(0=(cD s k).fst.aG/\0=(cD s k).fst.idx/\0=(cD s k).fst.kind/\0=(cD s k).fst.obj/\0=(cD s k).fst.mutex/\0=(cD s k).fst.entry/\Pj s k/\L5 s k/\0=(cD s k).fst.wrote)/\false=(cD s k).snd)/\(UD s k=false->KN 48 [co (s.af.getD k au).id] (co (dr (s.af.getD k au).id))/\IM s k/\IM s k/\(dr (s.af.getD k au).id=(cD s k).fst.aG/\(s.ag.getD k aD).first=(cD s k).fst.idx/\4=(cD s k).fst.kind/\(Q9 s k).var=(cD s k).fst.obj/\-1=(cD s k).fst.mutex/\(s.ag.getD k aD).first=(cD s k).fst.entry/\Pj s k/\L5 s k/\(Q9 s k).val=(cD s k).fst.wrote)/\true=(cD s k).snd)) ?_;try delta Pj L5 UD IM Q9
 simp only[SZ];have h:=hs.cE k;refine⟨zqq s k f,ac,λh=>?_,λh=>⟨aci _ ⟨?_,(hs.ok k).id⟩,ey,ey, ?_⟩⟩
 . have e:cD s k=(aH,false):=by unfold cD;rw[x9 ac]
   rw[e];exact eq
 . omega
 . have e:cD s k=(⟨dr (s.af.getD k au).id,(s.ag.getD k aD).first,4,((s.ag.getD k aD).entries.getD 0 cw).var,-1,(s.ag.getD k aD).first,0,0,((s.ag.getD k aD).entries.getD 0 cw).val⟩,true):=by unfold cD;rw[x8 ac]
   rw[e];exact eq
theorem zxn {p:aj} {s:ah} {k:Nat} (h:cH p (s.af.getD k au)=false):c8 p s k=(aH,false):=by unfold c8;rw[x9 h]
theorem zhn {p:aj} {s:ah} {k:Nat} (h:cH p (s.af.getD k au)=true) (e:(zg p (s.af.getD k au)).op=8∨(zg p (s.af.getD k au)).op=14):c8 p s k=(⟨(s.af.getD k au).id,(s.af.getD k au).steps,if(zg p (s.af.getD k au)).op=14 then 8 else 1,(zg p (s.af.getD k au)).obj,-1,(gQ s k (zg p (s.af.getD k au)).obj).2,(zg p (s.af.getD k au)).ord,(gQ s k (zg p (s.af.getD k au)).obj).1,0⟩,true):=by
 unfold c8;rw[x8 (by rw[h];simp),x9 e]
theorem zqr {p:aj} {s:ah} {k:Nat} (h:cH p (s.af.getD k au)=true) (e:(zg p (s.af.getD k au)).op=9):c8 p s k=(⟨(s.af.getD k au).id,(s.af.getD k au).steps,3,(zg p (s.af.getD k au)).obj,-1,(s.ag.getD k aD).first+(s.ag.getD k aD).entries.length,(zg p (s.af.getD k au)).ord,0,bz (s.af.getD k au) (zg p (s.af.getD k au)).b⟩,true):=by
 unfold c8;rw[x8 (by rw[h];simp),x8 ac,x9 e]
theorem zqs {p:aj} {s:ah} {k:Nat} (h:cH p (s.af.getD k au)=true) (i:¬(zg p (s.af.getD k au)).op=8) (f:¬(zg p (s.af.getD k au)).op=14) (e:¬(zg p (s.af.getD k au)).op=9):c8 p s k=bA p (bX s) (s.af.getD k au).id:=by
 unfold c8;rw[x8 (by rw[h];simp),x8 ac,x8 e]
section
variable (s:ah) (k:Nat)
def YI:=AV.mc l8 (AV.agg [ze s,co ↑k])
def EZ:List AV:=[YI s k]
end
section
variable (p:aj) (s:ah) (k:Nat)
def Pq:=0=(c8 p s k).fst.read
def Nn:=0=(c8 p s k).fst.wrote
def ZF:Int:=(gQ s k (zg p (s.af.getD k au)).obj).fst
def U1:Int:=(gQ s k (zg p (s.af.getD k au)).obj).snd
def LX:=KN 238 [YI s k,co (zg p (s.af.getD k au)).obj] (AV.ax [co (ZF p s k),co (U1 p s k)])
def qqk:=(s.af.getD k au).id=(c8 p s k).fst.aG
def qql:=(s.af.getD k au).steps=(c8 p s k).fst.idx
def QJ:=(zg p (s.af.getD k au)).obj=(c8 p s k).fst.obj
def O7:=-1=(c8 p s k).fst.mutex
def UZ:=(zg p (s.af.getD k au)).ord=(c8 p s k).fst.ord
def V2:=QJ p s k/\O7 p s k/\U1 p s k=(c8 p s k).fst.entry/\UZ p s k/\ZF p s k=(c8 p s k).fst.read/\Nn p s k
def qdz:=(zg p (s.af.getD k au)).op==14
def LV:=qdz p s k=true
def L4:=qdz p s k=false
def IB:=(LV p s k->LX p s k/\(qqk p s k/\qql p s k/\8=(c8 p s k).fst.kind/\V2 p s k)/\true=(c8 p s k).snd)/\(L4 p s k->LX p s k/\(qqk p s k/\qql p s k/\1=(c8 p s k).fst.kind/\V2 p s k)/\true=(c8 p s k).snd)
def Zi:=(zg p (s.af.getD k au)).op==8
def Tb:=Zi p s k=true
def E7:Int:=(s.ag.getD k aD).first+↑(s.ag.getD k aD).entries.length
def LU:=(zg p (s.af.getD k au)).op==9
def oD:=AV.mc aM (AV.agg [aK s.af,ao s.mem,AV.aA])
def IG:=bP (bA p (bX s) (s.af.getD k au).id).fst
def Jm:=(bA p (bX s) (s.af.getD k au).id).snd
def Rp:=(LU p s k=true->ai (zg p (s.af.getD k au)).b 8/\↑(s.ag.getD k aD).entries.length<=(9223372036854775807:Int)/\aU j6 (E7 s k)/\(qqk p s k/\qql p s k/\3=(c8 p s k).fst.kind/\QJ p s k/\O7 p s k/\E7 s k=(c8 p s k).fst.entry/\UZ p s k/\Pq p s k/\(s.af.getD k au).az.getD (zg p (s.af.getD k au)).b.toNat 0=(c8 p s k).fst.wrote)/\true=(c8 p s k).snd)/\(LU p s k=false->KN 172 (EZ s k) (oD s)/\KN 62 [AV.mc z7 (ak p),oD s,co (s.af.getD k au).id] (AV.ax [AV.mc bp (IG p s k),AV.bool (Jm p s k)])/\LS (IG p s k) (bP (c8 p s k).fst)/\Jm p s k=(c8 p s k).snd)
def KB:=Zi p s k=false
end
theorem ak6 (hp:bG p) (hs:cK s) (hk:uQ s k) (hv:fc p s.mem=true) (hb:c6 (s.ag.getD k aD)=true):KN 182 [pS s k,vP p] (.ax [dg (c8 p s k).1, .bool (c8 p s k).2]):=by
 refine Kn (qW p s k aH 79 λ_=>none) Tryz.func182 (KN 183 (EZ s k) (AV.ax [AV.mc zk (aq (s.af.getD k au)),AV.mc cz (aB (s.ag.getD k aD))])/\KN 104 [AV.mc z7 (ak p),AV.mc zk (aq (s.af.getD k au))] (AV.ax [AV.mc zy (encI (zg p (s.af.getD k au))),AV.bool (cH p (s.af.getD k au))])/\((!cH p (s.af.getD k au))=true->(0=(c8 p s k).fst.aG/\0=(c8 p s k).fst.idx/\0=(c8 p s k).fst.kind/\0=(c8 p s k).fst.obj/\0=(c8 p s k).fst.mutex/\0=(c8 p s k).fst.entry/\0=(c8 p s k).fst.ord/\Pq p s k/\Nn p s k)/\false=(c8 p s k).snd)/\((!cH p (s.af.getD k au))=false->(Tb p s k->(Tb p s k->IB p s k)/\(KB p s k->Rp p s k))/\(KB p s k->(LV p s k->IB p s k)/\(L4 p s k->Rp p s k)))) ?_;try delta YI EZ Pq Nn ZF U1 LX qqk qql QJ O7 UZ V2 qdz LV L4 IB Zi Tb E7 LU oD IG Jm Rp KB
 simp only[SZ];have hr:=((z21 _).1 hb).1;refine⟨zqq s k hk,ztj p _ hp (hs.ok k),λh=>?_,λh=>?_⟩
 . rw[zxn h];exact eq
 have⟨k1,k2⟩:=zaa hp (hs.ok k) hv h;rw[<- k2]at k1;have hS:=zxm s k (zg p (s.af.getD k au)).obj hs hk;have hL:KN 172 [pS s k] (fY s)/\_:=⟨Qw s k,ahl p s (s.af.getD k au).id hp hs⟩;refine⟨λh8=>⟨λ_=>⟨λh14=>ac,λh14=>⟨hS, ?_⟩⟩,λhn=>absurd h8 hn⟩,λh8=>⟨λh14=>⟨λ_=>⟨hS, ?_⟩,λhn=>absurd h14 hn⟩,λh14=>⟨λh9=>⟨k1.b ac,ac,dl, ?_⟩,λh9=>⟨hL.1,hL.2, ?_⟩⟩⟩⟩
 . rw[zhn h (.inl h8),x8 h14];exact eq
 . rw[zhn h (.inr h14),x9 h14];exact eq
 . rw[zqr h h9];exact eq
 . rw[zqs h h8 h14 h9];exact eq
section
variable (s:ah) (a:Int)
def qx:Int:=max (aV s.af (b7 a)) 0
def nQ:=decide (0<=aV s.af (b7 a))
end
theorem adw (hs:cK s) (e:jS a):KN 107 [cj s,co a] (.ax [pS s (max (aV s.af (b7 a)) 0), .bool (decide (0<=aV s.af (b7 a)))]):=by
 refine Kn (qW lX s 0 aH 20 λ_=>none) Tryz.func107 (KN 179 [co a] (co (b7 a))/\KN 119 [aK s.af,co (b7 a)] (AV.ax [co (qx s a),AV.bool (nQ s a)])/\(LT (ze s)/\RR (qx s a))/\RR (nQ s a)) ?_;try delta qx nQ
 simp only[SZ];exact⟨aod a e,XA _ _ hs.af hs.r8⟩
theorem zu2 {p:aj} {m:Mem} (h:fc p m=true):(zc p).1=0:=by grind[fc]
section
variable (p:aj)
def Hr:=(zc p).fst==0
def QZ:=!Hr p
def qqm:=(!QZ p)=true
def qe1:=qqm p->qqm p
variable (s:ah)
def NJ:=QZ p||!fc p s.mem
def qim:=(!NJ p s)=true
def Bo:=qim p s->qim p s
def Ru:=NJ p s||(↑s.ag.length:Int) !=(↑s.af.length:Int)
end
section
variable (p:aj) (b:Int) (s:ah) (x3:Nat)
def qqn:=∀ j:Nat,j<x3->lD p b s.af j/\wS p (s.af.getD j au) (s.ag.getD j aD)=true
def Bu:=x3<=s.af.length/\fc p s.mem=true/\s.ag.length=s.af.length/\qqn p b s x3
def Es:=gV p b (dT (aq (s.af.getD (↑x3:Int).toNat au)))
def qin:=!Es p b s x3
def qio:=!qin p b s x3
def B4:=qio p b s x3=true
def oq:=B4 p b s x3->B4 p b s x3
def nC:=(qio p b s x3&&nI x3)=true
def qh:=nC p b s x3->nC p b s x3
def wJ:=qin p b s x3||nI x3&&decide ((s.af.getD (↑x3:Int).toNat au).id<=(s.af.getD ((↑x3:Int) - 1).toNat au).id)
def qqo:=(!wJ p b s x3)=true
def qqp:=qqo p b s x3->qqo p b s x3
variable (x1:Nat)
def Xq:=c6 (dB (aB (s.ag.getD (↑x1:Int).toNat aD)))
def Ft:=wJ p b s x3||!Xq s x3
def N9:=(!Ft p b s x3)=true
def qe3:=N9 p b s x3->N9 p b s x3
def Dh:=Ft p b s x3||(s.ag.getD (↑x3:Int).toNat aD).aC !=(s.af.getD (↑x3:Int).toNat au).id
def Ei:Int:=(↑(s.ag.getD (↑x1:Int).toNat aD).entries.length:Int)
variable (x4:Nat)
def Bm:=x4<=(s.ag.getD x3 aD).entries.length/\x3<s.af.length/\fc p s.mem=true/\s.ag.length=s.af.length/\qqn p b s x3/\lD p b s.af x3/\c6 (s.ag.getD x3 aD)=true/\(s.ag.getD x3 aD).aC=(s.af.getD x3 au).id/\∀ j:Nat,j<x4->((s.ag.getD x3 aD).entries.getD j cw).var<↑p.vars.length
end
section
variable (p:aj) (s:ah) (x2:Nat) (x3:Nat)
def ZW:=decide ((↑p.vars.length:Int)<=((s.ag.getD x2 aD).entries.getD (↑x3:Int).toNat cw).var)
end
section
variable (s:ah) (x1:Nat) (x2:Nat)
def qe5:Nat:=(s.ag.getD x1 aD).entries.length - x2
def Y4:=decide ((↑x2:Int)<(↑(s.ag.getD x1 aD).entries.length:Int))
end
theorem z124 (f:bG p) (hs:cK s):KN 101 [vP p,co b,cj s] (.bool (dy p b s)):=by
 refine Kn {qW p s 0 aH 92 (ahv p b s)with sF:=zxj p b s} Tryz.func101 (KN 168 [AV.mc z7 (ak p)] (AV.bool (Hr p))/\qe1 p/\qe1 p/\qe1 p/\(qqm p->KN 169 [AV.mc z7 (ak p),AV.mc zm (ao s.mem)] (AV.bool (fc p s.mem)))/\qe1 p/\qe1 p/\Bo p s/\Bo p s/\(qim p s->↑s.ag.length<=(9223372036854775807:Int))/\Bo p s/\Bo p s/\(qim p s->oh s)/\Bo p s/\Bo p s/\Bo p s/\(Ru p s=true->false=dy p b s)/\(Ru p s=false->oh s/\(∃ i,Bu p b s i/\(RR b/\LT (aK s.af)/\RR (↑s.af.length:Int)/\0=(↑i:Int))/\LT (ak p)/\LT (ze s))/\∀ i:Nat,Bu p b s i->(qc s i=true->ai (↑i) s.af.length/\ai (↑i) s.ag.length/\KN 170 [AV.mc z7 (ak p),co b,AV.mc zk (aq (s.af.getD (↑i:Int).toNat au))] (AV.bool (Es p b s i))/\oq p b s i/\oq p b s i/\qh p b s i/\qh p b s i/\(nC p b s i->aU j6 (qg i))/\qh p b s i/\qh p b s i/\(nC p b s i->ai (qg i) s.af.length)/\qh p b s i/\qh p b s i/\qh p b s i/\qh p b s i/\qh p b s i/\oq p b s i/\(B4 p b s i->nI i=true->nC p b s i)/\oq p b s i/\qqp p b s i/\(qqo p b s i->KN 171 [AV.mc cz (aB (s.ag.getD (↑i:Int).toNat aD))] (AV.bool (Xq s i)))/\qqp p b s i/\qqp p b s i/\qe3 p b s i/\qe3 p b s i/\qe3 p b s i/\qe3 p b s i/\qe3 p b s i/\(Dh p b s i=true->false=dy p b s)/\(Dh p b s i=false->Ei s i<=9223372036854775807/\(∃ p_1,(∃ ar,Bm p b s p_1 ar/\(RR b/\LT (aK s.af)/\RR (↑s.af.length:Int)/\(↑i:Int)=(↑p_1:Int)/\LS (ck (s.ag.getD (↑i:Int).toNat aD).entries) (ck (s.ag.getD p_1 aD).entries)/\Ei s i=(↑(s.ag.getD p_1 aD).entries.length:Int)/\0=(↑ar:Int))/\LT (ak p)/\LT (ze s))/\∀ (ar:Nat),Bm p b s p_1 ar->(Y4 s p_1 ar=true->ai (↑ar:Int) (s.ag.getD p_1 aD).entries.length/\(↑p.vars.length:Int)<=9223372036854775807/\(ZW p s p_1 ar=true->false=dy p b s)/\(ZW p s p_1 ar=false->qa ar/\∃ j,Bm p b s p_1 j/\qe5 s p_1 j<qe5 s p_1 ar/\(RR b/\LT (aK s.af)/\RR (↑s.af.length:Int)/\RR (↑p_1:Int)/\LT (ck (s.ag.getD p_1 aD).entries)/\RR (↑(s.ag.getD p_1 aD).entries.length:Int)/\qb ar j)/\LT (ak p)/\LT (ze s)))/\(Y4 s p_1 ar=false->qa p_1/\∃ j,Bu p b s j/\s.af.length - j<s.af.length - i/\(RR b/\LT (aK s.af)/\RR (↑s.af.length:Int)/\qb p_1 j)/\LT (ak p)/\LT (ze s)))))/\(qc s i=false->true=dy p b s))) ?_;try delta Hr QZ qqm qe1 NJ qim Bo oh Ru qqn Bu Es qin qio B4 oq nI nC qh qg wJ qqo qqp Xq Ft N9 qe3 Dh Ei Bm ZW q9 qa qe5 qb Y4 qc
 simp only[SZ];have h1:=hs.af;have h2:=hs.ag;have h3:=f.vars;have eT:∀ i,dT (aq (s.af.getD i au))=s.af.getD i au:=λi=>jJ _ (hs.ok i).az;simp only[eT];refine⟨zox p f,λ_=>aa2 p s.mem f hs.mem,λ_=>ac,λ_=>ac,λh=>fC λhv=>?_,λh=>⟨ac,⟨0,⟨ac,h.1.2,ac,λj hj=>ac⟩,rfl⟩,λi hi=>⟨λhlt=>⟨hlt,ac,zj8 p b _ f (hs.ok i),λ_=>dl,λ_=>ac,λ_=>zty _ (hs.cE i),λh=>fC λhv=>?_,λh=>⟨by have :=hs.cE i;omega,i,⟨0,⟨ac,hlt,hi.2.1,hi.2.2.1,hi.2.2.2,⟨h.1.1.1,λh0=>?_⟩,h.1.2,h.2,λj hj=>ac⟩,rfl,eq,rfl,rfl⟩,λq hq=>⟨λhlt2=>⟨hlt2,ac,λhn=>fC λhv=>?_,λhn=>⟨za (by have :=hs.cE i;omega) (by have :=hs.cE i;omega),q+1,⟨ac,hlt,hq.2.2.1,hq.2.2.2.1,hq.2.2.2.2.1,hq.2.2.2.2.2.1,hq.2.2.2.2.2.2.1,hq.2.2.2.2.2.2.2.1,λj hj=>?_⟩,ac,ac⟩⟩,λhge=>⟨dl,i+1,⟨ac,hi.2.1,hi.2.2.1,λj hj=>?_⟩,ac,ac⟩⟩⟩⟩,λhge=>?_⟩⟩⟩
 . have⟨v1,v2,_⟩:=z12.1 hv;rcases h with(h |h) |h
   . exact h (zu2 v1)
   . grind
   . omega
 . have⟨v1,v2⟩:=(z12.1 hv).2.2 i hlt;have⟨b1,b2,_⟩:=qG.1 v2;rcases h with((h | ⟨h,h'⟩) |h) |h
   . rw[v1.1]at h;cases h
   . have :=v1.2 ac;rw[show((i:Int) - 1).toNat=i - 1 from ac]at h';omega
   . rw[b1]at h;cases h
   . exact h b2
 . simp_all
 . have :=(qG.1 ((z12.1 hv).2.2 i hlt).2).2.2 q hlt2;omega
 . by_cases e:j=q
   . subst e;omega
   . exact hq.2.2.2.2.2.2.2.2 j ac
 . by_cases e:j=i
   . subst e;exact⟨hq.2.2.2.2.2.1,qG.2 ⟨hq.2.2.2.2.2.2.1,hq.2.2.2.2.2.2.2.1,λj hj=>hq.2.2.2.2.2.2.2.2 j ac⟩⟩
   . exact hi.2.2.2 j ac
 . exact aay λhv=>Bool.noConfusion (hv.symm.trans (z12.2 ⟨hi.2.1,hi.2.2.1,λj hj=>hi.2.2.2 j ac⟩))
section
variable (p:aj) (s:ah) (k:Nat)
def QT:=(!Zi p s k)=true
def qqq:=QT p s k->QT p s k
def U4:=Zi p s k||(zg p (s.af.getD k au)).op==9
def Ek:=co (ZF p s k)
def Pz:=ai (zg p (s.af.getD k au)).b 8
def qqr:Int:=(s.af.getD k au).az.getD (zg p (s.af.getD k au)).b.toNat 0
def HY:List AV:=[co (qqr p s k)]
def KU:Int×Int:=app (zg p (s.af.getD k au)).fn (ZF p s k) (qqr p s k)
def KM:Int:=(KU p s k).fst
def Qi:Int:=(KU p s k).snd
def NF:=Qi p s k==0
def SU:=NF p s k=true
def Di:=SU p s k->SU p s k
def qqs:=pU (zg p (s.af.getD k au)).op=true
def qip:=qqs p s k->qqs p s k
def HX:=pU (zg p (s.af.getD k au)).op&&decide ((0:Int)<↑(s.ag.getD k aD).entries.length)
def qqt:=(!HX p s k)=true
def jr:=qqt p s k->qqt p s k
variable (on:List Int)
def Le:=aW (zw on.length λi=>co (on.getD i 0)) (s.af.getD k au).id
def Dd:=HX p s k||!Le s k on
def qqu:Int:=max (dz s.ag (qqr p s k)) 0
def qqv:=decide (0<=dz s.ag ((s.af.getD k au).az.getD (zg p (s.af.getD k au)).b.toNat 0))
def qiq:=qqv p s k=true
def ve:=qiq p s k->qiq p s k
def Me:Int:=↑(s.ag.getD (qqu p s k).toNat aD).entries.length
def Iu:=(zg p (s.af.getD k au)).op==22
end
theorem ajl (e:List Int) (f:bG p) (hs:cK s) (i:uQ s k) (o:fc p s.mem=true) (hl:e.length<=1000000):KN 173 [pS s k,vP p,ab e] (.bool (gU p s k e)):=by
 refine Kn (qW p s k aH 112 λ_=>none) Tryz.func173 (KN 183 [YI s k] (AV.ax [AV.mc zk (aq (s.af.getD k au)),AV.mc cz (aB (s.ag.getD k aD))])/\KN 104 [AV.mc z7 (ak p),AV.mc zk (aq (s.af.getD k au))] (AV.ax [AV.mc zy (encI (zg p (s.af.getD k au))),AV.bool (cH p (s.af.getD k au))])/\((!cH p (s.af.getD k au))=true->false=gU p s k e)/\((!cH p (s.af.getD k au))=false->qqq p s k/\qqq p s k/\qqq p s k/\(U4 p s k=true->true=gU p s k e)/\(U4 p s k=false->(qdz p s k=true->KN 238 [YI s k,co (zg p (s.af.getD k au)).obj] (AV.ax [Ek p s k,co (gQ s k (zg p (s.af.getD k au)).obj).snd])/\Pz p s k/\KN 176 (co (zg p (s.af.getD k au)).fn::Ek p s k::HY p s k) (AV.ax [co (KM p s k),co (Qi p s k)])/\Di p s k/\Di p s k/\(NF p s k&&KM p s k !=0)=gU p s k e)/\(qdz p s k=false->KN 239 [co (zg p (s.af.getD k au)).op] (AV.bool (pU (zg p (s.af.getD k au)).op))/\qip p s k/\qip p s k/\(qqs p s k->↑(s.ag.getD k aD).entries.length<=(9223372036854775807:Int))/\qip p s k/\qip p s k/\jr p s k/\jr p s k/\jr p s k/\(qqt p s k->KN 106 [ab e,co (s.af.getD k au).id] (AV.bool (Le s k e)))/\jr p s k/\jr p s k/\(Dd p s k e=true->false=gU p s k e)/\(Dd p s k e=false->(Iu p s k=true->Pz p s k/\KN 188 (bc s.ag::HY p s k) (AV.ax [co (qqu p s k),AV.bool (qqv p s k)])/\ve p s k/\ve p s k/\ve p s k/\ve p s k/\(qiq p s k->ai (qqu p s k) s.ag.length)/\ve p s k/\ve p s k/\ve p s k/\(qiq p s k->Me p s k<=9223372036854775807)/\ve p s k/\ve p s k/\(qqv p s k&&Me p s k==0)=gU p s k e)/\(Iu p s k=false->true=gU p s k e)))))) ?_;try delta YI Zi QT qqq U4 ZF Ek Pz qqr HY KU KM Qi NF SU Di qdz qqs qip HX qqt jr Le Dd qqu qqv qiq ve Me Iu
 simp only[SZ];simp only[oR];have h1:=hs.cE k;have h2:=hs.ag;refine⟨zqq s k i,ztj p _ f (hs.ok k),λh=>?_,λh=>?_⟩
 . unfold gU;rw[x9 h]
 have⟨k1,m⟩:=zaa f (hs.ok k) o h;rw[<- m]at k1;have hS:=zxm s k (zg p (s.af.getD k au)).obj hs i;have u:=zlm s.ag ((s.af.getD k au).az.getD (zg p (s.af.getD k au)).b.toNat 0);refine⟨λh8=>?_,λh8=>⟨λh14=>⟨hS,k1.b ac,wO _ _ _, ?_⟩,λh14=>⟨z105 _,λ_=>ac,λ_=>Q2 _ _ hl,λhd=>?_,λhd=>⟨λh22=>⟨k1.b ac,zql _ _ h2,λh=>ac,λh=>by have :=hs.cE (max (dz s.ag ((s.af.getD k au).az.getD (zg p (s.af.getD k au)).b.toNat 0)) 0).toNat;omega, ?_⟩,λh22=>?_⟩⟩⟩⟩
 . unfold gU;rw[x8 (by rw[h];simp),x9 h8]
 . unfold gU;rw[x8 (by rw[h];simp),x8 ac,x9 h14];rfl
 . unfold gU;rw[x8 (by rw[h];simp),x8 ac,x8 h14,x9];grind
 all_goals
  unfold gU;rw[x8 (by rw[h];simp),x8 ac,x8 h14,x8 (by
   rw[xk,xa,xd,xj];rintro(⟨q1,r⟩ |q)
   . grind
   . rw[hd.2]at q;cases q)]
 . rw[x9 h22];show _=(decide (0<=dz s.ag ((s.af.getD k au).az.getD (zg p (s.af.getD k au)).b.toNat 0))&&_);by_cases j:0<=dz s.ag ((s.af.getD k au).az.getD (zg p (s.af.getD k au)).b.toNat 0)
   . rw[yh j];congr 1;rw[wq,xo,xo];unfold bz;omega
   . rw[decide_eq_false j,j5,j5]
 . rw[x8 h22]
theorem aet (j:0<i) (f:i<=l.length):dY l (i - 1)=dY l i++(if 0<(l.getD (i - 1) aD).entries.length then [dr (l.getD (i - 1) aD).aC]else []):=by
 unfold dY;have e:l.drop (i - 1)=l.getD (i - 1) aD::l.drop i:=by
  rw[List.drop_eq_getElem_cons (show i - 1<l.length by omega),show i - 1+1=i by omega,x7,xe (show i - 1<l.length by omega)];rfl
 by_cases h:0<(l.getD (i - 1) aD).entries.length
 . grind
 . grind
theorem z9m:(dY l i).length<=l.length:=by grind[dY]
theorem zxo:dY l l.length=[]:=by unfold dY;rw[List.drop_length];rfl
theorem zbd:(lu p s i).length<=i:=by grind[lu]
theorem zxp:lu p s (i+1)=lu p s i++(if gU p s i (cY p (bX s))then [(s.af.getD i au).id]else []):=by
 unfold lu;rw[List.range_succ,List.filter_append,List.map_append];simp[List.filter_cons];split<;>rfl
theorem ant {p:aj} {s:ah} {i:Nat} (h:gU p s i (cY p (bX s))=true):jX p s (i+1)=jX p s i++[(s.af.getD i au).id]:=by
 unfold jX;rw[zxp,x9 h,ww]
theorem afk {p:aj} {s:ah} {i:Nat} (h:gU p s i (cY p (bX s))=false):jX p s (i+1)=jX p s i:=by grind[jX,zxp]
theorem zjf:(cY p s).length<=s.af.length:=by grind[cY]
section
variable (s:ah)
def LW:Int:=↑s.ag.length - 1
variable (x1:Nat)
def MR:=(dY s.ag x1).length=0
def FW:=ai (qg x1) s.ag.length
def Rj:cg:=s.ag.getD (qg x1).toNat aD
def Lf:Int:=(Rj s x1).aC
def Gc:=co (dr (Lf s x1))
def qir:Nat:=(dY s.ag x1).length+1
variable (x0:Nat)
def OB:=aU j6 (wP x0)
variable (x2:Nat)
def KK:=qir s x1=(dY s.ag x2).length
end
section
variable (x0:Nat) (x1:Nat)
def JZ:=wP x0=qg x1
end
section
variable (s:ah) (x1:Nat) (x2:Nat)
def Zs:=co ((dY s.ag x1).getD x2 0)
def UI:=decide ((0:Int)<↑(s.ag.getD (↑x1 - (1:Int)).toNat aD).entries.length)
def Mh:=(dY s.ag x1).length=(dY s.ag x2).length
end
section
variable (p:aj) (s:ah) (x2:Nat) (x3:Nat)
def N8:=(dY s.ag x2).length=(jX p s x3).length
def Z8:=co ((jX p s x2).getD x3 0)
def qis:Nat:=(jX p s x2).length+1
def atv:=qis p s x2=(jX p s x3).length
def N5:=(jX p s x2).length=(jX p s x3).length
end
theorem ac2 (hp:bG p) (hs:cK s) {b:Int} (hv:dy p b s=true):KN 102 [vP p,cj s] (ab (dq p s)):=by
 refine Kn (qW p s 0 aH 62 (ahc p s)) Tryz.func102 (KN 172 [AV.mc l8 (AV.agg [ze s,AV.int j6 (0:Int)])] (oD s)/\KN 58 [AV.mc z7 (ak p),oD s] (ab (cY p (bX s)))/\↑s.ag.length<=(9223372036854775807:Int)/\aU j6 (LW s)/\(∃ i,i<=s.ag.length/\(LT (ab (cY p (bX s)))/\MR s i/\LW s=qg i)/\LT (ak p)/\LT (ze s)/\MR s i)/\∀ i:Nat,i<=s.ag.length->(wW i=true->FW s i/\↑(Rj s i).entries.length<=(9223372036854775807:Int)/\(UI s i=true->FW s i/\KN 48 [AV.int j6 (Lf s i)] (Gc s i)/\qr/\(RR (dY s.ag i).length/\↑(qir s i)*↑(8:Nat)<=(140737488355328:Int)/\qir s i<=9223372036854775807)/\qf/\OB i/\(∃ j,j<=s.ag.length/\j<i/\(LT (ab (cY p (bX s)))/\KK s i j/\JZ i j)/\LT (ak p)/\LT (ze s)/\KK s i j/\∀ (ar:Nat),ar<qir s i->(if ar<(dY s.ag i).length then Zs s i ar else(oI.set 0 (av (Gc s i))).getD (ar - (dY s.ag i).length) AV.any)=Zs s j ar))/\(UI s i=false->OB i/\(∃ j,j<=s.ag.length/\j<i/\(LT (ab (cY p (bX s)))/\Mh s i j/\JZ i j)/\LT (ak p)/\LT (ze s)/\Mh s i j/\∀ (ar:Nat),ar<(dY s.ag i).length->Zs s i ar=Zs s j ar)))/\(wW i=false->↑s.af.length<=(9223372036854775807:Int)/\(∃ ar,ar<=s.af.length/\(LT (ab (cY p (bX s)))/\N8 p s i ar/\LT (aK s.af)/\RR (↑s.af.length:Int)/\0=(↑ar:Int))/\LT (ak p)/\LT (ze s)/\N8 p s i ar/\∀ (i_2:Nat),i_2<(dY s.ag i).length->Zs s i i_2=Z8 p s ar i_2)/\∀ (i:Nat),i<=s.af.length->(qc s i=true->ai (↑i:Int) s.af.length/\KN 173 [AV.mc l8 (AV.agg [ze s,AV.int j6 (↑i:Int)]),AV.mc z7 (ak p),ab (cY p (bX s))] (AV.bool (gU p s (↑i:Int).toNat (cY p (bX s))))/\(gU p s (↑i:Int).toNat (cY p (bX s))=true->qr/\(RR (jX p s i).length/\(↑(qis p s i):Int)*(↑(8:Nat):Int)<=(140737488355328:Int)/\qis p s i<=(9223372036854775807:Nat))/\qf/\qa i/\∃ j,j<=s.af.length/\nu s i j/\(LT (ab (cY p (bX s)))/\atv p s i j/\Xp s i j)/\LT (ak p)/\LT (ze s)/\atv p s i j/\∀ (ar:Nat),ar<qis p s i->(if ar<(jX p s i).length then Z8 p s i ar else(oI.set (0:Nat) (av (AV.int j6 (s.af.getD (↑i:Int).toNat au).id))).getD (ar - (jX p s i).length) AV.any)=Z8 p s j ar)/\(gU p s (↑i:Int).toNat (cY p (bX s))=false->qa i/\∃ j,j<=s.af.length/\nu s i j/\(LT (ab (cY p (bX s)))/\N5 p s i j/\Xp s i j)/\LT (ak p)/\LT (ze s)/\N5 p s i j/\∀ (ar:Nat),ar<(jX p s i).length->Z8 p s i ar=Z8 p s j ar))/\(qc s i=false->(jX p s i).length<=(jX p s i).length/\LS (ab (jX p s i)) (ab (dq p s))))) ?_;try delta oD LW MR qg FW Rj Lf Gc qr qir qf wP OB KK JZ Zs oI UI Mh wW N8 Z8 qis q9 qa nu atv Xp N5 qc
 simp only[SZ];have h1:=hs.af;have h2:=hs.ag;obtain⟨v1,v2,v3⟩:=z12.1 hv;have hon:=zjf p (bX s);have hon:(cY p (bX s)).length<=s.af.length:=hon;refine⟨Qw s 0,aeg p s hp hs,ac,dl,⟨s.ag.length,xm _,⟨by rw[zxo];rfl,rfl⟩,by rw[zxo];rfl⟩,λi hi=>⟨λh0=>?_,λh0=>?_⟩⟩
 . have e1:((i:Int) - 1).toNat=i - 1:=ac;have e2:(i:Int) - 1 - 1=((i - 1:Nat):Int) - 1:=ac;have hl:=z9m s.ag i;have hb:=qG.1 (v3 (i - 1) ac).2;have hr:=((z21 _).1 hb.1).1;have hid:=(hs.ok (i - 1)).id;have hst:=aet s.ag i ac hi;rw[e1,e2];refine⟨ey,by have :=hs.cE (i - 1);omega,λhg=>⟨ey,aci _ ey,ap,ey,dl,i - 1,ac,ac, ?_⟩,λhg=>⟨dl,i - 1,ac,ac, ?_⟩⟩
   . rw[hst,x9 ac];exact⟨⟨be,rfl⟩,be,λj hj=>lW _ _ j hj⟩
   . grind
 have e0:i=0:=ac;subst e0;have eA:jX p s 0=dY s.ag 0:=by unfold jX lu;simp
 refine⟨ac,⟨0,ac,by rw[eA];exact eq,by rw[eA],λ_ _=>by rw[eA]⟩,λi hi=>⟨λhlt=>?_,λhge=>?_⟩⟩
 . have hl:(jX p s i).length<=2*s.af.length:=by
    unfold jX;rw[xl];have q1:=z9m s.ag 0;have q2:=zbd p s i;omega
   refine⟨hlt,ajl p s i _ hp hs ⟨hlt,ac⟩ v1 ac,λh=>⟨ap,ey,dl,i+1,ac,ac, ?_⟩,λh=>⟨dl,i+1,ac,ac, ?_⟩⟩
   . rw[ant h];exact⟨⟨be,ac⟩,be,λj hj=>lW _ _ j hj⟩
   . rw[afk h];exact⟨⟨rfl,ac⟩,rfl,λ_ _=>rfl⟩
 . have e:jX p s i=dq p s:=by unfold jX dq;rw[show i=s.af.length from ac]
   rw[e];exact eq
theorem ak4 (f:bG p) (hs:cK s):KN 57 [vP p,cj s] (ab (dk p s)):=by
 refine Kn (qW p s 0 aH 12 λ_=>none) Tryz.func57 (KN 101 [AV.mc z7 (ak p),co (32:Int),AV.mc aM (ze s)] (AV.bool (dy p (32:Int) s))/\((!dy p 32 s)=true->(dk p s).length=0)/\((!dy p 32 s)=false->KN 102 [AV.mc z7 (ak p),AV.mc aM (ze s)] (ab (dq p s))/\LS (ab (dq p s)) (ab (dk p s)))) ?_;simp only[SZ];refine⟨z124 p 32 s f hs,λh=>?_,λh=>⟨ac2 p s f hs h, ?_⟩⟩
 . unfold dk;rw[x8 (by rw[h];simp)];rfl
 . have e:dk p s=dq p s:=by unfold dk;rw[x9 h]
   grind
section
variable (s:ah) (a:Int)
def qqw:=AV.mc l8 (AV.agg [ze s,co (max (aV s.af (b7 a)) 0)])
def qea:=!nQ s a
end
section
variable (p:aj) (s:ah) (a:Int)
def Rm:=bP (c8 p s (aV s.af (b7 a)).toNat).fst
end
theorem zxq (hp:bG p) (hs:cK s) {b:Int} (hv:dy p b s=true) (ha:jS a):KN 108 [vP p,cj s,co a] (.ax [dg (zu p s a).1, .bool (zu p s a).2]):=by
 refine Kn (qW p s (aV s.af (b7 a)).toNat aH 30 λ_=>none) Tryz.func108 (KN 107 [AV.mc aM (ze s),co a] (AV.ax [qqw s a,AV.bool (nQ s a)])/\(qea s a=true->(0=(zu p s a).fst.aG/\0=(zu p s a).fst.idx/\0=(zu p s a).fst.kind/\0=(zu p s a).fst.obj/\0=(zu p s a).fst.mutex/\0=(zu p s a).fst.entry/\0=(zu p s a).fst.ord/\0=(zu p s a).fst.read/\0=(zu p s a).fst.wrote)/\false=(zu p s a).snd)/\(qea s a=false->KN 180 [co a] (AV.bool (nP a))/\(nP a=true->KN 181 [qqw s a] (AV.ax [AV.mc bp (bP (cD s (aV s.af (b7 a)).toNat).fst),AV.bool (cD s (aV s.af (b7 a)).toNat).snd])/\LS (bP (cD s (aV s.af (b7 a)).toNat).fst) (bP (zu p s a).fst)/\(cD s (aV s.af (b7 a)).toNat).snd=(zu p s a).snd)/\(nP a=false->KN 182 [qqw s a,AV.mc z7 (ak p)] (AV.ax [AV.mc bp (Rm p s a),AV.bool (c8 p s (aV s.af (b7 a)).toNat).snd])/\LS (Rm p s a) (bP (zu p s a).fst)/\(c8 p s (aV s.af (b7 a)).toNat).snd=(zu p s a).snd))) ?_;try delta qqw nQ qea nP Rm
 simp only[SZ];have⟨v1,v2,v3⟩:=z12.1 hv;have hf:=zhh s.af (b7 a);refine⟨adw s a hs ha,λh=>?_,λh=>?_⟩
 . have e:zu p s a=(aH,false):=by unfold zu;rw[x9 ac]
   rw[e];exact eq
 have hk:uQ s (aV s.af (b7 a)).toNat:=ey;have hb:=qG.1 (v3 (aV s.af (b7 a)).toNat ac).2;have hr:=((z21 _).1 hb.1).1;have e0:max (aV s.af (b7 a)) 0=(((aV s.af (b7 a)).toNat:Nat):Int):=ac;rw[e0];refine⟨ao7 a,λh0=>⟨aht s _ hs hk ac, ?_⟩,λh0=>⟨ak6 p s _ hp hs hk v1 hb.1, ?_⟩⟩
 . have e:zu p s a=cD s (aV s.af (b7 a)).toNat:=by unfold zu;rw[x8 ac,x9 h0]
   rw[e];exact eq
 . have e:zu p s a=c8 p s (aV s.af (b7 a)).toNat:=by unfold zu;rw[x8 ac,x8 h0]
   rw[e];exact eq
theorem zqt (f:bG p) (hs:cK s) (i:jS a):KN 61 [vP p,cj s, .int .i64 a] (.ax [dg (zf p s a).1, .bool (zf p s a).2]):=by
 refine Kn (qW p s 0 aH 19 λ_=>none) Tryz.func61 (KN 101 [AV.mc z7 (ak p),AV.int j6 (32:Int),AV.mc aM (ze s)] (AV.bool (dy p (32:Int) s))/\((!dy p 32 s)=true->(0=(zf p s a).fst.aG/\0=(zf p s a).fst.idx/\0=(zf p s a).fst.kind/\0=(zf p s a).fst.obj/\0=(zf p s a).fst.mutex/\0=(zf p s a).fst.entry/\0=(zf p s a).fst.ord/\0=(zf p s a).fst.read/\0=(zf p s a).fst.wrote)/\false=(zf p s a).snd)/\((!dy p 32 s)=false->KN 108 [AV.mc z7 (ak p),AV.mc aM (ze s),AV.int j6 a] (AV.ax [AV.mc bp (bP (zu p s a).fst),AV.bool (zu p s a).snd])/\LS (bP (zu p s a).fst) (bP (zf p s a).fst)/\(zu p s a).snd=(zf p s a).snd)) ?_;simp only[SZ];refine⟨z124 p 32 s f hs,λh=>?_,λh=>⟨zxq p s a f hs h i, ?_⟩⟩
 . have e:zf p s a=(aH,false):=by unfold zf;rw[x9 h]
   rw[e];exact eq
 . have e:zf p s a=zu p s a:=by unfold zf;rw[x8 (by rw[h];simp)]
   rw[e];exact eq
theorem yU {α:Type} (enc:α ->AV) (d:α) (l:List α) (k:Nat) (x:α) (j:Nat) (f:j<l.length):(if j=k then enc x else enc (l.getD j d))=enc ((l.set k x).getD j d):=by
 rw[x7 (l:=l.set _ _),j8];by_cases e:k=j
 . grind
 . rw[x8 (λh=>e h.symm),x8 e,x7]
theorem mq:aE.af.length=0/\(aE.mem.vars.length=0/\aE.mem.ae.length=0/\aE.mem.aa.length=0/\aE.mem.sig.length=0)/\aE.ag.length=0:=⟨rfl,dD,rfl⟩
theorem zEv:0=aH.aG/\0=aH.idx/\0=aH.kind/\0=aH.obj/\0=aH.mutex/\0=aH.entry/\0=aH.ord/\0=aH.read/\0=aH.wrote:=eq
section
variable (s:ah) (k:Nat)
def H3:List AV:=[AV.mc cz (aB (s.ag.getD k aD))]
def Uh:=aB (bR (s.ag.getD k aD)).fst
def FH:cZ×Int×Int:=(bR (s.ag.getD k aD)).snd
def Uc:Int×Int:=(FH s k).snd
def Ep:Int:=(Uc s k).snd
end
section
variable (p:aj) (b:Int) (s:ah) (k:Nat) (e:Ev)
def qit:=((dO p b s k e).fst.af.length=0/\((dO p b s k e).fst.mem.vars.length=0/\(dO p b s k e).fst.mem.ae.length=0/\(dO p b s k e).fst.mem.aa.length=0/\(dO p b s k e).fst.mem.sig.length=0)/\(dO p b s k e).fst.ag.length=0)/\30=(dO p b s k e).snd
def Pl:=Ep s k !=0
def Vr:List AV:=[co e.obj,co e.wrote]
def EG:=(zr s.mem e.obj e.wrote).snd !=0
def Cr:=s.ag.length=(dO p b s k e).fst.ag.length
variable (x5:Nat)
def Rz:=aB ((dO p b s k e).fst.ag.getD x5 aD)
def qqx:=0=(dO p b s k e).snd
def Dx:=aB (cG (s.ag.getD k aD) e.obj e.wrote).fst
def Wk:Int×Int:=(cG (s.ag.getD k aD) e.obj e.wrote).snd
def MP:Int:=(Wk s k e).snd
def T4:=MP s k e !=0
def FV:=aq (cy p b (s.af.getD k au) e.read).fst
def MT:Int:=(cy p b (s.af.getD k au) e.read).snd
def It:=KN 118 [AV.mc z7 (ak p),co b,AV.mc zk (aq (s.af.getD k au)),co e.read] (AV.ax [AV.mc zk (FV p b s k e),co (MT p b s k e)])
def GS:=MT p b s k e !=0
def G6:=GS p b s k e=true->qit p b s k e
def LG:=s.af.length=(dO p b s k e).fst.af.length/\∀ i:Nat,i<s.af.length->(if i=(↑k:Int).toNat then FV p b s k e else aq (s.af.getD i au))=aq ((dO p b s k e).fst.af.getD i au)
def Lo:=LS (ao s.mem) (ao (dO p b s k e).fst.mem)
def J3:=GS p b s k e=false
end
theorem ah7 (e:Ev) (m:bG p) (hs:cK s) (f:uQ s k):KN 109 [pS s k,vP p,co b,dg e] (.ax [cj (dO p b s k e).1,co (dO p b s k e).2]):=by
 refine Kn (qW p s k e 107 λ_=>none) Tryz.func109 ((KF (114:Nat) [AV.mc aM (ze s)] (AV.mc aM (AV.agg [AV.own (0:Nat) s.af.length,ao s.mem,AV.own (1:Nat) s.ag.length])) [aw.row (86:TypeId) zk s.af.length λi=>aq (s.af.getD i au),aw.row (90:TypeId) cz s.ag.length λi=>aB (s.ag.getD i aD)])/\KN 183 [AV.mc l8 (AV.agg [ze s,co ↑k])] (AV.ax (AV.mc zk (aq (s.af.getD k au))::H3 s k))/\((e.kind==4)=true->KN 184 (H3 s k) (AV.ax [AV.mc cz (Uh s k),AV.mc ct (de (FH s k).fst),co (Uc s k).fst,co (Ep s k)])/\(Pl s k=true->qit p b s k e)/\(Pl s k=false->KN 185 (AV.mc zm (ao s.mem)::Vr e) (AV.ax [AV.mc zm (ao (zr s.mem e.obj e.wrote).fst),co (zr s.mem e.obj e.wrote).snd])/\(EG s e=true->qit p b s k e)/\(EG s e=false->ai (↑k) s.ag.length/\(↑k:Int).toNat<s.ag.length/\s.af.length<=s.af.length/\s.ag.length<=s.ag.length/\(LS (aK s.af) (aK (dO p b s k e).fst.af)/\LS (ao (zr s.mem e.obj e.wrote).fst) (ao (dO p b s k e).fst.mem)/\Cr p b s k e/\∀ i:Nat,i<s.ag.length->(if i=(↑k:Int).toNat then Uh s k else aB (s.ag.getD i aD))=Rz p b s k e i)/\qqx p b s k e)))/\((e.kind==4)=false->((e.kind==3)=true->KN 186 (AV.mc cz (aB (s.ag.getD k aD))::Vr e) (AV.ax [AV.mc cz (Dx s k e),co (Wk s k e).fst,co (MP s k e)])/\(T4 s k e=true->qit p b s k e)/\(T4 s k e=false->ai (↑k) s.ag.length/\(↑k:Int).toNat<s.ag.length/\It p b s k e/\G6 p b s k e/\(J3 p b s k e->ai (↑k) s.af.length/\(↑k:Int).toNat<s.af.length/\s.af.length<=s.af.length/\s.ag.length<=s.ag.length/\(LG p b s k e/\Lo p b s k e/\Cr p b s k e/\∀ i:Nat,i<s.ag.length->(if i=(↑k:Int).toNat then Dx s k e else aB (s.ag.getD i aD))=Rz p b s k e i)/\qqx p b s k e)))/\((e.kind==3)=false->It p b s k e/\G6 p b s k e/\(J3 p b s k e->ai (↑k) s.af.length/\(↑k:Int).toNat<s.af.length/\s.af.length<=s.af.length/\s.ag.length<=s.ag.length/\(LG p b s k e/\Lo p b s k e/\LS (bc s.ag) (bc (dO p b s k e).fst.ag))/\qqx p b s k e)))) ?_;try delta H3 Uh FH Uc Ep qit Pl Vr EG Cr Rz qqx Dx Wk MP T4 FV MT It GS G6 LG Lo J3
 simp only[SZ];have k1:=f.1;have k2:=f.2;have hC:=λr=>z117 p b (s.af.getD k au) r m (hs.ok k);refine⟨aoc s hs,zqq s k f,λh4=>⟨ami _ (hs.cE k),λh=>?_,λh=>⟨zjb _ _ _ hs.mem,λh'=>?_,λh'=>⟨k2,k2, ?_⟩⟩⟩,λh4=>⟨λh3=>⟨ajj _ _ _ (hs.cE k),λh=>?_,λh=>⟨k2,k2,hC _,λh'=>?_,λh'=>⟨k1,k1, ?_⟩⟩⟩,λh3=>⟨hC _,λh=>?_,λh=>⟨k1,k1, ?_⟩⟩⟩⟩
 . have e:dO p b s k e=(aE,30):=by unfold dO;rw[x9 h4,x9 h]
   rw[e];exact⟨mq,rfl⟩
 . have e:dO p b s k e=(aE,30):=by unfold dO;rw[x9 h4,x8 ac,x9 h']
   rw[e];exact⟨mq,rfl⟩
 . have e:dO p b s k e=({s with ag:=s.ag.set k (bR (s.ag.getD k aD)).1,mem:=(zr s.mem e.obj e.wrote).1},0):=by unfold dO;rw[x9 h4,x8 ac,x8 ac]
   rw[e];exact⟨⟨eq,eq,be,λj hj=>yU aB aD _ _ _ j hj⟩,rfl⟩
 . have e:dO p b s k e=(aE,30):=by unfold dO;rw[x8 h4,x9 h3,x9 h]
   rw[e];exact⟨mq,rfl⟩
 . have e:dO p b s k e=(aE,30):=by unfold dO;rw[x8 h4,x9 h3,x8 ac,x9 h']
   rw[e];exact⟨mq,rfl⟩
 . have e:dO p b s k e=({s with ag:=s.ag.set k (cG (s.ag.getD k aD) e.obj e.wrote).1,af:=s.af.set k (cy p b (s.af.getD k au) e.read).1},0):=by unfold dO;rw[x8 h4,x9 h3,x8 ac,x8 ac]
   rw[e];exact⟨⟨⟨be,λj hj=>yU aq au _ _ _ j hj⟩,eq,be,λj hj=>yU aB aD _ _ _ j hj⟩,rfl⟩
 . have e:dO p b s k e=(aE,30):=by unfold dO;rw[x8 h4,x8 h3,x9 h]
   rw[e];exact⟨mq,rfl⟩
 . have e:dO p b s k e=({s with af:=s.af.set k (cy p b (s.af.getD k au) e.read).1},0):=by unfold dO;rw[x8 h4,x8 h3,x8 ac]
   rw[e];exact⟨⟨⟨be,λj hj=>yU aq au _ _ _ j hj⟩,eq,rfl,λ_ _=>rfl⟩,rfl⟩
section
variable (p:aj) (b:Int) (s:ah) (a:Int)
def ZE:=(zt p b s a).fst.af.length=0/\((zt p b s a).fst.mem.vars.length=0/\(zt p b s a).fst.mem.ae.length=0/\(zt p b s a).fst.mem.aa.length=0/\(zt p b s a).fst.mem.sig.length=0)/\(zt p b s a).fst.ag.length=0
def qp:Ev:=(zt p b s a).snd.fst
def rm:=0=(qp p b s a).aG/\0=(qp p b s a).idx/\0=(qp p b s a).kind/\0=(qp p b s a).obj/\0=(qp p b s a).mutex/\0=(qp p b s a).entry/\0=(qp p b s a).ord/\0=(qp p b s a).read/\0=(qp p b s a).wrote
def qy:Int:=(zt p b s a).snd.snd
def si:=(zc p).fst !=0
def OW:=aW (zw (dq p s).length λi=>co ((dq p s).getD i 0)) a
def GA:=!OW p s a
def q4r:List AV:=[AV.mc aM (ze s),co a]
def qqy:=AV.mc l8 (AV.agg [ze s,co (qx s a)])
variable (x4:Bool)
def Y8:=((zc p).fst=0/\(1<=b/\b<=32)/\dy p b s=true/\aW (dq p s) a=true)/\x4=gX (zu p s a).fst
def qqz:=(zu p s a).fst.kind==1
def qiu:=LT (ak p)/\((0:Nat)=(0:Nat)/\((0:Nat)=(0:Nat)/\(0:Nat)=(0:Nat)/\(0:Nat)=(0:Nat)/\(0:Nat)=(0:Nat))/\(0:Nat)=(0:Nat))/\(RR (0:Int)/\RR (0:Int)/\RR (0:Int)/\RR (0:Int)/\RR (0:Int)/\RR (0:Int)/\RR (0:Int)/\RR (0:Int)/\RR (0:Int))/\(LT (ze s)/\RR (qx s a))/\LT (bP (zu p s a).fst)
def qr0:=(zu p s a).fst.kind==8
def qr1:=(zu p s a).fst.kind==3
def Tk:ah×Int:=dO p b s (aV s.af (b7 a)).toNat (zu p s a).fst
def TO:=ze (Tk p b s a).fst
def qr2:Int:=(Tk p b s a).snd
def G0:=qr2 p b s a !=0
def Tc:=bP (qp p b s a)
def U8:=bP (eD p b s a).snd.fst
def ZO:Int:=(eD p b s a).snd.snd
end
theorem zqu (f:bG p) (hs:cK s) (k:jS a) (hn:s.af.length<=400000) (m:(zc p).1=0 ->1<=b ->b<=32 ->dy p b s=true ->aW (dq p s) a=true ->gX (zu p s a).1=false ->KN 110 [pS s (max (aV s.af (b7 a)) 0),vP p,co b,co a] (.ax [cj (eD p b s a).1,dg (eD p b s a).2.1,co (eD p b s a).2.2])):KN 59 [vP p,co b,cj s,co a] (.ax [cj (zt p b s a).1,dg (zt p b s a).2.1,co (zt p b s a).2.2]):=by
 refine Kn {qW p s (aV s.af (b7 a)).toNat (zu p s a).1 97 (λ_=>none)with cut:=aik p b s a} Tryz.func59 (KN 54 [AV.mc z7 (ak p)] (AV.ax [co (zc p).fst,co (zc p).snd.fst,co (zc p).snd.snd])/\(si p=true->ZE p b s a/\rm p b s a/\(zc p).fst=qy p b s a)/\(si p=false->mJ b/\mJ b/\(mB b=true->ZE p b s a/\rm p b s a/\2=qy p b s a)/\(mB b=false->KN 101 [AV.mc z7 (ak p),co b,AV.mc aM (ze s)] (AV.bool (dy p b s))/\((!dy p b s)=true->ZE p b s a/\rm p b s a/\1=qy p b s a)/\((!dy p b s)=false->KN 102 [AV.mc z7 (ak p),AV.mc aM (ze s)] (ab (dq p s))/\KN 106 [ab (dq p s),co a] (AV.bool (OW p s a))/\(GA p s a=true->ZE p b s a/\rm p b s a/\19=qy p b s a)/\(GA p s a=false->KN 107 (q4r s a) (AV.ax [qqy s a,AV.bool (decide ((0:Int)<=aV s.af (b7 a)))])/\KN 108 (AV.mc z7 (ak p)::q4r s a) (AV.ax [AV.mc bp (bP (zu p s a).fst),AV.bool (zu p s a).snd])/\((qqz p s a=true->∃ j,Y8 p b s a j/\(RR b/\RR a/\qqz p s a=j)/\qiu p s a)/\(qqz p s a=false->(qr0 p s a=true->∃ j,Y8 p b s a j/\(RR b/\RR a/\qr0 p s a=j)/\qiu p s a)/\(qr0 p s a=false->(qr1 p s a=true->∃ j,Y8 p b s a j/\(RR b/\RR a/\qr1 p s a=j)/\qiu p s a)/\(qr1 p s a=false->∃ j,Y8 p b s a j/\(RR b/\RR a/\((zu p s a).fst.kind==4)=j)/\qiu p s a))))/\∀ i:Bool,Y8 p b s a i->(i=true->KN 109 [qqy s a,AV.mc z7 (ak p),co b,AV.mc bp (bP (zu p s a).fst)] (AV.ax [AV.mc aM (TO p b s a),co (qr2 p b s a)])/\(G0 p b s a=true->ZE p b s a/\rm p b s a/\qr2 p b s a=qy p b s a)/\(G0 p b s a=false->LS (TO p b s a) (ze (zt p b s a).fst)/\LS (bP (zu p s a).fst) (Tc p b s a)/\0=qy p b s a))/\(i=false->KN 110 [qqy s a,AV.mc z7 (ak p),co b,co a] (AV.ax [AV.mc aM (ze (eD p b s a).fst),AV.mc bp (U8 p b s a),co (ZO p b s a)])/\LS (ze (eD p b s a).fst) (ze (zt p b s a).fst)/\LS (U8 p b s a) (Tc p b s a)/\ZO p b s a=qy p b s a)))))) ?_;try delta ZE qp rm qy si Cl Ca mJ mB OW GA q4r qx qqy Y8 qqz qiu qr0 qr1 Tk TO qr2 G0 Tc U8 ZO
 simp only[SZ];simp only[oR];have hon:dy p b s=true ->(dq p s).length<=1000000:=by
  intro hv;have q1:=z9m s.ag 0;have q2:=zbd p s s.af.length;have h2:=(z12.1 hv).2.1;unfold dq;rw[xl];omega
 refine⟨WR p f,λh=>?_,λh=>⟨λhb=>?_,λhb=>⟨z124 p b s f hs,λhv=>?_,λhv=>⟨ac2 p s f hs hv,Q2 _ _ (hon hv),λhc=>?_,λhc=>⟨adw s a hs k,zxq p s a f hs hv k, ?_, ?_⟩⟩⟩⟩⟩
 . have e:zt p b s a=(aE,aH,(zc p).1):=by unfold zt;rw[x9 h]
   rw[e];exact⟨mq,zEv,rfl⟩
 . have e:zt p b s a=(aE,aH,2):=by unfold zt;rw[x8 ac,x9 ac]
   rw[e];exact⟨mq,zEv,rfl⟩
 . have e:zt p b s a=(aE,aH,1):=by unfold zt;rw[x8 ac,x8 ac,x9 hv]
   rw[e];exact⟨mq,zEv,rfl⟩
 . have e:zt p b s a=(aE,aH,19):=by unfold zt;rw[x8 ac,x8 ac,x8 (by rw[hv];simp),x9 hc]
   rw[e];exact⟨mq,zEv,rfl⟩
 . have F:(zc p).1=0/\(1<=b/\b<=32)/\dy p b s=true/\aW (dq p s) a=true:=⟨h,ac,hv,hc⟩;refine⟨λq1=>⟨_,⟨F,rfl⟩, ?_⟩,λq1=>⟨λq2=>⟨_,⟨F,rfl⟩, ?_⟩,λq2=>⟨λq3=>⟨_,⟨F,rfl⟩, ?_⟩,λq3=>⟨_,⟨F,rfl⟩, ?_⟩⟩⟩⟩;all_goals unfold gX
   . rw[q1];rfl
   . rw[q2];rfl
   . rw[q3];rfl
   . rw[xt.2 q1,xt.2 q2,xt.2 q3,gw,gw,gw]
 . rintro i ⟨_,rfl⟩;have hf:=zhh s.af (b7 a);refine⟨λho=>?_,λho=>?_⟩
   . have⟨v1,v2,v3⟩:=z12.1 hv;have h0:0<=aV s.af (b7 a):=by
      refine g7 λhn=>?_;have e:zu p s a=(aH,false):=by unfold zu;rw[x9 ac]
      rw[e]at ho;cases ho
     have hk:uQ s (aV s.af (b7 a)).toNat:=ey;have e0:max (aV s.af (b7 a)) 0=(((aV s.af (b7 a)).toNat:Nat):Int):=ac;rw[e0];refine⟨ah7 p b s _ _ f hs hk,λhz=>?_,λhz=>?_⟩
     . have e:zt p b s a=(aE,aH,(dO p b s (aV s.af (b7 a)).toNat (zu p s a).1).2):=by unfold zt;rw[x8 ac,x8 ac,x8 (by rw[hv];simp),x8 (by rw[hc];simp),x9 ho,x9 hz]
       rw[e];exact⟨mq,zEv,rfl⟩
     . have e:zt p b s a=((dO p b s (aV s.af (b7 a)).toNat (zu p s a).1).1,(zu p s a).1,0):=by unfold zt;rw[x8 ac,x8 ac,x8 (by rw[hv];simp),x8 (by rw[hc];simp),x9 ho,x8 ac]
       rw[e];exact eq
   . have e:zt p b s a=eD p b s a:=by unfold zt;rw[x8 ac,x8 ac,x8 (by rw[hv];simp),x8 (by rw[hc];simp),x8 (by rw[ho];simp)]
     rw[e];exact⟨m h ac ac hv hc ho,eq,eq,rfl⟩
def Rd (x y:AV):Prop:=∀ (w:World) (F:Nat ->Prop) (v:Value),ay w F v x ->ay w F v y
def ew (sh:Shape) (x y:AV):Prop:=∀ j,j<sh.size ->Rd (z6 sh x j) (z6 sh y j)
theorem ew.refl (sh:Shape) (x:AV):ew sh x x:=λ_ _ _ _ _ h=>h
theorem ew.leaf {x y:AV} (i:x.ba=true) (f:y.ba=true) (h:Rd x y):ew .leaf x y:=λj _ w F v e=>by
 have e:ay w F v (fu x):=e;show ay w F v (fu y);unfold fu at *;rw[i]at e;rw[f];exact h w F v e
theorem ew.mc {x y:AV} (h:ew sh x y):Rd (.mc sh x) (.mc sh y):=λw F v f=>by
 cases f with
 |mc k _ _ hs i=>exact .mc k _ _ hs λj e=>h j e w F _ (i j e)
theorem ew.seq {n:Nat} {f g:Nat ->AV} (h:∀ i,i<n ->ew sh (f i) (g i)):Rd (.seq sh n f) (.seq sh n g):=λw F v m=>by
 cases m with
 |db=>exact .db _ _ _ _
 |seq g o n cap sh f y x u s r=>exact .seq g o n cap _ _ y x u s λi k j e=>h i k j e w F _ (r i k j e)
def HC:List Shape ->List AV ->List AV ->Prop
 | [],_,_=>True
 |s::ss,x::xs,y::ys=>ew s x y/\HC ss xs ys
 |_,_,_=>False
theorem zqv:∀ (e:List Shape) (xs f:List AV),HC e xs f ->∀ j,j<Shape.aZ e ->Rd (zh e xs j) (zh e f j)
 | [],_,_,_,j,i=>absurd i (wg j)
 |s::e,x::xs,y::f,h,j,i=>by
  simp[zh];by_cases q:j<s.size
  . rw[x9 q,x9 q];exact h.1 j q
  . rw[x8 q,x8 q];exact zqv e xs f h.2 _ (by simp[Shape.aZ]at i;omega)
 |_::_,[],_,h,_,_=>h.elim
 |_::_,_::_,[],h,_,_=>h.elim
theorem ew.agg {f:List Shape} {xs e:List AV} (h:HC f xs e):ew (.agg f) (.agg xs) (.agg e):=λj i=>zqv f xs e h j i
theorem Rd.known {P:Program} {G:List (Nat×AV)} {f:FuncId} {args:List AV} {sh:Shape} {x y:AV} (h:aL P G f args (.mc sh x)) (i:ew sh x y):aL P G f args (.mc sh y):=
 h.imp λw F v e=>(ew.mc i) w F v e
theorem amj {f g:Nat ->AV} (j:ew sh (f 0) (g 0)) (h:ew sh (f 1) (g 1)):ew .leaf (.seq sh 2 f) (.seq sh 2 g):=
 ew.leaf rfl rfl (ew.seq λi e=>match i,e with
  |0,_=>j
  |1,_=>h)
structure D0 (p:aj):Prop where
 vars:p.vars.length<=140737488355328
 aS:p.aS.length<=140737488355328
 conds:p.conds.length<=140737488355328
 al:p.al.length<=140737488355328
 af:p.af.length<=140737488355328
 code:∀ i,(p.al.getD i bu).code.length<=140737488355328
structure NmP (p:aj):Prop where
 vn:∀ i,(p.vars.getD i eR).name.length<=140737488355328
 mn:∀ i,(p.aS.getD i []).length<=140737488355328
 cn:∀ i,(p.conds.getD i []).length<=140737488355328
 fn:∀ i,(p.al.getD i bu).name.length<=140737488355328
structure aoz (s:ah):Prop where
 af:s.af.length<=140737488355328
 ag:s.ag.length<=140737488355328
 vars:s.mem.vars.length<=140737488355328
 ae:s.mem.ae.length<=140737488355328
 aa:s.mem.aa.length<=140737488355328
 sig:s.mem.sig.length<=140737488355328
 cE:∀ i,(s.ag.getD i aD).entries.length<=140737488355328
 q:∀ i,(s.mem.aa.getD i []).length<=140737488355328
 held:∀ i,(s.af.getD i au).held.length<=140737488355328
end
end Go.Proofs.S25
