import Derived.Test.YtcfagpelpjdmaaaGreatDoorXza
import Derived.Test.YtcfagpelpjdmaaaGreatDoorXz
namespace Go.Proofs.S25
open Go Go.AV
open Go.IntKind renaming i64 -> j6
open Go.AV.Shape (leaf)
noncomputable section
variable {m:Mem} (l:List aF) (p:aj) (b:Int) (f:cX) {i:Nat} {n:Nat} (s:ah) (t:aF) (id:Int) (k:Nat) (a:Int)
theorem adl (h:i<n):bkR f (n - i) i=(WS f i || bkR f (n - (i+1)) (i+1)):=by
 rw[show n - i=n - (i+1)+1 from ac];rfl
section
variable (f:cX) (x1:Nat)
def xC:=x1<=f.code.length/\bkR f (f.code.length - x1) x1=zC f
def E0:=XO f x1&&decide ((f.code.getD (↑x1:Int).toNat dp).n<=(↑x1:Int))
end
theorem ag0 (h:f.code.length<=12):KN 95 [vFn f] (.bool (zC f)):=by
 refine Kn (Zh 37 (agq f)) Tryz.func95 ((∃ i,xC f i/\(0:Int)=↑i/\RR f.name/\LT (iX f.code))/\∀ i:Nat,xC f i->↑f.code.length<=(9223372036854775807:Int)/\(Am f i=true->ai (↑i) f.code.length/\rR f i/\rR f i/\rR f i/\(qz4 f i->ai (↑i) f.code.length)/\rR f i/\rR f i/\rR f i/\rR f i/\oN f i/\oN f i/\oN f i/\(Yo f i->ai (↑i) f.code.length)/\oN f i/\oN f i/\oN f i/\oN f i/\oN f i/\(E0 f i=true->true=zC f)/\(E0 f i=false->aU j6 (q9 i)/\(∃ j,xC f j/\f.code.length - j<f.code.length - i/\q9 i=↑j/\RR f.name/\LT (iX f.code))))/\(Am f i=false->false=zC f)) ?_
 try delta xC qz3 qz4 rR XO Yo oN E0 q9 Am
 simp only[SZ]
 refine⟨⟨0,⟨xp _,rfl⟩,rfl⟩,λi k=>⟨ac,λhlt=>⟨hlt,λ_=>hlt,λ_=>hlt,λhy=>?_,λhn=>⟨dl,i+1,⟨ac, ?_⟩,ac,ac⟩⟩,λhge=>?_⟩⟩
 . have e:=k.2
   have hb:WS f i=true:=by unfold WS;simp;exact hy
   rw[adl f hlt,hb,Bool.true_or]at e
   exact e
 . have e:=k.2
   have hb:WS f i=false:=by unfold WS;rw[<- gk];simp only[xa,xk,xo,xd];omega
   rw[adl f hlt,hb,gw]at e
   exact e
 . have e:=k.2
   rw[show f.code.length - i=0 from ac]at e
   exact e
theorem Ph (f:cX):∀ i:Nat,0<=mA f i/\mA f i<=i
 |0=>⟨yt _,yt _⟩
 |i+1=>by have :=Ph f i;unfold mA;split<;>omega
theorem adi {f:cX} {b:Int} (h:f.code.length<=12) (e:b<=8):0<=jQ f b/\jQ f b<=12:=by
 have :=Ph f f.code.length
 grind[jQ]
section
variable (f:cX) (x1:Nat)
def Gn:Int:=mA f x1+1
variable (x2:Nat)
def Pc:=f.code.length - x2<f.code.length - x1
def MN:=(f.code.getD (↑x1:Int).toNat dp).op==21
def Mn:=decide (0<mA f x1)
def xX:=Mn f x1=true
def KP:=xX f x1->xX f x1
def Fw:=Mn f x1&&zC (dF (ez f))
end
theorem ady (b:Int) (h:f.code.length<=12):KN 53 [vFn f,co b] (co (jQ f b)):=by
 refine Kn (Zh 33 (agk f b)) Tryz.func53 ((∃ i,i<=f.code.length/\(RR b/\(0:Int)=mA f i/\(0:Int)=↑i)/\RR f.name/\LT (iX f.code))/\∀ i:Nat,i<=f.code.length->↑f.code.length<=(9223372036854775807:Int)/\(Am f i=true->ai (↑i) f.code.length/\(MN f i=true->aU j6 (Gn f i)/\qa i/\(∃ j,j<=f.code.length/\Pc f i j/\(RR b/\Gn f i=mA f j/\qb i j)/\RR f.name/\LT (iX f.code)))/\(MN f i=false->qa i/\(∃ j,j<=f.code.length/\Pc f i j/\(RR b/\mA f i=mA f j/\qb i j)/\RR f.name/\LT (iX f.code))))/\(Am f i=false->KP f i/\(xX f i->KN 95 [AV.mc ct (ez f)] (AV.bool (zC (dF (ez f)))))/\KP f i/\(Fw f i=true->(if mA f i<b then b else mA f i)=jQ f b)/\(Fw f i=false->mA f i=jQ f b))) ?_
 try delta Gn q9 qa Pc qb MN Am Mn xX KP Fw
 simp only[SZ]
 have hs:=Ph f
 refine⟨⟨0,xp _,rfl,rfl⟩,λi hi=>⟨ac,λhlt=>⟨hlt,λhy=>⟨za (by have :=hs i;omega) (by have :=hs i;omega),dl,i+1,ac,ac,by show _=if _ then _ else _;rw[x9 hy],ac⟩,λhy=>⟨dl,i+1,ac,ac,by show _=if _ then _ else _;rw[x8 hy],ac⟩⟩,λhge=>?_⟩⟩
 obtain rfl:i=f.code.length:=ac
 refine⟨λ_=>ag0 f h,λhy=>?_,λhy=>?_⟩
 . unfold jQ;rw[x9 hy];split<;>omega
 . unfold jQ;rw[x8 (λh=>by rcases hy with e |e<;>simp_all)]
theorem ac4 {p:aj} {b:Int} (e:∀ j,j<p.al.length ->(p.al.getD j bu).code.length<=12) (k:b<=8):∀ i:Nat,0<=lS p b i/\lS p b i<=p.af.length+12*i
 |0=>⟨by show(0:Int)<=p.af.length;omega,by show(p.af.length:Int)<=_;omega⟩
 |i+1=>by
  have :=ac4 e k i
  unfold lS;split
  . rename_i h
    have :=adi (f:=p.al.getD (p.af.getD i dL).fn.toNat bu) (e _ ac) k
    omega
  . omega
theorem adt (h:i<n):wG p b f (n - i) i=(XK p b (f.code.getD i dp) || wG p b f (n - (i+1)) (i+1)):=by
 rw[show n - i=n - (i+1)+1 from ac];rfl
theorem aec (h:i<n):vA p b (n - i) i=(wG p b (p.al.getD i bu) (p.al.getD i bu).code.length 0 || vA p b (n - (i+1)) (i+1)):=by
 rw[show n - i=n - (i+1)+1 from ac];rfl
section
variable (p:aj) (x1:Nat)
def Uk:=decide (0<=(p.af.getD (↑x1:Int).toNat dL).fn)
def A9:=Uk p x1=true
def qA:=A9 p x1->A9 p x1
def W5:=ez (p.al.getD (p.af.getD (↑x1:Int).toNat dL).fn.toNat bu)
variable (b:Int) (x2:Nat)
def HE:Int:=jQ (dF (W5 p x2)) b
def Hy:Int:=lS p b x2+HE p b x2
def Oe:=p.af.length - x2<p.af.length - x1
def OJ:=Uk p x1&&decide ((p.af.getD (↑x1:Int).toNat dL).fn<(↑p.al.length:Int))
def Py:=vA p b (p.al.length - x2) x2=vA p b p.al.length 0
def wU:=x2<=p.al.length/\Py p b x2
def vY:Nat:=(p.al.getD x1 bu).code.length - x2
variable (x3:Nat)
def Ap:=x3<=(p.al.getD x2 bu).code.length/\wG p b (p.al.getD x2 bu) (vY p x2 x3) x3=wG p b (p.al.getD x2 bu) (p.al.getD x2 bu).code.length 0/\x2<p.al.length/\Py p b x2
def Fs:Nat:=(p.al.getD (↑x1:Int).toNat bu).code.length
def Lb:aP:=(p.al.getD (↑x1:Int).toNat bu).code.getD (↑x2:Int).toNat dp
def Ig:=(Lb p x1 x2).op==21
def WH:=Ig p x1 x2=true
def yI:=WH p x1 x2->WH p x1 x2
def QF:=Ig p x1 x2&&decide (0<=((p.al.getD (↑x1:Int).toNat bu).code.getD (↑x2:Int).toNat dp).obj)
def yD:=QF p x1 x2=true
def om:=yD p x1 x2->yD p x1 x2
def PL:=QF p x1 x2&&decide (((p.al.getD (↑x1:Int).toNat bu).code.getD (↑x2:Int).toNat dp).obj<(↑p.al.length:Int))
def tH:=PL p x1 x2=true
def lJ:=tH p x1 x2->tH p x1 x2
def U0:Int:=(Lb p x1 x2).obj
def Cy:=ez (p.al.getD (U0 p x1 x2).toNat bu)
def Fb:=PL p x2 x3&&decide (0<jQ (dF (ez (p.al.getD ((p.al.getD (↑x2:Int).toNat bu).code.getD (↑x3:Int).toNat dp).obj.toNat bu))) b)
def K3:=decide ((↑x2:Int)<(↑(p.al.getD (↑x1:Int).toNat bu).code.length:Int))
end
theorem af6 (z:p.al.length<=4) (y:p.af.length<=4) (x:b<=8) (o:∀ j,j<p.al.length ->(p.al.getD j bu).code.length<=12):KN 31 [vP p,co b] (.bool (yF p b)):=by
 refine Kn (Zh 101 (aox p b) (ak2 p b)) Tryz.func31 (ue p/\(∃ i,i<=p.af.length/\(RR b/\↑p.af.length=lS p b i/\(0:Int)=↑i)/\LT (ak p))/\∀ i:Nat,i<=p.af.length->ue p/\(oS p i=true->ai (↑i) p.af.length/\qA p i/\qA p i/\(A9 p i->vC p)/\qA p i/\qA p i/\qA p i/\(OJ p i=true->ai (p.af.getD (↑i:Int).toNat dL).fn p.al.length/\KN 53 [AV.mc ct (W5 p i),co b] (co (HE p b i))/\aU j6 (Hy p b i)/\qa i/\(∃ j,j<=p.af.length/\Oe p i j/\(RR b/\Hy p b i=lS p b j/\qb i j)/\LT (ak p)))/\(OJ p i=false->qa i/\(∃ j,j<=p.af.length/\Oe p i j/\(RR b/\lS p b i=lS p b j/\qb i j)/\LT (ak p))))/\(oS p i=false->(∃ ar,wU p b ar/\(RR b/\lS p b i=lS p b p.af.length/\(0:Int)=↑ar)/\LT (ak p))/\∀ (i:Nat),wU p b i->vC p/\(mE p i=true->∃ m,(∃ ar,Ap p b m ar/\(RR b/\RR (lS p b p.af.length)/\(↑i:Int)=(↑m:Int)/\(0:Int)=(↑ar:Int))/\LT (ak p))/\∀ (ar:Nat),Ap p b m ar->ai (↑m:Int) p.al.length/\(↑(Fs p m):Int)<=(9223372036854775807:Int)/\(K3 p m ar=true->ai (↑m:Int) p.al.length/\ai (↑ar:Int) (Fs p m)/\yI p m ar/\yI p m ar/\yI p m ar/\om p m ar/\om p m ar/\om p m ar/\(yD p m ar->vC p)/\om p m ar/\om p m ar/\om p m ar/\lJ p m ar/\lJ p m ar/\lJ p m ar/\lJ p m ar/\(tH p m ar->ai (U0 p m ar) p.al.length)/\lJ p m ar/\lJ p m ar/\lJ p m ar/\(tH p m ar->KN 53 [AV.mc ct (Cy p m ar),co b] (co (jQ (dF (Cy p m ar)) b)))/\lJ p m ar/\lJ p m ar/\(Fb p b m ar=true->false=yF p b)/\(Fb p b m ar=false->qa ar/\∃ j,Ap p b m j/\vY p m j<vY p m ar/\(RR b/\RR (lS p b p.af.length)/\RR (↑m:Int)/\qb ar j)/\LT (ak p)))/\(K3 p m ar=false->qa m/\∃ j,wU p b j/\p.al.length - j<p.al.length - i/\(RR b/\RR (lS p b p.af.length)/\qb m j)/\LT (ak p)))/\(mE p i=false->decide (lS p b p.af.length<=(5:Int))=yF p b))) ?_
 try delta ue Uk A9 qA vC W5 HE Hy q9 qa Oe qb OJ oS Py wU vY Ap Fs Lb Ig WH yI QF yD om PL tH lJ U0 Cy Fb K3 mE
 simp only[SZ]
 have hn:=ac4 o x
 have u:=λ(k:Int) (h:0<=k/\k<p.al.length)=>adi (f:=p.al.getD k.toNat bu) (o _ ac) x
 refine⟨ac,⟨0,xp _,rfl,rfl⟩,λi hi=>⟨ac,λhlt=>⟨hlt,λ_=>ac,λhy=>⟨hy,ady _ b (o _ ac),za (by have :=hn i;have :=u _ hy;omega) (by have :=hn i;have :=u _ hy;omega),dl,i+1,ac,ac,by show _=if _ then _ else _;rw[x9 hy],ac⟩,λhy=>⟨dl,i+1,ac,ac,by show _=if _ then _ else _;rw[x8 ac],ac⟩⟩,λhge=>?_⟩⟩
 obtain rfl:i=p.af.length:=ac
 refine⟨⟨0,⟨xp _,rfl⟩,rfl,rfl⟩,λi hi=>⟨ac,λhlt=>⟨i,⟨0,⟨xp _,rfl,hlt,hi.2⟩,rfl,rfl⟩,λk hk=>?_⟩,λhge=>?_⟩⟩
 . have hc':=o i hlt
   refine⟨hlt,ac,λhl2=>⟨hlt,hl2,λ_=>ac,λhy=>⟨hy.1.2,hy.2⟩,λhy=>ady _ b (o _ ac),λhy=>?_,λhy=>⟨dl,k+1,⟨ac, ?_,hlt,hi.2⟩,ac,ac⟩⟩,λhge=>⟨dl,i+1,⟨ac, ?_⟩,ac,ac⟩⟩
   . have s:XK p b ((p.al.getD i bu).code.getD k dp)=true:=by
      unfold XK;simp;exact⟨⟨hy.1.1.1,hy.1.1.2,hy.1.2⟩,hy.2⟩
     have e:=hk.2.1
     rw[adt p b _ hl2,s,Bool.true_or]at e
     have r:=hi.2
     rw[aec p b hlt,<- e,Bool.true_or]at r
     unfold yF;rw[<- r];rfl
   . have s:XK p b ((p.al.getD i bu).code.getD k dp)=false:=by
      unfold XK;rw[<- gk];simp only[xa,xo,xd];omega
     have e:=hk.2.1
     rw[adt p b _ hl2,s,gw]at e
     exact e
   . have e:=hk.2.1
     rw[show(p.al.getD i bu).code.length - k=0 from ac]at e
     have r:=hi.2
     rw[aec p b hlt,<- e]at r
     exact r
 . have e:=hi.2
   rw[show p.al.length - i=0 from ac]at e
   unfold yF;rw[<- e];rfl
theorem ac6 (h:i<n):vf p (n - i) i=(decide ((p.al.getD i bu).code.length<=12)&&vf p (n - (i+1)) (i+1)):=by
 rw[show n - i=n - (i+1)+1 from ac];rfl
section
variable (p:aj)
def Te:=decide ((4:Int)<↑p.al.length)
def wI:=(!Te p)=true
def tT:=wI p->wI p
def OY:=Te p||decide ((4:Int)<↑p.af.length)
def Ss:=(!OY p)=true
def JY:=Ss p->Ss p
variable (b:Int)
def Sl:=OY p||decide (8<b)
def wQ:=(!Sl p b)=true
def tM:=wQ p b->wQ p b
def Qv:=Sl p b||decide ((8:Int)<↑p.vars.length)
def Ay:=(!Qv p b)=true
def tu:=Ay p b->Ay p b
def Wr:=Qv p b||decide ((4:Int)<↑p.aS.length)
def wL:=(!Wr p b)=true
def sU:=wL p b->wL p b
def J4:=Wr p b||decide ((4:Int)<↑p.conds.length)
variable (x2:Nat)
def AG:=x2<=p.al.length/\vf p (p.al.length - x2) x2=vf p p.al.length 0/\(∀ j:Nat,j<x2->(p.al.getD j bu).code.length<=12)/\JU p b=true
variable (x1:Nat)
def Uy:=decide (12<(↑(p.al.getD (↑x1:Int).toNat bu).code.length:Int))
end
theorem aie (hp:D0 p):KN 9 [vP p,co b] (.bool (oQ p b)):=by
 refine Kn (Zh 56 (ajs p b)) Tryz.func9 (vC p/\tT p/\tT p/\(wI p->↑p.af.length<=(9223372036854775807:Int))/\tT p/\tT p/\JY p/\JY p/\tM p b/\tM p b/\(wQ p b->↑p.vars.length<=(9223372036854775807:Int))/\tM p b/\tM p b/\tu p b/\tu p b/\(Ay p b->↑p.aS.length<=(9223372036854775807:Int))/\tu p b/\tu p b/\sU p b/\sU p b/\(wL p b->↑p.conds.length<=(9223372036854775807:Int))/\sU p b/\sU p b/\(J4 p b=true->false=oQ p b)/\(J4 p b=false->(∃ i,AG p b i/\(RR b/\(0:Int)=↑i)/\LT (ak p))/\∀ i:Nat,AG p b i->vC p/\(mE p i=true->ai (↑i) p.al.length/\(↑(p.al.getD (↑i:Int).toNat bu).code.length:Int)<=9223372036854775807/\(Uy p i=true->false=oQ p b)/\(Uy p i=false->aU j6 (q9 i)/\(∃ j,AG p b j/\p.al.length - j<p.al.length - i/\(RR b/\q9 i=↑j)/\LT (ak p))))/\(mE p i=false->KN 31 [AV.mc z7 (ak p),co b] (AV.bool (yF (dP (ak p)) b))/\yF (dP (ak p)) b=oQ p b))) ?_
 try delta vC Te wI tT OY Ss JY Sl wQ tM Qv Ay tu Wr wL sU J4 AG Uy q9 mE
 simp only[SZ]
 have h1:=hp.vars
 have h2:=hp.aS
 have h3:=hp.conds
 have h4:=hp.af
 have h5:=hp.al
 refine⟨ac,λ_=>ac,λ_=>ac,λ_=>ac,λ_=>ac,λhy=>?_,λhn=>⟨⟨0,⟨xp _,rfl,λj hj=>ac, ?_⟩,rfl⟩,λi hi=>⟨ac,λhlt=>⟨hlt,by have :=hp.code i;omega,λhy=>?_,λhy=>⟨dl,i+1,⟨ac, ?_,λj hj=>?_,hi.2.2.2⟩,ac,ac⟩⟩,λhge=>?_⟩⟩⟩
 . have :JU p b=false:=by unfold JU;rw[xh];omega
   unfold oQ;rw[this];rfl
 . unfold JU;rw[xd];omega
 . have e:=hi.2.1
   rw[ac6 p hlt,show decide ((p.al.getD i bu).code.length<=12)=false from by rw[xh];omega,j5]at e
   unfold oQ;rw[<- e,j5,Bool.and_false]
 . have e:=hi.2.1
   rw[ac6 p hlt,show decide ((p.al.getD i bu).code.length<=12)=true from by rw[xd];omega,wd]at e
   exact e
 . by_cases e:j=i
   . subst e;omega
   . exact hi.2.2.1 j ac
 . have e:=hi.2.1
   rw[show p.al.length - i=0 from ac]at e
   refine⟨af6 p b ac ac ac λj hj=>hi.2.2.1 j ac, ?_⟩
   unfold oQ;rw[hi.2.2.2,<- e];rfl
theorem aic {a b:Ev} (o:a.aG=b.aG) (h2:a.idx=b.idx) (m:a.kind=b.kind) (k:a.obj=b.obj) (j:a.mutex=b.mutex) (i:a.entry=b.entry) (h:a.ord=b.ord) (f:a.read=b.read) (e:a.wrote=b.wrote):a=b:=by
 cases a;cases b;simp only at o h2 m k j i h f e;subst o h2 m k j i h f e;rfl
section
variable (a:List Ev)
def E2:=↑a.length<=(9223372036854775807:Int)
variable (b:List Ev)
def TG:=false=decide (a=b)
def Oo:=(↑a.length:Int) !=(↑b.length:Int)
variable (x2:Nat)
def xV:=x2<=a.length/\a.length=b.length/\∀ j:Nat,j<x2->a.getD j aH=b.getD j aH
def DB:=RR a.length/\∀ (i:Nat),i<a.length->RR (bP (a.getD i aH))
def VL:=RR b.length/\∀ (i:Nat),i<b.length->RR (bP (b.getD i aH))
def NS:=!((a.getD (↑x2:Int).toNat aH).aG==(b.getD (↑x2:Int).toNat aH).aG&&((a.getD (↑x2:Int).toNat aH).idx==(b.getD (↑x2:Int).toNat aH).idx&&((a.getD (↑x2:Int).toNat aH).kind==(b.getD (↑x2:Int).toNat aH).kind&&((a.getD (↑x2:Int).toNat aH).obj==(b.getD (↑x2:Int).toNat aH).obj&&((a.getD (↑x2:Int).toNat aH).mutex==(b.getD (↑x2:Int).toNat aH).mutex&&((a.getD (↑x2:Int).toNat aH).entry==(b.getD (↑x2:Int).toNat aH).entry&&((a.getD (↑x2:Int).toNat aH).ord==(b.getD (↑x2:Int).toNat aH).ord&&((a.getD (↑x2:Int).toNat aH).read==(b.getD (↑x2:Int).toNat aH).read&&((a.getD (↑x2:Int).toNat aH).wrote==(b.getD (↑x2:Int).toNat aH).wrote&&true)))))))))
variable (x1:Nat)
def UG:=decide ((↑x1:Int)<(↑a.length:Int))
end
theorem agu (a b:List Ev) (ha:a.length<=1000000) (hb:b.length<=1000000):KN 21 [ti a,ti b] (.bool (decide (a=b))):=by
 refine Kn (Zh 26 (aih a b)) Tryz.func21 (E2 a/\↑b.length<=(9223372036854775807:Int)/\(Oo a b=true->TG a b)/\(Oo a b=false->(∃ i,xV a b i/\DB a/\VL b/\(0:Int)=↑i)/\∀ i:Nat,xV a b i->E2 a/\(UG a i=true->ai (↑i) a.length/\ai (↑i) b.length/\(NS a b i=true->TG a b)/\(NS a b i=false->aU j6 (q9 i)/\(∃ j,xV a b j/\a.length - j<a.length - i/\DB a/\VL b/\q9 i=↑j)))/\(UG a i=false->true=decide (a=b)))) ?_
 try delta E2 TG Oo xV DB VL NS q9 UG
 simp only[SZ]
 refine⟨ac,ac,λh=>?_,λh=>⟨⟨0,⟨ac,ac,λj hj=>ac⟩,rfl⟩,λi hi=>⟨ac,λhlt=>⟨hlt,ac,λhn=>?_,λhe=>⟨dl,i+1,⟨ac,hi.2.1,λj hj=>?_⟩,ac,ac⟩⟩,λhge=>?_⟩⟩⟩
 . exact kU (by rintro rfl;exact h rfl)
 . exact kU (by rintro rfl;simp at hn)
 . by_cases e:j=i
   . subst e;exact aic he.1 he.2.1 he.2.2.1 he.2.2.2.1 he.2.2.2.2.1 he.2.2.2.2.2.1 he.2.2.2.2.2.2.1 he.2.2.2.2.2.2.2.1 he.2.2.2.2.2.2.2.2
   . exact hi.2.2 j ac
 . exact zqd (wN hi.2.1 λj hj=>hi.2.2 j ac)
section
variable (a:iz) (b:iz)
def Ae:=decide (dR jZ (AV.seq bp a.eJ.length λi=>bP (a.eJ.getD i aH))=dR jZ (AV.seq bp b.eJ.length λi=>bP (b.eJ.getD i aH)))
def Ac:=Ae a b=true
def rh:=Ac a b->Ac a b
def VE:=decide (gF (ze a.st)=gF (ze b.st))
end
theorem ait (a b:iz) (h:a.eJ.length<=1000000) (f:b.eJ.length<=1000000) (hs:cK a.st) (e:cK b.st):KN 13 [qR a,qR b] (.bool (decide (a=b))):=by
 refine Kn (Zh 17 λ_=>none) Tryz.func13 ((KN 21 [AV.seq bp a.eJ.length λi=>bP (a.eJ.getD i aH),AV.seq bp b.eJ.length λi=>bP (b.eJ.getD i aH)] (AV.bool (Ae a b)))/\rh a b/\rh a b/\rh a b/\rh a b/\(Ac a b->KN 23 [AV.mc aM (ze a.st),AV.mc aM (ze b.st)] (AV.bool (VE a b)))/\rh a b/\(Ae a b&&VE a b)=decide (a=b)) ?_
 try delta Ae Ac rh VE
 simp only[SZ]
 simp only[uL znz,eP hs.r8,eP e.r8]
 refine⟨agu _ _ h f,λ_=>ams _ _ hs e, ?_⟩
 cases a;cases b;simp
def zud:AV:= .bN cz 0 λi=>aB (([]:List cg).getD i aD)
def sM:AV:= .mc aM (.agg [aK s.af,ao s.mem,zud])
def acm:AV:= .mc aM (.agg [.own 0 s.af.length,ao s.mem,zud])
def an5:aw:= .cell 41 aM (.agg [aK s.af,ao s.mem,zud])
def aou (fn arg:Int) (k:Nat):Option Inv:=match Nat.beq k 8 with
 |true=>iw s.af.length (λi=>⟨[(3,co id),(8, .ptr 8 []),(12, .ptr 12 []),(16, .ptr 16 []),(18,co i)],[(8,an5 s),(12,fJ aE),(16, .cell 86 zk (aq (bf p b id fn arg).1))]⟩) λi=>(aV s.af id<0/\(bf p b id fn arg).2=0)/\∀ j,j<i ->(s.af.getD j au).id<id
 |false=>none
theorem ajn:∀ (i:Nat),i<=l.length ->(∀ j,j<i ->(l.getD j au).id<id) ->(i<l.length ->¬ (l.getD i au).id<id) ->iD l id=i:=by
 unfold iD
 induction l with
 |nil=>intro i e _ _;have :i=0:=by simpa using e
       simp_all
 |cons t l k=>
  intro i e f m
  cases i with
  |zero=>
   simp_all
  |succ i=>
   have o:t.id<id:=f 0 ac
   rw[List.takeWhile_cons_of_pos (by simpa using o),yz,k i (by simpa using e) (λj r=>f (j+1) ac) λh=>m (by simpa using h)]
theorem zN:iD l id<=l.length:=(List.takeWhile_sublist _).length_le
theorem z9q (e:k<=l.length):(iu l t k).length=l.length+1:=by grind[iu]
theorem z9r (e:k<=l.length) (j:Nat):(iu l t k).getD j au=if j<k then l.getD j au else if j=k then t else l.getD (j - 1) au:=by
 unfold iu
 have hl:(l.take k).length=k:=by grind
 simp
 split
 . rw[ye ac,y8 ac]
 . rw[y9 ac,hl]
   split
   . grind
   . obtain⟨d,rfl⟩:∃ d,j=k+(d+1):=⟨j - k - 1,ac⟩
     grind
theorem zue (i j:Nat) (z:AV) (k:i<=l.length):(if i+1<=j/\j<i+1+(l.length - i)then aq (l.getD (i+(j - (i+1))) au)else if j=i then aq t else if j<i then aq (l.getD j au)else z)=if j<l.length+1 then aq ((iu l t i).getD j au)else z:=by
 rw[z9r _ _ _ k]
 by_cases e:j<i
 . rw[x8 ac,x8 ac,x9 e,x9 ac,x9 e]
 . by_cases f:j=i
   . rw[x8 ac,x9 f,x9 ac,x8 e,x9 f]
   . by_cases h:j<l.length+1
     . rw[x9 ac,x9 h,x8 e,x8 f,show i+(j - (i+1))=j - 1 from ac]
     . rw[x8 ac,x8 f,x8 e,x8 h]
section
variable (s:ah) (id:Int)
def qrj:=decide (0<=aV (dR dT (aK s.af)) id)
end
section
variable (p:aj) (b:Int) (s:ah) (id:Int) (fn:Int) (arg:Int)
def SF:Nat:=(fk p b s id fn arg).fst.af.length
def Vs:=SF p b s id fn arg=0
def LK:=((Vs p b s id fn arg/\((fk p b s id fn arg).fst.mem.vars.length=0/\(fk p b s id fn arg).fst.mem.ae.length=0/\(fk p b s id fn arg).fst.mem.aa.length=0/\(fk p b s id fn arg).fst.mem.sig.length=0)/\RR 0)/\30=(fk p b s id fn arg).snd)/\Vs p b s id fn arg
def NN:=(bf (dP (ak p)) b id fn arg).snd !=0
variable (x6:Nat)
def qrk:=x6<=s.af.length/\(aV s.af id<0/\(bf p b id fn arg).snd=0)/\∀ j:Nat,j<x6->(s.af.getD j au).id<id
def Kd:=RR (AV.bN cz 0 λi=>aB ([].getD i aD))
def Ho:=LT (aK s.af)/\LT (ao s.mem)/\Kd
variable (x1:Nat)
def qrl:=qc s x1=true
def vX:=qrl s x1->qrl s x1
variable (x2:Nat)
def Kv:=qc s x2&&decide ((s.af.getD (↑x2:Int).toNat au).id<id)
def Bb:Int:=↑s.af.length+1
def FQ:=(↑x1:Int)<=(↑s.af.length:Int)
def zS:Nat:=(Bb s).toNat
def Xs:Int:=↑(zS s)
variable (x0:Nat)
def Pp:Nat:=(q9 x0).toNat
def Ht:Nat:=(Xs s - q9 x1).toNat
def Mg:=zS s=SF p b s id fn arg
end
theorem am6 (fn arg:Int) (m:bG p) (hs:cK s) (f:id<=9223372036854775807):KF 117 [vP p,co b,sM s,co id,co fn,co arg] (.ax [acm (fk p b s id fn arg).1,co (fk p b s id fn arg).2]) [fy (fk p b s id fn arg).1.af]:=by
 refine pK (rl 85 (aou p b s id fn arg)) Tryz.func117 (KN 119 [aK s.af,co id] (AV.ax [co (max (aV (dR dT (aK s.af)) id) (0:Int)),AV.bool (qrj s id)])/\(qrj s id=true->LK p b s id fn arg)/\(qrj s id=false->KN 121 [AV.mc z7 (ak p),co b,co id,co fn,co arg] (AV.ax [AV.mc zk (aq (bf (dP (ak p)) b id fn arg).fst),co (bf (dP (ak p)) b id fn arg).snd])/\(NN p b id fn arg=true->LK p b s id fn arg)/\(NN p b id fn arg=false->(∃ (i:Nat),qrk p b s id fn arg i/\(RR id/\(0:Int)=(↑i:Int))/\Ho s/\((0:Nat)=(0:Nat)/\((0:Nat)=(0:Nat)/\(0:Nat)=(0:Nat)/\(0:Nat)=(0:Nat)/\(0:Nat)=(0:Nat))/\(0:Nat)=(0:Nat))/\LS (aq (Prod.fst (bf (dP (ak p)) b id fn arg))) (aq (Prod.fst (bf p b id fn arg))))/\∀ i:Nat,qrk p b s id fn arg i->oh s/\vX s i/\vX s i/\vX s i/\(qrl s i->ai (↑i) s.af.length)/\vX s i/\vX s i/\vX s i/\vX s i/\vX s i/\(Kv s id i=true->qa i/\(∃ j,qrk p b s id fn arg j/\s.af.length - j<s.af.length - i/\(RR id/\q9 i=↑j)/\Ho s/\(LT (aK [])/\(LT (ab [])/\LT (ab [])/\LT (aJ [])/\LT (ab []))/\LT (bc []))/\LT (aq (bf p b id fn arg).fst)))/\(Kv s id i=false->oh s/\aU j6 (Bb s)/\(0<=Bb s/\Bb s<=Bb s/\↑(152:Nat)*Bb s<=(140737488355328:Int)/\Bb s<=9223372036854775807)/\((0:Int)<=(0:Int)/\(0:Int)<=↑i/\FQ s i)/\(zS s<=zS s/\Xs s<=9223372036854775807)/\ai (↑i) (zS s)/\(↑i:Int).toNat<zS s/\qa i/\(0<=q9 i/\q9 i<=Xs s/\Xs s<=Xs s)/\((0:Int)<=↑i/\FQ s i/\(↑s.af.length:Int)<=(↑s.af.length:Int))/\(Pp i+Ht s i<=zS s/\↑(Ht s i)<=(9223372036854775807:Int))/\((Mg p b s id fn arg/\LS (ao s.mem) (ao (fk p b s id fn arg).fst.mem)/\Kd)/\0=(fk p b s id fn arg).snd)/\Mg p b s id fn arg/\∀ (ar:Nat),ar<zS s->(if((↑i:Int)+1).toNat<=ar/\ar<((↑i:Int)+1).toNat+min ((↑s.af.length:Int) - (↑i:Int)).toNat ((↑((↑s.af.length:Int)+1).toNat:Int) - ((↑i:Int)+1)).toNat then aq (s.af.getD ((↑i:Int).toNat+(ar - Pp i)) au)else if ar=(↑i:Int).toNat then aq (bf p b id fn arg).fst else if ar<min ((↑i:Int) - 0).toNat ((↑s.af.length:Int)+1).toNat then aq (s.af.getD (Int.toNat 0+ar) au)else AV.agg [co 0,co 0,co 0,AV.arr 8 λx=>co 0,co 0,co 0,co 0,co 0,co 0,AV.aA])=aq ((fk p b s id fn arg).fst.af.getD ar au))))) ?_
 try delta qrj SF Vs LK NN qrk Kd Ho oh qc qrl vX q9 qa Kv Bb FQ zS Xs Pp Ht Mg
 simp only[SZ]
 simp only[pq hs.r8]
 have h1:=hs.af
 refine⟨XA _ _ h1 hs.r8,λh=>?_,λh=>⟨aaz p b id fn arg m f,λh2=>?_,λh2=>⟨⟨0,⟨ac,⟨ac,h2⟩,λj hj=>ac⟩,rfl⟩,λi hi=>⟨ac,λhc=>⟨dl,i+1,⟨ac,⟨ac,h2⟩,λj hj=>?_⟩,ac,ac⟩,λhc=>?_⟩⟩⟩⟩
 . have e:fk p b s id fn arg=(aE,30):=by unfold fk;rw[x9 h]
   rw[e];exact⟨⟨⟨rfl,dD⟩,rfl⟩,rfl⟩
 . have e:fk p b s id fn arg=(aE,30):=by unfold fk;rw[x8 h,x9 h2]
   rw[e];exact⟨⟨⟨rfl,dD⟩,rfl⟩,rfl⟩
 . by_cases e:j=i
   . subst e;exact hc.2
   . exact hi.2.2 j ac
 . have e:fk p b s id fn arg=({s with af:=iu s.af (bf p b id fn arg).1 (iD s.af id)},0):=by unfold fk;rw[x8 h,x8 (by simp[h2])]
   have hat:iD s.af id=i:=ajn _ _ _ hi.1 hi.2.2 λhlt=>ac
   have hl:=z9q s.af (bf p b id fn arg).1 i hi.1
   have n1:((s.af.length:Int)+1).toNat=s.af.length+1:=ac
   have n2:((i:Int)+1).toNat=i+1:=ac
   have n3:min ((s.af.length:Int) - (i:Int)).toNat (((s.af.length+1:Nat):Int) - ((i:Int)+1)).toNat=s.af.length - i:=ac
   have k:min i (s.af.length+1)=i:=ac
   rw[e,hat]
   simp only[n1,n2,n3,k]
   refine⟨ac,dl,⟨ac,ac,ac,ac⟩,⟨ac,hi.1⟩,ac,ac,ac,dl,⟨ac,ac⟩,hi.1,⟨ac,ac⟩,⟨⟨hl.symm,⟨trivial,λ_ _=>trivial⟩,⟨trivial,λ_ _=>trivial⟩,⟨trivial,λ_ _=>trivial⟩,trivial,λ_ _=>trivial⟩,trivial⟩,hl.symm,λj hj=>by rw[zue _ _ _ _ _ hi.1,x9 hj]⟩
abbrev jM:Prop:=∀ (m:Mem) (c id:Int),dN m ->KN 197 [vM m,co c,co id] (.ax [vM (b9 m c id).1,co (b9 m c id).2])
theorem zhr (n:Nat):dN eg/\(allI eg).length<=n:=⟨⟨ap,ap,ap,ap,ap⟩,xp _⟩
theorem zd6 (e:dN m) (i id fr f:Int):dN (bm m i id fr f).1/\(allI (bm m i id fr f).1).length<=(allI m).length:=by
 unfold bm
 split
 . exact zhr _
 . split
   . exact zhr _
   . split
     . exact zhr _
     . exact⟨⟨e.vars,by simpa using e.ae,e.aa,e.sig,e.all⟩,xm _⟩
section
variable (m:Mem) (e:Ev)
def Li:=KN 185 [AV.mc zm (ao m),co e.obj,co e.wrote] (AV.ax [AV.mc zm (ao (zr (dM (ao m)) e.obj e.wrote).fst),co (zr (dM (ao m)) e.obj e.wrote).snd])
end
section
variable (m:Mem) (t:aF) (i:aP) (e:Ev)
def qrm:=LS (ao (zr (dM (ao m)) e.obj e.wrote).fst) (ao (du m t i e).fst)
def qj2:Int:=(du m t i e).snd.fst
def QU:=1=qj2 m t i e
def vm:Int:=(du m t i e).snd.snd
def qrn:=(zr (dM (ao m)) e.obj e.wrote).snd=vm m t i e
def Vh:=e.read=qj2 m t i e
def uy:=0=qj2 m t i e
def qro:=LS (ao m) (ao (du m t i e).fst)
def qrp:=0=vm m t i e
def MO:=qro m t i e/\Vh m t i e/\qrp m t i e
def Oy:=(e.kind==1)=true
def Im:=qro m t i e/\uy m t i e/\qrp m t i e
def KT:List AV:=[co e.obj,co t.id]
def WE:List AV:=AV.mc zm (ao m)::KT t e
def Wa:Mem×Int:=bm (dM (ao m)) e.obj t.id (-1) t.id
def Mf:=ao (Wa m t e).fst
def Vd:Int:=(Wa m t e).snd
def L7:=KN 195 (WE m t e) (AV.ax [AV.mc zm (Mf m t e),co (Vd m t e)])
def IE:=LS (Mf m t e) (ao (du m t i e).fst)
def MQ:=Vd m t e=vm m t i e
def CH:Mem×Int:=bm (dM (ao m)) e.obj t.id t.id (-1)
def Ld:=ao (CH m t e).fst
def Sc:Int:=(CH m t e).snd
def Oh:Mem×Int:=bm (dM (ao m)) e.mutex t.id t.id (-1)
def qrq:=ao (Oh m t e).fst
def Ra:=AV.mc zm (qrq m t e)
def qrr:Int:=(Oh m t e).snd
def OR:Mem×Int:=b9 (dM (qrq m t e)) e.obj t.id
def Fi:=ao (OR m t e).fst
def Jk:Int:=(OR m t e).snd
def T0:=qrr m t e==0
def Yr:List AV:=[AV.mc zm (ao m),co e.obj]
def Yi:=ao (zi (dM (ao m)) e.obj 1).fst
def qj3:Int×Int:=(zi (dM (ao m)) e.obj 1).snd
def qel:Int:=(qj3 m e).snd
def qrs:Mem×Int×Int:=zi (dM (ao m)) e.obj (eZ (dR (dR dI) (aJ m.aa)))
def WW:=ao (qrs m e).fst
def qj4:Int×Int:=(qrs m e).snd
def WN:Int:=(qj4 m e).snd
def Tj:=((e.kind==11)=true->((e.read==0)=true->Im m t i e)/\((e.read==0)=false->L7 m t e/\IE m t i e/\QU m t i e/\MQ m t i e))/\((e.kind==11)=false->((e.kind==9)=true->L7 m t e/\IE m t i e/\uy m t i e/\MQ m t i e)/\((e.kind==9)=false->((e.kind==10)=true->KN 196 (WE m t e) (AV.ax [AV.mc zm (Ld m t e),co (Sc m t e)])/\LS (Ld m t e) (ao (du m t i e).fst)/\uy m t i e/\Sc m t e=vm m t i e)/\((e.kind==10)=false->((e.kind==12)=true->KN 196 [AV.mc zm (ao m),co e.mutex,co t.id] (AV.ax [Ra m t e,co (qrr m t e)])/\(T0 m t e=true->KN 197 (Ra m t e::KT t e) (AV.ax [AV.mc zm (Fi m t e),co (Jk m t e)])/\LS (Fi m t e) (ao (du m t i e).fst)/\uy m t i e/\Jk m t e=vm m t i e)/\(T0 m t e=false->LS (qrq m t e) (ao (du m t i e).fst)/\uy m t i e/\qrr m t e=vm m t i e))/\((e.kind==12)=false->((e.kind==13)=true->KN 198 [AV.mc zm (ao m),co t.id] (AV.ax [AV.mc zm (ao (eh (dM (ao m)) t.id).fst),co (eh (dM (ao m)) t.id).snd])/\LS (ao (eh (dM (ao m)) t.id).fst) (ao (du m t i e).fst)/\uy m t i e/\(eh (dM (ao m)) t.id).snd=vm m t i e)/\((e.kind==13)=false->((e.kind==14)=true->KN 199 (Yr m e) (AV.ax [AV.mc zm (Yi m e),co (qj3 m e).fst,co (qel m e)])/\LS (Yi m e) (ao (du m t i e).fst)/\uy m t i e/\qel m e=vm m t i e)/\((e.kind==14)=false->((e.kind==15)=true->KN 200 (Yr m e) (AV.ax [AV.mc zm (WW m e),co (qj4 m e).fst,co (WN m e)])/\LS (WW m e) (ao (du m t i e).fst)/\uy m t i e/\WN m e=vm m t i e)/\((e.kind==15)=false->((e.kind==16)=true->qro m t i e/\e.obj=qj2 m t i e/\qrp m t i e)/\((e.kind==16)=false->Im m t i e))))))))
def VI:=(e.kind==1)=false
end
theorem aft (m:Mem) (t:aF) (i:aP) (e:Ev) (f:dN m) (j:jM):KN 115 [vM m,vT t,vI i,dg e] (.ax [vM (du m t i e).1,co (du m t i e).2.1,co (du m t i e).2.2]):=by
 refine Kn (rl 132 λ_=>none) Tryz.func115 (((e.kind==5)=true->Li m e/\((i.op==12)=true->qrm m t i e/\QU m t i e/\qrn m t i e)/\((i.op==12)=false->qrm m t i e/\Vh m t i e/\qrn m t i e))/\((e.kind==5)=false->((e.kind==2)=true->Li m e/\qrm m t i e/\uy m t i e/\qrn m t i e)/\((e.kind==2)=false->(Oy e->(Oy e->MO m t i e)/\(VI e->Tj m t i e))/\(VI e->((e.kind==8)=true->MO m t i e)/\((e.kind==8)=false->Tj m t i e))))) ?_
 try delta Li qrm qj2 QU vm qrn Vh uy qro qrp MO Oy Im KT WE Wa Mf Vd L7 IE MQ CH Ld Sc Oh qrq Ra qrr OR Fi Jk T0 Yr Yi qj3 qel qrs WW qj4 WN Tj VI
 simp only[SZ]
 have L:∀ {x:Mem} {u v:Int},du m t i e=(x,u,v) ->LS (ao x) (ao (du m t i e).1)/\u=(du m t i e).2.1/\v=(du m t i e).2.2:=λh=>by rw[h];exact⟨er rfl,rfl,rfl⟩
 refine⟨λh5=>⟨zjb _ _ _ f,λh=>L ?_,λh=>L ?_⟩,λh5=>⟨λh2=>⟨zjb _ _ _ f,L ?_⟩,λh2=>⟨λh1=>⟨λ_=>L ?_, ?_⟩,λh1=>⟨λh8=>L ?_,λh8=>⟨λh11=>⟨λh=>L ?_,λh=>⟨aaw _ _ _ f,L ?_⟩⟩,λh11=>⟨λh9=>⟨aaw _ _ _ f,L ?_⟩,λh9=>⟨λh10=>⟨abb _ _ _ f,L ?_⟩,λh10=>⟨λh12=>⟨abb _ _ _ f,λh=>⟨j _ _ _ (zd6 f _ _ _ _).1,L ?_⟩,λh=>L ?_⟩,λh12=>⟨λh13=>⟨am4 _ _ f,L ?_⟩,λh13=>⟨λh14=>⟨agj _ _ f,L ?_⟩,λh14=>⟨λh15=>⟨agh _ _ f,L ?_⟩,λh15=>⟨λh16=>L ?_,λh16=>L ?_⟩⟩⟩⟩⟩⟩⟩⟩⟩⟩⟩⟩
 rotate_left 4
 . omega
 all_goals clear L j f
 all_goals simp[du, *,not_false_eq_true,not_true_eq_false]
theorem zm1 (l:List aF) (id:Int):∀ n,n<=l.length ->0<=fm l id n ->(fm l id n).toNat<l.length/\(l.getD (fm l id n).toNat au).id=id
 |0,_,h=>absurd (show(0:Int)<= -1 from h) ap
 |n+1,f,h=>by
  unfold fm at h ⊢
  split at h
  . rename_i e;rw[x9 e,j7];exact⟨ac,e⟩
  . rename_i e;rw[x8 e];exact zm1 l id n ac h
theorem pT {l:List aF} {id:Int} (h:0<=aV l id):(aV l id).toNat<l.length/\(l.getD (aV l id).toNat au).id=id:=zm1 l id _ (xm _) h
theorem zrb (l:List aF) (id:Int) (k:Nat) (j:k<l.length) (e:(l.getD k au).id=id):∀ n,n<=l.length ->l.length - n<=k ->0<=fm l id n
 |0,_,h=>ac
 |n+1,m,h=>by
  unfold fm
  split
  . omega
  . rename_i i
    refine zrb l id k j e n ac ?_
    rcases jt k (l.length - n)with f |f
    . have :k=l.length - (n+1):=ac
      grind
    . exact f
theorem zm2 {l:List aF} {id:Int} {k:Nat} (f:k<l.length) (e:(l.getD k au).id=id):0<=aV l id:=zrb l id k f e _ (xm _) (ac)
theorem zrc {l:List aF} {id:Int} (t:aF) {n:Nat} (e:n<=l.length) (h:0<=aV l id):0<=aV (iu l t n) id:=by
 have⟨j,f⟩:=pT h
 have hl:=z9q l t n e
 by_cases i:(aV l id).toNat<n
 . exact zm2 (k:=(aV l id).toNat) ac (by rw[z9r _ _ _ e,x9 i];exact f)
 . exact zm2 (k:=(aV l id).toNat+1) ac (by rw[z9r _ _ _ e,x8 ac,x8 ac,Nat.add_sub_cancel];exact f)
theorem zm3 (l:List (List Int)):∀ (i:Nat) (v:List Int),i<l.length ->(l.set i v).flatten.length+(l.getD i []).length=l.flatten.length+v.length:=by
 induction l with
 |nil=>intro i v h;simp at h
 |cons x l e=>
  intro i v h
  cases i with
  |zero=>simp;omega
  |succ i=>
   have :=e i v (by simpa using h)
   simp only[List.set_cons_succ,List.flatten_cons,xl,List.getD_cons_succ];omega
theorem z7v (m:Mem):(allI m).length=m.sig.length+m.aa.flatten.length:=by unfold allI;rw[xl]
def tS (m m':Mem):Prop:=dN m'/\(allI m').length<=(allI m).length+1
theorem Ba (m:Mem):tS m eg:=⟨(zhr 0).1,(zhr _).2⟩
theorem zhs (e:dN m) (x v:Int):tS m (zr m x v).1:=by
 unfold zr
 split
 . exact Ba m
 . split
   . exact Ba m
   . exact⟨⟨by simpa using e.vars,e.ae,e.aa,e.sig,e.all⟩,Nat.le_succ _⟩
theorem aj9 (f:dN m) (i id fr e:Int):tS m (bm m i id fr e).1:=⟨(zd6 f i id fr e).1,Nat.le_succ_of_le (zd6 f i id fr e).2⟩
theorem ahh (e:dN m) (h:(allI m).length<400000) (c id:Int):tS m (b9 m c id).1:=by
 unfold b9
 split
 . exact Ba m
 . rename_i f
   split
   . exact Ba m
   . split
     . exact Ba m
     . have k:=ma (yk.1 f)
       have j:=zm3 m.aa c.toNat (m.aa.getD c.toNat []++[id]) ac
       have o:=z7v m
       have i:=z7v {m with aa:=m.aa.set c.toNat (m.aa.getD c.toNat []++[id])}
       simp only[xl,yz,List.length_nil]at j i
       suffices h:tS m {m with aa:=m.aa.set c.toNat (m.aa.getD c.toNat []++[id])}from h
       exact⟨⟨e.vars,e.ae,by simpa using e.aa,e.sig,ac⟩,ac⟩
theorem zuf (e:dN m) (id:Int):tS m (eh m id).1:=by
 unfold eh
 split
 . exact Ba m
 . split
   . exact Ba m
   . have k:(dt m.sig id).length<=m.sig.length:=zj5 _ _
     have j:=e.all
     have i:=z7v m
     have f:=z7v {m with sig:=dt m.sig id}
     simp only at f
     suffices h:tS m {m with sig:=dt m.sig id}from h
     exact⟨⟨e.vars,e.ae,e.aa,by show(dt m.sig id).length<=_;omega,ac⟩,ac⟩
theorem zrd (e:dN m) (c n:Int):tS m (zi m c n).1:=by
 unfold zi
 split
 . exact Ba m
 . rename_i i
   have r:=ma (yk.1 i)
   generalize (min n ((m.aa.getD c.toNat []).length:Int)).toNat=k
   have o:=zle ((m.aa.getD c.toNat []).take k) m.sig
   have j:=zm3 m.aa c.toNat ((m.aa.getD c.toNat []).drop k) ac
   have u:=z7v m
   have f:=z7v (A7 m c.toNat k)
   have s:=e.all
   unfold A7 at f ⊢
   simp only[xu,ws]at o j f
   suffices h:tS m {m with sig:=((m.aa.getD c.toNat []).take k).foldl cu m.sig,aa:=m.aa.set c.toNat ((m.aa.getD c.toNat []).drop k)}from h
   refine⟨⟨e.vars,e.ae,by simpa using e.aa, ?_,ac⟩,ac⟩
   show(((m.aa.getD c.toNat []).take k).foldl cu m.sig).length<=_
   omega
theorem zre (f:dN m) (h:(allI m).length<400000) (t:aF) (i:aP) (e:Ev):tS m (du m t i e).1:=by
 have refl:tS m m:=⟨f,Nat.le_succ _⟩
 unfold du
 repeat' split
 all_goals first
  |exact refl
  |exact zhs f _ _
  |exact aj9 f _ _ _ _
  |exact zuf f _
  |exact zrd f _ _
  |skip
 have j:=zd6 f e.mutex t.id t.id (-1)
 have :=ahh j.1 ac e.obj t.id
 exact⟨this.1,y6 this.2 ac⟩
theorem zug (i:aP) (e:Ev):(bJ s t i e).kind≠16:=by
 unfold bJ
 simp only
 repeat' split
 all_goals simp
theorem zrf (i:aP) (e:Ev):(jz t i e).kind≠16:=by
 unfold jz
 repeat' split
 all_goals simp
theorem z9s {s:ah} {t:aF} {i:aP} (h:(aT s t i).kind=16):i.op=21/\(aT s t i).obj=fZ t:=by
 by_cases e:i.op=21
 . exact⟨e,by simp[aT,e]⟩
 . exfalso
   grind[aT,zrf,zug]
theorem z9t:fZ t<=1000000:=by
 unfold fZ
 split
 . rename_i h
   unfold cV at h
   simp at h
   have :=yO (id:=t.id) ac
   omega
 . decide
theorem zji {p:aj} {b id fn arg:Int} (f:bG p) (e:id<=9223372036854775807):eL (bf p b id fn arg).1:=by
 unfold bf
 split
 . exact sV
 . rename_i h
   split
   . exact sV
   . split
     . exact sV
     . rename_i i
       split
       . exact sV
       . exact(zjc ⟨f,(mF (yk.1 h)).1⟩ (zfj e ac)).ok
theorem zm4 {p:aj} {b:Int} {t:aF} {r:Int} (i:bG p) (f:eL t):eL (cy p b t r).1:=by
 unfold cy
 split
 . exact sV
 . rename_i h
   split
   . exact sV
   . rename_i e
     split
     . exact sV
     . rename_i hs
       split
       . exact sV
       . have P:kP p:=⟨i,(mF (yk.1 h)).1⟩
         exact(zjc P (zj7 P f (by simpa using e) (yk.1 hs) r)).ok
theorem zjj {l:List aF} {t:aF} {k:Nat} (f:k<=l.length) (h:∀ j,eL (l.getD j au)) (e:eL t) (j:Nat):eL ((iu l t k).getD j au):=by
 rw[z9r _ _ _ f]
 split
 . exact h j
 . split
   . exact e
   . exact h _
theorem zfy {l:List aF} {t:aF} {k:Nat} (h:∀ j,eL (l.getD j au)) (e:eL t) (j:Nat):eL ((l.set k t).getD j au):=by
 rw[x7,j8]
 split
 . split
   . exact e
   . exact sV
 . simp_all
def aae:AV:= .mc aM (.agg [.own 0 s.af.length,ao s.mem,zud])
def cF:aF:=(bn p s a).1
def cq:aP:=(bn p s a).2.1
def c4:Ev:=aT s (cF p s a) (cq p s a)
def dx:Mem×Int×Int:=du s.mem (cF p s a) (cq p s a) (c4 p s a)
def iZ:ah×Int:=fk p b ⟨s.af,(dx p s a).1,[]⟩ (c4 p s a).obj (cq p s a).obj (bz (cF p s a) (cq p s a).b)
def iP:aF×Int:=cy p b (cF p s a) (dx p s a).2.1
def oSm:FuncId ->List AV ->Option AV
 |111,_=>some (co (aX p b))
 |103,_=>some (.bool (c9 p b s))
 |112,_=>some (.ax [vT (cF p s a),vI (cq p s a), .bool (bn p s a).2.2])
 |105,_=>some (.bool (z20 s (cF p s a) (cq p s a)))
 |113,_=>some (dg (c4 p s a))
 |114,_=>some (aae s)
 |115,_=>some (.ax [vM (dx p s a).1,co (dx p s a).2.1,co (dx p s a).2.2])
 |116,_=>some (vM (dx p s a).1)
 |118,_=>some (.ax [vT (iP p b s a).1,co (iP p b s a).2])
 |119,[.seq _ n f, .int _ i]=>some (.ax [co (max (aV (dR dT (.seq zk n f)) i) 0), .bool (decide (0<=aV (dR dT (.seq zk n f)) i))])
 |_,_=>none
noncomputable def acn (p:aj) (b:Int) (s:ah) (a:Int) (n:Nat):bt:={jY n with
 fresh:=λf _=>match Nat.beq f 114 with |true=>some [fy s.af] |false=>none,
 mkr:=λ_ _=>some (.ax [acm (iZ p b s a).1,co (iZ p b s a).2],fy (iZ p b s a).1.af),oC:=λf _=>Nat.beq f 117}
theorem zuh (n:Nat):cf (acn p b s a n):=mC (am)
noncomputable def vSm (p:aj) (b:Int) (s:ah) (a:Int) (n:Nat):bj:={C:=acn p b s a n,CC:=aL Tryz.prog GG,bb:=λ_ _=>oSm p b s a,inv:=λ_=>none,fz:=λk=>match Nat.beq k 16 with |true=>[258048] |false=>[]}
noncomputable def zyc (n:Nat):bt:={dc n λ_ _=>false with oF:=λd=>Nat.beq d 42}
theorem zrg (n:Nat):cf (zyc n):=mC (am)
noncomputable def am8 (n:Nat) (inv:Nat ->Option Inv):bj:={C:=zyc n,CC:=aL Tryz.prog GG,bb:=λ_ _=>ad7,inv:=inv}
def zyd:Option Inv:=match Nat.beq k 5 with
 |true=>iv s.af.length λi=>⟨[(1, .ptr 1 []),(2, .ptr 2 []),(3, .ptr 3 []),(22,co s.af.length),(23,co i)],[(1,fJ s),(2,fJ aE),(3, .cell 41 aM (.agg [.own 13 s.af.length,ao s.mem, .aA])),(13,fy s.af)]⟩
 |false=>match Nat.beq k 12 with
  |true=>iv s.ag.length λi=>⟨[(1, .ptr 1 []),(2, .ptr 2 []),(3, .ptr 3 []),(51,co s.ag.length),(52,co i)],[(1,fJ s),(2,fJ aE),(3, .cell 41 aM (.agg [.own 13 s.af.length,ao s.mem, .bS 42 0 s.ag.length true])),(13,fy s.af),(42,ky s.ag)]⟩
  |false=>none
end
end Go.Proofs.S25
