import Derived.Test.YtcfagpelpjdmaaaGreatDoorXzi
namespace Go.Proofs.S25
open Go Go.AV
open Go.IntKind renaming i64 -> j6
open Go.AV.Shape (leaf)
noncomputable section
variable {l:List cg} (m:Mem) {p:aj} {b:Int} {s:ah} {k:Nat} {a:Int} {i:Nat} {n:Nat}
def BM (p:aj) (s:ah) (j:Nat):List Int:=
 (if lf p s (s.af.getD j au).id then [(s.af.getD j au).id]else [])++(if lf p s (dr (s.af.getD j au).id)then [dr (s.af.getD j au).id]else [])
def iI (p:aj) (s:ah) (i:Nat):List Int:=(List.range i).flatMap (BM p s)
def oR7 (p:aj) (s:ah):FuncId ->List AV ->Option AV
 |75,[.seq _ n f]=>some (ab (bH (zw n f)))
 |f,l=>oR6 p s 0 f l
theorem AD (e:dy p b s=true) {j:Nat} (f:j<s.af.length):0<=(s.af.getD j au).id/\(s.af.getD j au).id<=74896:=
 yO (sj (o7.1 ((z12.1 e).2.2 j f).1.1).2).id
theorem zm6 (e:dy p b s=true):∀ j,j<s.af.length ->lD p b s.af j:=λj f=>((z12.1 e).2.2 j f).1
theorem ac1 {p:aj} {b:Int} {s:ah} (e:dy p b s=true):∀ j,j<s.af.length ->(j:Int)<=(s.af.getD j au).id
 |0,h=>(AD e h).1
 |j+1,h=>by
  have i:=ac1 e j ac;have f:=YQ (zm6 e) (j+1) j ac h;omega
theorem zhw (e:dy p b s=true):s.af.length<=74897:=by
 by_cases h:s.af.length=0
 . omega
 . have i:=ac1 e (s.af.length - 1) ac;have f:=AD e (j:=s.af.length - 1) ac;omega
theorem am3 {n:Int} (h:0<=n):b7 n=n:=by unfold b7;rw[x8 ac]
theorem Yu {n:Int} (h:0<=n):dr n= -n - 1:=by unfold dr;rw[x8 ac]
theorem agw {n:Int} (h:0<=n):b7 (dr n)=n:=by rw[Yu h];unfold b7;rw[x9 ac];omega
theorem ae6 (e:dy p 32 s=true) {j:Nat} (f:j<s.af.length):lf p s (s.af.getD j au).id=gU p s j (cY p (bX s)):=by
 have h:=AD e f;unfold lf;rw[am3 h.1,zg0 (zm6 e) f,x8 ac,j3 ac,wd,j7]
theorem ach (e:dy p 32 s=true) {j:Nat} (f:j<s.af.length):lf p s (dr (s.af.getD j au).id)=decide (0<(s.ag.getD j aD).entries.length):=by
 have h:=AD e f;unfold lf;rw[agw h.1,zg0 (zm6 e) f,x9 (by rw[Yu h.1];omega),j3 ac,wd,j7]
theorem z130 (p:aj) (s:ah) (j:Nat):(BM p s j).length<=2:=by
 unfold BM;rw[xl];split<;>split<;>simp
theorem abk (p:aj) (s:ah) (i:Nat):iI p s (i+1)=iI p s i++BM p s i:=by
 unfold iI;rw[List.range_succ,List.flatMap_append,List.flatMap_singleton]
theorem zjq (p:aj) (s:ah):∀ i,(iI p s i).length<=2*i
 |0=>xm _
 |i+1=>by
  rw[abk,xl];have :=zjq p s i;have :=z130 p s i;omega
theorem afz (h:dy p 32 s=true):Ris (dq p s):=by
 have R:=YQ (zm6 h);have hlen:=(z12.1 h).2.1;have o:∀ j,j<s.ag.length ->(s.ag.getD j aD).aC=(s.af.getD j au).id:=λj f=>(qG.1 ((z12.1 h).2.2 j ac).2).2.1;unfold dq Ris;rw[List.pairwise_append];refine⟨?_, ?_,λa z b H=>?_⟩
 . unfold dY;rw[List.pairwise_reverse,List.drop_zero,List.pairwise_map];refine List.Pairwise.filter _ ?_;rw[wn];intro i j r f m;have e:∀ k (y:k<s.ag.length),s.ag[k].aC=(s.af.getD k au).id:=λk y=>by
    rw[<- o k y,x7,xe y];rfl
   rw[e i r,e j f];have :=R j i m ac;have E:=AD h (j:=i) ac;have F:=AD h (j:=j) ac;rw[Yu E.1,Yu F.1];omega
 . unfold lu;rw[List.pairwise_map];refine List.Pairwise.filter _ ?_;rw[wn];intro i j r f m;simp;rw[List.length_range]at f;exact R j i m f
 . unfold dY at z;rw[List.mem_reverse,ge]at z;obtain⟨u,x,rfl⟩:=z;have⟨x,_⟩:=yn.1 x;rw[List.drop_zero]at x;obtain⟨i,r,rfl⟩:=w6 x;obtain⟨j,f,rfl⟩:=ge.1 H;have⟨f,_⟩:=yn.1 f;rw[yu]at f;have e:s.ag[i].aC=(s.af.getD i au).id:=by rw[<- o i r,x7,xe r];rfl
   have E:=AD h (j:=i) ac;have F:=AD h f;rw[e,Yu E.1];omega
theorem zrz (i:dy p 32 s=true):bH (iI p s s.af.length)=dq p s:=by
 have hlen:=(z12.1 i).2.1;have o:∀ j,j<s.ag.length ->(s.ag.getD j aD).aC=(s.af.getD j au).id:=λj h=>(qG.1 ((z12.1 i).2.2 j ac).2).2.1;refine BD (uU _) (afz i) λx=>?_;rw[z59];unfold iI dq dY lu;rw[List.mem_flatMap,y4,List.mem_reverse,ge,ge,List.drop_zero];constructor
 . rintro⟨j,h,f⟩;rw[yu]at h;unfold BM at f;rw[ae6 i h,ach i h,y4]at f;rcases f with f |f
   . split at f
     . rename_i k;rw[xz]at f;exact .inr ⟨j,yn.2 ⟨yu.2 h,k⟩,f.symm⟩
     . cases f
   . split at f
     . rename_i k;grind
     . cases f
 . rintro(⟨u,m,f⟩ | ⟨j,h,f⟩)
   . have⟨m,k⟩:=yn.1 m;obtain⟨j,h,rfl⟩:=w6 m;have e:s.ag[j]=s.ag.getD j aD:=by rw[x7,xe h];rfl
     rw[e]at k f;refine⟨j,yu.2 ac, ?_⟩;unfold BM;rw[ach i ac,y4,x9 k,<- f,o j h];grind
   . have⟨h,k⟩:=yn.1 h;refine⟨j,h, ?_⟩;rw[yu]at h;unfold BM;rw[ae6 i h,y4,x9 k,<- f];grind
def vR7 (p:aj) (s:ah) (n:Nat) (I:Nat ->Option Inv):bj:={C:=dc n λ_ _=>false,CC:=aL Tryz.prog GG,bb:=λ_ _=>oR7 p s,inv:=I}
def aku (p:aj) (s:ah) (k:Nat):Option Inv:=match Nat.beq k 5 with
 |true=>iv s.af.length λi=>⟨[(2, .ptr 2 []),(3, .ptr 3 []),(5, .own 8 (iI p s i).length),(6,co i)],[(2,jO p),(3,fJ s),(8,bI (iI p s i))]⟩
 |false=>none
theorem amb (L:List Int) (x y:Int) (j:Nat) (f:j<L.length+1+1):(if j<L.length+1 then(if j<L.length then AV.int .i64 (L.getD j 0)else((List.replicate 1 (AV.int .i64 0)).set 0 (AV.int .i64 x)).getD (j - L.length) AV.any)else((List.replicate 1 (AV.int .i64 0)).set 0 (AV.int .i64 y)).getD (j - (L.length+1)) AV.any)=AV.int .i64 (((L++[x])++[y]).getD j 0):=by
 have e:=lW (L++[x]) y j ci;rw[xl,List.length_singleton]at e;unfold co at e;rw[<- e];split
 . exact lW L x j ‹_›
 . rfl
section
variable (p:aj) (s:ah) (x2:Nat)
def Hh:=co ((dk p s).getD x2 0)
def To:=0=(iI p s x2).length
variable (x3:Nat)
def uG:=co ((iI p s x2).getD x3 0)
variable (x1:Nat)
def Oc:List AV:=[WK s x1]
def qsx:=lf p s (s.af.getD (↑x2:Int).toNat au).id
def AY:Nat:=(iI p s x2).length+1
def HV:=RR (iI p s x2).length/\↑(AY p s x2)*↑(8:Nat)<=(140737488355328:Int)/\AY p s x2<=9223372036854775807
def qsy:=co (dr (s.af.getD (↑x1:Int).toNat au).id)
def qjs:=KN 74 (Oc s x1) (qsy s x1)
def qsz:=lf p s (dr (s.af.getD (↑x2:Int).toNat au).id)
def Ww:=KN 73 [AV.mc z7 (ak p),AV.mc aM (ze s),qsy s x2] (AV.bool (qsz p s x2))
def qjt:Nat:=AY p s x2+1
def CT:=qjt p s x2=(iI p s x3).length
def Q8:Nat:=x3 - (iI p s x2).length
def I2:=if x3<(iI p s x2).length then uG p s x2 x3 else(oI.set 0 (av (av (WK s x2)))).getD (Q8 p s x2 x3) AV.any
def Ob:List AV:=oI.set 0 (av (qsy s x1))
def Ef:=qsz p s x2=true
def qt0:=AY p s x2=(iI p s x3).length
def EI:=qt0 p s x2 x3/\qb x2 x3
def Ls:=x3<AY p s x2
def SH:=qsz p s x2=false
def HB:=(iI p s x2).length=(iI p s x3).length
def Ju:=(iI p s x2).length<=(iI p s x2).length
def qt1:List Int:=bH (zw (iI p s x2).length λi=>uG p s x2 i)
def UQ:Nat:=(qt1 p s x2).length
end
theorem ajc (p:aj) (s:ah) (k:bG p) (hs:cK s):KN 45 [vP p,cj s] (ab (dk p s)):=by
 refine Kn (vR7 p s 47 (aku p s)) Tryz.func45 (0*leaf.size<=16777216/\KN 72 [AV.mc z7 (ak p),co (32:Int),AV.mc aM (ze s)] (AV.bool (dy p (32:Int) s))/\((!dy p 32 s)=true->0<=0/\0=(dk p s).length/\∀ i:Nat,i<0->qa6 i=Hh p s i)/\((!dy p 32 s)=false->(∃ i,i<=s.af.length/\(To p s i/\(0:Int)=↑i)/\LS (ak p) (ak p)/\LS (ze s) (ze s)/\To p s i/\∀ (ar:Nat),ar<(0:Nat)->qa6 ar=uG p s i ar)/\∀ i:Nat,i<=s.af.length->↑s.af.length<=(9223372036854775807:Int)/\(qc s i=true->ai (↑i) s.af.length/\KN 73 (AV.mc z7 (ak p)::AV.mc aM (ze s)::Oc s i) (AV.bool (qsx p s i))/\(qsx p s i=true->qr/\HV p s i/\qf/\qjs s i/\Ww p s i/\(Ef p s i->qjs s i/\qr/\(RR (AY p s i)/\↑(qjt p s i)*↑(8:Nat)<=(140737488355328:Int)/\qjt p s i<=9223372036854775807)/\qf/\qa i/\(∃ j,j<=s.af.length/\nu s i j/\(CT p s i j/\qb i j)/\LS (ak p) (ak p)/\LS (ze s) (ze s)/\CT p s i j/\∀ (ar:Nat),ar<qjt p s i->(if ar<(iI p s i).length+1 then I2 p s i ar else(Ob s i).getD (ar - AY p s i) AV.any)=uG p s j ar))/\(SH p s i->qa i/\(∃ j,j<=s.af.length/\nu s i j/\EI p s i j/\LS (ak p) (ak p)/\LS (ze s) (ze s)/\qt0 p s i j/\∀ (ar:Nat),Ls p s i ar->I2 p s i ar=uG p s j ar)))/\(qsx p s i=false->qjs s i/\Ww p s i/\(Ef p s i->qjs s i/\qr/\HV p s i/\qf/\qa i/\(∃ j,j<=s.af.length/\nu s i j/\EI p s i j/\LS (ak p) (ak p)/\LS (ze s) (ze s)/\qt0 p s i j/\∀ (ar:Nat),Ls p s i ar->(if ar<(iI p s i).length then uG p s i ar else(Ob s i).getD (Q8 p s i ar) AV.any)=uG p s j ar))/\(SH p s i->qa i/\(∃ j,j<=s.af.length/\nu s i j/\(HB p s i j/\qb i j)/\LS (ak p) (ak p)/\LS (ze s) (ze s)/\HB p s i j/\∀ (ar:Nat),ar<(iI p s i).length->uG p s i ar=uG p s j ar))))/\(qc s i=false->Ju p s i/\Ju p s i/\KN 75 [ab (iI p s i)] (ab (qt1 p s i))/\UQ p s i=(dk p s).length/\∀ (ar:Nat),ar<UQ p s i->co ((qt1 p s i).getD ar 0)=Hh p s ar))) ?_;try delta qa6 Hh To uG WK Oc qsx qr AY HV qf qsy qjs qsz Ww qjt q9 qa nu CT qb oI Q8 I2 Ob Ef qt0 EI Ls SH HB qc Ju qt1 UQ
 simp only[SZ];have r:∀ i,zw (iI p s i).length (λj=>co ((iI p s i).getD j 0))=iI p s i:=λi=>by rw[za9 (xm _),List.take_length]
 simp only[r];refine⟨ap,zrx p 32 s k hs,λh=>?_,λhv=>⟨⟨0,ac,eq,rfl,λj hj=>ac⟩,λi hi=>⟨by have :=zhw hv;omega,λhlt=>?_,λhge=>?_⟩⟩⟩
 . unfold dk;rw[x8 (by simp[h])];exact⟨rfl,λj hj=>ac⟩
 . have hid:=AD hv hlt;have u:=zhw hv;have hl:=zjq p s i;have o:jS (s.af.getD i au).id:=ey;have b2:jS (dr (s.af.getD i au).id):=by rw[Yu hid.1];exact ey
   have f:=ao2 _ o;have k1:=aab p s _ k hs o hv;have m:=aab p s _ k hs b2 hv;have hO:iI p s (i+1)=iI p s i++((if lf p s (s.af.getD i au).id then [(s.af.getD i au).id]else [])++(if lf p s (dr (s.af.getD i au).id)then [dr (s.af.getD i au).id]else [])):=abk p s i;refine⟨hlt,k1,λh1=>⟨ap,ey,f,m,λh2=>⟨f,ap,ey,dl,i+1,ac,ac, ?_⟩,λh2=>⟨dl,i+1,ac,ac, ?_⟩⟩,λh1=>⟨f,m,λh2=>⟨f,ap,ey,dl,i+1,ac,ac, ?_⟩,λh2=>⟨dl,i+1,ac,ac, ?_⟩⟩⟩
   . simp only[h1,h2,wy]at hO;rw[<- ww]at hO;rw[hO];exact⟨⟨be,ac⟩,be,λj hj=>amb _ _ _ j hj⟩
   . simp only[h1,h2,yr,yp,wy,yg]at hO;rw[hO];exact⟨⟨be,ac⟩,be,λj hj=>lW _ _ j hj⟩
   . simp only[h1,h2,yr,yp,wy,List.nil_append]at hO;rw[hO];exact⟨⟨be,ac⟩,be,λj hj=>lW _ _ j hj⟩
   . grind
 . have u:=zhw hv;have hl:=zjq p s i;have e:bH (iI p s i)=dk p s:=by
    unfold dk;rw[x9 hv,show i=s.af.length from ac];exact zrz hv
   exact⟨zw4 _ ac,by rw[e],λj _=>by rw[e]⟩
theorem aka (h:dy p b s=true):dy p 32 s=true:=by
 have⟨k,i,f⟩:=z12.1 h;exact z12.2 ⟨k,i,λj e=>⟨⟨zjn (f j e).1.1,(f j e).1.2⟩,(f j e).2⟩⟩
theorem ag9 (f:dy p 32 s=true) (h:aW (dq p s) a=true):lf p s a=true:=by
 rw[zcu,<- zrz f,z59]at h;have⟨j,_,e⟩:=List.mem_flatMap.1 h;rcases y4.1 e with e |e
 . grind
 . grind
theorem zs0 (x:dy p 32 s=true) (h:aW (dq p s) a=true):0<=aV s.af (b7 a)/\zf p s a=zu p s a/\
 ((a<0/\0<(s.ag.getD (bg s a) aD).entries.length/\(zf p s a).1.kind=4/\(zf p s a).1.obj=((s.ag.getD (bg s a) aD).entries.getD 0 cw).var/\(zf p s a).1.wrote=((s.ag.getD (bg s a) aD).entries.getD 0 cw).val)∨
  (¬ a<0/\cH p (s.af.getD (bg s a) au)=true/\
   ((((zg p (s.af.getD (bg s a) au)).op=8∨(zg p (s.af.getD (bg s a) au)).op=14)/\((zf p s a).1.kind=1∨(zf p s a).1.kind=8)/\(zf p s a).1.read=(gQ s (bg s a) (zg p (s.af.getD (bg s a) au)).obj).1)∨
    ((zg p (s.af.getD (bg s a) au)).op=9/\(zf p s a).1.kind=3/\(zf p s a).1.obj=(zg p (s.af.getD (bg s a) au)).obj/\(zf p s a).1.wrote=bz (s.af.getD (bg s a) au) (zg p (s.af.getD (bg s a) au)).b/\(zf p s a).1.read=0)∨
    (((¬ (zg p (s.af.getD (bg s a) au)).op=8/\¬ (zg p (s.af.getD (bg s a) au)).op=14)/\¬ (zg p (s.af.getD (bg s a) au)).op=9)/\zf p s a=bA p (bX s) a)))):=by
 have f:=ag9 x h
 unfold lf at f
 rw[xa,xd]at f
 have⟨z,f⟩:=f
 have u:zf p s a=zu p s a:=by unfold zf;rw[x8 (by simp[x])]
 have j:zf p s a=if a<0 then cD s (bg s a)else c8 p s (bg s a):=by rw[u];unfold zu;rw[x8 ac];rfl
 refine⟨z,u, ?_⟩
 by_cases i:a<0
 . rw[x9 i,xd]at f
   have f:0<(s.ag.getD (bg s a) aD).entries.length:=f
   rw[x9 i]at j
   have e:cD s (bg s a)=(⟨dr (s.af.getD (bg s a) au).id,(s.ag.getD (bg s a) aD).first,4,((s.ag.getD (bg s a) aD).entries.getD 0 cw).var,-1,(s.ag.getD (bg s a) aD).first,0,0,((s.ag.getD (bg s a) aD).entries.getD 0 cw).val⟩,true):=by unfold cD;rw[x8 ac]
   rw[j,e]
   exact .inl ⟨i,f,rfl,rfl,rfl⟩
 . rw[x8 i]at f j
   have f:gU p s (bg s a) (cY p (bX s))=true:=f
   have m:cH p (s.af.getD (bg s a) au)=true:=by
    cases E:cH p (s.af.getD (bg s a) au)with
    |true=>rfl
    |false=>rw[aa7 E]at f;cases f
   refine .inr ⟨i,m, ?_⟩
   have r:(s.af.getD (bg s a) au).id=a:=by
    have :=(pT z).2
    unfold b7 at this
    rw[x8 i]at this
    unfold bg b7
    rw[x8 i];exact this
   by_cases y:(zg p (s.af.getD (bg s a) au)).op=8∨(zg p (s.af.getD (bg s a) au)).op=14
   . refine .inl ⟨y, ?_⟩
     rw[j,zhn m y]
     refine⟨?_,rfl⟩
     by_cases k:(zg p (s.af.getD (bg s a) au)).op=14
     . exact .inr (x9 k)
     . exact .inl (x8 k)
   . by_cases o:(zg p (s.af.getD (bg s a) au)).op=9
     . refine .inr (.inl ⟨o, ?_⟩)
       rw[j,zqr m o]
       exact eq
     . refine .inr (.inr ⟨⟨ey,o⟩, ?_⟩)
       rw[j,zqs m ac ac o,r]
theorem ai0 (s:ah) (t:aF) {i:aP} (h:8<=i.op/\i.op<=22) (k:¬ i.op=8) (f:¬ i.op=14) (j:¬ i.op=9):(aT s t i).kind≠1/\(aT s t i).kind≠8/\(aT s t i).kind≠3/\(aT s t i).kind≠4:=by
 rcases zbg h with e |e |e |e |e |e |e |e |e |e |e |e |e |e |e
 . omega
 . omega
 all_goals try (exact absurd e f)
 all_goals simp[aT,bJ,jz,e,and_self]
 . split<;>simp
 . split
   . simp
   . split<;>simp
theorem zs1 {b:cg} (h:c6 b=true) (x:Int):∀ k,k<=b.entries.length -> -2147483648<=(nU b x k).1/\(nU b x k).1<=2147483647
 |0,_=>by unfold nU;decide
 |k+1,e=>by
  unfold nU;split
  . have :=((z21 b).1 h).2 k ac;unfold oA at this;simp only[xa,xd]at this;omega
  . exact zs1 h x k (ac)
theorem afp (e:cx s.mem=true) (x:Int):wr (gQ s k x).1=(gQ s k x).1:=by grind[gQ,qC.2,gC,zs1,zrn]
theorem alv {b:cg} (h:c6 b=true) (e:0<b.entries.length):bR b=(⟨b.aC,b.first+1,b.entries.drop 1⟩,b.entries.getD 0 cw,b.first,0):=by
 unfold bR;rw[x8 (by simp[h]),x8 ac]
theorem aoq {b:cg} {x v:Int} (h:(cG b x v).2.2=0):(cG b x v).1.aC=b.aC:=by grind[cG]
theorem zm7 (b:cg) (x v:Int):(cG b x v).1.entries.length<=b.entries.length+1:=by
 unfold cG;repeat' split
 all_goals first
  |exact xp _
  | (simp)
theorem z138 {m:Mem} {x v:Int} (h:cx m=true) (e:0<=x/\x<m.vars.length) (f: -2147483648<=v/\v<=2147483647):(zr m x v).2=0:=by grind[zr,bM]
theorem zs2 (h:dy p b s=true) (f:0<=aV s.af (b7 a)) {x:cg} (i:x.aC=(s.ag.getD (bg s a) aD).aC):gL s.ag x=s.ag.set (bg s a) x:=by
 have e:=(pT f).1;have j:x.aC=b7 a:=by
  rw[i,(qG.1 ((z12.1 h).2.2 (bg s a) e).2).2.1];exact(pT f).2
 unfold gL;rw[j,zry h,x9 f];rfl
theorem z139 (h:(cA p b s a).2.2=0):(cA p b s a).2.1=c4 p s a:=by grind[c4,cq,cF,cA]
def oR8 (p:aj) (b:Int) (s:ah) (a:Int):FuncId ->List AV ->Option AV
 |66,_=>some (.ax [co (zc p).1,co (zc p).2.1,co (zc p).2.2])
 |72,[_, .int _ c,_]=>some (.bool (dy p c s))
 |45,_=>some (ab (dk p s))
 |84,_=>some (.bool (aW (dk p s) a))
 |49,_=>some (.ax [dg (zf p s a).1, .bool (zf p s a).2])
 |78,_=>some (.ax [co (max (aV s.af (b7 a)) 0), .bool (decide (0<=aV s.af (b7 a)))])
 |85,_=>some (HM s)
 |86,_=>some (.ax [vB (bR (s.ag.getD (bg s a) aD)).1,vEn (bR (s.ag.getD (bg s a) aD)).2.1,co (bR (s.ag.getD (bg s a) aD)).2.2.1,co (bR (s.ag.getD (bg s a) aD)).2.2.2])
 |87,[_, .int _ x, .int _ v]=>some (.ax [vM (zr s.mem x v).1,co (zr s.mem x v).2])
 |88,[_, .mc _ x]=>some (bc (gL s.ag (dB x)))
 |90,[_, .int _ x, .int _ v]=>some (.ax [vB (cG (s.ag.getD (bg s a) aD) x v).1,co (cG (s.ag.getD (bg s a) aD) x v).2.1,co (cG (s.ag.getD (bg s a) aD) x v).2.2])
 |89,[_,_,_, .int _ r]=>some (.ax [vT (cy p b (s.af.getD (bg s a) au) r).1,co (cy p b (s.af.getD (bg s a) au) r).2])
 |81,_=>some (fY s)
 |52,_=>some (.ax [cj (cA p b (bX s) a).1,dg (cA p b (bX s) a).2.1,co (cA p b (bX s) a).2.2])
 |68,_=>some (cj (uj (cA p b (bX s) a).1 s.ag))
 |_,_=>none
def abz (s:ah) (n:Nat):bt:={dc n λ_ _=>false with
 fresh:=λf _=>match Nat.beq f 85 with |true=>some [fy s.af,ky s.ag] |false=>none}
theorem zuk (s:ah) (n:Nat):cf (abz s n):=mC (am)
def vR8 (p:aj) (b:Int) (s:ah) (a:Int) (n:Nat):bj:={C:=abz s n,CC:=aL Tryz.prog GG,bb:=λ_ _=>oR8 p b s a,inv:=λ_=>none,fz:=λk=>match Nat.beq k 17 || Nat.beq k 31 with |true=>[344064,344065] |false=>[]}
theorem anp (p:aj) (b:Int) (s:ah) (a:Int) (e:bG p) (hs:cK s) (f:Bp) (hl:s.af.length<1000000):KN 52 [vP p,co b,fY s,co a] (.ax [cj (cA p b (bX s) a).1,dg (cA p b (bX s) a).2.1,co (cA p b (bX s) a).2.2]):=
 (aa9 p b (bX s) a e hs.sc f hl).weaken (by rfl) ⟨mv p,eq,leN s,eq,trivial⟩
theorem zg2 (r:bG p) (hs:cK s) (i:dy p 32 s=true) (x:0<=aV s.af (b7 a)) (u:¬ a<0) (k:cH p (s.af.getD (bg s a) au)=true) (f:(¬ (zg p (s.af.getD (bg s a) au)).op=8/\¬ (zg p (s.af.getD (bg s a) au)).op=14)/\¬ (zg p (s.af.getD (bg s a) au)).op=9) (hl:zf p s a=bA p (bX s) a):
 (zf p s a).1=c4 p (bX s) a/\(zf p s a).1.kind≠1/\(zf p s a).1.kind≠8/\(zf p s a).1.kind≠3/\(zf p s a).1.kind≠4:=by
 have⟨m,y,_⟩:=zhu r (hs.ok (bg s a)) (z12.1 i).1 k;rw[<- y]at m;have o:b7 a=a:=by unfold b7;rw[x8 u]
 have h:=x;rw[o]at h;have z:(aV s.af a).toNat=bg s a:=by unfold bg;rw[o]
 have j:bn p (bX s) a=(s.af.getD (bg s a) au,zg p (s.af.getD (bg s a) au),true):=by
  unfold bn;rw[x8 (show ¬ aV (bX s).af a<0 from(by omega:¬ aV s.af a<0))];show(s.af.getD (aV s.af a).toNat au,zg p (s.af.getD (aV s.af a).toNat au),cH p (s.af.getD (aV s.af a).toNat au))=_;rw[z,k]
 have e:(zf p s a).1=c4 p (bX s) a:=by
  rw[hl];unfold bA c4 cF cq;rw[x8 (by rw[aad i];simp),x8 (by rw[j];simp)]
 have E:c4 p (bX s) a=aT (bX s) (s.af.getD (bg s a) au) (zg p (s.af.getD (bg s a) au)):=by unfold c4 cF cq;rw[j]
 refine⟨e, ?_⟩;rw[e,E];exact ai0 (bX s) _ m.ok.op f.1.1 f.1.2 f.2
theorem aaj {L:List aF} {M:Mem} {B:List cg} {e:Ev} {r:ah×Ev×Int} (f:r=(⟨L,M,B⟩,e,0)):
 ((L.length=r.1.af.length/\∀ i:Nat,i<L.length ->aq (L.getD i au)=aq (r.1.af.getD i au))/\LS (ao M) (ao r.1.mem)/\B.length=r.1.ag.length/\∀ i:Nat,i<B.length ->aB (B.getD i aD)=aB (r.1.ag.getD i aD))/\LS (bP e) (bP r.2.1)/\0=r.2.2:=by
 subst f;exact⟨⟨eq,eE rfl,rfl,λ_ _=>rfl⟩,eE rfl,rfl⟩
theorem adq {L:List aF} {k:Nat} {x:aF} {M:Mem} {B:List cg} {e:Ev} {r:ah×Ev×Int} (h:k<L.length) (f:r=(⟨L.set k x,M,B⟩,e,0)):
 ((L.length=r.1.af.length/\∀ i:Nat,i<L.length ->(if i=k then aq x else aq (L.getD i au))=aq (r.1.af.getD i au))/\LS (ao M) (ao r.1.mem)/\B.length=r.1.ag.length/\∀ i:Nat,i<B.length ->aB (B.getD i aD)=aB (r.1.ag.getD i aD))/\LS (bP e) (bP r.2.1)/\0=r.2.2:=by
 subst f;exact⟨⟨⟨be,λi _=>zfz i h⟩,eE rfl,rfl,λ_ _=>rfl⟩,eE rfl,rfl⟩
section
variable (p:aj) (b:Int) (s:ah) (a:Int)
def qt2:Nat:=(zt p b s a).fst.af.length
def YD:Nat:=(zt p b s a).fst.ag.length
def Ej:=qt2 p b s a=0/\((zt p b s a).fst.mem.vars.length=0/\(zt p b s a).fst.mem.ae.length=0/\(zt p b s a).fst.mem.aa.length=0/\(zt p b s a).fst.mem.sig.length=0)/\YD p b s a=0
def ME:=AV.mc cz (aB (s.ag.getD (wR s a) aD))
def E1:=aB (bR (s.ag.getD (bg s a) aD)).fst
def ET:=AV.mc cz (E1 s a)
def Ez:cZ×Int×Int:=(bR (s.ag.getD (bg s a) aD)).snd
def qt3:cZ:=(Ez s a).fst
def QI:Int×Int:=(Ez s a).snd
def KE:Int:=(qt3 s a).var
def Cv:Int:=(qt3 s a).val
def RP:Mem×Int:=zr s.mem (KE s a) (Cv s a)
def Qu:=ao (RP s a).fst
def qt4:List cg:=gL s.ag (dB (E1 s a))
def qt5:=s.af.length=qt2 p b s a
variable (x4:Nat)
def qju:=aq ((zt p b s a).fst.af.getD x4 au)
def Hw:Nat:=(qt4 s a).length
def qjv:=aB ((zt p b s a).fst.ag.getD x4 aD)
def qjw:=LS (bP (zf p s a).fst) (bP (qp p b s a))/\0=qy p b s a
def LN:=(zf p s a).fst.kind==4
def qjx:=ai (qx s a) s.af.length
def Dk:=AV.mc zk (aq (s.af.getD (wR s a) au))
def DX:aF×Int:=cy p b (s.af.getD (bg s a) au) (zf p s a).fst.read
def Ug:=aq (DX p b s a).fst
def Jn:=wR s a<s.af.length
def QC:=LS (ao s.mem) (ao (zt p b s a).fst.mem)
def K6:=qjx s a/\KN 89 [AV.mc z7 (ak p),co b,Dk s a,co (zf p s a).fst.read] (AV.ax [AV.mc zk (Ug p b s a),co (DX p b s a).snd])/\qjx s a/\Jn s a/\s.af.length<=s.af.length/\s.ag.length<=s.ag.length/\((qt5 p b s a/\∀ i:Nat,i<s.af.length->(if i=(max (aV s.af (b7 a)) 0).toNat then Ug p b s a else aq (s.af.getD i au))=qju p b s a i)/\QC p b s a/\s.ag.length=YD p b s a/\∀ i:Nat,i<s.ag.length->aB (s.ag.getD i aD)=qjv p b s a i)/\qjw p b s a
def We:=(zf p s a).fst.kind==1
def GB:=We p s a=true
def Hz:cg×Int×Int:=cG (s.ag.getD (bg s a) aD) (zf p s a).fst.obj (zf p s a).fst.wrote
def LP:=aB (Hz p s a).fst
def CD:=AV.mc cz (LP p s a)
def Wz:Int×Int:=(Hz p s a).snd
def K9:Int:=(Wz p s a).snd
def Vp:=K9 p s a !=0
def CA:aF×Int:=cy p b (s.af.getD (bg s a) au) 0
def Co:=aq (CA p b s a).fst
def qt6:List cg:=gL s.ag (dB (LP p s a))
def Wp:Nat:=(qt6 p s a).length
def PF:=(zf p s a).fst.kind==3
def Ka:=AV.mc aM (ze (cA p b (bX s) a).fst)
def qt7:Int:=(cA p b (bX s) a).snd.snd
def Hp:=qt7 p b s a !=0
def Q6:=ao (cA p b (bX s) a).fst.mem
def qt8:Nat:=(cA p b (bX s) a).fst.af.length
def qt9:List cg:=fD (cA p b (bX s) a).fst.af s.ag (qt8 p b s a)
def Dr:Nat:=(qt9 p b s a).length
def J5:=(PF p s a=true->Zm s a/\KN 90 [ME s a,co (zf p s a).fst.obj,co (zf p s a).fst.wrote] (AV.ax [CD p s a,co (Wz p s a).fst,co (K9 p s a)])/\(Vp p s a=true->Ej p b s a/\rm p b s a/\30=qy p b s a)/\(Vp p s a=false->qjx s a/\KN 89 [AV.mc z7 (ak p),co b,Dk s a,co (0:Int)] (AV.ax [AV.mc zk (Co p b s a),co (CA p b s a).snd])/\qjx s a/\Jn s a/\s.af.length<=s.af.length/\s.af.length<=s.af.length/\s.ag.length<=s.ag.length/\s.af.length<=s.af.length/\s.ag.length<=s.ag.length/\KN 88 [bc s.ag,CD p s a] (bc (qt6 p s a))/\((qt5 p b s a/\∀ i:Nat,i<s.af.length->(if i=(max (aV s.af (b7 a)) 0).toNat then Co p b s a else aq (s.af.getD i au))=qju p b s a i)/\QC p b s a/\Wp p s a=YD p b s a/\∀ i:Nat,i<Wp p s a->aB ((qt6 p s a).getD i aD)=qjv p b s a i)/\qjw p b s a))/\(PF p s a=false->KN 81 [AV.mc aM (ze s)] (oD s)/\KN 52 [AV.mc z7 (ak p),co b,oD s,co a] (AV.ax [Ka p b s a,AV.mc bp (bP (cA p b (bX s) a).snd.fst),co (qt7 p b s a)])/\(Hp p b s a=true->Ej p b s a/\rm p b s a/\qt7 p b s a=qy p b s a)/\(Hp p b s a=false->KN 68 [Ka p b s a,bc s.ag] (AV.mc aM (AV.agg [aK (cA p b (bX s) a).fst.af,Q6 p b s a,bc (qt9 p b s a)]))/\((qt8 p b s a=qt2 p b s a/\∀ i:Nat,i<qt8 p b s a->aq ((cA p b (bX s) a).fst.af.getD i au)=qju p b s a i)/\LS (Q6 p b s a) (ao (zt p b s a).fst.mem)/\Dr p b s a=YD p b s a/\∀ i:Nat,i<Dr p b s a->aB ((qt9 p b s a).getD i aD)=qjv p b s a i)/\qjw p b s a))
def HZ:=We p s a=false
def KH:=(zf p s a).fst.kind==8
end
theorem zs4 (p:aj) (b:Int) (s:ah) (a:Int) (k:bG p) (hs:cK s) (N:Bp) (E:jS a) (K:(allI s.mem).length<400000):KN 51 [vP p,co b,cj s,co a] (.ax [cj (zt p b s a).1,dg (zt p b s a).2.1,co (zt p b s a).2.2]):=by
 refine Kn (vR8 p b s a 204) Tryz.func51 (KN 66 [AV.mc z7 (ak p)] (AV.ax [co (zc p).fst,co (zc p).snd.fst,co (zc p).snd.snd])/\(si p=true->Ej p b s a/\rm p b s a/\(zc p).fst=qy p b s a)/\(si p=false->mJ b/\mJ b/\(mB b=true->Ej p b s a/\rm p b s a/\2=qy p b s a)/\(mB b=false->KN 72 [AV.mc z7 (ak p),co b,AV.mc aM (ze s)] (AV.bool (dy p b s))/\((!dy p b s)=true->Ej p b s a/\rm p b s a/\1=qy p b s a)/\((!dy p b s)=false->KN 45 [AV.mc z7 (ak p),AV.mc aM (ze s)] (ab (dk p s))/\KN 84 [ab (dk p s),co a] (AV.bool (aW (dk p s) a))/\((!aW (dk p s) a)=true->Ej p b s a/\rm p b s a/\19=qy p b s a)/\((!aW (dk p s) a)=false->KN 49 (AV.mc z7 (ak p)::q4r s a) (AV.ax [AV.mc bp (bP (zf p s a).fst),AV.bool (zf p s a).snd])/\KN 78 (q4r s a) (AV.ax [co (qx s a),AV.bool (decide ((0:Int)<=aV s.af (b7 a)))])/\(KF (85:Nat) [AV.mc aM (ze s)] (AV.mc aM (AV.agg [AV.own (0:Nat) s.af.length,ao s.mem,AV.own (1:Nat) s.ag.length])) [aw.row (86:TypeId) zk s.af.length λi=>aq (s.af.getD i au),aw.row (90:TypeId) cz s.ag.length λi=>aB (s.ag.getD i aD)])/\(LN p s a=true->Zm s a/\KN 86 [ME s a] (AV.ax [ET s a,AV.mc ct (de (qt3 s a)),co (QI s a).fst,co (QI s a).snd])/\KN 87 [AV.mc zm (ao s.mem),co (KE s a),co (Cv s a)] (AV.ax [AV.mc zm (Qu s a),co (RP s a).snd])/\s.af.length<=s.af.length/\s.ag.length<=s.ag.length/\s.af.length<=s.af.length/\s.ag.length<=s.ag.length/\KN 88 [bc s.ag,ET s a] (bc (qt4 s a))/\((qt5 p b s a/\∀ i:Nat,i<s.af.length->aq (s.af.getD i au)=qju p b s a i)/\LS (Qu s a) (ao (zt p b s a).fst.mem)/\Hw s a=YD p b s a/\∀ i:Nat,i<Hw s a->aB ((qt4 s a).getD i aD)=qjv p b s a i)/\qjw p b s a)/\(LN p s a=false->(GB p s a->(GB p s a->K6 p b s a)/\(HZ p s a->J5 p b s a))/\(HZ p s a->(KH p s a=true->K6 p b s a)/\(KH p s a=false->J5 p b s a)))))))) ?_;try delta qt2 YD Ej qp rm qy si Cl Ca mJ mB q4r qx Zm wR ME E1 ET Ez qt3 QI KE Cv RP Qu qt4 qt5 qju Hw qjv qjw LN qjx Dk DX Ug Jn QC K6 We GB Hz LP CD Wz K9 Vp CA Co qt6 Wp PF oD Ka qt7 Hp Q6 qt8 qt9 Dr J5 HZ KH
 simp only[SZ];have ld:zt p b s a=if(zc p).1≠0 then(aE,aH,(zc p).1)else if b<1∨32<b then(aE,aH,2)else if dy p b s=false then(aE,aH,1)
  else if aW (dq p s) a=false then(aE,aH,19)
  else if gX (zu p s a).1 then
   (if(dO p b s (bg s a) (zu p s a).1).2≠0 then(aE,aH,(dO p b s (bg s a) (zu p s a).1).2)else((dO p b s (bg s a) (zu p s a).1).1,(zu p s a).1,0))
  else eD p b s a:=rfl
 refine⟨WT p k,λh=>tF (by rw[ld,x9 h]),λh1=>⟨λh=>tF (by rw[ld,x8 (by simp[h1]),x9 h]),λh2=>⟨zrx p b s k hs,λh=>tF (by rw[ld,x8 (by simp[h1]),x8 ac,x9 h]),λhvb=>?_⟩⟩⟩;rw[x8 (by simp[h1]),x8 ac,x8 (by simp[hvb])]at ld;have hv:=aka hvb;have hen:dk p s=dq p s:=by unfold dk;rw[x9 hv]
 rw[hen];have hn:=zhw hv;have hag:(dq p s).length<=1000000:=by
  have q1:=z9m s.ag 0;have q2:=zbd p s s.af.length;have h2:=(z12.1 hv).2.1;unfold dq;rw[xl];omega
 refine⟨by rw[<- hen];exact ajc p s k hs,Xg _ _ hag,λh=>tF (by rw[ld,x9 h]),λha=>?_⟩;rw[x8 (by simp[ha])]at ld;have⟨f,lT,e⟩:=zs0 hv ha;rw[<- lT]at ld;have⟨hk,eF,M,vM,hlen,hbv,u⟩:=zuj hvb f;have eK:(aV s.af (b7 a)).toNat=bg s a:=rfl;simp only[yh f,eK];have hk1:=hk.1;have hk2:=hk.2;have heb:=hs.cE (bg s a);have hform:cx s.mem=true:=by
  unfold fc at vM;simp only[xa,xo]at vM;exact vM.2.1
 have vT:=((z12.1 hvb).2.2 (bg s a) hk1).1.1;have kf:=zjp s a hs E;rw[yh f]at kf;have bO:∀ r,wr r=r ->cH p (s.af.getD (bg s a) au)=true ->(cy p b (s.af.getD (bg s a) au) r).2=0:=λr hr hb=>by
  unfold cH at hb;rw[xa,xo]at hb;exact zz2 vT hb.1 hr
 have B:(zf p s a).1.kind=1∨(zf p s a).1.kind=8 ->cH p (s.af.getD (bg s a) au)=true/\wr (zf p s a).1.read=(zf p s a).1.read:=λhk=>by
  rcases e with e | ⟨m,lb,e |e |e⟩
  . have :=e.2.2.1;omega
  . rw[e.2.2];exact⟨lb,afp hform _⟩
  . have :=e.2.1;omega
  . exfalso;have :=(zg2 k hs hv f m lb e.1 e.2).2;omega
 have fB:(zf p s a).1.kind=1∨(zf p s a).1.kind=8 ->zt p b s a=(⟨s.af.set (bg s a) (cy p b (s.af.getD (bg s a) au) (zf p s a).1.read).1,s.mem,s.ag⟩,(zf p s a).1,0):=λhk=>by
  have o:gX (zf p s a).1=true:=by unfold gX;simp only[xk,xo];omega
  have e2:dO p b s (bg s a) (zf p s a).1=(⟨s.af.set (bg s a) (cy p b (s.af.getD (bg s a) au) (zf p s a).1.read).1,s.mem,s.ag⟩,0):=by
   unfold dO;rw[x8 ac,x8 ac,x8 (by rw[bO _ (B hk).2 (B hk).1];exact λh=>h rfl)]
  rw[ld,x9 o,e2,x8 (λh=>h rfl)]
 have y:∀ x:cg,x.entries.length<=1000000 ->_:=λx hx=>ain s.ag x hs.ag hs.cE hx;have kC:=λr=>zpu p b (s.af.getD (bg s a) au) r k (hs.ok (bg s a));have F:∀ hk:(zf p s a).1.kind=1∨(zf p s a).1.kind=8,_:=λhk=>adq hk1 (fB hk);have D:(zf p s a).1.kind≠4 ->(zf p s a).1.kind≠1 ->(zf p s a).1.kind≠8 ->(zf p s a).1.kind≠3 ->zt p b s a=eD p b s a/\(zf p s a).1=c4 p (bX s) a:=λq4 q1 q8 q3=>by
  refine⟨by rw[ld,x8 (by unfold gX;simp only[xk,xo];omega)], ?_⟩;rcases e with e | ⟨m,lb,e |e |e⟩
  . exact absurd e.2.2.1 q4
  . omega
  . exact absurd e.2.1 q3
  . exact(zg2 k hs hv f m lb e.1 e.2).1
 have C:(zf p s a).1.kind=3 ->cH p (s.af.getD (bg s a) au)=true/\(zf p s a).1.read=0:=λq3=>by
  rcases e with e | ⟨m,lb,e |e |e⟩
  . have :=e.2.2.1;omega
  . omega
  . exact⟨lb,e.2.2.2.2⟩
  . have :=(zg2 k hs hv f m lb e.1 e.2).2;omega
 have Cg:(zf p s a).1.kind=3 ->∀ q:¬ (cG (s.ag.getD (bg s a) aD) (zf p s a).1.obj (zf p s a).1.wrote).2.2≠0,zt p b s a=(⟨s.af.set (bg s a) (cy p b (s.af.getD (bg s a) au) 0).1,s.mem,gL s.ag (cG (s.ag.getD (bg s a) aD) (zf p s a).1.obj (zf p s a).1.wrote).1⟩,(zf p s a).1,0):=λq3 q=>by
  have o:gX (zf p s a).1=true:=by unfold gX;simp only[xk,xo];omega
  have e2:dO p b s (bg s a) (zf p s a).1=(⟨s.af.set (bg s a) (cy p b (s.af.getD (bg s a) au) 0).1,s.mem,gL s.ag (cG (s.ag.getD (bg s a) aD) (zf p s a).1.obj (zf p s a).1.wrote).1⟩,0):=by
   unfold dO;rw[x8 ac,x9 q3,x8 q,(C q3).2,x8 (by rw[bO 0 rfl (C q3).1];exact λh=>h rfl),zs2 hvb f (aoq (yk.1 q))]
  rw[ld,x9 o,e2,x8 (λh=>h rfl)]
 refine⟨zz9 p s a k hs E,kf,acx s hs,λh4=>?_,λh4=>?_⟩
 . rcases e with e | ⟨m,lb,e |e |e⟩
   . have⟨_,le,_,H,lw⟩:=e;have j:=alv hbv le;have hen0:oA ((s.ag.getD (bg s a) aD).entries.getD 0 cw)=true:=((z21 _).1 hbv).2 0 le;unfold oA at hen0;simp only[xa,xd]at hen0;have z:=u 0 le;have hml:s.mem.vars.length=p.vars.length:=by
      unfold fc at vM;simp only[xa,xo]at vM;omega
     refine⟨⟨f,ac⟩,amu _ heb,zfx _ _ _ hs.mem,y _ ?_,aaj ?_⟩
     . rw[j];show(List.drop 1 _).length<=_;rw[ws];omega
     have o:gX (zf p s a).1=true:=by unfold gX;simp only[xk,xo];omega
     have e2:dO p b s (bg s a) (zf p s a).1=(⟨s.af,(zr s.mem (bR (s.ag.getD (bg s a) aD)).2.1.var (bR (s.ag.getD (bg s a) aD)).2.1.val).1,gL s.ag (bR (s.ag.getD (bg s a) aD)).1⟩,0):=by
      unfold dO;rw[x9 h4,zs2 hvb f (by rw[j]),H,lw,j];rw[x8 (λh=>h rfl),x8 (by rw[z138 hform ac ac];exact λh=>h rfl)]
     rw[ld,x9 o,e2,x8 (λh=>h rfl)]
   . omega
   . have :=e.2.1;omega
   . have :=(zg2 k hs hv f m lb e.1 e.2).2;omega
 have J:=zjo s;have kS:=anp p b s a k hs N ac;refine⟨λq1=>⟨λ_=>⟨⟨f,ac⟩,kC _,⟨f,ac⟩,hk1,F (.inl q1)⟩,λq=>absurd q1 q⟩,λq1=>⟨λq8=>⟨⟨f,ac⟩,kC _,⟨f,ac⟩,hk1,F (.inr q8)⟩,λq8=>⟨λq3=>⟨⟨f,ac⟩,anh _ _ _ heb,λq=>tF ?_,λq=>⟨⟨f,ac⟩,kC 0,⟨f,ac⟩,hk1,y _ ?_,adq hk1 (Cg q3 (by rw[q];exact λh=>h rfl))⟩⟩,λq3=>⟨J,kS,λq=>tF ?_,λq=>⟨zx6 _ _ ?_ hs.ag hs.cE, ?_⟩⟩⟩⟩⟩
 . have o:gX (zf p s a).1=true:=by unfold gX;simp only[xk,xo];omega
   have e2:dO p b s (bg s a) (zf p s a).1=(aE,30):=by unfold dO;rw[x8 ac,x9 q3,x9 q]
   rw[ld,x9 o,e2,x9 ap]
 . have :=zm7 (s.ag.getD (bg s a) aD) (zf p s a).1.obj (zf p s a).1.wrote;have :=((z21 _).1 hbv).1;omega
 . rw[(D h4 q1 q8 q3).1];unfold eD;rw[x9 q]
 . exact(zjl k hs.sc K (by show s.af.length<1000000;omega)).1
 . refine aaj ?_;have⟨O,d2⟩:=D h4 q1 q8 q3;rw[O,d2,<- z139 q];unfold eD;rw[x8 (by rw[q];exact λh=>h rfl)];rfl
def wT (l:List aF):Prop:=∀ j,0<=(l.getD j au).id
theorem zm8:wT []:=λ_=>yt _
theorem zjr {l:List aF} {k:Nat} {t:aF} (h:wT l) (e:0<=t.id):wT (l.set k t):=λj=>by
 rw[x7,j8];split
 . split
   . exact e
   . exact yt _
 . rw[<- x7];exact h j
theorem ags {l:List aF} {n:Nat} {t:aF} (f:n<=l.length) (h:wT l) (e:0<=t.id):wT (iu l t n):=λj=>by
 rw[z9r _ _ _ f];split
 . exact h _
 . split
   . exact e
   . exact h _
theorem zjs {t:aF} {r:Int} (h:0<=t.id):0<=(cy p b t r).1.id:=by
 unfold cy;split
 . exact yt _
 . split
   . exact yt _
   . split
     . exact yt _
     . split
       . exact yt _
       . show 0<=(z4q p b _ _).id;rw[zbh,(zcx _ _ _).1];exact h
theorem zs5 {id fn arg:Int} (h:0<=id):0<=(bf p b id fn arg).1.id:=by
 unfold bf;split
 . exact yt _
 . split
   . exact yt _
   . split
     . exact yt _
     . split
       . exact yt _
       . show 0<=(z4q p b _ _).id;rw[zbh];exact h
theorem ald (t:aF):0<=fZ t:=by
 unfold fZ;split
 . rename_i h;unfold cV at h;simp at h;have :=yO (id:=t.id) ac;omega
 . decide
theorem zul (h:wT s.af):wT (cA p b s a).1.af:=by
 have f:∀ {w:ah×Int},w=(if(c4 p s a).kind=16 then fk p b {s with mem:=(dx p s a).1} (c4 p s a).obj (cq p s a).obj (bz (cF p s a) (cq p s a).b)else({s with mem:=(dx p s a).1},0)) ->cA p b s a=
  if aX p b≠0 then(aE,aH,aX p b)else if c9 p b s=false then(aE,aH,1)else if(bn p s a).2.2=false∨z20 s (cF p s a) (cq p s a)=false then(aE,aH,19)else if(dx p s a).2.2≠0 then(aE,aH,30)
  else if w.2≠0 then(aE,aH,w.2)else if(iP p b s a).2≠0 then(aE,aH,(iP p b s a).2)else({w.1 with af:=w.1.af.set (aV w.1.af a).toNat (iP p b s a).1},c4 p s a,0):=λh=>by subst h;rfl
 obtain⟨w,e⟩:∃ w:ah×Int,w=(if(c4 p s a).kind=16 then fk p b {s with mem:=(dx p s a).1} (c4 p s a).obj (cq p s a).obj (bz (cF p s a) (cq p s a).b)else({s with mem:=(dx p s a).1},0)):=⟨_,rfl⟩;have k:wT w.1.af:=by
  rw[e];split
  . rename_i j;unfold fk;split
    . exact zm8
    . split
      . exact zm8
      . refine ags (zN _ _) h (zs5 ?_);rw[show(c4 p s a).obj=fZ (cF p s a)from(z9s j).2];exact ald _
  . exact h
 have i:0<=(cF p s a).id:=by
  unfold cF bn;split
  . exact yt _
  . exact h _
 rw[f e];repeat' split
 all_goals first
  |exact zm8
  |exact zjr k (zjs i)
structure mf (s:ah) (i n:Nat):Prop where
 sm:cK s
 all:(allI s.mem).length<=n
 af:s.af.length<=n
 cE:∀ j,(s.ag.getD j aD).entries.length<=i
 ids:wT s.af
theorem zbi {x:cg} (h:∀ j,(l.getD j aD).entries.length<=n) (e:x.entries.length<=n) (j:Nat):((l.set k x).getD j aD).entries.length<=n:=by
 rw[x7,j8];split
 . split
   . exact e
   . exact xp _
 . simp_all
theorem afy (b:cg):(bR b).1.entries.length<=b.entries.length:=by
 unfold bR;repeat' split
 . exact xp _
 . exact xp _
 . grind
theorem aew {t:Int} {n:Nat} (e:∀ j,(l.getD j aD).entries.length<=n):(xI l t).entries.length<=n:=by
 unfold xI;split
 . exact e _
 . grind
theorem zs6 (ts:List aF) {l:List cg} {n:Nat} (f:∀ j,(l.getD j aD).entries.length<=n) (j:Nat):((fD ts l ts.length).getD j aD).entries.length<=n:=by
 by_cases e:j<ts.length
 . rw[z9l _ _ _ (xm _) j e];exact aew f
 . rw[x7,yi (by rw[Cb _ _ _ (xm _)];omega)];exact xp _
theorem pr (i n:Nat):mf aE i n:=⟨zft,xp _,xp _,λ_=>xp _,zm8⟩
theorem ala {k:Nat} {e:Ev} (o:bG p) (w:mf s i n) (y:i<1000000):mf (dO p b s k e).1 (i+1) (n+1):=by
 have hs:=w.sm;have x:=w.all;have u:=w.af;have f:∀ j,(s.ag.getD j aD).entries.length<=i+1:=λj=>by have :=w.cE j;omega
 have m:∀ r,eL (cy p b (s.af.getD k au) r).1:=λr=>zm4 o (hs.ok k);unfold dO;simp only;split
 . split
   . exact pr _ _
   . split
     . exact pr _ _
     . have Z:=zhs hs.mem e.obj e.wrote;have h:(bR (s.ag.getD k aD)).1.entries.length<=i+1:=by have :=afy (s.ag.getD k aD);have :=f k;omega
       have :=Z.2;exact⟨⟨hs.af,hs.ok,Z.1,by simp;exact hs.ag,λj=>y6 (zbi f h j) ac⟩,by show(allI (zr s.mem e.obj e.wrote).1).length<=_;omega,by show s.af.length<=_;omega,zbi f h,w.ids⟩
 . split
   . split
     . exact pr _ _
     . split
       . exact pr _ _
       . have h:(cG (s.ag.getD k aD) e.obj e.wrote).1.entries.length<=i+1:=by have :=zm7 (s.ag.getD k aD) e.obj e.wrote;have :=w.cE k;omega
         exact⟨⟨by simp only[wc];exact hs.af,zfy hs.ok (m _),hs.mem,by simp only[wc];exact hs.ag,λj=>y6 (zbi f h j) ac⟩,by show(allI s.mem).length<=_;omega,by simp only[wc];omega,zbi f h,zjr w.ids (zjs (w.ids k))⟩
   . split
     . exact pr _ _
     . exact⟨⟨by simp only[wc];exact hs.af,zfy hs.ok (m _),hs.mem,hs.ag,hs.cE⟩,by show(allI s.mem).length<=_;omega,by simp only[wc];omega,f,zjr w.ids (zjs (w.ids k))⟩
theorem akf (k:bG p) (w:mf s i n) (r:n<400000) (u:i<1000000):mf (eD p b s a).1 (i+1) (n+1):=by
 have hs:=w.sm;have o:=w.all;have m:=w.af;unfold eD;split
 . exact pr _ _
 . obtain⟨e,h,f⟩:=zjl (b:=b) (a:=a) k hs.sc (show(allI s.mem).length<400000 by omega) (show s.af.length<1000000 by omega);have h:(allI (cA p b (bX s) a).1.mem).length<=(allI s.mem).length+1:=h;have f:(cA p b (bX s) a).1.af.length<=s.af.length+1:=f;refine⟨⟨e.af,e.ok,e.mem, ?_,λj=>?_⟩, ?_, ?_,λj=>?_,zul (s:=bX s) w.ids⟩
   . show(fD _ _ _).length<=_;rw[Cb _ _ _ (xm _)];exact e.af
   . exact zs6 _ hs.cE j
   . show(allI (cA p b (bX s) a).1.mem).length<=_;omega
   . show(cA p b (bX s) a).1.af.length<=_;omega
   . have :=zs6 (cA p b (bX s) a).1.af w.cE j;exact Nat.le_succ_of_le this
theorem zza (e:bG p) (w:mf s i n) (f:n<400000) (h:i<1000000):mf (zt p b s a).1 (i+1) (n+1):=by grind[zt,pr,ala,akf]
theorem zma {j m:Nat} (w:mf s i n) (h:i<=j) (h2:n<=m):mf s j m:=⟨w.sm,y6 w.all h2,y6 w.af h2,λk=>y6 (w.cE k) h,w.ids⟩
theorem aol (e:bG p):cK (zp p b).1:=by
 unfold zp;split
 . exact zft
 . have h:=zbc (b:=b) e;refine⟨h.af,h.ok,h.mem, ?_,λj=>?_⟩
   . show(fD _ [] _).length<=_;rw[Cb _ _ _ (xm _)];exact h.af
   . show((fD _ [] _).getD j aD).entries.length<=_;by_cases f:j<(zj p b).1.af.length
     . rw[z9l _ _ _ (xm _) j f];exact xp _
     . rw[x7,yi (by rw[Cb _ _ _ (xm _)];omega)];exact xp _
theorem ad5 (f:bG p) (i:p.af.length<=1000):mf (zp p b).1 0 399000:=by
 have hs:=aol (b:=b) f;unfold zp at hs ⊢;split
 . exact pr _ _
 . rename_i h;rw[x8 h]at hs;have e:zj p b=(⟨fw p b p.af.length,(bo p).1,[]⟩,0):=by unfold zj;rw[x8 h]
   refine⟨hs, ?_, ?_,λj=>?_,λj=>?_⟩
   . show(allI (zj p b).1.mem).length<=_;rw[e];unfold allI bo;split
     . exact xp _
     . simp_all
   . show(zj p b).1.af.length<=_;rw[e];show(fw p b _).length<=_;rw[sH];omega
   . exact zs6 _ (λk=>xp _) j
   . show 0<=((zj p b).1.af.getD j au).id;rw[e];unfold fw;rw[x7,gm];cases m:(List.range p.af.length)[j]? with
     |none=>exact yt _
     |some k=>exact zs5 (ac)
def iQ (l:List Int):AV:= .bN .leaf l.length λi=> co (l.getD i 0)
def af2 (l:List (List Int)):aw:= .row 31 .leaf l.length λi=>iQ (l.getD i [])
def aea:List aw:=[bI m.vars,bI m.ae,af2 m.aa,bI m.sig]
def acg:FuncId ->List AV ->Option AV
 |201,[.seq _ n f]=>some (iQ (zw n f))
 |_,_=>none
def vEc (n:Nat):bj:={C:={dc n (λ_ _=>false)with oF:=λd=>Nat.beq d 6},CC:=aL Tryz.prog GG,bb:=λ_ _=>acg,inv:=λ_=>none}
theorem zuo (n:Nat):cf {dc n (λ_ _=>false)with oF:=λd=>Nat.beq d 6}:=mC (am)
def vEd (n:Nat) (inv:Nat ->Option Inv):bj:={C:=dc n λf d=>Nat.beq f 201&&(Nat.beq d 8 || (Nat.beq d 11 || Nat.beq d 18)),CC:=aL Tryz.prog GG,bb:=λ_ _=>acg,inv:=inv}
def oEq:FuncId ->List AV ->Option AV
 |240,[_, .int _ i, .int _ n]=>some (co (bM m i n))
 |244,[_, .int _ id]=>some (.bool (oT m id))
 |116,_=>some (wY m)
 |_,_=>none
def ake:FuncId ->List AV ->Option (List aw)
 |116,_=>some (aea m)
 |_,_=>none
def aa3 (m:Mem) (n:Nat):bt:={dc n (λ_ _=>false)with fresh:=ake m,kH:=λd=>Nat.beq d 39}
theorem zup (n:Nat):cf (aa3 m n):=mC (am)
def vEq (m:Mem) (n:Nat):bj:={C:=aa3 m n,CC:=aL Tryz.prog GG,bb:=λ_ _=>oEq m,inv:=λ_=>none}
def oj (l:List Int):AV:= .seq .leaf l.length λi=>if i<l.length then co (l.getD i 0)else .any
def vMq (c id:Int):AV:= .mc zm (.agg [ab (b9 m c id).1.vars,ab (b9 m c id).1.ae, .seq .leaf (b9 m c id).1.aa.length (λj=>if j=c.toNat then oj ((b9 m c id).1.aa.getD j [])else iQ ((b9 m c id).1.aa.getD j [])),ab (b9 m c id).1.sig])
def zze (k:Nat):Option Inv:=match Nat.beq k 3 with
 |true=>iv m.aa.length λi=>⟨[(1, .ptr 1 []),(2, .ptr 2 []),(3, .ptr 3 []),(21,aJ m.aa),(22,co m.aa.length),(23,co i)],[(1,kt m),(2,kt eg),(3, .cell 38 zm (.agg [.own 8 m.vars.length, .own 11 m.ae.length, .own 15 m.aa.length, .own 18 m.sig.length])),(8,bI m.vars),(11,bI m.ae),(15, .row 31 .leaf m.aa.length λj=>if j<i then iQ (m.aa.getD j [])else .aA),(18,bI m.sig)]⟩
 |false=>none
end
end Go.Proofs.S25
