import Derived.Test.YtgcpdfihjmmggaaGreatDoorXzf
import Derived.Test.YtgcpdfihjmmggaaGreatDoorXza
namespace Go.Proofs.S25
open Go Go.AV Tryz
open Go.IntKind renaming i64 -> j6
open Go.AV.ex (ey)
noncomputable section
variable {l:List bR} {p:ai} {b:Int} {s:ja} {k:Nat} {a:Int} {i:Nat} {n:Nat}
def vG (p:ai) (s:ja) (j:Nat):List Int:=
 (if ka p s (s.ab.getD j ao).id then [(s.ab.getD j ao).id]else [])++(if ka p s (m6 (s.ab.getD j ao).id)then [m6 (s.ab.getD j ao).id]else [])
def gL (p:ai) (s:ja) (i:Nat):List Int:=(List.range i).flatMap (vG p s)
def oR7 (p:ai) (s:ja):FuncId ->List AV ->Option AV
 |82,[.seq _ n f]=>some (a8 (bx (zw n f)))
 |f,l=>oR6 p s 0 f l
theorem sG (e:cQ p b s) {j:Nat} (f:j<s.ab.length):0<=(s.ab.getD j ao).id/\(s.ab.getD j ao).id<=74896:=
 tO (oo (mD.1 ((z12.1 e).2.2 j f).1.1).2).id
theorem zm6 (e:cQ p b s):∀ j,j<s.ab.length ->z5e p b s.ab j:=λj f=>((z12.1 e).2.2 j f).1
theorem abu {p:ai} {b:Int} {s:ja} (e:cQ p b s):∀ j,j<s.ab.length ->(j:Int)<=(s.ab.getD j ao).id
 |0,h=>(sG e h).1
 |j+1,h=>by
  have i:=abu e j O
  have f:=UP (zm6 e) (j+1) j O h
  omega
theorem Yc (e:cQ p b s):s.ab.length<=74897:=by
 by_cases h:s.ab.length=0;omega;have i:=abu e (s.ab.length - 1) O;have f:=sG e (j:=s.ab.length - 1) O;omega
theorem aip {n:Int} (h:0<=n):aX n=n:=by unfold aX;rw[x8 O]
theorem Vd {n:Int} (h:0<=n):m6 n= -n - 1:=by unfold m6;rw[x8 O]
theorem ae7 {n:Int} (h:0<=n):aX (m6 n)=n:=by rw[Vd h];unfold aX;rw[x9 O];omega
theorem aal (e:cQ p 32 s) {j:Nat} (f:j<s.ab.length):ka p s (s.ab.getD j ao).id=fu p s j (cX p (bN s)):=by
 have h:=sG e f;unfold ka;rw[aip h.1,zg0 (zm6 e) f,x8 O,wy O,wc,gp]
theorem ab3 (e:cQ p 32 s) {j:Nat} (f:j<s.ab.length):ka p s (m6 (s.ab.getD j ao).id)=decide (0<(s.ae.getD j az).bO.length):=by
 have h:=sG e f;unfold ka;rw[ae7 h.1,zg0 (zm6 e) f,x9 (by rw[Vd h.1];omega),wy O,wc,gp]
theorem z130 (p:ai) (s:ja) (j:Nat):(vG p s j).length<=2:=by
 unfold vG;rw[xl];split<;>split<;>simp
theorem Yd (p:ai) (s:ja) (i:Nat):gL p s (i+1)=gL p s i++vG p s i:=by
 unfold gL;rw[List.range_succ,List.flatMap_append,List.flatMap_singleton]
theorem zjq (p:ai) (s:ja):∀ i,(gL p s i).length<=2*i
 |0=>xm _
 |i+1=>by
  rw[Yd,xl]
  have :=zjq p s i
  have :=z130 p s i
  omega
theorem ak0 (h:cQ p 32 s):jC (cL p s):=by
 have R:=UP (zm6 h);have hlen:=(z12.1 h).2.1;have r:∀ j,j<s.ae.length ->(s.ae.getD j az).ay=(s.ab.getD j ao).id:=λj f=>(nM.1 ((z12.1 h).2.2 j O).2).2.1;unfold cL jC;rw[List.pairwise_append];refine⟨?_, ?_,λa F b K=>?_⟩;unfold dt;rw[List.pairwise_reverse,List.drop_zero,List.pairwise_map];refine List.Pairwise.filter _ ?_;rw[wh];intro i j x f m;have e:∀ k (E:k<s.ae.length),s.ae[k].ay=(s.ab.getD k ao).id:=λk E=>by
  rw[<- r k E,x7,xe E];rfl
 rw[e i x,e j f];have :=R j i m O;have H:=sG h (j:=i) O;have J:=sG h (j:=j) O;rw[Vd H.1,Vd J.1];omega;unfold ap4;rw[List.pairwise_map];refine List.Pairwise.filter _ ?_;rw[wh];intro i j x f m;simp;rw[List.length_range]at f;exact R j i m f;unfold dt at F;rw[List.mem_reverse,wv]at F;obtain⟨u,y,rfl⟩:=F;have⟨y,_⟩:=yh.1 y;rw[List.drop_zero]at y;obtain⟨i,x,rfl⟩:=yq y;obtain⟨j,f,rfl⟩:=wv.1 K;have⟨f,_⟩:=yh.1 f;rw[yl]at f;have e:s.ae[i].ay=(s.ab.getD i ao).id:=by rw[<- r i x,x7,xe x];rfl
 have H:=sG h (j:=i) O;have J:=sG h f;rw[e,Vd H.1];omega
theorem zrz (i:cQ p 32 s):bx (gL p s s.ab.length)=cL p s:=by
 have hlen:=(z12.1 i).2.1;have r:∀ j,j<s.ae.length ->(s.ae.getD j az).ay=(s.ab.getD j ao).id:=λj h=>(nM.1 ((z12.1 i).2.2 j O).2).2.1;refine xL (ri _) (ak0 i) λx=>?_;rw[z59];unfold gL cL dt ap4;rw[List.mem_flatMap,xx,List.mem_reverse,wv,wv,List.drop_zero];constructor;rintro⟨j,h,f⟩;rw[yl]at h;unfold vG at f;rw[aal i h,ab3 i h,xx]at f;rcases f with f |f;split at f;rename_i k;rw[jt]at f;exact .inr ⟨j,yh.2 ⟨yl.2 h,k⟩,f.symm⟩;cases f;split at f;rename_i k;grind;cases f;rintro(⟨u,m,f⟩ | ⟨j,h,f⟩);have⟨m,k⟩:=yh.1 m;obtain⟨j,h,rfl⟩:=yq m;have e:s.ae[j]=s.ae.getD j az:=by rw[x7,xe h];rfl
 rw[e]at k f;refine⟨j,yl.2 O, ?_⟩;unfold vG;rw[ab3 i O,xx,x9 k,<- f,r j h];grind;have⟨h,k⟩:=yh.1 h;refine⟨j,h, ?_⟩;rw[yl]at h;unfold vG;rw[aal i h,xx,x9 k,<- f];grind
noncomputable def vR7 (p:ai) (s:ja) (n:Nat) (I:Nat ->Option lm):bm:={C:=di n λ_ _=>false,CC:=mp prog GG,b9:=λ_ _=>oR7 p s,inv:=I}
def agu (p:ai) (s:ja) (k:Nat):Option lm:=match Nat.beq k 5 with
 |true=>iv s.ab.length λi=>⟨[(2, .ptr 2 []),(3, .ptr 3 []),(5, .own 8 (gL p s i).length),(6,d9 i)],[(2,iM p),(3,fb s),(8,bw (gL p s i))]⟩
 |false=>none
theorem alf (L:List Int) (x y:Int) (j:Nat) (f:j<L.length+1+1):(if j<L.length+1 then(if j<L.length then AV.int .i64 (L.getD j 0)else((List.replicate 1 (AV.int .i64 0)).set 0 (AV.int .i64 x)).getD (j - L.length) AV.any)else((List.replicate 1 (AV.int .i64 0)).set 0 (AV.int .i64 y)).getD (j - (L.length+1)) AV.any)=AV.int .i64 (((L++[x])++[y]).getD j 0):=by
 have e:=kI (L++[x]) y j co;rw[xl,jw]at e;show _=d9 _;rw[<- e];split;exact kI L x j ‹_›;rfl
section
variable (p:ai) (s:ja) (x2:Nat)
def Ai:=d9 ((cI p s).getD x2 0)
def Rm:=0=(gL p s x2).length
variable (x3:Nat)
def rK:=d9 ((gL p s x2).getD x3 0)
variable (x1:Nat)
def QC:List AV:=[UD s x1]
def qsx:=ka p s (s.ab.getD (↑x2:Int).toNat ao).id
def vA:Nat:=(gL p s x2).length+1
def O4:=RR (gL p s x2).length/\↑(vA p s x2)*↑(8:Nat)<=(140737488355328:Int)/\vA p s x2<=9223372036854775807
def qsy:=d9 (m6 (s.ab.getD (↑x1:Int).toNat ao).id)
def qjs:=KN 81 (QC s x1) (qsy s x1)
def qsz:=ka p s (m6 (s.ab.getD (↑x2:Int).toNat ao).id)
def KV:=KN 80 [AV.mc z7 (ah p),AV.mc aI (ze s),qsy s x2] (AV.bool (qsz p s x2))
def qjt:Nat:=vA p s x2+1
def BQ:=qjt p s x2=(gL p s x3).length
def Bv:Nat:=x3 - (gL p s x2).length
def QE:=if x3<(gL p s x2).length then rK p s x2 x3 else(mI.set 0 (aq (aq (UD s x2)))).getD (Bv p s x2 x3) AV.any
def BP:List AV:=mI.set 0 (aq (qsy s x1))
def MA:=qsz p s x2=true
def qt0:=vA p s x2=(gL p s x3).length
def SE:=qt0 p s x2 x3/\qb x2 x3
def Hd:=x3<vA p s x2
def MP:=qsz p s x2=false
def N9:=(gL p s x2).length=(gL p s x3).length
def Fg:=(gL p s x2).length<=(gL p s x2).length
def qt1:List Int:=bx (zw (gL p s x2).length λi=>rK p s x2 i)
def La:Nat:=(qt1 p s x2).length
end
theorem aap (p:ai) (s:ja) (k:bI p) (hs:SOd p s):KN 37 [vP p,cx s] (a8 (cI p s)):=by
 refine Kn (vR7 p s 47 (agu p s)) func37 (0*ey.size<=16777216/\KN 69 [AV.mc z7 (ah p),d9 (32:Int),AV.mc aI (ze s)] (AV.bool (cQ p (32:Int) s))/\Z (!cQ p 32 s) (0<=0/\0=(cI p s).length/\∀ i:Nat,i<0->SS i=Ai p s i) ((∃ i,i<=s.ab.length/\(Rm p s i/\(0:Int)=↑i)/\LS (ah p) (ah p)/\LS (ze s) (ze s)/\Rm p s i/\∀ (i_1:Nat),i_1<(0:Nat)->SS i_1=rK p s i i_1)/\∀ i:Nat,i<=s.ab.length->aH ↑s.ab.length/\Z (qc s i) (af (↑i) s.ab.length/\KN 80 (AV.mc z7 (ah p)::AV.mc aI (ze s)::QC s i) (AV.bool (qsx p s i))/\Z (qsx p s i) (qr/\O4 p s i/\qf/\qjs s i/\KV p s i/\(MA p s i->qjs s i/\qr/\(RR (vA p s i)/\↑(qjt p s i)*↑(8:Nat)<=(140737488355328:Int)/\qjt p s i<=9223372036854775807)/\qf/\qa i/\(∃ j,j<=s.ab.length/\lr s i j/\(BQ p s i j/\qb i j)/\LS (ah p) (ah p)/\LS (ze s) (ze s)/\BQ p s i j/\∀ (i_1:Nat),i_1<qjt p s i->(if i_1<(gL p s i).length+1 then QE p s i i_1 else(BP s i).getD (i_1 - vA p s i) AV.any)=rK p s j i_1))/\(MP p s i->qa i/\(∃ j,j<=s.ab.length/\lr s i j/\SE p s i j/\LS (ah p) (ah p)/\LS (ze s) (ze s)/\qt0 p s i j/\∀ (i_1:Nat),Hd p s i i_1->QE p s i i_1=rK p s j i_1))) (qjs s i/\KV p s i/\(MA p s i->qjs s i/\qr/\O4 p s i/\qf/\qa i/\(∃ j,j<=s.ab.length/\lr s i j/\SE p s i j/\LS (ah p) (ah p)/\LS (ze s) (ze s)/\qt0 p s i j/\∀ (i_1:Nat),Hd p s i i_1->(if i_1<(gL p s i).length then rK p s i i_1 else(BP s i).getD (Bv p s i i_1) AV.any)=rK p s j i_1))/\(MP p s i->qa i/\(∃ j,j<=s.ab.length/\lr s i j/\(N9 p s i j/\qb i j)/\LS (ah p) (ah p)/\LS (ze s) (ze s)/\N9 p s i j/\∀ (i_1:Nat),i_1<(gL p s i).length->rK p s i i_1=rK p s j i_1)))) (Fg p s i/\Fg p s i/\KN 82 [a8 (gL p s i)] (a8 (qt1 p s i))/\La p s i=(cI p s).length/\∀ (i_1:Nat),i_1<La p s i->d9 ((qt1 p s i).getD i_1 0)=Ai p s i_1))) ?_;try delta Z aH SS Ai Rm rK UD QC qsx qr vA O4 qf qsy qjs qsz KV qjt q9 qa lr BQ qb mI Bv QE BP MA qt0 SE Hd MP N9 qc Fg qt1 La
 simp only[SZ];have x:∀ i,zw (gL p s i).length (λj=>d9 ((gL p s i).getD j 0))=gL p s i:=λi=>by rw[za9 (xm _),jk]
 simp only[iL,w6,x];refine⟨am,zrx p 32 s k hs.wo,λh=>?_,λhv=>⟨⟨0,O,⟨rfl,rfl⟩,rfl,λj hj=>O⟩,λi hi=>⟨by have :=Yc hv;omega,λhlt=>?_,λhge=>?_⟩⟩⟩;unfold cI;rw[x8 (by simp[h])];exact⟨rfl,λj hj=>O⟩;have hid:=sG hv hlt;have y:=Yc hv;have hl:=zjq p s i;have u:jY (s.ab.getD i ao).id:=⟨O,O⟩;have b2:jY (m6 (s.ab.getD i ao).id):=by rw[Vd hid.1];exact⟨O,O⟩
 have f:=aku _ u;have k1:=YV p s _ k (hs.s _ hv) u hv;have m:=YV p s _ k (hs.s _ hv) b2 hv;have hO:gL p s (i+1)=gL p s i++((if ka p s (s.ab.getD i ao).id then [(s.ab.getD i ao).id]else [])++(if ka p s (m6 (s.ab.getD i ao).id)then [m6 (s.ab.getD i ao).id]else [])):=Yd p s i;refine⟨hlt,k1,λh1=>⟨am,⟨O,O⟩,f,m,λh2=>⟨f,am,⟨O,O⟩,f9,i+1,O,O, ?_⟩,λh2=>⟨f9,i+1,O,O, ?_⟩⟩,λh1=>⟨f,m,λh2=>⟨f,am,⟨O,O⟩,f9,i+1,O,O, ?_⟩,λh2=>⟨f9,i+1,O,O, ?_⟩⟩⟩;simp only[h1,h2,yk,yi,wu,reduceIte,List.nil_append,yb]at hO;rw[<- wq]at hO;rw[hO];exact⟨⟨ap,O⟩,ap,λj hj=>alf _ _ _ j hj⟩;simp only[h1,h2,yk,yi,wu,reduceIte,List.nil_append,yb]at hO;rw[hO];exact⟨⟨ap,O⟩,ap,λj hj=>kI _ _ j hj⟩;simp only[h1,h2,yk,yi,wu,reduceIte,List.nil_append,yb]at hO;rw[hO];exact⟨⟨ap,O⟩,ap,λj hj=>kI _ _ j hj⟩;grind;have y:=Yc hv;have hl:=zjq p s i;have e:bx (gL p s i)=cI p s:=by
  unfold cI;rw[x9 hv,show i=s.ab.length from O];exact zrz hv
 exact⟨zw4 _ O,by rw[e],λj _=>by rw[e]⟩
theorem rc (h:cQ p b s):cQ p 32 s=true:=by
 have⟨k,i,f⟩:=z12.1 h;exact z12.2 ⟨k,i,λj e=>⟨⟨zjn (f j e).1.1,(f j e).1.2⟩,(f j e).2⟩⟩
theorem ak8 (f:cQ p 32 s) (h:aQ (cL p s) a):ka p s a=true:=by
 rw[zcu,<- zrz f,z59]at h;have⟨j,_,e⟩:=List.mem_flatMap.1 h;rcases xx.1 e with e |e;grind;grind
theorem zs0 (y:cQ p 32 s) (h:aQ (cL p s) a):0<=aS s.ab (aX a)/\zf p s a=zu p s a/\
 ((a<0/\0<(s.ae.getD (bb s a) az).bO.length/\(zf p s a).1.kind=4/\(zf p s a).1.ii=((s.ae.getD (bb s a) az).bO.getD 0 cc).var/\(zf p s a).1.i4=((s.ae.getD (bb s a) az).bO.getD 0 cc).val)∨
  (¬ a<0/\cm p (s.ab.getD (bb s a) ao)=true/\
   ((((zg p (s.ab.getD (bb s a) ao)).op=8∨(zg p (s.ab.getD (bb s a) ao)).op=14)/\((zf p s a).1.kind=1∨(zf p s a).1.kind=8)/\(zf p s a).1.read=(fm s (bb s a) (zg p (s.ab.getD (bb s a) ao)).ii).1)∨
    ((zg p (s.ab.getD (bb s a) ao)).op=9/\(zf p s a).1.kind=3/\(zf p s a).1.ii=(zg p (s.ab.getD (bb s a) ao)).ii/\(zf p s a).1.i4=bp (s.ab.getD (bb s a) ao) (zg p (s.ab.getD (bb s a) ao)).b/\(zf p s a).1.read=0)∨
    (((¬ (zg p (s.ab.getD (bb s a) ao)).op=8/\¬ (zg p (s.ab.getD (bb s a) ao)).op=14)/\¬ (zg p (s.ab.getD (bb s a) ao)).op=9)/\zf p s a=bA p (bN s) a)))):=by
 have f:=ak8 y h;unfold ka at f;rw[xa,xd]at f;have⟨F,f⟩:=f;have x:zf p s a=zu p s a:=by unfold zf;rw[x8 (by simp[y])]
 have j:zf p s a=if a<0 then cg s (bb s a)else bU p s (bb s a):=by rw[x];unfold zu;rw[x8 O];rfl
 refine⟨F,x, ?_⟩;by_cases i:a<0;rw[x9 i,xd]at f;have f:0<(s.ae.getD (bb s a) az).bO.length:=f;rw[x9 i]at j;have e:cg s (bb s a)=(⟨m6 (s.ab.getD (bb s a) ao).id,(s.ae.getD (bb s a) az).first,4,((s.ae.getD (bb s a) az).bO.getD 0 cc).var,-1,(s.ae.getD (bb s a) az).first,0,0,((s.ae.getD (bb s a) az).bO.getD 0 cc).val⟩,true):=by unfold cg;rw[x8 O]
 rw[j,e];exact .inl ⟨i,f,rfl,rfl,rfl⟩;rw[x8 i]at f j;have f:fu p s (bb s a) (cX p (bN s))=true:=f;have m:cm p (s.ab.getD (bb s a) ao)=true:=by
  cases H:cm p (s.ab.getD (bb s a) ao)with
  |true=>rfl
  |false=>rw[abe H]at f;cases f
 refine .inr ⟨i,m, ?_⟩;have u:(s.ab.getD (bb s a) ao).id=a:=by
  have :=(nL F).2;unfold aX at this;rw[x8 i]at this;unfold bb aX;rw[x8 i];exact this
 by_cases E:(zg p (s.ab.getD (bb s a) ao)).op=8∨(zg p (s.ab.getD (bb s a) ao)).op=14;refine .inl ⟨E, ?_⟩;rw[j,zhn m E];refine⟨?_,rfl⟩;by_cases k:(zg p (s.ab.getD (bb s a) ao)).op=14;exact .inr (x9 k);exact .inl (x8 k);by_cases r:(zg p (s.ab.getD (bb s a) ao)).op=9;refine .inr (.inl ⟨r, ?_⟩);rw[j,zqr m r];exact⟨rfl,rfl,rfl,rfl⟩;refine .inr (.inr ⟨⟨⟨O,O⟩,r⟩, ?_⟩);rw[j,zqs m O O r,u]
theorem ajl (s:ja) (t:i5) {i:aK} (h:8<=i.op/\i.op<=22) (k:¬ i.op=8) (f:¬ i.op=14) (j:¬ i.op=9):(m8 s t i).kind≠1/\(m8 s t i).kind≠8/\(m8 s t i).kind≠3/\(m8 s t i).kind≠4:=by
 rcases zbg h with e |e |e |e |e |e |e |e |e |e |e |e |e |e |e;omega;omega;all_goals try (exact absurd e f)
 all_goals simp[m8,bz,im,e,and_self]
 split<;>simp;split;simp;split<;>simp
theorem zs1 {b:bR} (h:bQ b) (x:Int):∀ k,k<=b.bO.length -> -2147483648<=(mB b x k).1/\(mB b x k).1<=2147483647
 |0,_=>by unfold mB;decide
 |k+1,e=>by
  unfold mB
  split
  have :=((z21 b).1 h).2 k O
  unfold mv at this
  simp only[xa,xd]at this
  omega
  exact zs1 h x k (O)
theorem ac8 (e:ca s.l5) (x:Int):wr (fm s k x).1=(fm s k x).1:=by grind[fm,oa.2,eY,zs1,zrn]
theorem al4 {b:bR} (h:bQ b) (e:0<b.bO.length):bH b=(⟨b.ay,b.first+1,b.bO.drop 1⟩,b.bO.getD 0 cc,b.first,0):=by
 unfold bH;rw[x8 (by simp[h]),x8 O]
theorem ajb {b:bR} {x v:Int} (h:(cq b x v).2.2=0):(cq b x v).1.ay=b.ay:=by grind[cq]
theorem zm7 (b:bR) (x v:Int):(cq b x v).1.bO.length<=b.bO.length+1:=by
 unfold cq;repeat' split
 all_goals first
  |exact xt _
  | (simp)
theorem z138 {m:i8} {x v:Int} (h:ca m) (e:0<=x/\x<m.eA.length) (f: -2147483648<=v/\v<=2147483647):(zr m x v).2=0:=by grind[zr,bC]
theorem zs2 (h:cQ p b s) (f:0<=aS s.ab (aX a)) {x:bR} (i:x.ay=(s.ae.getD (bb s a) az).ay):fc s.ae x=s.ae.set (bb s a) x:=by
 have e:=(nL f).1;have j:x.ay=aX a:=by
  rw[i,(nM.1 ((z12.1 h).2.2 (bb s a) e).2).2.1];exact(nL f).2
 unfold fc;rw[j,zry h,x9 f];rfl
theorem z139 (h:(da p b s a).2.2=0):(da p b s a).2.1=bP p s a:=by grind[bP,c5,cl,da]
def oR8 (p:ai) (b:Int) (s:ja) (a:Int):FuncId ->List AV ->Option AV
 |68,_=>some (.av [d9 (zc p).1,d9 (zc p).2.1,d9 (zc p).2.2])
 |69,[_, .int _ c,_]=>some (.bool (cQ p c s))
 |37,_=>some (a8 (cI p s))
 |70,_=>some (.bool (aQ (cI p s) a))
 |36,_=>some (.av [dh (zf p s a).1, .bool (zf p s a).2])
 |71,_=>some (.av [d9 (max (aS s.ab (aX a)) 0), .bool (decide (0<=aS s.ab (aX a)))])
 |47,_=>some (Bw s)
 |72,_=>some (.av [vB (bH (s.ae.getD (bb s a) az)).1,Vq (bH (s.ae.getD (bb s a) az)).2.1,d9 (bH (s.ae.getD (bb s a) az)).2.2.1,d9 (bH (s.ae.getD (bb s a) az)).2.2.2])
 |73,[_, .int _ x, .int _ v]=>some (.av [vM (zr s.l5 x v).1,d9 (zr s.l5 x v).2])
 |74,[_, .mc _ x]=>some (aY (fc s.ae (dB x)))
 |75,[_, .int _ x, .int _ v]=>some (.av [vB (cq (s.ae.getD (bb s a) az) x v).1,d9 (cq (s.ae.getD (bb s a) az) x v).2.1,d9 (cq (s.ae.getD (bb s a) az) x v).2.2])
 |49,[_,_,_, .int _ r]=>some (.av [vT (cd p b (s.ab.getD (bb s a) ao) r).1,d9 (cd p b (s.ab.getD (bb s a) ao) r).2])
 |76,_=>some (fi s)
 |20,_=>some (.av [cx (da p b (bN s) a).1,dh (da p b (bN s) a).2.1,d9 (da p b (bN s) a).2.2])
 |29,_=>some (cx (rX (da p b (bN s) a).1 s.ae))
 |_,_=>none
noncomputable def abf (s:ja) (n:Nat):ls:={di n λ_ _=>false with
 fresh:=λf _=>match Nat.beq f 47 with |true=>some [eO s.ab,Cg s.ae] |false=>none}
noncomputable def vR8 (p:ai) (b:Int) (s:ja) (a:Int) (n:Nat):bm:={C:=abf s n,CC:=mp prog GG,b9:=λ_ _=>oR8 p b s a,inv:=λ_=>none,fz:=λk=>match Nat.beq k 17 || Nat.beq k 31 with |true=>[344064,344065] |false=>[]}
theorem ai0 (p:ai) (b:Int) (s:ja) (a:Int) (e:bI p) (hs:cw s) (f:wK) (hl:s.ab.length<1000000):KN 20 [vP p,d9 b,fi s,d9 a] (.av [cx (da p b (bN s) a).1,dh (da p b (bN s) a).2.1,d9 (da p b (bN s) a).2.2]):=
 (af5 p b (bN s) a e hs.sc f hl).weaken (by rfl) ⟨kY p,⟨rfl,rfl⟩,leN s,⟨rfl,rfl⟩,trivial⟩
theorem zg2 (x:bI p) (hs:cw s) (i:cQ p 32 s) (E:0<=aS s.ab (aX a)) (y:¬ a<0) (k:cm p (s.ab.getD (bb s a) ao)) (f:(¬ (zg p (s.ab.getD (bb s a) ao)).op=8/\¬ (zg p (s.ab.getD (bb s a) ao)).op=14)/\¬ (zg p (s.ab.getD (bb s a) ao)).op=9) (hl:zf p s a=bA p (bN s) a):
 (zf p s a).1=bP p (bN s) a/\(zf p s a).1.kind≠1/\(zf p s a).1.kind≠8/\(zf p s a).1.kind≠3/\(zf p s a).1.kind≠4:=by
 have⟨m,F,_⟩:=zhu x (hs.ok (bb s a)) (z12.1 i).1 k;rw[<- F]at m;have u:aX a=a:=by unfold aX;rw[x8 y]
 have h:=E;rw[u]at h;have H:(aS s.ab a).toNat=bb s a:=by unfold bb;rw[u]
 have j:bg p (bN s) a=(s.ab.getD (bb s a) ao,zg p (s.ab.getD (bb s a) ao),true):=by
  unfold bg;rw[x8 (show ¬ aS (bN s).ab a<0 from(by omega:¬ aS s.ab a<0))];show(s.ab.getD (aS s.ab a).toNat ao,zg p (s.ab.getD (aS s.ab a).toNat ao),cm p (s.ab.getD (aS s.ab a).toNat ao))=_;rw[H,k]
 have e:(zf p s a).1=bP p (bN s) a:=by
  rw[hl];unfold bA bP cl c5;rw[x8 (by rw[ab6 i];simp),x8 (by rw[j];simp)]
 have J:bP p (bN s) a=m8 (bN s) (s.ab.getD (bb s a) ao) (zg p (s.ab.getD (bb s a) ao)):=by unfold bP cl c5;rw[j]
 refine⟨e, ?_⟩;rw[e,J];exact ajl (bN s) _ m.ok.op f.1.1 f.1.2 f.2
theorem aa9 {L:List i5} {M:i8} {B:List bR} {e:Ev} {r:ja×Ev×Int} (f:r=(⟨L,M,B⟩,e,0)):
 ((L.length=r.1.ab.length/\∀ i:Nat,i<L.length ->ak (L.getD i ao)=ak (r.1.ab.getD i ao))/\LS (aj M) (aj r.1.l5)/\B.length=r.1.ae.length/\∀ i:Nat,i<B.length ->aA (B.getD i az)=aA (r.1.ae.getD i az))/\LS (bX e) (bX r.2.1)/\0=r.2.2:=by
 subst f;exact⟨⟨⟨rfl,λ_ _=>rfl⟩,fp rfl,rfl,λ_ _=>rfl⟩,fp rfl,rfl⟩
theorem Yk {L:List i5} {k:Nat} {x:i5} {M:i8} {B:List bR} {e:Ev} {r:ja×Ev×Int} (h:k<L.length) (f:r=(⟨L.set k x,M,B⟩,e,0)):
 ((L.length=r.1.ab.length/\∀ i:Nat,i<L.length ->(if i=k then ak x else ak (L.getD i ao))=ak (r.1.ab.getD i ao))/\LS (aj M) (aj r.1.l5)/\B.length=r.1.ae.length/\∀ i:Nat,i<B.length ->aA (B.getD i az)=aA (r.1.ae.getD i az))/\LS (bX e) (bX r.2.1)/\0=r.2.2:=by
 subst f;exact⟨⟨⟨ap,λi _=>zfz i h⟩,fp rfl,rfl,λ_ _=>rfl⟩,fp rfl,rfl⟩
section
variable (p:ai) (b:Int) (s:ja) (a:Int)
def qt2:Nat:=(zt p b s a).fst.ab.length
def Tw:Nat:=(zt p b s a).fst.ae.length
def IP:=qt2 p b s a=0/\((zt p b s a).fst.l5.eA.length=0/\(zt p b s a).fst.l5.aa.length=0/\(zt p b s a).fst.l5.a6.length=0/\(zt p b s a).fst.l5.lT.length=0)/\Tw p b s a=0
def AO:=AV.mc c7 (aA (s.ae.getD (uw s a) az))
def J0:=aA (bH (s.ae.getD (bb s a) az)).fst
def LZ:=AV.mc c7 (J0 s a)
def BR:cD×Int×Int:=(bH (s.ae.getD (bb s a) az)).snd
def qt3:cD:=(BR s a).fst
def Q3:Int×Int:=(BR s a).snd
def CJ:Int:=(qt3 s a).var
def zC:Int:=(qt3 s a).val
def Pr:i8×Int:=zr s.l5 (CJ s a) (zC s a)
def BC:=aj (Pr s a).fst
def qt4:List bR:=fc s.ae (dB (J0 s a))
def qt5:=s.ab.length=qt2 p b s a
variable (x4:Nat)
def YJ:=ak ((zt p b s a).fst.ab.getD x4 ao)
def C9:Nat:=(qt4 s a).length
def qjv:=aA ((zt p b s a).fst.ae.getD x4 az)
def qjw:=LS (bX (zf p s a).fst) (bX (qp p b s a))/\0=qy p b s a
def EZ:=(zf p s a).fst.kind==4
def qjx:=af (qx s a) s.ab.length
def K3:=AV.mc zk (ak (s.ab.getD (uw s a) ao))
def HB:i5×Int:=cd p b (s.ab.getD (bb s a) ao) (zf p s a).fst.read
def Km:=ak (HB p b s a).fst
def D0:=uw s a<s.ab.length
def It:=LS (aj s.l5) (aj (zt p b s a).fst.l5)
def FE:=qjx s a/\KN 49 [AV.mc z7 (ah p),d9 b,K3 s a,d9 (zf p s a).fst.read] (AV.av [AV.mc zk (Km p b s a),d9 (HB p b s a).snd])/\qjx s a/\D0 s a/\s.ab.length<=s.ab.length/\s.ae.length<=s.ae.length/\((qt5 p b s a/\∀ i:Nat,i<s.ab.length->(if i=(max (aS s.ab (aX a)) 0).toNat then Km p b s a else ak (s.ab.getD i ao))=YJ p b s a i)/\It p b s a/\s.ae.length=Tw p b s a/\∀ i:Nat,i<s.ae.length->aA (s.ae.getD i az)=qjv p b s a i)/\qjw p b s a
def EI:=(zf p s a).fst.kind==1
def Kk:=EI p s a=true
def RY:bR×Int×Int:=cq (s.ae.getD (bb s a) az) (zf p s a).fst.ii (zf p s a).fst.i4
def FO:=aA (RY p s a).fst
def BD:=AV.mc c7 (FO p s a)
def FP:Int×Int:=(RY p s a).snd
def Nq:Int:=(FP p s a).snd
def O5:=Nq p s a !=0
def Ma:i5×Int:=cd p b (s.ab.getD (bb s a) ao) 0
def JG:=ak (Ma p b s a).fst
def qt6:List bR:=fc s.ae (dB (FO p s a))
def zO:Nat:=(qt6 p s a).length
def IJ:=(zf p s a).fst.kind==3
def Rp:=AV.mc aI (ze (da p b (bN s) a).fst)
def qt7:Int:=(da p b (bN s) a).snd.snd
def Bn:=qt7 p b s a !=0
def CY:=aj (da p b (bN s) a).fst.l5
def qt8:Nat:=(da p b (bN s) a).fst.ab.length
def qt9:List bR:=eJ (da p b (bN s) a).fst.ab s.ae (qt8 p b s a)
def Ac:Nat:=(qt9 p b s a).length
def Gd:=Z (IJ p s a) (Ub s a/\KN 75 [AO s a,d9 (zf p s a).fst.ii,d9 (zf p s a).fst.i4] (AV.av [BD p s a,d9 (FP p s a).fst,d9 (Nq p s a)])/\Z (O5 p s a) (IP p b s a/\q26 p b s a/\30=qy p b s a) (qjx s a/\KN 49 [AV.mc z7 (ah p),d9 b,K3 s a,d9 (0:Int)] (AV.av [AV.mc zk (JG p b s a),d9 (Ma p b s a).snd])/\qjx s a/\D0 s a/\s.ab.length<=s.ab.length/\s.ab.length<=s.ab.length/\s.ae.length<=s.ae.length/\s.ab.length<=s.ab.length/\s.ae.length<=s.ae.length/\KN 74 [aY s.ae,BD p s a] (aY (qt6 p s a))/\((qt5 p b s a/\∀ i:Nat,i<s.ab.length->(if i=(max (aS s.ab (aX a)) 0).toNat then JG p b s a else ak (s.ab.getD i ao))=YJ p b s a i)/\It p b s a/\zO p s a=Tw p b s a/\∀ i:Nat,i<zO p s a->aA ((qt6 p s a).getD i az)=qjv p b s a i)/\qjw p b s a)) (KN 76 [AV.mc aI (ze s)] (mF s)/\KN 20 [AV.mc z7 (ah p),d9 b,mF s,d9 a] (AV.av [Rp p b s a,AV.mc bF (bX (da p b (bN s) a).snd.fst),d9 (qt7 p b s a)])/\Z (Bn p b s a) (IP p b s a/\q26 p b s a/\qt7 p b s a=qy p b s a) (KN 29 [Rp p b s a,aY s.ae] (AV.mc aI (AV.agg [aF (da p b (bN s) a).fst.ab,CY p b s a,aY (qt9 p b s a)]))/\((qt8 p b s a=qt2 p b s a/\∀ i:Nat,i<qt8 p b s a->ak ((da p b (bN s) a).fst.ab.getD i ao)=YJ p b s a i)/\LS (CY p b s a) (aj (zt p b s a).fst.l5)/\Ac p b s a=Tw p b s a/\∀ i:Nat,i<Ac p b s a->aA ((qt9 p b s a).getD i az)=qjv p b s a i)/\qjw p b s a))
def Rv:=EI p s a=false
def Cf:=(zf p s a).fst.kind==8
end
theorem zs4 (p:ai) (b:Int) (s:ja) (a:Int) (e:bI p) (hs:SOd p s) (N:wK) (y:jY a) (hq:cQ p b s=true ->(kw s.l5).length<400000):KN 35 [vP p,d9 b,cx s,d9 a] (.av [cx (zt p b s a).1,dh (zt p b s a).2.1,d9 (zt p b s a).2.2]):=by
 refine Kn (vR8 p b s a 204) func35 (KN 68 [AV.mc z7 (ah p)] (AV.av [d9 (zc p).fst,d9 (zc p).snd.fst,d9 (zc p).snd.snd])/\Z (T8 p) (IP p b s a/\q26 p b s a/\(zc p).fst=qy p b s a) (q13 b/\q13 b/\Z (l7 b) (IP p b s a/\q26 p b s a/\2=qy p b s a) (KN 69 [AV.mc z7 (ah p),d9 b,AV.mc aI (ze s)] (AV.bool (cQ p b s))/\Z (!cQ p b s) (IP p b s a/\q26 p b s a/\1=qy p b s a) (KN 37 [AV.mc z7 (ah p),AV.mc aI (ze s)] (a8 (cI p s))/\KN 70 [a8 (cI p s),d9 a] (AV.bool (aQ (cI p s) a))/\Z (!aQ (cI p s) a) (IP p b s a/\q26 p b s a/\19=qy p b s a) (KN 36 (AV.mc z7 (ah p)::uM s a) (AV.av [AV.mc bF (bX (zf p s a).fst),AV.bool (zf p s a).snd])/\KN 71 (uM s a) (AV.av [d9 (qx s a),AV.bool (decide ((0:Int)<=aS s.ab (aX a)))])/\(KF (47:Nat) [AV.mc aI (ze s)] (AV.mc aI (AV.agg [AV.own (0:Nat) s.ab.length,aj s.l5,AV.own (1:Nat) s.ae.length])) [ar.row (51:TypeId) zk s.ab.length λi=>ak (s.ab.getD i ao),ar.row (68:TypeId) c7 s.ae.length λi=>aA (s.ae.getD i az)])/\Z (EZ p s a) (Ub s a/\KN 72 [AO s a] (AV.av [LZ s a,AV.mc dz (cF (qt3 s a)),d9 (Q3 s a).fst,d9 (Q3 s a).snd])/\KN 73 [AV.mc zm (aj s.l5),d9 (CJ s a),d9 (zC s a)] (AV.av [AV.mc zm (BC s a),d9 (Pr s a).snd])/\s.ab.length<=s.ab.length/\s.ae.length<=s.ae.length/\s.ab.length<=s.ab.length/\s.ae.length<=s.ae.length/\KN 74 [aY s.ae,LZ s a] (aY (qt4 s a))/\((qt5 p b s a/\∀ i:Nat,i<s.ab.length->ak (s.ab.getD i ao)=YJ p b s a i)/\LS (BC s a) (aj (zt p b s a).fst.l5)/\C9 s a=Tw p b s a/\∀ i:Nat,i<C9 s a->aA ((qt4 s a).getD i az)=qjv p b s a i)/\qjw p b s a) ((Kk p s a->(Kk p s a->FE p b s a)/\(Rv p s a->Gd p b s a))/\(Rv p s a->Z (Cf p s a) (FE p b s a) (Gd p b s a)))))))) ?_;try delta Z qt2 Tw IP qp q26 qy T8 wH wO q13 l7 uM qx Ub uw AO J0 LZ BR qt3 Q3 CJ zC Pr BC qt4 qt5 YJ C9 qjv qjw EZ qjx K3 HB Km D0 It FE EI Kk RY FO BD FP Nq O5 Ma JG qt6 zO IJ mF Rp qt7 Bn CY qt8 qt9 Ac Gd Rv Cf
 simp only[SZ];have ld:zt p b s a=if(zc p).1≠0 then(mt,aW,(zc p).1)else if b<1∨32<b then(mt,aW,2)else if cQ p b s=false then(mt,aW,1)
  else if aQ (cL p s) a=false then(mt,aW,19)
  else if fj (zu p s a).1 then
   (if(dn p b s (bb s a) (zu p s a).1).2≠0 then(mt,aW,(dn p b s (bb s a) (zu p s a).1).2)else((dn p b s (bb s a) (zu p s a).1).1,(zu p s a).1,0))
  else dH p b s a:=rfl
 refine⟨zoi p e,λh=>qO (by rw[ld,x9 h]),λh1=>⟨λh=>qO (by rw[ld,x8 (by simp[h1]),x9 h]),λh2=>⟨zrx p b s e hs.wo,λh=>qO (by rw[ld,x8 (by simp[h1]),x8 O,x9 h]),λhvb=>?_⟩⟩⟩;rw[x8 (by simp[h1]),x8 O,x8 (by simp[hvb])]at ld;have hv:=rc hvb;have ho:=hs;have hs:=hs.s _ hvb;have hq:=hq hvb;have hen:cI p s=cL p s:=by unfold cI;rw[x9 hv]
 rw[hen];have hn:=Yc hv;have hag:(cL p s).length<=1000000:=by
  have q1:=z9m s.ae 0;have q2:=zbd p s s.ab.length;have h2:=(z12.1 hv).2.1;unfold cL;rw[xl];omega
 refine⟨by rw[<- hen];exact aap p s e ho,Ts _ _ O,λh=>qO (by rw[ld,x9 h]),λha=>?_⟩;rw[x8 (by simp[ha])]at ld;have⟨h0,H,lC⟩:=zs0 hv ha;rw[<- H]at ld;have⟨hk,U,hid,vM,hlen,k,hbe⟩:=zuj hvb h0;have eK:(aS s.ab (aX a)).toNat=bb s a:=rfl;simp only[yc h0,eK];have hk1:=hk.1;have hk2:=hk.2;have heb:=hs.nw (bb s a);have hform:ca s.l5=true:=by
  unfold ec at vM;simp only[xa,xo]at vM;exact vM.2.1
 have vT:=((z12.1 hvb).2.2 (bb s a) hk1).1.1;have kf:=zjp s a ho.wo y;rw[yc h0]at kf;have E:∀ r,wr r=r ->cm p (s.ab.getD (bb s a) ao)=true ->(cd p b (s.ab.getD (bb s a) ao) r).2=0:=λr hr hb=>by
  unfold cm at hb;rw[xa,xo]at hb;exact zz2 vT hb.1 hr
 have B:(zf p s a).1.kind=1∨(zf p s a).1.kind=8 ->cm p (s.ab.getD (bb s a) ao)=true/\wr (zf p s a).1.read=(zf p s a).1.read:=λhk=>by
  rcases lC with lC | ⟨ln,f,lC |lC |lC⟩;have :=lC.2.2.1;omega;rw[lC.2.2];exact⟨f,ac8 hform _⟩;have :=lC.2.1;omega;exfalso;have :=(zg2 e hs hv h0 ln f lC.1 lC.2).2;omega
 have fB:(zf p s a).1.kind=1∨(zf p s a).1.kind=8 ->zt p b s a=(⟨s.ab.set (bb s a) (cd p b (s.ab.getD (bb s a) ao) (zf p s a).1.read).1,s.l5,s.ae⟩,(zf p s a).1,0):=λhk=>by
  have e1:fj (zf p s a).1=true:=by unfold fj;simp only[xk,xo];omega
  have m:dn p b s (bb s a) (zf p s a).1=(⟨s.ab.set (bb s a) (cd p b (s.ab.getD (bb s a) ao) (zf p s a).1.read).1,s.l5,s.ae⟩,0):=by
   unfold dn;rw[x8 O,x8 O,x8 (by rw[E _ (B hk).2 (B hk).1];exact λh=>h rfl)]
  rw[ld,x9 e1,m,x8 (λh=>h rfl)]
 have kB:∀ x:bR,x.bO.length<=1000000 ->_:=λx hx=>ai5 s.ae x hs.ae hs.nw hx;have u:=λr=>zpu p b (s.ab.getD (bb s a) ao) r e (hs.ok (bb s a));have Bg:∀ hk:(zf p s a).1.kind=1∨(zf p s a).1.kind=8,_:=λhk=>Yk hk1 (fB hk);have D:(zf p s a).1.kind≠4 ->(zf p s a).1.kind≠1 ->(zf p s a).1.kind≠8 ->(zf p s a).1.kind≠3 ->zt p b s a=dH p b s a/\(zf p s a).1=bP p (bN s) a:=λq4 q1 q8 q3=>by
  refine⟨by rw[ld,x8 (by unfold fj;simp only[xk,xo];omega)], ?_⟩;rcases lC with lC | ⟨ln,f,lC |lC |lC⟩;exact absurd lC.2.2.1 q4;omega;exact absurd lC.2.1 q3;exact(zg2 e hs hv h0 ln f lC.1 lC.2).1
 have C:(zf p s a).1.kind=3 ->cm p (s.ab.getD (bb s a) ao)=true/\(zf p s a).1.read=0:=λq3=>by
  rcases lC with lC | ⟨ln,f,lC |lC |lC⟩;have :=lC.2.2.1;omega;omega;exact⟨f,lC.2.2.2.2⟩;have :=(zg2 e hs hv h0 ln f lC.1 lC.2).2;omega
 have R:(zf p s a).1.kind=3 ->∀ q:¬ (cq (s.ae.getD (bb s a) az) (zf p s a).1.ii (zf p s a).1.i4).2.2≠0,zt p b s a=(⟨s.ab.set (bb s a) (cd p b (s.ab.getD (bb s a) ao) 0).1,s.l5,fc s.ae (cq (s.ae.getD (bb s a) az) (zf p s a).1.ii (zf p s a).1.i4).1⟩,(zf p s a).1,0):=λq3 q=>by
  have e1:fj (zf p s a).1=true:=by unfold fj;simp only[xk,xo];omega
  have m:dn p b s (bb s a) (zf p s a).1=(⟨s.ab.set (bb s a) (cd p b (s.ab.getD (bb s a) ao) 0).1,s.l5,fc s.ae (cq (s.ae.getD (bb s a) az) (zf p s a).1.ii (zf p s a).1.i4).1⟩,0):=by
   unfold dn;rw[x8 O,x9 q3,x8 q,(C q3).2,x8 (by rw[E 0 rfl (C q3).1];exact λh=>h rfl),zs2 hvb h0 (ajb (ye.1 q))]
  rw[ld,x9 e1,m,x8 (λh=>h rfl)]
 refine⟨zz9 p s a e ho y,kf,Yi s hs,λh4=>?_,λh4=>?_⟩;rcases lC with lC | ⟨ln,f,lC |lC |lC⟩;have⟨_,le,_,lo,F⟩:=lC;have hpop:=al4 k le;have j:mv ((s.ae.getD (bb s a) az).bO.getD 0 cc)=true:=((z21 _).1 k).2 0 le;unfold mv at j;simp only[xa,xd]at j;have hvar:=hbe 0 le;have K:s.l5.eA.length=p.eA.length:=by
  unfold ec at vM;simp only[xa,xo]at vM;omega
 refine⟨⟨h0,O⟩,adt _ heb,zfx _ _ _ hs.l5,kB _ ?_,aa9 ?_⟩;rw[hpop];show(List.drop 1 _).length<=_;rw[wn];omega;have e1:fj (zf p s a).1=true:=by unfold fj;simp only[xk,xo];omega
 have m:dn p b s (bb s a) (zf p s a).1=(⟨s.ab,(zr s.l5 (bH (s.ae.getD (bb s a) az)).2.1.var (bH (s.ae.getD (bb s a) az)).2.1.val).1,fc s.ae (bH (s.ae.getD (bb s a) az)).1⟩,0):=by
  unfold dn;rw[x9 h4,zs2 hvb h0 (by rw[hpop]),lo,F,hpop];rw[x8 (λh=>h rfl),x8 (by rw[z138 hform O O];exact λh=>h rfl)]
 rw[ld,x9 e1,m,x8 (λh=>h rfl)];omega;have :=lC.2.1;omega;have :=(zg2 e hs hv h0 ln f lC.1 lC.2).2;omega;have kp:=zjo s;have J:=ai0 p b s a e hs N O;refine⟨λq1=>⟨λ_=>⟨⟨h0,O⟩,u _,⟨h0,O⟩,hk1,Bg (.inl q1)⟩,λq=>absurd q1 q⟩,λq1=>⟨λq8=>⟨⟨h0,O⟩,u _,⟨h0,O⟩,hk1,Bg (.inr q8)⟩,λq8=>⟨λq3=>⟨⟨h0,O⟩,aiz _ _ _ heb,λq=>qO ?_,λq=>⟨⟨h0,O⟩,u 0,⟨h0,O⟩,hk1,kB _ ?_,Yk hk1 (R q3 (by rw[q];exact λh=>h rfl))⟩⟩,λq3=>⟨kp,J,λq=>qO ?_,λq=>⟨zx6 _ _ ?_ hs.ae hs.nw, ?_⟩⟩⟩⟩⟩;have e1:fj (zf p s a).1=true:=by unfold fj;simp only[xk,xo];omega
 have m:dn p b s (bb s a) (zf p s a).1=(mt,30):=by unfold dn;rw[x8 O,x9 q3,x9 q]
 rw[ld,x9 e1,m,x9 am];have :=zm7 (s.ae.getD (bb s a) az) (zf p s a).1.ii (zf p s a).1.i4;have :=((z21 _).1 k).1;omega;rw[(D h4 q1 q8 q3).1];unfold dH;rw[x9 q];exact(zjl e hs.sc hq (by show s.ab.length<1000000;omega)).1;refine aa9 ?_;have⟨d1,Q⟩:=D h4 q1 q8 q3;rw[d1,Q,<- z139 q];unfold dH;rw[x8 (by rw[q];exact λh=>h rfl)];rfl
def tu (l:List i5):Prop:=∀ j,0<=(l.getD j ao).id
theorem zm8:tu []:=λ_=>yr _
theorem zjr {l:List i5} {k:Nat} {t:i5} (h:tu l) (e:0<=t.id):tu (l.set k t):=λj=>by
 rw[x7,gq]
 split
 split
 exact e
 exact yr _
 rw[<- x7];exact h j
theorem alc {l:List i5} {n:Nat} {t:i5} (f:n<=l.length) (h:tu l) (e:0<=t.id):tu (gB l t n):=λj=>by
 rw[z9r _ _ _ f]
 split
 exact h _
 split
 exact e
 exact h _
theorem zjs {t:i5} {r:Int} (h:0<=t.id):0<=(cd p b t r).1.id:=by
 unfold cd;split;exact yr _;split;exact yr _;split;exact yr _;split;exact yr _;show 0<=(z4q p b _ _).id;rw[zbh,(Y2 _ _ _).1];exact h
theorem zs5 {id fn arg:Int} (h:0<=id):0<=(ba p b id fn arg).1.id:=by
 unfold ba;split;exact yr _;split;exact yr _;split;exact yr _;split;exact yr _;show 0<=(z4q p b _ _).id;rw[zbh];exact h
theorem afx (t:i5):0<=eU t:=by
 unfold eU;split;rename_i h;unfold cA at h;simp at h;have :=tO (id:=t.id) O;omega;decide
theorem zul (h:tu s.ab):tu (da p b s a).1.ab:=by
 have f:∀ {w:ja×Int},w=(if(bP p s a).kind=16 then eH p b {s with l5:=(cW p s a).1} (bP p s a).ii (c5 p s a).ii (bp (cl p s a) (c5 p s a).b)else({s with l5:=(cW p s a).1},0)) ->da p b s a=
  if aV p b≠0 then(mt,aW,aV p b)else if bT p b s=false then(mt,aW,1)else if(bg p s a).2.2=false∨z20 s (cl p s a) (c5 p s a)=false then(mt,aW,19)else if(cW p s a).2.2≠0 then(mt,aW,30)
  else if w.2≠0 then(mt,aW,w.2)else if(gY p b s a).2≠0 then(mt,aW,(gY p b s a).2)else({w.1 with ab:=w.1.ab.set (aS w.1.ab a).toNat (gY p b s a).1},bP p s a,0):=λh=>by subst h;rfl
 obtain⟨w,e⟩:∃ w:ja×Int,w=(if(bP p s a).kind=16 then eH p b {s with l5:=(cW p s a).1} (bP p s a).ii (c5 p s a).ii (bp (cl p s a) (c5 p s a).b)else({s with l5:=(cW p s a).1},0)):=⟨_,rfl⟩;have k:tu w.1.ab:=by
  rw[e];split;rename_i j;unfold eH;split;exact zm8;split;exact zm8;refine alc (uj _ _) h (zs5 ?_);rw[show(bP p s a).ii=eU (cl p s a)from(z9s j).2];exact afx _;exact h
 have i:0<=(cl p s a).id:=by
  unfold cl bg;split;exact yr _;exact h _
 rw[f e];repeat' split
 all_goals first
  |exact zm8
  |exact zjr k (zjs i)
structure mz (s:ja) (i n:Nat):Prop where
 sm:cw s
 all:(kw s.l5).length<=n
 ab:s.ab.length<=n
 nw:∀ j,(s.ae.getD j az).bO.length<=i
 ids:tu s.ab
theorem zbi {x:bR} (h:∀ j,(l.getD j az).bO.length<=n) (e:x.bO.length<=n) (j:Nat):((l.set k x).getD j az).bO.length<=n:=by
 rw[x7,gq];split;split;exact e;exact xt _;simp_all
theorem ae0 (b:bR):(bH b).1.bO.length<=b.bO.length:=by
 unfold bH;repeat' split
 exact xt _;exact xt _;grind
theorem aj7 {t:Int} {n:Nat} (e:∀ j,(l.getD j az).bO.length<=n):(sC l t).bO.length<=n:=by
 unfold sC;split;exact e _;grind
theorem zs6 (e:List i5) {l:List bR} {n:Nat} (h:∀ j,(l.getD j az).bO.length<=n) (j:Nat):((eJ e l e.length).getD j az).bO.length<=n:=by
 by_cases f:j<e.length;rw[z9l _ _ _ (xm _) j f];exact aj7 h;rw[x7,y9 (by rw[xY _ _ _ (xm _)];omega)];exact xt _
theorem pr (i n:Nat):mz mt i n:=⟨zft,xt _,xt _,λ_=>xt _,zm8⟩
theorem ajp {k:Nat} {e:Ev} (u:bI p) (w:mz s i n) (y:i<1000000):mz (dn p b s k e).1 (i+1) (n+1):=by
 have hs:=w.sm;have x:=w.all;have wt:=w.ab;have f:∀ j,(s.ae.getD j az).bO.length<=i+1:=λj=>by have :=w.nw j;omega
 have m:∀ r,dU (cd p b (s.ab.getD k ao) r).1:=λr=>zm4 u (hs.ok k);unfold dn;simp only;split;split;exact pr _ _;split;exact pr _ _;have Z:=zhs hs.l5 e.ii e.i4;have h:(bH (s.ae.getD k az)).1.bO.length<=i+1:=by have :=ae0 (s.ae.getD k az);have :=f k;omega
 have :=Z.2;exact⟨⟨hs.ab,hs.ok,Z.1,by simp;exact hs.ae,λj=>yd (zbi f h j) O⟩,by show(kw (zr s.l5 e.ii e.i4).1).length<=_;omega,by show s.ab.length<=_;omega,zbi f h,w.ids⟩;split;split;exact pr _ _;split;exact pr _ _;have h:(cq (s.ae.getD k az) e.ii e.i4).1.bO.length<=i+1:=by have :=zm7 (s.ae.getD k az) e.ii e.i4;have :=w.nw k;omega
 exact⟨⟨by simp only[yy];exact hs.ab,zfy hs.ok (m _),hs.l5,by simp only[yy];exact hs.ae,λj=>yd (zbi f h j) O⟩,by show(kw s.l5).length<=_;omega,by simp only[yy];omega,zbi f h,zjr w.ids (zjs (w.ids k))⟩;split;exact pr _ _;exact⟨⟨by simp only[yy];exact hs.ab,zfy hs.ok (m _),hs.l5,hs.ae,hs.nw⟩,by show(kw s.l5).length<=_;omega,by simp only[yy];omega,f,zjr w.ids (zjs (w.ids k))⟩
theorem agd (k:bI p) (w:mz s i n) (u:n<400000) (x:i<1000000):mz (dH p b s a).1 (i+1) (n+1):=by
 have hs:=w.sm;have m:=w.all;have wt:=w.ab;unfold dH;split;exact pr _ _;have⟨e,h,f⟩:=zjl (b:=b) (a:=a) k hs.sc (show(kw s.l5).length<400000 by omega) (show s.ab.length<1000000 by omega);have h:(kw (da p b (bN s) a).1.l5).length<=(kw s.l5).length+1:=h;have f:(da p b (bN s) a).1.ab.length<=s.ab.length+1:=f;refine⟨⟨e.ab,e.ok,e.l5, ?_,λj=>?_⟩, ?_, ?_,λj=>?_,zul (s:=bN s) w.ids⟩;show(eJ _ _ _).length<=_;rw[xY _ _ _ (xm _)];exact e.ab;exact zs6 _ hs.nw j;show(kw (da p b (bN s) a).1.l5).length<=_;omega;show(da p b (bN s) a).1.ab.length<=_;omega;have :=zs6 (da p b (bN s) a).1.ab w.nw j;exact Nat.le_succ_of_le this
theorem zza (e:bI p) (w:mz s i n) (f:n<400000) (h:i<1000000):mz (zt p b s a).1 (i+1) (n+1):=by grind[zt,pr,ajp,agd]
theorem zma {j m:Nat} (w:mz s i n) (h:i<=j) (h2:n<=m):mz s j m:=⟨w.sm,yd w.all h2,yd w.ab h2,λk=>yd (w.nw k) h,w.ids⟩
theorem ajz (e:bI p):cw (zp p b).1:=by
 unfold zp;split;exact zft;have h:=zbc (b:=b) e;refine⟨h.ab,h.ok,h.l5, ?_,λj=>?_⟩;show(eJ _ [] _).length<=_;rw[xY _ _ _ (xm _)];exact h.ab;show((eJ _ [] _).getD j az).bO.length<=_;by_cases f:j<(zj p b).1.ab.length;rw[z9l _ _ _ (xm _) j f];exact xt _;rw[x7,y9 (by rw[xY _ _ _ (xm _)];omega)];exact xt _
theorem ace (f:bI p) (i:p.ab.length<=1000):mz (zp p b).1 0 399000:=by
 have hs:=ajz (b:=b) f;unfold zp at hs ⊢;split;exact pr _ _;rename_i h;rw[x8 h]at hs;have e:zj p b=(⟨z1p p b p.ab.length,(m0 p).1,[]⟩,0):=by unfold zj;rw[x8 h]
 refine⟨hs, ?_, ?_,λj=>?_,λj=>?_⟩;show(kw (zj p b).1.l5).length<=_;rw[e];unfold kw m0;split;exact xt _;simp_all;show(zj p b).1.ab.length<=_;rw[e];show(z1p p b _).length<=_;rw[pG];omega;exact zs6 _ (λk=>xt _) j;show 0<=((zj p b).1.ab.getD j ao).id;rw[e];unfold z1p;rw[x7,gh];cases m:(List.range p.ab.length)[j]? with
 |none=>exact yr _
 |some k=>exact zs5 (O)
theorem zxu:∀ {l:List Nat} {x:Nat},x∈l ->x<=l.sum
 |y::l,x,h=>by
  rw[List.sum_cons]
  rcases xv.1 h with rfl |h
  omega
  have :=zxu h;omega
theorem afh {α:Type} (l:List α) (d:α) (f:α ->Nat) (i:Nat) (h:f d=0):f (l.getD i d)<=((l.take l.length).map f).sum:=by
 rw[jk];by_cases e:i<l.length;rw[x7,xe e];show f l[i]<=_;have :f l[i]∈l.map f:=wv.2 ⟨_,wm e,rfl⟩;exact zxu this;rw[x7,y9 O];show f d<=_;omega
theorem acx (h:kn p) (j:NmP p):bI p:=by
 unfold kn at h;rw[xa,xd,xd]at h;have⟨m,k⟩:=h;rw[show min p.ef.length 20=p.ef.length from O]at k;unfold iA at k;refine⟨O,O,O,O,O,λi=>?_,λi=>?_,λi=>?_,λi=>?_,λi=>?_⟩;have :=afh p.ef bL (λf=>f.code.length) i rfl;omega;have e:((na p).getD i []).length=(p.eA.getD i dY).name.length:=by
  unfold na;rw[x7,x7,gh];cases p.eA[i]? <;>rfl
 have :=j.vn i;omega;have :=j.mn i;omega;have :=j.cn i;omega;have e:((oM p).getD i []).length=(p.ef.getD i bL).name.length:=by
  unfold oM;rw[x7,x7,gh];cases p.ef[i]? <;>rfl
 have :=j.fn i;omega
end
end Go.Proofs.S25
