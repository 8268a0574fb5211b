import Derived.Test.YtgcpdfihjmmggaaGreatDoorXzb
import Derived.Test.YtgcpdfihjmmggaaGreatDoorXx
namespace Go.Proofs.S25
open Go Go.AV Tryz
open Go.IntKind renaming i64 -> j6
open Go.AV.ex (ey)
noncomputable section
variable {m:i8} {l:List i5} {id:Int} {k:Nat} (p:ai) (b:Int) (s:ja) (t:i5) (i:aK) (e:Ev) (a:Int) (n:Nat)
abbrev lz:Prop:=∀ (m:i8) (c id:Int),dk m ->KN 239 [vM m,d9 c,d9 id] (.av [vM (aZ m c id).1,d9 (aZ m c id).2])
theorem zhr:dk du/\(kw du).length<=n:=⟨⟨am,am,am,am,am⟩,xt _⟩
theorem Zg (e:dk m) (i id h f:Int):dk (bc m i id h f).1/\(kw (bc m i id h f).1).length<=(kw m).length:=by
 unfold bc;split;exact zhr _;split;exact zhr _;split;exact zhr _;exact⟨⟨e.eA,by simpa using e.aa,e.a6,e.lT,e.all⟩,xm _⟩
section
variable (m:i8) (e:Ev)
def A6:=KN 127 [AV.mc zm (aj m),d9 e.ii,d9 e.i4] (AV.av [AV.mc zm (aj (zr (dM (aj m)) e.ii e.i4).fst),d9 (zr (dM (aj m)) e.ii e.i4).snd])
end
section
variable (m:i8) (t:i5) (i:aK) (e:Ev)
def qrm:=LS (aj (zr (dM (aj m)) e.ii e.i4).fst) (aj (cY m t i e).fst)
def Z5:Int:=(cY m t i e).snd.fst
def Qx:=1=Z5 m t i e
def r9:Int:=(cY m t i e).snd.snd
def qrn:=(zr (dM (aj m)) e.ii e.i4).snd=r9 m t i e
def DI:=e.read=Z5 m t i e
def rC:=0=Z5 m t i e
def qro:=LS (aj m) (aj (cY m t i e).fst)
def qrp:=0=r9 m t i e
def KL:=qro m t i e/\DI m t i e/\qrp m t i e
def Hf:=(e.kind==1)=true
def EV:=qro m t i e/\rC m t i e/\qrp m t i e
def BZ:List AV:=[d9 e.ii,d9 t.id]
def Of:List AV:=AV.mc zm (aj m)::BZ t e
def R7:i8×Int:=bc (dM (aj m)) e.ii t.id (-1) t.id
def KK:=aj (R7 m t e).fst
def zX:Int:=(R7 m t e).snd
def Mk:=KN 237 (Of m t e) (AV.av [AV.mc zm (KK m t e),d9 (zX m t e)])
def Ab:=LS (KK m t e) (aj (cY m t i e).fst)
def Ph:=zX m t e=r9 m t i e
def Jz:i8×Int:=bc (dM (aj m)) e.ii t.id t.id (-1)
def E0:=aj (Jz m t e).fst
def Fa:Int:=(Jz m t e).snd
def BW:i8×Int:=bc (dM (aj m)) e.k7 t.id t.id (-1)
def qrq:=aj (BW m t e).fst
def PW:=AV.mc zm (qrq m t e)
def qrr:Int:=(BW m t e).snd
def zS:i8×Int:=aZ (dM (qrq m t e)) e.ii t.id
def Nw:=aj (zS m t e).fst
def JL:Int:=(zS m t e).snd
def DX:=qrr m t e==0
def Wn:List AV:=[AV.mc zm (aj m),d9 e.ii]
def TE:=aj (zi (dM (aj m)) e.ii 1).fst
def ZA:Int×Int:=(zi (dM (aj m)) e.ii 1).snd
def U9:Int:=(ZA m e).snd
def qrs:i8×Int×Int:=zi (dM (aj m)) e.ii (z1z (dR (dR dI) (aE m.a6)))
def TI:=aj (qrs m e).fst
def qj4:Int×Int:=(qrs m e).snd
def UF:Int:=(qj4 m e).snd
def Qi:=Z (e.kind==11) (Z (e.read==0) (EV m t i e) (Mk m t e/\Ab m t i e/\Qx m t i e/\Ph m t i e)) (Z (e.kind==9) (Mk m t e/\Ab m t i e/\rC m t i e/\Ph m t i e) (Z (e.kind==10) (KN 238 (Of m t e) (AV.av [AV.mc zm (E0 m t e),d9 (Fa m t e)])/\LS (E0 m t e) (aj (cY m t i e).fst)/\rC m t i e/\Fa m t e=r9 m t i e) (Z (e.kind==12) (KN 238 [AV.mc zm (aj m),d9 e.k7,d9 t.id] (AV.av [PW m t e,d9 (qrr m t e)])/\Z (DX m t e) (KN 239 (PW m t e::BZ t e) (AV.av [AV.mc zm (Nw m t e),d9 (JL m t e)])/\LS (Nw m t e) (aj (cY m t i e).fst)/\rC m t i e/\JL m t e=r9 m t i e) (LS (qrq m t e) (aj (cY m t i e).fst)/\rC m t i e/\qrr m t e=r9 m t i e)) (Z (e.kind==13) (KN 240 [AV.mc zm (aj m),d9 t.id] (AV.av [AV.mc zm (aj (dD (dM (aj m)) t.id).fst),d9 (dD (dM (aj m)) t.id).snd])/\LS (aj (dD (dM (aj m)) t.id).fst) (aj (cY m t i e).fst)/\rC m t i e/\(dD (dM (aj m)) t.id).snd=r9 m t i e) (Z (e.kind==14) (KN 241 (Wn m e) (AV.av [AV.mc zm (TE m e),d9 (ZA m e).fst,d9 (U9 m e)])/\LS (TE m e) (aj (cY m t i e).fst)/\rC m t i e/\U9 m e=r9 m t i e) (Z (e.kind==15) (KN 242 (Wn m e) (AV.av [AV.mc zm (TI m e),d9 (qj4 m e).fst,d9 (UF m e)])/\LS (TI m e) (aj (cY m t i e).fst)/\rC m t i e/\UF m e=r9 m t i e) (Z (e.kind==16) (qro m t i e/\e.ii=Z5 m t i e/\qrp m t i e) (EV m t i e))))))))
def LK:=(e.kind==1)=false
end
theorem ajs (m:i8) (t:i5) (i:aK) (e:Ev) (f:dk m) (j:lz):KN 197 [vM m,vT t,vI i,dh e] (.av [vM (cY m t i e).1,d9 (cY m t i e).2.1,d9 (cY m t i e).2.2]):=by
 refine Kn (nE 132 λ_=>none) func197 (Z (e.kind==5) (A6 m e/\Z (i.op==12) (qrm m t i e/\Qx m t i e/\qrn m t i e) (qrm m t i e/\DI m t i e/\qrn m t i e)) (Z (e.kind==2) (A6 m e/\qrm m t i e/\rC m t i e/\qrn m t i e) ((Hf e->(Hf e->KL m t i e)/\(LK e->Qi m t i e))/\(LK e->Z (e.kind==8) (KL m t i e) (Qi m t i e))))) ?_;try delta Z A6 qrm Z5 Qx r9 qrn DI rC qro qrp KL Hf EV BZ Of R7 KK zX Mk Ab Ph Jz E0 Fa BW qrq PW qrr zS Nw JL DX Wn TE ZA U9 qrs TI qj4 UF Qi LK
 simp only[SZ];have L:∀ {x:i8} {u v:Int},cY m t i e=(x,u,v) ->LS (aj x) (aj (cY m t i e).1)/\u=(cY m t i e).2.1/\v=(cY m t i e).2.2:=λh=>by rw[h];exact⟨fp rfl,rfl,rfl⟩
 refine⟨λh5=>⟨zjb _ _ _ f,λh=>L ?_,λh=>L ?_⟩,λh5=>⟨λh2=>⟨zjb _ _ _ f,L ?_⟩,λh2=>⟨λh1=>⟨λ_=>L ?_, ?_⟩,λh1=>⟨λh8=>L ?_,λh8=>⟨λh11=>⟨λh=>L ?_,λh=>⟨YB _ _ _ f,L ?_⟩⟩,λh11=>⟨λh9=>⟨YB _ _ _ f,L ?_⟩,λh9=>⟨λh10=>⟨aad _ _ _ f,L ?_⟩,λh10=>⟨λh12=>⟨aad _ _ _ f,λh=>⟨j _ _ _ (Zg f _ _ _ _).1,L ?_⟩,λh=>L ?_⟩,λh12=>⟨λh13=>⟨aes _ _ f,L ?_⟩,λh13=>⟨λh14=>⟨ags _ _ f,L ?_⟩,λh14=>⟨λh15=>⟨afo _ _ f,L ?_⟩,λh15=>⟨λh16=>L ?_,λh16=>L ?_⟩⟩⟩⟩⟩⟩⟩⟩⟩⟩⟩⟩;rotate_left 4;omega;all_goals clear L j f
 all_goals simp[cY, *,not_false_eq_true,not_true_eq_false]
theorem zm1 (l:List i5) (id:Int):∀ n,n<=l.length ->0<=t7 l id n ->(t7 l id n).toNat<l.length/\(l.getD (t7 l id n).toNat ao).id=id
 |0,_,h=>absurd (show(0:Int)<= -1 from h) am
 |n+1,f,h=>by
  unfold t7 at h ⊢
  split at h
  rename_i e;rw[x9 e,gp];exact⟨O,e⟩
  rename_i e;rw[x8 e];exact zm1 l id n O h
theorem nL (h:0<=aS l id):(aS l id).toNat<l.length/\(l.getD (aS l id).toNat ao).id=id:=zm1 l id _ (xm _) h
theorem zrb (l:List i5) (id:Int) (k:Nat) (j:k<l.length) (e:(l.getD k ao).id=id):∀ n,n<=l.length ->l.length - n<=k ->0<=t7 l id n
 |0,_,h=>O
 |n+1,m,h=>by
  unfold t7
  split
  omega
  rename_i i
  refine zrb l id k j e n O ?_
  rcases kb k (l.length - n)with f |f
  have :k=l.length - (n+1):=O
  grind
  exact f
theorem zm2 (f:k<l.length) (e:(l.getD k ao).id=id):0<=aS l id:=zrb l id k f e _ (xm _) (O)
theorem zrc {n:Nat} (e:n<=l.length) (h:0<=aS l id):0<=aS (gB l t n) id:=by
 have⟨j,f⟩:=nL h;have hl:=z9q l t n e;by_cases i:(aS l id).toNat<n;exact zm2 (k:=(aS l id).toNat) O (by rw[z9r _ _ _ e,x9 i];exact f);exact zm2 (k:=(aS l id).toNat+1) O (by rw[z9r _ _ _ e,x8 O,x8 O,Nat.add_sub_cancel];exact f)
theorem ao1 {t:i5} (e:t.id=(l.getD k ao).id):∀ j,((l.set k t).getD j ao).id=(l.getD j ao).id:=by
 intro j;rw[x7,gq];split;rename_i h;subst h;split;exact e;grind;grind
theorem zm3 (l:List (List Int)):∀ (i:Nat) (v:List Int),i<l.length ->(l.set i v).flatten.length+(l.getD i []).length=l.flatten.length+v.length:=by
 induction l with
 |nil=>intro i v h;simp at h
 |cons x l e=>
  intro i v h;cases i with
  |zero=>simp;omega
  |succ i=>
   have :=e i v (by simpa using h);simp only[List.set_cons_succ,List.flatten_cons,xl,List.getD_cons_succ];omega
theorem UH (m:i8):(kw m).length=m.lT.length+m.a6.flatten.length:=by unfold kw;rw[xl]
def pQ (m m':i8):Prop:=dk m'/\(kw m').length<=(kw m).length+1
theorem wF (m:i8):pQ m du:=⟨(zhr 0).1,(zhr _).2⟩
theorem zhs (e:dk m) (x v:Int):pQ m (zr m x v).1:=by
 unfold zr;split;exact wF m;split;exact wF m;exact⟨⟨by simpa using e.eA,e.aa,e.a6,e.lT,e.all⟩,Nat.le_succ _⟩
theorem ajk (h:dk m) (i id f e:Int):pQ m (bc m i id f e).1:=⟨(Zg h i id f e).1,Nat.le_succ_of_le (Zg h i id f e).2⟩
theorem acn (e:dk m) (h:(kw m).length<400000) (c id:Int):pQ m (aZ m c id).1:=by
 unfold aZ;split;exact wF m;rename_i f;split;exact wF m;split;exact wF m;have k:=kM (ye.1 f);have j:=zm3 m.a6 c.toNat (m.a6.getD c.toNat []++[id]) O;have r:=UH m;have i:=UH {m with a6:=m.a6.set c.toNat (m.a6.getD c.toNat []++[id])};simp only[xl,yp,List.length_nil]at j i;suffices h:pQ m {m with a6:=m.a6.set c.toNat (m.a6.getD c.toNat []++[id])}from h;exact⟨⟨e.eA,e.aa,by simpa using e.a6,e.lT,O⟩,O⟩
theorem zuf (e:dk m) (id:Int):pQ m (dD m id).1:=by
 unfold dD;split;exact wF m;split;exact wF m;have k:(cU m.lT id).length<=m.lT.length:=zj5 _ _;have j:=e.all;have i:=UH m;have f:=UH {m with lT:=cU m.lT id};simp only at f;suffices h:pQ m {m with lT:=cU m.lT id}from h;exact⟨⟨e.eA,e.aa,e.a6,by show(cU m.lT id).length<=_;omega,O⟩,O⟩
theorem zrd (e:dk m) (c n:Int):pQ m (zi m c n).1:=by
 unfold zi;split;exact wF m;rename_i i;have s:=kM (ye.1 i);generalize (min n ((m.a6.getD c.toNat []).length:Int)).toNat=k;have r:=zle ((m.a6.getD c.toNat []).take k) m.lT;have j:=zm3 m.a6 c.toNat ((m.a6.getD c.toNat []).drop k) O;have x:=UH m;have f:=UH (ud m c.toNat k);have u:=e.all;unfold ud at f ⊢;simp only[xr,wn]at r j f;suffices h:pQ m {m with lT:=((m.a6.getD c.toNat []).take k).foldl c9 m.lT,a6:=m.a6.set c.toNat ((m.a6.getD c.toNat []).drop k)}from h;refine⟨⟨e.eA,e.aa,by simpa using e.a6, ?_,O⟩,O⟩;show(((m.a6.getD c.toNat []).take k).foldl c9 m.lT).length<=_;omega
theorem zre (f:dk m) (h:(kw m).length<400000) (t:i5) (i:aK) (e:Ev):pQ m (cY m t i e).1:=by
 have refl:pQ m m:=⟨f,Nat.le_succ _⟩;unfold cY;repeat' split
 all_goals first
  |exact refl
  |exact zhs f _ _
  |exact ajk f _ _ _ _
  |exact zuf f _
  |exact zrd f _ _
  |skip
 have j:=Zg f e.k7 t.id t.id (-1);have :=acn j.1 O e.ii t.id;exact⟨this.1,yd this.2 O⟩
theorem zug:(bz s t i e).kind≠16:=by
 unfold bz;simp only;repeat' split
 all_goals simp
theorem zrf:(im t i e).kind≠16:=by
 unfold im;repeat' split
 all_goals simp
theorem z9s {s:ja} {t:i5} {i:aK} (h:(m8 s t i).kind=16):i.op=21/\(m8 s t i).ii=eU t:=by
 by_cases e:i.op=21;exact⟨e,by simp[m8,e]⟩;exfalso;grind[m8,zrf,zug]
theorem Zb:eU t<=1000000:=by
 unfold eU;split;rename_i h;unfold cA at h;simp at h;have :=tO (id:=t.id) O;omega;decide
theorem zji {p:ai} {b id fn arg:Int} (f:bI p) (e:id<=9223372036854775807):dU (ba p b id fn arg).1:=by
 unfold ba;split;exact ou;rename_i h;split;exact ou;split;exact ou;rename_i i;split;exact ou;exact(zjc ⟨f,(l6 (ye.1 h)).1⟩ (zfj e O)).ok
theorem zm4 {p:ai} {b:Int} {t:i5} {r:Int} (i:bI p) (f:dU t):dU (cd p b t r).1:=by
 unfold cd;split;exact ou;rename_i h;split;exact ou;rename_i e;split;exact ou;rename_i hs;split;exact ou;have P:jM p:=⟨i,(l6 (ye.1 h)).1⟩;exact(zjc P (zj7 P f (by simpa using e) (ye.1 hs) r)).ok
theorem zjj {t:i5} {k:Nat} (f:k<=l.length) (h:∀ j,dU (l.getD j ao)) (e:dU t) (j:Nat):dU ((gB l t k).getD j ao):=by
 rw[z9r _ _ _ f];split;exact h j;split;exact e;exact h _
theorem zfy {t:i5} {k:Nat} (h:∀ j,dU (l.getD j ao)) (e:dU t) (j:Nat):dU ((l.set k t).getD j ao):=by
 rw[x7,gq];split;split;exact e;exact ou;simp_all
def ZS:AV:= .mc aI (.agg [.own 0 s.ab.length,aj s.l5,zud])
def cl:i5:=(bg p s a).1
def c5:aK:=(bg p s a).2.1
def bP:Ev:=m8 s (cl p s a) (c5 p s a)
def cW:i8×Int×Int:=cY s.l5 (cl p s a) (c5 p s a) (bP p s a)
def iu:ja×Int:=eH p b ⟨s.ab,(cW p s a).1,[]⟩ (bP p s a).ii (c5 p s a).ii (bp (cl p s a) (c5 p s a).b)
def gY:i5×Int:=cd p b (cl p s a) (cW p s a).2.1
def oSm:FuncId ->List AV ->Option AV
 |61,_=>some (d9 (aV p b))
 |176,_=>some (.bool (bT p b s))
 |195,_=>some (.av [vT (cl p s a),vI (c5 p s a), .bool (bg p s a).2.2])
 |178,_=>some (.bool (z20 s (cl p s a) (c5 p s a)))
 |196,_=>some (dh (bP p s a))
 |124,_=>some (ZS s)
 |197,_=>some (.av [vM (cW p s a).1,d9 (cW p s a).2.1,d9 (cW p s a).2.2])
 |185,_=>some (vM (cW p s a).1)
 |129,_=>some (.av [vT (gY p b s a).1,d9 (gY p b s a).2])
 |120,[.seq _ n f, .int _ i]=>some (.av [d9 (max (aS (dR dT (.seq zk n f)) i) 0), .bool (decide (0<=aS (dR dT (.seq zk n f)) i))])
 |_,_=>none
noncomputable def Z0 (p:ai) (b:Int) (s:ja) (a:Int) (n:Nat):ls:={jE n with
 fresh:=λf _=>match Nat.beq f 124 with |true=>some [eO s.ab] |false=>none,
 Vs:=λ_ _=>some (.av [abk (iu p b s a).1,d9 (iu p b s a).2],eO (iu p b s a).1.ab),mU:=λf _=>Nat.beq f 198}
noncomputable def vSm (p:ai) (b:Int) (s:ja) (a:Int) (n:Nat):bm:={C:=Z0 p b s a n,CC:=mp prog GG,b9:=λ_ _=>oSm p b s a,inv:=λ_=>none,fz:=λk=>match Nat.beq k 16 with |true=>[258048] |false=>[]}
noncomputable def zyc (n:Nat):ls:={di n λ_ _=>false with mq:=λd=>Nat.beq d 42}
noncomputable def aca (n:Nat) (inv:Nat ->Option lm):bm:={C:=zyc n,CC:=mp prog GG,b9:=λ_ _=>abo,inv:=inv}
def zyd (k:Nat):Option lm:=match Nat.beq k 5 with
 |true=>iv s.ab.length λi=>⟨[(1, .ptr 1 []),(2, .ptr 2 []),(3, .ptr 3 []),(22,d9 s.ab.length),(23,d9 i)],[(1,fb s),(2,fb mt),(3, .cell 35 aI (.agg [.own 13 s.ab.length,aj s.l5, .ax])),(13,eO s.ab)]⟩
 |false=>match Nat.beq k 12 with
  |true=>iv s.ae.length λi=>⟨[(1, .ptr 1 []),(2, .ptr 2 []),(3, .ptr 3 []),(51,d9 s.ae.length),(52,d9 i)],[(1,fb s),(2,fb mt),(3, .cell 35 aI (.agg [.own 13 s.ab.length,aj s.l5, .bJ 42 0 s.ae.length true])),(13,eO s.ab),(42,Cg s.ae)]⟩
  |false=>none
section
variable (s:ja)
def WE:Nat:=(dR (dR dI) (aE s.l5.a6)).length
def nj:=RR ((0:Nat))/\∀ (i:Nat),i<(0:Nat)->RR (d9 (List.getD [] i (0:Int)))
def pL:=(RR ((0:Nat))/\∀ (i:Nat),i<(0:Nat)->RR (ak (List.getD [] i ao)))/\(nj/\nj/\(RR ((0:Nat))/\∀ (i:Nat),i<(0:Nat)->RR (a8 (List.getD [] i [])))/\nj)/\RR ((0:Nat))/\∀ (i:Nat),i<(0:Nat)->RR (aA (List.getD [] i az))
def RN:=AV.bJ 42 0 s.ae.length true
variable (x0:Nat)
def CP:Nat:=0+(↑x0:Int).toNat
variable (x1:Nat)
def qrt:bR:=s.ae.getD (CP x1) az
end
theorem afm (hs:cw s) (f:s.ae=[]):KF 124 [cx s] (ZS s) [eO s.ab]:=by
 refine nc (aca 69 (zyd s)) func124 (KN 185 [AV.mc zm (aj s.l5)] (AV.mc zm (AV.agg [a8 (dR dI (a8 s.l5.eA)),a8 (dR dI (a8 s.l5.aa)),aE (dR (dR dI) (aE s.l5.a6)),a8 (dR dI (a8 s.l5.lT))]))/\mW s/\((0:Int)<=↑s.ab.length/\(↑s.ab.length:Int)<=(↑s.ab.length:Int)/\↑(152:Nat)*↑s.ab.length<=(140737488355328:Int)/\mW s)/\((↑s.ab.length:Int).toNat<=(↑s.ab.length:Int).toNat/\WC s)/\WC s/\(∃ (i:Nat),i<=List.length (ja.ab s)/\((↑(Int.toNat (↑(List.length (ja.ab s)):Int)):Int)=(↑(List.length (ja.ab s)):Int)/\(0:Int)=(↑i:Int))/\LS (ze s) (ze s)/\(bt/\(bt/\bt/\bt/\bt)/\bt)/\(Tb s/\(List.length (dR dI (a8 (i8.eA (ja.l5 s))))=List.length (i8.eA (ja.l5 s))/\∀ (i:Nat),i<List.length (dR dI (a8 (i8.eA (ja.l5 s))))->d9 (List.getD (dR dI (a8 (i8.eA (ja.l5 s)))) i (0:Int))=d9 (List.getD (i8.eA (ja.l5 s)) i (0:Int)))/\(List.length (dR dI (a8 (i8.aa (ja.l5 s))))=List.length (i8.aa (ja.l5 s))/\∀ (i:Nat),i<List.length (dR dI (a8 (i8.aa (ja.l5 s))))->d9 (List.getD (dR dI (a8 (i8.aa (ja.l5 s)))) i (0:Int))=d9 (List.getD (i8.aa (ja.l5 s)) i (0:Int)))/\(WE s=List.length (i8.a6 (ja.l5 s))/\∀ (i:Nat),i<WE s->a8 (List.getD (dR (dR dI) (aE (i8.a6 (ja.l5 s)))) i [])=a8 (List.getD (i8.a6 (ja.l5 s)) i []))/\List.length (dR dI (a8 (i8.lT (ja.l5 s))))=List.length (i8.lT (ja.l5 s))/\∀ (i:Nat),i<List.length (dR dI (a8 (i8.lT (ja.l5 s))))->d9 (List.getD (dR dI (a8 (i8.lT (ja.l5 s)))) i (0:Int))=d9 (List.getD (i8.lT (ja.l5 s)) i (0:Int)))/\Tb s/\∀ (i:Nat),i<Int.toNat (↑(List.length (ja.ab s)):Int)->(if i<min (List.length (ja.ab s)) (Int.toNat (↑(List.length (ja.ab s)):Int))then ak (List.getD (ja.ab s) i ao)else AV.agg (d9 (0:Int)::d9 (0:Int)::d9 (0:Int)::(AV.arr (8:Nat) λ(x:Nat)=>d9 (0:Int))::d9 (0:Int)::d9 (0:Int)::d9 (0:Int)::um))=ak (List.getD (ja.ab s) i ao))/\∀ i:Nat,i<=s.ab.length->Z (qc s i) (af (↑i) s.ab.length/\KN 186 (Uc s i) (W4 s i)/\af (↑i) s.ab.length/\(↑i:Int).toNat<s.ab.length/\qa i/\(∃ j,j<=s.ab.length/\s.ab.length - j<s.ab.length - i/\(RR (↑s.ab.length:Int)/\qb i j)/\LS (ze s) (ze s)/\pL/\(RR s.ab.length/\LS (aj s.l5) (aj s.l5))/\RR s.ab.length/\∀ (i_1:Nat),i_1<s.ab.length->(if i_1=(↑i:Int).toNat then AV.agg ((d9 (s.ab.getD (↑i:Int).toNat ao).id::d9 (s.ab.getD (↑i:Int).toNat ao).fn::d9 (s.ab.getD (↑i:Int).toNat ao).pc::kT (s.ab.getD (↑i:Int).toNat ao).aw::d9 (s.ab.getD (↑i:Int).toNat ao).io::d9 (s.ab.getD (↑i:Int).toNat ao).i7::d9 (s.ab.getD (↑i:Int).toNat ao).gH::d9 (s.ab.getD (↑i:Int).toNat ao).ip::d9 (s.ab.getD (↑i:Int).toNat ao).i9::Uc s i).set 9 (aq (W4 s i)))else ak (s.ab.getD i_1 ao))=ak (s.ab.getD i_1 ao))) (TL s/\((0:Int)<=↑s.ae.length/\(↑s.ae.length:Int)<=(↑s.ae.length:Int)/\↑(40:Nat)*↑s.ae.length<=(140737488355328:Int)/\TL s/\RR (↑s.ae.length:Int))/\(0+(↑s.ae.length:Int).toNat<=(↑s.ae.length:Int).toNat/\VQ s)/\VQ s/\(∃ i,i<=s.ae.length/\((↑(↑s.ae.length:Int).toNat:Int)=(↑s.ae.length:Int)/\0=(↑i:Int))/\LS (ze s) (ze s)/\pL/\(RR s.ab.length/\LS (aj s.l5) (aj s.l5)/\AV.bJ 42 0 (↑s.ae.length:Int).toNat true=RN s)/\nh s/\(↑s.ae.length:Int).toNat=s.ae.length/\∀ (i:Nat),i<(↑s.ae.length:Int).toNat->(if 0<=i/\i<0+min s.ae.length (↑s.ae.length:Int).toNat then aA (s.ae.getD (i - 0) az)else AV.agg um)=aA (s.ae.getD i az))/\∀ (i:Nat),i<=s.ae.length->Z (uJ s i) (af (↑i:Int) s.ae.length/\KN 187 [bY (s.ae.getD (↑i:Int).toNat az).bO] (TQ s i)/\af (↑i:Int) s.ae.length/\CP i<s.ae.length/\qa i/\∃ j,j<=s.ae.length/\s.ae.length - j<s.ae.length - i/\(RR (↑s.ae.length:Int)/\qb i j)/\LS (ze s) (ze s)/\pL/\(RR s.ab.length/\LS (aj s.l5) (aj s.l5)/\RR (RN s))/\nh s/\RR s.ae.length/\∀ (i_1:Nat),i_1<s.ae.length->(if i_1=(0:Nat)+(↑i:Int).toNat then AV.agg ([d9 (qrt s i).ay,d9 (qrt s i).first,bY (qrt s i).bO].set (2:Nat) (aq (TQ s i)))else aA (s.ae.getD i_1 az))=aA (s.ae.getD i_1 az)) (s.ae.length<=s.ae.length/\(RR s.ab.length/\LS (aj s.l5) (aj s.l5)/\(AV.bD c7 s.ae.length λi=>aA (s.ae.getD i az))=AV.bD c7 (0:Nat) λi=>aA ([].getD i az))/\nh s))) ?_;try delta Z bt mW WC Tb WE um Uc W4 q9 qa qb nj pL qc TL VQ RN nh TQ CP qrt uJ
 simp only[SB,af];simp only[oR,iL];have h1:=hs.ab;have h:s.ae.length=0:=by rw[f];rfl
 refine⟨Ew _ hs.l5,O,⟨O,O⟩,O,O,⟨0,O,rfl,trivial,λj hj=>by rw[x9 O]⟩,λi hi=>⟨λhlt=>⟨hlt,zqn _ (by have :=(hs.ok i).ic;omega),hlt,hlt,f9,i+1,O,O,O,trivial,trivial,λj hj=>?_⟩,λhge=>⟨O,⟨O,O⟩,O,O,⟨0,O,rfl,trivial,trivial,λj hj=>O⟩,λk hk=>⟨λhlt=>O,λ_=>⟨trivial, ?_⟩⟩⟩⟩⟩;by_cases e:j=i;subst e;rw[x9 rfl];rfl;rw[x8 e];rw[f];rfl
theorem P5 {r:ja×Ev×Int} {n:Int} (h:r=(mt,aW,n)):(r.1.ab.length=0/\r.1.l5.eA.length=0/\r.1.l5.aa.length=0/\r.1.l5.a6.length=0/\r.1.l5.lT.length=0)/\(0=r.2.1.aC/\0=r.2.1.ly/\0=r.2.1.kind/\0=r.2.1.ii/\0=r.2.1.k7/\0=r.2.1.entry/\0=r.2.1.ord/\0=r.2.1.read/\0=r.2.1.i4)/\n=r.2.2:=by
 subst h;exact⟨⟨rfl,df⟩,⟨rfl,rfl,rfl,rfl,rfl,rfl,rfl,rfl,rfl⟩,rfl⟩
theorem NG {p:ai} {s:ja} {a:Int} (h:(bg p s a).2.2=true):0<=aS s.ab a/\cl p s a=s.ab.getD (aS s.ab a).toNat ao/\c5 p s a=zg p (cl p s a)/\cm p (cl p s a)=true:=by
 unfold cl c5;unfold bg at h ⊢;split at h;cases h;rename_i e;rw[x8 e];exact⟨O,rfl,rfl,h⟩
theorem zfz {t:i5} (j:Nat) (f:k<l.length):(if j=k then ak t else ak (l.getD j ao))=ak ((l.set k t).getD j ao):=by
 rw[x7 (l:=l.set k t),gq];by_cases e:j=k;grind;rw[x8 e,x8 (λh=>e h.symm),x7]
theorem Yg {W:ja} {a:Int} {n:i5} {e:Ev} {r:ja×Ev×Int} (k:vk W.ab) (f:0<=aS W.ab a) (j:r=({W with ab:=W.ab.set (aS W.ab a).toNat n},e,0)):
 (0<=max (aS (dR dT (aF W.ab)) a) 0/\max (aS (dR dT (aF W.ab)) a) 0<(W.ab.length:Int))/\(max (aS (dR dT (aF W.ab)) a) 0).toNat<W.ab.length/\
 (((W.ab.length=r.1.ab.length/\∀ i:Nat,i<W.ab.length ->(if i=(max (aS (dR dT (aF W.ab)) a) 0).toNat then ak n else ak (W.ab.getD i ao))=ak (r.1.ab.getD i ao))/\LS (aj W.l5) (aj r.1.l5))/\LS (bX e) (bX r.2.1)/\0=r.2.2):=by
 subst j;rw[z9i k,yc f];have h:=(nL f).1;exact⟨⟨f,O⟩,h,⟨⟨ap,λi _=>zfz i h⟩,fp rfl⟩,fp rfl,rfl⟩
theorem ae3 {p:ai} {b:Int} {s:ja} {a:Int} (h:(iu p b s a).2=0):(iu p b s a).1=⟨gB s.ab (ba p b (bP p s a).ii (c5 p s a).ii (bp (cl p s a) (c5 p s a).b)).1 (gK s.ab (bP p s a).ii),(cW p s a).1,[]⟩:=by
 unfold iu eH at h ⊢;split at h;exact absurd h am;rename_i f;split at h;exact absurd h am;rename_i e;rw[x8 f,x8 e]
section
variable (p:ai) (b:Int) (s:ja) (a:Int)
def xX:Nat:=(da p b s a).fst.ab.length
def Gy:=xX p b s a=0/\((da p b s a).fst.l5.eA.length=0/\(da p b s a).fst.l5.aa.length=0/\(da p b s a).fst.l5.a6.length=0/\(da p b s a).fst.l5.lT.length=0)/\RR 0
def oY:Ev:=(da p b s a).snd.fst
def pt:=0=(oY p b s a).aC/\0=(oY p b s a).ly/\0=(oY p b s a).kind/\0=(oY p b s a).ii/\0=(oY p b s a).k7/\0=(oY p b s a).entry/\0=(oY p b s a).ord/\0=(oY p b s a).read/\0=(oY p b s a).i4
def nX:Int:=(da p b s a).snd.snd
def Uv:=aV p b !=0
def M4:=!(bg p s a).snd.snd
def qru:=(!M4 p s a)=true
def Tm:=qru p s a->qru p s a
def yY:List AV:=[AV.mc aI (ze s),AV.mc zk (ak (cl p s a)),AV.mc zy (k8 (c5 p s a))]
def G1:=M4 p s a||!z20 s (cl p s a) (c5 p s a)
def NM:=AV.bD c7 0 λi=>aA ([].getD i az)
def qrv:List AV:=[NM]
def AH:=d9 (cW p s a).snd.fst
def Hu:=(cW p s a).snd.snd !=0
variable (x4:Nat)
def Ei:=ak ((iu p b s a).fst.ab.getD x4 ao)
def II:=(iu p b s a).snd !=0
def SD:=KN 129 [AV.mc z7 (ah p),d9 b,AV.mc zk (ak (cl p s a)),AH p s a] (AV.av [AV.mc zk (ak (gY p b s a).fst),d9 (gY p b s a).snd])
def SM:=(gY p b s a).snd !=0
def Dc:=SM p b s a=true->Gy p b s a/\pt p b s a/\(gY p b s a).snd=nX p b s a
def qrw:Int:=max (aS (dR dT (aF (iu p b s a).fst.ab)) a) 0
def Gg:=(iu p b s a).fst.ab.length<=(iu p b s a).fst.ab.length
def qer:=ak ((da p b s a).fst.ab.getD x4 ao)
def aBl:=RR NM
def XG:=LS (bX (bP p s a)) (bX (oY p b s a))/\0=nX p b s a
def Nt:=SM p b s a=false
def XC:=(bP p s a).kind==16
end
theorem af7 (e:bI p) (hs:cw s) (x:lz) (u:(kw s.l5).length<400000) (hl:s.ab.length<1000000):KN 130 [vP p,d9 b,cx s,d9 a] (.av [tQ (da p b s a).1,dh (da p b s a).2.1,d9 (da p b s a).2.2]):=by
 refine Kn (vSm p b s a 131) func130 (KN 61 [AV.mc z7 (ah p),d9 b] (d9 (aV p b))/\Z (Uv p b) (Gy p b s a/\pt p b s a/\aV p b=nX p b s a) (KN 176 [AV.mc z7 (ah p),d9 b,AV.mc aI (ze s)] (AV.bool (bT p b s))/\Z (!bT p b s) (Gy p b s a/\pt p b s a/\1=nX p b s a) (KN 195 [AV.mc z7 (ah p),AV.mc aI (ze s),d9 a] (AV.av [AV.mc zk (ak (cl p s a)),AV.mc zy (k8 (c5 p s a)),AV.bool (bg p s a).snd.snd])/\Tm p s a/\Tm p s a/\Tm p s a/\(qru p s a->KN 178 (yY p s a) (AV.bool (z20 s (cl p s a) (c5 p s a))))/\Tm p s a/\Tm p s a/\Z (G1 p s a) (Gy p b s a/\pt p b s a/\19=nX p b s a) (KN 196 (yY p s a) (AV.mc bF (bX (bP p s a)))/\(KF (124:Nat) [AV.mc aI (ze s)] (AV.mc aI (AV.agg (AV.own (0:Nat) s.ab.length::aj s.l5::qrv))) [ar.row (51:TypeId) zk s.ab.length λi=>ak (s.ab.getD i ao)])/\KN 197 [AV.mc zm (aj s.l5),AV.mc zk (ak (cl p s a)),AV.mc zy (k8 (c5 p s a)),AV.mc bF (bX (bP p s a))] (AV.av [AV.mc zm (aj (cW p s a).fst),AH p s a,d9 (cW p s a).snd.snd])/\Z (Hu p s a) (Gy p b s a/\pt p b s a/\30=nX p b s a) (KN 185 [AV.mc zm (aj (cW p s a).fst)] (AV.mc zm (aj (cW p s a).fst))/\Z (XC p s a) (s.ab.length<=s.ab.length/\s.ab.length<=s.ab.length/\af (c5 p s a).b 8/\(KF (198:Nat) [AV.mc z7 (ah p),d9 b,AV.mc aI (AV.agg (aF s.ab::aj (cW p s a).fst::qrv)),d9 (bP p s a).ii,d9 (c5 p s a).ii,d9 ((cl p s a).aw.getD (c5 p s a).b.toNat (0:Int))] (AV.av [AV.mc aI (AV.agg (AV.own (0:Nat) (iu p b s a).fst.ab.length::aj (iu p b s a).fst.l5::qrv)),d9 (iu p b s a).snd]) [ar.row (51:TypeId) zk (iu p b s a).fst.ab.length λi=>Ei p b s a i])/\Z (II p b s a) (Gy p b s a/\pt p b s a/\(iu p b s a).snd=nX p b s a) (SD p b s a/\Dc p b s a/\(Nt p b s a->KN 120 [aF (iu p b s a).fst.ab,d9 a] (AV.av [d9 (qrw p b s a),AV.bool (decide ((0:Int)<=aS (dR dT (aF (iu p b s a).fst.ab)) a))])/\Gg p b s a/\af (qrw p b s a) (iu p b s a).fst.ab.length/\(qrw p b s a).toNat<(iu p b s a).fst.ab.length/\Gg p b s a/\(((iu p b s a).fst.ab.length=xX p b s a/\∀ i:Nat,i<(iu p b s a).fst.ab.length->(if i=(max (aS (dR dT (aF (iu p b s a).fst.ab)) a) 0).toNat then ak (gY p b s a).fst else Ei p b s a i)=qer p b s a i)/\LS (aj (iu p b s a).fst.l5) (aj (da p b s a).fst.l5)/\aBl)/\XG p b s a))) (SD p b s a/\Dc p b s a/\(Nt p b s a->KN 120 [aF s.ab,d9 a] (AV.av [d9 (ng s a),AV.bool (decide ((0:Int)<=aS (dR dT (aF s.ab)) a))])/\s.ab.length<=s.ab.length/\af (ng s a) s.ab.length/\(ng s a).toNat<s.ab.length/\s.ab.length<=s.ab.length/\((s.ab.length=xX p b s a/\∀ i:Nat,i<s.ab.length->(if i=(max (aS (dR dT (aF s.ab)) a) 0).toNat then ak (gY p b s a).fst else ak (s.ab.getD i ao))=qer p b s a i)/\LS (aj (cW p s a).fst) (aj (da p b s a).fst.l5)/\aBl)/\XG p b s a))))))) ?_;try delta Z xX Gy oY pt nX Uv M4 qru Tm yY G1 NM qrv AH Hu Ei II SD SM Dc qrw Gg qer aBl XG Nt XC ng
 simp only[SZ];have ld:∀ {w:ja×Int},w=(if(bP p s a).kind=16 then eH p b {s with l5:=(cW p s a).1} (bP p s a).ii (c5 p s a).ii (bp (cl p s a) (c5 p s a).b)else({s with l5:=(cW p s a).1},0)) ->da p b s a=
  if aV p b≠0 then(mt,aW,aV p b)else if bT p b s=false then(mt,aW,1)else if(bg p s a).2.2=false∨z20 s (cl p s a) (c5 p s a)=false then(mt,aW,19)else if(cW p s a).2.2≠0 then(mt,aW,30)
  else if w.2≠0 then(mt,aW,w.2)else if(gY p b s a).2≠0 then(mt,aW,(gY p b s a).2)else({w.1 with ab:=w.1.ab.set (aS w.1.ab a).toNat (gY p b s a).1},bP p s a,0):=λh=>by subst h;rfl
 have lb:=ld rfl;refine⟨ab7 p b e,λh=>P5 (by rw[lb,x9 h]),λh1=>⟨zfq p b s e hs,λh=>P5 (by rw[lb,x8 (by simp[h1]),x9 h]),λh2=>?_⟩⟩;rw[x8 (by simp[h1]),x8 (by simp[h2])]at lb;have V:=oP.1 h2;have hb0:s.ae=[]:=xz V.2.1;have I:(bg p s a).2.2=true ->dU (cl p s a)/\VW s.l5 (c5 p s a):=λh=>by
  have⟨_,r2,r3,f⟩:=NG h;have ht:dU (cl p s a):=by rw[r2];exact hs.ok _
  have :=Ud e ht V.1 f;rw[r3,this.2];exact⟨ht,this.1⟩
 refine⟨ZI p s a e hs,λh=>abi s _ _ hs (I h).1 (I h).2,λh=>P5 (by rw[lb,x9 h]),λh3=>?_⟩;rw[x8 (by simp[h3.1,h3.2])]at lb;have⟨ht,hi⟩:=I h3.1;have⟨k,r2,r3,f⟩:=NG h3.1;have Z:=zre hs.l5 u (cl p s a) (c5 p s a) (bP p s a);refine⟨XT s _ _ hs ht hi,afm s hs hb0,ajs s.l5 _ _ _ hs.l5 x,λh=>P5 (by rw[lb,x9 h]),λh4=>⟨Ew _ Z.1,λh5=>?_,λh5=>?_⟩⟩;rw[x8 (by simp[h4]),x9 h5]at lb;have he:eH p b {s with l5:=(cW p s a).1} (bP p s a).ii (c5 p s a).ii (bp (cl p s a) (c5 p s a).b)=iu p b s a:=by
  unfold iu;rw[show({s with l5:=(cW p s a).1}:ja)=⟨s.ab,(cW p s a).1,[]⟩from by rw[<- hb0]]
 rw[he]at lb;have⟨op,m⟩:=z9s h5;have hs1:cw ⟨s.ab,(cW p s a).1,[]⟩:=⟨hs.ab,hs.ok,Z.1,xt _,λ_=>xt _⟩;refine⟨hi.b O,ah5 p b ⟨s.ab,(cW p s a).1,[]⟩ _ _ _ e hs1 (by have :=Zb (cl p s a);rw[show(bP p s a).ii=eU (cl p s a)from m];omega),λh=>P5 (by rw[lb,x9 h]),λh6=>⟨z117 p b _ _ e ht,λh=>P5 (by rw[lb,x8 (by simp[h6]),x9 h]),λh7=>?_⟩⟩;rw[x8 (by simp[h6]),x8 (by simp[h7])]at lb;have hw:=ae3 h6;have hid:(bP p s a).ii<=9223372036854775807:=by have :=Zb (cl p s a);rw[show(bP p s a).ii=eU (cl p s a)from m];omega
 have h8:vk (iu p b s a).1.ab:=λj=>by rw[hw];exact(zjj (uj _ _) hs.ok (zji e hid) j).aw
 have h9:0<=aS (iu p b s a).1.ab a:=by rw[hw];exact zrc _ (uj _ _) k
 have hl2:(iu p b s a).1.ab.length<=1000000:=by rw[hw];show(gB _ _ _).length<=_;rw[z9q _ _ _ (uj _ _)];omega
 exact⟨by rw[z9i h8];exact Xi _ _ hl2 h8,Yg h8 h9 lb⟩;rw[x8 (by simp[h4]),x8 h5,x8 ap]at lb;refine⟨z117 p b _ _ e ht,λh=>P5 (by rw[lb,x9 h]),λh7=>?_⟩;rw[x8 (by simp[h7])]at lb;exact⟨by rw[z9i hs.r8];exact Xi _ _ hs.ab hs.r8,Yg (W:={s with l5:=(cW p s a).1}) hs.r8 k lb⟩
theorem zjl {p:ai} {b:Int} {s:ja} {a:Int} (m:bI p) (hs:cw s) (Q:(kw s.l5).length<400000) (hl:s.ab.length<1000000):cw (da p b s a).1/\(kw (da p b s a).1.l5).length<=(kw s.l5).length+1/\(da p b s a).1.ab.length<=s.ab.length+1:=by
 have bad:∀ {r:ja×Ev×Int} {n:Int},r=(mt,aW,n) ->cw r.1/\(kw r.1.l5).length<=(kw s.l5).length+1/\r.1.ab.length<=s.ab.length+1:=λh=>by subst h;exact⟨zft,xt _,xt _⟩
 have e:da p b s a=
  if aV p b≠0 then(mt,aW,aV p b)else if bT p b s=false then(mt,aW,1)else if(bg p s a).2.2=false∨z20 s (cl p s a) (c5 p s a)=false then(mt,aW,19)else if(cW p s a).2.2≠0 then(mt,aW,30)
  else if(if(bP p s a).kind=16 then eH p b {s with l5:=(cW p s a).1} (bP p s a).ii (c5 p s a).ii (bp (cl p s a) (c5 p s a).b)else({s with l5:=(cW p s a).1},0)).2≠0 then(mt,aW,(if(bP p s a).kind=16 then eH p b {s with l5:=(cW p s a).1} (bP p s a).ii (c5 p s a).ii (bp (cl p s a) (c5 p s a).b)else({s with l5:=(cW p s a).1},0)).2)
  else if(gY p b s a).2≠0 then(mt,aW,(gY p b s a).2)else({(if(bP p s a).kind=16 then eH p b {s with l5:=(cW p s a).1} (bP p s a).ii (c5 p s a).ii (bp (cl p s a) (c5 p s a).b)else({s with l5:=(cW p s a).1},0)).1 with ab:=(if(bP p s a).kind=16 then eH p b {s with l5:=(cW p s a).1} (bP p s a).ii (c5 p s a).ii (bp (cl p s a) (c5 p s a).b)else({s with l5:=(cW p s a).1},0)).1.ab.set (aS (if(bP p s a).kind=16 then eH p b {s with l5:=(cW p s a).1} (bP p s a).ii (c5 p s a).ii (bp (cl p s a) (c5 p s a).b)else({s with l5:=(cW p s a).1},0)).1.ab a).toNat (gY p b s a).1},bP p s a,0):=rfl
 by_cases H:aV p b≠0;exact bad (by rw[e,x9 H]);rw[x8 H]at e;by_cases F:bT p b s=false;exact bad (by rw[e,x9 F]);rw[x8 F]at e;by_cases k:(bg p s a).2.2=false∨z20 s (cl p s a) (c5 p s a)=false;exact bad (by rw[e,x9 k]);rw[x8 k]at e;by_cases E:(cW p s a).2.2≠0;exact bad (by rw[e,x9 E]);rw[x8 E]at e;have J:(bg p s a).2.2=true:=by
  cases h:(bg p s a).2.2 with
  |true=>rfl
  |false=>exact absurd (.inl h) k
 have⟨R,K,_,_⟩:=NG J;have N:dU (cl p s a):=by rw[K];exact hs.ok _
 have Z:=zre hs.l5 Q (cl p s a) (c5 p s a) (bP p s a);have u:dU (gY p b s a).1:=zm4 m N;by_cases j:(bP p s a).kind=16;simp only[x9 j]at e;have i:(bP p s a).ii<=9223372036854775807:=by
  have :=Zb (cl p s a);rw[show(bP p s a).ii=eU (cl p s a)from(z9s j).2];omega
 unfold eH at e;by_cases y:0<=aS s.ab (bP p s a).ii;exact bad (by rw[e,x9 y,x9 am]);rw[x8 y]at e;by_cases x:(ba p b (bP p s a).ii (c5 p s a).ii (bp (cl p s a) (c5 p s a).b)).2≠0;exact bad (by rw[e,x9 x,x9 am]);rw[x8 x,x8 (λh=>h rfl)]at e;by_cases f:(gY p b s a).2≠0;exact bad (by rw[e,x9 f]);rw[x8 f]at e;rw[e];have U:=z9q s.ab (ba p b (bP p s a).ii (c5 p s a).ii (bp (cl p s a) (c5 p s a).b)).1 (gK s.ab (bP p s a).ii) (uj _ _);exact⟨⟨by simp only[yy];omega,zfy (zjj (uj _ _) hs.ok (zji m i)) u,Z.1,hs.ae,hs.nw⟩,Z.2,by simp only[yy];omega⟩;simp only[x8 j]at e;rw[x8 (λh=>h rfl)]at e;by_cases f:(gY p b s a).2≠0;exact bad (by rw[e,x9 f]);rw[x8 f]at e;rw[e];exact⟨⟨by simp only[yy];omega,zfy hs.ok u,Z.1,hs.ae,hs.nw⟩,Z.2,by simp only[yy];omega⟩
def fk:ja×Ev×Int:=da p b (bN s) a
def oOt:FuncId ->List AV ->Option AV
 |117,_=>some (fi s)
 |130,_=>some (.av [tQ (fk p b s a).1,dh (fk p b s a).2.1,d9 (fk p b s a).2.2])
 |131,_=>some (aY s.ae)
 |132,[_, .int _ t]=>some (.av [d9 (max (db s.ae t) 0), .bool (decide (0<=db s.ae t))])
 |_,_=>none
def vBl (l:List bR) (ts:List i5):AV:= .seq c7 ts.length λj=>jG l (ts.getD j ao).id
noncomputable def vOt (p:ai) (b:Int) (s:ja) (a:Int) (n:Nat) (I:Nat ->Option lm):bm:={C:=di n λ_ _=>false,CC:=mp prog GG,b9:=λ_ _=>oOt p b s a,inv:=λ_=>none,sK:=I}
def ah9 (k:Nat):Option lm:=match Nat.beq k 6 with
 |true=>iw ((fk p b s a).1.ab.length) (λi=>⟨[(8, .ptr 8 []),(9, .ptr 9 []),(11, .ptr 11 []),(12, .ptr 12 []),(14,aY s.ae),(40,aF (fk p b s a).1.ab),(41,d9 (fk p b s a).1.ab.length),(42,d9 i)],[(8,fb mt),(9,Wl aW),(11, .cell 35 aI (.agg [aF (fk p b s a).1.ab,aj (fk p b s a).1.l5, .own 65 i])),(12,Wl (fk p b s a).2.1),(65,aa1 s.ae (fk p b s a).1.ab i)]⟩) λi=>(fk p b s a).2.2=0
 |false=>none
theorem akk (f:bI p) (hs:cw s) (h:lz) (e:(kw s.l5).length<400000) (hl:s.ab.length<1000000):KN 130 [vP p,d9 b,fi s,d9 a] (.av [tQ (fk p b s a).1,dh (fk p b s a).2.1,d9 (fk p b s a).2.2]):=
 (af7 p b (bN s) a f hs.sc h e hl).weaken (args':=[vP p,d9 b,fi s,d9 a]) rfl ⟨zo1,zo1,⟨rfl,zo1,zo1,rfl,trivial⟩,zo1,trivial⟩
theorem zyg {l:List bR} {t:Int} (h:0<=db l t) (n:Nat) (f:Nat ->AV) (g:Nat ->AV) (m:∀ j,j<n ->f j=g j) (i:g n=jG l t) (j:Nat) (k:j<n+1):
 (if j<n then f j else((List.replicate 1 (AV.agg [d9 0,d9 0, .ax])).set 0 (aA (l.getD (max (db l t) 0).toNat az))).getD (j - n) AV.any)=g j:=by
 split;grind;have e:j=n:=O;subst e;rw[yz,i,yc h];unfold jG;rw[x9 h];rfl
theorem ZK {l:List bR} {t:Int} (h:¬ 0<=db l t) (n:Nat) (f:Nat ->AV) (g:Nat ->AV) (m:∀ j,j<n ->f j=g j) (i:g n=jG l t) (j:Nat) (k:j<n+1):
 (if j<n then f j else((List.replicate 1 (AV.agg [d9 0,d9 0, .ax])).set 0 (.agg [d9 t,d9 0, .ax])).getD (j - n) AV.any)=g j:=by
 split;grind;have e:j=n:=O;subst e;rw[yz,i];unfold jG;rw[x8 h];rfl
section
variable (p:ai) (b:Int) (s:ja) (a:Int)
def Zu:=bX (fk p b s a).snd.fst
def qj6:Int:=(fk p b s a).snd.snd
def qj7:Nat:=(dH p b s a).fst.ab.length
def De:=qj7 p b s a=0
def pX:Ev:=(dH p b s a).snd.fst
def Kz:=qj6 p b s a !=0
def sU:Nat:=(fk p b s a).fst.ab.length
def Ga:Int:=↑(sU p b s a)
def Mn:Int:=((fk p b s a).fst.ab.getD (Int.toNat 0) ao).id
def D9:=d9 (Mn p b s a)
def qrx:Int:=max (db s.ae (Mn p b s a)) 0
def qry:=decide (0<=db s.ae ((fk p b s a).fst.ab.getD (Int.toNat 0) ao).id)
def Zp:Nat:=0+1
def yM:=0<1/\↑Zp*↑(40:Nat)<=(140737488355328:Int)/\Zp<=9223372036854775807
variable (x4:Nat)
def Vc:=x4<=sU p b s a/\qj6 p b s a=0
def Jm:=RR s.ae.length/\∀ i:Nat,i<s.ae.length->RR (aA (s.ae.getD i az))
def Cd:i5:=(fk p b s a).fst.ab.getD x4 ao
def O6:=ak (Cd p b s a x4)
def FU:=x4<sU p b s a
def qj9:=RR (sU p b s a)/\∀ i:Nat,FU p b s a i->RR (O6 p b s a i)
def QU:=RR (Ga p b s a)
def Dh:=Jm s/\qj9 p b s a/\QU p b s a/\vh=↑x4
def Cs:=bt/\(bt/\bt/\bt/\bt)/\bt
def qja:=RR (0:Int)/\RR (0:Int)/\RR (0:Int)/\RR (0:Int)/\RR (0:Int)/\RR (0:Int)/\RR (0:Int)/\RR (0:Int)/\RR (0:Int)
def AZ:=LS (aj (fk p b s a).fst.l5) (aj (fk p b s a).fst.l5)
variable (x0:Nat)
def qrz:=Zp=x0
def FY:=qj9 p b s a/\AZ p b s a/\qrz x4
def qjb:=LS (Zu p b s a) (Zu p b s a)
def Uh:Nat:=x0 - 0
def xQ:=jG s.ae (Cd p b s a x4).id
def Lv:=x0<Zp
def Ip:=decide ((0:Int)<↑(fk p b s a).fst.ab.length)
def KX:i5:=(dH p b s a).fst.ab.getD x4 ao
def CM:=sU p b s a=qj7 p b s a/\∀ i:Nat,FU p b s a i->O6 p b s a i=ak (KX p b s a i)
def yR:=LS (aj (fk p b s a).fst.l5) (aj (dH p b s a).fst.l5)
def Pd:=jG s.ae (KX p b s a x4).id
def HM:=LS (Zu p b s a) (bX (pX p b s a))/\0=Vj p b s a
def PT:Int:=((fk p b s a).fst.ab.getD (↑x4:Int).toNat ao).id
def KO:=d9 (PT p b s a x4)
def qs0:Int:=max (db s.ae (PT p b s a x4)) 0
def qs1:=decide (0<=db s.ae ((fk p b s a).fst.ab.getD (↑x4:Int).toNat ao).id)
def ML:Nat:=sU p b s a - x4
variable (x5:Nat)
def Ki:=ML p b s a x5<ML p b s a x4
def zI:=Jm s/\qj9 p b s a/\QU p b s a/\q9 x4=↑x5
def Ep:=qj9 p b s a/\AZ p b s a/\qn x4 x5
def DG:=decide ((↑x4:Int)<(↑(fk p b s a).fst.ab.length:Int))
end
theorem acj (k a:Int) (x:bI p) (hs:cw s) (E:lz) (u:(kw s.l5).length<400000) (hl:s.ab.length<1000000):KN 58 [nQ s k,vP p,d9 b,d9 a] (.av [.mc aI (.agg [aF (dH p b s a).1.ab,aj (dH p b s a).1.l5,vBl s.ae (dH p b s a).1.ab]),dh (dH p b s a).2.1,d9 (dH p b s a).2.2]):=by
 refine Kn (vOt p b s a 70 (ah9 p b s a)) func58 (KN 117 [AV.mc jP (AV.agg [ze s,d9 k])] (mF s)/\(KN 130 [AV.mc z7 (ah p),d9 b,mF s,d9 a] (AV.av [AV.mc aI (AV.agg [aF (fk p b s a).fst.ab,aj (fk p b s a).fst.l5,AV.bD c7 (0:Nat) λi=>aA ([].getD i az)]),AV.mc bF (Zu p b s a),d9 (qj6 p b s a)]))/\Z (Kz p b s a) ((De p b s a/\((dH p b s a).fst.l5.eA.length=0/\(dH p b s a).fst.l5.aa.length=0/\(dH p b s a).fst.l5.a6.length=0/\(dH p b s a).fst.l5.lT.length=0)/\De p b s a)/\(0=(pX p b s a).aC/\0=(pX p b s a).ly/\0=(pX p b s a).kind/\0=(pX p b s a).ii/\0=(pX p b s a).k7/\0=(pX p b s a).entry/\0=(pX p b s a).ord/\0=(pX p b s a).read/\0=(pX p b s a).i4)/\qj6 p b s a=Vj p b s a) (KN 131 [aY s.ae] (aY s.ae)/\Ga p b s a<=9223372036854775807/\(Z (Ip p b s a) (af 0 (sU p b s a)/\KN 132 [aY s.ae,D9 p b s a] (AV.av [d9 (qrx p b s a),AV.bool (qry p b s a)])/\Z (qry p b s a) (af (qrx p b s a) s.ae.length/\xV/\yM/\qf/\Xq/\(∃ j,Vc p b s a j/\Dh p b s a j/\Cs/\qja/\FY p b s a j/\qjb p b s a/\qrz j/\∀ (i:Nat),Lv i->(if i<0 then aA ([].getD i az)else(wV.set 0 (aA (s.ae.getD (qrx p b s a).toNat az))).getD (Uh i) AV.any)=xQ p b s a i)) (xV/\yM/\qf/\Xq/\(∃ j,Vc p b s a j/\Dh p b s a j/\Cs/\qja/\FY p b s a j/\qjb p b s a/\qrz j/\∀ (i:Nat),Lv i->(if i<0 then aA ([].getD i az)else(wV.set 0 (AV.agg (D9 p b s a::q3o))).getD (Uh i) AV.any)=xQ p b s a i))) ((CM p b s a/\yR p b s a/\0=qj7 p b s a/\∀ i:Nat,i<0->aA ([].getD i az)=Pd p b s a i)/\HM p b s a))/\∀ i:Nat,Vc p b s a i->Z (DG p b s a i) (af (↑i) (sU p b s a)/\KN 132 [aY s.ae,KO p b s a i] (AV.av [d9 (qs0 p b s a i),AV.bool (qs1 p b s a i)])/\Z (qs1 p b s a i) (af (qs0 p b s a i) s.ae.length/\xV/\Xj i/\qf/\qa i/\(∃ j,Vc p b s a j/\Ki p b s a i j/\zI p b s a i j/\pL/\qja/\Ep p b s a i j/\qjb p b s a/\qn i j/\∀ (f:Nat),pk i f->(if f<i then xQ p b s a f else(wV.set 0 (aA (s.ae.getD (qs0 p b s a i).toNat az))).getD (f - i) AV.any)=xQ p b s a f)) (xV/\Xj i/\qf/\qa i/\(∃ j,Vc p b s a j/\Ki p b s a i j/\zI p b s a i j/\pL/\qja/\Ep p b s a i j/\qjb p b s a/\qn i j/\∀ (f:Nat),pk i f->(if f<i then xQ p b s a f else(wV.set 0 (AV.agg (KO p b s a i::q3o))).getD (f - i) AV.any)=xQ p b s a f))) (i<=i/\(CM p b s a/\yR p b s a/\i=qj7 p b s a/\∀ (f:Nat),f<i->xQ p b s a f=Pd p b s a f)/\HM p b s a))) ?_;try delta Z bt mF Zu qj6 qj7 De pX Vj Kz sU Ga Mn D9 qrx qry xV Zp yM qf vh Xq Vc Jm Cd O6 FU qj9 QU Dh Cs qja AZ qrz FY qjb q3o wV Uh xQ Lv Ip KX CM yR Pd HM PT KO qs0 qs1 qd Xj q9 qa ML Ki zI nj pL qn Ep pk DG
 simp only[SB,af];simp only[iL,w6];have y:=zjl (b:=b) (a:=a) x hs.sc u hl;have h1:(fk p b s a).1.ab.length<=1000000:=y.1.ab;have m:=hs.ae;have fl:∀ {t:Int},0<=db s.ae t ->0<=max (db s.ae t) 0/\max (db s.ae t) 0<(s.ae.length:Int):=fun {t} h=>by have :=zlm s.ae t;omega
 refine⟨Pn s k,akk p b s a x hs E u hl,λh=>?_,λh=>?_⟩;have e:dH p b s a=(mt,aW,(fk p b s a).2.2):=x9 h;rw[e];exact⟨⟨rfl,df,rfl⟩,⟨rfl,rfl,rfl,rfl,rfl,rfl,rfl,rfl,rfl⟩,rfl⟩;have e:dH p b s a=(rX (fk p b s a).1 s.ae,(fk p b s a).2.1,0):=x8 (not_not_intro h);have et:(dH p b s a).1.ab=(fk p b s a).1.ab:=by rw[e];rfl
 have H:(dH p b s a).1.l5=(fk p b s a).1.l5:=by rw[e];rfl
 have ee:(dH p b s a).2.1=(fk p b s a).2.1:=by rw[e]
 have F:(dH p b s a).2.2=0:=by rw[e]
 rw[et,H,ee,F];let G:Nat ->AV:=λj=>jG s.ae ((fk p b s a).1.ab.getD j ao).id;refine⟨afn _ m hs.nw,O,⟨λh0=>⟨⟨am,h0⟩,zql _ _ m,λhf=>⟨fl hf,am,am,za am am,1,⟨O,h⟩,rfl,rfl,rfl,λj hj=>zyg hf 0 (λj=>aA (([]:List bR).getD j az)) G (λj hj=>O) rfl j hj⟩,λhf=>⟨am,am,za am am,1,⟨O,h⟩,rfl,rfl,rfl,λj hj=>ZK hf 0 (λj=>aA (([]:List bR).getD j az)) G (λj hj=>O) rfl j hj⟩⟩,λh0=>⟨⟨⟨rfl,λ_ _=>rfl⟩,fp rfl,O,λj hj=>O⟩,fp rfl,rfl⟩⟩,λi hi=>⟨λhlt=>⟨hlt,zql _ _ m,λhf=>⟨fl hf,am,O,f9,i+1,⟨O,h⟩,O,O,rfl,rfl,λj hj=>zyg hf i G G (λj hj=>rfl) rfl j hj⟩,λhf=>⟨am,O,f9,i+1,⟨O,h⟩,O,O,rfl,rfl,λj hj=>ZK hf i G G (λj hj=>rfl) rfl j hj⟩⟩,λhge=>⟨⟨⟨rfl,λ_ _=>rfl⟩,fp rfl,O,λ_ _=>rfl⟩,fp rfl,rfl⟩⟩⟩
theorem abb (k a:Int) (J:bI p) (hs:cw s) (K:lz) (H:(kw s.l5).length<400000) (hl:s.ab.length<1000000):
 KN 58 [nQ s k,vP p,d9 b,d9 a] (.av [cx (dH p b s a).1,dh (dH p b s a).2.1,d9 (dH p b s a).2.2]):=by
 have M:∃ l,(dH p b s a).1.ae=eJ (dH p b s a).1.ab l (dH p b s a).1.ab.length/\(l=s.ae∨(dH p b s a).1.ab.length=0):=by
  unfold dH;split;exact⟨[],rfl, .inr rfl⟩;exact⟨s.ae,rfl, .inl rfl⟩
 refine(acj p b s k a J hs K H hl).imp λw F v h=>dx.jT (r:=[_,_,_]) (r':=[_,_,_]) (by rfl) (λj e u y=>?_) h;match j,e with
 |1,_ |2,_=>exact y
 |0,_=>
  cases y with
  |mc m sh x hs E=>
   refine .mc m _ _ hs λj e=>?_;have h:=E j e;match j,e with
   |0,_ |1,_ |2,_ |3,_ |4,_=>exact h
   |5,_=>
    show au w F _ (aY (dH p b s a).1.ae);have⟨l,N,i⟩:=M;rw[N];rcases i with rfl |i;exact zqe (dH p b s a).1.ab s.ae _ (xm _) h;unfold vBl at h;rw[i]at h ⊢;generalize m.getD 5 undef=v at h ⊢;cases h with
    |cH=>exact .cH _ _ _ _
    |seq g o n cap sh f m V U R Q=>exact .cH _ _ _ _
def adx:FuncId ->List AV ->Option AV
 |65,[.seq _ n f]=>some (.own 0 n)
 |f,l=>qK f l
def ado:FuncId ->List AV ->Option (List ar)
 |65,[.seq _ n f]=>some [Cg (dR dB (.seq c7 n f))]
 |f,l=>frM f l
noncomputable def ab0 (n:Nat):ls:={di n λ_ _=>false with fresh:=ado}
noncomputable def vPu (n:Nat) (inv:Nat ->Option lm):bm:={C:=ab0 n,CC:=mp prog GG,b9:=λ_ _=>adx,inv:=inv}
end
end Go.Proofs.S25
