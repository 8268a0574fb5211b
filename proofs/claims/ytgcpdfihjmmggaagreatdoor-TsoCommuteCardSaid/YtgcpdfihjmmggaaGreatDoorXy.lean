import Derived.Test.YtgcpdfihjmmggaaGreatDoorXx
namespace Go.Proofs.S25
open Go Go.AV Tryz
open Go.IntKind renaming i64 -> j6
open Go.AV.ex (ey)
noncomputable section
variable (p:ai) (b:Int) (s:ja) (n:Nat) (a:Int) (k:Nat) (e:Ev)
theorem Ew (m:i8) (hm:dk m):KN 185 [vM m] (vM m):=by
 refine Kn (vM3 36 (λd=>Nat.beq d 8 || (Nat.beq d 11 || Nat.beq d 18)) (ztm m)) func185 ((KF (225:Nat) [a8 m.eA] (AV.own (0:Nat) m.eA.length) [ar.row (3:TypeId) ey (ql m) λi=>qu m i])/\(KF (225:Nat) [a8 m.aa] (AV.own (0:Nat) m.aa.length) [ar.row (3:TypeId) ey (qm m) λi=>qv m i])/\lk m/\((0:Int)<=↑m.a6.length/\(↑m.a6.length:Int)<=(↑m.a6.length:Int)/\↑(24:Nat)*↑m.a6.length<=(140737488355328:Int)/\lk m)/\(KF (225:Nat) [a8 m.lT] (AV.own (0:Nat) m.lT.length) [ar.row (3:TypeId) ey (qk m) λi=>qo m i])/\lk m/\(∃ (i:Nat),i<=List.length (i8.a6 m)/\(LT (aE (i8.a6 m))/\RR (↑(List.length (i8.a6 m)):Int)/\(0:Int)=(↑i:Int))/\LT (aj m)/\(bt/\bt/\bt/\bt)/\(RR (List.length (i8.eA m))/\RR (List.length (i8.aa m))/\uv m/\RR (List.length (i8.lT m)))/\(ql m=List.length (i8.eA m)/\∀ (i:Nat),i<ql m->qu m i=AV.int j6 (List.getD (i8.eA m) i (0:Int)))/\(qm m=List.length (i8.aa m)/\∀ (i:Nat),i<qm m->qv m i=AV.int j6 (List.getD (i8.aa m) i (0:Int)))/\(uv m/\∀ (i_1:Nat),i_1<Int.toNat (↑(List.length (i8.a6 m)):Int)->AV.ax=rR m i i_1)/\qk m=List.length (i8.lT m)/\∀ (i:Nat),i<qk m->qo m i=AV.int j6 (List.getD (i8.lT m) i (0:Int)))/\∀ i:Nat,i<=m.a6.length->Z (qj m i) (af (↑i) m.a6.length/\KN 225 [a8 (m.a6.getD (↑i:Int).toNat [])] (mE m i)/\af (↑i) m.a6.length/\(↑i:Int).toNat<m.a6.length/\aM j6 (q9 i)/\(∃ j,j<=m.a6.length/\qi m j<qi m i/\(LT (aE m.a6)/\RR (↑m.a6.length:Int)/\q9 i=(↑j:Int))/\LT (aj m)/\(LT (a8 [])/\LT (a8 [])/\LT (aE [])/\LT (a8 []))/\(RR m.eA.length/\RR m.aa.length/\RR m.a6.length/\RR m.lT.length)/\(RR m.eA.length/\∀ (i:Nat),i<m.eA.length->RR (AV.int j6 (m.eA.getD i 0)))/\(RR m.aa.length/\∀ (i:Nat),i<m.aa.length->RR (AV.int j6 (m.aa.getD i 0)))/\(RR m.a6.length/\∀ (i_1:Nat),i_1<m.a6.length->(if i_1=(↑i:Int).toNat then aq (mE m i)else rR m i i_1)=rR m j i_1)/\RR m.lT.length/\∀ (i:Nat),i<m.lT.length->RR (AV.int j6 (m.lT.getD i 0)))) (m.eA.length<=m.eA.length/\m.aa.length<=m.aa.length/\m.a6.length<=m.a6.length/\m.lT.length<=m.lT.length/\LT (a8 m.eA)/\LT (a8 m.aa)/\(RR m.a6.length/\∀ (i_1:Nat),i_1<m.a6.length->rR m i i_1=a8 (m.a6.getD i_1 []))/\LT (a8 m.lT))) ?_;try delta Z bt sQ ql qu tZ qm qv lk qB qk qo uv rR mE q9 qi qj
 simp only[SZ];simp only[oR,w8,wg,w6];have s3:=hm.a6;refine⟨rD _ hm.eA,rD _ hm.aa,O,⟨O,O⟩,rD _ hm.lT,O,⟨0,O,rfl,λj hj=>by rw[x8 O]⟩,λi hi=>⟨λhlt=>⟨hlt,zfm _ (hm.q i),hlt,hlt,f9,i+1,hlt,O,O,λj hj=>?_⟩,λhge j hj=>by rw[x9 O]⟩⟩;by_cases e:j=i;subst e;rw[x9 rfl,x9 O];rfl;rw[x8 e];by_cases h:j<i;rw[x9 h,x9 O];rw[x8 h,x8 O]
section
variable (s:ja)
def mW:=↑s.ab.length<=(9223372036854775807:Int)
def WC:=(↑(↑s.ab.length:Int).toNat:Int)<=9223372036854775807
def Tb:=(↑s.ab.length:Int).toNat=s.ab.length
def um:List AV:=[d9 0,d9 0,AV.ax]
variable (x1:Nat)
def Uc:List AV:=[a8 (s.ab.getD (↑x1:Int).toNat ao).ic]
def W4:=a8 (zw (s.ab.getD (↑x1:Int).toNat ao).ic.length λi=>d9 ((s.ab.getD (↑x1:Int).toNat ao).ic.getD i 0))
def TL:=↑s.ae.length<=(9223372036854775807:Int)
def VQ:=(↑(↑s.ae.length:Int).toNat:Int)<=9223372036854775807
def Sb:=(↑s.ae.length:Int).toNat=s.ae.length
def nh:=RR s.ab.length/\∀ (i:Nat),i<s.ab.length->RR (ak (s.ab.getD i ao))
def IV:List AV:=[bY (s.ae.getD (↑x1:Int).toNat az).bO]
def TQ:=bY (dR dE (bY (s.ae.getD (↑x1:Int).toNat az).bO))
def HH:=RR s.ab.length/\LT (aj s.l5)/\RR s.ae.length
def uJ:=decide ((↑x1:Int)<(↑s.ae.length:Int))
end
theorem agf (hs:cw s):KF 124 [cx s] (zqo s) (zje s):=by
 refine nc (vMc 69 (z198 s)) func124 (KN 185 [AV.mc zm (aj s.l5)] (AV.mc zm (AV.agg [a8 (dR dI (a8 s.l5.eA)),a8 (dR dI (a8 s.l5.aa)),aE (dR (dR dI) (aE s.l5.a6)),a8 (dR dI (a8 s.l5.lT))]))/\mW s/\((0:Int)<=↑s.ab.length/\(↑s.ab.length:Int)<=(↑s.ab.length:Int)/\↑(152:Nat)*↑s.ab.length<=(140737488355328:Int)/\mW s)/\((↑s.ab.length:Int).toNat<=(↑s.ab.length:Int).toNat/\WC s)/\WC s/\(∃ (i:Nat),i<=List.length (ja.ab s)/\((↑(Int.toNat (↑(List.length (ja.ab s)):Int)):Int)=(↑(List.length (ja.ab s)):Int)/\(0:Int)=(↑i:Int))/\LT (ze s)/\(bt/\(bt/\bt/\bt/\bt)/\bt)/\(Tb s/\LS (a8 (dR dI (a8 (i8.eA (ja.l5 s))))) (a8 (i8.eA (ja.l5 s)))/\LS (a8 (dR dI (a8 (i8.aa (ja.l5 s))))) (a8 (i8.aa (ja.l5 s)))/\LS (aE (dR (dR dI) (aE (i8.a6 (ja.l5 s))))) (aE (i8.a6 (ja.l5 s)))/\LS (a8 (dR dI (a8 (i8.lT (ja.l5 s))))) (a8 (i8.lT (ja.l5 s))))/\Tb s/\∀ (i:Nat),i<Int.toNat (↑(List.length (ja.ab s)):Int)->(if i<min (List.length (ja.ab s)) (Int.toNat (↑(List.length (ja.ab s)):Int))then ak (List.getD (ja.ab s) i ao)else AV.agg (d9 (0:Int)::d9 (0:Int)::d9 (0:Int)::(AV.arr (8:Nat) λ(x:Nat)=>d9 (0:Int))::d9 (0:Int)::d9 (0:Int)::d9 (0:Int)::um))=ak (List.getD (ja.ab s) i ao))/\∀ i:Nat,i<=s.ab.length->Z (qc s i) (af (↑i) s.ab.length/\KN 186 (Uc s i) (W4 s i)/\af (↑i) s.ab.length/\(↑i:Int).toNat<s.ab.length/\qa i/\(∃ j,j<=s.ab.length/\s.ab.length - j<s.ab.length - i/\(RR (↑s.ab.length:Int)/\qb i j)/\LT (ze s)/\Ly/\(RR s.ab.length/\LT (aj s.l5))/\RR s.ab.length/\∀ (i_1:Nat),i_1<s.ab.length->(if i_1=(↑i:Int).toNat then AV.agg ((d9 (s.ab.getD (↑i:Int).toNat ao).id::d9 (s.ab.getD (↑i:Int).toNat ao).fn::d9 (s.ab.getD (↑i:Int).toNat ao).pc::kT (s.ab.getD (↑i:Int).toNat ao).aw::d9 (s.ab.getD (↑i:Int).toNat ao).io::d9 (s.ab.getD (↑i:Int).toNat ao).i7::d9 (s.ab.getD (↑i:Int).toNat ao).gH::d9 (s.ab.getD (↑i:Int).toNat ao).ip::d9 (s.ab.getD (↑i:Int).toNat ao).i9::Uc s i).set 9 (aq (W4 s i)))else ak (s.ab.getD i_1 ao))=ak (s.ab.getD i_1 ao))) (TL s/\((0:Int)<=↑s.ae.length/\(↑s.ae.length:Int)<=(↑s.ae.length:Int)/\↑(40:Nat)*↑s.ae.length<=(140737488355328:Int)/\TL s)/\((↑s.ae.length:Int).toNat<=(↑s.ae.length:Int).toNat/\VQ s)/\VQ s/\(∃ i,i<=s.ae.length/\((↑(↑s.ae.length:Int).toNat:Int)=(↑s.ae.length:Int)/\0=(↑i:Int))/\LT (ze s)/\Ly/\(RR s.ab.length/\LT (aj s.l5)/\Sb s)/\nh s/\Sb s/\∀ (i:Nat),i<(↑s.ae.length:Int).toNat->(if i<min s.ae.length (↑s.ae.length:Int).toNat then aA (s.ae.getD i az)else AV.agg um)=aA (s.ae.getD i az))/\∀ (i:Nat),i<=s.ae.length->Z (uJ s i) (af (↑i:Int) s.ae.length/\KN 187 (IV s i) (TQ s i)/\af (↑i:Int) s.ae.length/\(↑i:Int).toNat<s.ae.length/\qa i/\∃ j,j<=s.ae.length/\s.ae.length - j<s.ae.length - i/\(RR (↑s.ae.length:Int)/\qb i j)/\LT (ze s)/\Ly/\HH s/\nh s/\RR s.ae.length/\∀ (i_1:Nat),i_1<s.ae.length->(if i_1=(↑i:Int).toNat then AV.agg ((d9 (s.ae.getD (↑i:Int).toNat az).ay::d9 (s.ae.getD (↑i:Int).toNat az).first::IV s i).set (2:Nat) (aq (TQ s i)))else aA (s.ae.getD i_1 az))=aA (s.ae.getD i_1 az)) (HH s/\nh s/\RR s.ae.length/\∀ (i:Nat),i<s.ae.length->RR (aA (s.ae.getD i az))))) ?_;try delta Z bt mW WC Tb um Uc W4 q9 qa qb Ly qc TL VQ Sb nh IV TQ HH uJ
 simp only[SZ];simp only[oR];have h1:=hs.ab;have h2:=hs.ae;refine⟨Ew _ hs.l5,O,⟨O,O⟩,O,O,⟨0,O,rfl,λj hj=>by rw[x9 O]⟩,λi hi=>⟨λhlt=>⟨hlt,zqn _ (by have :=(hs.ok i).ic;omega),hlt,hlt,f9,i+1,O,O,O,λj hj=>?_⟩,λhge=>⟨O,⟨O,O⟩,O,O,⟨0,O,rfl,λj hj=>by rw[x9 O]⟩,λi hi hlt=>⟨hlt,agw _ (hs.nw i),hlt,hlt,f9,i+1,O,O,O,λj hj=>?_⟩⟩⟩⟩;by_cases e:j=i;subst e;rw[x9 rfl];rfl;rw[x8 e];by_cases e:j=i;subst e;rw[x9 rfl];rfl;rw[x8 e]
def bN:ja:={s with ae:=[]}
def cY (m:i8) (t:i5) (i:aK) (e:Ev):i8×Int×Int:=
 if e.kind=5 then((zr m e.ii e.i4).1,if i.op=12 then 1 else e.read,(zr m e.ii e.i4).2)
 else if e.kind=2 then((zr m e.ii e.i4).1,0,(zr m e.ii e.i4).2)
 else if e.kind=1∨e.kind=8 then(m,e.read,0)
 else if e.kind=11 then(if e.read=0 then(m,0,0)else((bc m e.ii t.id (-1) t.id).1,1,(bc m e.ii t.id (-1) t.id).2))
 else if e.kind=9 then((bc m e.ii t.id (-1) t.id).1,0,(bc m e.ii t.id (-1) t.id).2)
 else if e.kind=10 then((bc m e.ii t.id t.id (-1)).1,0,(bc m e.ii t.id t.id (-1)).2)
 else if e.kind=12 then(if(bc m e.k7 t.id t.id (-1)).2=0 then((aZ (bc m e.k7 t.id t.id (-1)).1 e.ii t.id).1,0,(aZ (bc m e.k7 t.id t.id (-1)).1 e.ii t.id).2)else((bc m e.k7 t.id t.id (-1)).1,0,(bc m e.k7 t.id t.id (-1)).2))
 else if e.kind=13 then((dD m t.id).1,0,(dD m t.id).2)
 else if e.kind=14 then((zi m e.ii 1).1,0,(zi m e.ii 1).2.2)
 else if e.kind=15 then((zi m e.ii (z1z m.a6)).1,0,(zi m e.ii (z1z m.a6)).2.2)
 else if e.kind=16 then(m,e.ii,0)
 else(m,0,0)
def gK (l:List i5) (id:Int):Nat:=(l.takeWhile λt=>decide (t.id<id)).length
def gB (l:List i5) (c:i5) (n:Nat):List i5:=l.take n++(c::l.drop n)
def eH (id fn arg:Int):ja×Int:=
 if 0<=aS s.ab id then(mt,30)else if(ba p b id fn arg).2≠0 then(mt,30)else({s with ab:=gB s.ab (ba p b id fn arg).1 (gK s.ab id)},0)
def da:ja×Ev×Int:=
 if aV p b≠0 then(mt,aW,aV p b)else if bT p b s=false then(mt,aW,1)
 else if(bg p s a).2.2=false∨z20 s (bg p s a).1 (bg p s a).2.1=false then(mt,aW,19)
 else
  let t:=(bg p s a).1
  let i:=(bg p s a).2.1
  let e:=m8 s t i
  let f:=cY s.l5 t i e
  if f.2.2≠0 then(mt,aW,30)else
  let o:ja×Int:=if e.kind=16 then eH p b {s with l5:=f.1} e.ii i.ii (bp t i.b)else({s with l5:=f.1},0)
  if o.2≠0 then(mt,aW,o.2)else
  if(cd p b t f.2.1).2≠0 then(mt,aW,(cd p b t f.2.1).2)else
  ({o.1 with ab:=o.1.ab.set (aS o.1.ab a).toNat (cd p b t f.2.1).1},e,0)
def fm (v:Int):Int×Int:=
 if(eY (s.ae.getD k az) v).2.2 then((eY (s.ae.getD k az) v).1,(eY (s.ae.getD k az) v).2.1)else((fo s.l5 v).1,-1)
def bU:Ev×Bool:=
 let t:=s.ab.getD k ao
 let b:=s.ae.getD k az
 let i:=zg p t
 if cm p t=false then(aW,false)
 else if i.op=8∨i.op=14 then(⟨t.id,t.io,if i.op=14 then 8 else 1,i.ii,-1,(fm s k i.ii).2,i.ord,(fm s k i.ii).1,0⟩,true)
 else if i.op=9 then(⟨t.id,t.io,3,i.ii,-1,b.first+b.bO.length,i.ord,0,bp t i.b⟩,true)
 else bA p (bN s) t.id
def cg:Ev×Bool:=
 let t:=s.ab.getD k ao
 let b:=s.ae.getD k az
 if b.bO.length=0 then(aW,false)else(⟨m6 t.id,b.first,4,(b.bO.getD 0 cc).var,-1,b.first,0,0,(b.bO.getD 0 cc).val⟩,true)
def fu (on:List Int):Bool:=
 let t:=s.ab.getD k ao
 let b:=s.ae.getD k az
 let i:=zg p t
 if cm p t=false then false else if i.op=8∨i.op=9 then true
 else if i.op=14 then(app i.fn (fm s k i.ii).1 (bp t i.b)).2==0&&(app i.fn (fm s k i.ii).1 (bp t i.b)).1 !=0
 else if(nN i.op&&decide (0<b.bO.length)) || !aQ on t.id then false
 else if i.op=22 then decide (0<=db s.ae (bp t i.b))&&(s.ae.getD (db s.ae (bp t i.b)).toNat az).bO.length==0
 else true
def dt (l:List bR) (n:Nat):List Int:=(((l.drop n).filter λb=>decide (0<b.bO.length)).map λb=>m6 b.ay).reverse
def ap4:List Int:=((List.range n).filter λk=>fu p s k (cX p (bN s))).map λk=>(s.ab.getD k ao).id
def cL:List Int:=dt s.ae 0++ap4 p s s.ab.length
def zfu (t:i5) (b:bR):Bool:=bQ b&&(b.ay==t.id&&b.bO.all λe=>decide (e.var<p.eA.length))
def cQ:Bool:=ec p s.l5&&(s.ae.length==s.ab.length&&(rZ p b s.ab&&(List.range s.ab.length).all λj=>zfu p (s.ab.getD j ao) (s.ae.getD j az)))
def cI:List Int:=if cQ p 32 s then cL p s else []
def zu:Ev×Bool:=
 if aS s.ab (aX a)<0 then(aW,false)else if a<0 then cg s (aS s.ab (aX a)).toNat else bU p s (aS s.ab (aX a)).toNat
def zf:Ev×Bool:=if cQ p 32 s=false then(aW,false)else zu p s a
def dn:ja×Int:=
 let t:=s.ab.getD k ao
 let u:=s.ae.getD k az
 if e.kind=4 then
  if(bH u).2.2.2≠0 then(mt,30)else if(zr s.l5 e.ii e.i4).2≠0 then(mt,30)
  else({s with ae:=s.ae.set k (bH u).1,l5:=(zr s.l5 e.ii e.i4).1},0)
 else if e.kind=3 then
  if(cq u e.ii e.i4).2.2≠0 then(mt,30)else if(cd p b t e.read).2≠0 then(mt,30)
  else({s with ae:=s.ae.set k (cq u e.ii e.i4).1,ab:=s.ab.set k (cd p b t e.read).1},0)
 else if(cd p b t e.read).2≠0 then(mt,30)else({s with ab:=s.ab.set k (cd p b t e.read).1},0)
def dH:ja×Ev×Int:=
 if(da p b (bN s) a).2.2≠0 then(mt,aW,(da p b (bN s) a).2.2)else(rX (da p b (bN s) a).1 s.ae,(da p b (bN s) a).2.1,0)
def fj:Bool:=e.kind==1 || (e.kind==8 || (e.kind==3 || e.kind==4))
def zt:ja×Ev×Int:=
 if(zc p).1≠0 then(mt,aW,(zc p).1)else if b<1∨32<b then(mt,aW,2)else if cQ p b s=false then(mt,aW,1)
 else if aQ (cL p s) a=false then(mt,aW,19)
 else if fj (zu p s a).1 then
  (if(dn p b s (aS s.ab (aX a)).toNat (zu p s a).1).2≠0 then(mt,aW,(dn p b s (aS s.ab (aX a)).toNat (zu p s a).1).2)else((dn p b s (aS s.ab (aX a)).toNat (zu p s a).1).1,(zu p s a).1,0))
 else dH p b s a
def jP:ex:= .agg [aI, .ey]
def XN (k:Int):AV:= .agg [ze s,d9 k]
def nQ (k:Int):AV:= .mc jP (XN s k)
def oTo:FuncId ->List AV ->Option AV
 |117,[_]=>some (fi s)
 |125,[_]=>some (.av [vT (s.ab.getD k ao),vB (s.ae.getD k az)])
 |179,[_, .int _ v]=>some (.av [d9 (fm s k v).1,d9 (fm s k v).2])
 |177,[_,_]=>some (.av [vI (zg p (s.ab.getD k ao)), .bool (cm p (s.ab.getD k ao))])
 |184,[_,_, .int _ a]=>some (.av [dh (bA p (bN s) a).1, .bool (bA p (bN s) a).2])
 |116,[_,_]=>some (a8 (cX p (bN s)))
 |113,[_, .int _ b, .mc _ t]=>some (.bool (fq p b (dT t)))
 |112,[_,_]=>some (.bool (ec p s.l5))
 |111,[_]=>some (.bool ((zc p).1==0))
 |51,[_]=>some (.av [d9 (zc p).1,d9 (zc p).2.1,d9 (zc p).2.2])
 |229,[_, .int _ x]=>some (.av [d9 (eY (s.ae.getD k az) x).1,d9 (eY (s.ae.getD k az) x).2.1, .bool (eY (s.ae.getD k az) x).2.2])
 |227,[_, .int _ x]=>some (.av [d9 (fo s.l5 x).1,d9 (fo s.l5 x).2])
 |127,[_, .int _ x, .int _ v]=>some (.av [vM (zr s.l5 x v).1,d9 (zr s.l5 x v).2])
 |126,[_]=>some (.av [vB (bH (s.ae.getD k az)).1,Vq (bH (s.ae.getD k az)).2.1,d9 (bH (s.ae.getD k az)).2.2.1,d9 (bH (s.ae.getD k az)).2.2.2])
 |128,[_, .int _ x, .int _ v]=>some (.av [vB (cq (s.ae.getD k az) x v).1,d9 (cq (s.ae.getD k az) x v).2.1,d9 (cq (s.ae.getD k az) x v).2.2])
 |129,[_, .int _ b,_, .int _ r]=>some (.av [vT (cd p b (s.ab.getD k ao) r).1,d9 (cd p b (s.ab.getD k ao) r).2])
 |132,[_, .int _ t]=>some (.av [d9 (max (db s.ae t) 0), .bool (decide (0<=db s.ae t))])
 |120,[_, .int _ t]=>some (.av [d9 (max (aS s.ab t) 0), .bool (decide (0<=aS s.ab t))])
 |52,[_, .int _ b,_]=>some (.bool (cQ p b s))
 |123,[_,_]=>some (.av [dh (bU p s k).1, .bool (bU p s k).2])
 |122,[_]=>some (.av [dh (cg s k).1, .bool (cg s k).2])
 |119,[.mc _ (.agg [_, .int _ k]),_,_]=>some (.bool (fu p s k.toNat (cX p (bN s))))
 |54,[_,_]=>some (a8 (cL p s))
 |22,[_,_]=>some (a8 (cI p s))
 |55,[_, .int _ a]=>some (.av [nQ s (max (aS s.ab (aX a)) 0), .bool (decide (0<=aS s.ab (aX a)))])
 |56,[_,_, .int _ a]=>some (.av [dh (zu p s a).1, .bool (zu p s a).2])
 |26,[_,_, .int _ a]=>some (.av [dh (zf p s a).1, .bool (zf p s a).2])
 |57,[_,_, .int _ b,_]=>some (.av [cx (dn p b s k e).1,d9 (dn p b s k e).2])
 |58,[_,_, .int _ b, .int _ a]=>some (.av [cx (dH p b s a).1,dh (dH p b s a).2.1,d9 (dH p b s a).2.2])
 |21,[_, .int _ b,_, .int _ a]=>some (.av [cx (zt p b s a).1,dh (zt p b s a).2.1,d9 (zt p b s a).2.2])
 |124,[_]=>some (zqo s)
 |f,l=>qK f l
def al5:FuncId ->List AV ->Option (List ar)
 |124,[_]=>some (zje s)
 |f,l=>frM f l
noncomputable def aay (s:ja) (n:Nat):ls:={di n λ_ _=>false with fresh:=al5 s}
noncomputable def nn (p:ai) (s:ja) (k:Nat) (e:Ev) (n:Nat) (inv:Nat ->Option lm):bm:={C:=aay s n,CC:=mp prog GG,b9:=λ_ _=>oTo p s k e,inv:=inv}
abbrev aen (k:Int):ar:= .cell 102 jP (XN s k)
def ru:Prop:=k<s.ab.length/\k<s.ae.length
def ajn:Option lm:=match Nat.beq k 4 with
 |true=>iw s.ab.length (λi=>⟨[(1,d9 b),(3, .ptr 3 []),(5, .ptr 5 []),(32,aF s.ab),(33,d9 s.ab.length),(34,d9 i)],[(3,iM p),(5,fb s)]⟩) λi=>ec p s.l5=true/\s.ae.length=s.ab.length/\∀ j,j<i ->z5e p b s.ab j/\zfu p (s.ab.getD j ao) (s.ae.getD j az)=true
 |false=>none
def zxj:Option tK:=match Nat.beq k 10 with
 |true=>some {π:=Nat,I:=λk=>{ι:=Nat,S:=λi=>⟨[(1,d9 b),(3, .ptr 3 []),(5, .ptr 5 []),(32,aF s.ab),(33,d9 s.ab.length),(34,d9 k),(78,bY (s.ae.getD k az).bO),(79,d9 (s.ae.getD k az).bO.length),(80,d9 i)],[(3,iM p),(5,fb s)]⟩,μ:=λi=>(s.ae.getD k az).bO.length - i,ok:=λi=>i<=(s.ae.getD k az).bO.length/\k<s.ab.length/\ec p s.l5=true/\s.ae.length=s.ab.length/\(∀ j,j<k ->z5e p b s.ab j/\zfu p (s.ab.getD j ao) (s.ae.getD j az)=true)/\z5e p b s.ab k/\bQ (s.ae.getD k az)=true/\(s.ae.getD k az).ay=(s.ab.getD k ao).id/\∀ j,j<i ->((s.ae.getD k az).bO.getD j cc).var<p.eA.length}}
 |false=>none
def iQ (i:Nat):List Int:=dt s.ae 0++ap4 p s i
def al3:Option lm:=match Nat.beq k 4 with
 |true=>some {ι:=Nat,S:=λi=>⟨[(2, .ptr 2 []),(3, .ptr 3 []),(5,a8 (cX p (bN s))),(6, .own 40 (dt s.ae i).length),(7,d9 ((i:Int) - 1))],[(2,iM p),(3,fb s),(40,bw (dt s.ae i))]⟩,μ:=λi=>i,ok:=λi=>i<=s.ae.length}
 |false=>match Nat.beq k 9 with
  |true=>iv s.ab.length λi=>⟨[(2, .ptr 2 []),(3, .ptr 3 []),(5,a8 (cX p (bN s))),(6, .own 40 (iQ p s i).length),(42,aF s.ab),(43,d9 s.ab.length),(44,d9 i)],[(2,iM p),(3,fb s),(40,bw (iQ p s i))]⟩
  |false=>none
def aje:Option lm:=match Nat.beq k 17 with
 |true=>some {ι:=Bool,S:=λq=>⟨[(1,d9 b),(3,d9 a),(4, .ptr 4 []),(8, .ptr 8 []),(9, .ptr 9 []),(14, .ptr 14 []),(16, .ptr 16 []),(69, .bool q)],[(4,iM p),(8,fb mt),(9,Wl aW),(14,aen s (max (aS s.ab (aX a)) 0)),(16,Wl (zu p s a).1)]⟩,μ:=λ_=>0,ok:=λq=>((zc p).1=0/\(1<=b/\b<=32)/\cQ p b s=true/\aQ (cL p s) a=true)/\q=fj (zu p s a).1}
 |false=>none
end
end Go.Proofs.S25
