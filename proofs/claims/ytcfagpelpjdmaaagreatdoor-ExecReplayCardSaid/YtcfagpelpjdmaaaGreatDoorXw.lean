import Derived.Test.YtcfagpelpjdmaaaGreatDoorXv
namespace Go.Proofs.S25
open Go Go.AV
open Go.IntKind renaming i64 -> j6
open Go.AV.Shape (leaf)
noncomputable section
def scS (s:SState):SState:={s with bufs:=[]}
def effM (m:Mem) (t:Thr) (i:Inst) (e:Ev):Mem×Int×Int:=
 if e.kind=5 then((zr m e.obj e.wrote).1,if i.op=12 then 1 else e.read,(zr m e.obj e.wrote).2)
 else if e.kind=2 then((zr m e.obj e.wrote).1,0,(zr m e.obj e.wrote).2)
 else if e.kind=1∨e.kind=8 then(m,e.read,0)
 else if e.kind=11 then(if e.read=0 then(m,0,0)else((ownM m e.obj t.id (-1) t.id).1,1,(ownM m e.obj t.id (-1) t.id).2))
 else if e.kind=9 then((ownM m e.obj t.id (-1) t.id).1,0,(ownM m e.obj t.id (-1) t.id).2)
 else if e.kind=10 then((ownM m e.obj t.id t.id (-1)).1,0,(ownM m e.obj t.id t.id (-1)).2)
 else if e.kind=12 then(if(ownM m e.mutex t.id t.id (-1)).2=0 then((enqM (ownM m e.mutex t.id t.id (-1)).1 e.obj t.id).1,0,(enqM (ownM m e.mutex t.id t.id (-1)).1 e.obj t.id).2)else((ownM m e.mutex t.id t.id (-1)).1,0,(ownM m e.mutex t.id t.id (-1)).2))
 else if e.kind=13 then((z1s m t.id).1,0,(z1s m t.id).2)
 else if e.kind=14 then((zi m e.obj 1).1,0,(zi m e.obj 1).2.2)
 else if e.kind=15 then((zi m e.obj (z1z m.queues)).1,0,(zi m e.obj (z1z m.queues)).2.2)
 else if e.kind=16 then(m,e.obj,0)
 else(m,0,0)
def posT (l:List Thr) (id:Int):Nat:=(l.takeWhile fun t=>decide (t.id<id)).length
def insT (l:List Thr) (c:Thr) (n:Nat):List Thr:=l.take n++(c::l.drop n)
def z1h (p:PProg) (b:Int) (s:SState) (id fn arg:Int):SState×Int:=
 if 0<=fid s.thr id then(c0st,30)else if(newT p b id fn arg).2≠0 then(c0st,30)else({s with thr:=insT s.thr (newT p b id fn arg).1 (posT s.thr id)},0)
def z1i (p:PProg) (b:Int) (s:SState) (a:Int):SState×Ev×Int:=
 if stdE p b≠0 then(c0st,c0ev,stdE p b)else if valS p b s=false then(c0st,c0ev,1)
 else if(runS p s a).2.2=false∨z20 s (runS p s a).1 (runS p s a).2.1=false then(c0st,c0ev,19)
 else
  let t:=(runS p s a).1
  let i:=(runS p s a).2.1
  let e:=labE s t i
  let f:=effM s.mem t i e
  if f.2.2≠0 then(c0st,c0ev,30)else
  let o:SState×Int:=if e.kind=16 then z1h p b {s with mem:=f.1} e.obj i.obj (regD t i.b)else({s with mem:=f.1},0)
  if o.2≠0 then(c0st,c0ev,o.2)else
  if(z15 p b t f.2.1).2≠0 then(c0st,c0ev,(z15 p b t f.2.1).2)else
  ({o.1 with thr:=o.1.thr.set (fid o.1.thr a).toNat (z15 p b t f.2.1).1},e,0)
def z2p (s:SState) (k:Nat) (v:Int):Int×Int:=
 if(z2g (s.bufs.getD k c0b) v).2.2 then((z2g (s.bufs.getD k c0b) v).1,(z2g (s.bufs.getD k c0b) v).2.1)else((z2y s.mem v).1,-1)
def tLab (p:PProg) (s:SState) (k:Nat):Ev×Bool:=
 let t:=s.thr.getD k c0t
 let b:=s.bufs.getD k c0b
 let i:=zg p t
 if z1b p t=false then(c0ev,false)
 else if i.op=8∨i.op=14 then(⟨t.id,t.steps,if i.op=14 then 8 else 1,i.obj,-1,(z2p s k i.obj).2,i.ord,(z2p s k i.obj).1,0⟩,true)
 else if i.op=9 then(⟨t.id,t.steps,3,i.obj,-1,b.first+b.entries.length,i.ord,0,regD t i.b⟩,true)
 else labS p (scS s) t.id
def tFlu (s:SState) (k:Nat):Ev×Bool:=
 let t:=s.thr.getD k c0t
 let b:=s.bufs.getD k c0b
 if b.entries.length=0 then(c0ev,false)else(⟨fluE t.id,b.first,4,(b.entries.getD 0 c0e).var,-1,b.first,0,0,(b.entries.getD 0 c0e).val⟩,true)
def tOn (p:PProg) (s:SState) (k:Nat) (on:List Int):Bool:=
 let t:=s.thr.getD k c0t
 let b:=s.bufs.getD k c0b
 let i:=zg p t
 if z1b p t=false then false else if i.op=8∨i.op=9 then true
 else if i.op=14 then(app i.fn (z2p s k i.obj).1 (regD t i.b)).2==0&&(app i.fn (z2p s k i.obj).1 (regD t i.b)).1 !=0
 else if(z43 i.op&&decide (0<b.entries.length)) || !hasI on t.id then false
 else if i.op=22 then decide (0<=fib s.bufs (regD t i.b))&&(s.bufs.getD (fib s.bufs (regD t i.b)).toNat c0b).entries.length==0
 else true
def fluR (l:List Buf) (n:Nat):List Int:=(((l.drop n).filter fun b=>decide (0<b.entries.length)).map fun b=>fluE b.thread).reverse
def onTR (p:PProg) (s:SState) (n:Nat):List Int:=((List.range n).filter fun k=>tOn p s k (onS p (scS s))).map fun k=>(s.thr.getD k c0t).id
def agsT (p:PProg) (s:SState):List Int:=fluR s.bufs 0++onTR p s s.thr.length
def zfu (p:PProg) (t:Thr) (b:Buf):Bool:=vldB b&&(b.thread==t.id&&b.entries.all fun e=>decide (e.var<p.vars.length))
def z1l (p:PProg) (b:Int) (s:SState):Bool:=z1f p s.mem&&(s.bufs.length==s.thr.length&&(zd3 p b s.thr&&(List.range s.thr.length).all fun j=>zfu p (s.thr.getD j c0t) (s.bufs.getD j c0b)))
def enTs (p:PProg) (s:SState):List Int:=if z1l p 32 s then agsT p s else []
def zu (p:PProg) (s:SState) (a:Int):Ev×Bool:=
 if fid s.thr (thrE a)<0 then(c0ev,false)else if a<0 then tFlu s (fid s.thr (thrE a)).toNat else tLab p s (fid s.thr (thrE a)).toNat
def zf (p:PProg) (s:SState) (a:Int):Ev×Bool:=if z1l p 32 s=false then(c0ev,false)else zu p s a
def z1t (p:PProg) (b:Int) (s:SState) (k:Nat) (e:Ev):SState×Int:=
 let t:=s.thr.getD k c0t
 let u:=s.bufs.getD k c0b
 if e.kind=4 then
  if(popB u).2.2.2≠0 then(c0st,30)else if(zr s.mem e.obj e.wrote).2≠0 then(c0st,30)
  else({s with bufs:=s.bufs.set k (popB u).1,mem:=(zr s.mem e.obj e.wrote).1},0)
 else if e.kind=3 then
  if(z19 u e.obj e.wrote).2.2≠0 then(c0st,30)else if(z15 p b t e.read).2≠0 then(c0st,30)
  else({s with bufs:=s.bufs.set k (z19 u e.obj e.wrote).1,thr:=s.thr.set k (z15 p b t e.read).1},0)
 else if(z15 p b t e.read).2≠0 then(c0st,30)else({s with thr:=s.thr.set k (z15 p b t e.read).1},0)
def z1v (p:PProg) (b:Int) (s:SState) (a:Int):SState×Ev×Int:=
 if(z1i p b (scS s) a).2.2≠0 then(c0st,c0ev,(z1i p b (scS s) a).2.2)else(zd4 (z1i p b (scS s) a).1 s.bufs,(z1i p b (scS s) a).2.1,0)
def ownK (e:Ev):Bool:=e.kind==1 || (e.kind==8 || (e.kind==3 || e.kind==4))
def zt (p:PProg) (b:Int) (s:SState) (a:Int):SState×Ev×Int:=
 if(zc p).1≠0 then(c0st,c0ev,(zc p).1)else if b<1∨32<b then(c0st,c0ev,2)else if z1l p b s=false then(c0st,c0ev,1)
 else if hasI (agsT p s) a=false then(c0st,c0ev,19)
 else if ownK (zu p s a).1 then
  (if(z1t p b s (fid s.thr (thrE a)).toNat (zu p s a).1).2≠0 then(c0st,c0ev,(z1t p b s (fid s.thr (thrE a)).toNat (zu p s a).1).2)else((z1t p b s (fid s.thr (thrE a)).toNat (zu p s a).1).1,(zu p s a).1,0))
 else z1v p b s a
def plSh:Shape:= .agg [stSh, .leaf]
def z19b (s:SState) (k:Int):AV:= .agg [ze s, .int .i64 k]
def vTP (s:SState) (k:Int):AV:= .mc plSh (z19b s k)
def oTo (p:PProg) (s:SState) (k:Nat) (e:Ev):FuncId ->List AV ->Option AV
 |172,[_]=>some (vStn s)
 |183,[_]=>some (.tup [vT (s.thr.getD k c0t),vB (s.bufs.getD k c0b)])
 |238,[_, .int _ v]=>some (.tup [.int .i64 (z2p s k v).1, .int .i64 (z2p s k v).2])
 |104,[_,_]=>some (.tup [vI (zg p (s.thr.getD k c0t)), .bool (z1b p (s.thr.getD k c0t))])
 |62,[_,_, .int _ a]=>some (.tup [vEv (labS p (scS s) a).1, .bool (labS p (scS s) a).2])
 |58,[_,_]=>some (rowI (onS p (scS s)))
 |170,[_, .int _ b, .mc _ t]=>some (.bool (z2x p b (dT t)))
 |169,[_,_]=>some (.bool (z1f p s.mem))
 |168,[_]=>some (.bool ((zc p).1==0))
 |54,[_]=>some (.tup [.int .i64 (zc p).1, .int .i64 (zc p).2.1, .int .i64 (zc p).2.2])
 |268,[_, .int _ x]=>some (.tup [.int .i64 (z2g (s.bufs.getD k c0b) x).1, .int .i64 (z2g (s.bufs.getD k c0b) x).2.1, .bool (z2g (s.bufs.getD k c0b) x).2.2])
 |175,[_, .int _ x]=>some (.tup [.int .i64 (z2y s.mem x).1, .int .i64 (z2y s.mem x).2])
 |185,[_, .int _ x, .int _ v]=>some (.tup [vM (zr s.mem x v).1, .int .i64 (zr s.mem x v).2])
 |184,[_]=>some (.tup [vB (popB (s.bufs.getD k c0b)).1,vEn (popB (s.bufs.getD k c0b)).2.1, .int .i64 (popB (s.bufs.getD k c0b)).2.2.1, .int .i64 (popB (s.bufs.getD k c0b)).2.2.2])
 |186,[_, .int _ x, .int _ v]=>some (.tup [vB (z19 (s.bufs.getD k c0b) x v).1, .int .i64 (z19 (s.bufs.getD k c0b) x v).2.1, .int .i64 (z19 (s.bufs.getD k c0b) x v).2.2])
 |118,[_, .int _ b,_, .int _ r]=>some (.tup [vT (z15 p b (s.thr.getD k c0t) r).1, .int .i64 (z15 p b (s.thr.getD k c0t) r).2])
 |188,[_, .int _ t]=>some (.tup [.int .i64 (max (fib s.bufs t) 0), .bool (decide (0<=fib s.bufs t))])
 |119,[_, .int _ t]=>some (.tup [.int .i64 (max (fid s.thr t) 0), .bool (decide (0<=fid s.thr t))])
 |101,[_, .int _ b,_]=>some (.bool (z1l p b s))
 |182,[_,_]=>some (.tup [vEv (tLab p s k).1, .bool (tLab p s k).2])
 |181,[_]=>some (.tup [vEv (tFlu s k).1, .bool (tFlu s k).2])
 |173,[.mc _ (.agg [_, .int _ k]),_,_]=>some (.bool (tOn p s k.toNat (onS p (scS s))))
 |102,[_,_]=>some (rowI (agsT p s))
 |57,[_,_]=>some (rowI (enTs p s))
 |107,[_, .int _ a]=>some (.tup [vTP s (max (fid s.thr (thrE a)) 0), .bool (decide (0<=fid s.thr (thrE a)))])
 |108,[_,_, .int _ a]=>some (.tup [vEv (zu p s a).1, .bool (zu p s a).2])
 |61,[_,_, .int _ a]=>some (.tup [vEv (zf p s a).1, .bool (zf p s a).2])
 |109,[_,_, .int _ b,_]=>some (.tup [vSt (z1t p b s k e).1, .int .i64 (z1t p b s k e).2])
 |110,[_,_, .int _ b, .int _ a]=>some (.tup [vSt (z1v p b s a).1,vEv (z1v p b s a).2.1, .int .i64 (z1v p b s a).2.2])
 |59,[_, .int _ b,_, .int _ a]=>some (.tup [vSt (zt p b s a).1,vEv (zt p b s a).2.1, .int .i64 (zt p b s a).2.2])
 |114,[_]=>some (zqo s)
 |f,l=>spB4 f l
def frTo (s:SState):FuncId ->List AV ->Option (List BoxC)
 |114,[_]=>some (zje s)
 |f,l=>frM f l
noncomputable def z19c (s:SState) (n:Nat):Cfg:={cfgM n fun _ _=>false with fresh:=frTo s}
theorem z33 (s:SState) (n:Nat):z1d (z19c s n):=z3g (by kernel_rfl)
noncomputable def vTo (p:PProg) (s:SState) (k:Nat) (e:Ev) (n:Nat) (inv:Nat ->Option Inv):VCtx:={C:=z19c s n,CC:=Known Tryz.prog GG,orc:=fun _ _=>oTo p s k e,inv:=inv}
abbrev z19d (s:SState) (k:Int):BoxC:= .cell 155 plSh (z19b s k)
def InS (s:SState) (k:Nat):Prop:=k<s.thr.length/\k<s.bufs.length
def z19f (p:PProg) (b:Int) (s:SState) (k:Nat):Option Inv:=match Nat.beq k 4 with
 |true=>iw s.thr.length (fun i=>⟨[(1, .int .i64 b),(3, .ptr 3 []),(5, .ptr 5 []),(32,rowT s.thr),(33, .int .i64 s.thr.length),(34, .int .i64 i)],[(3,z4f p),(5,z2z s)]⟩) fun i=>z1f p s.mem=true/\s.bufs.length=s.thr.length/\∀ j,j<i ->z5e p b s.thr j/\zfu p (s.thr.getD j c0t) (s.bufs.getD j c0b)=true
 |false=>none
def zxj (p:PProg) (b:Int) (s:SState) (k:Nat):Option InvP:=match Nat.beq k 10 with
 |true=>some {π:=Nat,I:=fun k=>{ι:=Nat,S:=fun i=>⟨[(1, .int .i64 b),(3, .ptr 3 []),(5, .ptr 5 []),(32,rowT s.thr),(33, .int .i64 s.thr.length),(34, .int .i64 k),(78,rowE (s.bufs.getD k c0b).entries),(79, .int .i64 (s.bufs.getD k c0b).entries.length),(80, .int .i64 i)],[(3,z4f p),(5,z2z s)]⟩,μ:=fun i=>(s.bufs.getD k c0b).entries.length - i,ok:=fun i=>i<=(s.bufs.getD k c0b).entries.length/\k<s.thr.length/\z1f p s.mem=true/\s.bufs.length=s.thr.length/\(∀ j,j<k ->z5e p b s.thr j/\zfu p (s.thr.getD j c0t) (s.bufs.getD j c0b)=true)/\z5e p b s.thr k/\vldB (s.bufs.getD k c0b)=true/\(s.bufs.getD k c0b).thread=(s.thr.getD k c0t).id/\∀ j,j<i ->((s.bufs.getD k c0b).entries.getD j c0e).var<p.vars.length}}
 |false=>none
def agL (p:PProg) (s:SState) (i:Nat):List Int:=fluR s.bufs 0++onTR p s i
def z19j (p:PProg) (s:SState) (k:Nat):Option Inv:=match Nat.beq k 4 with
 |true=>some {ι:=Nat,S:=fun i=>⟨[(2, .ptr 2 []),(3, .ptr 3 []),(5,rowI (onS p (scS s))),(6, .own 40 (fluR s.bufs i).length),(7, .int .i64 ((i:Int) - 1))],[(2,z4f p),(3,z2z s),(40,iBox (fluR s.bufs i))]⟩,μ:=fun i=>i,ok:=fun i=>i<=s.bufs.length}
 |false=>match Nat.beq k 9 with
  |true=>iv s.thr.length fun i=>⟨[(2, .ptr 2 []),(3, .ptr 3 []),(5,rowI (onS p (scS s))),(6, .own 40 (agL p s i).length),(42,rowT s.thr),(43, .int .i64 s.thr.length),(44, .int .i64 i)],[(2,z4f p),(3,z2z s),(40,iBox (agL p s i))]⟩
  |false=>none
def z19m (p:PProg) (b:Int) (s:SState) (a:Int) (k:Nat):Option Inv:=match Nat.beq k 17 with
 |true=>some {ι:=Bool,S:=fun q=>⟨[(1, .int .i64 b),(3, .int .i64 a),(4, .ptr 4 []),(8, .ptr 8 []),(9, .ptr 9 []),(14, .ptr 14 []),(16, .ptr 16 []),(69, .bool q)],[(4,z4f p),(8,z2z c0st),(9,zn1 c0ev),(14,z19d s (max (fid s.thr (thrE a)) 0)),(16,zn1 (zu p s a).1)]⟩,μ:=fun _=>0,ok:=fun q=>((zc p).1=0/\(1<=b/\b<=32)/\z1l p b s=true/\hasI (agsT p s) a=true)/\q=ownK (zu p s a).1}
 |false=>none
end
end Go.Proofs.S25
