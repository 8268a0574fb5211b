import Derived.Test.YtcfagpelpjdmaaaGreatDoorXx
namespace Go.Proofs.S25
open Go Go.AV
open Go.IntKind renaming i64 -> j6
open Go.AV.Shape (leaf)
noncomputable section
variable (p:aj) (b:Int) (s:ah) (n:Nat) (a:Int) (k:Nat) (e:Ev)
def bX:ah:={s with ag:=[]}
def du (m:Mem) (t:aF) (i:aP) (e:Ev):Mem×Int×Int:=
 if e.kind=5 then((zr m e.obj e.wrote).1,if i.op=12 then 1 else e.read,(zr m e.obj e.wrote).2)
 else if e.kind=2 then((zr m e.obj e.wrote).1,0,(zr m e.obj e.wrote).2)
 else if e.kind=1∨e.kind=8 then(m,e.read,0)
 else if e.kind=11 then(if e.read=0 then(m,0,0)else((bm m e.obj t.id (-1) t.id).1,1,(bm m e.obj t.id (-1) t.id).2))
 else if e.kind=9 then((bm m e.obj t.id (-1) t.id).1,0,(bm m e.obj t.id (-1) t.id).2)
 else if e.kind=10 then((bm m e.obj t.id t.id (-1)).1,0,(bm m e.obj t.id t.id (-1)).2)
 else if e.kind=12 then(if(bm m e.mutex t.id t.id (-1)).2=0 then((b9 (bm m e.mutex t.id t.id (-1)).1 e.obj t.id).1,0,(b9 (bm m e.mutex t.id t.id (-1)).1 e.obj t.id).2)else((bm m e.mutex t.id t.id (-1)).1,0,(bm m e.mutex t.id t.id (-1)).2))
 else if e.kind=13 then((eh m t.id).1,0,(eh m t.id).2)
 else if e.kind=14 then((zi m e.obj 1).1,0,(zi m e.obj 1).2.2)
 else if e.kind=15 then((zi m e.obj (eZ m.aa)).1,0,(zi m e.obj (eZ m.aa)).2.2)
 else if e.kind=16 then(m,e.obj,0)
 else(m,0,0)
def iD (l:List aF) (id:Int):Nat:=(l.takeWhile λt=>decide (t.id<id)).length
def iu (l:List aF) (c:aF) (n:Nat):List aF:=l.take n++(c::l.drop n)
def fk (id fn arg:Int):ah×Int:=
 if 0<=aV s.af id then(aE,30)else if(bf p b id fn arg).2≠0 then(aE,30)else({s with af:=iu s.af (bf p b id fn arg).1 (iD s.af id)},0)
def cA:ah×Ev×Int:=
 if aX p b≠0 then(aE,aH,aX p b)else if c9 p b s=false then(aE,aH,1)
 else if(bn p s a).2.2=false∨z20 s (bn p s a).1 (bn p s a).2.1=false then(aE,aH,19)
 else
  let t:=(bn p s a).1
  let i:=(bn p s a).2.1
  let e:=aT s t i
  let f:=du s.mem t i e
  if f.2.2≠0 then(aE,aH,30)else
  let o:ah×Int:=if e.kind=16 then fk p b {s with mem:=f.1} e.obj i.obj (bz t i.b)else({s with mem:=f.1},0)
  if o.2≠0 then(aE,aH,o.2)else
  if(cy p b t f.2.1).2≠0 then(aE,aH,(cy p b t f.2.1).2)else
  ({o.1 with af:=o.1.af.set (aV o.1.af a).toNat (cy p b t f.2.1).1},e,0)
def gQ (v:Int):Int×Int:=
 if(gC (s.ag.getD k aD) v).2.2 then((gC (s.ag.getD k aD) v).1,(gC (s.ag.getD k aD) v).2.1)else((gT s.mem v).1,-1)
def c8:Ev×Bool:=
 let t:=s.af.getD k au
 let b:=s.ag.getD k aD
 let i:=zg p t
 if cH p t=false then(aH,false)
 else if i.op=8∨i.op=14 then(⟨t.id,t.steps,if i.op=14 then 8 else 1,i.obj,-1,(gQ s k i.obj).2,i.ord,(gQ s k i.obj).1,0⟩,true)
 else if i.op=9 then(⟨t.id,t.steps,3,i.obj,-1,b.first+b.entries.length,i.ord,0,bz t i.b⟩,true)
 else bA p (bX s) t.id
def cD:Ev×Bool:=
 let t:=s.af.getD k au
 let b:=s.ag.getD k aD
 if b.entries.length=0 then(aH,false)else(⟨dr t.id,b.first,4,(b.entries.getD 0 cw).var,-1,b.first,0,0,(b.entries.getD 0 cw).val⟩,true)
def gU (on:List Int):Bool:=
 let t:=s.af.getD k au
 let b:=s.ag.getD k aD
 let i:=zg p t
 if cH p t=false then false else if i.op=8∨i.op=9 then true
 else if i.op=14 then(app i.fn (gQ s k i.obj).1 (bz t i.b)).2==0&&(app i.fn (gQ s k i.obj).1 (bz t i.b)).1 !=0
 else if(pU i.op&&decide (0<b.entries.length)) || !aW on t.id then false
 else if i.op=22 then decide (0<=dz s.ag (bz t i.b))&&(s.ag.getD (dz s.ag (bz t i.b)).toNat aD).entries.length==0
 else true
def dY (l:List cg) (n:Nat):List Int:=(((l.drop n).filter λb=>decide (0<b.entries.length)).map λb=>dr b.aC).reverse
def lu:List Int:=((List.range n).filter λk=>gU p s k (cY p (bX s))).map λk=>(s.af.getD k au).id
def dq:List Int:=dY s.ag 0++lu p s s.af.length
def wS (t:aF) (b:cg):Bool:=c6 b&&(b.aC==t.id&&b.entries.all λe=>decide (e.var<p.vars.length))
def dy:Bool:=fc p s.mem&&(s.ag.length==s.af.length&&(uq p b s.af&&(List.range s.af.length).all λj=>wS p (s.af.getD j au) (s.ag.getD j aD)))
def dk:List Int:=if dy p 32 s then dq p s else []
def zu:Ev×Bool:=
 if aV s.af (b7 a)<0 then(aH,false)else if a<0 then cD s (aV s.af (b7 a)).toNat else c8 p s (aV s.af (b7 a)).toNat
def zf:Ev×Bool:=if dy p 32 s=false then(aH,false)else zu p s a
def dO:ah×Int:=
 let t:=s.af.getD k au
 let u:=s.ag.getD k aD
 if e.kind=4 then
  if(bR u).2.2.2≠0 then(aE,30)else if(zr s.mem e.obj e.wrote).2≠0 then(aE,30)
  else({s with ag:=s.ag.set k (bR u).1,mem:=(zr s.mem e.obj e.wrote).1},0)
 else if e.kind=3 then
  if(cG u e.obj e.wrote).2.2≠0 then(aE,30)else if(cy p b t e.read).2≠0 then(aE,30)
  else({s with ag:=s.ag.set k (cG u e.obj e.wrote).1,af:=s.af.set k (cy p b t e.read).1},0)
 else if(cy p b t e.read).2≠0 then(aE,30)else({s with af:=s.af.set k (cy p b t e.read).1},0)
def eD:ah×Ev×Int:=
 if(cA p b (bX s) a).2.2≠0 then(aE,aH,(cA p b (bX s) a).2.2)else(uj (cA p b (bX s) a).1 s.ag,(cA p b (bX s) a).2.1,0)
def gX:Bool:=e.kind==1 || (e.kind==8 || (e.kind==3 || e.kind==4))
def zt:ah×Ev×Int:=
 if(zc p).1≠0 then(aE,aH,(zc p).1)else if b<1∨32<b then(aE,aH,2)else if dy p b s=false then(aE,aH,1)
 else if aW (dq p s) a=false then(aE,aH,19)
 else if gX (zu p s a).1 then
  (if(dO p b s (aV s.af (b7 a)).toNat (zu p s a).1).2≠0 then(aE,aH,(dO p b s (aV s.af (b7 a)).toNat (zu p s a).1).2)else((dO p b s (aV s.af (b7 a)).toNat (zu p s a).1).1,(zu p s a).1,0))
 else eD p b s a
def l8:Shape:= .agg [aM, .leaf]
def adp (k:Int):AV:= .agg [ze s,co k]
def pS (k:Int):AV:= .mc l8 (adp s k)
def oTo:FuncId ->List AV ->Option AV
 |172,[_]=>some (fY s)
 |183,[_]=>some (.ax [vT (s.af.getD k au),vB (s.ag.getD k aD)])
 |238,[_, .int _ v]=>some (.ax [co (gQ s k v).1,co (gQ s k v).2])
 |104,[_,_]=>some (.ax [vI (zg p (s.af.getD k au)), .bool (cH p (s.af.getD k au))])
 |62,[_,_, .int _ a]=>some (.ax [dg (bA p (bX s) a).1, .bool (bA p (bX s) a).2])
 |58,[_,_]=>some (ab (cY p (bX s)))
 |170,[_, .int _ b, .mc _ t]=>some (.bool (gV p b (dT t)))
 |169,[_,_]=>some (.bool (fc p s.mem))
 |168,[_]=>some (.bool ((zc p).1==0))
 |54,[_]=>some (.ax [co (zc p).1,co (zc p).2.1,co (zc p).2.2])
 |268,[_, .int _ x]=>some (.ax [co (gC (s.ag.getD k aD) x).1,co (gC (s.ag.getD k aD) x).2.1, .bool (gC (s.ag.getD k aD) x).2.2])
 |175,[_, .int _ x]=>some (.ax [co (gT s.mem x).1,co (gT s.mem x).2])
 |185,[_, .int _ x, .int _ v]=>some (.ax [vM (zr s.mem x v).1,co (zr s.mem x v).2])
 |184,[_]=>some (.ax [vB (bR (s.ag.getD k aD)).1,vEn (bR (s.ag.getD k aD)).2.1,co (bR (s.ag.getD k aD)).2.2.1,co (bR (s.ag.getD k aD)).2.2.2])
 |186,[_, .int _ x, .int _ v]=>some (.ax [vB (cG (s.ag.getD k aD) x v).1,co (cG (s.ag.getD k aD) x v).2.1,co (cG (s.ag.getD k aD) x v).2.2])
 |118,[_, .int _ b,_, .int _ r]=>some (.ax [vT (cy p b (s.af.getD k au) r).1,co (cy p b (s.af.getD k au) r).2])
 |188,[_, .int _ t]=>some (.ax [co (max (dz s.ag t) 0), .bool (decide (0<=dz s.ag t))])
 |119,[_, .int _ t]=>some (.ax [co (max (aV s.af t) 0), .bool (decide (0<=aV s.af t))])
 |101,[_, .int _ b,_]=>some (.bool (dy p b s))
 |182,[_,_]=>some (.ax [dg (c8 p s k).1, .bool (c8 p s k).2])
 |181,[_]=>some (.ax [dg (cD s k).1, .bool (cD s k).2])
 |173,[.mc _ (.agg [_, .int _ k]),_,_]=>some (.bool (gU p s k.toNat (cY p (bX s))))
 |102,[_,_]=>some (ab (dq p s))
 |57,[_,_]=>some (ab (dk p s))
 |107,[_, .int _ a]=>some (.ax [pS s (max (aV s.af (b7 a)) 0), .bool (decide (0<=aV s.af (b7 a)))])
 |108,[_,_, .int _ a]=>some (.ax [dg (zu p s a).1, .bool (zu p s a).2])
 |61,[_,_, .int _ a]=>some (.ax [dg (zf p s a).1, .bool (zf p s a).2])
 |109,[_,_, .int _ b,_]=>some (.ax [cj (dO p b s k e).1,co (dO p b s k e).2])
 |110,[_,_, .int _ b, .int _ a]=>some (.ax [cj (eD p b s a).1,dg (eD p b s a).2.1,co (eD p b s a).2.2])
 |59,[_, .int _ b,_, .int _ a]=>some (.ax [cj (zt p b s a).1,dg (zt p b s a).2.1,co (zt p b s a).2.2])
 |114,[_]=>some (zqo s)
 |f,l=>tD f l
def aia:FuncId ->List AV ->Option (List aw)
 |114,[_]=>some (zje s)
 |f,l=>frM f l
def ado (s:ah) (n:Nat):bt:={dc n λ_ _=>false with fresh:=aia s}
theorem z33:cf (ado s n):=mC (am)
def qW (p:aj) (s:ah) (k:Nat) (e:Ev) (n:Nat) (inv:Nat ->Option Inv):bj:={C:=ado s n,CC:=aL Tryz.prog GG,bb:=λ_ _=>oTo p s k e,inv:=inv}
abbrev agl (k:Int):aw:= .cell 155 l8 (adp s k)
def uQ:Prop:=k<s.af.length/\k<s.ag.length
def ahv:Option Inv:=match Nat.beq k 4 with
 |true=>iw s.af.length (λi=>⟨[(1,co b),(3, .ptr 3 []),(5, .ptr 5 []),(32,aK s.af),(33,co s.af.length),(34,co i)],[(3,jO p),(5,fJ s)]⟩) λi=>fc p s.mem=true/\s.ag.length=s.af.length/\∀ j,j<i ->lD p b s.af j/\wS p (s.af.getD j au) (s.ag.getD j aD)=true
 |false=>none
def zxj:Option qS:=match Nat.beq k 10 with
 |true=>some {π:=Nat,I:=λk=>{ι:=Nat,S:=λi=>⟨[(1,co b),(3, .ptr 3 []),(5, .ptr 5 []),(32,aK s.af),(33,co s.af.length),(34,co k),(78,ck (s.ag.getD k aD).entries),(79,co (s.ag.getD k aD).entries.length),(80,co i)],[(3,jO p),(5,fJ s)]⟩,μ:=λi=>(s.ag.getD k aD).entries.length - i,ok:=λi=>i<=(s.ag.getD k aD).entries.length/\k<s.af.length/\fc p s.mem=true/\s.ag.length=s.af.length/\(∀ j,j<k ->lD p b s.af j/\wS p (s.af.getD j au) (s.ag.getD j aD)=true)/\lD p b s.af k/\c6 (s.ag.getD k aD)=true/\(s.ag.getD k aD).aC=(s.af.getD k au).id/\∀ j,j<i ->((s.ag.getD k aD).entries.getD j cw).var<p.vars.length}}
 |false=>none
def jX (i:Nat):List Int:=dY s.ag 0++lu p s i
def ahc:Option Inv:=match Nat.beq k 4 with
 |true=>some {ι:=Nat,S:=λi=>⟨[(2, .ptr 2 []),(3, .ptr 3 []),(5,ab (cY p (bX s))),(6, .own 40 (dY s.ag i).length),(7,co ((i:Int) - 1))],[(2,jO p),(3,fJ s),(40,bI (dY s.ag i))]⟩,μ:=λi=>i,ok:=λi=>i<=s.ag.length}
 |false=>match Nat.beq k 9 with
  |true=>iv s.af.length λi=>⟨[(2, .ptr 2 []),(3, .ptr 3 []),(5,ab (cY p (bX s))),(6, .own 40 (jX p s i).length),(42,aK s.af),(43,co s.af.length),(44,co i)],[(2,jO p),(3,fJ s),(40,bI (jX p s i))]⟩
  |false=>none
def aik:Option Inv:=match Nat.beq k 17 with
 |true=>some {ι:=Bool,S:=λq=>⟨[(1,co b),(3,co a),(4, .ptr 4 []),(8, .ptr 8 []),(9, .ptr 9 []),(14, .ptr 14 []),(16, .ptr 16 []),(69, .bool q)],[(4,jO p),(8,fJ aE),(9,GH aH),(14,agl s (max (aV s.af (b7 a)) 0)),(16,GH (zu p s a).1)]⟩,μ:=λ_=>0,ok:=λq=>((zc p).1=0/\(1<=b/\b<=32)/\dy p b s=true/\aW (dq p s) a=true)/\q=gX (zu p s a).1}
 |false=>none
end
end Go.Proofs.S25
