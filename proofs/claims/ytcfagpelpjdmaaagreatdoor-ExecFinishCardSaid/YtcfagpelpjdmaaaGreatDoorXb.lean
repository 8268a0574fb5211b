import Derived.Test.YtcfagpelpjdmaaaGreatDoorXa
import Derived.Maps.AppendAt
import Derived.Deep.Draws
import Derived.Laws.OwnMore
namespace Go.AV
open Go.RowKit
def get {α:Type}:List (Nat×α) ->Nat ->Option α
 | [],_=>none
 | (k,v)::l,s=>match Nat.beq k s with
  |true=>some v
  |false=>get l s
def del {α:Type}:List (Nat×α) ->Nat ->List (Nat×α)
 | [],_=>[]
 | (k,v)::l,s=>match Nat.beq k s with
  |true=>del l s
  |false=>(k,v)::del l s
def put {α:Type} (l:List (Nat×α)) (s:Nat) (v:α):List (Nat×α):=(s,v)::del l s
inductive BoxC where
 |cell (ty:TypeId) (sh:Shape) (x:AV)
 |row (ty:TypeId) (sh:Shape) (n:Nat) (f:Nat ->AV)
structure St where
 env:List (Nat×AV)
 heap:List (Nat×BoxC)
inductive TyK where
 |int (k:IntKind)
 |bool
 |string
 |slice (e:TypeId)
 |arr (n:Nat) (e:TypeId)
 |struct (fs:List TypeId)
 |other
structure TyE where
 sh:Shape
 zero:AV
 bytes:Nat
 kind:TyK
 eqs:Bool
structure Cfg where
 P:Program
 T:List (Nat×TyE)
 G:List (Nat×AV)
 wraps:Bool
 ntmps:Nat
 fresh:FuncId ->List AV ->Option (List BoxC):=fun _ _=>none
 CCF:FuncId ->List AV ->AV ->List BoxC ->Prop:=fun _ _ _ _=>False
 mkr:FuncId ->List AV ->Option (AV×BoxC):=fun _ _=>none
 isMk:FuncId ->Nat ->Bool:=fun _ _=>false
 layB:Nat ->Bool:=fun _=>false
 capB:Nat ->Bool:=fun _=>false
inductive Eff where
 |none
 |new (c:BoxC)
 |upd (b:Nat) (c:BoxC)
 |grow (b:Nat) (c:BoxC)
structure Res where
 val:AV
 eff:Eff
 obs:List Prop
def zhy:Value ->Option AV
 | .int k n=>match decide (k.wrap n=n)with |true=>some (.int k n) |false=>none
 | .bool b=>some (.bool b)
 | .string s=>some (.str s.data.toList)
 | .slice none 0 0=>some .nils
 | .pointer none=>some .nilp
 | .nilFunc | .nilIface | .map none=>some .any
 |_=>none
def ev (C:Cfg) (st:St):Operand ->Option AV
 | .tmp t=>get st.env t
 | .const v=>zhy v
 | .global g=>get C.G g
 | .func f=>some (.clo f [])
def strip1:AV ->AV
 | .when _ x=>x
 |x=>x
def zad:AV ->List Prop
 | .when q' _=>[q'=true]
 |_=>[]
def zay (sh:Shape) (x:AV):Option AV:=
 match sh with
 | .leaf=>match x.isOne with |true=>some x |false=>none
 |_=>some (.mc sh x)
def unwV (sh:Shape) (x:AV):Option AV:=
 match sh,x with
 | .leaf,x=>match x.isOne with |true=>some x |false=>none
 |sh, .mc sh' y=>match sh.same sh' with |true=>some y |false=>none
 |_,_=>none
def zej:Operand ->Bool
 | .const (.bool false)=>true
 |_=>false
def zjx:Operand ->Bool
 | .const (.bool true)=>true
 |_=>false
def zn6 (p:Bool) (xf yf:Bool):AV ->AV ->Option AV
 | .bool a, .bool b=>match yf,xf with
  |true,_=>some (.bool (p&&a))
  |_,true=>some (.bool (p || b))
  |_,_=>some (.bool (bif p then a else b))
 | .int k a, .int k' b=>match decide (k=k')with |true=>some (.int k (bif p then a else b)) |false=>none
 |_,_=>none
def z9w (C:Cfg) (k:IntKind) (n:Int):Res:=
 match C.wraps with
 |true=>⟨.int k (k.wrap n), .none,[]⟩
 |false=>⟨.int k n, .none,[InR k n]⟩
def eqAV (k:TyK) (x y:AV):Option Bool:=
 match k,x,y with
 | .int _, .int k a, .int k' b=>match decide (k=k')with |true=>some (a==b) |false=>none
 | .bool, .bool a, .bool b=>some (a==b)
 | .string, .str a, .str b=>some (a==b)
 |_,_,_=>none
def tyOf (C:Cfg) (t:TypeId):Option TyE:=get C.T t
def zg5 (C:Cfg):List TypeId ->List AV ->List AV ->Option Bool
 | [],[],[]=>some true
 |t::ts,x::l,y::m=>match tyOf C t with
  |some te=>match eqAV te.kind x y,zg5 C ts l m with
   |some a,some b=>some (a&&b)
   |_,_=>none
  |none=>none
 |_,_,_=>none
def zbl (k:TyK) (f g:Nat ->AV):List Nat ->Option Bool
 | []=>some true
 |i::l=>match eqAV k (f i) (g i),zbl k f g l with
  |some a,some b=>some (a&&b)
  |_,_=>none
def zzk (C:Cfg) (te:TyE) (n:Nat) (f g:Nat ->AV):Option Bool:=
 match te.kind with
 | .arr m e=>match Nat.beq m n,tyOf C e with
  |true,some tf=>zbl tf.kind f g (List.range n)
  |_,_=>none
 |_=>none
def fieldsOf:TyK ->List TypeId
 | .struct fs=>fs
 |_=>[]
def zbm (op:BinOp):AV ->AV ->Option Res
 | .int k a, .int _ b=>match op with
  | .shl=>some ⟨.int k (k.wrap (a*2 ^ b.toNat)), .none,[0<=b/\b<=k.bits]⟩
  | .shr=>some ⟨.int k (a/2 ^ b.toNat), .none,[0<=b/\b<=k.bits,InR k (a/2 ^ b.toNat)]⟩
  |_=>none
 |_,_=>none
def zn7 (C:Cfg) (te:TyE) (op:BinOp) (x y:AV):Option Res:=
 match x,y with
 | .int k a, .int k' b=>match decide (k=k')with
  |true=>match op with
   | .add=>some (z9w C k (a+b))
   | .sub=>some (z9w C k (a - b))
   | .mul=>some (z9w C k (a*b))
   | .quo=>some {z9w C k (a.tdiv b)with obs:=(b≠0)::(z9w C k (a.tdiv b)).obs}
   | .rem=>some ⟨.int k (a.tmod b), .none,[b≠0,InR k (a.tmod b)]⟩
   | .eql=>some ⟨.bool (a==b), .none,[]⟩
   | .neq=>some ⟨.bool (a !=b), .none,[]⟩
   | .lss=>some ⟨.bool (decide (a<b)), .none,[]⟩
   | .leq=>some ⟨.bool (decide (a<=b)), .none,[]⟩
   | .gtr=>some ⟨.bool (decide (b<a)), .none,[]⟩
   | .geq=>some ⟨.bool (decide (b<=a)), .none,[]⟩
   | .and=>some ⟨.int k (bits .and k a b), .none,[]⟩
   | .or=>some ⟨.int k (bits .or k a b), .none,[]⟩
   | .xor=>some ⟨.int k (bits .xor k a b), .none,[]⟩
   |_=>none
  |false=>none
 | .bool a, .bool b=>match te.kind with
  | .bool=>match op with
   | .eql=>some ⟨.bool (a==b), .none,[]⟩
   | .neq=>some ⟨.bool (!(a==b)), .none,[]⟩
   |_=>none
  |_=>none
 | .str a, .str b=>match op with
  | .eql=>some ⟨.bool (a==b), .none,[]⟩
  | .neq=>some ⟨.bool (!(a==b)), .none,[]⟩
  | .add=>some ⟨.str (a++b), .none,[((a.length+b.length:Nat):Int)<=9223372036854775807]⟩
  |_=>none
 | .mc (.agg ss) (.agg xs), .mc (.agg ts) (.agg ys)=>match te.eqs&&((Shape.agg ss).same te.sh&&(Shape.agg ts).same te.sh),zg5 C (fieldsOf te.kind) xs ys with
  |true,some b=>match op with
   | .eql=>some ⟨.bool b, .none,[]⟩
   | .neq=>some ⟨.bool (!b), .none,[]⟩
   |_=>none
  |_,_=>none
 | .mc (.arr n s) (.arr _ f), .mc (.arr m s') (.arr _ g)=>match te.eqs&&((Shape.arr n s).same te.sh&&(Shape.arr m s').same te.sh),zzk C te n f g with
  |true,some b=>match op with
   | .eql=>some ⟨.bool b, .none,[]⟩
   | .neq=>some ⟨.bool (!b), .none,[]⟩
   |_=>none
  |_,_=>none
 |_,_=>none
def zn8:IntKind ->IntKind ->Bool
 | .u8, .u8 | .u8, .i64 | .u8, .u64 | .u8, .i32 | .u8, .u32 | .i64, .i64 | .u64, .u64 | .i32, .i32 | .i32, .i64 | .u32, .u32 | .u32, .i64 | .u32, .u64=>true
 |_,_=>false
def zbn (ss:List Shape) (zs:List AV):List (Nat×AV) ->Option (List AV)
 | []=>some zs
 | (i,v)::l=>match ss[i]? with
  |some s=>match unwV s v with
   |some y=>zbn ss (zs.set i y) l
   |none=>none
  |none=>none
def z4i (s:Shape) (len:Nat) (zs:List AV):List (Nat×AV) ->Option (List AV)
 | []=>some zs
 | (i,v)::l=>match unwV s v with
  |some y=>match y.isStat&&Nat.blt i len with
   |true=>z4i s len (zs.set i y) l
   |false=>none
  |none=>none
def z49 (e:Operand ->Option AV):List (Nat×Operand) ->Option (List (Nat×AV))
 | []=>some []
 | (i,x)::l=>match e x,z49 e l with
  |some v,some vs=>some ((i,v)::vs)
  |_,_=>none
def z3i (e:Operand ->Option AV):List Operand ->Option (List AV)
 | []=>some []
 |x::l=>match e x,z3i e l with
  |some v,some vs=>some (v::vs)
  |_,_=>none
def z7i (b:Nat):List (Nat×AV) ->Bool
 | []=>false
 | (_,x)::l=>x.names b || z7i b l
def BoxC.isRow:BoxC ->Bool
 | .row _ _ _ _=>true
 |_=>false
def BoxC.names (b:Nat):BoxC ->Bool
 | .cell _ _ x=>x.names b
 | .row _ _ _ _=>false
def z5v (b:Nat):List (Nat×BoxC) ->Bool
 | []=>false
 | (k,c)::l=>Nat.beq k b || c.names b || z5v b l
def z1q (st:St) (b:Nat):Bool:=!(z7i b st.env || (z5v b st.heap || !Nat.blt b 1099511627776))
def z8a (b:Nat):List (Nat×AV) ->List (Nat×AV)
 | []=>[]
 | (k,x)::l=>(k,match x.names b with |true=> .when false .any |false=>x)::z8a b l
mutual
def AV.kill (b:Nat):AV ->AV
 | .own c n=>match Nat.beq c b with |true=> .any |false=> .own c n
 | .ptr c p=>match Nat.beq c b with |true=> .any |false=> .ptr c p
 | .optr c i p=>match Nat.beq c b with |true=> .any |false=> .optr c i p
 | .ownx c o n q=>match Nat.beq c b with |true=> .any |false=> .ownx c o n q
 | .clo f l=>match AV.namesL b l with |true=> .any |false=> .clo f l
 | .agg l=> .agg (AV.killL b l)
 |x=>x
def AV.killL (b:Nat):List AV ->List AV
 | []=>[]
 |x::l=>x.kill b::AV.killL b l
end
def BoxC.kill (b:Nat) (c:BoxC):BoxC:=
 match c with
 | .cell tc sh x=>match x.names b with |true=> .cell tc sh (x.kill b) |false=> .cell tc sh x
 |c=>c
def z65 (b:Nat):List (Nat×BoxC) ->List (Nat×BoxC)
 | []=>[]
 | (k,c)::l=>(k,c.kill b)::z65 b l
mutual
def frz (h:List (Nat×BoxC)):AV ->Option (AV×List Prop)
 | .own b n=>match get h b with
  |some (.row _ sh n' f)=>some (.seq sh n f,[n<=n'])
  |_=>none
 | .ptr b p=>match get h b with
  |some (.cell _ sh x)=>match z27 p sh,nav p sh x with
   |some s,some y=>match y.isStat with
    |true=>some (.rptr s y,[])
    |false=>none
   |_,_=>none
  |_=>none
 | .agg l=>match frzs h l with |some (m,ps)=>some (.agg m,ps) |none=>none
 | .clo f l=>match frzs h l with |some (m,ps)=>some (.clo f m,ps) |none=>none
 | .mc sh x=>match frz h x with |some (y,ps)=>some (.mc sh y,ps) |none=>none
 | .ownx b o n c=>match Nat.beq o 0&&c,get h b with
  |true,some (.row _ sh n' f)=>some (.seqc sh n f,[n<=n'])
  |_,_=>none
 | .optr _ _ _ | .tup _ | .when _ _=>none
 |x=>some (x,[])
def frzs (h:List (Nat×BoxC)):List AV ->Option (List AV×List Prop)
 | []=>some ([],[])
 |x::l=>match frz h x,frzs h l with
  |some (y,ps),some (m,qs)=>some (y::m,ps++qs)
  |_,_=>none
end
mutual
def AV.isScalar:AV ->Bool
 | .int _ _ | .bool _ | .str _ | .nils | .nilp=>true
 | .agg l | .tup l=>AV.areScalar l
 | .mc _ x=>x.isScalar
 | .arr _ _=>false
 |_=>false
def AV.areScalar:List AV ->Bool
 | []=>true
 |x::l=>x.isScalar&&AV.areScalar l
end
def AV.isRes:AV ->Bool
 | .tup l=>AV.areStat l
 |x=>x.isStat
def zzl:AV ->Option Nat
 | .seq _ n _ | .seqc _ n _ | .own _ n | .nseq _ _ n _ | .ownx _ _ n _=>some n
 | .nils=>some 0
 |_=>none
def zmc (st:St) (b:Nat) (p:List Nat):Option Shape:=
 match get st.heap b with
 |some (.cell _ sh _)=>z27 p sh
 |_=>none
def rowSh (st:St) (b:Nat) (p:List Nat):Option Shape:=
 match get st.heap b with
 |some (.row _ sh _ _)=>z27 p sh
 |_=>none
def inIx (i:Int) (n:Nat):Prop:=0<=i/\i<(n:Int)
def ixAV:Option AV ->Option Int
 |some (.int _ i)=>some i
 |_=>none
def z6w (e:Operand ->Option AV) (d:Int):Option Operand ->Option Int
 |none=>some d
 |some o=>ixAV (e o)
def z8b (st:St) (te:TyE) (f:Nat):AV ->Option AV
 | .ptr b p=>match zmc st b p with
  |some s=>match s.same te.sh with
   |true=>some (.ptr b (p++[f]))
   |false=>none
  |none=>none
 | .optr b i p=>match rowSh st b p with
  |some s=>match s.same te.sh with
   |true=>some (.optr b i (p++[f]))
   |false=>none
  |none=>none
 | .rptr (.agg ss) (.agg xs)=>match(Shape.agg ss).same te.sh with
  |true=>match ss[f]?,xs[f]? with
   |some s,some x=>some (.rptr s x)
   |_,_=>none
  |false=>none
 |_=>none
def z7j:TyK ->Nat
 | .struct fs=>fs.length
 |_=>0
mutual
def AV.sub (n:Nat ->Nat):AV ->AV
 | .own b k=> .own (n b) k
 | .ptr b p=> .ptr (n b) p
 | .optr b i p=> .optr (n b) i p
 | .ownx b o k c=> .ownx (n b) o k c
 | .agg l=> .agg (AV.subL n l)
 | .tup l=> .tup (AV.subL n l)
 | .mc sh x=> .mc sh (x.sub n)
 |x=>x
def AV.subL (n:Nat ->Nat):List AV ->List AV
 | []=>[]
 |x::l=>x.sub n::AV.subL n l
end
mutual
def AV.only0 (m:Nat ->Bool):AV ->Bool
 | .own b _ | .ptr b _ | .optr b _ _ | .ownx b _ _ _=>m b
 | .agg l | .tup l=>AV.only0L m l
 | .mc _ x=>x.only0 m
 | .when _ _=>false
 | .clo _ l=>AV.areStat l
 |_=>true
def AV.only0L (m:Nat ->Bool):List AV ->Bool
 | []=>true
 |x::l=>x.only0 m&&AV.only0L m l
end
def AV.leafy:AV ->Bool
 | .agg _ | .arr _ _ | .mc _ _ | .tup _ | .when _ _=>false
 |_=>true
def zsg:AV ->Bool
 | .mc _ _=>true
 |y=>y.leafy
def z9x:List AV ->Bool
 | []=>true
 |x::l=>zsg x&&z9x l
def below (k:Nat) (b:Nat):Bool:=Nat.blt b k
def z5o (m:Nat ->Bool):AV ->Bool
 | .tup l=>z9x l&&AV.only0L m l
 |y=>zsg y&&y.only0 m
def mkAt (C:Cfg) (fx:Operand) (dst:Option Nat):Option (FuncId×Nat):=
 match fx,dst with
 | .func f,some d=>match C.isMk f d with
  |true=>some (f,d)
  |false=>none
 |_,_=>none
def zjy (C:Cfg) (f:FuncId) (d:Nat) (as:List AV):Option Res:=
 match C.mkr f as with
 |some (r, .row ty sh n g)=>match AV.areStat as&&z5o (below 1) r with
  |true=>some ⟨r.sub (fun _=>d), .new (.row ty sh n g),[C.CCF f as r [.row ty sh n g]]⟩
  |false=>none
 |_=>none
def zl (C:Cfg) (st:St) (e:Operand ->Option AV) (dst:Option Nat) (orc:FuncId ->List AV ->Option AV) (CC:FuncId ->List AV ->AV ->Prop):Op ->Option Res
 | .move x | .assign x=>match e x with |some v=>some ⟨v, .none,[]⟩ |none=>none
 | .alloc t=>match tyOf C t,dst with
  |some te,some d=>some ⟨.ptr d [], .new (.cell t te.sh te.zero),[]⟩
  |_,_=>none
 | .box t x=>match tyOf C t,dst,e x with
  |some te,some d,some v=>match unwV te.sh v with
   |some y=>some ⟨.ptr d [], .new (.cell t te.sh y),[]⟩
   |none=>none
  |_,_,_=>none
 | .build t parts=>match tyOf C t,z49 e parts.toList with
  |some te,some ps=>match te.sh,te.zero with
   | .agg ss, .agg zs=>match zbn ss zs ps,Nat.beq zs.length ss.length with
    |some ys,true=>some ⟨.mc (.agg ss) (.agg ys), .none,[]⟩
    |_,_=>none
   | .arr n s, .arr _ f=>match z4i s n ((List.range n).map f) ps with
    |some ys=>some ⟨.mc (.arr n s) (.arr n (fun i=>ys.getD i (f 0))), .none,[]⟩
    |none=>none
   |_,_=>none
  |_,_=>none
 | .buildSlice t len parts=>match tyOf C t,z49 e parts.toList,dst with
  |some te,some ps,some d=>match te.kind with
   | .slice el=>match tyOf C el with
    |some tl=>match z4i tl.sh len (List.replicate len tl.zero) ps,tl.zero.isStat with
     |some ys,true=>match C.layB d with
      |false=>some ⟨.own d len, .new (.row el tl.sh len (fun i=>ys.getD i .any)),[len*tl.sh.size<=16777216]⟩
      |true=>some ⟨.seq tl.sh len (fun i=>ys.getD i .any), .none,[len*tl.sh.size<=16777216]⟩
     |_,_=>none
    |none=>none
   |_=>none
  |_,_,_=>none
 | .load t a=>match tyOf C t with
  |some te=>match e a with
   |some (.ptr b p)=>match get st.heap b with
    |some (.cell _ sh x)=>match z27 p sh,nav p sh x with
     |some s,some y=>match s.same te.sh with
      |true=>match zay te.sh y with |some z=>some ⟨z, .none,[]⟩ |none=>none
      |false=>none
     |_,_=>none
    |_=>none
   |some (.optr b i p)=>match get st.heap b with
    |some (.row _ sh n f)=>match z27 p sh,nav p sh (f i)with
     |some s,some y=>match s.same te.sh with
      |true=>match zay te.sh y with |some z=>some ⟨z, .none,[i<n]⟩ |none=>none
      |false=>none
     |_,_=>none
    |_=>none
   |some (.rptr sh x)=>match sh.same te.sh with
    |true=>match zay te.sh x with |some z=>some ⟨z, .none,[]⟩ |none=>none
    |false=>none
   |_=>none
  |none=>none
 | .store t a v=>match tyOf C t,e v,dst with
  |some te,some v,none=>match unwV te.sh v with
   |some y=>match e a with
    |some (.ptr b p)=>match get st.heap b with
     |some (.cell tc sh x)=>match z27 p sh,z8r p sh x y with
      |some s,some x'=>match s.same te.sh with
       |true=>some ⟨.any, .upd b (.cell tc sh x'),[]⟩
       |false=>none
      |_,_=>none
     |_=>none
    |some (.optr b i p)=>match get st.heap b with
     |some (.row ty sh n f)=>match z27 p sh,z8r p sh (f i) y with
      |some s,some x'=>match s.same te.sh&&y.isStat with
       |true=>some ⟨.any, .upd b (.row ty sh n (fun j=>if j=i then x' else f j)),[i<n]⟩
       |false=>none
      |_,_=>none
     |_=>none
    |_=>none
   |none=>none
  |_,_,_=>none
 | .nilCheck x=>match e x with
  |some (.ptr b p)=>some ⟨.ptr b p, .none,[]⟩
  |some (.optr b i p)=>some ⟨.optr b i p, .none,[]⟩
  |some (.rptr s x)=>some ⟨.rptr s x, .none,[]⟩
  |some (.clo f l)=>some ⟨.clo f l, .none,[]⟩
  |_=>none
 | .binOp op t x y _=>match op with
  | .shl | .shr=>match e x,e y with
   |some a,some b=>zbm op a b
   |_,_=>none
  |_=>match tyOf C t,e x,e y with
   |some te,some a,some b=>zn7 C te op a b
   |_,_,_=>none
 | .unOp op _ x=>match op,e x with
  | .not,some (.bool b)=>some ⟨.bool (!b), .none,[]⟩
  | .neg,some (.int k n)=>some (z9w C k (0 - n))
  |_,_=>none
 | .convert src dst x=>match tyOf C src,tyOf C dst,e x with
  |some ts,some td,some (.int k n)=>match ts.kind,td.kind with
   | .int k0, .int k'=>match decide (k0=k)&&zn8 k k' with
    |true=>some ⟨.int k' n, .none,[]⟩
    |false=>some ⟨.int k' (k'.wrap n), .none,[]⟩
   |_,_=>none
  |some ts,some td,some (.str l)=>match ts.kind,td.kind with
   | .string, .string=>some ⟨.str l, .none,[]⟩
   |_,_=>none
  |_,_,_=>none
 | .makeFunc (.func f) first captured=>match first.size,z3i e captured.toList with
  |0,some l=>some ⟨.clo f l, .none,[]⟩
  |_,_=>none
 | .makeSlice t ln cp=>match tyOf C t,ixAV (e ln),ixAV (e cp),dst with
  |some te,some n,some c,some d=>match te.kind with
   | .slice el=>match tyOf C el with
    |some tl=>match tl.zero.isStat with
     |true=>match C.capB d with
      |false=>some ⟨.own d n.toNat, .new (.row el tl.sh n.toNat (fun _=>tl.zero)),[0<=n/\n<=c/\(tl.bytes:Int)*c<=140737488355328/\c<=9223372036854775807]⟩
      |true=>some ⟨.ownx d 0 n.toNat true, .new (.row el tl.sh n.toNat (fun _=>tl.zero)),[0<=n/\n<=c/\(tl.bytes:Int)*c<=140737488355328/\c<=9223372036854775807/\n=c]⟩
     |false=>none
    |none=>none
   |_=>none
  |_,_,_,_=>none
 | .slice t x lo hi mx=>match tyOf C t,e x with
  |some te,some v=>match te.kind with
   | .string=>match v with
    | .str l=>match z6w e 0 lo,z6w e (l.length:Int) hi,mx with
     |some a,some b,none=>some ⟨.str ((l.drop a.toNat).take (b - a).toNat), .none,[0<=a/\a<=b/\b<=(l.length:Int)]⟩
     |_,_,_=>none
    |_=>none
   | .slice el=>match tyOf C el,v with
    |some tl, .seq sh n f=>match sh.same tl.sh,z6w e 0 lo,z6w e (n:Int) hi,mx with
     |true,some a,some b,none=>some ⟨.seq sh (b - a).toNat (fun i=>f (a.toNat+i)), .none,[0<=a/\a<=b/\b<=(n:Int)]⟩
     |true,some a,some b,some m=>match ixAV (e m),hi.isSome with
      |some m,true=>some ⟨.seqc sh (b - a).toNat (fun i=>f (a.toNat+i)), .none,[0<=a/\a<=b/\b<=(n:Int)/\m=b]⟩
      |_,_=>none
     |_,_,_,_=>none
    |some tl, .own b n=>match get st.heap b with
     |some (.row _ sh _ _)=>match lo with
      |some (.tmp t)=>match sh.same tl.sh,ixAV (e (.tmp t)),z6w e (n:Int) hi,mx with
       |true,some a,some h,none=>some ⟨.ownx b a.toNat (h - a).toNat false, .none,[0<=a/\a<=h/\h<=(n:Int)]⟩
       |_,_,_,_=>none
      |_=>match sh.same tl.sh,z6w e 0 lo,z6w e (n:Int) hi,mx with
       |true,some 0,some h,none=>some ⟨.own b h.toNat, .none,[0<=h/\h<=(n:Int)]⟩
       |_,_,_,_=>none
     |_=>none
    |_,_=>none
   |_=>none
  |_,_=>none
 | .fieldAddr t x f=>match tyOf C t,e x with
  |some te,some v=>match Nat.blt f (z7j te.kind)with
   |true=>match z8b st te f v with
    |some r=>some ⟨r, .none,[]⟩
    |none=>none
   |false=>none
  |_,_=>none
 | .field t x f=>match tyOf C t,e x with
  |some te,some (.mc (.agg ss) (.agg xs))=>match(Shape.agg ss).same te.sh&&Nat.blt f (z7j te.kind),ss[f]?,xs[f]? with
   |true,some s,some y=>match zay s y with |some z=>some ⟨z, .none,[]⟩ |none=>none
   |_,_,_=>none
  |_,_=>none
 | .indexAddr t x ix=>match tyOf C t,e x,ixAV (e ix)with
  |some te,some v,some i=>match te.kind with
   | .slice el=>match tyOf C el with
    |some tl=>match v with
     | .seq sh n f | .seqc sh n f | .nseq _ sh n f=>match sh.same tl.sh with
      |true=>some ⟨.rptr sh (f i.toNat), .none,[inIx i n]⟩
      |false=>none
     | .own b n=>match get st.heap b with
      |some (.row _ sh _ _)=>match sh.same tl.sh with
       |true=>some ⟨.optr b i.toNat [], .none,[inIx i n]⟩
       |false=>none
      |_=>none
     | .ownx b o n _=>match get st.heap b with
      |some (.row _ sh _ _)=>match sh.same tl.sh with
       |true=>some ⟨.optr b (o+i.toNat) [], .none,[inIx i n]⟩
       |false=>none
      |_=>none
     |_=>none
    |none=>none
   | .arr n _=>match v with
    | .ptr b p=>match zmc st b p with
     |some s=>match s.same te.sh with
      |true=>some ⟨.ptr b (p++[i.toNat]), .none,[inIx i n]⟩
      |false=>none
     |none=>none
    | .optr b k p=>match rowSh st b p with
     |some s=>match s.same te.sh with
      |true=>some ⟨.optr b k (p++[i.toNat]), .none,[inIx i n]⟩
      |false=>none
     |none=>none
    | .rptr (.arr m s) (.arr _ f)=>match(Shape.arr m s).same te.sh with
     |true=>some ⟨.rptr s (f i.toNat), .none,[inIx i n]⟩
     |false=>none
    |_=>none
   |_=>none
  |_,_,_=>none
 | .index t x ix=>match tyOf C t,e x,ixAV (e ix)with
  |some te,some v,some i=>match te.kind,v with
   | .string, .str l=>some ⟨.int .u8 ((l.getD i.toNat 0).toNat:Int), .none,[inIx i l.length]⟩
   | .arr n _, .mc (.arr m s) (.arr _ f)=>match(Shape.arr m s).same te.sh with
    |true=>match zay s (f i.toNat)with |some z=>some ⟨z, .none,[inIx i n]⟩ |none=>none
    |false=>none
   |_,_=>none
  |_,_,_=>none
 | .extract x i=>match e x with
  |some (.tup l)=>match l[i]? with |some v=>some ⟨v, .none,[]⟩ |none=>none
  |_=>none
 | .call c=>match c.callee with
  | .builtin .len=>match c.args.toList,c.argTypes.toList with
   | [x],[t]=>match tyOf C t,e x with
    |some te,some v=>match te.kind with
     | .slice _=>match zzl v with |some n=>some ⟨.int .i64 (n:Int), .none,[(n:Int)<=9223372036854775807]⟩ |none=>none
     | .string=>match v with | .str l=>some ⟨.int .i64 (l.length:Int), .none,[(l.length:Int)<=9223372036854775807]⟩ |_=>none
     | .arr n _=>match Nat.ble n 9223372036854775807 with |true=>some ⟨.int .i64 (n:Int), .none,[]⟩ |false=>none
     |_=>none
    |_,_=>none
   |_,_=>none
  | .builtin .append=>match c.args.toList,c.argTypes.toList,dst with
   | [x,y],[t,t'],some d=>match tyOf C t,Nat.beq t t',e x,e y with
    |some te,true,some v,some u=>match te.kind with
     | .slice el=>match tyOf C el with
      |some tl=>
       match(match u with
        | .seq sh m g | .seqc sh m g=>some (sh,m,g,[])
        | .own b m=>match get st.heap b with |some (.row _ sh n' g)=>some (sh,m,g,[m<=n']) |_=>none
        | .nils=>some (tl.sh,0,(fun _=>AV.any),[])
        |_=>none:Option (Shape×Nat×(Nat ->AV)×List Prop))with
       |some (su,m,g,ps)=>match su.same tl.sh&&tl.zero.isStat,v with
        |true, .nils=>match C.layB d with
         |false=>some ⟨.own d m, .new (.row el su m g),((m:Int)*tl.bytes<=140737488355328/\m<=9223372036854775807)::ps⟩
         |true=>match C.capB d with
          |false=>some ⟨.seq su m g, .none,((m:Int)*tl.bytes<=140737488355328/\m<=9223372036854775807)::ps⟩
          |true=>some ⟨.nils, .none,(m=0)::ps⟩
        |true, .seqc sh n f=>match sh.same su with
         |true=>match C.layB d with
          |false=>some ⟨.own d (n+m), .new (.row el su (n+m) (fun i=>if i<n then f i else g (i - n))),(0<m/\((n+m:Nat):Int)*tl.bytes<=140737488355328/\n+m<=9223372036854775807)::ps⟩
          |true=>some ⟨.seq su (n+m) (fun i=>if i<n then f i else g (i - n)), .none,(0<m/\((n+m:Nat):Int)*tl.bytes<=140737488355328/\n+m<=9223372036854775807)::ps⟩
         |false=>none
        |true, .own b n=>match get st.heap b with
         |some (.row ty sh n' f)=>match Nat.beq ty el&&sh.same su&&(match u with | .own b' _=>!Nat.beq b b' |_=>true)with
          |true=>some ⟨.own b (n+m), .grow b (.row ty sh (n+m) (fun i=>if i<n then f i else g (i - n))),(n=n'/\((n+m:Nat):Int)*tl.bytes<=140737488355328/\n+m<=9223372036854775807)::ps⟩
          |false=>none
         |_=>none
        |_,_=>none
       |none=>none
      |none=>none
     |_=>none
    |_,_,_,_=>none
   |_,_,_=>none
  | .builtin .copy=>match c.args.toList,c.argTypes.toList with
   | [x,y],[t,t']=>match tyOf C t,tyOf C t',e x,e y with
    |some te,some te',some (.own b n),some u=>match te.kind,te'.kind with
     | .slice el, .slice el'=>match tyOf C el,Nat.beq el el',get st.heap b with
      |some tl,true,some (.row ty sh n' f)=>
       match(match u with
        | .seq su m g | .seqc su m g=>some (su,m,g)
        | .nils=>some (tl.sh,0,fun _=>AV.any)
        |_=>none:Option (Shape×Nat×(Nat ->AV)))with
       |some (su,m,g)=>match su.same tl.sh&&sh.same tl.sh with
        |true=>some ⟨.int .i64 ((min m n:Nat):Int), .upd b (.row ty sh n' (fun i=>if i<min m n then g i else f i)),[n<=n'/\(n:Int)<=9223372036854775807]⟩
        |false=>none
       |none=>none
      |_,_,_=>none
     |_,_=>none
    |some te,some te',some (.ownx b o n _),some u=>match te.kind,te'.kind with
     | .slice el, .slice el'=>match tyOf C el,Nat.beq el el',get st.heap b with
      |some tl,true,some (.row ty sh n' f)=>
       match(match u with
        | .seq su m g | .seqc su m g=>some (su,m,g)
        | .nils=>some (tl.sh,0,fun _=>AV.any)
        |_=>none:Option (Shape×Nat×(Nat ->AV)))with
       |some (su,m,g)=>match su.same tl.sh&&sh.same tl.sh with
        |true=>some ⟨.int .i64 ((min m n:Nat):Int), .upd b (.row ty sh n' (fun i=>if o<=i/\i<o+min m n then g (i - o)else f i)),[o+n<=n'/\(n:Int)<=9223372036854775807]⟩
        |false=>none
       |none=>none
      |_,_,_=>none
     |_,_=>none
    |_,_,_,_=>none
   |_,_=>none
  | .builtin .min=>match c.args.toList with
   | [x,y]=>match e x,e y with
    |some (.int k a),some (.int k' b)=>match decide (k=k')with |true=>some ⟨.int k (if b<a then b else a), .none,[]⟩ |false=>none
    |_,_=>none
   |_=>none
  | .builtin .max=>match c.args.toList with
   | [x,y]=>match e x,e y with
    |some (.int k a),some (.int k' b)=>match decide (k=k')with |true=>some ⟨.int k (if a<b then b else a), .none,[]⟩ |false=>none
    |_,_=>none
   |_=>none
  | .value fx=>match mkAt C fx dst with
   |some (f,d)=>match z3i e c.args.toList with
    |some as=>zjy C f d as
    |none=>none
   |none=>match e fx,z3i e c.args.toList with
    |some (.clo f caps),some args=>match frzs st.heap (args++caps)with
     |some (as,ps)=>match orc f as with
      |some r=>match r.isScalar || (AV.areStat (args++caps)&&r.isRes)with
       |true=>some ⟨r, .none,CC f as r::ps⟩
       |false=>none
      |none=>none
     |none=>none
    |_,_=>none
  |_=>none
 |_=>none
def zx (st:St) (dst:Option Nat):Eff ->Option St
 | .none=>some st
 | .new c=>match dst with
  |some d=>match z1q st d&&!c.names d with
   |true=>some {st with heap:=put st.heap d c}
   |false=>none
  |none=>none
 | .upd b c=>some {st with heap:=put st.heap b c}
 | .grow b c=>some {env:=z8a b st.env,heap:=put (z65 b st.heap) b c}
def z6x (st:St) (dst:Option Nat) (v:AV):St:=
 match dst with
 |some d=>{st with env:=put st.env d v}
 |none=>st
def zg6:Eff ->Bool
 | .none=>true
 |_=>false
def zsh (C:Cfg):Option Nat ->Bool
 |some d=>Nat.blt d C.ntmps
 |none=>true
def z3a (C:Cfg) (st:St):List Operand ->List Prop
 | []=>[]
 |x::l=>match ev C st x with
  |some v=>zad v++z3a C st l
  |none=>z3a C st l
def evS (C:Cfg) (st:St) (x:Operand):Option AV:=match ev C st x with |some v=>some (strip1 v) |none=>none
def impl (q:Bool):List Prop ->List Prop
 | []=>[]
 |p::l=>(q=true ->p)::impl q l
def zhz (C:Cfg) (st:St) (p:Bool) (c a b:Operand):List Prop:=
 (match ev C st c with |some v=>zad v |none=>[])++impl p (match ev C st a with |some v=>zad v |none=>[])++impl (!p) (match ev C st b with |some v=>zad v |none=>[])
def z3b (C:Cfg) (CC:FuncId ->List AV ->AV ->Prop) (orc:FuncId ->List AV ->Option AV) (st:St) (o:Oper):Option Res:=
 match o.op with
 | .pick c a b=>match evS C st c,evS C st a,evS C st b with
  |some (.bool p),some x,some y=>match zn6 p (zjx a) (zej b) x y with
   |some v=>some ⟨v, .none,zhz C st p c a b⟩
   |none=>none
  |_,_,_=>none
 |op=>match zl C st (evS C st) o.dst orc CC op with
  |some r=>some {r with obs:=z3a C st op.operands.toList++r.obs}
  |none=>none
def z8c (_:Cfg) (st:St) (ops:List Oper) (g:Nat×Bool):Option Bool:=
 match ops[g.1]? with
 |some o=>match o.dst with
  |some d=>match get st.env d with
   |some (.bool p)=>some (match g.2 with |true=>p |false=>!p)
   |some (.when q (.bool p))=>some (q&&(match g.2 with |true=>p |false=>!p))
   |_=>none
  |none=>none
 |none=>none
def z30 (C:Cfg) (CC:FuncId ->List AV ->AV ->Prop) (orc:FuncId ->List AV ->Option AV) (ops:List Oper) (st:St) (o:Oper):Option (St×List Prop):=
 match zsh C o.dst with
 |false=>none
 |true=>match o.guard with
  |none=>match z3b C CC orc st o with
   |some r=>match zx st o.dst r.eff with
    |some st'=>some (z6x st' o.dst r.val,r.obs)
    |none=>none
   |none=>none
  |some g=>match z8c C st ops g with
   |some q=>match z3b C CC orc st o with
    |some r=>match zg6 r.eff with
     |true=>some (z6x st o.dst (.when q r.val),impl q r.obs)
     |false=>none
    |none=>none
   |none=>none
def z6o (C:Cfg) (CC:FuncId ->List AV ->AV ->Prop) (orc:Nat ->FuncId ->List AV ->Option AV) (all:List Oper):List Oper ->Nat ->St ->Option (St×List Prop)
 | [],_,st=>some (st,[])
 |o::rest,i,st=>match z30 C CC (orc i) all st o with
  |some (st',ps)=>match z6o C CC orc all rest (i+1) st' with
   |some (st'',qs)=>some (st'',ps++qs)
   |none=>none
  |none=>none
theorem zv {α:Type} (l:List (Nat×α)) (s:Nat) (v:α):get (put l s v) s=some v:=by
 simp[put,get]
theorem zg7 {α:Type} (l:List (Nat×α)) (s:Nat):get (del l s) s=none:=by
 induction l with
 |nil=>rfl
 |cons p l ih=>
  obtain⟨k,v⟩:=p
  simp only[del]
  split
  . exact ih
  . rename_i h;simp only[get,h];exact ih
theorem z66 {α:Type} (l:List (Nat×α)) (s t:Nat) (h:t≠s):get (del l s) t=get l t:=by
 induction l with
 |nil=>rfl
 |cons p l ih=>
  obtain⟨k,v⟩:=p
  simp only[del]
  split
  . rename_i hk
    have :=Nat.eq_of_beq_eq_true hk
    subst this
    rw[ih]
    have :Nat.beq k t=false:=by
     cases e:Nat.beq k t with
     |false=>rfl
     |true=>exact absurd (Nat.eq_of_beq_eq_true e).symm h
    simp[get,this]
  . simp only[get];split<;>first |rfl |exact ih
theorem zb {α:Type} (l:List (Nat×α)) (s t:Nat) (v:α) (h:t≠s):get (put l s v) t=get l t:=by
 have :Nat.beq s t=false:=by
  cases e:Nat.beq s t with
  |false=>rfl
  |true=>exact absurd (Nat.eq_of_beq_eq_true e).symm h
 simp only[put,get,this]
 exact z66 l s t h
structure Kept (L:Nat ->Prop) (w w':World):Prop where
 os:w'.os=w.os
 tape:w'.tape=w.tape
 output:w'.output=w.output
 size:w.heap.size<=w'.heap.size
 block:∀ k,k<w.heap.size ->¬ L k ->w'.heap[k]? =w.heap[k]?
theorem Kept.refl (L:Nat ->Prop) (w:World):Kept L w w:=⟨rfl,rfl,rfl,Nat.le_refl _,fun _ _ _=>rfl⟩
theorem Kept.trans {L L':Nat ->Prop} {a b c:World} (h:Kept L a b) (k:Kept L' b c) (hL:∀ i,L' i ->i<a.heap.size ->L i):Kept L a c:=
 ⟨k.os.trans h.os,k.tape.trans h.tape,k.output.trans h.output,Nat.le_trans h.size k.size,fun i hi hn=>(k.block i (Nat.lt_of_lt_of_le hi h.size) fun hl=>hn (hL i hl hi)).trans (h.block i hi hn)⟩
theorem Kept.below {L:Nat ->Prop} {a b c:World} (h:Kept L a b) (k:Below b.heap.size b c):Kept L a c:=
 h.trans (L':=fun _=>False) ⟨k.os,k.tape,k.output,k.size,fun i hi _=>k.block i hi⟩ fun _ hf=>hf.elim
theorem Kept.toBelow {a b:World} (h:Kept (fun _=>False) a b):Below a.heap.size a b:=⟨h.os,h.tape,h.output,h.size,fun k hk=>h.block k hk fun hf=>hf⟩
structure Entry where
 w:World
 L:Nat ->Prop
 A:Nat ->Option Place
 D:List Deferred:=[]
def Entry.B (E:Entry) (k:Nat):Prop:=E.w.heap.size<=k∨E.L k
def Entry.of (w:World):Entry:=⟨w,fun _=>False,fun _=>none,[]⟩
def z24 (w:World) (F:Nat ->Prop) (φ:Nat ->Place) (B:Nat ->Prop) (b:Nat):BoxC ->Prop
 | .cell tc sh x=>(φ b).sh=sh/\∃ g cs,(φ b).blk=some g/\B g/\¬ F g/\w.heap[g]? =some (.cells cs tc (0,0))/\cs.size=sh.size/\
  ∀ j,j<sh.size ->Rep w F φ (cs.getD j undef) (z6 sh x j)
 | .row ty sh n f=>(φ b).sh=sh/\(φ b).ty=ty/\(((φ b).blk=none/\n=0)∨∃ g cs,(φ b).blk=some g/\B g/\¬ F g/\w.heap[g]? =some (.cells cs ty (0,0))/\
  cs.size=(φ b).cap*sh.size/\n<=(φ b).cap/\(φ b).cap<=maxLen/\∀ i,i<n ->∀ j,j<sh.size ->RepS w F (cs.getD (i*sh.size+j) undef) (z6 sh (f i) j))
structure Rel (C:Cfg) (W0:Entry) (F0:Nat ->Prop) (st:St) (a:Act) (w:World) (F:Nat ->Prop) (φ:Nat ->Place):Prop where
 env:∀ s x,get st.env s=some x ->∃ v,a.tmps[s]? =some v/\Rep w F φ v x
 heap:∀ b c,get st.heap b=some c ->z24 w F φ W0.B b c
 inj:∀ b b' c c' g,get st.heap b=some c ->get st.heap b'=some c' ->(φ b).blk=some g ->(φ b').blk=some g ->b=b'
 ro:∀ k,F k ->k<w.heap.size
 base:Kept W0.L W0.w w
 sub:∀ k,F0 k ->F k
 new:∀ k,F k ->F0 k∨W0.B k
 dfr:a.defers=W0.D
 tsz:a.tmps.size=C.ntmps
 glob:∀ g x,get C.G g=some x ->RepS w F (.pointer (some ⟨g,0,none⟩)) x
 anc:∀ b p,W0.A b=some p ->1099511627776<=b/\φ b=p/\∀ c,get st.heap b=some c ->c.isRow=false
theorem z24.lt {w:World} {F:Nat ->Prop} {φ:Nat ->Place} {base:Nat ->Prop} {b g:Nat} {c:BoxC} (h:z24 w F φ base b c) (hg:(φ b).blk=some g):g<w.heap.size/\¬ F g/\base g:=by
 cases c with
 |cell tc sh x=>
  obtain⟨_,g',cs,h1,h2,h3,h4,_⟩:=h
  rw[hg]at h1;cases h1
  exact⟨(Array.getElem?_eq_some_iff.1 h4).1,h3,h2⟩
 |row ty sh n f=>
  obtain⟨_,_,⟨h1,_⟩ | ⟨g',cs,h1,h2,h3,h4,_⟩⟩:=h
  . rw[hg]at h1;cases h1
  . rw[hg]at h1;cases h1
    exact⟨(Array.getElem?_eq_some_iff.1 h4).1,h3,h2⟩
theorem z24.keep {w w':World} {F F':Nat ->Prop} {φ φ':Nat ->Place} {base:Nat ->Prop} {b:Nat} {c:BoxC} (h:z24 w F φ base b c) (hw:∀ k,F k ->w'.heap[k]? =w.heap[k]?) (hF:∀ k,F k ->F' k)
 (hg:∀ g,(φ b).blk=some g ->w'.heap[g]? =w.heap[g]? /\¬ F' g) (hb:φ' b=φ b) (hφ:∀ d,c.names d=true ->φ' d=φ d):z24 w' F' φ' base b c:=by
 cases c with
 |cell tc sh x=>
  obtain⟨h0,g,cs,h1,h2,h3,h4,h5,h6⟩:=h
  refine⟨by rw[hb];exact h0,g,cs,by rw[hb];exact h1,h2,(hg g h1).2,(hg g h1).1.trans h4,h5,fun j hj=>?_⟩
  exact(h6 j hj).keep hw hF fun d hd=>hφ d (by simp only[BoxC.names];exact z3s sh x j hd)
 |row ty sh n f=>
  obtain⟨h0,h0',h⟩:=h
  refine⟨by rw[hb];exact h0,by rw[hb];exact h0', ?_⟩
  rw[hb]
  rcases h with h | ⟨g,cs,h1,h2,h3,h4,h5,h6,h7,h8⟩
  . exact .inl h
  . exact .inr ⟨g,cs,h1,h2,(hg g h1).2,(hg g h1).1.trans h4,h5,h6,h7,fun i hi j hj=>(h8 i hi j hj).keep hw hF⟩
section
variable {C:Cfg} {W0:Entry} {F0:Nat ->Prop} {st:St} {a:Act} {w:World} {F:Nat ->Prop} {φ:Nat ->Place}
theorem Rel.bnew (h:Rel C W0 F0 st a w F φ) {k:Nat} (hk:w.heap.size<=k):W0.B k:= .inl (Nat.le_trans h.base.size hk)
theorem Rel.grown (h:Rel C W0 F0 st a w F φ) {w':World} {F':Nat ->Prop} (hb:Below w.heap.size w w') (hF:∀ k,F k ->F' k) (hn:∀ k,F' k ->F k∨w.heap.size<=k) (hl:∀ k,F' k ->k<w'.heap.size):
 Rel C W0 F0 st a w' F' φ:=by
 have hk:∀ k,F k ->w'.heap[k]? =w.heap[k]? :=fun k hk=>hb.block k (h.ro k hk)
 refine⟨fun s x hs=>?_,fun b c hc=>?_,h.inj,hl,h.base.below hb,fun k hk=>hF k (h.sub k hk),fun k hk=>?_,h.dfr,h.tsz,fun g x hg=>(h.glob g x hg).keep hk hF,h.anc⟩
 . obtain⟨v,hv,hr⟩:=h.env s x hs
   exact⟨v,hv,hr.keep hk hF fun _ _=>rfl⟩
 . have hc':=h.heap b c hc
   refine hc'.keep hk hF (fun g hg=>?_) rfl fun _ _=>rfl
   obtain⟨h1,h2,_⟩:=hc'.lt hg
   refine⟨hb.block g h1,fun h3=>?_⟩
   rcases hn g h3 with h4 |h4
   . exact h2 h4
   . omega
 . rcases hn k hk with h1 |h1
   . exact h.new k h1
   . have :=h.base.size;exact .inr (.inl (by omega))
theorem Rel.putV (h:Rel C W0 F0 st a w F φ) {d:Nat} {v:Value} {x:AV} (hd:d<C.ntmps) (hv:Rep w F φ v x):Rel C W0 F0 {st with env:=put st.env d x} (a.put (some d) v) w F φ:=by
 refine⟨fun s y hs=>?_,h.heap,h.inj,h.ro,h.base,h.sub,h.new,h.dfr,by simp[Act.put,h.tsz],h.glob,h.anc⟩
 by_cases e:s=d
 . subst e
   rw[zv]at hs
   cases hs
   exact⟨v,by simp[Act.put,h.tsz,hd],hv⟩
 . simp only[zb _ _ _ _ e]at hs
   obtain⟨u,hu,hr⟩:=h.env s y hs
   refine⟨u, ?_,hr⟩
   simp only[Act.put]
   rw[Array.getElem?_setIfInBounds_ne (Ne.symm e)]
   exact hu
theorem Rel.putU (h:Rel C W0 F0 st a w F φ) (d:Nat) (v:Value):Rel C W0 F0 {st with env:=del st.env d} (a.put (some d) v) w F φ:=by
 refine⟨fun s y hs=>?_,h.heap,h.inj,h.ro,h.base,h.sub,h.new,h.dfr,by simp[Act.put,h.tsz],h.glob,h.anc⟩
 by_cases e:s=d
 . subst e;simp[zg7]at hs
 . simp only[z66 _ _ _ e]at hs
   obtain⟨u,hu,hr⟩:=h.env s y hs
   refine⟨u, ?_,hr⟩
   simp only[Act.put]
   rw[Array.getElem?_setIfInBounds_ne (Ne.symm e)]
   exact hu
theorem z3t {b:Nat}:∀ {l:List (Nat×AV)} {s:Nat} {x:AV},get l s=some x ->z7i b l=false ->x.names b=false
 | [],_,_,h,_=>by simp[get]at h
 | (k,v)::l,s,x,h,hn=>by
  simp only[z7i,Bool.or_eq_false_iff]at hn
  simp only[get]at h
  split at h
  . cases h;exact hn.1
  . exact z3t h hn.2
theorem z2r {b:Nat}:∀ {l:List (Nat×BoxC)} {s:Nat} {c:BoxC},get l s=some c ->z5v b l=false ->c.names b=false/\s≠b
 | [],_,_,h,_=>by simp[get]at h
 | (k,v)::l,s,x,h,hn=>by
  simp only[z5v,Bool.or_eq_false_iff]at hn
  simp only[get]at h
  split at h
  . rename_i hk
    cases h
    have :=Nat.eq_of_beq_eq_true hk
    subst this
    refine⟨hn.1.2,fun e=>?_⟩
    subst e
    simp at hn
  . exact z2r h hn.2
theorem z1m (φ:Nat ->Place) (d:Nat) (pl:Place) {b:Nat} (h:b≠d):(fun k=>if k=d then pl else φ k) b=φ b:=by simp[h]
theorem zi0 {W0:Entry} {st:St} {φ:Nat ->Place} (h:∀ b p,W0.A b=some p ->1099511627776<=b/\φ b=p/\∀ c,get st.heap b=some c ->c.isRow=false) {d:Nat} {c:BoxC} {pl:Place} (hd:(!Nat.blt d 1099511627776)=false):
 ∀ b p,W0.A b=some p ->1099511627776<=b/\(fun k=>if k=d then pl else φ k) b=p/\∀ c',get (put st.heap d c) b=some c' ->c'.isRow=false:=by
 intro b p hb
 obtain⟨h1,h2,h3⟩:=h b p hb
 have hd:d<1099511627776:=by
  cases e:Nat.blt d 1099511627776 with
  |false=>rw[e]at hd;cases hd
  |true=>exact Nat.le_of_ble_eq_true e
 have hne:b≠d:=by omega
 exact⟨h1,by simp only[hne,if_false];exact h2,fun c' hc'=>h3 c' (by rwa [zb _ _ _ _ hne]at hc')⟩
theorem Rel.newBox (h:Rel C W0 F0 st a w F φ) {d:Nat} {c:BoxC} (hf:z1q st d=true) (hc:c.names d=false) (o:Obj) (pl:Place) (hpl:pl.blk=some w.heap.size)
 (hB:z24 (w.alloc o) F (fun k=>if k=d then pl else φ k) W0.B d c):
 Rel C W0 F0 {st with heap:=put st.heap d c} a (w.alloc o) F (fun k=>if k=d then pl else φ k):=by
 simp only[z1q,Bool.not_eq_true',Bool.or_eq_false_iff]at hf
 obtain⟨fe,fh,fl⟩:=hf
 have hk:∀ k,F k ->(w.alloc o).heap[k]? =w.heap[k]? :=fun k hk=>Below.heap_alloc w o k (h.ro k hk)
 refine⟨fun s x hs=>?_,fun b c' hc'=>?_, ?_,fun k hk=>?_,h.base.below ⟨rfl,rfl,rfl,by simp,fun k hk=>Below.heap_alloc w o k hk⟩,h.sub,h.new,h.dfr,h.tsz,fun g x hg=>(h.glob g x hg).keep hk fun _ hk=>hk,zi0 h.anc fl⟩
 . obtain⟨v,hv,hr⟩:=h.env s x hs
   refine⟨v,hv,hr.keep hk (fun _ hk=>hk) fun b hb=>z1m φ d pl fun e=>?_⟩
   subst e
   rw[z3t hs fe]at hb;cases hb
 . by_cases e:b=d
   . subst e
     rw[zv]at hc'
     cases hc'
     exact hB
   . rw[zb _ _ _ _ e]at hc'
     have hb:=h.heap b c' hc'
     refine hb.keep hk (fun _ hk=>hk) (fun g hg=>?_) (z1m φ d pl e) fun b' hb'=>z1m φ d pl fun e=>?_
     . obtain⟨h1,h2,_⟩:=hb.lt hg
       exact⟨Below.heap_alloc w o g h1,h2⟩
     . subst e
       rw[(z2r hc' fh).1]at hb';cases hb'
 . intro b b' c1 c2 g h1 h2 h3 h4
   by_cases e:b=d
   . by_cases e':b'=d
     . omega
     . rw[zb _ _ _ _ e']at h2
       simp only[e,if_true]at h3
       simp only[e',if_false]at h4
       rw[hpl]at h3
       cases h3
       have :=((h.heap b' c2 h2).lt h4).1
       omega
   . rw[zb _ _ _ _ e]at h1
     simp only[e,if_false]at h3
     by_cases e':b'=d
     . simp only[e',if_true]at h4
       rw[hpl]at h4
       cases h4
       have :=((h.heap b c1 h1).lt h3).1
       omega
     . rw[zb _ _ _ _ e']at h2
       simp only[e',if_false]at h4
       exact h.inj b b' c1 c2 g h1 h2 h3 h4
 . have :=h.ro k hk
   simp;omega
theorem Rel.setBox (h:Rel C W0 F0 st a w F φ) {b g:Nat} {c c':BoxC} {w':World} (hb:get st.heap b=some c) (hg:(φ b).blk=some g) (hos:w'.os=w.os) (ht:w'.tape=w.tape) (ho:w'.output=w.output)
 (hs:w'.heap.size=w.heap.size) (hw:∀ k,k≠g ->w'.heap[k]? =w.heap[k]?) (hkd:c'.isRow=c.isRow) (hB:z24 w' F φ W0.B b c'):
 Rel C W0 F0 {st with heap:=put st.heap b c'} a w' F φ:=by
 obtain⟨g1,g2,g3⟩:=(h.heap b c hb).lt hg
 have hk:∀ k,F k ->w'.heap[k]? =w.heap[k]? :=fun k hk=>hw k fun e=>g2 (e ▸ hk)
 refine⟨fun s x hx=>?_,fun b' c1 hc1=>?_, ?_,fun k hk=>by rw[hs];exact h.ro k hk,h.base.trans (L':=fun k=>k=g) ⟨hos,ht,ho,by omega,fun k _ hk=>hw k hk⟩ (fun i hi hlt=>by subst hi;exact g3.resolve_left (by omega)),h.sub,h.new,h.dfr,h.tsz,fun g x hg=>(h.glob g x hg).keep hk fun _ hk=>hk,fun b' p hp=>?_⟩
 . obtain⟨v,hv,hr⟩:=h.env s x hx
   exact⟨v,hv,hr.keep hk (fun _ hk=>hk) fun _ _=>rfl⟩
 . by_cases e:b'=b
   . subst e
     rw[zv]at hc1
     cases hc1
     exact hB
   . rw[zb _ _ _ _ e]at hc1
     have hb':=h.heap b' c1 hc1
     refine hb'.keep hk (fun _ hk=>hk) (fun g' hg'=>?_) rfl fun _ _=>rfl
     exact⟨hw g' fun e'=>e (h.inj b' b c1 c g hc1 hb (e' ▸ hg') hg),(hb'.lt hg').2.1⟩
 . intro b1 b2 c1 c2 g' h1 h2 h3 h4
   have i1:∃ c1',get st.heap b1=some c1':=by
    by_cases e:b1=b
    . exact⟨c,e ▸ hb⟩
    . rw[zb _ _ _ _ e]at h1;exact⟨c1,h1⟩
   have i2:∃ c2',get st.heap b2=some c2':=by
    by_cases e:b2=b
    . exact⟨c,e ▸ hb⟩
    . rw[zb _ _ _ _ e]at h2;exact⟨c2,h2⟩
   obtain⟨c1',i1⟩:=i1
   obtain⟨c2',i2⟩:=i2
   exact h.inj b1 b2 c1' c2' g' i1 i2 h3 h4
 . obtain⟨a1,a2,a3⟩:=h.anc b' p hp
   refine⟨a1,a2,fun c1 hc1=>?_⟩
   by_cases e:b'=b
   . subst e
     rw[zv]at hc1
     cases hc1
     rw[hkd];exact a3 c hb
   . rw[zb _ _ _ _ e]at hc1;exact a3 c1 hc1
end
def z6p (C:Cfg) (sh:Shape) (d:TypeDesc):TyK ->Prop
 | .int k=>d= .int k/\sh= .leaf
 | .bool=>d= .bool/\sh= .leaf
 | .string=>d= .string/\sh= .leaf
 | .slice e=>d= .slice e/\sh= .leaf
 | .arr n e=>d= .array n e/\∃ te,tyOf C e=some te/\sh= .arr n te.sh
 | .struct fs=>∃ fields:Array Field,∃ ss,d= .struct fields/\sh= .agg ss/\ss.length=fs.length/\fs=fields.toList.map (·.type)/\
  ∀ i : Nat, ∀ f : Field, fields[i]? = some f -> ∃ te, tyOf C f.type = some te /\ ss[i]? = some te.sh /\ f.offset = Shape.sizes (ss.take i) /\ f.name ≠ "_"
 | .other=>sh= .leaf/\(match d with | .struct _ | .array _ _=>False |_=>True)
def z8t (v:Value):AV ->Prop
 | .any=>v.oneCell'=true
 | .int k n=>v= .int k n/\InR k n
 | .bool b=>v= .bool b
 | .str l=>v= .string ⟨l.toArray⟩
 | .nils=>v= .slice none 0 0
 | .nilp=>v= .pointer none
 | .st x=>z8t v x
 |_=>False
structure TyOK (C:Cfg) (t:TypeId) (te:TyE):Prop where
 info:∃ d i z,C.P.underlying t=some d/\C.P.info? t=some i/\i.size=te.sh.size/\i.bytes=te.bytes/\i.zero=some z/\z.cells.size=te.sh.size/\z6p C te.sh d te.kind/\
  ∀ j,j<te.sh.size ->z8t (z.cells.getD j undef) (z6 te.sh te.zero j)
 pos:0<te.sh.size
 zst:te.zero.isStat=true
 eqs:te.eqs=true ->C.P.eqGuardType C.P.depth t=false/\C.P.stoodInHeld t=false/\((∃ fs,te.kind= .struct fs/\
  ∀ e∈fs,∃ tf,tyOf C e=some tf/\tf.sh= .leaf/\((∃ k,tf.kind= .int k)∨tf.kind= .bool∨tf.kind= .string))∨
  ∃ n e tf,te.kind= .arr n e/\tyOf C e=some tf/\tf.sh= .leaf)
def z8u:List Nat ->List Nat ->Bool
 | [],[]=>true
 |a::l,b::m=>Nat.beq a b&&z8u l m
 |_,_=>false
theorem zbo:∀ {l m:List Nat},z8u l m=true ->l=m
 | [],[],_=>rfl
 |a::l,b::m,h=>by
  simp only[z8u,Bool.and_eq_true]at h
  rw[Nat.eq_of_beq_eq_true h.1,zbo h.2]
 | [],_::_,h |_::_,[],h=>by simp[z8u]at h
def z2u (C:Cfg) (sh:Shape) (d:TypeDesc):TyK ->Bool
 | .int k=>match d,sh with | .int k', .leaf=>decide (k'=k) |_,_=>false
 | .bool=>match d,sh with | .bool, .leaf=>true |_,_=>false
 | .string=>match d,sh with | .string, .leaf=>true |_,_=>false
 | .slice e=>match d,sh with | .slice e', .leaf=>Nat.beq e' e |_,_=>false
 | .arr n e=>match d,sh with
  | .array n' e', .arr m s=>Nat.beq n' n&&(Nat.beq e' e&&(Nat.beq m n&&(match tyOf C e with |some te=>s.same te.sh |none=>false)))
  |_,_=>false
 | .struct fs=>match d,sh with
  | .struct fields, .agg ss=>Nat.beq ss.length fs.length&&(z8u fs (fields.toList.map (·.type))&&fieldsCheck C fields.toList ss 0)
  |_,_=>false
 | .other=>match d,sh with | .struct _,_=>false | .array _ _,_=>false |_, .leaf=>true |_,_=>false
 where
 fieldsCheck (C:Cfg):List Field ->List Shape ->Nat ->Bool
  | [],_,_=>true
  | f :: fs, s :: ss, off => Nat.beq f.offset off && (decide (f.name ≠ "_") && ((match tyOf C f.type with | some te => s.same te.sh | none => false) && fieldsCheck C fs ss (off + s.size)))
  |_::_,[],_=>false
def zek (C:Cfg) (t:TypeId) (te:TyE):Bool:=
 match te.eqs with
 |false=>true
 |true=>(!C.P.eqGuardType C.P.depth t)&&((!C.P.stoodInHeld t)&&(match te.kind with
  | .struct fs=>fs.all fun e=>match tyOf C e with
   |some tf=>match tf.kind,tf.sh with
    | .int _, .leaf | .bool, .leaf | .string, .leaf=>true
    |_,_=>false
   |none=>false
  | .arr _ e=>match tyOf C e with
   |some tf=>match tf.sh with
    | .leaf=>true
    |_=>false
   |none=>false
  |_=>false))
def z3j (v:Value):AV ->Bool
 | .any=>v.oneCell'
 | .int k n=>match v with | .int k' n'=>decide (k'=k)&&(decide (n'=n)&&decide (k.wrap n=n)) |_=>false
 | .bool b=>match v with | .bool b'=>(match b,b' with |true,true |false,false=>true |_,_=>false) |_=>false
 | .str l=>match v with | .string s=>(match s.data.toList,l with | [],[]=>true |_,_=>false) |_=>false
 | .nils=>match v with | .slice none 0 0=>true |_=>false
 | .nilp=>match v with | .pointer none=>true |_=>false
 | .st x=>z3j v x
 |_=>false
def z7k (z:Array Value) (sh:Shape) (x:AV):Nat ->Bool
 |0=>true
 |j+1=>z3j (z.getD j undef) (z6 sh x j)&&z7k z sh x j
def zi1 (C:Cfg) (t:TypeId) (te:TyE):Bool:=
 match C.P.underlying t,C.P.info? t with
 |some d,some i=>match i.zero with
  |some z=>Nat.beq i.size te.sh.size&&(Nat.beq i.bytes te.bytes&&(Nat.beq z.cells.size te.sh.size&&(z2u C te.sh d te.kind&&(z7k z.cells te.sh te.zero te.sh.size&&(Nat.blt 0 te.sh.size&&(te.zero.isStat&&zek C t te))))))
  |none=>false
 |_,_=>false
theorem zae {v:Value}:∀ {x:AV},z3j v x=true ->z8t v x
 | .any,h=>h
 | .int k n,h=>by
  cases v<;>simp[z3j]at h
  obtain⟨rfl,rfl,h⟩:=h
  exact⟨rfl,h⟩
 | .bool b,h=>by
  cases v<;>simp[z3j]at h
  rename_i b'
  cases b<;>cases b'<;>simp_all [z8t]
 | .str l,h=>by
  cases v<;>simp[z3j]at h
  rename_i s
  split at h
  . rename_i h1
    show Value.string s= .string ⟨([]:List UInt8).toArray⟩
    congr 1
    obtain⟨⟨d⟩⟩:=s
    simp at h1
    subst h1
    rfl
  . cases h
 | .nils,h=>by
  unfold z3j at h
  split at h<;>first |rfl |cases h
 | .nilp,h=>by
  unfold z3j at h
  split at h<;>first |rfl |cases h
 | .st x,h=>by
  simp only[z8t]
  exact zae (by simpa [z3j]using h)
 | .seq _ _ _,h | .seqc _ _ _,h | .nseq _ _ _ _,h | .cov _,h | .rptr _ _,h | .own _ _,h | .ptr _ _,h | .ownx _ _ _ _,h | .optr _ _ _,h | .clo _ _,h | .agg _,h | .arr _ _,h | .mc _ _,h | .tup _,h | .when _ _,h=>by simp[z3j]at h
theorem z8v {z:Array Value} {sh:Shape} {x:AV}:∀ {n:Nat},z7k z sh x n=true ->∀ j,j<n ->z8t (z.getD j undef) (z6 sh x j)
 |0,_,j,hj=>by omega
 |n+1,h,j,hj=>by
  simp only[z7k,Bool.and_eq_true]at h
  by_cases e:j=n
  . subst e;exact zae h.1
  . exact z8v h.2 j (by omega)
theorem z81 {C:Cfg}:∀ {l:List Field} {ss:List Shape} {off:Nat},z2u.fieldsCheck C l ss off=true ->∀ (i:Nat) (f:Field),l[i]? =some f ->
 ∃ te, tyOf C f.type = some te /\ ss[i]? = some te.sh /\ f.offset = off + Shape.sizes (ss.take i) /\ f.name ≠ "_"
 | [],_,_,_,i,f,h=>by simp at h
 |g::l,[],_,h,_,_,_=>by simp[z2u.fieldsCheck]at h
 |g::l,s::ss,off,h,i,f,hf=>by
  simp only[z2u.fieldsCheck,Bool.and_eq_true]at h
  obtain⟨h1,h2,h3,h4⟩:=h
  cases i with
  |zero=>
   simp at hf
   subst hf
   split at h3
   . rename_i te hte
     exact⟨te,hte,by simp[Shape.same_eq _ _ h3],by simp[Nat.eq_of_beq_eq_true h1,Shape.sizes],by simpa using h2⟩
   . cases h3
  |succ i=>
   simp at hf
   obtain⟨te,a,b,c,d⟩:=z81 h4 i f hf
   exact⟨te,a,by simpa using b,by rw[c];simp[Shape.sizes,Nat.add_assoc],d⟩
theorem zg8 {C:Cfg} {sh:Shape} {d:TypeDesc} {k:TyK} (h:z2u C sh d k=true):z6p C sh d k:=by
 cases k with
 |int k=>simp only[z2u]at h;split at h<;>simp_all [z6p]
 |bool=>simp only[z2u]at h;split at h<;>simp_all [z6p]
 |string=>simp only[z2u]at h;split at h<;>simp_all [z6p]
 |slice e=>
  simp only[z2u]at h;split at h
  . simp[z6p,Nat.eq_of_beq_eq_true h]
  . cases h
 |arr n e=>
  simp only[z2u]at h;split at h
  . simp only[Bool.and_eq_true]at h
    obtain⟨h1,h2,h3,h4⟩:=h
    split at h4
    . rename_i te hte
      rw[Nat.eq_of_beq_eq_true h1,Nat.eq_of_beq_eq_true h2,Nat.eq_of_beq_eq_true h3,Shape.same_eq _ _ h4]
      exact⟨rfl,te,hte,rfl⟩
    . cases h4
  . cases h
 |struct fs=>
  simp only[z2u]at h;split at h
  . simp only[Bool.and_eq_true]at h
    obtain⟨h1,h2,h3⟩:=h
    refine⟨_,_,rfl,rfl,Nat.eq_of_beq_eq_true h1,zbo h2,fun i f hf=>?_⟩
    obtain⟨te,a,b,c,d⟩:=z81 h3 i f (by simpa using hf)
    exact⟨te,a,b,by simpa using c,d⟩
  . cases h
 |other=>
  simp only[z2u]at h
  split at h<;>simp_all [z6p]
theorem zi2 {C:Cfg} {t:TypeId} {te:TyE} (h:zek C t te=true) (he:te.eqs=true):C.P.eqGuardType C.P.depth t=false/\C.P.stoodInHeld t=false/\((∃ fs,te.kind= .struct fs/\
 ∀ e∈fs,∃ tf,tyOf C e=some tf/\tf.sh= .leaf/\((∃ k,tf.kind= .int k)∨tf.kind= .bool∨tf.kind= .string))∨
 ∃ n e tf,te.kind= .arr n e/\tyOf C e=some tf/\tf.sh= .leaf):=by
 simp only[zek,he,Bool.and_eq_true,Bool.not_eq_true']at h
 obtain⟨h1,h2,h3⟩:=h
 refine⟨h1,h2, ?_⟩
 split at h3
 . rename_i fs hk
   refine .inl ⟨fs,hk,fun e he'=>?_⟩
   have :=List.all_eq_true.1 h3 e he'
   split at this
   . rename_i tf htf
     refine⟨tf,htf, ?_⟩
     split at this
     . rename_i h1 h2;exact⟨h2, .inl ⟨_,h1⟩⟩
     . rename_i h1 h2;exact⟨h2, .inr (.inl h1)⟩
     . rename_i h1 h2;exact⟨h2, .inr (.inr h1)⟩
     . cases this
   . cases this
 . rename_i n e hk
   split at h3
   . rename_i tf htf
     split at h3
     . rename_i hs;exact .inr ⟨n,e,tf,hk,htf,hs⟩
     . cases h3
   . cases h3
 . cases h3
theorem zmd {C:Cfg} {t:TypeId} {te:TyE} (h:zi1 C t te=true):TyOK C t te:=by
 unfold zi1 at h
 split at h
 . rename_i d i hd hi
   split at h
   . rename_i z hz
     simp only[Bool.and_eq_true]at h
     obtain⟨h1,h2,h3,h4,h5,h6,h7,h8⟩:=h
     exact⟨⟨d,i,z,hd,hi,Nat.eq_of_beq_eq_true h1,Nat.eq_of_beq_eq_true h2,hz,Nat.eq_of_beq_eq_true h3,zg8 h4,z8v h5⟩,Nat.lt_of_succ_le (by simpa [Nat.blt]using h6),h7,zi2 h8⟩
   . cases h
 . cases h
theorem get_mem {α:Type}:∀ {l:List (Nat×α)} {s:Nat} {v:α},get l s=some v ->(s,v)∈l
 | [],_,_,h=>by simp[get]at h
 | (k,u)::l,s,v,h=>by
  simp only[get]at h
  split at h
  . rename_i hk
    cases h
    rw[Nat.eq_of_beq_eq_true hk];simp
  . exact List.mem_cons_of_mem _ (get_mem h)
def z1d (C:Cfg):Prop:=∀ t te,tyOf C t=some te ->TyOK C t te
theorem z3g {C:Cfg} (h:(C.T.all fun p=>zi1 C p.1 p.2)=true):z1d C:=fun t te ht=>
 zmd (List.all_eq_true.1 h (t,te) (get_mem ht))
theorem z8t.rep {v:Value} {w:World} {F:Nat ->Prop}:∀ {x:AV},z8t v x ->RepS w F v x
 | .any,h=> .any _ h
 | .int k n,h=>by obtain⟨rfl,h⟩:=h;exact .int _ _ h
 | .bool b,h=>by cases h;exact .bool _
 | .str l,h=>by cases h;exact .str ⟨l.toArray⟩
 | .nils,h=>by cases h;exact .nils
 | .nilp,h=>by cases h;exact .nilp
 | .st x,h=> .st (z8t.rep (x:=x) h)
 | .seq _ _ _,h | .seqc _ _ _,h | .nseq _ _ _ _,h | .cov _,h | .rptr _ _,h | .own _ _,h | .ptr _ _,h | .ownx _ _ _ _,h | .optr _ _ _,h | .clo _ _,h | .agg _,h | .arr _ _,h | .mc _ _,h | .tup _,h | .when _ _,h=>h.elim
end Go.AV
