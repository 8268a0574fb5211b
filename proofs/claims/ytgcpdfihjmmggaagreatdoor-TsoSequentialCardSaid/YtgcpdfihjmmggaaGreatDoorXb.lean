import Derived.Test.YtgcpdfihjmmggaaGreatDoorXa
import Derived.Maps.AppendAt
import Derived.Deep.Draws
import Derived.Laws.OwnMore
namespace Go.AV
open Go.RowKit
def get {α:Type}:List (Nat×α) ->Nat ->Option α
 | [],_=>none
 | (k,v)::l,s=>match Nat.beq k s with
  |true=>some v
  |false=>get l s
def del {α:Type}:List (Nat×α) ->Nat ->List (Nat×α)
 | [],_=>[]
 | (k,v)::l,s=>match Nat.beq k s with
  |true=>del l s
  |false=>(k,v)::del l s
def put {α:Type} (l:List (Nat×α)) (s:Nat) (v:α):List (Nat×α):=(s,v)::del l s
inductive ar where
 |cell (ty:TypeId) (sh:Shape) (x:AV)
 |row (ty:TypeId) (sh:Shape) (n:Nat) (f:Nat ->AV)
structure St where
 env:List (Nat×AV)
 heap:List (Nat×ar)
inductive rG where
 |int (k:IntKind)
 |bool
 |string
 |slice (e:TypeId)
 |arr (n:Nat) (e:TypeId)
 |struct (fs:List TypeId)
 |other
structure cN where
 sh:Shape
 zero:AV
 bytes:Nat
 kind:rG
 eqs:Bool
structure bu where
 P:Program
 T:List (Nat×cN)
 G:List (Nat×AV)
 vH:Bool
 ntmps:Nat
 fresh:FuncId ->List AV ->Option (List ar):=λ_ _=>none
 nU:FuncId ->List AV ->AV ->List ar ->Prop:=λ_ _ _ _=>False
 Vs:FuncId ->List AV ->Option (AV×ar):=λ_ _=>none
 mU:FuncId ->Nat ->Bool:=λ_ _=>false
 iZ:Nat ->Bool:=λ_=>false
 mq:Nat ->Bool:=λ_=>false
inductive Eff where
 |none
 |new (c:ar)
 |xF (b:Nat) (c:ar)
 |grow (b:Nat) (c:ar)
structure iT where
 val:AV
 gP:Eff
 iD:List Prop
def zhy:Value ->Option AV
 | .int k n=>match decide (k.wrap n=n)with |true=>some (.int k n) |false=>none
 | .bool b=>some (.bool b)
 | .string s=>some (.str s.data.toList)
 | .slice none 0 0=>some .ax
 | .pointer none=>some .dj
 | .nilFunc | .nilIface | .map none=>some .any
 |_=>none
def ev (C:bu) (st:St):Operand ->Option AV
 | .tmp t=>get st.env t
 | .const v=>zhy v
 | .global g=>get C.G g
 | .func f=>some (.c8 f [])
def aq:AV ->AV
 | .when _ x=>x
 |x=>x
def vJ:AV ->List Prop
 | .when q' _=>[q'=true]
 |_=>[]
def oX (sh:Shape) (x:AV):Option AV:=
 match sh with
 | .leaf=>match x.b8 with |true=>some x |false=>none
 |_=>some (.mc sh x)
def nO (sh:Shape) (x:AV):Option AV:=
 match sh,x with
 | .leaf,x=>match x.b8 with |true=>some x |false=>none
 |sh, .mc sh' y=>match sh.same sh' with |true=>some y |false=>none
 |_,_=>none
def zej:Operand ->Bool
 | .const (.bool false)=>true
 |_=>false
def zjx:Operand ->Bool
 | .const (.bool true)=>true
 |_=>false
def zn6 (p:Bool) (xf yf:Bool):AV ->AV ->Option AV
 | .bool a, .bool b=>match yf,xf with
  |true,_=>some (.bool (p&&a))
  |_,true=>some (.bool (p || b))
  |_,_=>some (.bool (bif p then a else b))
 | .int k a, .int k' b=>match decide (k=k')with |true=>some (.int k (bif p then a else b)) |false=>none
 |_,_=>none
def nB (C:bu) (k:IntKind) (n:Int):iT:=
 match C.vH with
 |true=>⟨.int k (k.wrap n), .none,[]⟩
 |false=>⟨.int k n, .none,[aM k n]⟩
def nW (k:rG) (x y:AV):Option Bool:=
 match k,x,y with
 | .int _, .int k a, .int k' b=>match decide (k=k')with |true=>some (a==b) |false=>none
 | .bool, .bool a, .bool b=>some (a==b)
 | .string, .str a, .str b=>some (a==b)
 |_,_,_=>none
def aU (C:bu) (t:TypeId):Option cN:=get C.T t
def vX (C:bu):List TypeId ->List AV ->List AV ->Option Bool
 | [],[],[]=>some true
 |t::ts,x::l,y::m=>match aU C t with
  |some te=>match nW te.kind x y,vX C ts l m with
   |some a,some b=>some (a&&b)
   |_,_=>none
  |none=>none
 |_,_,_=>none
def Kp (k:rG) (f g:Nat ->AV):List Nat ->Option Bool
 | []=>some true
 |i::l=>match nW k (f i) (g i),Kp k f g l with
  |some a,some b=>some (a&&b)
  |_,_=>none
def zzk (C:bu) (te:cN) (n:Nat) (f g:Nat ->AV):Option Bool:=
 match te.kind with
 | .arr m e=>match Nat.beq m n,aU C e with
  |true,some tf=>Kp tf.kind f g (List.range n)
  |_,_=>none
 |_=>none
def fieldsOf:rG ->List TypeId
 | .struct fs=>fs
 |_=>[]
def zbm (op:BinOp):AV ->AV ->Option iT
 | .int k a, .int _ b=>match op with
  | .shl=>some ⟨.int k (k.wrap (a*2 ^ b.toNat)), .none,[0<=b/\b<=k.bits]⟩
  | .shr=>some ⟨.int k (a/2 ^ b.toNat), .none,[0<=b/\b<=k.bits,aM k (a/2 ^ b.toNat)]⟩
  |_=>none
 |_,_=>none
def zn7 (C:bu) (te:cN) (op:BinOp) (x y:AV):Option iT:=
 match x,y with
 | .int k a, .int k' b=>match decide (k=k')with
  |true=>match op with
   | .add=>some (nB C k (a+b))
   | .sub=>some (nB C k (a - b))
   | .mul=>some (nB C k (a*b))
   | .quo=>some {nB C k (a.tdiv b)with iD:=(b≠0)::(nB C k (a.tdiv b)).iD}
   | .rem=>some ⟨.int k (a.tmod b), .none,[b≠0,aM k (a.tmod b)]⟩
   | .eql=>some ⟨.bool (a==b), .none,[]⟩
   | .neq=>some ⟨.bool (a !=b), .none,[]⟩
   | .lss=>some ⟨.bool (decide (a<b)), .none,[]⟩
   | .leq=>some ⟨.bool (decide (a<=b)), .none,[]⟩
   | .gtr=>some ⟨.bool (decide (b<a)), .none,[]⟩
   | .geq=>some ⟨.bool (decide (b<=a)), .none,[]⟩
   | .and=>some ⟨.int k (bits .and k a b), .none,[]⟩
   | .or=>some ⟨.int k (bits .or k a b), .none,[]⟩
   | .xor=>some ⟨.int k (bits .xor k a b), .none,[]⟩
   |_=>none
  |false=>none
 | .bool a, .bool b=>match te.kind with
  | .bool=>match op with
   | .eql=>some ⟨.bool (a==b), .none,[]⟩
   | .neq=>some ⟨.bool (!(a==b)), .none,[]⟩
   |_=>none
  |_=>none
 | .str a, .str b=>match op with
  | .eql=>some ⟨.bool (a==b), .none,[]⟩
  | .neq=>some ⟨.bool (!(a==b)), .none,[]⟩
  | .add=>some ⟨.str (a++b), .none,[((a.length+b.length:Nat):Int)<=9223372036854775807]⟩
  |_=>none
 | .mc (.agg ss) (.agg xs), .mc (.agg ts) (.agg ys)=>match te.eqs&&((Shape.agg ss).same te.sh&&(Shape.agg ts).same te.sh),vX C (fieldsOf te.kind) xs ys with
  |true,some b=>match op with
   | .eql=>some ⟨.bool b, .none,[]⟩
   | .neq=>some ⟨.bool (!b), .none,[]⟩
   |_=>none
  |_,_=>none
 | .mc (.arr n s) (.arr _ f), .mc (.arr m s') (.arr _ g)=>match te.eqs&&((Shape.arr n s).same te.sh&&(Shape.arr m s').same te.sh),zzk C te n f g with
  |true,some b=>match op with
   | .eql=>some ⟨.bool b, .none,[]⟩
   | .neq=>some ⟨.bool (!b), .none,[]⟩
   |_=>none
  |_,_=>none
 |_,_=>none
def zn8:IntKind ->IntKind ->Bool
 | .u8, .u8 | .u8, .i64 | .u8, .u64 | .u8, .i32 | .u8, .u32 | .i64, .i64 | .u64, .u64 | .i32, .i32 | .i32, .i64 | .u32, .u32 | .u32, .i64 | .u32, .u64=>true
 |_,_=>false
def zbn (ss:List Shape) (zs:List AV):List (Nat×AV) ->Option (List AV)
 | []=>some zs
 | (i,v)::l=>match ss[i]? with
  |some s=>match nO s v with
   |some y=>zbn ss (zs.set i y) l
   |none=>none
  |none=>none
def rY (s:Shape) (len:Nat) (zs:List AV):List (Nat×AV) ->Option (List AV)
 | []=>some zs
 | (i,v)::l=>match nO s v with
  |some y=>match y.aJ&&Nat.blt i len with
   |true=>rY s len (zs.set i y) l
   |false=>none
  |none=>none
def z49 (e:Operand ->Option AV):List (Nat×Operand) ->Option (List (Nat×AV))
 | []=>some []
 | (i,x)::l=>match e x,z49 e l with
  |some v,some vs=>some ((i,v)::vs)
  |_,_=>none
def kz (e:Operand ->Option AV):List Operand ->Option (List AV)
 | []=>some []
 |x::l=>match e x,kz e l with
  |some v,some vs=>some (v::vs)
  |_,_=>none
def Tj (b:Nat):List (Nat×AV) ->Bool
 | []=>false
 | (_,x)::l=>x.names b || Tj b l
def ar.isRow:ar ->Bool
 | .row _ _ _ _=>true
 |_=>false
def ar.names (b:Nat):ar ->Bool
 | .cell _ _ x=>x.names b
 | .row _ _ _ _=>false
def VA (b:Nat):List (Nat×ar) ->Bool
 | []=>false
 | (k,c)::l=>Nat.beq k b || c.names b || VA b l
def jL (st:St) (b:Nat):Bool:=!(Tj b st.env || (VA b st.heap || !Nat.blt b 1099511627776))
def V9 (b:Nat):List (Nat×AV) ->List (Nat×AV)
 | []=>[]
 | (k,x)::l=>(k,match x.names b with |true=> .when false .any |false=>x)::V9 b l
mutual
def AV.kill (b:Nat):AV ->AV
 | .own c n=>match Nat.beq c b with |true=> .any |false=> .own c n
 | .ptr c p=>match Nat.beq c b with |true=> .any |false=> .ptr c p
 | .bq c i p=>match Nat.beq c b with |true=> .any |false=> .bq c i p
 | .bJ c o n q=>match Nat.beq c b with |true=> .any |false=> .bJ c o n q
 | .c8 f l=>match AV.bG b l with |true=> .any |false=> .c8 f l
 | .agg l=> .agg (AV.kH b l)
 |x=>x
def AV.kH (b:Nat):List AV ->List AV
 | []=>[]
 |x::l=>x.kill b::AV.kH b l
end
def ar.kill (b:Nat) (c:ar):ar:=
 match c with
 | .cell tc sh x=>match x.names b with |true=> .cell tc sh (x.kill b) |false=> .cell tc sh x
 |c=>c
def Xn (b:Nat):List (Nat×ar) ->List (Nat×ar)
 | []=>[]
 | (k,c)::l=>(k,c.kill b)::Xn b l
mutual
def gC (h:List (Nat×ar)):AV ->Option (AV×List Prop)
 | .own b n=>match get h b with
  |some (.row _ sh n' f)=>some (.seq sh n f,[n<=n'])
  |_=>none
 | .ptr b p=>match get h b with
  |some (.cell _ sh x)=>match ia p sh,pd p sh x with
   |some s,some y=>match y.aJ with
    |true=>some (.bo s y,[])
    |false=>none
   |_,_=>none
  |_=>none
 | .agg l=>match ff h l with |some (m,ps)=>some (.agg m,ps) |none=>none
 | .c8 f l=>match ff h l with |some (m,ps)=>some (.c8 f m,ps) |none=>none
 | .mc sh x=>match gC h x with |some (y,ps)=>some (.mc sh y,ps) |none=>none
 | .bJ b o n c=>match Nat.beq o 0&&c,get h b with
  |true,some (.row _ sh n' f)=>some (.bD sh n f,[n<=n'])
  |_,_=>none
 | .bq _ _ _ | .av _ | .when _ _=>none
 |x=>some (x,[])
def ff (h:List (Nat×ar)):List AV ->Option (List AV×List Prop)
 | []=>some ([],[])
 |x::l=>match gC h x,ff h l with
  |some (y,ps),some (m,qs)=>some (y::m,ps++qs)
  |_,_=>none
end
mutual
def AV.isScalar:AV ->Bool
 | .int _ _ | .bool _ | .str _ | .ax | .dj=>true
 | .agg l | .av l=>AV.eF l
 | .mc _ x=>x.isScalar
 | .arr _ _=>false
 |_=>false
def AV.eF:List AV ->Bool
 | []=>true
 |x::l=>x.isScalar&&AV.eF l
end
def AV.qG:AV ->Bool
 | .av l=>AV.bB l
 |x=>x.aJ
def zzl:AV ->Option Nat
 | .seq _ n _ | .bD _ n _ | .own _ n | .cz _ _ n _ | .bJ _ _ n _=>some n
 | .ax=>some 0
 |_=>none
def X9 (st:St) (b:Nat) (p:List Nat):Option Shape:=
 match get st.heap b with
 |some (.cell _ sh _)=>ia p sh
 |_=>none
def gO (st:St) (b:Nat) (p:List Nat):Option Shape:=
 match get st.heap b with
 |some (.row _ sh _ _)=>ia p sh
 |_=>none
def af (i:Int) (n:Nat):Prop:=0<=i/\i<(n:Int)
def kk:Option AV ->Option Int
 |some (.int _ i)=>some i
 |_=>none
def lF (e:Operand ->Option AV) (d:Int):Option Operand ->Option Int
 |none=>some d
 |some o=>kk (e o)
def Q6 (st:St) (te:cN) (f:Nat):AV ->Option AV
 | .ptr b p=>match X9 st b p with
  |some s=>match s.same te.sh with
   |true=>some (.ptr b (p++[f]))
   |false=>none
  |none=>none
 | .bq b i p=>match gO st b p with
  |some s=>match s.same te.sh with
   |true=>some (.bq b i (p++[f]))
   |false=>none
  |none=>none
 | .bo (.agg ss) (.agg xs)=>match(Shape.agg ss).same te.sh with
  |true=>match ss[f]?,xs[f]? with
   |some s,some x=>some (.bo s x)
   |_,_=>none
  |false=>none
 |_=>none
def z7j:rG ->Nat
 | .struct fs=>fs.length
 |_=>0
mutual
def AV.sub (n:Nat ->Nat):AV ->AV
 | .own b k=> .own (n b) k
 | .ptr b p=> .ptr (n b) p
 | .bq b i p=> .bq (n b) i p
 | .bJ b o k c=> .bJ (n b) o k c
 | .agg l=> .agg (AV.kJ n l)
 | .av l=> .av (AV.kJ n l)
 | .mc sh x=> .mc sh (x.sub n)
 |x=>x
def AV.kJ (n:Nat ->Nat):List AV ->List AV
 | []=>[]
 |x::l=>x.sub n::AV.kJ n l
end
mutual
def AV.eh (m:Nat ->Bool):AV ->Bool
 | .own b _ | .ptr b _ | .bq b _ _ | .bJ b _ _ _=>m b
 | .agg l | .av l=>AV.fG m l
 | .mc _ x=>x.eh m
 | .when _ _=>false
 | .c8 _ l=>AV.bB l
 |_=>true
def AV.fG (m:Nat ->Bool):List AV ->Bool
 | []=>true
 |x::l=>x.eh m&&AV.fG m l
end
def AV.dm:AV ->Bool
 | .agg _ | .arr _ _ | .mc _ _ | .av _ | .when _ _=>false
 |_=>true
def zsg:AV ->Bool
 | .mc _ _=>true
 |y=>y.dm
def z9x:List AV ->Bool
 | []=>true
 |x::l=>zsg x&&z9x l
def below (k:Nat) (b:Nat):Bool:=Nat.blt b k
def tC (m:Nat ->Bool):AV ->Bool
 | .av l=>z9x l&&AV.fG m l
 |y=>zsg y&&y.eh m
def kx (C:bu) (fx:Operand) (dst:Option Nat):Option (FuncId×Nat):=
 match fx,dst with
 | .func f,some d=>match C.mU f d with
  |true=>some (f,d)
  |false=>none
 |_,_=>none
def zjy (C:bu) (f:FuncId) (d:Nat) (as:List AV):Option iT:=
 match C.Vs f as with
 |some (r, .row ty sh n g)=>match AV.bB as&&tC (below 1) r with
  |true=>some ⟨r.sub (λ_=>d), .new (.row ty sh n g),[C.nU f as r [.row ty sh n g]]⟩
  |false=>none
 |_=>none
def zl (C:bu) (st:St) (e:Operand ->Option AV) (dst:Option Nat) (b9:FuncId ->List AV ->Option AV) (CC:FuncId ->List AV ->AV ->Prop):Op ->Option iT
 | .move x | .assign x=>match e x with |some v=>some ⟨v, .none,[]⟩ |none=>none
 | .alloc t=>match aU C t,dst with
  |some te,some d=>some ⟨.ptr d [], .new (.cell t te.sh te.zero),[]⟩
  |_,_=>none
 | .box t x=>match aU C t,dst,e x with
  |some te,some d,some v=>match nO te.sh v with
   |some y=>some ⟨.ptr d [], .new (.cell t te.sh y),[]⟩
   |none=>none
  |_,_,_=>none
 | .build t parts=>match aU C t,z49 e parts.toList with
  |some te,some ps=>match te.sh,te.zero with
   | .agg ss, .agg zs=>match zbn ss zs ps,Nat.beq zs.length ss.length with
    |some ys,true=>some ⟨.mc (.agg ss) (.agg ys), .none,[]⟩
    |_,_=>none
   | .arr n s, .arr _ f=>match rY s n ((List.range n).map f) ps with
    |some ys=>some ⟨.mc (.arr n s) (.arr n (λi=>ys.getD i (f 0))), .none,[]⟩
    |none=>none
   |_,_=>none
  |_,_=>none
 | .buildSlice t len parts=>match aU C t,z49 e parts.toList,dst with
  |some te,some ps,some d=>match te.kind with
   | .slice el=>match aU C el with
    |some tl=>match rY tl.sh len (List.replicate len tl.zero) ps,tl.zero.aJ with
     |some ys,true=>match C.iZ d with
      |false=>some ⟨.own d len, .new (.row el tl.sh len (λi=>ys.getD i .any)),[len*tl.sh.size<=16777216]⟩
      |true=>some ⟨.seq tl.sh len (λi=>ys.getD i .any), .none,[len*tl.sh.size<=16777216]⟩
     |_,_=>none
    |none=>none
   |_=>none
  |_,_,_=>none
 | .load t a=>match aU C t with
  |some te=>match e a with
   |some (.ptr b p)=>match get st.heap b with
    |some (.cell _ sh x)=>match ia p sh,pd p sh x with
     |some s,some y=>match s.same te.sh with
      |true=>match oX te.sh y with |some z=>some ⟨z, .none,[]⟩ |none=>none
      |false=>none
     |_,_=>none
    |_=>none
   |some (.bq b i p)=>match get st.heap b with
    |some (.row _ sh n f)=>match ia p sh,pd p sh (f i)with
     |some s,some y=>match s.same te.sh with
      |true=>match oX te.sh y with |some z=>some ⟨z, .none,[i<n]⟩ |none=>none
      |false=>none
     |_,_=>none
    |_=>none
   |some (.bo sh x)=>match sh.same te.sh with
    |true=>match oX te.sh x with |some z=>some ⟨z, .none,[]⟩ |none=>none
    |false=>none
   |_=>none
  |none=>none
 | .store t a v=>match aU C t,e v,dst with
  |some te,some v,none=>match nO te.sh v with
   |some y=>match e a with
    |some (.ptr b p)=>match get st.heap b with
     |some (.cell tc sh x)=>match ia p sh,nf p sh x y with
      |some s,some x'=>match s.same te.sh with
       |true=>some ⟨.any, .xF b (.cell tc sh x'),[]⟩
       |false=>none
      |_,_=>none
     |_=>none
    |some (.bq b i p)=>match get st.heap b with
     |some (.row ty sh n f)=>match ia p sh,nf p sh (f i) y with
      |some s,some x'=>match s.same te.sh&&y.aJ with
       |true=>some ⟨.any, .xF b (.row ty sh n (λj=>if j=i then x' else f j)),[i<n]⟩
       |false=>none
      |_,_=>none
     |_=>none
    |_=>none
   |none=>none
  |_,_,_=>none
 | .nilCheck x=>match e x with
  |some (.ptr b p)=>some ⟨.ptr b p, .none,[]⟩
  |some (.bq b i p)=>some ⟨.bq b i p, .none,[]⟩
  |some (.bo s x)=>some ⟨.bo s x, .none,[]⟩
  |some (.c8 f l)=>some ⟨.c8 f l, .none,[]⟩
  |_=>none
 | .binOp op t x y _=>match op with
  | .shl | .shr=>match e x,e y with
   |some a,some b=>zbm op a b
   |_,_=>none
  |_=>match aU C t,e x,e y with
   |some te,some a,some b=>zn7 C te op a b
   |_,_,_=>none
 | .unOp op _ x=>match op,e x with
  | .not,some (.bool b)=>some ⟨.bool (!b), .none,[]⟩
  | .neg,some (.int k n)=>some (nB C k (0 - n))
  |_,_=>none
 | .convert src dst x=>match aU C src,aU C dst,e x with
  |some ts,some td,some (.int k n)=>match ts.kind,td.kind with
   | .int k0, .int k'=>match decide (k0=k)&&zn8 k k' with
    |true=>some ⟨.int k' n, .none,[]⟩
    |false=>some ⟨.int k' (k'.wrap n), .none,[]⟩
   |_,_=>none
  |some ts,some td,some (.str l)=>match ts.kind,td.kind with
   | .string, .string=>some ⟨.str l, .none,[]⟩
   |_,_=>none
  |_,_,_=>none
 | .makeFunc (.func f) first captured=>match first.size,kz e captured.toList with
  |0,some l=>some ⟨.c8 f l, .none,[]⟩
  |_,_=>none
 | .makeSlice t ln cp=>match aU C t,kk (e ln),kk (e cp),dst with
  |some te,some n,some c,some d=>match te.kind with
   | .slice el=>match aU C el with
    |some tl=>match tl.zero.aJ with
     |true=>match C.mq d with
      |false=>some ⟨.own d n.toNat, .new (.row el tl.sh n.toNat (λ_=>tl.zero)),[0<=n/\n<=c/\(tl.bytes:Int)*c<=140737488355328/\c<=9223372036854775807]⟩
      |true=>some ⟨.bJ d 0 n.toNat true, .new (.row el tl.sh n.toNat (λ_=>tl.zero)),[0<=n/\n<=c/\(tl.bytes:Int)*c<=140737488355328/\c<=9223372036854775807/\n=c]⟩
     |false=>none
    |none=>none
   |_=>none
  |_,_,_,_=>none
 | .slice t x lo hi mx=>match aU C t,e x with
  |some te,some v=>match te.kind with
   | .string=>match v with
    | .str l=>match lF e 0 lo,lF e (l.length:Int) hi,mx with
     |some a,some b,none=>some ⟨.str ((l.drop a.toNat).take (b - a).toNat), .none,[0<=a/\a<=b/\b<=(l.length:Int)]⟩
     |_,_,_=>none
    |_=>none
   | .slice el=>match aU C el,v with
    |some tl, .seq sh n f=>match sh.same tl.sh,lF e 0 lo,lF e (n:Int) hi,mx with
     |true,some a,some b,none=>some ⟨.seq sh (b - a).toNat (λi=>f (a.toNat+i)), .none,[0<=a/\a<=b/\b<=(n:Int)]⟩
     |true,some a,some b,some m=>match kk (e m),hi.isSome with
      |some m,true=>some ⟨.bD sh (b - a).toNat (λi=>f (a.toNat+i)), .none,[0<=a/\a<=b/\b<=(n:Int)/\m=b]⟩
      |_,_=>none
     |_,_,_,_=>none
    |some tl, .own b n=>match get st.heap b with
     |some (.row _ sh _ _)=>match lo with
      |some (.tmp t)=>match sh.same tl.sh,kk (e (.tmp t)),lF e (n:Int) hi,mx with
       |true,some a,some h,none=>some ⟨.bJ b a.toNat (h - a).toNat false, .none,[0<=a/\a<=h/\h<=(n:Int)]⟩
       |_,_,_,_=>none
      |_=>match sh.same tl.sh,lF e 0 lo,lF e (n:Int) hi,mx with
       |true,some 0,some h,none=>some ⟨.own b h.toNat, .none,[0<=h/\h<=(n:Int)]⟩
       |_,_,_,_=>none
     |_=>none
    |_,_=>none
   |_=>none
  |_,_=>none
 | .fieldAddr t x f=>match aU C t,e x with
  |some te,some v=>match Nat.blt f (z7j te.kind)with
   |true=>match Q6 st te f v with
    |some r=>some ⟨r, .none,[]⟩
    |none=>none
   |false=>none
  |_,_=>none
 | .field t x f=>match aU C t,e x with
  |some te,some (.mc (.agg ss) (.agg xs))=>match(Shape.agg ss).same te.sh&&Nat.blt f (z7j te.kind),ss[f]?,xs[f]? with
   |true,some s,some y=>match oX s y with |some z=>some ⟨z, .none,[]⟩ |none=>none
   |_,_,_=>none
  |_,_=>none
 | .indexAddr t x ix=>match aU C t,e x,kk (e ix)with
  |some te,some v,some i=>match te.kind with
   | .slice el=>match aU C el with
    |some tl=>match v with
     | .seq sh n f | .bD sh n f | .cz _ sh n f=>match sh.same tl.sh with
      |true=>some ⟨.bo sh (f i.toNat), .none,[af i n]⟩
      |false=>none
     | .own b n=>match get st.heap b with
      |some (.row _ sh _ _)=>match sh.same tl.sh with
       |true=>some ⟨.bq b i.toNat [], .none,[af i n]⟩
       |false=>none
      |_=>none
     | .bJ b o n _=>match get st.heap b with
      |some (.row _ sh _ _)=>match sh.same tl.sh with
       |true=>some ⟨.bq b (o+i.toNat) [], .none,[af i n]⟩
       |false=>none
      |_=>none
     |_=>none
    |none=>none
   | .arr n _=>match v with
    | .ptr b p=>match X9 st b p with
     |some s=>match s.same te.sh with
      |true=>some ⟨.ptr b (p++[i.toNat]), .none,[af i n]⟩
      |false=>none
     |none=>none
    | .bq b k p=>match gO st b p with
     |some s=>match s.same te.sh with
      |true=>some ⟨.bq b k (p++[i.toNat]), .none,[af i n]⟩
      |false=>none
     |none=>none
    | .bo (.arr m s) (.arr _ f)=>match(Shape.arr m s).same te.sh with
     |true=>some ⟨.bo s (f i.toNat), .none,[af i n]⟩
     |false=>none
    |_=>none
   |_=>none
  |_,_,_=>none
 | .index t x ix=>match aU C t,e x,kk (e ix)with
  |some te,some v,some i=>match te.kind,v with
   | .string, .str l=>some ⟨.int .u8 ((l.getD i.toNat 0).toNat:Int), .none,[af i l.length]⟩
   | .arr n _, .mc (.arr m s) (.arr _ f)=>match(Shape.arr m s).same te.sh with
    |true=>match oX s (f i.toNat)with |some z=>some ⟨z, .none,[af i n]⟩ |none=>none
    |false=>none
   |_,_=>none
  |_,_,_=>none
 | .extract x i=>match e x with
  |some (.av l)=>match l[i]? with |some v=>some ⟨v, .none,[]⟩ |none=>none
  |_=>none
 | .call c=>match c.callee with
  | .builtin .len=>match c.args.toList,c.argTypes.toList with
   | [x],[t]=>match aU C t,e x with
    |some te,some v=>match te.kind with
     | .slice _=>match zzl v with |some n=>some ⟨.int .i64 (n:Int), .none,[(n:Int)<=9223372036854775807]⟩ |none=>none
     | .string=>match v with | .str l=>some ⟨.int .i64 (l.length:Int), .none,[(l.length:Int)<=9223372036854775807]⟩ |_=>none
     | .arr n _=>match Nat.ble n 9223372036854775807 with |true=>some ⟨.int .i64 (n:Int), .none,[]⟩ |false=>none
     |_=>none
    |_,_=>none
   |_,_=>none
  | .builtin .append=>match c.args.toList,c.argTypes.toList,dst with
   | [x,y],[t,t'],some d=>match aU C t,Nat.beq t t',e x,e y with
    |some te,true,some v,some u=>match te.kind with
     | .slice el=>match aU C el with
      |some tl=>
       match(match u with
        | .seq sh m g | .bD sh m g=>some (sh,m,g,[])
        | .own b m=>match get st.heap b with |some (.row _ sh n' g)=>some (sh,m,g,[m<=n']) |_=>none
        | .ax=>some (tl.sh,0,(λ_=>AV.any),[])
        |_=>none:Option (Shape×Nat×(Nat ->AV)×List Prop))with
       |some (su,m,g,ps)=>match su.same tl.sh&&tl.zero.aJ,v with
        |true, .ax=>match C.iZ d with
         |false=>some ⟨.own d m, .new (.row el su m g),((m:Int)*tl.bytes<=140737488355328/\m<=9223372036854775807)::ps⟩
         |true=>match C.mq d with
          |false=>some ⟨.seq su m g, .none,((m:Int)*tl.bytes<=140737488355328/\m<=9223372036854775807)::ps⟩
          |true=>some ⟨.ax, .none,(m=0)::ps⟩
        |true, .bD sh n f=>match sh.same su with
         |true=>match C.iZ d with
          |false=>some ⟨.own d (n+m), .new (.row el su (n+m) (λi=>if i<n then f i else g (i - n))),(0<m/\((n+m:Nat):Int)*tl.bytes<=140737488355328/\n+m<=9223372036854775807)::ps⟩
          |true=>some ⟨.seq su (n+m) (λi=>if i<n then f i else g (i - n)), .none,(0<m/\((n+m:Nat):Int)*tl.bytes<=140737488355328/\n+m<=9223372036854775807)::ps⟩
         |false=>none
        |true, .own b n=>match get st.heap b with
         |some (.row ty sh n' f)=>match Nat.beq ty el&&sh.same su&&(match u with | .own b' _=>!Nat.beq b b' |_=>true)with
          |true=>some ⟨.own b (n+m), .grow b (.row ty sh (n+m) (λi=>if i<n then f i else g (i - n))),(n=n'/\((n+m:Nat):Int)*tl.bytes<=140737488355328/\n+m<=9223372036854775807)::ps⟩
          |false=>none
         |_=>none
        |_,_=>none
       |none=>none
      |none=>none
     |_=>none
    |_,_,_,_=>none
   |_,_,_=>none
  | .builtin .copy=>match c.args.toList,c.argTypes.toList with
   | [x,y],[t,t']=>match aU C t,aU C t',e x,e y with
    |some te,some te',some (.own b n),some u=>match te.kind,te'.kind with
     | .slice el, .slice el'=>match aU C el,Nat.beq el el',get st.heap b with
      |some tl,true,some (.row ty sh n' f)=>
       match(match u with
        | .seq su m g | .bD su m g=>some (su,m,g)
        | .ax=>some (tl.sh,0,λ_=>AV.any)
        |_=>none:Option (Shape×Nat×(Nat ->AV)))with
       |some (su,m,g)=>match su.same tl.sh&&sh.same tl.sh with
        |true=>some ⟨.int .i64 ((min m n:Nat):Int), .xF b (.row ty sh n' (λi=>if i<min m n then g i else f i)),[n<=n'/\(n:Int)<=9223372036854775807]⟩
        |false=>none
       |none=>none
      |_,_,_=>none
     |_,_=>none
    |some te,some te',some (.bJ b o n _),some u=>match te.kind,te'.kind with
     | .slice el, .slice el'=>match aU C el,Nat.beq el el',get st.heap b with
      |some tl,true,some (.row ty sh n' f)=>
       match(match u with
        | .seq su m g | .bD su m g=>some (su,m,g)
        | .ax=>some (tl.sh,0,λ_=>AV.any)
        |_=>none:Option (Shape×Nat×(Nat ->AV)))with
       |some (su,m,g)=>match su.same tl.sh&&sh.same tl.sh with
        |true=>some ⟨.int .i64 ((min m n:Nat):Int), .xF b (.row ty sh n' (λi=>if o<=i/\i<o+min m n then g (i - o)else f i)),[o+n<=n'/\(n:Int)<=9223372036854775807]⟩
        |false=>none
       |none=>none
      |_,_,_=>none
     |_,_=>none
    |_,_,_,_=>none
   |_,_=>none
  | .builtin .min=>match c.args.toList with
   | [x,y]=>match e x,e y with
    |some (.int k a),some (.int k' b)=>match decide (k=k')with |true=>some ⟨.int k (if b<a then b else a), .none,[]⟩ |false=>none
    |_,_=>none
   |_=>none
  | .builtin .max=>match c.args.toList with
   | [x,y]=>match e x,e y with
    |some (.int k a),some (.int k' b)=>match decide (k=k')with |true=>some ⟨.int k (if a<b then b else a), .none,[]⟩ |false=>none
    |_,_=>none
   |_=>none
  | .value fx=>match kx C fx dst with
   |some (f,d)=>match kz e c.args.toList with
    |some as=>zjy C f d as
    |none=>none
   |none=>match e fx,kz e c.args.toList with
    |some (.c8 f caps),some args=>match ff st.heap (args++caps)with
     |some (as,ps)=>match b9 f as with
      |some r=>match r.isScalar || (AV.bB (args++caps)&&r.qG)with
       |true=>some ⟨r, .none,CC f as r::ps⟩
       |false=>none
      |none=>none
     |none=>none
    |_,_=>none
  |_=>none
 |_=>none
def zx (st:St) (dst:Option Nat):Eff ->Option St
 | .none=>some st
 | .new c=>match dst with
  |some d=>match jL st d&&!c.names d with
   |true=>some {st with heap:=put st.heap d c}
   |false=>none
  |none=>none
 | .xF b c=>some {st with heap:=put st.heap b c}
 | .grow b c=>some {env:=V9 b st.env,heap:=put (Xn b st.heap) b c}
def z6x (st:St) (dst:Option Nat) (v:AV):St:=
 match dst with
 |some d=>{st with env:=put st.env d v}
 |none=>st
def zg6:Eff ->Bool
 | .none=>true
 |_=>false
def zsh (C:bu):Option Nat ->Bool
 |some d=>Nat.blt d C.ntmps
 |none=>true
def uz (C:bu) (st:St):List Operand ->List Prop
 | []=>[]
 |x::l=>match ev C st x with
  |some v=>vJ v++uz C st l
  |none=>uz C st l
def hY (C:bu) (st:St) (x:Operand):Option AV:=match ev C st x with |some v=>some (aq v) |none=>none
def impl (q:Bool):List Prop ->List Prop
 | []=>[]
 |p::l=>(q=true ->p)::impl q l
def zhz (C:bu) (st:St) (p:Bool) (c a b:Operand):List Prop:=
 (match ev C st c with |some v=>vJ v |none=>[])++impl p (match ev C st a with |some v=>vJ v |none=>[])++impl (!p) (match ev C st b with |some v=>vJ v |none=>[])
def nD (C:bu) (CC:FuncId ->List AV ->AV ->Prop) (b9:FuncId ->List AV ->Option AV) (st:St) (o:Oper):Option iT:=
 match o.op with
 | .pick c a b=>match hY C st c,hY C st a,hY C st b with
  |some (.bool p),some x,some y=>match zn6 p (zjx a) (zej b) x y with
   |some v=>some ⟨v, .none,zhz C st p c a b⟩
   |none=>none
  |_,_,_=>none
 |op=>match zl C st (hY C st) o.dst b9 CC op with
  |some r=>some {r with iD:=uz C st op.operands.toList++r.iD}
  |none=>none
def Nc (_:bu) (st:St) (ops:List Oper) (g:Nat×Bool):Option Bool:=
 match ops[g.1]? with
 |some o=>match o.dst with
  |some d=>match get st.env d with
   |some (.bool p)=>some (match g.2 with |true=>p |false=>!p)
   |some (.when q (.bool p))=>some (q&&(match g.2 with |true=>p |false=>!p))
   |_=>none
  |none=>none
 |none=>none
def lh (C:bu) (CC:FuncId ->List AV ->AV ->Prop) (b9:FuncId ->List AV ->Option AV) (ops:List Oper) (st:St) (o:Oper):Option (St×List Prop):=
 match zsh C o.dst with
 |false=>none
 |true=>match o.guard with
  |none=>match nD C CC b9 st o with
   |some r=>match zx st o.dst r.gP with
    |some st'=>some (z6x st' o.dst r.val,r.iD)
    |none=>none
   |none=>none
  |some g=>match Nc C st ops g with
   |some q=>match nD C CC b9 st o with
    |some r=>match zg6 r.gP with
     |true=>some (z6x st o.dst (.when q r.val),impl q r.iD)
     |false=>none
    |none=>none
   |none=>none
def qD (C:bu) (CC:FuncId ->List AV ->AV ->Prop) (b9:Nat ->FuncId ->List AV ->Option AV) (all:List Oper):List Oper ->Nat ->St ->Option (St×List Prop)
 | [],_,st=>some (st,[])
 |o::rest,i,st=>match lh C CC (b9 i) all st o with
  |some (st',ps)=>match qD C CC b9 all rest (i+1) st' with
   |some (st'',qs)=>some (st'',ps++qs)
   |none=>none
  |none=>none
theorem zv {α:Type} (l:List (Nat×α)) (s:Nat) (v:α):get (put l s v) s=some v:=by
 simp[put,get]
theorem zg7 {α:Type} (l:List (Nat×α)) (s:Nat):get (del l s) s=none:=by
 induction l with
 |nil=>rfl
 |cons p l ih=>
  obtain⟨k,v⟩:=p
  simp only[del]
  split
  . exact ih
  . rename_i h;simp only[get,h];exact ih
theorem z66 {α:Type} (l:List (Nat×α)) (s t:Nat) (h:t≠s):get (del l s) t=get l t:=by
 induction l with
 |nil=>rfl
 |cons p l ih=>
  obtain⟨k,v⟩:=p
  simp only[del]
  split
  . rename_i hk
    have :=xc hk
    subst this
    rw[ih]
    have :Nat.beq k t=false:=by
     cases e:Nat.beq k t with
     |false=>rfl
     |true=>exact absurd (xc e).symm h
    simp[get,this]
  . simp only[get];split<;>first |rfl |exact ih
theorem zb {α:Type} (l:List (Nat×α)) (s t:Nat) (v:α) (h:t≠s):get (put l s v) t=get l t:=by
 have :Nat.beq s t=false:=by
  cases e:Nat.beq s t with
  |false=>rfl
  |true=>exact absurd (xc e).symm h
 simp only[put,get,this]
 exact z66 l s t h
structure Kept (L:Nat ->Prop) (w w':World):Prop where
 os:w'.os=w.os
 tape:w'.tape=w.tape
 output:w'.output=w.output
 size:w.heap.size<=w'.heap.size
 block:∀ k,k<w.heap.size ->¬ L k ->w'.heap[k]? =w.heap[k]?
theorem Kept.refl (L:Nat ->Prop) (w:World):Kept L w w:=⟨rfl,rfl,rfl,xm _,λ_ _ _=>rfl⟩
theorem Kept.trans {L L':Nat ->Prop} {a b c:World} (h:Kept L a b) (k:Kept L' b c) (hL:∀ i,L' i ->i<a.heap.size ->L i):Kept L a c:=
 ⟨k.os.trans h.os,k.tape.trans h.tape,k.output.trans h.output,yd h.size k.size,λi hi hn=>(k.block i (wj hi h.size) λhl=>hn (hL i hl hi)).trans (h.block i hi hn)⟩
theorem Kept.below {L:Nat ->Prop} {a b c:World} (h:Kept L a b) (k:Below b.heap.size b c):Kept L a c:=
 h.trans (L':=λ_=>False) ⟨k.os,k.tape,k.output,k.size,λi hi _=>k.block i hi⟩ λ_ hf=>hf.elim
theorem Kept.toBelow {a b:World} (h:Kept (λ_=>False) a b):Below a.heap.size a b:=⟨h.os,h.tape,h.output,h.size,λk hk=>h.block k hk λhf=>hf⟩
structure Entry where
 w:World
 L:Nat ->Prop
 A:Nat ->Option Place
 D:List Deferred:=[]
def Entry.B (E:Entry) (k:Nat):Prop:=E.w.heap.size<=k∨E.L k
def Entry.of (w:World):Entry:=⟨w,λ_=>False,λ_=>none,[]⟩
def z24 (w:World) (F:Nat ->Prop) (φ:Nat ->Place) (B:Nat ->Prop) (b:Nat):ar ->Prop
 | .cell tc sh x=>(φ b).sh=sh/\∃ g cs,(φ b).bV=some g/\B g/\¬ F g/\w.heap[g]? =some (.cells cs tc (0,0))/\cs.size=sh.size/\
  ∀ j,j<sh.size ->aG w F φ (cs.getD j undef) (z6 sh x j)
 | .row ty sh n f=>(φ b).sh=sh/\(φ b).ty=ty/\(((φ b).bV=none/\n=0)∨∃ g cs,(φ b).bV=some g/\B g/\¬ F g/\w.heap[g]? =some (.cells cs ty (0,0))/\
  cs.size=(φ b).cap*sh.size/\n<=(φ b).cap/\(φ b).cap<=maxLen/\∀ i,i<n ->∀ j,j<sh.size ->au w F (cs.getD (i*sh.size+j) undef) (z6 sh (f i) j))
structure Rel (C:bu) (W0:Entry) (F0:Nat ->Prop) (st:St) (a:Act) (w:World) (F:Nat ->Prop) (φ:Nat ->Place):Prop where
 env:∀ s x,get st.env s=some x ->∃ v,a.tmps[s]? =some v/\aG w F φ v x
 heap:∀ b c,get st.heap b=some c ->z24 w F φ W0.B b c
 inj:∀ b b' c c' g,get st.heap b=some c ->get st.heap b'=some c' ->(φ b).bV=some g ->(φ b').bV=some g ->b=b'
 ro:∀ k,F k ->k<w.heap.size
 base:Kept W0.L W0.w w
 sub:∀ k,F0 k ->F k
 new:∀ k,F k ->F0 k∨W0.B k
 eR:a.defers=W0.D
 iC:a.tmps.size=C.ntmps
 ck:∀ g x,get C.G g=some x ->au w F (.pointer (some ⟨g,0,none⟩)) x
 gV:∀ b p,W0.A b=some p ->1099511627776<=b/\φ b=p/\∀ c,get st.heap b=some c ->c.isRow=false
theorem z24.lt {w:World} {F:Nat ->Prop} {φ:Nat ->Place} {base:Nat ->Prop} {b g:Nat} {c:ar} (h:z24 w F φ base b c) (hg:(φ b).bV=some g):g<w.heap.size/\¬ F g/\base g:=by
 cases c with
 |cell tc sh x=>
  obtain⟨_,g',cs,h1,h2,h3,h4,_⟩:=h
  rw[hg]at h1;cases h1
  exact⟨(xj.1 h4).1,h3,h2⟩
 |row ty sh n f=>
  obtain⟨_,_,⟨h1,_⟩ | ⟨g',cs,h1,h2,h3,h4,_⟩⟩:=h
  . rw[hg]at h1;cases h1
  . rw[hg]at h1;cases h1
    exact⟨(xj.1 h4).1,h3,h2⟩
theorem z24.keep {w w':World} {F F':Nat ->Prop} {φ φ':Nat ->Place} {base:Nat ->Prop} {b:Nat} {c:ar} (h:z24 w F φ base b c) (hw:∀ k,F k ->w'.heap[k]? =w.heap[k]?) (hF:∀ k,F k ->F' k)
 (hg:∀ g,(φ b).bV=some g ->w'.heap[g]? =w.heap[g]? /\¬ F' g) (hb:φ' b=φ b) (hφ:∀ d,c.names d=true ->φ' d=φ d):z24 w' F' φ' base b c:=by
 cases c with
 |cell tc sh x=>
  obtain⟨h0,g,cs,h1,h2,h3,h4,h5,h6⟩:=h
  refine⟨by rw[hb];exact h0,g,cs,by rw[hb];exact h1,h2,(hg g h1).2,(hg g h1).1.trans h4,h5,λj hj=>?_⟩
  exact(h6 j hj).keep hw hF λd hd=>hφ d (by simp only[ar.names];exact z3s sh x j hd)
 |row ty sh n f=>
  obtain⟨h0,h0',h⟩:=h
  refine⟨by rw[hb];exact h0,by rw[hb];exact h0', ?_⟩
  rw[hb]
  rcases h with h | ⟨g,cs,h1,h2,h3,h4,h5,h6,h7,h8⟩
  . exact .inl h
  . exact .inr ⟨g,cs,h1,h2,(hg g h1).2,(hg g h1).1.trans h4,h5,h6,h7,λi hi j hj=>(h8 i hi j hj).keep hw hF⟩
section
variable {C:bu} {W0:Entry} {F0:Nat ->Prop} {st:St} {a:Act} {w:World} {F:Nat ->Prop} {φ:Nat ->Place}
theorem Rel.nP (h:Rel C W0 F0 st a w F φ) {k:Nat} (hk:w.heap.size<=k):W0.B k:= .inl (yd h.base.size hk)
theorem Rel.grown (h:Rel C W0 F0 st a w F φ) {w':World} {F':Nat ->Prop} (hb:Below w.heap.size w w') (hF:∀ k,F k ->F' k) (hn:∀ k,F' k ->F k∨w.heap.size<=k) (hl:∀ k,F' k ->k<w'.heap.size):
 Rel C W0 F0 st a w' F' φ:=by
 have hk:∀ k,F k ->w'.heap[k]? =w.heap[k]? :=λk hk=>hb.block k (h.ro k hk)
 refine⟨λs x hs=>?_,λb c hc=>?_,h.inj,hl,h.base.below hb,λk hk=>hF k (h.sub k hk),λk hk=>?_,h.eR,h.iC,λg x hg=>(h.ck g x hg).keep hk hF,h.gV⟩
 . obtain⟨v,hv,hr⟩:=h.env s x hs
   exact⟨v,hv,hr.keep hk hF λ_ _=>rfl⟩
 . have hc':=h.heap b c hc
   refine hc'.keep hk hF (λg hg=>?_) rfl λ_ _=>rfl
   obtain⟨h1,h2,_⟩:=hc'.lt hg
   refine⟨hb.block g h1,λh3=>?_⟩
   rcases hn g h3 with h4 |h4
   . exact h2 h4
   . omega
 . rcases hn k hk with h1 |h1
   . exact h.new k h1
   . have :=h.base.size;exact .inr (.inl (by omega))
theorem Rel.pK (h:Rel C W0 F0 st a w F φ) {d:Nat} {v:Value} {x:AV} (hd:d<C.ntmps) (hv:aG w F φ v x):Rel C W0 F0 {st with env:=put st.env d x} (a.put (some d) v) w F φ:=by
 refine⟨λs y hs=>?_,h.heap,h.inj,h.ro,h.base,h.sub,h.new,h.eR,by simp[Act.put,h.iC],h.ck,h.gV⟩
 by_cases e:s=d
 . subst e
   rw[zv]at hs
   cases hs
   exact⟨v,by simp[Act.put,h.iC,hd],hv⟩
 . simp only[zb _ _ _ _ e]at hs
   obtain⟨u,hu,hr⟩:=h.env s y hs
   refine⟨u, ?_,hr⟩
   simp only[Act.put]
   rw[ws (jh e)]
   exact hu
theorem Rel.alg (h:Rel C W0 F0 st a w F φ) (d:Nat) (v:Value):Rel C W0 F0 {st with env:=del st.env d} (a.put (some d) v) w F φ:=by
 refine⟨λs y hs=>?_,h.heap,h.inj,h.ro,h.base,h.sub,h.new,h.eR,by simp[Act.put,h.iC],h.ck,h.gV⟩
 by_cases e:s=d
 . subst e;simp[zg7]at hs
 . simp only[z66 _ _ _ e]at hs
   obtain⟨u,hu,hr⟩:=h.env s y hs
   refine⟨u, ?_,hr⟩
   simp only[Act.put]
   rw[ws (jh e)]
   exact hu
theorem Tp {b:Nat}:∀ {l:List (Nat×AV)} {s:Nat} {x:AV},get l s=some x ->Tj b l=false ->x.names b=false
 | [],_,_,h,_=>by simp[get]at h
 | (k,v)::l,s,x,h,hn=>by
  simp only[Tj,xg]at hn
  simp only[get]at h
  split at h
  . cases h;exact hn.1
  . exact Tp h hn.2
theorem Og {b:Nat}:∀ {l:List (Nat×ar)} {s:Nat} {c:ar},get l s=some c ->VA b l=false ->c.names b=false/\s≠b
 | [],_,_,h,_=>by simp[get]at h
 | (k,v)::l,s,x,h,hn=>by
  simp only[VA,xg]at hn
  simp only[get]at h
  split at h
  . rename_i hk
    cases h
    have :=xc hk
    subst this
    refine⟨hn.1.2,λe=>?_⟩
    subst e
    simp at hn
  . exact Og h hn.2
theorem nT (φ:Nat ->Place) (d:Nat) (pl:Place) {b:Nat} (h:b≠d):(λk=>if k=d then pl else φ k) b=φ b:=by simp[h]
theorem zi0 {W0:Entry} {st:St} {φ:Nat ->Place} (h:∀ b p,W0.A b=some p ->1099511627776<=b/\φ b=p/\∀ c,get st.heap b=some c ->c.isRow=false) {d:Nat} {c:ar} {pl:Place} (hd:(!Nat.blt d 1099511627776)=false):
 ∀ b p,W0.A b=some p ->1099511627776<=b/\(λk=>if k=d then pl else φ k) b=p/\∀ c',get (put st.heap d c) b=some c' ->c'.isRow=false:=by
 intro b p hb
 obtain⟨h1,h2,h3⟩:=h b p hb
 have hd:d<1099511627776:=by
  cases e:Nat.blt d 1099511627776 with
  |false=>rw[e]at hd;cases hd
  |true=>exact wo e
 have hne:b≠d:=by omega
 exact⟨h1,by simp only[hne,yi];exact h2,λc' hc'=>h3 c' (by rwa [zb _ _ _ _ hne]at hc')⟩
theorem Rel.qP (h:Rel C W0 F0 st a w F φ) {d:Nat} {c:ar} (hf:jL st d=true) (hc:c.names d=false) (o:Obj) (pl:Place) (hpl:pl.bV=some w.heap.size)
 (hB:z24 (w.alloc o) F (λk=>if k=d then pl else φ k) W0.B d c):
 Rel C W0 F0 {st with heap:=put st.heap d c} a (w.alloc o) F (λk=>if k=d then pl else φ k):=by
 simp only[jL,xi,xg]at hf
 obtain⟨fe,fh,fl⟩:=hf
 have hk:∀ k,F k ->(w.alloc o).heap[k]? =w.heap[k]? :=λk hk=>Below.heap_alloc w o k (h.ro k hk)
 refine⟨λs x hs=>?_,λb c' hc'=>?_, ?_,λk hk=>?_,h.base.below ⟨rfl,rfl,rfl,by simp,λk hk=>Below.heap_alloc w o k hk⟩,h.sub,h.new,h.eR,h.iC,λg x hg=>(h.ck g x hg).keep hk λ_ hk=>hk,zi0 h.gV fl⟩
 . obtain⟨v,hv,hr⟩:=h.env s x hs
   refine⟨v,hv,hr.keep hk (λ_ hk=>hk) λb hb=>nT φ d pl λe=>?_⟩
   subst e
   rw[Tp hs fe]at hb;cases hb
 . by_cases e:b=d
   . subst e
     rw[zv]at hc'
     cases hc'
     exact hB
   . rw[zb _ _ _ _ e]at hc'
     have hb:=h.heap b c' hc'
     refine hb.keep hk (λ_ hk=>hk) (λg hg=>?_) (nT φ d pl e) λb' hb'=>nT φ d pl λe=>?_
     . obtain⟨h1,h2,_⟩:=hb.lt hg
       exact⟨Below.heap_alloc w o g h1,h2⟩
     . subst e
       rw[(Og hc' fh).1]at hb';cases hb'
 . intro b b' c1 c2 g h1 h2 h3 h4
   by_cases e:b=d
   . by_cases e':b'=d
     . omega
     . rw[zb _ _ _ _ e']at h2
       simp only[e,wu]at h3
       simp only[e',yi]at h4
       rw[hpl]at h3
       cases h3
       have :=((h.heap b' c2 h2).lt h4).1
       omega
   . rw[zb _ _ _ _ e]at h1
     simp only[e,yi]at h3
     by_cases e':b'=d
     . simp only[e',wu]at h4
       rw[hpl]at h4
       cases h4
       have :=((h.heap b c1 h1).lt h3).1
       omega
     . rw[zb _ _ _ _ e']at h2
       simp only[e',yi]at h4
       exact h.inj b b' c1 c2 g h1 h2 h3 h4
 . have :=h.ro k hk
   simp;omega
theorem Rel.mP (h:Rel C W0 F0 st a w F φ) {b g:Nat} {c c':ar} {w':World} (hb:get st.heap b=some c) (hg:(φ b).bV=some g) (hos:w'.os=w.os) (ht:w'.tape=w.tape) (ho:w'.output=w.output)
 (hs:w'.heap.size=w.heap.size) (hw:∀ k,k≠g ->w'.heap[k]? =w.heap[k]?) (hkd:c'.isRow=c.isRow) (hB:z24 w' F φ W0.B b c'):
 Rel C W0 F0 {st with heap:=put st.heap b c'} a w' F φ:=by
 obtain⟨g1,g2,g3⟩:=(h.heap b c hb).lt hg
 have hk:∀ k,F k ->w'.heap[k]? =w.heap[k]? :=λk hk=>hw k λe=>g2 (e ▸ hk)
 refine⟨λs x hx=>?_,λb' c1 hc1=>?_, ?_,λk hk=>by rw[hs];exact h.ro k hk,h.base.trans (L':=λk=>k=g) ⟨hos,ht,ho,by omega,λk _ hk=>hw k hk⟩ (λi hi hlt=>by subst hi;exact g3.resolve_left (by omega)),h.sub,h.new,h.eR,h.iC,λg x hg=>(h.ck g x hg).keep hk λ_ hk=>hk,λb' p hp=>?_⟩
 . obtain⟨v,hv,hr⟩:=h.env s x hx
   exact⟨v,hv,hr.keep hk (λ_ hk=>hk) λ_ _=>rfl⟩
 . by_cases e:b'=b
   . subst e
     rw[zv]at hc1
     cases hc1
     exact hB
   . rw[zb _ _ _ _ e]at hc1
     have hb':=h.heap b' c1 hc1
     refine hb'.keep hk (λ_ hk=>hk) (λg' hg'=>?_) rfl λ_ _=>rfl
     exact⟨hw g' λe'=>e (h.inj b' b c1 c g hc1 hb (e' ▸ hg') hg),(hb'.lt hg').2.1⟩
 . intro b1 b2 c1 c2 g' h1 h2 h3 h4
   have i1:∃ c1',get st.heap b1=some c1':=by
    by_cases e:b1=b
    . exact⟨c,e ▸ hb⟩
    . rw[zb _ _ _ _ e]at h1;exact⟨c1,h1⟩
   have i2:∃ c2',get st.heap b2=some c2':=by
    by_cases e:b2=b
    . exact⟨c,e ▸ hb⟩
    . rw[zb _ _ _ _ e]at h2;exact⟨c2,h2⟩
   obtain⟨c1',i1⟩:=i1
   obtain⟨c2',i2⟩:=i2
   exact h.inj b1 b2 c1' c2' g' i1 i2 h3 h4
 . obtain⟨a1,a2,a3⟩:=h.gV b' p hp
   refine⟨a1,a2,λc1 hc1=>?_⟩
   by_cases e:b'=b
   . subst e
     rw[zv]at hc1
     cases hc1
     rw[hkd];exact a3 c hb
   . rw[zb _ _ _ _ e]at hc1;exact a3 c1 hc1
end
def oJ (C:bu) (sh:Shape) (d:TypeDesc):rG ->Prop
 | .int k=>d= .int k/\sh= .leaf
 | .bool=>d= .bool/\sh= .leaf
 | .string=>d= .string/\sh= .leaf
 | .slice e=>d= .slice e/\sh= .leaf
 | .arr n e=>d= .array n e/\∃ te,aU C e=some te/\sh= .arr n te.sh
 | .struct fs=>∃ fields:Array Field,∃ ss,d= .struct fields/\sh= .agg ss/\ss.length=fs.length/\fs=fields.toList.map (·.type)/\
  ∀ i : Nat, ∀ f : Field, fields[i]? = some f -> ∃ te, aU C f.type = some te /\ ss[i]? = some te.sh /\ f.offset = Shape.aT (ss.take i) /\ f.name ≠ "_"
 | .other=>sh= .leaf/\(match d with | .struct _ | .array _ _=>False |_=>True)
def tj (v:Value):AV ->Prop
 | .any=>v.oneCell'=true
 | .int k n=>v= .int k n/\aM k n
 | .bool b=>v= .bool b
 | .str l=>v= .string ⟨l.toArray⟩
 | .ax=>v= .slice none 0 0
 | .dj=>v= .pointer none
 | .st x=>tj v x
 |_=>False
structure gG (C:bu) (t:TypeId) (te:cN):Prop where
 info:∃ d i z,C.P.underlying t=some d/\C.P.info? t=some i/\i.size=te.sh.size/\i.bytes=te.bytes/\i.zero=some z/\z.cells.size=te.sh.size/\oJ C te.sh d te.kind/\
  ∀ j,j<te.sh.size ->tj (z.cells.getD j undef) (z6 te.sh te.zero j)
 pos:0<te.sh.size
 zst:te.zero.aJ=true
 eqs:te.eqs=true ->C.P.eqGuardType C.P.depth t=false/\C.P.stoodInHeld t=false/\((∃ fs,te.kind= .struct fs/\
  ∀ e∈fs,∃ tf,aU C e=some tf/\tf.sh= .leaf/\((∃ k,tf.kind= .int k)∨tf.kind= .bool∨tf.kind= .string))∨
  ∃ n e tf,te.kind= .arr n e/\aU C e=some tf/\tf.sh= .leaf)
def YY:List Nat ->List Nat ->Bool
 | [],[]=>true
 |a::l,b::m=>Nat.beq a b&&YY l m
 |_,_=>false
theorem zbo:∀ {l m:List Nat},YY l m=true ->l=m
 | [],[],_=>rfl
 |a::l,b::m,h=>by
  simp only[YY,xa]at h
  rw[xc h.1,zbo h.2]
 | [],_::_,h |_::_,[],h=>by simp[YY]at h
def pj (C:bu) (sh:Shape) (d:TypeDesc):rG ->Bool
 | .int k=>match d,sh with | .int k', .leaf=>decide (k'=k) |_,_=>false
 | .bool=>match d,sh with | .bool, .leaf=>true |_,_=>false
 | .string=>match d,sh with | .string, .leaf=>true |_,_=>false
 | .slice e=>match d,sh with | .slice e', .leaf=>Nat.beq e' e |_,_=>false
 | .arr n e=>match d,sh with
  | .array n' e', .arr m s=>Nat.beq n' n&&(Nat.beq e' e&&(Nat.beq m n&&(match aU C e with |some te=>s.same te.sh |none=>false)))
  |_,_=>false
 | .struct fs=>match d,sh with
  | .struct fields, .agg ss=>Nat.beq ss.length fs.length&&(YY fs (fields.toList.map (·.type))&&fieldsCheck C fields.toList ss 0)
  |_,_=>false
 | .other=>match d,sh with | .struct _,_=>false | .array _ _,_=>false |_, .leaf=>true |_,_=>false
 where
 fieldsCheck (C:bu):List Field ->List Shape ->Nat ->Bool
  | [],_,_=>true
  | f :: fs, s :: ss, off => Nat.beq f.offset off && (decide (f.name ≠ "_") && ((match aU C f.type with | some te => s.same te.sh | none => false) && fieldsCheck C fs ss (off + s.size)))
  |_::_,[],_=>false
def zek (C:bu) (t:TypeId) (te:cN):Bool:=
 match te.eqs with
 |false=>true
 |true=>(!C.P.eqGuardType C.P.depth t)&&((!C.P.stoodInHeld t)&&(match te.kind with
  | .struct fs=>fs.all λe=>match aU C e with
   |some tf=>match tf.kind,tf.sh with
    | .int _, .leaf | .bool, .leaf | .string, .leaf=>true
    |_,_=>false
   |none=>false
  | .arr _ e=>match aU C e with
   |some tf=>match tf.sh with
    | .leaf=>true
    |_=>false
   |none=>false
  |_=>false))
def sg (v:Value):AV ->Bool
 | .any=>v.oneCell'
 | .int k n=>match v with | .int k' n'=>decide (k'=k)&&(decide (n'=n)&&decide (k.wrap n=n)) |_=>false
 | .bool b=>match v with | .bool b'=>(match b,b' with |true,true |false,false=>true |_,_=>false) |_=>false
 | .str l=>match v with | .string s=>(match s.data.toList,l with | [],[]=>true |_,_=>false) |_=>false
 | .ax=>match v with | .slice none 0 0=>true |_=>false
 | .dj=>match v with | .pointer none=>true |_=>false
 | .st x=>sg v x
 |_=>false
def z7k (z:Array Value) (sh:Shape) (x:AV):Nat ->Bool
 |0=>true
 |j+1=>sg (z.getD j undef) (z6 sh x j)&&z7k z sh x j
def zi1 (C:bu) (t:TypeId) (te:cN):Bool:=
 match C.P.underlying t,C.P.info? t with
 |some d,some i=>match i.zero with
  |some z=>Nat.beq i.size te.sh.size&&(Nat.beq i.bytes te.bytes&&(Nat.beq z.cells.size te.sh.size&&(pj C te.sh d te.kind&&(z7k z.cells te.sh te.zero te.sh.size&&(Nat.blt 0 te.sh.size&&(te.zero.aJ&&zek C t te))))))
  |none=>false
 |_,_=>false
theorem zae {v:Value}:∀ {x:AV},sg v x=true ->tj v x
 | .any,h=>h
 | .int k n,h=>by
  cases v<;>simp[sg]at h
  obtain⟨rfl,rfl,h⟩:=h
  exact⟨rfl,h⟩
 | .bool b,h=>by
  cases v<;>simp[sg]at h
  rename_i b'
  cases b<;>cases b'<;>simp_all [tj]
 | .str l,h=>by
  cases v<;>simp[sg]at h
  rename_i s
  split at h
  . rename_i h1
    show Value.string s= .string ⟨([]:List UInt8).toArray⟩
    congr 1
    obtain⟨⟨d⟩⟩:=s
    simp at h1
    subst h1
    rfl
  . cases h
 | .ax,h=>by
  unfold sg at h
  split at h<;>first |rfl |cases h
 | .dj,h=>by
  unfold sg at h
  split at h<;>first |rfl |cases h
 | .st x,h=>by
  simp only[tj]
  exact zae (by simpa [sg]using h)
 | .seq _ _ _,h | .bD _ _ _,h | .cz _ _ _ _,h | .jS _,h | .bo _ _,h | .own _ _,h | .ptr _ _,h | .bJ _ _ _ _,h | .bq _ _ _,h | .c8 _ _,h | .agg _,h | .arr _ _,h | .mc _ _,h | .av _,h | .when _ _,h=>by simp[sg]at h
theorem z8v {z:Array Value} {sh:Shape} {x:AV}:∀ {n:Nat},z7k z sh x n=true ->∀ j,j<n ->tj (z.getD j undef) (z6 sh x j)
 |0,_,j,hj=>by omega
 |n+1,h,j,hj=>by
  simp only[z7k,xa]at h
  by_cases e:j=n
  . subst e;exact zae h.1
  . exact z8v h.2 j (by omega)
theorem z81 {C:bu}:∀ {l:List Field} {ss:List Shape} {off:Nat},pj.fieldsCheck C l ss off=true ->∀ (i:Nat) (f:Field),l[i]? =some f ->
 ∃ te, aU C f.type = some te /\ ss[i]? = some te.sh /\ f.offset = off + Shape.aT (ss.take i) /\ f.name ≠ "_"
 | [],_,_,_,i,f,h=>by simp at h
 |g::l,[],_,h,_,_,_=>by simp[pj.fieldsCheck]at h
 |g::l,s::ss,off,h,i,f,hf=>by
  simp only[pj.fieldsCheck,xa]at h
  obtain⟨h1,h2,h3,h4⟩:=h
  cases i with
  |zero=>
   simp at hf
   subst hf
   split at h3
   . rename_i te hte
     exact⟨te,hte,by simp[Shape.aL _ _ h3],by simp[xc h1,Shape.aT],by simpa using h2⟩
   . cases h3
  |succ i=>
   simp at hf
   obtain⟨te,a,b,c,d⟩:=z81 h4 i f hf
   exact⟨te,a,by simpa using b,by rw[c];simp[Shape.aT,gm],d⟩
theorem zg8 {C:bu} {sh:Shape} {d:TypeDesc} {k:rG} (h:pj C sh d k=true):oJ C sh d k:=by
 cases k with
 |int k=>simp only[pj]at h;split at h<;>simp_all [oJ]
 |bool=>simp only[pj]at h;split at h<;>simp_all [oJ]
 |string=>simp only[pj]at h;split at h<;>simp_all [oJ]
 |slice e=>
  simp only[pj]at h;split at h
  . simp[oJ,xc h]
  . cases h
 |arr n e=>
  simp only[pj]at h;split at h
  . simp only[xa]at h
    obtain⟨h1,h2,h3,h4⟩:=h
    split at h4
    . rename_i te hte
      rw[xc h1,xc h2,xc h3,Shape.aL _ _ h4]
      exact⟨rfl,te,hte,rfl⟩
    . cases h4
  . cases h
 |struct fs=>
  simp only[pj]at h;split at h
  . simp only[xa]at h
    obtain⟨h1,h2,h3⟩:=h
    refine⟨_,_,rfl,rfl,xc h1,zbo h2,λi f hf=>?_⟩
    obtain⟨te,a,b,c,d⟩:=z81 h3 i f (by simpa using hf)
    exact⟨te,a,b,by simpa using c,d⟩
  . cases h
 |other=>
  simp only[pj]at h
  split at h<;>simp_all [oJ]
theorem zi2 {C:bu} {t:TypeId} {te:cN} (h:zek C t te=true) (he:te.eqs=true):C.P.eqGuardType C.P.depth t=false/\C.P.stoodInHeld t=false/\((∃ fs,te.kind= .struct fs/\
 ∀ e∈fs,∃ tf,aU C e=some tf/\tf.sh= .leaf/\((∃ k,tf.kind= .int k)∨tf.kind= .bool∨tf.kind= .string))∨
 ∃ n e tf,te.kind= .arr n e/\aU C e=some tf/\tf.sh= .leaf):=by
 simp only[zek,he,xa,xi]at h
 obtain⟨h1,h2,h3⟩:=h
 refine⟨h1,h2, ?_⟩
 split at h3
 . rename_i fs hk
   refine .inl ⟨fs,hk,λe he'=>?_⟩
   have :=yu.1 h3 e he'
   split at this
   . rename_i tf htf
     refine⟨tf,htf, ?_⟩
     split at this
     . rename_i h1 h2;exact⟨h2, .inl ⟨_,h1⟩⟩
     . rename_i h1 h2;exact⟨h2, .inr (.inl h1)⟩
     . rename_i h1 h2;exact⟨h2, .inr (.inr h1)⟩
     . cases this
   . cases this
 . rename_i n e hk
   split at h3
   . rename_i tf htf
     split at h3
     . rename_i hs;exact .inr ⟨n,e,tf,hk,htf,hs⟩
     . cases h3
   . cases h3
 . cases h3
theorem zmd {C:bu} {t:TypeId} {te:cN} (h:zi1 C t te=true):gG C t te:=by
 unfold zi1 at h
 split at h
 . rename_i d i hd hi
   split at h
   . rename_i z hz
     simp only[xa]at h
     obtain⟨h1,h2,h3,h4,h5,h6,h7,h8⟩:=h
     exact⟨⟨d,i,z,hd,hi,xc h1,xc h2,hz,xc h3,zg8 h4,z8v h5⟩,Nat.lt_of_succ_le (by simpa [Nat.blt]using h6),h7,zi2 h8⟩
   . cases h
 . cases h
theorem get_mem {α:Type}:∀ {l:List (Nat×α)} {s:Nat} {v:α},get l s=some v ->(s,v)∈l
 | [],_,_,h=>by simp[get]at h
 | (k,u)::l,s,v,h=>by
  simp only[get]at h
  split at h
  . rename_i hk
    cases h
    rw[xc hk];simp
  . exact List.mem_cons_of_mem _ (get_mem h)
def ct (C:bu):Prop:=∀ t te,aU C t=some te ->gG C t te
theorem ll {C:bu} (h:(C.T.all λp=>zi1 C p.1 p.2)=true):ct C:=λt te ht=>
 zmd (yu.1 h (t,te) (get_mem ht))
theorem tj.rep {v:Value} {w:World} {F:Nat ->Prop}:∀ {x:AV},tj v x ->au w F v x
 | .any,h=> .any _ h
 | .int k n,h=>by obtain⟨rfl,h⟩:=h;exact .int _ _ h
 | .bool b,h=>by cases h;exact .bool _
 | .str l,h=>by cases h;exact .str ⟨l.toArray⟩
 | .ax,h=>by cases h;exact .ax
 | .dj,h=>by cases h;exact .dj
 | .st x,h=> .st (tj.rep (x:=x) h)
 | .seq _ _ _,h | .bD _ _ _,h | .cz _ _ _ _,h | .jS _,h | .bo _ _,h | .own _ _,h | .ptr _ _,h | .bJ _ _ _ _,h | .bq _ _ _,h | .c8 _ _,h | .agg _,h | .arr _ _,h | .mc _ _,h | .av _,h | .when _ _,h=>h.elim
end Go.AV
