/- The reckoning of operations on abstract values: a program's regions as plain functions of a state. -/
import Derived.Test.YtmlgkljbhidlhaaAvBase
namespace Go.AV
open Go.RowKit

def get {α : Type} : List (Nat × α) → Nat → Option α
  | [], _ => none
  | (k, v) :: l, s => match Nat.beq k s with
    | true => some v
    | false => get l s
def del {α : Type} : List (Nat × α) → Nat → List (Nat × α)
  | [], _ => []
  | (k, v) :: l, s => match Nat.beq k s with
    | true => del l s
    | false => (k, v) :: del l s
def put {α : Type} (l : List (Nat × α)) (s : Nat) (v : α) : List (Nat × α) := (s, v) :: del l s

inductive BoxC where
  | cell (ty : TypeId) (sh : Shape) (x : AV)
  | row (ty : TypeId) (sh : Shape) (n : Nat) (f : Nat → AV)

structure St where
  env : List (Nat × AV)
  heap : List (Nat × BoxC)

inductive TyK where
  | int (k : IntKind)
  | bool
  | string
  | slice (e : TypeId)
  | arr (n : Nat) (e : TypeId)
  | struct (fs : List TypeId)
  | other

structure TyE where
  sh : Shape
  zero : AV
  bytes : Nat
  kind : TyK
  /-- a struct of numbers, Booleans and strings alone, compared field by field -/
  eqs : Bool

/-- What a function's reckoning is given: the types, the package's variables, whether sums wrap. -/
structure Cfg where
  P : Program
  T : List (Nat × TyE)
  G : List (Nat × AV)
  wraps : Bool
  ntmps : Nat
  /-- what a function makes anew and hands back as its caller's own: rows, named 0, 1, .. in its answer -/
  fresh : FuncId → List AV → Option (List BoxC) := fun _ _ => none
  CCF : FuncId → List AV → AV → List BoxC → Prop := fun _ _ _ _ => False
  /-- what a function does to the boxes that are lent to it (named 0, 1, .. in its arguments): its answer, and each box afterwards (none: gone); behind them what it made anew -/
  lent : FuncId → List AV → List BoxC → Option (AV × List (Option BoxC)) := fun _ _ _ => none
  CCL : FuncId → List AV → List BoxC → AV → List (Option BoxC) → Prop := fun _ _ _ _ _ => False

/-- What an operation does to the boxes. -/
inductive Eff where
  | none
  | new (c : BoxC)
  | upd (b : Nat) (c : BoxC)
  | grow (b : Nat) (c : BoxC)

structure Res where
  val : AV
  eff : Eff
  obs : List Prop

def constAV : Value → Option AV
  | .int k n => match decide (k.wrap n = n) with | true => some (.int k n) | false => none
  | .bool b => some (.bool b)
  | .string s => some (.str s.data.toList)
  | .slice none 0 0 => some .nils
  | .pointer none => some .nilp
  | .nilFunc | .nilIface | .map none => some .any
  | _ => none

def ev (C : Cfg) (st : St) : Operand → Option AV
  | .tmp t => get st.env t
  | .const v => constAV v
  | .global g => get C.G g
  | .func f => some (.clo f [])

def strip1 : AV → AV
  | .when _ x => x
  | x => x
def whenOb : AV → List Prop
  | .when q' _ => [q' = true]
  | _ => []

/-- A part of a tree as a value, and a value as a part of a tree. -/
def wrapV (sh : Shape) (x : AV) : Option AV :=
  match sh with
  | .leaf => match x.isOne with | true => some x | false => none
  | _ => some (.mc sh x)
def unwV (sh : Shape) (x : AV) : Option AV :=
  match sh, x with
  | .leaf, x => match x.isOne with | true => some x | false => none
  | sh, .mc sh' y => match sh.same sh' with | true => some y | false => none
  | _, _ => none

def isFalse : Operand → Bool
  | .const (.bool false) => true
  | _ => false
def isTrue : Operand → Bool
  | .const (.bool true) => true
  | _ => false

/-- 'p && a', 'p || b', or a choice. -/
def pickAV (p : Bool) (xf yf : Bool) : AV → AV → Option AV
  | .bool a, .bool b => match yf, xf with
    | true, _ => some (.bool (p && a))
    | _, true => some (.bool (p || b))
    | _, _ => some (.bool (bif p then a else b))
  | .int k a, .int k' b => match decide (k = k') with | true => some (.int k (bif p then a else b)) | false => none
  | _, _ => none

def arith (C : Cfg) (k : IntKind) (n : Int) : Res :=
  match C.wraps with
  | true => ⟨.int k (k.wrap n), .none, []⟩
  | false => ⟨.int k n, .none, [InR k n]⟩

def eqAV (k : TyK) (x y : AV) : Option Bool :=
  match k, x, y with
  | .int _, .int k a, .int k' b => match decide (k = k') with | true => some (a == b) | false => none
  | .bool, .bool a, .bool b => some (a == b)
  | .string, .str a, .str b => some (a == b)
  | _, _, _ => none

def tyOf (C : Cfg) (t : TypeId) : Option TyE := get C.T t

def eqAVs (C : Cfg) : List TypeId → List AV → List AV → Option Bool
  | [], [], [] => some true
  | t :: ts, x :: l, y :: m => match tyOf C t with
    | some te => match eqAV te.kind x y, eqAVs C ts l m with
      | some a, some b => some (a && b)
      | _, _ => none
    | none => none
  | _, _, _ => none

def fieldsOf : TyK → List TypeId
  | .struct fs => fs
  | _ => []

def shiftAV (op : BinOp) : AV → AV → Option Res
  | .int k a, .int _ b => match op with
    | .shl => some ⟨.int k (k.wrap (a * 2 ^ b.toNat)), .none, [0 ≤ b ∧ b ≤ k.bits]⟩
    | .shr => some ⟨.int k (a / 2 ^ b.toNat), .none, [0 ≤ b ∧ b ≤ k.bits, InR k (a / 2 ^ b.toNat)]⟩
    | _ => none
  | _, _ => none

def binAV (C : Cfg) (te : TyE) (op : BinOp) (x y : AV) : Option Res :=
  match x, y with
  | .int k a, .int k' b => match decide (k = k') with
    | true => match op with
      | .add => some (arith C k (a + b))
      | .sub => some (arith C k (a - b))
      | .mul => some (arith C k (a * b))
      | .quo => some { arith C k (a.tdiv b) with obs := (b ≠ 0) :: (arith C k (a.tdiv b)).obs }
      | .rem => some ⟨.int k (a.tmod b), .none, [b ≠ 0, InR k (a.tmod b)]⟩
      | .eql => some ⟨.bool (a == b), .none, []⟩
      | .neq => some ⟨.bool (a != b), .none, []⟩
      | .lss => some ⟨.bool (decide (a < b)), .none, []⟩
      | .leq => some ⟨.bool (decide (a ≤ b)), .none, []⟩
      | .gtr => some ⟨.bool (decide (b < a)), .none, []⟩
      | .geq => some ⟨.bool (decide (b ≤ a)), .none, []⟩
      | .and => some ⟨.int k (bits .and k a b), .none, []⟩
      | .or => some ⟨.int k (bits .or k a b), .none, []⟩
      | .xor => some ⟨.int k (bits .xor k a b), .none, []⟩
      | _ => none
    | false => none
  | .bool a, .bool b => match te.kind with
    | .bool => match op with
      | .eql => some ⟨.bool (a == b), .none, []⟩
      | .neq => some ⟨.bool (!(a == b)), .none, []⟩
      | _ => none
    | _ => none
  | .str a, .str b => match op with
    | .eql => some ⟨.bool (a == b), .none, []⟩
    | .neq => some ⟨.bool (!(a == b)), .none, []⟩
    | .add => some ⟨.str (a ++ b), .none, [((a.length + b.length : Nat) : Int) ≤ 9223372036854775807]⟩
    | _ => none
  | .mc (.agg ss) (.agg xs), .mc (.agg ts) (.agg ys) => match te.eqs && ((Shape.agg ss).same te.sh && (Shape.agg ts).same te.sh), eqAVs C (fieldsOf te.kind) xs ys with
    | true, some b => match op with
      | .eql => some ⟨.bool b, .none, []⟩
      | .neq => some ⟨.bool (!b), .none, []⟩
      | _ => none
    | _, _ => none
  | _, _ => none

def kindLe : IntKind → IntKind → Bool
  | .u8, .u8 | .u8, .i64 | .u8, .u64 | .u8, .i32 | .u8, .u32 | .i64, .i64 | .u64, .u64 | .i32, .i32 | .i32, .i64 | .u32, .u32 | .u32, .i64 | .u32, .u64 => true
  | _, _ => false

def setPart (ss : List Shape) (zs : List AV) : List (Nat × AV) → Option (List AV)
  | [] => some zs
  | (i, v) :: l => match ss[i]? with
    | some s => match unwV s v with
      | some y => setPart ss (zs.set i y) l
      | none => none
    | none => none

def setElems (s : Shape) (len : Nat) (zs : List AV) : List (Nat × AV) → Option (List AV)
  | [] => some zs
  | (i, v) :: l => match unwV s v with
    | some y => match y.isStat && Nat.blt i len with
      | true => setElems s len (zs.set i y) l
      | false => none
    | none => none

def evParts (e : Operand → Option AV) : List (Nat × Operand) → Option (List (Nat × AV))
  | [] => some []
  | (i, x) :: l => match e x, evParts e l with
    | some v, some vs => some ((i, v) :: vs)
    | _, _ => none
def evList (e : Operand → Option AV) : List Operand → Option (List AV)
  | [] => some []
  | x :: l => match e x, evList e l with
    | some v, some vs => some (v :: vs)
    | _, _ => none

/- No fact of the state names the box. -/
def namesEnv (b : Nat) : List (Nat × AV) → Bool
  | [] => false
  | (_, x) :: l => x.names b || namesEnv b l
/-- A row, and no cell. -/
def BoxC.isRow : BoxC → Bool
  | .row _ _ _ _ => true
  | _ => false
def BoxC.names (b : Nat) : BoxC → Bool
  | .cell _ _ x => x.names b
  | .row _ _ _ _ => false
def namesHeap (b : Nat) : List (Nat × BoxC) → Bool
  | [] => false
  | (k, c) :: l => Nat.beq k b || c.names b || namesHeap b l
/-- Names from here on are those of lent boxes. -/
def lentN : Nat := 1099511627776
def freshBox (st : St) (b : Nat) : Bool := !(namesEnv b st.env || (namesHeap b st.heap || !Nat.blt b 1099511627776))
/- The facts of the slots that name b are given up. -/
def killEnv (b : Nat) : List (Nat × AV) → List (Nat × AV)
  | [] => []
  | (k, x) :: l => (k, match x.names b with | true => .when false .any | false => x) :: killEnv b l
mutual
def AV.kill (b : Nat) : AV → AV
  | .own c n => match Nat.beq c b with | true => .any | false => .own c n
  | .ptr c p => match Nat.beq c b with | true => .any | false => .ptr c p
  | .optr c i p => match Nat.beq c b with | true => .any | false => .optr c i p
  | .clo f l => match AV.namesL b l with | true => .any | false => .clo f l
  | .agg l => .agg (AV.killL b l)
  | x => x
def AV.killL (b : Nat) : List AV → List AV
  | [] => []
  | x :: l => x.kill b :: AV.killL b l
end
def BoxC.kill (b : Nat) (c : BoxC) : BoxC :=
  match c with
  | .cell tc sh x => match x.names b with | true => .cell tc sh (x.kill b) | false => .cell tc sh x
  | c => c
def killHeap (b : Nat) : List (Nat × BoxC) → List (Nat × BoxC)
  | [] => []
  | (k, c) :: l => (k, c.kill b) :: killHeap b l

/- What the call's own rows read as for a callee: plain data; and what is owed for it. -/
mutual
def frz (h : List (Nat × BoxC)) : AV → Option (AV × List Prop)
  | .own b n => match get h b with
    | some (.row _ sh n' f) => some (.seq sh n f, [n ≤ n'])
    | _ => none
  | .ptr b p => match get h b with
    | some (.cell tc sh x) => match pathSh p sh, nav p sh x with
      | some s, some y => match y.isStat with
        | true => some (.rptr s y, [])
        | false => none
      | _, _ => none
    | _ => none
  | .agg l => match frzs h l with | some (m, ps) => some (.agg m, ps) | none => none
  | .clo f l => match frzs h l with | some (m, ps) => some (.clo f m, ps) | none => none
  | .mc sh x => match frz h x with | some (y, ps) => some (.mc sh y, ps) | none => none
  | .optr _ _ _ | .tup _ | .when _ _ => none
  | x => some (x, [])
def frzs (h : List (Nat × BoxC)) : List AV → Option (List AV × List Prop)
  | [] => some ([], [])
  | x :: l => match frz h x, frzs h l with
    | some (y, ps), some (m, qs) => some (y :: m, ps ++ qs)
    | _, _ => none
end

/- Data that holds no memory. -/
mutual
def AV.isScalar : AV → Bool
  | .int _ _ | .bool _ | .str _ | .nils | .nilp => true
  | .agg l | .tup l => AV.areScalar l
  | .mc _ x => x.isScalar
  | .arr _ _ => false
  | _ => false
def AV.areScalar : List AV → Bool
  | [] => true
  | x :: l => x.isScalar && AV.areScalar l
end

/-- What a call may hand back: plain data, or several. -/
def AV.isRes : AV → Bool
  | .tup l => AV.areStat l
  | x => x.isStat

def lenAV : AV → Option Nat
  | .seq _ n _ | .seqc _ n _ | .own _ n => some n
  | .nils => some 0
  | _ => none

/-- The shape of the part of box b that path p leads to. -/
def boxSh (st : St) (b : Nat) (p : List Nat) : Option Shape :=
  match get st.heap b with
  | some (.cell _ sh _) => pathSh p sh
  | _ => none
def rowSh (st : St) (b : Nat) (p : List Nat) : Option Shape :=
  match get st.heap b with
  | some (.row _ sh _ _) => pathSh p sh
  | _ => none

def inIx (i : Int) (n : Nat) : Prop := 0 ≤ i ∧ i < (n : Int)

def ixAV : Option AV → Option Int
  | some (.int _ i) => some i
  | _ => none

/-- A bound of a cut, or what stands for it. -/
def bndOf (e : Operand → Option AV) (d : Int) : Option Operand → Option Int
  | none => some d
  | some o => ixAV (e o)

def fieldAV (st : St) (te : TyE) (f : Nat) : AV → Option AV
  | .ptr b p => match boxSh st b p with
    | some s => match s.same te.sh with
      | true => some (.ptr b (p ++ [f]))
      | false => none
    | none => none
  | .optr b i p => match rowSh st b p with
    | some s => match s.same te.sh with
      | true => some (.optr b i (p ++ [f]))
      | false => none
    | none => none
  | .rptr (.agg ss) (.agg xs) => match (Shape.agg ss).same te.sh with
    | true => match ss[f]?, xs[f]? with
      | some s, some x => some (.rptr s x)
      | _, _ => none
    | false => none
  | _ => none

def fieldCount : TyK → Nat
  | .struct fs => fs.length
  | _ => 0

/-- The reckoning of one operation; 'e': its operands. -/
def absOp (C : Cfg) (st : St) (e : Operand → Option AV) (dst : Option Nat) (orc : FuncId → List AV → Option AV) (CC : FuncId → List AV → AV → Prop) : Op → Option Res
  | .move x | .assign x => match e x with | some v => some ⟨v, .none, []⟩ | none => none
  | .alloc t => match tyOf C t, dst with
    | some te, some d => some ⟨.ptr d [], .new (.cell t te.sh te.zero), []⟩
    | _, _ => none
  | .box t x => match tyOf C t, dst, e x with
    | some te, some d, some v => match unwV te.sh v with
      | some y => some ⟨.ptr d [], .new (.cell t te.sh y), []⟩
      | none => none
    | _, _, _ => none
  | .build t parts => match tyOf C t, evParts e parts.toList with
    | some te, some ps => match te.sh, te.zero with
      | .agg ss, .agg zs => match setPart ss zs ps, Nat.beq zs.length ss.length with
        | some ys, true => some ⟨.mc (.agg ss) (.agg ys), .none, []⟩
        | _, _ => none
      | .arr n s, .arr _ f => match setElems s n ((List.range n).map f) ps with
        | some ys => some ⟨.mc (.arr n s) (.arr n (fun i => ys.getD i (f 0))), .none, []⟩
        | none => none
      | _, _ => none
    | _, _ => none
  | .buildSlice t len parts => match tyOf C t, evParts e parts.toList, dst with
    | some te, some ps, some d => match te.kind with
      | .slice el => match tyOf C el with
        | some tl => match setElems tl.sh len (List.replicate len tl.zero) ps, tl.zero.isStat with
          | some ys, true => some ⟨.own d len, .new (.row el tl.sh len (fun i => ys.getD i .any)), [len * tl.sh.size ≤ 16777216]⟩
          | _, _ => none
        | none => none
      | _ => none
    | _, _, _ => none
  | .load t a => match tyOf C t with
    | some te => match e a with
      | some (.ptr b p) => match get st.heap b with
        | some (.cell tc sh x) => match pathSh p sh, nav p sh x with
          | some s, some y => match s.same te.sh with
            | true => match wrapV te.sh y with | some z => some ⟨z, .none, []⟩ | none => none
            | false => none
          | _, _ => none
        | _ => none
      | some (.optr b i p) => match get st.heap b with
        | some (.row _ sh n f) => match pathSh p sh, nav p sh (f i) with
          | some s, some y => match s.same te.sh with
            | true => match wrapV te.sh y with | some z => some ⟨z, .none, [i < n]⟩ | none => none
            | false => none
          | _, _ => none
        | _ => none
      | some (.rptr sh x) => match sh.same te.sh with
        | true => match wrapV te.sh x with | some z => some ⟨z, .none, []⟩ | none => none
        | false => none
      | _ => none
    | none => none
  | .store t a v => match tyOf C t, e v, dst with
    | some te, some v, none => match unwV te.sh v with
      | some y => match e a with
        | some (.ptr b p) => match get st.heap b with
          | some (.cell tc sh x) => match pathSh p sh, setAt p sh x y with
            | some s, some x' => match s.same te.sh with
              | true => some ⟨.any, .upd b (.cell tc sh x'), []⟩
              | false => none
            | _, _ => none
          | _ => none
        | some (.optr b i p) => match get st.heap b with
          | some (.row ty sh n f) => match pathSh p sh, setAt p sh (f i) y with
            | some s, some x' => match s.same te.sh && y.isStat with
              | true => some ⟨.any, .upd b (.row ty sh n (fun j => if j = i then x' else f j)), [i < n]⟩
              | false => none
            | _, _ => none
          | _ => none
        | _ => none
      | none => none
    | _, _, _ => none
  | .nilCheck x => match e x with
    | some (.ptr b p) => some ⟨.ptr b p, .none, []⟩
    | some (.optr b i p) => some ⟨.optr b i p, .none, []⟩
    | some (.rptr s x) => some ⟨.rptr s x, .none, []⟩
    | some (.clo f l) => some ⟨.clo f l, .none, []⟩
    | _ => none
  | .binOp op t x y _ => match op with
    | .shl | .shr => match e x, e y with
      | some a, some b => shiftAV op a b
      | _, _ => none
    | _ => match tyOf C t, e x, e y with
      | some te, some a, some b => binAV C te op a b
      | _, _, _ => none
  | .unOp op _ x => match op, e x with
    | .not, some (.bool b) => some ⟨.bool (!b), .none, []⟩
    | .neg, some (.int k n) => some (arith C k (0 - n))
    | _, _ => none
  | .convert src dst x => match tyOf C src, tyOf C dst, e x with
    | some ts, some td, some (.int k n) => match ts.kind, td.kind with
      | .int k0, .int k' => match decide (k0 = k) && kindLe k k' with
        | true => some ⟨.int k' n, .none, []⟩
        | false => some ⟨.int k' (k'.wrap n), .none, []⟩
      | _, _ => none
    | some ts, some td, some (.str l) => match ts.kind, td.kind with
      | .string, .string => some ⟨.str l, .none, []⟩
      | _, _ => none
    | _, _, _ => none
  | .makeFunc (.func f) first captured => match first.size, evList e captured.toList with
    | 0, some l => some ⟨.clo f l, .none, []⟩
    | _, _ => none
  | .makeSlice t ln cp => match tyOf C t, ixAV (e ln), ixAV (e cp), dst with
    | some te, some n, some c, some d => match te.kind with
      | .slice el => match tyOf C el with
        | some tl => match tl.zero.isStat with
          | true => some ⟨.own d n.toNat, .new (.row el tl.sh n.toNat (fun _ => tl.zero)), [0 ≤ n ∧ n ≤ c ∧ (tl.bytes : Int) * c ≤ 140737488355328 ∧ c ≤ 9223372036854775807]⟩
          | false => none
        | none => none
      | _ => none
    | _, _, _, _ => none
  | .slice t x lo hi mx => match tyOf C t, e x with
    | some te, some v => match te.kind with
      | .string => match v with
        | .str l => match bndOf e 0 lo, bndOf e (l.length : Int) hi, mx with
          | some a, some b, none => some ⟨.str ((l.drop a.toNat).take (b - a).toNat), .none, [0 ≤ a ∧ a ≤ b ∧ b ≤ (l.length : Int)]⟩
          | _, _, _ => none
        | _ => none
      | .slice el => match tyOf C el, v with
        | some tl, .seq sh n f => match sh.same tl.sh, bndOf e 0 lo, bndOf e (n : Int) hi, mx with
          | true, some a, some b, none => some ⟨.seq sh (b - a).toNat (fun i => f (a.toNat + i)), .none, [0 ≤ a ∧ a ≤ b ∧ b ≤ (n : Int)]⟩
          | true, some a, some b, some m => match ixAV (e m), hi.isSome with
            | some m, true => some ⟨.seqc sh (b - a).toNat (fun i => f (a.toNat + i)), .none, [0 ≤ a ∧ a ≤ b ∧ b ≤ (n : Int) ∧ m = b]⟩
            | _, _ => none
          | _, _, _, _ => none
        | some tl, .own b n => match get st.heap b with
          | some (.row _ sh _ _) => match sh.same tl.sh, bndOf e 0 lo, bndOf e (n : Int) hi, mx with
            | true, some 0, some h, none => some ⟨.own b h.toNat, .none, [0 ≤ h ∧ h ≤ (n : Int)]⟩
            | _, _, _, _ => none
          | _ => none
        | _, _ => none
      | _ => none
    | _, _ => none
  | .fieldAddr t x f => match tyOf C t, e x with
    | some te, some v => match Nat.blt f (fieldCount te.kind) with
      | true => match fieldAV st te f v with
        | some r => some ⟨r, .none, []⟩
        | none => none
      | false => none
    | _, _ => none
  | .field t x f => match tyOf C t, e x with
    | some te, some (.mc (.agg ss) (.agg xs)) => match (Shape.agg ss).same te.sh && Nat.blt f (fieldCount te.kind), ss[f]?, xs[f]? with
      | true, some s, some y => match wrapV s y with | some z => some ⟨z, .none, []⟩ | none => none
      | _, _, _ => none
    | _, _ => none
  | .indexAddr t x ix => match tyOf C t, e x, ixAV (e ix) with
    | some te, some v, some i => match te.kind with
      | .slice el => match tyOf C el with
        | some tl => match v with
          | .seq sh n f | .seqc sh n f => match sh.same tl.sh with
            | true => some ⟨.rptr sh (f i.toNat), .none, [inIx i n]⟩
            | false => none
          | .own b n => match get st.heap b with
            | some (.row _ sh _ _) => match sh.same tl.sh with
              | true => some ⟨.optr b i.toNat [], .none, [inIx i n]⟩
              | false => none
            | _ => none
          | _ => none
        | none => none
      | .arr n el => match v with
        | .ptr b p => match boxSh st b p with
          | some s => match s.same te.sh with
            | true => some ⟨.ptr b (p ++ [i.toNat]), .none, [inIx i n]⟩
            | false => none
          | none => none
        | .optr b k p => match rowSh st b p with
          | some s => match s.same te.sh with
            | true => some ⟨.optr b k (p ++ [i.toNat]), .none, [inIx i n]⟩
            | false => none
          | none => none
        | .rptr (.arr m s) (.arr _ f) => match (Shape.arr m s).same te.sh with
          | true => some ⟨.rptr s (f i.toNat), .none, [inIx i n]⟩
          | false => none
        | _ => none
      | _ => none
    | _, _, _ => none
  | .index t x ix => match tyOf C t, e x, ixAV (e ix) with
    | some te, some v, some i => match te.kind, v with
      | .string, .str l => some ⟨.int .u8 ((l.getD i.toNat 0).toNat : Int), .none, [inIx i l.length]⟩
      | .arr n _, .mc (.arr m s) (.arr _ f) => match (Shape.arr m s).same te.sh with
        | true => match wrapV s (f i.toNat) with | some z => some ⟨z, .none, [inIx i n]⟩ | none => none
        | false => none
      | _, _ => none
    | _, _, _ => none
  | .extract x i => match e x with
    | some (.tup l) => match l[i]? with | some v => some ⟨v, .none, []⟩ | none => none
    | _ => none
  | .call c => match c.callee with
    | .builtin .len => match c.args.toList, c.argTypes.toList with
      | [x], [t] => match tyOf C t, e x with
        | some te, some v => match te.kind with
          | .slice _ => match lenAV v with | some n => some ⟨.int .i64 (n : Int), .none, [(n : Int) ≤ 9223372036854775807]⟩ | none => none
          | .string => match v with | .str l => some ⟨.int .i64 (l.length : Int), .none, [(l.length : Int) ≤ 9223372036854775807]⟩ | _ => none
          | .arr n _ => match Nat.ble n 9223372036854775807 with | true => some ⟨.int .i64 (n : Int), .none, []⟩ | false => none
          | _ => none
        | _, _ => none
      | _, _ => none
    | .builtin .append => match c.args.toList, c.argTypes.toList, dst with
      | [x, y], [t, t'], some d => match tyOf C t, Nat.beq t t', e x, e y with
        | some te, true, some v, some u => match te.kind with
          | .slice el => match tyOf C el with
            | some tl =>
              match (match u with
                | .seq sh m g | .seqc sh m g => some (sh, m, g, [])
                | .own b m => match get st.heap b with | some (.row _ sh n' g) => some (sh, m, g, [m ≤ n']) | _ => none
                | .nils => some (tl.sh, 0, (fun _ => AV.any), [])
                | _ => none : Option (Shape × Nat × (Nat → AV) × List Prop)) with
              | some (su, m, g, ps) => match su.same tl.sh && tl.zero.isStat, v with
                | true, .nils => some ⟨.own d m, .new (.row el su m g), ((m : Int) * tl.bytes ≤ 140737488355328 ∧ m ≤ 9223372036854775807) :: ps⟩
                | true, .seqc sh n f => match sh.same su with
                  | true => some ⟨.own d (n + m), .new (.row el su (n + m) (fun i => if i < n then f i else g (i - n))), (0 < m ∧ ((n + m : Nat) : Int) * tl.bytes ≤ 140737488355328 ∧ n + m ≤ 9223372036854775807) :: ps⟩
                  | false => none
                | true, .own b n => match get st.heap b with
                  | some (.row ty sh n' f) => match Nat.beq ty el && sh.same su && (match u with | .own b' _ => !Nat.beq b b' | _ => true) with
                    | true => some ⟨.own b (n + m), .grow b (.row ty sh (n + m) (fun i => if i < n then f i else g (i - n))), (n = n' ∧ ((n + m : Nat) : Int) * tl.bytes ≤ 140737488355328 ∧ n + m ≤ 9223372036854775807) :: ps⟩
                    | false => none
                  | _ => none
                | _, _ => none
              | none => none
            | none => none
          | _ => none
        | _, _, _, _ => none
      | _, _, _ => none
    | .builtin .copy => match c.args.toList, c.argTypes.toList with
      | [x, y], [t, t'] => match tyOf C t, tyOf C t', e x, e y with
        | some te, some te', some (.own b n), some u => match te.kind, te'.kind with
          | .slice el, .slice el' => match tyOf C el, Nat.beq el el', get st.heap b with
            | some tl, true, some (.row ty sh n' f) =>
              match (match u with
                | .seq su m g | .seqc su m g => some (su, m, g)
                | .nils => some (tl.sh, 0, fun _ => AV.any)
                | _ => none : Option (Shape × Nat × (Nat → AV))) with
              | some (su, m, g) => match su.same tl.sh && sh.same tl.sh with
                | true => some ⟨.int .i64 ((min m n : Nat) : Int), .upd b (.row ty sh n' (fun i => if i < min m n then g i else f i)), [n ≤ n' ∧ (n : Int) ≤ 9223372036854775807]⟩
                | false => none
              | none => none
            | _, _, _ => none
          | _, _ => none
        | _, _, _, _ => none
      | _, _ => none
    | .builtin .min => match c.args.toList with
      | [x, y] => match e x, e y with
        | some (.int k a), some (.int k' b) => match decide (k = k') with | true => some ⟨.int k (if b < a then b else a), .none, []⟩ | false => none
        | _, _ => none
      | _ => none
    | .builtin .max => match c.args.toList with
      | [x, y] => match e x, e y with
        | some (.int k a), some (.int k' b) => match decide (k = k') with | true => some ⟨.int k (if a < b then b else a), .none, []⟩ | false => none
        | _, _ => none
      | _ => none
    | .value fx => match e fx, evList e c.args.toList with
      | some (.clo f caps), some args => match frzs st.heap (args ++ caps) with
        | some (as, ps) => match orc f as with
          | some r => match r.isScalar || (AV.areStat (args ++ caps) && r.isRes) with
            | true => some ⟨r, .none, CC f as r :: ps⟩
            | false => none
          | none => none
        | none => none
      | _, _ => none
    | _ => none
  | _ => none

def applyEff (st : St) (dst : Option Nat) : Eff → Option St
  | .none => some st
  | .new c => match dst with
    | some d => match freshBox st d && !c.names d with
      | true => some { st with heap := put st.heap d c }
      | false => none
    | none => none
  | .upd b c => some { st with heap := put st.heap b c }
  | .grow b c => some { env := killEnv b st.env, heap := put (killHeap b st.heap) b c }

def putDst (st : St) (dst : Option Nat) (v : AV) : St :=
  match dst with
  | some d => { st with env := put st.env d v }
  | none => st

def effIsNone : Eff → Bool
  | .none => true
  | _ => false

def dstOK (C : Cfg) : Option Nat → Bool
  | some d => Nat.blt d C.ntmps
  | none => true

def isPick : Op → Bool
  | .pick _ _ _ => true
  | _ => false

def operandObs (C : Cfg) (st : St) : List Operand → List Prop
  | [] => []
  | x :: l => match ev C st x with
    | some v => whenOb v ++ operandObs C st l
    | none => operandObs C st l

def evS (C : Cfg) (st : St) (x : Operand) : Option AV := match ev C st x with | some v => some (strip1 v) | none => none

def impl (q : Bool) : List Prop → List Prop
  | [] => []
  | p :: l => (q = true → p) :: impl q l

def pickObs (C : Cfg) (st : St) (p : Bool) (c a b : Operand) : List Prop :=
  (match ev C st c with | some v => whenOb v | none => []) ++ impl p (match ev C st a with | some v => whenOb v | none => []) ++ impl (!p) (match ev C st b with | some v => whenOb v | none => [])

/-- One operation whose guard says yes. -/
def absPlain (C : Cfg) (CC : FuncId → List AV → AV → Prop) (orc : FuncId → List AV → Option AV) (st : St) (o : Oper) : Option Res :=
  match o.op with
  | .pick c a b => match evS C st c, evS C st a, evS C st b with
    | some (.bool p), some x, some y => match pickAV p (isTrue a) (isFalse b) x y with
      | some v => some ⟨v, .none, pickObs C st p c a b⟩
      | none => none
    | _, _, _ => none
  | op => match absOp C st (evS C st) o.dst orc CC op with
    | some r => some { r with obs := operandObs C st op.operands.toList ++ r.obs }
    | none => none

/-- The Boolean that a guard asks, and under which it is known. -/
def guardAV (C : Cfg) (st : St) (ops : List Oper) (g : Nat × Bool) : Option Bool :=
  match ops[g.1]? with
  | some o => match o.dst with
    | some d => match get st.env d with
      | some (.bool p) => some (match g.2 with | true => p | false => !p)
      | some (.when q (.bool p)) => some (q && (match g.2 with | true => p | false => !p))
      | _ => none
    | none => none
  | none => none

def absStep (C : Cfg) (CC : FuncId → List AV → AV → Prop) (orc : FuncId → List AV → Option AV) (ops : List Oper) (st : St) (o : Oper) : Option (St × List Prop) :=
  match dstOK C o.dst with
  | false => none
  | true => match o.guard with
    | none => match absPlain C CC orc st o with
      | some r => match applyEff st o.dst r.eff with
        | some st' => some (putDst st' o.dst r.val, r.obs)
        | none => none
      | none => none
    | some g => match guardAV C st ops g with
      | some q => match absPlain C CC orc st o with
        | some r => match effIsNone r.eff with
          | true => some (putDst st o.dst (.when q r.val), impl q r.obs)
          | false => none
        | none => none
      | none => none

def absOps (C : Cfg) (CC : FuncId → List AV → AV → Prop) (orc : Nat → FuncId → List AV → Option AV) (all : List Oper) : List Oper → Nat → St → Option (St × List Prop)
  | [], _, st => some (st, [])
  | o :: rest, i, st => match absStep C CC (orc i) all st o with
    | some (st', ps) => match absOps C CC orc all rest (i + 1) st' with
      | some (st'', qs) => some (st'', ps ++ qs)
      | none => none
    | none => none
end Go.AV
