/- Layer 52: the parsers of reports: what they answer. -/
import Derived.Test.YtdbeklchoojpnaaDoorP52g
import Derived.Test.YtdbeklchoojpnaaDoorS52x
namespace Go.Proofs.S52
open Go Go.AV Go.Proofs.Dec

/-- What a parsing step answers: no fault (err 0), its value, the tokens that are left; or a fault and its place. -/
structure PR (α : Type) where
  err : Int
  pos : Int
  val : α
  rest : List Tok
def nextP (a b e : Int) : List Tok → PR Tok
  | [] => ⟨15, e, t0, []⟩
  | t :: l => if t.kind ≠ a ∧ t.kind ≠ b then ⟨14, t.pos, t0, []⟩ else ⟨0, 0, t, l⟩
def wordP (s : List UInt8) (e : Int) (l : List Tok) : PR Tok :=
  if (nextP 1 1 e l).err ≠ 0 then nextP 1 1 e l
  else if (nextP 1 1 e l).val.text ≠ s then ⟨14, (nextP 1 1 e l).val.pos, t0, []⟩
  else nextP 1 1 e l
def numP (p : PR Tok) (e : Int) : PR Int :=
  if p.err ≠ 0 then ⟨p.err, p.pos, 0, []⟩
  else if p.val.num < 0 then ⟨2, p.val.pos, 0, []⟩
  else ⟨(nextP 4 4 e p.rest).err, (nextP 4 4 e p.rest).pos, p.val.num, (nextP 4 4 e p.rest).rest⟩
def countP (s : List UInt8) (e : Int) (l : List Tok) : PR Int :=
  if (wordP s e l).err ≠ 0 then ⟨(wordP s e l).err, (wordP s e l).pos, 0, []⟩ else numP (nextP 2 2 e (wordP s e l).rest) e
def numsP (e : Int) : List Tok → List Int → PR (List Int)
  | [], _ => ⟨15, e, [], []⟩
  | t :: l, out => if t.kind ≠ 2 ∧ t.kind ≠ 4 then ⟨14, t.pos, [], []⟩
      else if t.kind = 4 then ⟨0, 0, out, l⟩
      else if out.length = 512 then ⟨4, t.pos, [], []⟩
      else numsP e l (out ++ [t.num])
def wBug : List UInt8 := [98, 117, 103]
def kindP (p : PR Tok) (last e : Int) : PR Cex :=
  if p.err ≠ 0 then ⟨p.err, p.pos, c0, []⟩
  else if codeB p.val.text = 0 then ⟨6, p.val.pos, c0, []⟩
  else if codeB p.val.text ≤ last then ⟨7, p.val.pos, c0, []⟩
  else ⟨(numsP e p.rest []).err, (numsP e p.rest []).pos, ⟨codeB p.val.text, (numsP e p.rest []).val⟩, (numsP e p.rest []).rest⟩
def bugP (last e : Int) (l : List Tok) : PR Cex :=
  if (wordP wBug e l).err ≠ 0 then ⟨(wordP wBug e l).err, (wordP wBug e l).pos, c0, []⟩ else kindP (nextP 1 1 e (wordP wBug e l).rest) last e
def bugsP (e : Int) : Nat → Int → List Cex → List Tok → PR (List Cex)
  | 0, _, out, _ => ⟨0, 0, out, []⟩
  | k + 1, last, out, l => if l = [] then ⟨0, 0, out, []⟩
      else if (bugP last e l).err ≠ 0 then ⟨(bugP last e l).err, (bugP last e l).pos, [], []⟩
      else bugsP e k (bugP last e l).val.bug (out ++ [(bugP last e l).val]) (bugP last e l).rest

/-- The reader's state. -/
structure RS where
  l : List Tok
  e : Int
  fe : Int
  fa : Int
def rfail (s : RS) (e a : Int) : RS := if s.fe = 0 then ⟨s.l, s.e, e, a⟩ else s
def rnext (s : RS) (k : Int) (w : List UInt8) : Tok × RS :=
  if s.fe ≠ 0 then (t0, s)
  else if s.l = [] then (t0, rfail s 15 s.e)
  else if (s.l.getD 0 t0).kind ≠ k ∨ (w ≠ [] ∧ (s.l.getD 0 t0).text ≠ w) then (t0, rfail s 14 (s.l.getD 0 t0).pos)
  else (s.l.getD 0 t0, ⟨s.l.drop 1, s.e, s.fe, s.fa⟩)
def rneg (p : Tok × RS) : RS := if p.2.fe = 0 ∧ p.1.num < 0 then rfail p.2 2 p.1.pos else p.2
def rcount (s : RS) (w : List UInt8) : Int × RS := ((rnext (rnext s 1 w).2 2 []).1.num, (rnext (rneg (rnext (rnext s 1 w).2 2 [])) 4 []).2)
/-- The numbers of a bug's line: whether there are too many, the numbers, what is left. -/
def rnums : List Tok → List Int → Bool × List Int × List Tok
  | [], out => (false, out, [])
  | t :: l, out => if t.kind = 2 then if out.length = 512 then (true, out, t :: l) else rnums l (out ++ [t.num]) else (false, out, t :: l)
def rline (s : RS) (b : Int) : Cex × RS :=
  if (rnums s.l []).1 = true then (c0, rfail ⟨(rnums s.l []).2.2, s.e, s.fe, s.fa⟩ 4 ((rnums s.l []).2.2.getD 0 t0).pos)
  else (⟨b, (rnums s.l []).2.1⟩, (rnext ⟨(rnums s.l []).2.2, s.e, s.fe, s.fa⟩ 4 []).2)
def rkind (p : Tok × RS) (last : Int) : Cex × RS :=
  if p.2.fe ≠ 0 then (c0, p.2)
  else if codeB p.1.text = 0 then (c0, rfail p.2 6 p.1.pos)
  else if codeB p.1.text ≤ last then (c0, rfail p.2 7 p.1.pos)
  else rline p.2 (codeB p.1.text)
def rbug (s : RS) (last : Int) : Cex × RS := rkind (rnext (rnext s 1 wBug).2 1 []) last
def rbugs : Nat → Int → List Cex → RS → List Cex × RS
  | 0, _, out, s => (out, s)
  | k + 1, last, out, s => if s.fe = 0 ∧ s.l ≠ [] then rbugs k (rbug s last).1.bug (out ++ [(rbug s last).1]) (rbug s last).2 else (out, s)

def boxP (l : List Tok) (e : Int) : BoxC := .cell 55 parSh (.agg [rowT l, .int .i64 e])
def boxR (s : RS) : BoxC := .cell 60 rdrSh (.agg [rowT s.l, .int .i64 s.e, encF s.fe s.fa])
def thr {α : Type} (p : PR α) : Option (Bool × Value) := some (p.err != 0, fltV' p.err p.pos)
where fltV' (e a : Int) : Value := .iface 31 (.agg #[.int .i64 e, .int .i64 a])

def panP : FuncId → List AV → List BoxC → Option (Bool × Value)
  | 46, [_, .int _ e, .int _ a], _ => some (true, thr.fltV' e a)
  | 45, [_, .int _ a, .int _ b], [.cell _ _ (.agg [.seq sh n f, .int _ e])] => thr (nextP a b e (decR (.seq sh n f)))
  | 44, [_, .str s], [.cell _ _ (.agg [.seq sh n f, .int _ e])] => thr (wordP s e (decR (.seq sh n f)))
  | _, _, _ => none
def lentP : FuncId → List AV → List BoxC → Option (AV × List (Option BoxC))
  | 45, [_, .int _ a, .int _ b], [.cell _ _ (.agg [.seq sh n f, .int _ e])] => some (.mc tokSh (encT (nextP a b e (decR (.seq sh n f))).val), [some (boxP (nextP a b e (decR (.seq sh n f))).rest e)])
  | 44, [_, .str s], [.cell _ _ (.agg [.seq sh n f, .int _ e])] => some (.tup [], [some (boxP (wordP s e (decR (.seq sh n f))).rest e)])
  | 48, [_, .int _ e, .int _ a], [.cell _ _ (.agg [.seq sh n f, .int _ e0, .agg [.int _ fe, .int _ fa]])] => some (.tup [], [some (boxR (rfail ⟨decR (.seq sh n f), e0, fe, fa⟩ e a))])
  | 47, [_, .int _ k, .str w], [.cell _ _ (.agg [.seq sh n f, .int _ e0, .agg [.int _ fe, .int _ fa]])] => some (.mc tokSh (encT (rnext ⟨decR (.seq sh n f), e0, fe, fa⟩ k w).1), [some (boxR (rnext ⟨decR (.seq sh n f), e0, fe, fa⟩ k w).2)])
  | _, _, _ => none
theorem decR_seq (l : List Tok) (sh : Shape) : decR (AV.seq sh l.length fun i => encT (l.getD i t0)) = l := decR_row l
def mayP (f : FuncId) : Bool := Nat.beq f 46 || Nat.beq f 45 || Nat.beq f 44 || Nat.beq f 30 || Nat.beq f 31
noncomputable def cfgP (n : Nat) (lent : FuncId → List AV → List BoxC → Option (AV × List (Option BoxC))) (pan : FuncId → List AV → List BoxC → Option (Bool × Value)) : Cfg :=
  { cfgD n with lent := lent, CCL := KnownL Tryd.prog [], pan := pan, CCP := KnownP Tryd.prog [], mayPan := mayP }
theorem cfgP_ok (n : Nat) (lent : FuncId → List AV → List BoxC → Option (AV × List (Option BoxC))) (pan : FuncId → List AV → List BoxC → Option (Bool × Value)) : TysOK (cfgP n lent pan) := tys_ok (C := cfgP n lent pan) (by kernel_rfl)
noncomputable def vp (n : Nat) (inv : Nat → Option Inv) : VCtx := { C := cfgP n lentP panP, CC := Known Tryd.prog [], orc := fun _ _ => spR, inv := inv }
end Go.Proofs.S52
