/- Contracts of the functions of one program. -/
import Derived.Test.YtmlgkljbhidlhaaAvFnL
namespace Go.AV
open Go.RowKit

theorem CallOK.of {P : Program} {f : FuncId} {fn : Func} (hf : P.funcs[f]? = some fn) (hn : (fn.name == "runtime.NumGoroutine") = false) (hb : fn.body.isNone = false) : CallOK P f := by
  intro args w
  simp only [callFunc, Sem.run_bind, run_program, Result.andThen_ok, hf, hn, hb, Bool.false_eq_true, if_false]
  rfl

/-- What is known of a function: it is the program's own, or the model's, and answers so. -/
def Known (P : Program) (G : List (Nat × AV)) (f : FuncId) (args : List AV) (r : AV) : Prop := (CallOK P f ∧ RCalls P G f args r) ∨ RExt P f args r

/-- The same of a function that hands rows over. -/
def KnownF (P : Program) (G : List (Nat × AV)) (f : FuncId) (args : List AV) (r : AV) (cs : List BoxC) : Prop := CallOK P f ∧ RFresh P G f args r cs

/-- The same of a function to which boxes are lent. -/
def KnownL (P : Program) (G : List (Nat × AV)) (f : FuncId) (args : List AV) (hs : List BoxC) (r : AV) (os : List (Option BoxC)) : Prop := CallOK P f ∧ RLent P G f args hs r os

theorem known_ok (C : Cfg) (hF : ∀ f as r cs, C.CCF f as r cs → KnownF C.P C.G f as r cs) (hL : ∀ f as hs r os, C.CCL f as hs r os → KnownL C.P C.G f as hs r os) : CCOK C (Known C.P C.G) := ⟨fun _ _ _ h => h, hF, hL⟩

theorem Known.of {V : VCtx} {f : FuncId} {fn : Func} {args : List AV} {r : AV} (hf : V.C.P.funcs[f]? = some fn) (hok : ((fn.name == "runtime.NumGoroutine") || fn.body.isNone || !Nat.beq fn.ntmps V.C.ntmps || !Nat.ble args.length V.C.ntmps) = false) (hT : TysOK V.C) (hCC : V.CC = Known V.C.P V.C.G) (h : fnVc V fn args r)
    (hF : ∀ f as r cs, V.C.CCF f as r cs → KnownF V.C.P V.C.G f as r cs := by first | exact fun _ _ _ _ h => False.elim h | exact fun _ _ _ _ h => h)
    (hL : ∀ f as hs r os, V.C.CCL f as hs r os → KnownL V.C.P V.C.G f as hs r os := by first | exact fun _ _ _ _ _ h => False.elim h | exact fun _ _ _ _ _ h => h) :
    Known V.C.P V.C.G f args r := by
  simp only [Bool.or_eq_false_iff, Bool.not_eq_false'] at hok
  obtain ⟨⟨⟨h1, h2⟩, h3⟩, h4⟩ := hok
  exact .inl ⟨CallOK.of hf h1 h2, RCalls.of_vc hf (Nat.eq_of_beq_eq_true h3) (Nat.le_of_ble_eq_true h4) hT (by rw [hCC]; exact known_ok V.C hF hL) h⟩
theorem KnownF.of {V : VCtx} {f : FuncId} {fn : Func} {args : List AV} {r : AV} {cs : List BoxC} (hf : V.C.P.funcs[f]? = some fn) (hok : ((fn.name == "runtime.NumGoroutine") || fn.body.isNone || !Nat.beq fn.ntmps V.C.ntmps || !Nat.ble args.length V.C.ntmps) = false) (hT : TysOK V.C) (hCC : V.CC = Known V.C.P V.C.G) (h : fnVcF V fn args r cs)
    (hF : ∀ f as r cs, V.C.CCF f as r cs → KnownF V.C.P V.C.G f as r cs := by first | exact fun _ _ _ _ h => False.elim h | exact fun _ _ _ _ h => h)
    (hL : ∀ f as hs r os, V.C.CCL f as hs r os → KnownL V.C.P V.C.G f as hs r os := by first | exact fun _ _ _ _ _ h => False.elim h | exact fun _ _ _ _ _ h => h) :
    KnownF V.C.P V.C.G f args r cs := by
  simp only [Bool.or_eq_false_iff, Bool.not_eq_false'] at hok
  obtain ⟨⟨⟨h1, h2⟩, h3⟩, h4⟩ := hok
  exact ⟨CallOK.of hf h1 h2, RFresh.of_vc hf (Nat.eq_of_beq_eq_true h3) (Nat.le_of_ble_eq_true h4) hT (by rw [hCC]; exact known_ok V.C hF hL) h⟩
theorem KnownL.of {V : VCtx} {f : FuncId} {fn : Func} {args : List AV} {hs : List BoxC} {r : AV} {os : List (Option BoxC)} (hf : V.C.P.funcs[f]? = some fn) (hok : ((fn.name == "runtime.NumGoroutine") || fn.body.isNone || !Nat.beq fn.ntmps V.C.ntmps || !Nat.ble args.length V.C.ntmps) = false) (hT : TysOK V.C) (hCC : V.CC = Known V.C.P V.C.G) (h : fnVcL V fn args hs r os)
    (hF : ∀ f as r cs, V.C.CCF f as r cs → KnownF V.C.P V.C.G f as r cs := by first | exact fun _ _ _ _ h => False.elim h | exact fun _ _ _ _ h => h)
    (hL : ∀ f as hs r os, V.C.CCL f as hs r os → KnownL V.C.P V.C.G f as hs r os := by first | exact fun _ _ _ _ _ h => False.elim h | exact fun _ _ _ _ _ h => h) :
    KnownL V.C.P V.C.G f args hs r os := by
  simp only [Bool.or_eq_false_iff, Bool.not_eq_false'] at hok
  obtain ⟨⟨⟨h1, h2⟩, h3⟩, h4⟩ := hok
  exact ⟨CallOK.of hf h1 h2, RLent.of_vc hf (Nat.eq_of_beq_eq_true h3) (Nat.le_of_ble_eq_true h4) hT (by rw [hCC]; exact known_ok V.C hF hL) h⟩
/-- Arguments that say more. -/
theorem Known.weaken {P : Program} {G : List (Nat × AV)} {f : FuncId} {args args' : List AV} {r : AV} (h : Known P G f args r) (hs : AV.areStat args' = true) (hl : AV.les [] [] args' args) : Known P G f args' r := by
  obtain ⟨l1, l2⟩ := les_len hl
  rcases h with ⟨h1, h2⟩ | h
  · exact .inl ⟨h1, fun w F vs a1 a2 a3 a4 => h2 w F vs a1 a2 (by omega) fun j hj => le_repS (areStat_getD hs j) (l2 j (by omega)) (a4 j (by omega))⟩
  · exact .inr fun w F vs a3 a4 => h w F vs (by omega) fun j hj => le_repS (areStat_getD hs j) (l2 j (by omega)) (a4 j (by omega))
/-- Of a function with a body: its contract. -/
theorem Known.calls {P : Program} {G : List (Nat × AV)} {f : FuncId} {fn : Func} {args : List AV} {r : AV} (h : Known P G f args r) (hf : P.funcs[f]? = some fn) (hok : ((fn.name == "runtime.NumGoroutine") || fn.body.isNone) = false) : RCalls P G f args r := by
  simp only [Bool.or_eq_false_iff] at hok
  rcases h with ⟨_, h⟩ | h
  · exact h
  · intro w F vs _ _ a3 a4
    obtain ⟨v, h1, _⟩ := h w F vs a3 a4
    rw [CallOK.of hf hok.1 hok.2] at h1
    cases h1
end Go.AV
