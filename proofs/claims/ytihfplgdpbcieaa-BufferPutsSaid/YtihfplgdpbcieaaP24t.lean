/- Layer 24: scribble returns, and has written only what it may; Put and Clone, and scribble behind them. -/
import Derived.Test.YtihfplgdpbcieaaP24s
namespace Go.Proofs.S24
open Go Go.AV Go.RowKit

section
variable {W0 : AV.Entry} {F0 : Nat → Prop} {a : Act} {w : World} {F : Nat → Prop} {φ : Nat → AV.Place} {n : Nat} {ms : Nat → Nat} {z : Nat → Nat → Int}

def e1 (n : Nat) (ms : Nat → Nat) (z : Nat → Nat → Int) (i : Nat) : St := ⟨put (put (put (put (S0 n ms z i).env 4 (.int .i64 i)) 5 (rowA n ms z)) 6 (.int .i64 n)) 7 (.bool (decide ((i : Int) < (n : Int)))), []⟩
theorem vc_h1 (n : Nat) (ms : Nat → Nat) (z : Nat → Nat → Int) (i : Nat) (Q : Exit → St → Prop) : vc vS hd1 (S0 n ms z i) Q = ((n : Int) ≤ 9223372036854775807 ∧ ((decide ((i : Int) < (n : Int)) = true → Q .normal (e1 n ms z i)) ∧ (decide ((i : Int) < (n : Int)) = false → Q (.exit 0) (e1 n ms z i)))) := by kernel_rfl
def e3 (n : Nat) (ms : Nat → Nat) (z : Nat → Nat → Int) (i : Nat) : St := ⟨put (e1 n ms z i).env 3 (.int .i64 0), []⟩
theorem vc_r3 (n : Nat) (ms : Nat → Nat) (z : Nat → Nat → Int) (i : Nat) (Q : Exit → St → Prop) : vc vS r3 (e1 n ms z i) Q = Q .normal (e3 n ms z i) := by kernel_rfl
def e2 (n : Nat) (ms : Nat → Nat) (z : Nat → Nat → Int) (i k : Nat) : St := ⟨put (put (put (put (put (put (put (put (S1 n ms z i k).env 10 (.int .i64 k)) 11 (rowA n ms z)) 12 (.int .i64 i)) 13 (.rptr bufSh (elE ms z i)))
  14 (.rptr .leaf (.nseq anyN entSh (ms i) fun k => .agg [.any, .int .i64 (z i k)]))) 15 (.nseq anyN entSh (ms i) fun k => .agg [.any, .int .i64 (z i k)])) 16 (.int .i64 (ms i))) 17 (.bool (decide ((k : Int) < (ms i : Int)))), []⟩
theorem vc_h2 (n : Nat) (ms : Nat → Nat) (z : Nat → Nat → Int) (i k : Nat) (Q : Exit → St → Prop) : vc vS hd2 (S1 n ms z i k) Q = (inIx (i : Int) n ∧ (ms i : Int) ≤ 9223372036854775807 ∧ ((decide ((k : Int) < (ms i : Int)) = true → Q .normal (e2 n ms z i k)) ∧ (decide ((k : Int) < (ms i : Int)) = false → Q (.exit 2) (e2 n ms z i k)))) := by kernel_rfl
def e5 (n : Nat) (ms : Nat → Nat) (z : Nat → Nat → Int) (i k : Nat) : St := ⟨put (put (put (S1 n ms z i k).env 18 (.int .i64 k)) 19 (.int .i64 (IntKind.i64.wrap ((k : Int) + 1)))) 3 (.int .i64 (IntKind.i64.wrap ((k : Int) + 1))), []⟩
theorem vc_r5 (n : Nat) (ms : Nat → Nat) (z : Nat → Nat → Int) (i k : Nat) (Q : Exit → St → Prop) : vc vS r5 (S1 n ms z i k) Q = Q .normal (e5 n ms z i k) := by kernel_rfl
def e6 (n : Nat) (ms : Nat → Nat) (z : Nat → Nat → Int) (i : Nat) : St := ⟨put (put (put (S0 n ms z i).env 8 (.int .i64 i)) 9 (.int .i64 (IntKind.i64.wrap ((i : Int) + 1)))) 2 (.int .i64 (IntKind.i64.wrap ((i : Int) + 1))), []⟩
theorem vc_r2 (n : Nat) (ms : Nat → Nat) (z : Nat → Nat → Int) (i : Nat) (Q : Exit → St → Prop) : vc vS r2 (S0 n ms z i) Q = Q .normal (e6 n ms z i) := by kernel_rfl

theorem leA (h h' : List (Nat × BoxC)) : AV.le h h' (rowA n ms z) (rowA n ms z) := ⟨rfl, rfl, fun _ _ => rfl⟩
theorem le10 (i : Nat) : (e1 n ms z i).le (S0 n ms z i) := ⟨⟨leA _ _, ⟨rfl, rfl⟩, trivial⟩, trivial⟩
theorem le31 (i : Nat) : (e3 n ms z i).le (S1 n ms z i 0) := ⟨⟨leA _ _, ⟨rfl, rfl⟩, ⟨rfl, rfl⟩, trivial⟩, trivial⟩
theorem le21 (i k : Nat) : (e2 n ms z i k).le (S1 n ms z i k) := ⟨⟨leA _ _, ⟨rfl, rfl⟩, ⟨rfl, rfl⟩, trivial⟩, trivial⟩
theorem le20 (i k : Nat) : (e2 n ms z i k).le (S0 n ms z i) := ⟨⟨leA _ _, ⟨rfl, rfl⟩, trivial⟩, trivial⟩
theorem le51 (i k : Nat) (h : InR .i64 ((k : Int) + 1)) : (e5 n ms z i k).le (S1 n ms z i (k + 1)) := ⟨⟨leA _ _, ⟨rfl, rfl⟩, ⟨rfl, h⟩, trivial⟩, trivial⟩
theorem le60 (i : Nat) (h : InR .i64 ((i : Int) + 1)) : (e6 n ms z i).le (S0 n ms z (i + 1)) := ⟨⟨leA _ _, ⟨rfl, h⟩, trivial⟩, trivial⟩

theorem inner {i : Nat} (h : Rel cS W0 F0 (S1 n ms z i 0) a w F φ) (hA : ∀ b, W0.A b = none) (hL : ∀ g, F0 g → W0.L g) (hi : i < n) (hm : ms i ≤ 1000000) :
    (Code.block 2 (.loop (.seq hd2 (.seq (.block 3 (.region 6 ops6 true)) r5)))).wp Try.prog (fun e a' w' => e = .normal ∧ ∃ z' F' φ', Rel cS W0 F0 (S0 n ms z' i) a' w' F' φ') a w := by
  refine wp_block ?_
  refine wp_loop_ghost (fun m a w => ∃ k z F φ, k ≤ ms i ∧ ms i - k = m ∧ Rel cS W0 F0 (S1 n ms z i k) a w F φ) (ms i) ⟨0, z, F, φ, by omega, by omega, h⟩ ?_
  rintro m a' w' ⟨k, z, F, φ, hk, rfl, hR⟩
  refine wp_seq (wp_mono (vc_sound cS_ok ccS hd2 (S1 n ms z i k) (fun e st' => (e = .normal ∧ k < ms i ∧ st' = e2 n ms z i k) ∨ (e = .exit 2 ∧ st' = e2 n ms z i k)) _ _ _ _ (by
    rw [vc_h2]
    exact ⟨⟨by omega, by omega⟩, by omega, fun h => .inl ⟨rfl, by simpa using h, rfl⟩, fun _ => .inr ⟨rfl, rfl⟩⟩) hR) ?_)
  rintro e a2 w2 ⟨st2, F2, φ2, hR2, ⟨rfl, hlt, rfl⟩ | ⟨rfl, rfl⟩⟩
  · obtain ⟨φ3, hR3⟩ := hR2.weaken (le21 i k)
    refine wp_seq (wp_block (wp_mono (region6 hR3 hA hL hi hlt) ?_))
    rintro e a3 w3 ⟨rfl, z', hR4⟩
    refine wp_mono (vc_sound cS_ok ccS r5 (S1 n ms z' i k) (fun e st' => e = .normal ∧ st' = e5 n ms z' i k) _ _ _ _ (by rw [vc_r5]; exact ⟨rfl, rfl⟩) hR4) ?_
    rintro e a4 w4 ⟨st4, F4, φ4, hR5, rfl, rfl⟩
    obtain ⟨φ5, hR6⟩ := hR5.weaken (le51 i k (inR64 (by omega) (by omega)))
    exact ⟨ms i - (k + 1), by omega, k + 1, z', F4, φ5, by omega, rfl, hR6⟩
  · obtain ⟨φ3, hR3⟩ := hR2.weaken (le20 i k)
    exact ⟨rfl, z, F2, φ3, hR3⟩

theorem outer {v : Value} (hfn : ∀ i, i < n → ms i ≤ 1000000) (hn : n ≤ 1000000) (w0 : World) (F0 : Nat → Prop) (hro : ∀ k, F0 k → k < w0.heap.size) (hv : RepS w0 F0 v (rowA n ms z)) :
    Calls Try.prog 29 #[v] w0 fun en w2 => ∃ u, en = .returned u ∧ Kept F0 w0 w2 := by
  have hR : Rel cS ⟨w0, F0, fun _ => none, []⟩ F0 ⟨[(0, rowA n ms z)], []⟩ { tmps := #[v] ++ Array.replicate (Try.f29.ntmps - 1) undef, defers := [] } w0 F0 (fun _ => ⟨none, 0, .leaf, 0⟩) := by
    have h0 : Rel cS (.of w0) F0 ⟨argEnv 0 [rowA n ms z], []⟩ { tmps := #[v] ++ Array.replicate (Try.f29.ntmps - #[v].size) undef, defers := [] } w0 F0 (fun _ => ⟨none, 0, .leaf, 0⟩) :=
      Rel.start (C := cS) (fn := Try.f29) rfl (show 1 ≤ 38 by decide) hro (fun g x hg => by cases hg) rfl (fun j hj => by
        obtain rfl : j = 0 := by simpa using hj
        exact hv)
    exact ⟨h0.env, (fun b c hc => by cases hc), h0.inj, h0.ro, Kept.refl _ _, h0.sub, (fun k hk => .inl hk), h0.dfr, h0.tsz, h0.glob, (fun b p hb => by cases hb)⟩
  refine calls_of_wp Try.func29 body_eq (wp_seq (wp_mono (vc_sound cS_ok ccS r0 ⟨[(0, rowA n ms z)], []⟩ (fun e st' => e = .normal ∧ st' = ⟨put [(0, rowA n ms z)] 2 (.int .i64 0), []⟩) _ _ _ _ (by
    have : vc vS r0 ⟨[(0, rowA n ms z)], []⟩ (fun e st' => e = .normal ∧ st' = ⟨put [(0, rowA n ms z)] 2 (.int .i64 0), []⟩) = (Exit.normal = Exit.normal ∧ (⟨put [(0, rowA n ms z)] 2 (.int .i64 0), []⟩ : St) = ⟨put [(0, rowA n ms z)] 2 (.int .i64 0), []⟩) := by kernel_rfl
    rw [this]
    exact ⟨rfl, rfl⟩) hR) ?_))
  rintro e a1 w1 ⟨st1, F1, φ1, hR1, rfl, rfl⟩
  have hle : St.le ⟨put [(0, rowA n ms z)] 2 (.int .i64 0), []⟩ (S0 n ms z 0) := ⟨⟨leA _ _, ⟨rfl, rfl⟩, trivial⟩, trivial⟩
  obtain ⟨φ2, hR2⟩ := hR1.weaken hle
  refine wp_block ?_
  refine wp_loop_ghost (fun m a w => ∃ i z F φ, i ≤ n ∧ n - i = m ∧ Rel cS ⟨w0, F0, fun _ => none, []⟩ F0 (S0 n ms z i) a w F φ) n ⟨0, z, F1, φ2, by omega, by omega, hR2⟩ ?_
  rintro m a' w' ⟨i, z, F, φ, hi, rfl, hR⟩
  refine wp_seq (wp_mono (vc_sound cS_ok ccS hd1 (S0 n ms z i) (fun e st' => (e = .normal ∧ i < n ∧ st' = e1 n ms z i) ∨ (e = .exit 0 ∧ st' = e1 n ms z i)) _ _ _ _ (by
    rw [vc_h1]
    exact ⟨by omega, fun h => .inl ⟨rfl, by simpa using h, rfl⟩, fun _ => .inr ⟨rfl, rfl⟩⟩) hR) ?_)
  rintro e a2 w2 ⟨st2, F2, φ2, hR2, ⟨rfl, hlt, rfl⟩ | ⟨rfl, rfl⟩⟩
  · refine wp_seq (wp_block (wp_seq (wp_mono (vc_sound cS_ok ccS r3 (e1 n ms z i) (fun e st' => e = .normal ∧ st' = e3 n ms z i) _ _ _ _ (by rw [vc_r3]; exact ⟨rfl, rfl⟩) hR2) ?_)))
    rintro e a3 w3 ⟨st3, F3, φ3, hR3, rfl, rfl⟩
    obtain ⟨φ4, hR4⟩ := hR3.weaken (le31 i)
    refine wp_mono (inner hR4 (fun _ => rfl) (fun _ h => h) hlt (hfn i hlt)) ?_
    rintro e a5 w5 ⟨rfl, z', F5, φ5, hR5⟩
    refine wp_mono (vc_sound cS_ok ccS r2 (S0 n ms z' i) (fun e st' => e = .normal ∧ st' = e6 n ms z' i) _ _ _ _ (by rw [vc_r2]; exact ⟨rfl, rfl⟩) hR5) ?_
    rintro e a6 w6 ⟨st6, F6, φ6, hR6, rfl, rfl⟩
    obtain ⟨φ7, hR7⟩ := hR6.weaken (le60 i (inR64 (by omega) (by omega)))
    exact ⟨n - (i + 1), by omega, i + 1, z', F6, φ7, by omega, rfl, hR7⟩
  · exact ⟨hR2.dfr, .tuple #[], results_none rfl _ _ _, _, rfl, hR2.base⟩
end
end Go.Proofs.S24
