/- Layer 24: scribble behind Put and Clone turns no memory that was there. -/
import Derived.Test.YtihfplgdpbcieaaP24t
namespace Go.Proofs.S24
open Go Go.AV Go.RowKit

theorem twice {f : FuncId} {args : List AV} {x : List Buf} (hx : SmL x) (hk : ∀ N, KnownF Try.prog (GN N) f args (.own 0 x.length) [.row 24 bufSh x.length fun i => encN N (x.getD i default)]) : RTwice Try.prog [] f args 29 := by
  refine ⟨(hk anyN).1, CallOK.of (fn := Try.f29) rfl (by kernel_rfl) (by kernel_rfl), fun w F vs hro _ hsz hargs => ?_⟩
  have hc := (hk fun k => w.heap.size ≤ k).2 w (fun k => k < w.heap.size) vs (fun _ h => h) (fun g y hg => by
    simp only [GN, AV.get] at hg
    split at hg
    · cases hg; exact .cov _ _ rfl fun k => Nat.lt_or_ge k _
    · cases hg) hsz fun j hj => (hargs j hj).keep (fun _ _ => rfl) fun k hk => hro k hk
  refine hc.mono ?_
  rintro en w1 ⟨v, F', φ', rfl, hb, f1, f2, f3, hv, hbox, _⟩
  refine ⟨v, rfl, ?_⟩
  have hR : RepS w1 (fun k => w.heap.size ≤ k ∧ k < w1.heap.size) v (rowA x.length (fun i => (x.getD i default).entries.length) fun i k => ((x.getD i default).entries.getD k default).val) := by
    rcases hv.own_inv with ⟨g, hg, rfl, hcap⟩ | ⟨hg, h0, rfl⟩
    · obtain ⟨hsh, _, ⟨h1, _⟩ | ⟨g', cs, hg', hB, hnF, hh, hsz, hnc, _, hrep⟩⟩ := hbox 0 _ rfl
      · rw [hg] at h1; cases h1
      rw [hg] at hg'
      cases hg'
      have hlt : g < w1.heap.size := (Array.getElem?_eq_some_iff.1 hh).1
      refine .seq g 0 x.length _ bufSh _ (fun i j => cs.getD (i * bufSh.size + j) undef) ⟨hB, hlt⟩ hcap (fun i hi j hj => ?_) fun i hi j hj => ?_
      · have hmul : (i + 1) * bufSh.size ≤ (φ' 0).cap * bufSh.size := Nat.mul_le_mul_right _ (by omega)
        rw [Nat.add_mul] at hmul
        rw [Nat.zero_add]; exact cell_of hh (by omega)
      · have hr := hrep i hi j hj
        match j, hj with
        | 0, hj => exact .any _ (RepS.one hr rfl)
        | 1, hj => exact .any _ (RepS.one hr rfl)
        | 2, hj =>
          have hr : RepS w1 F' (cs.getD (i * bufSh.size + 2) undef) (.nseq (fun k => w.heap.size ≤ k) entSh (x.getD i default).entries.length fun k => encE ((x.getD i default).entries.getD k default)) := hr
          show RepS w1 _ _ (.nseq anyN entSh (x.getD i default).entries.length fun k => .agg [.any, .int .i64 ((x.getD i default).entries.getD k default).val])
          generalize cs.getD (i * bufSh.size + 2) undef = u at hr
          generalize x.getD i default = b at hr
          generalize b.entries.length = m at hr
          generalize hf : (fun k => encE (b.entries.getD k default)) = f at hr
          cases hr with
          | nseq0 => exact .nseq0 _ _ _ _ _
          | nseq _ g2 o2 _ cap2 _ _ cs2 hF2 hN2 hb2 hn2 hc2 hr2 =>
            subst hf
            refine .nseq _ g2 o2 m cap2 _ _ cs2 ⟨hN2, f3 g2 hF2⟩ trivial hb2 hn2 hc2 fun k hk j hj => ?_
            have hr3 := hr2 k hk j hj
            match j, hj with
            | 0, hj => exact .any _ (RepS.one hr3 rfl)
            | 1, hj =>
              have hr3 : RepS w1 F' (cs2 k 1) (.int .i64 (b.entries.getD k default).val) := hr3
              show RepS w1 _ (cs2 k 1) (.int .i64 (b.entries.getD k default).val)
              generalize (b.entries.getD k default).val = y at hr3 ⊢
              generalize cs2 k 1 = u at hr3
              cases hr3 with | int _ _ h => exact .int _ _ h
            | j + 2, hj => exact absurd hj (by show ¬ j + 2 < 2; omega)
        | j + 3, hj => exact absurd hj (by show ¬ j + 3 < 3; omega)
    · rw [h0]; exact .seq0 _ _ _ _
  refine (outer (fun i _ => hx.2 i) hx.1 w1 _ (fun k h => h.2) hR).mono ?_
  rintro en2 w2 ⟨u, rfl, hK⟩
  exact ⟨u, rfl, hK.os.trans hb.os, hK.tape.trans hb.tape, hK.output.trans hb.output, Nat.le_trans hb.size hK.size, fun k hk => (hK.block k (Nat.lt_of_lt_of_le hk hb.size) fun h => by omega).trans (hb.block k hk)⟩
end Go.Proofs.S24
