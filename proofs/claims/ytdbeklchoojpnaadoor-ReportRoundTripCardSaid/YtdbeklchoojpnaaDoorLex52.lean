/- Layer 9: what scanning a text with a line feed in it comes to. -/
import Derived.Test.YtdbeklchoojpnaaDoorP52b
namespace Go.Proofs.S52
open Go Go.AV Go.Proofs.Dec

theorem cm_gt {l : List UInt8} {i : Nat} (hp : i < l.length) (hc : ch l i = 35) : i < endOf notNl l i := cm_lt hp hc
/-- The fuel does not matter where there is enough. -/
theorem scanN_fuel (l : List UInt8) : ∀ k k' i out, l.length - i ≤ k → l.length - i ≤ k' → scanN l k i out = scanN l k' i out
  | 0, 0, _, _, _, _ => rfl
  | 0, k' + 1, i, out, h, _ => by rw [scanN, scanN, if_neg (by omega)]
  | k + 1, 0, i, out, _, h => by rw [scanN, scanN, if_neg (by omega)]
  | k + 1, k' + 1, i, out, h, h' => by
    rw [scanN, scanN]
    split
    · rename_i hi
      split
      · exact scanN_fuel l k k' _ _ (by omega) (by omega)
      · split
        · rename_i hc
          have := cm_gt hi hc
          exact scanN_fuel l k k' _ _ (by omega) (by omega)
        · split
          · rename_i ht
            have := tok_pos hi ht
            exact scanN_fuel l k k' _ _ (by omega) (by omega)
          · rfl
    · rfl
def scanS (l : List UInt8) (i : Nat) (out : List Tok) : List Tok × Int × Int := scanN l (l.length - i) i out
theorem scanS_step {l : List UInt8} {i : Nat} (hi : i < l.length) (out : List Tok) : scanS l i out = if ch l i = 32 ∨ ch l i = 9 then scanS l (i + 1) out else if ch l i = 35 then scanS l (endOf notNl l i) out
    else if (tok l i).2 = 0 then scanS l (i + (tok l i).1.text.length) (out ++ [(tok l i).1]) else ([], (tok l i).2, (i : Int)) := by
  unfold scanS
  obtain ⟨k, hk⟩ : ∃ k, l.length - i = k + 1 := ⟨l.length - i - 1, by omega⟩
  rw [hk, scanN, if_pos hi]
  split
  · exact scanN_fuel l _ _ _ _ (by omega) (by omega)
  · split
    · rename_i hc
      have := cm_gt hi hc
      exact scanN_fuel l _ _ _ _ (by omega) (by omega)
    · split
      · rename_i ht
        have := tok_pos hi ht
        exact scanN_fuel l _ _ _ _ (by omega) (by omega)
      · rfl
theorem scanS_end {l : List UInt8} {i : Nat} (hi : ¬ i < l.length) (out : List Tok) : scanS l i out = (out, 0, 0) := by
  unfold scanS
  rw [show l.length - i = 0 by omega]
  rfl
theorem scan_S {l : List UInt8} (h : ¬ 16384 < l.length) : scan l = scanS l 0 [] := by rw [scan_short h]; rfl

theorem scanS_ok (l : List UInt8) : ∀ (n i : Nat) (out : List Tok), l.length - i ≤ n → (scanS l i out).2.1 = 0 → (scanS l i out).2.2 = 0
  | n, i, out, h => by
    by_cases hlt : i < l.length
    · obtain ⟨k, rfl⟩ : ∃ k, n = k + 1 := ⟨n - 1, by omega⟩
      rw [scanS_step hlt]
      split
      · exact scanS_ok l k _ _ (by omega)
      · split
        · rename_i hc
          have := cm_gt hlt hc
          exact scanS_ok l k _ _ (by omega)
        · split
          · rename_i ht
            have := tok_pos hlt ht
            exact scanS_ok l k _ _ (by omega)
          · rename_i ht
            exact fun h => absurd h ht
    · rw [scanS_end hlt]; exact fun _ => rfl
def shift (m : Nat) (x : Tok) : Tok := { x with pos := x.pos + m }
theorem tok_shift (l : List UInt8) (m i : Nat) : (tok (l.drop m) i).2 = (tok l (m + i)).2 ∧ ((tok l (m + i)).2 = 0 → tok l (m + i) = (shift m (tok (l.drop m) i).1, 0)) := by
  have e1 : ch (l.drop m) i = ch l (m + i) := ch_drop l m i
  have e2 : cut (l.drop m) i (endOf inW (l.drop m) i) = cut l (m + i) (endOf inW l (m + i)) := by rw [cut_drop, endOf_drop]
  have e3 : cut (l.drop m) i (endOf inW (l.drop m) (i + 1)) = cut l (m + i) (endOf inW l (m + i + 1)) := by rw [cut_drop, endOf_drop]; rfl
  have e4 : cut (l.drop m) i (i + 1) = cut l (m + i) (m + i + 1) := by rw [cut_drop]; rfl
  have e5 : ((m + i : Nat) : Int) = (i : Int) + (m : Int) := by omega
  unfold tok
  rw [e1, e2, e3, e4]
  split
  · exact ⟨rfl, fun _ => by simp only [shift, e5]⟩
  · split
    · split
      · exact ⟨rfl, fun _ => by simp only [shift, e5]⟩
      · rename_i h; exact ⟨rfl, fun h' => absurd h' h⟩
    · split
      · exact ⟨rfl, fun _ => by simp only [shift, e5]⟩
      · split
        · exact ⟨rfl, fun _ => by simp only [shift, e5]⟩
        · exact ⟨rfl, fun h => absurd h (by decide)⟩
end Go.Proofs.S52
