/- Part 8 of the proof: HNumber. -/
import Derived.Test.YtadnefnofbnheaaDoorTT1
import Derived.Test.YtadnefnofbnheaaDoorTT6
/- text.Number: what the digits of a string of 1 to 15 bytes come to. -/
namespace Go.Proofs.YtadnefnofbnheaaDoor.Pr
open Go.RowKit Go.Proofs.YtadnefnofbnheaaDoorW.PrintWords Go.Proofs.YtadnefnofbnheaaDoorW.PrintLast Go.Proofs.YtadnefnofbnheaaDoorW.PrintMore

def numP (l : List UInt8) : Int × Bool :=
  if l.length < 1 ∨ l.length > 15 then (0, false) else match valL l 0 with | some n => ((n : Int), true) | none => (0, false)

theorem w64_digit (n c : Nat) (hn : n < 1000000000000000) (h1 : 48 ≤ c) (h2 : c ≤ 57) :
    wrap64 ((wrap64 (10 * (n : Int))) + (((c : Int) - 48) % 256)) = ((10 * n + (c - 48) : Nat) : Int) := by
  have e1 : wrap64 (10 * (n : Int)) = 10 * (n : Int) := by unfold wrap64; omega
  have e2 : ((c : Int) - 48) % 256 = ((c - 48 : Nat) : Int) := by omega
  rw [e1, e2]
  unfold wrap64
  omega

theorem number_l0 (s : ByteArray) (hs : s.size ≤ 15) : ∀ (d k i n : Nat), s.size - i = d → d + 1 ≤ k → i ≤ s.size → n < 10 ^ i →
    text_Number.l0 k s n s.size i = some (match valL (s.data.toList.drop i) n with | some m => ((m : Int), true) | none => (0, false)) := by
  intro d
  induction d with
  | zero =>
    intro k i n hd hk hi hn
    obtain ⟨k, rfl⟩ : ∃ m, k = m + 1 := ⟨k - 1, by omega⟩
    obtain rfl : i = s.size := by omega
    rw [text_Number.l0, if_neg (by omega), ← ba_len, List.drop_length]
    rfl
  | succ d ih =>
    intro k i n hd hk hi hn
    obtain ⟨k, rfl⟩ : ∃ m, k = m + 1 := ⟨k - 1, by omega⟩
    obtain ⟨c, r, h1, h2, h3⟩ := bt_nat s i (by omega)
    have hc : c.toNat < 256 := c.toNat_lt
    have hb : n < 1000000000000000 := Nat.lt_of_lt_of_le hn (Nat.pow_le_pow_right (by omega) (by omega : i ≤ 15))
    have hn2 : c.toNat ≤ 57 → 10 * n + (c.toNat - 48) < 10 ^ (i + 1) := by
      intro hc9
      rw [Nat.pow_succ]
      clear hb h1 h2 h3 hk hd hi hs
      omega
    clear hn
    rw [text_Number.l0, if_pos (by omega), if_pos (by omega), if_pos (by omega), h3, h1, valL]
    by_cases hd1 : c.toNat < 48
    · rw [if_pos (by omega), if_neg (by simp [isDig]; omega)]
    · rw [if_neg (by omega)]
      by_cases hd2 : c.toNat > 57
      · rw [if_pos (by omega), if_neg (by simp [isDig]; omega)]
      · rw [if_neg (by omega), if_pos (by simp [isDig]; omega)]
        rw [w64_digit n c.toNat hb (by omega) (by omega), w64_succ i (by omega), ← h2]
        exact ih k (i + 1) _ (by omega) (by omega) (by omega) (hn2 (by omega))

theorem number_ev (s : ByteArray) (k : Nat) (hk : 20 ≤ k) : text_Number.f k s = some (numP s.data.toList) := by
  obtain ⟨k, rfl⟩ : ∃ m, k = m + 1 := ⟨k - 1, by omega⟩
  unfold text_Number.f numP
  rw [ba_len]
  by_cases h1 : s.size < 1
  · rw [if_pos (by omega), text_Number.j0, if_pos rfl, if_pos (by omega)]
  · rw [if_neg (by omega), text_Number.j0]
    by_cases h2 : s.size > 15
    · rw [if_pos (by simp; omega), if_pos (by omega)]
    · rw [if_neg (by simp; omega), if_neg (by omega)]
      have := number_l0 s (by omega) s.size k 0 0 (by omega) (by omega) (by omega) (by simp)
      simpa using this

end Go.Proofs.YtadnefnofbnheaaDoor.Pr
