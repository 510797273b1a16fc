/- TextNumbers answers true: the plain law. -/
import Derived.Test.YtadnefnofbnheaaDoorHDig
import Derived.Test.YtadnefnofbnheaaDoorHNumber
import Derived.Test.YtadnefnofbnheaaDoorQMissivelaw01TextNumbers
import Derived.KernelRfl
namespace Go.Proofs.YtadnefnofbnheaaDoor.Pr
open Go.RowKit Go.Proofs.YtadnefnofbnheaaDoorW.PrintWords Go.Proofs.YtadnefnofbnheaaDoorW.PrintLast Go.Proofs.YtadnefnofbnheaaDoorW.PrintMore

theorem small01_60 : missivelaw01_small.f 60 = some true := by kernel_rfl
theorem small01_ev : Ev (fun k => missivelaw01_small.f k) true := by
  refine ⟨60, fun k hk => ?_⟩
  obtain ⟨d, rfl⟩ : ∃ d, k = d + 60 := ⟨k - 60, by omega⟩
  clear hk
  dsimp only
  induction d with
  | zero => rw [Nat.zero_add]; exact small01_60
  | succ d ih =>
    rw [show d + 1 + 60 = d + 60 + 1 by omega]
    exact missivelaw01_small.mono (d + 60) _ ih

theorem dec_eq (n : Int) (h : -9223372036854775808 ≤ n ∧ n ≤ 9223372036854775807) : text_Decimal.f n = some ⟨(Lib.itoa n).toArray⟩ := by
  unfold text_Decimal.f strconv_Itoa.f
  rw [if_pos h.1, if_pos h.2]
  rfl

theorem num_zeros (z n : Nat) : numP (List.replicate z 48 ++ Lib.decDigits n) = if z + (Lib.decDigits n).length ≤ 15 then ((n : Int), true) else (0, false) := by
  obtain ⟨c, t, e, _⟩ := dd_head n
  have hl : 1 ≤ (Lib.decDigits n).length := by rw [e]; simp
  have hl2 : (List.replicate z (48 : UInt8) ++ Lib.decDigits n).length = z + (Lib.decDigits n).length := by simp
  unfold numP
  rw [valL_zeros, valL_dd, hl2]
  by_cases h : z + (Lib.decDigits n).length ≤ 15
  · rw [if_neg (by omega), if_pos h]
  · rw [if_pos (by omega), if_neg h]

theorem num_itoa (n : Int) (h : -9223372036854775808 ≤ n ∧ n ≤ 9223372036854775807) : numP (Lib.itoa n) = if 0 ≤ n ∧ n ≤ 999999999999999 then (n, true) else (0, false) := by
  unfold Lib.itoa
  by_cases hn : n < 0
  · rw [if_pos hn, if_neg (by omega)]
    unfold numP
    split
    · rfl
    · simp [valL, isDig]
  · rw [if_neg hn]
    have := num_zeros 0 n.toNat
    simp only [List.replicate_zero, List.nil_append, Nat.zero_add] at this
    rw [this]
    have h15 := dd_len_iff n.toNat 14
    by_cases hb : n ≤ 999999999999999
    · rw [if_pos (h15.2 (by omega)), if_pos ⟨by omega, hb⟩]
      congr 1
      omega
    · rw [if_neg (fun h => by have := h15.1 h; omega), if_neg (by omega)]

theorem numbers_l0 (n : Nat) (zeros : Nat) (hz : zeros ≤ 20) (hn : n ≤ 999999999999999) : ∀ (d i k : Nat) (z : ByteArray), zeros - i = d → i ≤ zeros → 60 ≤ k → z.data.toList = List.replicate i 48 ++ Lib.decDigits n →
    missivelaw01_TextNumbers.l0 (k + d) n zeros true z i = some true := by
  have hlen : (Lib.decDigits n).length ≤ 15 := (dd_len_iff n 14).2 (by omega)
  intro d
  induction d with
  | zero =>
    intro i k z hd hi hk hzz
    obtain rfl : i = zeros := by omega
    obtain ⟨k, rfl⟩ : ∃ m, k = m + 1 := ⟨k - 1, by omega⟩
    have hz2 : z.size = i + (Lib.decDigits n).length := by rw [← ba_len, hzz]; simp
    rw [Nat.add_zero, missivelaw01_TextNumbers.l0, if_neg (by omega), number_ev z k (by omega), Option.bind_some, hzz, num_zeros]
    rw [if_pos rfl]
    by_cases h : i + (Lib.decDigits n).length ≤ 15
    · rw [if_pos h]
      simp
      omega
    · rw [if_neg h]
      simp
      omega
  | succ d ih =>
    intro i k z hd hi hk hzz
    have hz2 : z.size = i + (Lib.decDigits n).length := by rw [← ba_len, hzz]; simp
    rw [show k + (d + 1) = (k + d) + 1 by omega, missivelaw01_TextNumbers.l0, if_pos (by omega), if_pos (by omega), show wrap64 ((i : Int) + 1) = ((i + 1 : Nat) : Int) by unfold wrap64; omega]
    refine ih (i + 1) k _ (by omega) (by omega) hk ?_
    rw [ba_append_list, hzz, List.replicate_succ]
    rfl

theorem numbers_ev (n m zeros : Int) (h0 : -9223372036854775808 ≤ n ∧ n ≤ 9223372036854775807) (h1 : -9223372036854775808 ≤ m ∧ m ≤ 9223372036854775807) (_h2 : -9223372036854775808 ≤ zeros ∧ zeros ≤ 9223372036854775807) :
    Ev (fun k => missivelaw01_TextNumbers.f k n m zeros) true := by
  obtain ⟨K, hK⟩ := small01_ev
  refine ⟨K + 200, fun k hk => ?_⟩
  have hs := hK k (by omega)
  clear hK
  dsimp only at hs ⊢
  obtain ⟨k, rfl⟩ : ∃ j, k = j + 1 + 1 + 1 := ⟨k - 3, by omega⟩
  unfold missivelaw01_TextNumbers.f
  rw [hs, Option.bind_some, dec_eq n h0, Option.bind_some, number_ev _ _ (by omega), Option.bind_some]
  rw [show (⟨(Lib.itoa n).toArray⟩ : ByteArray).data.toList = Lib.itoa n by simp, num_itoa n h0]
  have heq : ((⟨(Lib.itoa n).toArray⟩ : ByteArray).toList == (⟨(Lib.itoa m).toArray⟩ : ByteArray).toList) = (n == m) := by
    rw [ba_toList, ba_toList, Bool.eq_iff_iff, beq_iff_eq, beq_iff_eq]
    exact ⟨itoa_inj, fun h => by rw [h]⟩
  by_cases hg : 0 ≤ n ∧ n ≤ 999999999999999
  · rw [if_pos hg, if_pos (by omega), decide_eq_true (by omega), missivelaw01_TextNumbers.j0, if_neg (by simp), if_pos rfl, if_pos rfl, dec_eq m h1, Option.bind_some, heq]
    rw [missivelaw01_TextNumbers.j1, if_neg (by simp), if_pos rfl]
    by_cases hz : zeros < 0
    · rw [if_pos hz, missivelaw01_TextNumbers.j2, if_pos rfl]
    · rw [if_neg hz, missivelaw01_TextNumbers.j2]
      by_cases hz2 : zeros > 20
      · rw [if_pos (by simp; omega)]
      · rw [if_neg (by simp; omega)]
        have := numbers_l0 n.toNat zeros.toNat (by omega) (by omega) zeros.toNat 0 (k - zeros.toNat) ⟨(Lib.itoa n).toArray⟩ (by omega) (by omega) (by omega) (by simp [Lib.itoa]; omega)
        rw [show k - zeros.toNat + zeros.toNat = k by omega, show (n.toNat : Int) = n by omega, show (zeros.toNat : Int) = zeros by omega] at this
        exact this
  · rw [if_neg hg]
    have hj : ∀ b : Bool, missivelaw01_TextNumbers.j1 (k + 1 + 1) n zeros true ⟨(Lib.itoa n).toArray⟩ b ((n == m) != (n == m)) = if b = true then missivelaw01_TextNumbers.j1 (k + 1 + 1) n zeros true ⟨(Lib.itoa n).toArray⟩ true false else some true := by
      intro b
      cases b with
      | true => simp
      | false => rw [missivelaw01_TextNumbers.j1, if_neg (by simp), if_neg (by simp), missivelaw01_TextNumbers.j2, if_pos rfl]; simp
    by_cases hn : n ≥ 0
    · rw [if_pos hn, decide_eq_false (by omega), missivelaw01_TextNumbers.j0, if_neg (by simp), if_neg (by simp), dec_eq m h1, Option.bind_some, heq, hj false]
      simp
    · rw [if_neg hn, missivelaw01_TextNumbers.j0, if_neg (by simp), if_neg (by simp), dec_eq m h1, Option.bind_some, heq, hj false]
      simp

end Go.Proofs.YtadnefnofbnheaaDoor.Pr
