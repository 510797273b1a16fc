/- Part 1 of the proof: HPlain, HDig. -/
import Derived.Lib.ItoaLen
import Derived.Lib.Strings
import Derived.Laws.Strings
import Derived.Test.YtadnefnofbnheaaDoorWWords
/- Plain lemmas on strings as lists of bytes. -/
namespace Go.Proofs.YtadnefnofbnheaaDoor.Pr

theorem sz_mk (l : List UInt8) : (⟨l.toArray⟩ : ByteArray).size = l.length := by show l.toArray.size = _; simp
theorem ba_append (a b : List UInt8) : (⟨a.toArray⟩ : ByteArray) ++ (⟨b.toArray⟩ : ByteArray) = ⟨(a ++ b).toArray⟩ := by
  apply ByteArray.ext
  rw [ByteArray.data_append]
  simp
theorem ba_eta (s : ByteArray) : (⟨s.data.toList.toArray⟩ : ByteArray) = s := by
  apply ByteArray.ext
  simp
theorem ba_len (s : ByteArray) : s.data.toList.length = s.size := by rw [Array.length_toList]; rfl
theorem ba_append_list (a b : ByteArray) : (a ++ b).data.toList = a.data.toList ++ b.data.toList := by
  rw [ByteArray.data_append]; simp
theorem ba_of_list {s : ByteArray} {l : List UInt8} (h : s.data.toList = l) : s = ⟨l.toArray⟩ := by rw [← h, ba_eta]
theorem ba_inj {a b : ByteArray} (h : a.data.toList = b.data.toList) : a = b := by rw [← ba_eta a, ← ba_eta b, h]

theorem ba_toList (s : ByteArray) : s.toList = s.data.toList := ByteArray.toList_eq s
theorem ba_extract (s : ByteArray) (i j : Nat) (_hj : j ≤ s.size) : (s.extract i j).data.toList = (s.data.toList.take j).drop i := by
  rw [ByteArray.data_extract]
  simp [List.extract_eq_take_drop, List.drop_take]
theorem ba_drop (s : ByteArray) (i : Nat) : s.extract i s.size = ⟨(s.data.toList.drop i).toArray⟩ := by
  apply ba_inj
  rw [ba_extract s i s.size (Nat.le_refl _), ← ba_len, List.take_length]
theorem ba_take (s : ByteArray) (j : Nat) (hj : j ≤ s.size) : s.extract 0 j = ⟨(s.data.toList.take j).toArray⟩ := by
  apply ba_inj
  rw [ba_extract s 0 j hj, List.drop_zero]

end Go.Proofs.YtadnefnofbnheaaDoor.Pr

/- Decimal digits, their value, and the bytes of a string by number. -/
namespace Go.Proofs.YtadnefnofbnheaaDoor.Pr
open Go.RowKit Go.Proofs.YtadnefnofbnheaaDoorW.PrintWords

def isDig (c : UInt8) : Bool := 48 ≤ c.toNat && c.toNat ≤ 57

theorem bt_nat (s : ByteArray) (i : Nat) (h : i < s.size) : ∃ c r, s.data.toList.drop i = c :: r ∧ s.data.toList.drop (i + 1) = r ∧ bt s (i : Int) = (c.toNat : Int) := by
  have hl : i < s.data.toList.length := by rw [ba_len]; exact h
  refine ⟨s.data.toList[i], s.data.toList.drop (i + 1), (List.drop_eq_getElem_cons hl), rfl, ?_⟩
  unfold bt
  rw [dif_pos (by simpa using h)]
  simp only [Int.toNat_natCast]
  rfl
theorem w64_succ (i : Nat) (h : i ≤ 140737488355328) : wrap64 ((i : Int) + 1) = ((i + 1 : Nat) : Int) := by unfold wrap64; omega

theorem dd_small {n : Nat} (h : n < 10) : Lib.decDigits n = [UInt8.ofNat (48 + n)] := Lib.decDigits_one h
theorem dd_big {n d : Nat} (h : 0 < n) (hd : d < 10) : Lib.decDigits (10 * n + d) = Lib.decDigits n ++ [UInt8.ofNat (48 + d)] := by
  rw [Lib.decDigits, dif_neg (by omega), show (10 * n + d) / 10 = n by omega, show (10 * n + d) % 10 = d by omega]
theorem byte_of {c : UInt8} (h : 48 ≤ c.toNat) : UInt8.ofNat (48 + (c.toNat - 48)) = c := by
  rw [show 48 + (c.toNat - 48) = c.toNat by omega]
  exact UInt8.ofNat_toNat
theorem toNat_digit {d : Nat} (h : d < 10) : (UInt8.ofNat (48 + d)).toNat = 48 + d := by
  rw [UInt8.toNat_ofNat']
  omega
theorem isDig_digit {d : Nat} (h : d < 10) : isDig (UInt8.ofNat (48 + d)) = true := by
  unfold isDig; rw [toNat_digit h]; simp; omega
theorem dd_head (n : Nat) : ∃ c t, Lib.decDigits n = c :: t ∧ isDig c = true := by
  induction n using Nat.strongRecOn with
  | _ n ih =>
    by_cases h : n < 10
    · exact ⟨_, _, dd_small h, isDig_digit h⟩
    · obtain ⟨q, d, rfl, hd⟩ : ∃ q d, n = 10 * q + d ∧ d < 10 := ⟨n / 10, n % 10, by omega, by omega⟩
      obtain ⟨c, t, h1, h2⟩ := ih q (by omega)
      exact ⟨c, t ++ [UInt8.ofNat (48 + d)], by rw [dd_big (by omega) hd, h1]; rfl, h2⟩

/-- The value of digits, behind those of value n; none where a byte is no digit. -/
def valL : List UInt8 → Nat → Option Nat
  | [], n => some n
  | c :: r, n => if isDig c = true then valL r (10 * n + (c.toNat - 48)) else none

theorem valL_append (a b : List UInt8) : ∀ n, valL (a ++ b) n = (valL a n).bind fun m => valL b m := by
  induction a with
  | nil => intro n; rfl
  | cons c a ih =>
    intro n
    simp only [List.cons_append, valL]
    split
    · exact ih _
    · rfl
theorem valL_dd (n : Nat) : valL (Lib.decDigits n) 0 = some n := by
  induction n using Nat.strongRecOn with
  | _ n ih =>
    by_cases h : n < 10
    · rw [dd_small h]
      simp only [valL, isDig_digit h, if_true, toNat_digit h]
      congr 1
      omega
    · obtain ⟨q, d, rfl, hd⟩ : ∃ q d, n = 10 * q + d ∧ d < 10 := ⟨n / 10, n % 10, by omega, by omega⟩
      rw [dd_big (by omega) hd, valL_append, ih q (by omega), Option.bind_some]
      simp only [valL, isDig_digit hd, if_true, toNat_digit hd]
      congr 1
      omega
theorem valL_zeros (z : Nat) (l : List UInt8) : valL (List.replicate z 48 ++ l) 0 = valL l 0 := by
  induction z with
  | zero => rfl
  | succ z ih =>
    rw [List.replicate_succ, List.cons_append, valL, if_pos (by decide)]
    exact ih
theorem dd_len_le : ∀ (k n : Nat), n < 10 ^ (k + 1) → (Lib.decDigits n).length ≤ k + 1 := by
  intro k
  induction k with
  | zero => intro n h; rw [dd_small (by simpa using h)]; simp
  | succ k ih =>
    intro n h
    by_cases hn : n < 10
    · rw [dd_small hn]; simp
    · obtain ⟨q, d, rfl, hd⟩ : ∃ q d, n = 10 * q + d ∧ d < 10 := ⟨n / 10, n % 10, by omega, by omega⟩
      rw [dd_big (by omega) hd]
      have := ih q (by rw [Nat.pow_succ] at h; omega)
      simp; omega
theorem valL_lt : ∀ (l : List UInt8) (n m : Nat), valL l n = some m → m < (n + 1) * 10 ^ l.length := by
  intro l
  induction l with
  | nil => intro n m h; simp [valL] at h; simp; omega
  | cons c l ih =>
    intro n m h
    simp only [valL] at h
    split at h
    · rename_i hc
      simp [isDig] at hc
      have := ih _ _ h
      rw [List.length_cons, Nat.pow_succ]
      have h2 : (10 * n + (c.toNat - 48) + 1) * 10 ^ l.length ≤ (10 * (n + 1)) * 10 ^ l.length := Nat.mul_le_mul_right _ (by omega)
      have h3 : 10 * (n + 1) * 10 ^ l.length = (n + 1) * (10 ^ l.length * 10) := by
        rw [Nat.mul_comm 10 (n + 1), Nat.mul_assoc, Nat.mul_comm 10]
      omega
    · cases h
theorem dd_len_iff (n k : Nat) : (Lib.decDigits n).length ≤ k + 1 ↔ n < 10 ^ (k + 1) := by
  refine ⟨fun h => ?_, dd_len_le k n⟩
  have h1 := valL_lt _ _ _ (valL_dd n)
  have h2 : 10 ^ (Lib.decDigits n).length ≤ 10 ^ (k + 1) := Nat.pow_le_pow_right (by omega) h
  omega
theorem dd_inj {n m : Nat} (h : Lib.decDigits n = Lib.decDigits m) : n = m := by
  have := valL_dd n
  rw [h, valL_dd] at this
  exact (Option.some.inj this).symm
theorem itoa_inj {n m : Int} (h : Lib.itoa n = Lib.itoa m) : n = m := by
  unfold Lib.itoa at h
  obtain ⟨c1, t1, e1, d1⟩ := dd_head n.toNat
  obtain ⟨c2, t2, e2, d2⟩ := dd_head m.toNat
  by_cases hn : n < 0
  · rw [if_pos hn] at h
    by_cases hm : m < 0
    · rw [if_pos hm] at h
      have := dd_inj (List.cons.inj h).2
      omega
    · rw [if_neg hm, e2] at h
      rw [← (List.cons.inj h).1] at d2
      cases d2
  · rw [if_neg hn] at h
    by_cases hm : m < 0
    · rw [if_pos hm, e1] at h
      rw [(List.cons.inj h).1] at d1
      cases d1
    · rw [if_neg hm] at h
      have := dd_inj h
      omega

end Go.Proofs.YtadnefnofbnheaaDoor.Pr
