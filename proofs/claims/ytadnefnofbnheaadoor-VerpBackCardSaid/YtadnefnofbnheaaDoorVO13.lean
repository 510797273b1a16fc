/- Part 13 of the proof: HPWire. -/
import Derived.Test.YtadnefnofbnheaaDoorVO2
import Derived.Test.YtadnefnofbnheaaDoorVO12
import Derived.Test.YtadnefnofbnheaaDoorVO10
import Derived.Lib.EndianBits
/- What the reader's functions come to, on lists of bytes: digits, one byte, a number, an int, a string, lists. -/
namespace Go.Proofs.YtadnefnofbnheaaDoor.Pr
open Go.RowKit Go.Proofs.YtadnefnofbnheaaDoorW.PrintWords Go.Proofs.YtadnefnofbnheaaDoorW.PrintLast Go.Proofs.YtadnefnofbnheaaDoorW.PrintMore

def isDig (c : UInt8) : Bool := 48 ≤ c.toNat && c.toNat ≤ 57

/-- Digits from the left: the limit, is the first byte a zero, how many bytes have been read, their value. -/
def dig (L : Nat) (z : Bool) : Nat → Nat → List UInt8 → Option (Nat × List UInt8)
  | i, n, [] => if i = 0 then none else some (n, [])
  | i, n, c :: r =>
    if isDig c = true then
      if i = 1 ∧ z = true then none
      else if n > (L - (c.toNat - 48)) / 10 then none
      else dig L z (i + 1) (10 * n + (c.toNat - 48)) r
    else if i = 0 then none else some (n, c :: r)

def digRes (b : Bool) : Option (Nat × List UInt8) → Int × Bool × ByteArray × Bool
  | none => (0, false, ⟨#[]⟩, true)
  | some (n, r) => (n, true, ⟨r.toArray⟩, b)

def zeroHead : List UInt8 → Bool
  | [] => false
  | c :: _ => c.toNat == 48

theorem bt_nat (s : ByteArray) (i : Nat) (h : i < s.size) : ∃ c r, s.data.toList.drop i = c :: r ∧ s.data.toList.drop (i + 1) = r ∧ bt s (i : Int) = (c.toNat : Int) := by
  have hl : i < s.data.toList.length := by rw [ba_len]; exact h
  refine ⟨s.data.toList[i], s.data.toList.drop (i + 1), (List.drop_eq_getElem_cons hl), rfl, ?_⟩
  unfold bt
  rw [dif_pos (by simpa using h)]
  simp only [Int.toNat_natCast]
  rfl

theorem bt_head (s : ByteArray) (h : 0 < s.size) : (bt s 0 = 48) ↔ zeroHead s.data.toList = true := by
  obtain ⟨c, r, h1, h2, h3⟩ := bt_nat s 0 h
  rw [show ((0 : Nat) : Int) = (0 : Int) from rfl] at h3
  rw [h3]
  rw [List.drop_zero] at h1
  rw [h1]
  simp [zeroHead]
  omega

theorem u64_step (n c L : Nat) (hL2 : L < 18446744073709551616) (_ha : 48 ≤ c) (_hb : c ≤ 57) (hn2 : 10 * n + (c - 48) ≤ L) :
    IntKind.u64.wrap ((IntKind.u64.wrap (10 * (n : Int))) + (((c : Int) - 48) % 256)) = ((10 * n + (c - 48) : Nat) : Int) := by
  rw [IntKind.wrap_u64, IntKind.wrap_u64]; omega
theorem u64_quot (c L : Nat) (hL : 9 ≤ L) (hL2 : L < 18446744073709551616) (ha : 48 ≤ c) (hb : c ≤ 57) :
    IntKind.u64.wrap (Int.tdiv (IntKind.u64.wrap ((L : Int) - (((c : Int) - 48) % 256))) 10) = (((L - (c - 48)) / 10 : Nat) : Int) := by
  rw [IntKind.wrap_u64, IntKind.wrap_u64]
  have e1 : ((c : Int) - 48) % 256 = ((c - 48 : Nat) : Int) := by omega
  have e2 : ((L : Int) - ((c - 48 : Nat) : Int)) % 18446744073709551616 = ((L - (c - 48) : Nat) : Int) := by omega
  rw [e1, e2]
  have e3 : Int.tdiv ((L - (c - 48) : Nat) : Int) 10 = (((L - (c - 48)) / 10 : Nat) : Int) := by
    rw [Int.tdiv_eq_ediv_of_nonneg (by omega)]
    omega
  rw [e3]
  omega
theorem w64_succ (i : Nat) (h : i ≤ 140737488355328) : wrap64 ((i : Int) + 1) = ((i + 1 : Nat) : Int) := by unfold wrap64; omega

attribute [local irreducible] wire_Reader_digits.l0 wire_Reader_digits.j1 in
theorem digits_l0 (s : ByteArray) (b : Bool) (L : Nat) (hL : 9 ≤ L) (hL2 : L < 18446744073709551616) (hs : s.size ≤ 140737488355328) :
    ∀ (d k i n : Nat), s.size - i = d → 2 * d + 2 ≤ k → i ≤ s.size → n ≤ L →
      wire_Reader_digits.l0 k L n i s b = some (digRes b (dig L (zeroHead s.data.toList) i n (s.data.toList.drop i))) := by
  intro d
  induction d with
  | zero =>
    intro k i n hd hk hi hn
    obtain ⟨k, rfl⟩ : ∃ m, k = m + 1 + 1 := ⟨k - 2, by omega⟩
    obtain rfl : i = s.size := by omega
    rw [wire_Reader_digits.l0, if_neg (by omega), wire_Reader_digits.j1, if_neg (by simp)]
    have hdr : s.data.toList.drop s.size = [] := by rw [← ba_len]; simp
    rw [hdr, dig]
    by_cases h0 : s.size = 0
    · rw [if_pos (by omega), if_pos h0]; rfl
    · rw [if_neg (by omega), if_pos (by omega), if_pos (by omega), if_neg h0]
      simp only [digRes, Int.toNat_natCast]
      rw [ba_drop, hdr]
  | succ d ih =>
    intro k i n hd hk hi hn
    obtain ⟨k, rfl⟩ : ∃ m, k = m + 1 + 1 := ⟨k - 2, by omega⟩
    obtain ⟨c, r, h1, h2, h3⟩ := bt_nat s i (by omega)
    have hc : c.toNat < 256 := c.toNat_lt
    rw [wire_Reader_digits.l0, if_pos (by omega), if_pos (by omega), h3, h1, dig]
    have stop : isDig c = false → wire_Reader_digits.j1 (k + 1) L n i false s b = some (digRes b (if i = 0 then none else some (n, c :: r))) := by
      intro hcd
      rw [wire_Reader_digits.j1, if_neg (by simp)]
      by_cases h0 : i = 0
      · rw [if_pos (by omega), if_pos h0]; rfl
      · rw [if_neg (by omega), if_pos (by omega), if_pos (by omega), if_neg h0]
        simp only [digRes, Int.toNat_natCast]
        rw [ba_drop, h1]
    by_cases hcd : isDig c = true
    · have hcd' := hcd
      simp only [isDig, Bool.and_eq_true, decide_eq_true_eq] at hcd'
      obtain ⟨ha, hb⟩ := hcd'
      rw [if_pos (by omega), decide_eq_true (by omega), wire_Reader_digits.j1, if_pos rfl, if_pos (by omega), if_pos (by omega), if_pos hcd, h3]
      have hq := u64_quot c.toNat L hL hL2 ha hb
      have hstep : ∀ (_ : ¬ n > (L - (c.toNat - 48)) / 10), wire_Reader_digits.l0 k L (IntKind.u64.wrap ((IntKind.u64.wrap (10 * (n : Int))) + (((c.toNat : Int) - 48) % 256))) (wrap64 ((i : Int) + 1)) s b
          = some (digRes b (dig L (zeroHead s.data.toList) (i + 1) (10 * n + (c.toNat - 48)) r)) := by
        intro hle
        have hn2 : 10 * n + (c.toNat - 48) ≤ L := by omega
        rw [u64_step n c.toNat L hL2 ha hb hn2, w64_succ i (by omega), ← h2]
        exact ih k (i + 1) _ (by omega) (by omega) (by omega) hn2
      rw [hq]
      by_cases h1i : i = 1
      · subst h1i
        rw [if_pos (by rfl), if_pos (by omega)]
        by_cases hz : zeroHead s.data.toList = true
        · rw [if_pos ((bt_head s (by omega)).2 hz), if_pos ⟨rfl, hz⟩]; rfl
        · rw [if_neg (fun h => hz ((bt_head s (by omega)).1 h)), if_neg (show ¬ (1 = 1 ∧ zeroHead s.data.toList = true) from fun h => hz h.2)]
          by_cases hg : n > (L - (c.toNat - 48)) / 10
          · rw [if_pos (by omega), if_pos hg]; rfl
          · rw [if_neg (by omega), if_neg hg]; exact hstep hg
      · rw [if_neg (by omega), if_neg (show ¬ (i = 1 ∧ zeroHead s.data.toList = true) from fun h => h1i h.1)]
        by_cases hg : n > (L - (c.toNat - 48)) / 10
        · rw [if_pos (by omega), if_pos hg]; rfl
        · rw [if_neg (by omega), if_neg hg]; exact hstep hg
    · have hcf : isDig c = false := by simpa using hcd
      rw [if_neg hcd]
      by_cases ha : 48 ≤ c.toNat
      · have hb : ¬ c.toNat ≤ 57 := by intro hb; apply hcd; simp [isDig, ha, hb]
        rw [if_pos (by omega), decide_eq_false (by omega)]
        exact stop hcf
      · rw [if_neg (by omega)]
        exact stop hcf

theorem digits_ev (s : ByteArray) (b : Bool) (L : Nat) (hL : 9 ≤ L) (hL2 : L < 18446744073709551616) (hs : s.size ≤ 140737488355328) :
    Ev (fun k => wire_Reader_digits.f k s b L) (digRes b (dig L (zeroHead s.data.toList) 0 0 s.data.toList)) :=
  ⟨2 * s.size + 2, fun k hk => by
    unfold wire_Reader_digits.f
    exact digits_l0 s b L hL hL2 hs s.size k 0 0 (by omega) hk (by omega) (by omega)⟩

def Stop (r : List UInt8) : Prop := ∀ c r', r = c :: r' → isDig c = false

theorem dd_small {n : Nat} (h : n < 10) : Lib.decDigits n = [UInt8.ofNat (48 + n)] := Lib.decDigits_one h
theorem dd_big {n d : Nat} (h : 0 < n) (hd : d < 10) : Lib.decDigits (10 * n + d) = Lib.decDigits n ++ [UInt8.ofNat (48 + d)] := by
  rw [Lib.decDigits, dif_neg (by omega), show (10 * n + d) / 10 = n by omega, show (10 * n + d) % 10 = d by omega]
theorem byte_of {c : UInt8} (h : 48 ≤ c.toNat) : UInt8.ofNat (48 + (c.toNat - 48)) = c := by
  rw [show 48 + (c.toNat - 48) = c.toNat by omega]
  exact UInt8.ofNat_toNat
theorem toNat_digit {d : Nat} (h : d < 10) : (UInt8.ofNat (48 + d)).toNat = 48 + d := by
  rw [UInt8.toNat_ofNat']
  omega
theorem isDig_digit {d : Nat} (h : d < 10) : isDig (UInt8.ofNat (48 + d)) = true := by
  unfold isDig; rw [toNat_digit h]; simp; omega

theorem dig_sound (L : Nat) (hL : 9 ≤ L) (z : Bool) : ∀ (l : List UInt8) (i n : Nat) (p : List UInt8), (i = 0 → n = 0 ∧ p = [] ∧ z = zeroHead l) → (1 ≤ i → p = Lib.decDigits n ∧ (n = 0 → i = 1 ∧ z = true)) → n ≤ L →
    ∀ m r, dig L z i n l = some (m, r) → p ++ l = Lib.decDigits m ++ r ∧ m ≤ L ∧ Stop r := by
  intro l
  induction l with
  | nil =>
    intro i n p h0 h1 hn m r h
    rw [dig] at h
    split at h
    · cases h
    · rename_i hi
      simp only [Option.some.injEq, Prod.mk.injEq] at h
      obtain ⟨rfl, rfl⟩ := h
      exact ⟨by rw [(h1 (by omega)).1], hn, fun c r' e => by cases e⟩
  | cons c l ih =>
    intro i n p h0 h1 hn m r h
    rw [dig] at h
    split at h
    · rename_i hcd
      split at h
      · cases h
      · rename_i hz
        split at h
        · cases h
        · rename_i hg
          have hcd' := hcd
          simp only [isDig, Bool.and_eq_true, decide_eq_true_eq] at hcd'
          obtain ⟨ha, hb⟩ := hcd'
          have hnext : p ++ [c] = Lib.decDigits (10 * n + (c.toNat - 48)) ∧ (10 * n + (c.toNat - 48) = 0 → i + 1 = 1 ∧ z = true) := by
            rcases Nat.eq_zero_or_pos i with rfl | hi
            · obtain ⟨rfl, rfl, rfl⟩ := h0 rfl
              refine ⟨?_, ?_⟩
              · rw [show 10 * 0 + (c.toNat - 48) = c.toNat - 48 by omega, dd_small (by omega), byte_of ha]; rfl
              · intro hz0
                exact ⟨rfl, by simp [zeroHead]; omega⟩
            · obtain ⟨rfl, h2⟩ := h1 hi
              have hn0 : 0 < n := by
                rcases Nat.eq_zero_or_pos n with e | e
                · exact absurd (h2 e) hz
                · exact e
              refine ⟨?_, fun h => by omega⟩
              rw [dd_big hn0 (by omega), byte_of ha]
          have := ih (i + 1) (10 * n + (c.toNat - 48)) (p ++ [c]) (fun h => by omega) (fun _ => hnext) (by omega) m r h
          simpa using this
    · rename_i hcd
      split at h
      · cases h
      · rename_i hi
        simp only [Option.some.injEq, Prod.mk.injEq] at h
        obtain ⟨rfl, rfl⟩ := h
        refine ⟨by rw [(h1 (by omega)).1], hn, fun c' r' e => ?_⟩
        cases e
        simpa using hcd

theorem zeroHead_dd : ∀ (m : Nat) (r : List UInt8), zeroHead (Lib.decDigits m ++ r) = decide (m = 0) := by
  intro m
  induction m using Nat.strongRecOn with
  | _ m ih =>
    intro r
    by_cases h : m < 10
    · rw [dd_small h]
      simp only [List.cons_append, zeroHead, toNat_digit h]
      by_cases h0 : m = 0
      · subst h0; rfl
      · rw [decide_eq_false h0]; simp [h0]
    · obtain ⟨q, d, rfl, hd⟩ : ∃ q d, m = 10 * q + d ∧ d < 10 := ⟨m / 10, m % 10, by omega, by omega⟩
      rw [dd_big (by omega) hd, List.append_assoc, ih q (by omega), decide_eq_false (by omega), decide_eq_false (by omega)]

theorem dig_complete (L : Nat) : ∀ (n : Nat) (r : List UInt8), n ≤ L → ∃ i, 1 ≤ i ∧ dig L (decide (n = 0)) 0 0 (Lib.decDigits n ++ r) = dig L (decide (n = 0)) i n r ∧ (i = 1 → n < 10) := by
  intro n
  induction n using Nat.strongRecOn with
  | _ n ih =>
    intro r hn
    by_cases h : n < 10
    · refine ⟨1, Nat.le_refl _, ?_, fun _ => h⟩
      rw [dd_small h, List.cons_append, List.nil_append, dig, if_pos (isDig_digit h), if_neg (by omega), if_neg (by omega), toNat_digit h]
      congr 1
      omega
    · obtain ⟨q, d, rfl, hd⟩ : ∃ q d, n = 10 * q + d ∧ d < 10 := ⟨n / 10, n % 10, by omega, by omega⟩
      have hz : decide (10 * q + d = 0) = false := decide_eq_false (by omega)
      have hz' : decide (q = 0) = false := decide_eq_false (by omega)
      obtain ⟨i, hi, he, h1⟩ := ih q (by omega) ([UInt8.ofNat (48 + d)] ++ r) (by omega)
      refine ⟨i + 1, by omega, ?_, fun h => by omega⟩
      rw [hz] 
      rw [hz'] at he
      rw [dd_big (by omega) hd, List.append_assoc, he, List.cons_append, List.nil_append, dig, if_pos (isDig_digit hd), if_neg (by simp), toNat_digit hd, if_neg (by omega)]
      congr 1
      omega

theorem dig_stop (L : Nat) (z : Bool) (i n : Nat) (r : List UInt8) (hi : 1 ≤ i) (h : Stop r) : dig L z i n r = some (n, r) := by
  cases r with
  | nil => rw [dig, if_neg (by omega)]
  | cons c r => rw [dig, if_neg (by rw [h c r rfl]; simp), if_neg (by omega)]

theorem dig_iff (L : Nat) (hL : 9 ≤ L) (l : List UInt8) (n : Nat) (r : List UInt8) : dig L (zeroHead l) 0 0 l = some (n, r) ↔ l = Lib.decDigits n ++ r ∧ n ≤ L ∧ Stop r := by
  constructor
  · intro h
    have := dig_sound L hL (zeroHead l) l 0 0 [] (fun _ => ⟨rfl, rfl, rfl⟩) (fun h => by omega) (Nat.zero_le _) n r h
    simpa using this
  · rintro ⟨rfl, hn, hs⟩
    rw [zeroHead_dd]
    obtain ⟨i, hi, he, _⟩ := dig_complete L n r hn
    rw [he, dig_stop L _ i n r hi hs]

/-! ### the reader's functions -/

def hd (c : UInt8) : List UInt8 → Option (List UInt8)
  | [] => none
  | x :: r => if x = c then some r else none

def skRes (b : Bool) : Option (List UInt8) → Bool × ByteArray × Bool
  | none => (false, ⟨#[]⟩, true)
  | some r => (true, ⟨r.toArray⟩, b)

theorem skip_eq (s : ByteArray) (b : Bool) (c : UInt8) : wire_Reader_skip.f s b (c.toNat : Int) = some (skRes b (hd c s.data.toList)) := by
  unfold wire_Reader_skip.f
  rw [ba_toList]
  cases hs : s.data.toList with
  | nil => rw [if_pos rfl]; rfl
  | cons x r =>
    have hlen : s.size = r.length + 1 := by rw [← ba_len, hs]; rfl
    obtain ⟨c', r', h1, h2, h3⟩ := bt_nat s 0 (by omega)
    rw [List.drop_zero, hs] at h1
    cases h1
    rw [show ((0 : Nat) : Int) = (0 : Int) from rfl] at h3
    rw [if_neg (by simp), if_pos (by omega), h3, hd]
    by_cases hx : x = c
    · subst hx
      rw [if_pos rfl, if_pos rfl, if_pos (by omega)]
      simp only [skRes]
      rw [ba_drop, h2]
    · rw [if_neg (fun h => hx (UInt8.toNat_inj.1 (by omega))), if_neg hx]
      rfl

/-- A number up to L and the byte behind it. -/
def numR (L : Nat) (e : UInt8) (l : List UInt8) : Option (Nat × List UInt8) :=
  match dig L (zeroHead l) 0 0 l with
  | some (n, r) => (hd e r).map fun r' => (n, r')
  | none => none

theorem numR_iff (L : Nat) (hL : 9 ≤ L) (e : UInt8) (he : isDig e = false) (l : List UInt8) (n : Nat) (r : List UInt8) :
    numR L e l = some (n, r) ↔ l = Lib.decDigits n ++ e :: r ∧ n ≤ L := by
  unfold numR
  constructor
  · intro h
    split at h
    · rename_i n' r' hd'
      obtain ⟨r'', h1, h2⟩ := Option.map_eq_some_iff.1 h
      simp only [Prod.mk.injEq] at h2
      obtain ⟨rfl, rfl⟩ := h2
      obtain ⟨h3, h4, _⟩ := (dig_iff L hL l _ _).1 hd'
      refine ⟨?_, h4⟩
      rw [h3]
      cases r' with
      | nil => simp [hd] at h1
      | cons x t =>
        simp only [hd] at h1
        split at h1
        · rename_i hx
          simp only [Option.some.injEq] at h1
          rw [hx, h1]
        · cases h1
    · cases h
  · rintro ⟨h1, h2⟩
    have := (dig_iff L hL l n (e :: r)).2 ⟨h1, h2, fun c r' h => by cases h; exact he⟩
    rw [this]
    simp [hd]

def maxI : Nat := 9223372036854775807

theorem num_ev (s : ByteArray) (b : Bool) (hs : s.size ≤ 140737488355328) :
    Ev (fun k => wire_Reader_Num.f k s b) (match numR maxI 59 s.data.toList with | some (n, r) => ((n : Int), ⟨r.toArray⟩, b) | none => (0, ⟨#[]⟩, true)) := by
  have hd0 := digits_ev s b maxI (by unfold maxI; omega) (by unfold maxI; omega) hs
  obtain ⟨K, hK⟩ := hd0
  refine ⟨K, fun k hk => ?_⟩
  have h := hK k hk
  dsimp only at h ⊢
  unfold wire_Reader_Num.f
  have hm : (9223372036854775807 : Int) = ((maxI : Nat) : Int) := rfl
  rw [hm, h, Option.bind_some]
  unfold numR
  cases hq : dig maxI (zeroHead s.data.toList) 0 0 s.data.toList with
  | none => rfl
  | some p =>
    obtain ⟨n, r⟩ := p
    have hn := ((dig_iff maxI (by unfold maxI; omega) _ _ _).1 hq).2.1
    unfold maxI at hn
    simp only [digRes, if_true]
    rw [show (59 : Int) = ((59 : UInt8).toNat : Int) from rfl, skip_eq, Option.bind_some]
    simp only
    cases hd 59 r with
    | none => simp [skRes]
    | some r' =>
      simp only [skRes, if_true, Option.map_some]
      rw [show wrap64 (n : Int) = (n : Int) by unfold wrap64; omega]

/-- An int and the ';' behind it. -/
def intR (l : List UInt8) : Option (Int × List UInt8) :=
  match l with
  | [] => none
  | c :: t => if c = 45 then (match numR (maxI + 1) 59 t with | some (n, r) => if n = 0 then none else some (-(n : Int), r) | none => none)
    else (match numR maxI 59 l with | some (n, r) => some ((n : Int), r) | none => none)

theorem dd_head (n : Nat) : ∃ c t, Lib.decDigits n = c :: t ∧ isDig c = true := by
  induction n using Nat.strongRecOn with
  | _ n ih =>
    by_cases h : n < 10
    · exact ⟨_, _, dd_small h, isDig_digit h⟩
    · obtain ⟨q, d, rfl, hd⟩ : ∃ q d, n = 10 * q + d ∧ d < 10 := ⟨n / 10, n % 10, by omega, by omega⟩
      obtain ⟨c, t, h1, h2⟩ := ih q (by omega)
      exact ⟨c, t ++ [UInt8.ofNat (48 + d)], by rw [dd_big (by omega) hd, h1]; rfl, h2⟩

theorem intR_iff (l : List UInt8) (v : Int) (r : List UInt8) :
    intR l = some (v, r) ↔ l = Lib.itoa v ++ 59 :: r ∧ -9223372036854775808 ≤ v ∧ v ≤ 9223372036854775807 := by
  constructor
  · intro h
    unfold intR at h
    split at h
    · cases h
    · rename_i c t
      split at h
      · rename_i hc
        split at h
        · rename_i n r' hq
          split at h
          · cases h
          · rename_i hn
            simp only [Option.some.injEq, Prod.mk.injEq] at h
            obtain ⟨rfl, rfl⟩ := h
            obtain ⟨h1, h2⟩ := (numR_iff (maxI + 1) (by unfold maxI; omega) 59 rfl _ _ _).1 hq
            unfold maxI at h2
            refine ⟨?_, by omega, by omega⟩
            unfold Lib.itoa
            rw [if_pos (by omega), hc, h1]
            simp
        · cases h
      · split at h
        · rename_i n r' hq
          simp only [Option.some.injEq, Prod.mk.injEq] at h
          obtain ⟨rfl, rfl⟩ := h
          obtain ⟨h1, h2⟩ := (numR_iff maxI (by unfold maxI; omega) 59 rfl _ _ _).1 hq
          unfold maxI at h2
          refine ⟨?_, by omega, by omega⟩
          unfold Lib.itoa
          rw [if_neg (by omega), h1]
          simp
        · cases h
  · rintro ⟨rfl, h1, h2⟩
    unfold Lib.itoa
    by_cases hv : v < 0
    · rw [if_pos hv]
      have := (numR_iff (maxI + 1) (by unfold maxI; omega) 59 rfl (Lib.decDigits v.natAbs ++ 59 :: r) v.natAbs r).2 ⟨rfl, by unfold maxI; omega⟩
      simp only [intR, List.cons_append]
      rw [if_pos trivial, this]
      simp only
      rw [if_neg (by omega)]
      simp
      omega
    · rw [if_neg hv]
      have := (numR_iff maxI (by unfold maxI; omega) 59 rfl (Lib.decDigits v.toNat ++ 59 :: r) v.toNat r).2 ⟨rfl, by unfold maxI; omega⟩
      obtain ⟨c, t, hc, hd'⟩ := dd_head v.toNat
      rw [hc] at this ⊢
      simp only [intR, List.cons_append] at this ⊢
      rw [if_neg (by rintro rfl; simp [isDig] at hd'), this]
      simp
      omega

theorem int_ev (s : ByteArray) (b : Bool) (hs : s.size ≤ 140737488355328) :
    Ev (fun k => wire_Reader_Int.f k s b) (match intR s.data.toList with | some (v, r) => (v, ⟨r.toArray⟩, b) | none => (0, ⟨#[]⟩, true)) := by
  cases hl : s.data.toList with
  | nil =>
    obtain ⟨K, hK⟩ := num_ev s b hs
    refine ⟨K, fun k hk => ?_⟩
    have h := hK k hk
    dsimp only at h ⊢
    unfold wire_Reader_Int.f strings_HasPrefix.f
    rw [Option.bind_some, hl, if_neg (by decide), h, Option.bind_some, hl]
    rfl
  | cons c t =>
    have hlen : s.size = t.length + 1 := by rw [← ba_len, hl]; rfl
    by_cases hc : c = 45
    · subst hc
      have hdr : s.extract 1 s.size = ⟨t.toArray⟩ := by rw [ba_drop, hl]; rfl
      have hsz : (⟨t.toArray⟩ : ByteArray).size ≤ 140737488355328 := by rw [sz_mk]; omega
      obtain ⟨K, hK⟩ := digits_ev ⟨t.toArray⟩ b (maxI + 1) (by unfold maxI; omega) (by unfold maxI; omega) hsz
      refine ⟨K + 1, fun k hk => ?_⟩
      obtain ⟨k, rfl⟩ : ∃ m, k = m + 1 := ⟨k - 1, by omega⟩
      have h := hK (k + 1) (by omega)
      dsimp only at h ⊢
      have hp : Lib.hasPrefix s.data.toList (⟨#[45]⟩ : ByteArray).data.toList = true := by rw [hl]; rfl
      have hm : (9223372036854775808 : Int) = (((maxI + 1 : Nat)) : Int) := rfl
      unfold wire_Reader_Int.f strings_HasPrefix.f
      rw [Option.bind_some, if_pos hp, if_pos (by omega), hdr, hm, h, Option.bind_some]
      simp only [intR, if_true]
      unfold numR
      cases hq : dig (maxI + 1) (zeroHead t) 0 0 t with
      | none => simp [digRes, wire_Reader_Int.j0]
      | some p =>
        obtain ⟨n, r⟩ := p
        have hn := ((dig_iff (maxI + 1) (by unfold maxI; omega) _ _ _).1 hq).2.1
        unfold maxI at hn
        simp only [digRes, if_true]
        rw [show (59 : Int) = ((59 : UInt8).toNat : Int) from rfl, skip_eq, Option.bind_some]
        simp only
        cases hd 59 r with
        | none => simp [skRes, wire_Reader_Int.j0]
        | some r' =>
          simp only [skRes, Bool.not_true, Option.map_some, wire_Reader_Int.j0, Bool.false_eq_true, if_false]
          by_cases h0 : n = 0
          · subst h0; simp [wire_Reader_fail.f]
          · rw [if_neg (by omega), if_neg h0]
            rw [show wrap64 (IntKind.u64.wrap (-(n : Int))) = -(n : Int) by rw [IntKind.wrap_u64]; unfold wrap64; omega]
    · obtain ⟨K, hK⟩ := num_ev s b hs
      refine ⟨K, fun k hk => ?_⟩
      have h := hK k hk
      dsimp only at h ⊢
      have hp : ¬ Lib.hasPrefix s.data.toList (⟨#[45]⟩ : ByteArray).data.toList = true := by
        rw [hl]
        show ¬ ([45].isPrefixOf (c :: t)) = true
        simp only [List.isPrefixOf, Bool.and_eq_true, beq_iff_eq]
        exact fun h => hc h.1.symm
      unfold wire_Reader_Int.f strings_HasPrefix.f
      rw [Option.bind_some, if_neg hp, h, Option.bind_some, hl]
      simp only [intR]
      rw [if_neg hc]
      cases numR maxI 59 (c :: t) with
      | none => rfl
      | some p => rfl

/-- A string behind its length and ':', and the ',' behind it. -/
def textR (l : List UInt8) : Option (List UInt8 × List UInt8) :=
  match numR maxI 58 l with
  | some (n, r) => if n > r.length then none else (hd 44 (r.drop n)).map fun r' => (r.take n, r')
  | none => none

def encTextL (l : List UInt8) : List UInt8 := Lib.itoa l.length ++ [58] ++ l ++ [44]
theorem encText_eq (s : ByteArray) : encText s = encTextL s.data.toList := by unfold encText encTextL; rw [ba_len]

theorem hd_iff (c : UInt8) (l r : List UInt8) : hd c l = some r ↔ l = c :: r := by
  cases l with
  | nil => simp [hd]
  | cons x t =>
    simp only [hd]
    constructor
    · intro h
      split at h
      · rename_i hx; simp only [Option.some.injEq] at h; rw [hx, h]
      · cases h
    · intro h; cases h; simp

theorem textR_iff (l t r : List UInt8) : textR l = some (t, r) ↔ l = encTextL t ++ r ∧ t.length ≤ maxI := by
  unfold textR
  constructor
  · intro h
    split at h
    · rename_i n r' hq
      split at h
      · cases h
      · rename_i hn
        obtain ⟨r'', h1, h2⟩ := Option.map_eq_some_iff.1 h
        simp only [Prod.mk.injEq] at h2
        obtain ⟨rfl, rfl⟩ := h2
        rw [hd_iff] at h1
        obtain ⟨h3, h4⟩ := (numR_iff maxI (by unfold maxI; omega) 58 rfl _ _ _).1 hq
        have hlen : (r'.take n).length = n := by rw [List.length_take]; omega
        refine ⟨?_, by omega⟩
        unfold encTextL
        rw [hlen, Lib.itoa, if_neg (by omega), h3]
        simp only [Int.toNat_natCast, List.append_assoc, List.cons_append, List.nil_append]
        rw [← h1, List.take_append_drop]
    · cases h
  · rintro ⟨rfl, h1⟩
    have := (numR_iff maxI (by unfold maxI; omega) 58 rfl (encTextL t ++ r) t.length (t ++ 44 :: r)).2 ⟨by unfold encTextL Lib.itoa; rw [if_neg (by omega)]; simp, h1⟩
    rw [this]
    simp only
    rw [if_neg (by simp)]
    simp [hd]

theorem text_j0 (k n : Nat) (r' : List UInt8) (b : Bool) (hn : n ≤ 9223372036854775807) (hr'l : r'.length ≤ 140737488355328) :
    wire_Reader_Text.j0 (k + 1) (n : Int) false ⟨r'.toArray⟩ b = some (match (if n > r'.length then none else (hd 44 (r'.drop n)).map fun r'' => (r'.take n, r'')) with | some (t, r) => (⟨t.toArray⟩, ⟨r.toArray⟩, b) | none => (⟨#[]⟩, ⟨#[]⟩, true)) := by
  rw [wire_Reader_Text.j0, if_neg (by simp)]
  have hw : IntKind.u64.wrap (((⟨r'.toArray⟩ : ByteArray).size : Int)) = (r'.length : Int) := by rw [sz_mk, IntKind.wrap_u64]; omega
  by_cases hg : n > r'.length
  · rw [if_pos (by rw [hw]; omega), if_pos hg]; rfl
  · rw [if_neg (by rw [hw]; omega), if_neg hg, if_pos (by omega), if_pos (by rw [sz_mk]; omega)]
    have e1 : (⟨r'.toArray⟩ : ByteArray).extract (n : Int).toNat (⟨r'.toArray⟩ : ByteArray).size = ⟨(r'.drop n).toArray⟩ := by
      have := ba_drop ⟨r'.toArray⟩ n
      simpa using this
    have e2 : (⟨r'.toArray⟩ : ByteArray).extract 0 (n : Int).toNat = ⟨(r'.take n).toArray⟩ := by
      have := ba_take ⟨r'.toArray⟩ n (by rw [sz_mk]; omega)
      simpa using this
    rw [e1, e2, show (44 : Int) = ((44 : UInt8).toNat : Int) from rfl, skip_eq, Option.bind_some]
    simp only
    cases hd 44 (r'.drop n) with
    | none => simp [skRes]
    | some r'' => simp [skRes]

theorem text_ev (s : ByteArray) (b : Bool) (hs : s.size ≤ 140737488355328) :
    Ev (fun k => wire_Reader_Text.f k s b) (match textR s.data.toList with | some (t, r) => (⟨t.toArray⟩, ⟨r.toArray⟩, b) | none => (⟨#[]⟩, ⟨#[]⟩, true)) := by
  obtain ⟨K, hK⟩ := digits_ev s b maxI (by unfold maxI; omega) (by unfold maxI; omega) hs
  refine ⟨K + 1, fun k hk => ?_⟩
  obtain ⟨k, rfl⟩ : ∃ m, k = m + 1 := ⟨k - 1, by omega⟩
  have h := hK (k + 1) (by omega)
  dsimp only at h ⊢
  unfold wire_Reader_Text.f
  have hm : (9223372036854775807 : Int) = ((maxI : Nat) : Int) := rfl
  rw [hm, h, Option.bind_some]
  unfold textR numR
  cases hq : dig maxI (zeroHead s.data.toList) 0 0 s.data.toList with
  | none => simp [digRes, wire_Reader_Text.j0]
  | some p =>
    obtain ⟨n, r⟩ := p
    obtain ⟨hl, hn, _⟩ := (dig_iff maxI (by unfold maxI; omega) _ _ _).1 hq
    have hrl : r.length ≤ s.size := by rw [← ba_len, hl]; simp
    unfold maxI at hn
    simp only [digRes, if_true]
    rw [show (58 : Int) = ((58 : UInt8).toNat : Int) from rfl, skip_eq, Option.bind_some]
    simp only
    cases hr : hd 58 r with
    | none => simp [skRes, wire_Reader_Text.j0]
    | some r' =>
      have hr' := hr
      rw [hd_iff] at hr'
      have hr'l : r'.length ≤ s.size := by rw [hr'] at hrl; simp at hrl; omega
      exact text_j0 k n r' b hn (by omega)

/-! ### lists -/
def numsL : Nat → List UInt8 → Option (List Int × List UInt8)
  | 0, l => (hd 93 l).map fun r => ([], r)
  | n + 1, l => match intR l with
    | none => none
    | some (v, r) => (numsL n r).map fun p => (v :: p.1, p.2)

theorem numsL_sound : ∀ (n : Nat) (l : List UInt8) (vs : List Int) (r : List UInt8), numsL n l = some (vs, r) →
    vs.length = n ∧ l = encInts vs ++ 93 :: r ∧ ∀ x ∈ vs, -9223372036854775808 ≤ x ∧ x ≤ 9223372036854775807 := by
  intro n
  induction n with
  | zero =>
    intro l vs r h
    obtain ⟨r', h1, h2⟩ := Option.map_eq_some_iff.1 h
    simp only [Prod.mk.injEq] at h2
    obtain ⟨rfl, rfl⟩ := h2
    exact ⟨rfl, by rw [(hd_iff _ _ _).1 h1]; rfl, by simp⟩
  | succ n ih =>
    intro l vs r h
    simp only [numsL] at h
    split at h
    · cases h
    · rename_i v r' hq
      obtain ⟨⟨vs', r''⟩, h1, h2⟩ := Option.map_eq_some_iff.1 h
      simp only [Prod.mk.injEq] at h2
      obtain ⟨rfl, rfl⟩ := h2
      obtain ⟨h3, h4, h5⟩ := ih _ _ _ h1
      obtain ⟨h6, h7, h8⟩ := (intR_iff _ _ _).1 hq
      refine ⟨by simp [h3], ?_, ?_⟩
      · rw [h6, h4]; simp [encInts, encInt]
      · intro x hx
        rcases List.mem_cons.1 hx with rfl | hx
        · exact ⟨h7, h8⟩
        · exact h5 x hx

theorem intR_len (l : List UInt8) (v : Int) (r : List UInt8) (h : intR l = some (v, r)) : r.length < l.length := by
  obtain ⟨h1, _⟩ := (intR_iff _ _ _).1 h
  rw [h1]; simp; omega

theorem elemsI_ev : ∀ (d : Nat) (l : List UInt8) (n : Nat) (acc : List Int), l.length = d → l.length + acc.length ≤ 1000000 → n < 18446744073709551616 →
    Ev (fun k => elemsI k n acc ⟨l.toArray⟩ false) (match numsL n l with | some (vs, r) => (acc ++ vs, ⟨r.toArray⟩, false) | none => ([], ⟨#[]⟩, true)) := by
  intro d
  induction d using Nat.strongRecOn with
  | _ d ih =>
    intro l n acc hd' hl hn
    cases n with
    | zero =>
      refine ⟨1, fun k hk => ?_⟩
      obtain ⟨k, rfl⟩ : ∃ m, k = m + 1 := ⟨k - 1, by omega⟩
      dsimp only
      rw [elemsI, if_neg (by omega), show (93 : Int) = ((93 : UInt8).toNat : Int) from rfl, skip_eq, Option.bind_some]
      simp only [numsL]
      cases hd 93 l with
      | none => simp [skRes]
      | some r => simp [skRes]
    | succ n =>
      obtain ⟨K, hK⟩ := int_ev ⟨l.toArray⟩ false (by rw [sz_mk]; omega)
      cases hq : intR l with
      | none =>
        refine ⟨K + 1, fun k hk => ?_⟩
        obtain ⟨k, rfl⟩ : ∃ m, k = m + 1 := ⟨k - 1, by omega⟩
        have h := hK k (by omega)
        dsimp only at h ⊢
        rw [elemsI, if_pos (by omega), h, Option.bind_some]
        simp only [hq, numsL]
        rfl
      | some p =>
        obtain ⟨v, r⟩ := p
        have hr := intR_len _ _ _ hq
        obtain ⟨K2, hK2⟩ := ih r.length (by omega) r n (acc ++ [v]) rfl (by simp; omega) (by omega)
        refine ⟨K + K2 + 1, fun k hk => ?_⟩
        obtain ⟨k, rfl⟩ : ∃ m, k = m + 1 := ⟨k - 1, by omega⟩
        have h := hK k (by omega)
        have h2 := hK2 k (by omega)
        dsimp only at h h2 ⊢
        rw [elemsI, if_pos (by omega), h, Option.bind_some]
        simp only [hq, numsL]
        rw [if_neg (by simp), if_pos (by omega), show (((n + 1 : Nat) : Int) - 1) % 18446744073709551616 = (n : Int) by omega, h2]
        cases numsL n r with
        | none => rfl
        | some p => simp

def numsR (l : List UInt8) : Option (List Int × List UInt8) :=
  match numR maxI 91 l with
  | none => none
  | some (n, r) => numsL n r

theorem nums_ev (s : ByteArray) (hs : s.size ≤ 1000000) :
    Ev (fun k => wire_Reader_Nums.f k s false) (match numsR s.data.toList with | some (vs, r) => (vs, ⟨r.toArray⟩, false) | none => ([], ⟨#[]⟩, true)) := by
  obtain ⟨K, hK⟩ := digits_ev s false maxI (by unfold maxI; omega) (by unfold maxI; omega) (by omega)
  have hm : (9223372036854775807 : Int) = ((maxI : Nat) : Int) := rfl
  unfold numsR numR
  cases hq : dig maxI (zeroHead s.data.toList) 0 0 s.data.toList with
  | none =>
    refine ⟨K, fun k hk => ?_⟩
    have h := hK k hk
    dsimp only at h ⊢
    unfold wire_Reader_Nums.f
    rw [hm, h, Option.bind_some, hq]
    rfl
  | some p =>
    obtain ⟨n, r⟩ := p
    obtain ⟨hl, hn, _⟩ := (dig_iff maxI (by unfold maxI; omega) _ _ _).1 hq
    have hrl : r.length ≤ s.size := by rw [← ba_len, hl]; simp
    unfold maxI at hn
    cases hr : hd 91 r with
    | none =>
      refine ⟨K, fun k hk => ?_⟩
      have h := hK k hk
      dsimp only at h ⊢
      unfold wire_Reader_Nums.f
      rw [hm, h, Option.bind_some, hq]
      simp only [digRes, if_true]
      rw [show (91 : Int) = ((91 : UInt8).toNat : Int) from rfl, skip_eq, Option.bind_some]
      simp only [hr, skRes]
      rfl
    | some r' =>
      have hr' := hr
      rw [hd_iff] at hr'
      have hr'l : r'.length ≤ s.size := by rw [hr'] at hrl; simp at hrl; omega
      obtain ⟨K2, hK2⟩ := elemsI_ev r'.length r' n [] rfl (by simp; omega) (by omega)
      refine ⟨K + K2, fun k hk => ?_⟩
      have h := hK k (by omega)
      have h2 := hK2 k (by omega)
      dsimp only at h h2 ⊢
      unfold wire_Reader_Nums.f
      rw [hm, h, Option.bind_some, hq]
      simp only [digRes, if_true]
      rw [show (91 : Int) = ((91 : UInt8).toNat : Int) from rfl, skip_eq, Option.bind_some]
      simp only [hr, skRes, if_true, Option.map_some]
      rw [h2]
      simp only [List.nil_append]

theorem numsR_sound (l : List UInt8) (vs : List Int) (r : List UInt8) (h : numsR l = some (vs, r)) :
    l = encNums vs ++ r ∧ ∀ x ∈ vs, -9223372036854775808 ≤ x ∧ x ≤ 9223372036854775807 := by
  unfold numsR at h
  split at h
  · cases h
  · rename_i n r' hq
    obtain ⟨h1, h2⟩ := (numR_iff maxI (by unfold maxI; omega) 91 rfl _ _ _).1 hq
    obtain ⟨h3, h4, h5⟩ := numsL_sound _ _ _ _ h
    refine ⟨?_, h5⟩
    rw [h1, h4]
    subst h3
    simp [encNums, Lib.itoa]

def textsL : Nat → List UInt8 → Option (List ByteArray × List UInt8)
  | 0, l => (hd 93 l).map fun r => ([], r)
  | n + 1, l => match textR l with
    | none => none
    | some (v, r) => (textsL n r).map fun p => (⟨v.toArray⟩ :: p.1, p.2)

theorem textsL_sound : ∀ (n : Nat) (l : List UInt8) (vs : List ByteArray) (r : List UInt8), textsL n l = some (vs, r) →
    vs.length = n ∧ l = encStrs vs ++ 93 :: r := by
  intro n
  induction n with
  | zero =>
    intro l vs r h
    obtain ⟨r', h1, h2⟩ := Option.map_eq_some_iff.1 h
    simp only [Prod.mk.injEq] at h2
    obtain ⟨rfl, rfl⟩ := h2
    exact ⟨rfl, by rw [(hd_iff _ _ _).1 h1]; rfl⟩
  | succ n ih =>
    intro l vs r h
    simp only [textsL] at h
    split at h
    · cases h
    · rename_i v r' hq
      obtain ⟨⟨vs', r''⟩, h1, h2⟩ := Option.map_eq_some_iff.1 h
      simp only [Prod.mk.injEq] at h2
      obtain ⟨rfl, rfl⟩ := h2
      obtain ⟨h3, h4⟩ := ih _ _ _ h1
      obtain ⟨h6, h7⟩ := (textR_iff _ _ _).1 hq
      refine ⟨by simp [h3], ?_⟩
      rw [h6, h4]; simp [encStrs, encText_eq]

theorem textR_len (l : List UInt8) (v : List UInt8) (r : List UInt8) (h : textR l = some (v, r)) : r.length < l.length := by
  obtain ⟨h1, _⟩ := (textR_iff _ _ _).1 h
  rw [h1]; simp [encTextL]; omega

theorem elemsT_ev : ∀ (d : Nat) (l : List UInt8) (n : Nat) (acc : List ByteArray), l.length = d → l.length + acc.length ≤ 1000000 → n < 18446744073709551616 →
    Ev (fun k => elemsT k n acc ⟨l.toArray⟩ false) (match textsL n l with | some (vs, r) => (acc ++ vs, ⟨r.toArray⟩, false) | none => ([], ⟨#[]⟩, true)) := by
  intro d
  induction d using Nat.strongRecOn with
  | _ d ih =>
    intro l n acc hd' hl hn
    cases n with
    | zero =>
      refine ⟨1, fun k hk => ?_⟩
      obtain ⟨k, rfl⟩ : ∃ m, k = m + 1 := ⟨k - 1, by omega⟩
      dsimp only
      rw [elemsT, if_neg (by omega), show (93 : Int) = ((93 : UInt8).toNat : Int) from rfl, skip_eq, Option.bind_some]
      simp only [textsL]
      cases hd 93 l with
      | none => simp [skRes]
      | some r => simp [skRes]
    | succ n =>
      obtain ⟨K, hK⟩ := text_ev ⟨l.toArray⟩ false (by rw [sz_mk]; omega)
      cases hq : textR l with
      | none =>
        refine ⟨K + 1, fun k hk => ?_⟩
        obtain ⟨k, rfl⟩ : ∃ m, k = m + 1 := ⟨k - 1, by omega⟩
        have h := hK k (by omega)
        dsimp only at h ⊢
        rw [elemsT, if_pos (by omega), h, Option.bind_some]
        simp only [hq, textsL]
        rfl
      | some p =>
        obtain ⟨v, r⟩ := p
        have hr := textR_len _ _ _ hq
        obtain ⟨K2, hK2⟩ := ih r.length (by omega) r n (acc ++ [⟨v.toArray⟩]) rfl (by simp; omega) (by omega)
        refine ⟨K + K2 + 1, fun k hk => ?_⟩
        obtain ⟨k, rfl⟩ : ∃ m, k = m + 1 := ⟨k - 1, by omega⟩
        have h := hK k (by omega)
        have h2 := hK2 k (by omega)
        dsimp only at h h2 ⊢
        rw [elemsT, if_pos (by omega), h, Option.bind_some]
        simp only [hq, textsL]
        rw [if_neg (by simp), if_pos (by omega), show (((n + 1 : Nat) : Int) - 1) % 18446744073709551616 = (n : Int) by omega, h2]
        cases textsL n r with
        | none => rfl
        | some p => simp

def textsR (l : List UInt8) : Option (List ByteArray × List UInt8) :=
  match numR maxI 91 l with
  | none => none
  | some (n, r) => textsL n r

theorem texts_ev (s : ByteArray) (hs : s.size ≤ 1000000) :
    Ev (fun k => wire_Reader_Texts.f k s false) (match textsR s.data.toList with | some (vs, r) => (vs, ⟨r.toArray⟩, false) | none => ([], ⟨#[]⟩, true)) := by
  obtain ⟨K, hK⟩ := digits_ev s false maxI (by unfold maxI; omega) (by unfold maxI; omega) (by omega)
  have hm : (9223372036854775807 : Int) = ((maxI : Nat) : Int) := rfl
  unfold textsR numR
  cases hq : dig maxI (zeroHead s.data.toList) 0 0 s.data.toList with
  | none =>
    refine ⟨K, fun k hk => ?_⟩
    have h := hK k hk
    dsimp only at h ⊢
    unfold wire_Reader_Texts.f
    rw [hm, h, Option.bind_some, hq]
    rfl
  | some p =>
    obtain ⟨n, r⟩ := p
    obtain ⟨hl, hn, _⟩ := (dig_iff maxI (by unfold maxI; omega) _ _ _).1 hq
    have hrl : r.length ≤ s.size := by rw [← ba_len, hl]; simp
    unfold maxI at hn
    cases hr : hd 91 r with
    | none =>
      refine ⟨K, fun k hk => ?_⟩
      have h := hK k hk
      dsimp only at h ⊢
      unfold wire_Reader_Texts.f
      rw [hm, h, Option.bind_some, hq]
      simp only [digRes, if_true]
      rw [show (91 : Int) = ((91 : UInt8).toNat : Int) from rfl, skip_eq, Option.bind_some]
      simp only [hr, skRes]
      rfl
    | some r' =>
      have hr' := hr
      rw [hd_iff] at hr'
      have hr'l : r'.length ≤ s.size := by rw [hr'] at hrl; simp at hrl; omega
      obtain ⟨K2, hK2⟩ := elemsT_ev r'.length r' n [] rfl (by simp; omega) (by omega)
      refine ⟨K + K2, fun k hk => ?_⟩
      have h := hK k (by omega)
      have h2 := hK2 k (by omega)
      dsimp only at h h2 ⊢
      unfold wire_Reader_Texts.f
      rw [hm, h, Option.bind_some, hq]
      simp only [digRes, if_true]
      rw [show (91 : Int) = ((91 : UInt8).toNat : Int) from rfl, skip_eq, Option.bind_some]
      simp only [hr, skRes, if_true, Option.map_some]
      rw [h2]
      simp only [List.nil_append]

theorem textsR_sound (l : List UInt8) (vs : List ByteArray) (r : List UInt8) (h : textsR l = some (vs, r)) :
    l = encTxts vs ++ r := by
  unfold textsR at h
  split at h
  · cases h
  · rename_i n r' hq
    obtain ⟨h1, h2⟩ := (numR_iff maxI (by unfold maxI; omega) 91 rfl _ _ _).1 hq
    obtain ⟨h3, h4⟩ := textsL_sound _ _ _ _ h
    rw [h1, h4]
    subst h3
    simp [encTxts, Lib.itoa]

end Go.Proofs.YtadnefnofbnheaaDoor.Pr
