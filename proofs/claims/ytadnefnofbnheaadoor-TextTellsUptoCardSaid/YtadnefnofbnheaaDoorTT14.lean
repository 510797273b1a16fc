/- Part 14 of the proof: HPText, HPGlob, QMissivelaw01TextTells, HTellLaw. -/
import Derived.Test.YtadnefnofbnheaaDoorTT1
import Derived.Test.YtadnefnofbnheaaDoorTT8
import Derived.Test.YtadnefnofbnheaaDoorTT12
import Derived.Test.YtadnefnofbnheaaDoorTT11
import Derived.Test.YtadnefnofbnheaaDoorTT9
import Derived.Test.YtadnefnofbnheaaDoorTT6
import Derived.Test.YtadnefnofbnheaaDoorTT5
import Derived.KernelRfl
import Derived.Test.YtadnefnofbnheaaDoorTT13
import Derived.Test.YtadnefnofbnheaaDoorTT2
import Derived.Test.YtadnefnofbnheaaDoorTT10
/- The functions of text and of its reference, one against the other, on lists of bytes: Number, Same, Trim, Fields, Squeeze, Unlines, Decimal. -/
namespace Go.Proofs.YtadnefnofbnheaaDoor.Pr
open Go.RowKit Go.Proofs.YtadnefnofbnheaaDoorW.PrintWords Go.Proofs.YtadnefnofbnheaaDoorW.PrintLast Go.Proofs.YtadnefnofbnheaaDoorW.PrintMore

theorem white_rf : missiveref01_White.f = text_white.f := rfl
theorem white_f (c : UInt8) : text_white.f (c.toNat : Int) = some (isW c) := by
  unfold text_white.f isW
  have : ∀ n : Nat, (if (n : Int) = 9 then some true else if (n : Int) = 10 then some true else if (n : Int) = 13 then some true else some ((n : Int) == 32)) = some (n == 9 || n == 10 || n == 13 || n == 32) := by
    intro n
    by_cases h1 : n = 9
    · subst h1; rfl
    by_cases h2 : n = 10
    · subst h2; rfl
    by_cases h3 : n = 13
    · subst h3; rfl
    rw [if_neg (by omega), if_neg (by omega), if_neg (by omega)]
    have e : ((n : Int) == 32) = (n == 32) := by rw [Bool.eq_iff_iff]; simp; omega
    simp [h1, h2, h3, e]
  exact this _
theorem lower_f (c : UInt8) : text_lower.f (c.toNat : Int) = some ((lowC c).toNat : Int) := by
  have hc := c.toNat_lt
  unfold text_lower.f lowC
  by_cases h : 65 ≤ c.toNat ∧ c.toNat ≤ 90
  · rw [if_pos (by omega), if_pos (by omega), if_pos h, UInt8.toNat_add]
    simp
  · rw [if_neg h]
    by_cases h1 : 65 ≤ c.toNat
    · rw [if_pos (by omega), if_neg (by omega)]
    · rw [if_neg (by omega)]
theorem lower_rf : missiveref01_lower.f = text_lower.f := rfl

/-! ### Number -/
theorem rnumber_l0 (s : ByteArray) (hs : s.size ≤ 15) : ∀ (d k i n : Nat), s.size - i = d → d + 1 ≤ k → i ≤ s.size → n < 10 ^ i →
    missiveref01_Number.l0 k s n i = some (match valL (s.data.toList.drop i) n with | some m => ((m : Int), true) | none => (0, false)) := by
  intro d
  induction d with
  | zero =>
    intro k i n hd hk hi hn
    obtain ⟨k, rfl⟩ : ∃ m, k = m + 1 := ⟨k - 1, by omega⟩
    obtain rfl : i = s.size := by omega
    rw [missiveref01_Number.l0, if_neg (by omega), ← ba_len, List.drop_length]
    rfl
  | succ d ih =>
    intro k i n hd hk hi hn
    obtain ⟨k, rfl⟩ : ∃ m, k = m + 1 := ⟨k - 1, by omega⟩
    obtain ⟨c, r, h1, h2, h3⟩ := bt_nat s i (by omega)
    have hc : c.toNat < 256 := c.toNat_lt
    have hb : n < 1000000000000000 := Nat.lt_of_lt_of_le hn (Nat.pow_le_pow_right (by omega) (by omega : i ≤ 15))
    have hn2 : c.toNat ≤ 57 → 10 * n + (c.toNat - 48) < 10 ^ (i + 1) := by
      intro hc9
      rw [Nat.pow_succ]
      clear hb h1 h2 h3 hk hd hi hs
      omega
    clear hn
    rw [missiveref01_Number.l0, if_pos (by omega), if_pos (by omega), h3, h1, valL]
    by_cases hd1 : c.toNat < 48
    · rw [if_pos (by omega), if_neg (by simp [isDig]; omega)]
    · rw [if_neg (by omega)]
      by_cases hd2 : c.toNat > 57
      · rw [if_pos (by omega), if_neg (by simp [isDig]; omega)]
      · rw [if_neg (by omega), if_pos (by simp [isDig]; omega)]
        rw [w64_digit n c.toNat hb (by omega) (by omega), w64_succ i (by omega), ← h2]
        exact ih k (i + 1) _ (by omega) (by omega) (by omega) (hn2 (by omega))
theorem rnumber_ev (s : ByteArray) (k : Nat) (hk : 20 ≤ k) : missiveref01_Number.f k s = some (numP s.data.toList) := by
  obtain ⟨k, rfl⟩ : ∃ m, k = m + 1 := ⟨k - 1, by omega⟩
  unfold missiveref01_Number.f numP
  rw [ba_len]
  by_cases h1 : s.size < 1
  · rw [if_pos (by omega), missiveref01_Number.j0, if_pos rfl, if_pos (by omega)]
  · rw [if_neg (by omega), missiveref01_Number.j0]
    by_cases h2 : s.size > 15
    · rw [if_pos (by simp; omega), if_pos (by omega)]
    · rw [if_neg (by simp; omega), if_neg (by omega)]
      have := rnumber_l0 s (by omega) s.size k 0 0 (by omega) (by omega) (by omega) (by simp)
      simp only [List.drop_zero] at this
      exact this

/-! ### Same -/
theorem same_l0 (s t : ByteArray) (hst : s.size = t.size) (hs : s.size ≤ 140737488355328) : ∀ (d k i : Nat), s.size - i = d → d + 1 ≤ k → i ≤ s.size →
    text_Same.l0 k s t s.size i = some (decide ((s.data.toList.drop i).map lowC = (t.data.toList.drop i).map lowC)) := by
  intro d
  induction d with
  | zero =>
    intro k i hd hk hi
    obtain ⟨k, rfl⟩ : ∃ m, k = m + 1 := ⟨k - 1, by omega⟩
    rw [text_Same.l0, if_neg (by omega), List.drop_eq_nil_of_le (by rw [ba_len]; omega), List.drop_eq_nil_of_le (by rw [ba_len]; omega)]
    simp
  | succ d ih =>
    intro k i hd hk hi
    obtain ⟨k, rfl⟩ : ∃ m, k = m + 1 := ⟨k - 1, by omega⟩
    obtain ⟨c, r, h1, h2, h3⟩ := bt_nat s i (by omega)
    obtain ⟨c', r', h1', h2', h3'⟩ := bt_nat t i (by omega)
    rw [text_Same.l0, if_pos (by omega), if_pos (by omega), if_pos (by omega), h3, lower_f, Option.bind_some, if_pos (by omega), h3', lower_f, Option.bind_some, h1, h1', List.map_cons, List.map_cons]
    by_cases h : lowC c = lowC c'
    · rw [if_pos (by rw [h]), w64_succ i (by omega), ih k (i + 1) (by omega) (by omega) (by omega), h2, h2']
      simp [h]
    · rw [if_neg (fun e => h (UInt8.toNat_inj.1 (by omega)))]
      simp [h]
theorem same_ev (s t : ByteArray) (hs : s.size ≤ 140737488355328) (k : Nat) (hk : s.size + 1 ≤ k) : text_Same.f k s t = some (decide (s.data.toList.map lowC = t.data.toList.map lowC)) := by
  unfold text_Same.f
  by_cases h : s.size = t.size
  · rw [if_pos (by omega)]
    exact same_l0 s t h hs s.size k 0 (by omega) (by omega) (by omega)
  · rw [if_neg (by omega)]
    have : ¬ s.data.toList.map lowC = t.data.toList.map lowC := by
      intro e
      have := congrArg List.length e
      rw [List.length_map, List.length_map, ba_len, ba_len] at this
      exact h this
    simp [this]
theorem rsame_eq (s t : ByteArray) (hs : s.size ≤ 140737488355328) (ht : t.size ≤ 140737488355328) : missiveref01_Same.f s t = some (decide (s.data.toList.map lowC = t.data.toList.map lowC)) := by
  unfold missiveref01_Same.f missiveref01_Lower.f
  rw [if_pos hs, if_pos ht, Option.bind_some, Option.bind_some, ba_toList, ba_toList]
  simp only [lowB]
  congr 1
  rw [Bool.eq_iff_iff]
  simp

/-! ### Trim -/
theorem trim_l1 (s : ByteArray) (hs : s.size ≤ 140737488355328) : ∀ (d k a b : Nat), b - a = d → d + 1 ≤ k → a ≤ b → b ≤ s.size → missiveref01_Trim.l1 k s a b = text_Trim.l1 k s a b ∧ ∃ T, text_Trim.l1 k s a b = some T := by
  intro d
  induction d with
  | zero =>
    intro k a b hd hk hab hb
    obtain ⟨k, rfl⟩ : ∃ m, k = m + 1 := ⟨k - 1, by omega⟩
    have c0 : ¬ (a : Int) < (b : Int) := by omega
    have c1 : 0 ≤ (a : Int) := by omega
    have c2 : (a : Int) ≤ (b : Int) := by omega
    have c3 : (b : Int) ≤ (s.size : Int) := by omega
    rw [text_Trim.l1, missiveref01_Trim.l1]
    simp only [gt_iff_lt, if_neg c0, if_pos c1, if_pos c2, if_pos c3]
    exact ⟨trivial, _, rfl⟩
  | succ d ih =>
    intro k a b hd hk hab hb
    obtain ⟨k, rfl⟩ : ∃ m, k = m + 1 := ⟨k - 1, by omega⟩
    have e : wrap64 ((b : Int) - 1) = ((b - 1 : Nat) : Int) := by unfold wrap64; omega
    obtain ⟨c, r, h1, h2, h3⟩ := bt_nat s (b - 1) (by omega)
    have c0 : (a : Int) < (b : Int) := by omega
    have c1 : 0 ≤ (a : Int) := by omega
    have c2 : (a : Int) ≤ (b : Int) := by omega
    have c3 : (b : Int) ≤ (s.size : Int) := by omega
    have c4 : 0 ≤ ((b - 1 : Nat) : Int) := by omega
    have c5 : ((b - 1 : Nat) : Int) < (s.size : Int) := by omega
    rw [text_Trim.l1, missiveref01_Trim.l1]
    simp only [gt_iff_lt, e, if_pos c0, if_pos c1, if_pos c2, if_pos c3, if_pos c4, if_pos c5, h3, white_rf, white_f, Option.bind_some]
    by_cases hw : isW c = true
    · simp only [if_pos hw]
      exact ih k a (b - 1) (by omega) (by omega) (by omega) (by omega)
    · simp only [if_neg hw]
      exact ⟨trivial, _, rfl⟩
theorem trim_l0 (s : ByteArray) (hs : s.size ≤ 140737488355328) : ∀ (d k a : Nat), s.size - a = d → d + s.size + 3 ≤ k → a ≤ s.size → missiveref01_Trim.l0 k s a = text_Trim.l0 k s a s.size ∧ ∃ T, text_Trim.l0 k s a s.size = some T := by
  intro d
  induction d with
  | zero =>
    intro k a hd hk ha
    obtain ⟨k, rfl⟩ : ∃ m, k = m + 1 + 1 := ⟨k - 2, by omega⟩
    have c0 : ¬ (a : Int) < (s.size : Int) := by omega
    rw [text_Trim.l0, missiveref01_Trim.l0]
    simp only [if_neg c0, text_Trim.j1, missiveref01_Trim.j1]
    exact trim_l1 s hs _ k a s.size rfl (by omega) (by omega) (by omega)
  | succ d ih =>
    intro k a hd hk ha
    obtain ⟨k, rfl⟩ : ∃ m, k = m + 1 + 1 := ⟨k - 2, by omega⟩
    obtain ⟨c, r, h1, h2, h3⟩ := bt_nat s a (by omega)
    have c0 : (a : Int) < (s.size : Int) := by omega
    have c1 : 0 ≤ (a : Int) := by omega
    rw [text_Trim.l0, missiveref01_Trim.l0]
    simp only [if_pos c0, if_pos c1, h3, white_rf, white_f, Option.bind_some]
    by_cases hw : isW c = true
    · simp only [if_pos hw, w64_succ a (by omega)]
      exact ih (k + 1) (a + 1) (by omega) (by omega) (by omega)
    · simp only [if_neg hw, text_Trim.j1, missiveref01_Trim.j1]
      exact trim_l1 s hs _ k a s.size rfl (by omega) (by omega) (by omega)
theorem trim_ev (s : ByteArray) (hs : s.size ≤ 140737488355328) (k : Nat) (hk : 2 * s.size + 3 ≤ k) : ∃ T, text_Trim.f k s = some T ∧ missiveref01_Trim.f k s = some T := by
  obtain ⟨h1, T, h2⟩ := trim_l0 s hs s.size k 0 (by omega) (by omega) (by omega)
  exact ⟨T, h2, h1.trans h2⟩

/-! ### Strings -/
theorem strings_l0 (l : List ByteArray) (hl : l.length ≤ 140737488355328) : ∀ (d k i : Nat), l.length - i = d → d + 1 ≤ k → i ≤ l.length → missiveref01_Strings.l0 k l l i = some true := by
  intro d
  induction d with
  | zero =>
    intro k i hd hk hi
    obtain ⟨k, rfl⟩ : ∃ m, k = m + 1 := ⟨k - 1, by omega⟩
    rw [missiveref01_Strings.l0, if_neg (by omega)]
  | succ d ih =>
    intro k i hd hk hi
    obtain ⟨k, rfl⟩ : ∃ m, k = m + 1 := ⟨k - 1, by omega⟩
    rw [missiveref01_Strings.l0, if_pos (by omega), if_pos (by omega), if_pos (by omega), if_pos rfl, w64_succ i (by omega)]
    exact ih k (i + 1) (by omega) (by omega) (by omega)
theorem strings_ev (l : List ByteArray) (hl : l.length ≤ 140737488355328) (k : Nat) (hk : l.length + 1 ≤ k) : missiveref01_Strings.f k l l = some true := by
  unfold missiveref01_Strings.f
  rw [if_pos rfl]
  exact strings_l0 l hl l.length k 0 (by omega) (by omega) (by omega)

/-! ### Fields -/
theorem fields_loop (s : ByteArray) (hs : s.size ≤ 1000000) : ∀ (d i : Nat), s.size - i = d → i ≤ s.size →
    (∀ (k : Nat) (acc : List ByteArray), 3 * d + 1 ≤ k → acc.length + d ≤ 1000000 → missiveref01_Fields.l0 k s acc i = some (acc ++ (wordsL (s.data.toList.drop i) []).map fun l => ⟨l.toArray⟩)) ∧
    ∀ (k : Nat) (acc : List ByteArray) (a : Nat), 3 * d + 2 ≤ k → acc.length + d + 1 ≤ 1000000 → a < i → missiveref01_Fields.l1 k s acc a i = some (acc ++ (wordsL (s.data.toList.drop i) ((s.data.toList.take i).drop a)).map fun l => ⟨l.toArray⟩) := by
  intro d
  induction d with
  | zero =>
    intro i hd hi
    obtain rfl : i = s.size := by omega
    have hdr : s.data.toList.drop s.size = [] := by rw [← ba_len, List.drop_length]
    have h0 : ∀ (k : Nat) (acc : List ByteArray), 1 ≤ k → missiveref01_Fields.l0 k s acc s.size = some acc := by
      intro k acc hk
      obtain ⟨k, rfl⟩ : ∃ m, k = m + 1 := ⟨k - 1, by omega⟩
      rw [missiveref01_Fields.l0, if_neg (by omega)]
    refine ⟨fun k acc hk _ => by rw [h0 k acc (by omega), hdr]; simp [wordsL], fun k acc a hk hac hai => ?_⟩
    obtain ⟨k, rfl⟩ : ∃ m, k = m + 1 := ⟨k - 1, by omega⟩
    have hne : (s.data.toList.take s.size).drop a ≠ [] := by
      intro e
      have := congrArg List.length e
      simp at this
      omega
    rw [missiveref01_Fields.l1, if_neg (by omega), if_pos (by omega), if_pos (by omega), if_pos (by omega), if_pos (by omega), h0 _ _ (by omega), hdr, wordsL, if_neg hne]
    have : s.extract (a : Int).toNat (s.size : Int).toNat = ⟨((s.data.toList.take s.size).drop a).toArray⟩ := by
      apply ba_inj
      rw [Int.toNat_natCast, Int.toNat_natCast, ba_extract s a s.size (Nat.le_refl _)]
    rw [this]
    rfl
  | succ d ih =>
    intro i hd hi
    obtain ⟨c, r, h1, h2, h3⟩ := bt_nat s i (by omega)
    obtain ⟨ihA, ihB⟩ := ih (i + 1) (by omega) (by omega)
    have hA : ∀ (k : Nat) (acc : List ByteArray), 3 * (d + 1) + 1 ≤ k → acc.length + (d + 1) ≤ 1000000 → missiveref01_Fields.l0 k s acc i = some (acc ++ (wordsL (s.data.toList.drop i) []).map fun l => ⟨l.toArray⟩) := by
      intro k acc hk hac
      obtain ⟨k, rfl⟩ : ∃ m, k = m + 1 + 1 := ⟨k - 2, by omega⟩
      rw [missiveref01_Fields.l0, if_pos (by omega), if_pos (by omega), h3, white_rf, white_f, Option.bind_some]
      by_cases hw : isW c = true
      · rw [if_pos hw, w64_succ i (by omega), ihA (k + 1) acc (by omega) (by omega), h2, h1, wordsL, if_pos hw, if_pos rfl]
      · rw [if_neg hw, missiveref01_Fields.l1, if_pos (by omega), if_pos (by omega), h3, white_rf, white_f, Option.bind_some, if_neg hw, w64_succ i (by omega), ihB k acc i (by omega) (by omega) (by omega)]
        have := wordsL_take s.data.toList c r i i (Nat.le_refl _) h1 (by simpa using hw)
        rw [List.drop_take_self_nil] at this
        rw [this]
    refine ⟨hA, fun k acc a hk hac hai => ?_⟩
    obtain ⟨k, rfl⟩ : ∃ m, k = m + 1 := ⟨k - 1, by omega⟩
    rw [missiveref01_Fields.l1, if_pos (by omega), if_pos (by omega), h3, white_rf, white_f, Option.bind_some]
    by_cases hw : isW c = true
    · have hne : (s.data.toList.take i).drop a ≠ [] := by
        intro e
        have := congrArg List.length e
        simp at this
        try rw [ba_len] at this
        omega
      have hcut : s.extract (a : Int).toNat (i : Int).toNat = ⟨((s.data.toList.take i).drop a).toArray⟩ := by
        apply ba_inj
        rw [Int.toNat_natCast, Int.toNat_natCast, ba_extract s a i hi]
      rw [if_pos hw, if_pos (by omega), if_pos (by omega), if_pos (by omega), if_pos (by omega), hA k _ (by omega) (by simp; omega), hcut, wordsL_cur _ _ hne (.inr ⟨c, r, h1, hw⟩)]
      simp
    · rw [if_neg hw, w64_succ i (by omega), ihB k acc a (by omega) (by omega) (by omega), wordsL_take s.data.toList c r i a (by omega) h1 (by simpa using hw)]

theorem rfields_ev (s : ByteArray) (hs : s.size ≤ 1000000) (k : Nat) (hk : 3 * s.size + 1 ≤ k) : missiveref01_Fields.f k s = some (wordsB s) := by
  unfold missiveref01_Fields.f
  have := (fields_loop s hs s.size 0 (by omega) (by omega)).1 k [] hk (by simp; omega)
  simpa [wordsB] using this

/-! ### Join, Squeeze, Unlines -/
theorem str_of (l : List UInt8) : strOfNums (l.map fun b => (b.toNat : Int)) = ⟨l.toArray⟩ := by
  unfold strOfNums
  rw [List.map_map]
  congr 2
  conv => rhs; rw [← List.map_id l]
  apply List.map_congr_left
  intro b _
  simp
theorem bytesOf_eq (s : ByteArray) : bytesOf s = s.data.toList.map fun b => (b.toNat : Int) := rfl
theorem words_ne (l : List UInt8) : ∀ cur, ∀ x ∈ wordsL l cur, x ≠ [] := by
  induction l with
  | nil =>
    intro cur x hx
    by_cases hc : cur = []
    · simp [wordsL, hc] at hx
    · simp [wordsL, hc] at hx; rw [hx]; exact hc
  | cons c l ih =>
    intro cur x hx
    simp only [wordsL] at hx
    split at hx
    · split at hx
      · exact ih _ x hx
      · rename_i hc
        rcases List.mem_cons.1 hx with rfl | hx
        · exact hc
        · exact ih _ x hx
    · exact ih _ x hx
theorem sqz_ne (l : List (List UInt8)) (h : ∀ x ∈ l, x ≠ []) (hl : l ≠ []) : sqz l ≠ [] := by
  have : l = l.dropLast ++ [l.getLast hl] := (List.dropLast_concat_getLast hl).symm
  rw [this, sqz_snoc]
  intro e
  exact h _ (List.getLast_mem hl) (List.append_eq_nil_iff.1 e).2

theorem join_l0 (l : List ByteArray) (hl : l.length ≤ 1000000) (hne : ∀ x ∈ l, x.data.toList ≠ []) (hb : ∀ j, j ≤ l.length → (sqz ((l.take j).map fun x => x.data.toList)).length ≤ 100000000000) (hx : ∀ x ∈ l, x.size ≤ 1000000) :
    ∀ (d k i : Nat), l.length - i = d → d + 1 ≤ k → i ≤ l.length →
    missiveref01_Join.l0 k l ⟨#[32]⟩ ((sqz ((l.take i).map fun x => x.data.toList)).map fun b => (b.toNat : Int)) i = some ⟨(sqz (l.map fun x => x.data.toList)).toArray⟩ := by
  intro d
  induction d with
  | zero =>
    intro k i hd hk hi
    obtain ⟨k, rfl⟩ : ∃ m, k = m + 1 := ⟨k - 1, by omega⟩
    obtain rfl : i = l.length := by omega
    rw [missiveref01_Join.l0, if_neg (by omega), List.take_length, str_of]
  | succ d ih =>
    intro k i hd hk hi
    obtain ⟨k, rfl⟩ : ∃ m, k = m + 1 := ⟨k - 1, by omega⟩
    have hlt : i < l.length := by omega
    have hrd : rdOf ByteArray.empty l (i : Int) = l[i] := by simp [rdOf, List.getD, hlt]
    have hxi := hx _ (List.getElem_mem hlt)
    have hbi := hb i (by omega)
    have hsn : sqz ((l.take (i + 1)).map fun x => x.data.toList) = (if sqz ((l.take i).map fun x => x.data.toList) = [] then sqz ((l.take i).map fun x => x.data.toList) else sqz ((l.take i).map fun x => x.data.toList) ++ [32]) ++ l[i].data.toList := by
      rw [List.take_succ_eq_append_getElem hlt, List.map_append, List.map_singleton, sqz_snoc]
    have := ih k (i + 1) (by omega) (by omega) (by omega)
    rw [missiveref01_Join.l0, if_pos (by omega), hrd, w64_succ i (by omega), ← this, hsn]
    by_cases h0 : i = 0
    · subst h0
      rw [if_neg (by omega), if_pos (by omega), if_pos (by simp [sqz]; omega)]
      simp [sqz, bytesOf_eq]
    · have hq : sqz ((l.take i).map fun x => x.data.toList) ≠ [] := by
        apply sqz_ne
        · intro x hx'
          obtain ⟨y, hy, rfl⟩ := List.mem_map.1 hx'
          exact hne y (List.mem_of_mem_take hy)
        · intro e
          have h2 : ((l.take i).map fun x => x.data.toList).length = i := by simp; omega
          rw [e] at h2
          simp at h2
          omega
      have h32 : (⟨#[32]⟩ : ByteArray).size = 1 := rfl
      rw [if_pos (by omega), if_pos (by rw [List.length_map, h32]; omega), Option.bind_some, if_pos (by omega), if_pos (by rw [List.length_append, List.length_map, bytesOf_length, h32]; omega), if_neg hq]
      congr 1
      simp [bytesOf_eq]

theorem rsqueeze_ev (s : ByteArray) (hs : s.size ≤ 1000) (k : Nat) (hk : 3 * s.size + 2 ≤ k) : missiveref01_Squeeze.f k s = some ⟨(sqz (wordsL s.data.toList [])).toArray⟩ := by
  unfold missiveref01_Squeeze.f missiveref01_Join.f
  rw [rfields_ev s (by omega) k (by omega), Option.bind_some]
  have ht := wordsL_total s.data.toList []
  rw [ba_len] at ht
  simp only [List.length_nil, Nat.zero_add] at ht
  have hmap : (wordsB s).map (fun x => x.data.toList) = wordsL s.data.toList [] := by
    unfold wordsB
    rw [List.map_map]
    conv => rhs; rw [← List.map_id (wordsL s.data.toList [])]
    apply List.map_congr_left
    intro b _
    simp
  have hlen : (wordsB s).length = (wordsL s.data.toList []).length := by simp [wordsB]
  have hx : ∀ x ∈ wordsB s, x.size ≤ 1000 := by
    intro x hx
    obtain ⟨y, hy, rfl⟩ := List.mem_map.1 hx
    rw [sz_mk]
    have := ht.2.2 y hy
    omega
  have := join_l0 (wordsB s) (by omega) (fun x hx => by
      obtain ⟨y, hy, rfl⟩ := List.mem_map.1 hx
      have := words_ne _ _ y hy
      simpa using this)
    (fun j hj => by
      have h1 : ∀ l : List ByteArray, (∀ x ∈ l, x.size ≤ 1000) → (sqz (l.map fun x => x.data.toList)).length ≤ l.length * 1000001 := by
        intro l hl
        have h := sqz_len (l.attach.map fun x => (⟨x.1, Nat.le_trans (hl x.1 x.2) (by omega)⟩ : Wd))
        rw [List.map_map, List.length_map, List.length_attach] at h
        have e : l.attach.map ((fun x : Wd => x.1.data.toList) ∘ fun x => (⟨x.1, Nat.le_trans (hl x.1 x.2) (by omega)⟩ : Wd)) = l.map fun x => x.data.toList := by
          conv => rhs; rw [← List.attach_map_subtype_val l, List.map_map]
          rfl
        rw [e] at h
        exact h
      have h2 := h1 ((wordsB s).take j) (fun x hx' => hx x (List.mem_of_mem_take hx'))
      rw [List.length_take] at h2
      have h3 : min j (wordsB s).length * 1000001 ≤ 1000 * 1000001 := Nat.mul_le_mul_right _ (by omega)
      omega)
    (fun x hx' => by have := hx x hx'; omega) (wordsB s).length k 0 (by omega) (by omega) (by omega)
  simp only [List.take_zero, List.map_nil] at this
  rw [hmap] at this
  rw [show ((([] : List Int))) = (sqz []).map fun b => (b.toNat : Int) from rfl]
  rw [show (0 : Int) = ((0 : Nat) : Int) from rfl, this]
  rfl

theorem runl_l0 (l : List ByteArray) (hl : l.length ≤ 1000000) (hb : (unl l).length ≤ 100000000000000) : ∀ (d k i : Nat), l.length - i = d → d + 1 ≤ k → i ≤ l.length →
    missiveref01_Unlines.l0 k l ((unl (l.take i)).map fun b => (b.toNat : Int)) i = some ⟨(unl l).toArray⟩ := by
  intro d
  induction d with
  | zero =>
    intro k i hd hk hi
    obtain ⟨k, rfl⟩ : ∃ m, k = m + 1 := ⟨k - 1, by omega⟩
    obtain rfl : i = l.length := by omega
    rw [missiveref01_Unlines.l0, if_neg (by omega), List.take_length, str_of]
  | succ d ih =>
    intro k i hd hk hi
    obtain ⟨k, rfl⟩ : ∃ m, k = m + 1 := ⟨k - 1, by omega⟩
    have hlt : i < l.length := by omega
    have hsn := unl_snoc l i hlt
    have h1 := unl_take l (i + 1)
    have := ih k (i + 1) (by omega) (by omega) (by omega)
    rw [hsn] at h1 this
    rw [List.length_append, List.length_append, ba_len] at h1
    simp only [List.length_cons, List.length_nil] at h1
    rw [missiveref01_Unlines.l0, if_pos (by omega), if_pos (by omega), if_pos (by rw [List.length_map]; omega), Option.bind_some, if_pos (by rw [List.length_append, List.length_map, bytesOf_length]; omega), w64_succ i (by omega), ← this]
    congr 1
    simp [bytesOf_eq]
theorem runl_ev (l : List ByteArray) (hl : l.length ≤ 1000000) (hb : (unl l).length ≤ 100000000000000) (k : Nat) (hk : l.length + 1 ≤ k) : missiveref01_Unlines.f k l = some ⟨(unl l).toArray⟩ := by
  unfold missiveref01_Unlines.f
  have := runl_l0 l hl hb l.length k 0 (by omega) hk (by omega)
  simpa [unl] using this

/-! ### Decimal -/
theorem rdec_nat : ∀ (k n : Nat), n < 10 ^ (k + 1) → n ≤ 9223372036854775807 → missiveref01_Decimal.f (k + 1) (n : Int) = some ⟨(Lib.decDigits n).toArray⟩ := by
  have hbyte : ∀ d : Nat, d < 10 → strOfNums [(wrap64 (48 + (d : Int))) % 256] = ⟨#[UInt8.ofNat (48 + d)]⟩ := by
    intro d hd
    have e : (wrap64 (48 + (d : Int))) % 256 = ((48 + d : Nat) : Int) := by unfold wrap64; omega
    rw [e]
    rfl
  intro k
  induction k with
  | zero =>
    intro n h hn
    have h10 : n < 10 := by simpa using h
    rw [missiveref01_Decimal.f, if_neg (by omega), if_neg (by omega), if_pos (by omega), hbyte n h10, dd_small h10]
  | succ k ih =>
    intro n h hn
    by_cases h10 : n < 10
    · rw [missiveref01_Decimal.f, if_neg (by omega), if_neg (by omega), if_pos (by omega), hbyte n h10, dd_small h10]
    · obtain ⟨q, d, rfl, hd⟩ : ∃ q d, n = 10 * q + d ∧ d < 10 := ⟨n / 10, n % 10, by omega, by omega⟩
      have hq : q < 10 ^ (k + 1) := by
        rw [Nat.pow_succ] at h
        omega
      have hql : (Lib.decDigits q).length ≤ 20 := dd_len_le 19 q (by simp; omega)
      have e1 : wrap64 (Int.tdiv ((10 * q + d : Nat) : Int) 10) = (q : Int) := by
        rw [Int.tdiv_eq_ediv_of_nonneg (by omega)]
        clear h ih hq hql
        unfold wrap64
        omega
      have e2 : Int.tmod ((10 * q + d : Nat) : Int) 10 = (d : Int) := by
        rw [Int.tmod_eq_emod_of_nonneg (by omega)]
        clear h ih hq hql
        omega
      rw [missiveref01_Decimal.f, if_neg (by omega), if_neg (by omega), if_neg (by omega), e1, ih q hq (by omega), Option.bind_some, e2, Option.bind_some, hbyte d hd, if_pos]
      · rw [dd_big (by omega) hd, ← ba_append]
      · rw [sz_mk]
        show _ + 1 ≤ _
        omega
theorem rdec_ev (n : Int) (h : -9223372036854775808 ≤ n ∧ n ≤ 9223372036854775807) (k : Nat) (hk : 30 ≤ k) : missiveref01_Decimal.f k n = some ⟨(Lib.itoa n).toArray⟩ := by
  obtain ⟨k, rfl⟩ : ∃ m, k = m + 1 + 1 := ⟨k - 2, by omega⟩
  have hp : ∀ m : Nat, m ≤ 9223372036854775807 → m < 10 ^ (k + 1) := by
    intro m hm
    have : 10 ^ 20 ≤ 10 ^ (k + 1) := Nat.pow_le_pow_right (by omega) (by omega)
    omega
  by_cases h0 : n < 0
  · by_cases h1 : n = -9223372036854775808
    · subst h1
      rw [missiveref01_Decimal.f, if_pos rfl]
      have : Lib.itoa (-9223372036854775808) = [45, 57, 50, 50, 51, 51, 55, 50, 48, 51, 54, 56, 53, 52, 55, 55, 53, 56, 48, 56] := by kernel_rfl
      rw [this]
    · have hlen : (Lib.decDigits n.natAbs).length ≤ 20 := dd_len_le 19 _ (by simp; omega)
      have e : wrap64 (-n) = ((n.natAbs : Nat) : Int) := by unfold wrap64; omega
      rw [missiveref01_Decimal.f, if_neg h1, if_pos h0, e, rdec_nat k _ (hp _ (by omega)) (by omega), Option.bind_some, if_pos (by rw [sz_mk]; omega), Lib.itoa, if_pos h0]
      have := ba_append [45] (Lib.decDigits n.natAbs)
      rw [show (⟨#[45]⟩ : ByteArray) = ⟨[45].toArray⟩ from rfl, this]
      rfl
  · have := rdec_nat (k + 1) n.toNat (Nat.lt_of_lt_of_le (hp _ (by omega)) (Nat.pow_le_pow_right (by omega) (by omega))) (by omega)
    rw [show (n.toNat : Int) = n by omega] at this
    rw [this, Lib.itoa, if_neg h0]

end Go.Proofs.YtadnefnofbnheaaDoor.Pr

/- text.Glob and the reference's: both say whether a pattern stands for a string. -/
namespace Go.Proofs.YtadnefnofbnheaaDoor.Pr
open Go.RowKit Go.Proofs.YtadnefnofbnheaaDoorW.PrintWords Go.Proofs.YtadnefnofbnheaaDoorW.PrintLast Go.Proofs.YtadnefnofbnheaaDoorW.PrintMore

def one (c x : UInt8) : Prop := c = 63 ∨ lowC c = lowC x
/-- The pattern stands for the string. -/
def GM : List UInt8 → List UInt8 → Prop
  | [], S => S = []
  | c :: P, S => if c = 42 then ∃ n, n ≤ S.length ∧ GM P (S.drop n) else ∃ x S', S = x :: S' ∧ one c x ∧ GM P S'

theorem GM_nil (S : List UInt8) : GM [] S ↔ S = [] := Iff.rfl
theorem GM_star (P S : List UInt8) : GM (42 :: P) S ↔ ∃ n, n ≤ S.length ∧ GM P (S.drop n) := by
  rw [GM, if_pos rfl]
theorem GM_one (c : UInt8) (P S : List UInt8) (hc : c ≠ 42) : GM (c :: P) S ↔ ∃ x S', S = x :: S' ∧ one c x ∧ GM P S' := by
  rw [GM, if_neg hc]
theorem GM_one_cons (c x : UInt8) (P S : List UInt8) (hc : c ≠ 42) : GM (c :: P) (x :: S) ↔ one c x ∧ GM P S := by
  rw [GM_one c P _ hc]
  constructor
  · rintro ⟨y, S', e, h1, h2⟩; cases e; exact ⟨h1, h2⟩
  · rintro ⟨h1, h2⟩; exact ⟨x, S, rfl, h1, h2⟩
theorem GM_one_nil (c : UInt8) (P : List UInt8) (hc : c ≠ 42) : ¬ GM (c :: P) [] := by
  rw [GM_one c P _ hc]
  rintro ⟨x, S', e, _⟩
  cases e
theorem GM_star_drop (P S : List UInt8) (m : Nat) (h : GM (42 :: P) (S.drop m)) : GM (42 :: P) S := by
  rw [GM_star] at h ⊢
  obtain ⟨n, hn, hg⟩ := h
  by_cases hm : m ≤ S.length
  · rw [List.length_drop] at hn
    rw [List.drop_drop] at hg
    exact ⟨m + n, by omega, hg⟩
  · have e : S.drop m = [] := List.drop_eq_nil_of_le (by omega)
    rw [e, List.drop_nil] at hg
    exact ⟨S.length, Nat.le_refl _, by rw [List.drop_length]; exact hg⟩
theorem GM_star_cons (P S : List UInt8) (x : UInt8) : GM (42 :: P) (x :: S) ↔ GM P (x :: S) ∨ GM (42 :: P) S := by
  constructor
  · intro h
    rw [GM_star] at h
    obtain ⟨n, hn, hg⟩ := h
    cases n with
    | zero => exact .inl hg
    | succ n => exact .inr ((GM_star P S).2 ⟨n, by simpa using hn, hg⟩)
  · rintro (h | h)
    · exact (GM_star P _).2 ⟨0, Nat.zero_le _, h⟩
    · exact GM_star_drop P (x :: S) 1 h

/-- A segment without stars takes as many bytes as it has. -/
theorem GM_seg (seg Q : List UInt8) (hs : ∀ c ∈ seg, c ≠ 42) : ∀ S, GM (seg ++ Q) S → seg.length ≤ S.length ∧ GM Q (S.drop seg.length) := by
  induction seg with
  | nil => intro S h; exact ⟨Nat.zero_le _, h⟩
  | cons c seg ih =>
    intro S h
    rw [List.cons_append, GM_one c _ _ (hs c (by simp))] at h
    obtain ⟨x, S', rfl, _, h2⟩ := h
    obtain ⟨h3, h4⟩ := ih (fun c hc => hs c (by simp [hc])) S' h2
    exact ⟨by simpa using h3, by simpa using h4⟩

/-! ### the reference: row by row -/
theorem GM_append (P Q : List UInt8) : ∀ S, GM (P ++ Q) S ↔ ∃ n, n ≤ S.length ∧ GM P (S.take n) ∧ GM Q (S.drop n) := by
  induction P with
  | nil =>
    intro S
    rw [List.nil_append]
    constructor
    · intro h; exact ⟨0, Nat.zero_le _, by simp [GM], h⟩
    · rintro ⟨n, hn, h1, h2⟩
      rw [GM_nil] at h1
      have : n = 0 ∨ S = [] := by
        rcases List.take_eq_nil_iff.1 h1 with h | h
        · exact .inl h
        · exact .inr h
      rcases this with rfl | rfl
      · exact h2
      · simpa using h2
  | cons c P ih =>
    intro S
    rw [List.cons_append]
    by_cases hc : c = 42
    · subst hc
      rw [GM_star]
      constructor
      · rintro ⟨n, hn, h⟩
        obtain ⟨m, hm, h1, h2⟩ := (ih _).1 h
        rw [List.length_drop] at hm
        refine ⟨n + m, by omega, ?_, by rw [List.drop_drop] at h2; exact h2⟩
        rw [GM_star]
        refine ⟨n, by simp; omega, ?_⟩
        rw [List.drop_take, show n + m - n = m by omega]
        exact h1
      · rintro ⟨n, hn, h1, h2⟩
        rw [GM_star] at h1
        obtain ⟨m, hm, h3⟩ := h1
        rw [List.length_take] at hm
        refine ⟨m, by omega, (ih _).2 ⟨n - m, by rw [List.length_drop]; omega, ?_, ?_⟩⟩
        · rw [List.drop_take] at h3
          exact h3
        · rw [List.drop_drop, show m + (n - m) = n by omega]
          exact h2
    · rw [GM_one c _ _ hc]
      constructor
      · rintro ⟨x, S', rfl, h1, h2⟩
        obtain ⟨n, hn, h3, h4⟩ := (ih _).1 h2
        exact ⟨n + 1, by simpa using hn, by rw [List.take_succ_cons, GM_one_cons c x _ _ hc]; exact ⟨h1, h3⟩, by simpa using h4⟩
      · rintro ⟨n, hn, h1, h2⟩
        rw [GM_one c _ _ hc] at h1
        obtain ⟨x, S', e, h3, h4⟩ := h1
        cases n with
        | zero => cases e
        | succ n =>
          cases S with
          | nil => cases e
          | cons y S =>
            rw [List.take_succ_cons] at e
            cases e
            exact ⟨x, S, rfl, h3, (ih _).2 ⟨n, by simpa using hn, h4, by simpa using h2⟩⟩

theorem GM_snoc_star (P S : List UInt8) (k : Nat) (hk : k ≤ S.length) : GM (P ++ [42]) (S.take k) ↔ GM P (S.take k) ∨ (0 < k ∧ GM (P ++ [42]) (S.take (k - 1))) := by
  have key : ∀ k, k ≤ S.length → (GM (P ++ [42]) (S.take k) ↔ ∃ n, n ≤ k ∧ GM P (S.take n)) := by
    intro k hk
    rw [GM_append]
    constructor
    · rintro ⟨n, hn, h1, _⟩
      rw [List.length_take] at hn
      rw [List.take_take, Nat.min_eq_left (by omega)] at h1
      exact ⟨n, by omega, h1⟩
    · rintro ⟨n, hn, h1⟩
      refine ⟨n, by rw [List.length_take]; omega, by rw [List.take_take, Nat.min_eq_left (by omega)]; exact h1, ?_⟩
      rw [GM_star]
      exact ⟨((S.take k).drop n).length, Nat.le_refl _, by rw [List.drop_length]; rfl⟩
  rw [key k hk]
  constructor
  · rintro ⟨n, hn, h⟩
    by_cases e : n = k
    · subst e; exact .inl h
    · exact .inr ⟨by omega, (key _ (by omega)).2 ⟨n, by omega, h⟩⟩
  · rintro (h | ⟨h0, h⟩)
    · exact ⟨k, Nat.le_refl _, h⟩
    · obtain ⟨n, hn, h⟩ := (key _ (by omega)).1 h
      exact ⟨n, by omega, h⟩
theorem GM_snoc_one (P S : List UInt8) (c : UInt8) (hc : c ≠ 42) (k : Nat) (hk : k ≤ S.length) : GM (P ++ [c]) (S.take k) ↔ ∃ h : 0 < k, GM P (S.take (k - 1)) ∧ one c (S[k - 1]'(by omega)) := by
  rw [GM_append]
  constructor
  · rintro ⟨n, hn, h1, h2⟩
    rw [GM_one c _ _ hc] at h2
    obtain ⟨x, S', e, h3, h4⟩ := h2
    rw [GM_nil] at h4
    subst h4
    have hl := congrArg List.length e
    rw [List.length_drop, List.length_take] at hl
    simp only [List.length_cons, List.length_nil] at hl
    rw [List.length_take] at hn
    have hn1 : n = k - 1 := by omega
    subst hn1
    refine ⟨by omega, by rw [List.take_take, Nat.min_eq_left (by omega)] at h1; exact h1, ?_⟩
    have hx : ((S.take k).drop (k - 1))[0]? = some x := by rw [e]; rfl
    rw [List.getElem?_drop, Nat.add_zero, List.getElem?_take_of_lt (by omega), List.getElem?_eq_getElem (by omega)] at hx
    cases hx
    exact h3
  · rintro ⟨h0, h1, h2⟩
    refine ⟨k - 1, by rw [List.length_take]; omega, by rw [List.take_take, Nat.min_eq_left (by omega)]; exact h1, ?_⟩
    rw [GM_one c _ _ hc]
    refine ⟨S[k - 1]'(by omega), [], ?_, h2, rfl⟩
    rw [List.drop_take, show k - (k - 1) = 1 by omega, List.drop_eq_getElem_cons (by omega)]
    rfl

theorem w64_pred (j : Nat) (h : 0 < j) (h2 : j ≤ 140737488355328) : wrap64 ((j : Int) - 1) = ((j - 1 : Nat) : Int) := by unfold wrap64; omega
theorem rd_set (x : List Bool) (j i : Nat) (b : Bool) (hj : j < x.length) : rdOf false (x.set j b) (i : Int) = if i = j then b else rdOf false x (i : Int) := by
  simp only [rdOf, Int.toNat_natCast, List.getD_eq_getElem?_getD]
  rw [List.getElem?_set]
  by_cases h : i = j
  · subst h; rw [if_pos rfl, if_pos hj, if_pos rfl]; rfl
  · rw [if_neg (fun e => h e.symm), if_neg h]
theorem is42 (c : UInt8) : (c.toNat : Int) = 42 ↔ c = 42 := by
  rw [← UInt8.toNat_inj]; show (c.toNat : Int) = 42 ↔ c.toNat = 42; omega
theorem is63 (c : UInt8) : (c.toNat : Int) = 63 ↔ c = 63 := by
  rw [← UInt8.toNat_inj]; show (c.toNat : Int) = 63 ↔ c.toNat = 63; omega

theorem rglob_step (p s : ByteArray) (hs : s.size ≤ 1000000) (i : Nat) (hi : i < p.size) (x5 x7 : List Bool) (h5 : x5.length = s.size + 1) (h7 : x7.length = s.size + 1)
    (hr : ∀ j, j ≤ s.size → (rdOf false x5 (j : Int) = true ↔ GM (p.data.toList.take i) (s.data.toList.take j))) (j : Nat) (hj : j ≤ s.size)
    (hn : ∀ j', j' < j → (rdOf false x7 (j' : Int) = true ↔ GM (p.data.toList.take (i + 1)) (s.data.toList.take j'))) :
    ∃ b : Bool, (b = true ↔ GM (p.data.toList.take (i + 1)) (s.data.toList.take j)) ∧ ∀ k, missiveref01_Glob.l1 (k + 1) p s x5 i x7 j = missiveref01_Glob.l1 k p s x5 i (x7.set j b) ((j + 1 : Nat) : Int) := by
  obtain ⟨c, r, h1, h2, h3⟩ := bt_nat p i hi
  have hil : i < p.data.toList.length := by rw [ba_len]; exact hi
  have hci : p.data.toList[i] = c := by
    have := List.drop_eq_getElem_cons hil
    rw [h1] at this
    exact (List.cons.inj this).1.symm
  have htk : p.data.toList.take (i + 1) = p.data.toList.take i ++ [c] := by rw [List.take_succ_eq_append_getElem hil, hci]
  have hjl : j ≤ s.data.toList.length := by rw [ba_len]; exact hj
  have c1 : (j : Int) ≤ (s.size : Int) := by omega
  have c2 : 0 ≤ (i : Int) := by omega
  have c3 : (i : Int) < (p.size : Int) := by omega
  have c4 : 0 ≤ (j : Int) := by omega
  have c5 : (j : Int) < (x5.length : Int) := by omega
  have c7 : (j : Int) < (x7.length : Int) := by omega
  have hstep : ∀ b : Bool, (b = true ↔ GM (p.data.toList.take (i + 1)) (s.data.toList.take j)) → (∀ k, missiveref01_Glob.l1 (k + 1) p s x5 i x7 j = missiveref01_Glob.l1 k p s x5 i (x7.set (j : Int).toNat b) (wrap64 ((j : Int) + 1))) →
      ∃ b : Bool, (b = true ↔ GM (p.data.toList.take (i + 1)) (s.data.toList.take j)) ∧ ∀ k, missiveref01_Glob.l1 (k + 1) p s x5 i x7 j = missiveref01_Glob.l1 k p s x5 i (x7.set j b) ((j + 1 : Nat) : Int) := by
    intro b hb h
    refine ⟨b, hb, fun k => ?_⟩
    rw [h k, w64_succ j (by omega), Int.toNat_natCast]
  by_cases hc : c = 42
  · have hc' := (is42 c).2 hc
    subst hc
    by_cases hrd : rdOf false x5 (j : Int) = true
    · refine hstep true ?_ fun k => ?_
      · rw [htk, GM_snoc_star _ _ _ hjl]
        exact ⟨fun _ => .inl ((hr j hj).1 hrd), fun _ => rfl⟩
      · rw [missiveref01_Glob.l1]
        simp only [if_pos c1, if_pos c2, if_pos c3, h3, if_pos hc', if_pos c4, if_pos c5, if_pos hrd, if_pos c7]
    · have hrd' : ¬ GM (p.data.toList.take i) (s.data.toList.take j) := fun h => hrd ((hr j hj).2 h)
      by_cases h0 : 0 < j
      · have e := w64_pred j h0 (by omega)
        refine hstep (rdOf false x7 ((j - 1 : Nat) : Int)) ?_ fun k => ?_
        · rw [hn (j - 1) (by omega), htk, GM_snoc_star _ _ j hjl]
          exact ⟨fun h => .inr ⟨h0, h⟩, fun h => h.elim (fun h => absurd h hrd') (fun h => h.2)⟩
        · rw [missiveref01_Glob.l1]
          have d1 : (j : Int) > 0 := by omega
          have d2 : 0 ≤ ((j - 1 : Nat) : Int) := by omega
          have d3 : ((j - 1 : Nat) : Int) < (x7.length : Int) := by omega
          simp only [if_pos c1, if_pos c2, if_pos c3, h3, if_pos hc', if_pos c4, if_pos c5, if_neg hrd, if_pos c7, if_pos d1, e, if_pos d2, if_pos d3]
      · refine hstep false ?_ fun k => ?_
        · rw [htk, GM_snoc_star _ _ _ hjl]
          exact ⟨fun h => (by cases h), fun h => h.elim (fun h => absurd h hrd') (fun h => absurd h.1 h0)⟩
        · rw [missiveref01_Glob.l1]
          have d1 : ¬ (j : Int) > 0 := by omega
          simp only [if_pos c1, if_pos c2, if_pos c3, h3, if_pos hc', if_pos c4, if_pos c5, if_neg hrd, if_pos c7, if_neg d1]
  · have hc' : ¬ (c.toNat : Int) = 42 := fun h => hc ((is42 c).1 h)
    by_cases h0 : 0 < j
    · have e := w64_pred j h0 (by omega)
      have d1 : (j : Int) > 0 := by omega
      have d2 : 0 ≤ ((j - 1 : Nat) : Int) := by omega
      have d3 : ((j - 1 : Nat) : Int) < (x5.length : Int) := by omega
      have d4 : ((j - 1 : Nat) : Int) < (s.size : Int) := by omega
      have hg : GM (p.data.toList.take (i + 1)) (s.data.toList.take j) ↔ (rdOf false x5 ((j - 1 : Nat) : Int) = true ∧ one c (s.data.toList[j - 1]'(by rw [ba_len]; omega))) := by
        rw [htk, GM_snoc_one _ _ c hc j hjl, hr (j - 1) (by omega)]
        exact ⟨fun ⟨_, h⟩ => h, fun h => ⟨h0, h⟩⟩
      by_cases h63 : c = 63
      · have h63' := (is63 c).2 h63
        refine hstep (rdOf false x5 ((j - 1 : Nat) : Int)) ?_ fun k => ?_
        · rw [hg]
          exact ⟨fun h => ⟨h, .inl h63⟩, fun h => h.1⟩
        · rw [missiveref01_Glob.l1]
          simp only [if_pos c1, if_pos c2, if_pos c3, h3, if_neg hc', if_pos h63', if_pos d1, e, if_pos d2, if_pos d3, if_pos c4, if_pos c7]
      · have h63' : ¬ (c.toNat : Int) = 63 := fun h => h63 ((is63 c).1 h)
        obtain ⟨y, r', g1, g2, g3⟩ := bt_nat s (j - 1) (by omega)
        have hyl : j - 1 < s.data.toList.length := by rw [ba_len]; omega
        have hy : s.data.toList[j - 1] = y := by
          have := List.drop_eq_getElem_cons hyl
          rw [g1] at this
          exact (List.cons.inj this).1.symm
        rw [hy] at hg
        by_cases hrd : rdOf false x5 ((j - 1 : Nat) : Int) = true
        · refine hstep (((lowC y).toNat : Int) == ((lowC c).toNat : Int)) ?_ fun k => ?_
          · rw [hg, beq_iff_eq]
            constructor
            · intro h
              exact ⟨hrd, .inr (UInt8.toNat_inj.1 (by omega))⟩
            · rintro ⟨_, h | h⟩
              · exact absurd h h63
              · rw [h]
          · rw [missiveref01_Glob.l1]
            simp only [if_pos c1, if_pos c2, if_pos c3, h3, if_neg hc', if_neg h63', if_pos d1, e, if_pos d2, if_pos d3, if_pos hrd, if_pos d4, g3, lower_rf, lower_f, Option.bind_some, if_pos c4, if_pos c7]
        · refine hstep false ?_ fun k => ?_
          · rw [hg]
            exact ⟨fun h => (by cases h), fun h => absurd h.1 hrd⟩
          · rw [missiveref01_Glob.l1]
            simp only [if_pos c1, if_pos c2, if_pos c3, h3, if_neg hc', if_neg h63', if_pos d1, e, if_pos d2, if_pos d3, if_neg hrd, if_pos c4, if_pos c7]
    · have d1 : ¬ (j : Int) > 0 := by omega
      refine hstep false ?_ fun k => ?_
      · rw [htk, GM_snoc_one _ _ c hc j hjl]
        exact ⟨fun h => (by cases h), fun ⟨h, _⟩ => absurd h h0⟩
      · rw [missiveref01_Glob.l1]
        by_cases h63 : (c.toNat : Int) = 63
        · simp only [if_pos c1, if_pos c2, if_pos c3, h3, if_neg hc', if_pos h63, if_neg d1, if_pos c4, if_pos c7]
        · simp only [if_pos c1, if_pos c2, if_pos c3, h3, if_neg hc', if_neg h63, if_neg d1, if_pos c4, if_pos c7]

theorem rglob_l1 (p s : ByteArray) (hs : s.size ≤ 1000000) (hp : p.size ≤ 1000000) (i : Nat) (hi : i < p.size) (x5 : List Bool) (h5 : x5.length = s.size + 1)
    (hr : ∀ j, j ≤ s.size → (rdOf false x5 (j : Int) = true ↔ GM (p.data.toList.take i) (s.data.toList.take j))) : ∀ (d j : Nat) (x7 : List Bool), s.size + 1 - j = d → j ≤ s.size + 1 → x7.length = s.size + 1 →
    (∀ j', j' < j → (rdOf false x7 (j' : Int) = true ↔ GM (p.data.toList.take (i + 1)) (s.data.toList.take j'))) →
    ∃ x : List Bool, x.length = s.size + 1 ∧ (∀ j, j ≤ s.size → (rdOf false x (j : Int) = true ↔ GM (p.data.toList.take (i + 1)) (s.data.toList.take j))) ∧
      ∀ k, missiveref01_Glob.l1 (k + d + 1) p s x5 i x7 j = missiveref01_Glob.l0 k p s x ((i + 1 : Nat) : Int) := by
  intro d
  induction d with
  | zero =>
    intro j x7 hd hj h7 hn
    refine ⟨x7, h7, fun j' hj' => hn j' (by omega), fun k => ?_⟩
    rw [missiveref01_Glob.l1, if_neg (by omega), w64_succ i (by omega)]
  | succ d ih =>
    intro j x7 hd hj h7 hn
    obtain ⟨b, hb, hstep⟩ := rglob_step p s hs i hi x5 x7 h5 h7 hr j (by omega) hn
    obtain ⟨x, hx1, hx2, hx3⟩ := ih (j + 1) (x7.set j b) (by omega) (by omega) (by simpa using h7) (fun j' hj' => by
      rw [rd_set _ _ _ _ (by omega)]
      by_cases e : j' = j
      · subst e; rw [if_pos rfl]; exact hb
      · rw [if_neg e]; exact hn j' (by omega))
    refine ⟨x, hx1, hx2, fun k => ?_⟩
    rw [show k + (d + 1) + 1 = (k + d + 1) + 1 by omega, hstep, hx3]

theorem rglob_l0 (p s : ByteArray) (hs : s.size ≤ 1000000) (hp : p.size ≤ 1000000) : ∀ (d i : Nat) (x5 : List Bool), p.size - i = d → i ≤ p.size → x5.length = s.size + 1 →
    (∀ j, j ≤ s.size → (rdOf false x5 (j : Int) = true ↔ GM (p.data.toList.take i) (s.data.toList.take j))) →
    ∃ b : Bool, (b = true ↔ GM p.data.toList s.data.toList) ∧ ∀ k, d * (s.size + 3) + 1 ≤ k → missiveref01_Glob.l0 k p s x5 i = some b := by
  intro d
  induction d with
  | zero =>
    intro i x5 hd hi h5 hr
    obtain rfl : i = p.size := by omega
    refine ⟨rdOf false x5 (s.size : Int), ?_, fun k hk => ?_⟩
    · rw [hr s.size (Nat.le_refl _), ← ba_len p, List.take_length, ← ba_len s, List.take_length]
    · obtain ⟨k, rfl⟩ : ∃ m, k = m + 1 := ⟨k - 1, by omega⟩
      rw [missiveref01_Glob.l0, if_neg (by omega), if_pos (by omega), if_pos (by omega)]
  | succ d ih =>
    intro i x5 hd hi h5 hr
    have ew : wrap64 ((s.size : Int) + 1) = ((s.size + 1 : Nat) : Int) := w64_succ s.size (by omega)
    obtain ⟨x, hx1, hx2, hx3⟩ := rglob_l1 p s hs hp i (by omega) x5 h5 hr (s.size + 1) 0 (List.replicate (s.size + 1) false) (by omega) (by omega) (by simp) (fun j' hj' => by omega)
    obtain ⟨b, hb, hf⟩ := ih (i + 1) x (by omega) (by omega) hx1 hx2
    refine ⟨b, hb, fun k hk => ?_⟩
    have hmul : (d + 1) * (s.size + 3) = d * (s.size + 3) + (s.size + 3) := by rw [Nat.add_mul, Nat.one_mul]
    obtain ⟨k, rfl⟩ : ∃ m, k = m + (s.size + 1) + 1 + 1 := ⟨k - (s.size + 3), by omega⟩
    rw [missiveref01_Glob.l0, if_pos (by omega), ew, if_pos (by omega), if_pos (by omega), Int.toNat_natCast]
    have := hx3 k
    rw [show ((0 : Nat) : Int) = (0 : Int) from rfl] at this
    rw [this]
    exact hf k (by omega)

theorem rglob_ev (p s : ByteArray) (hs : s.size ≤ 1000000) (hp : p.size ≤ 1000000) : ∃ b : Bool, (b = true ↔ GM p.data.toList s.data.toList) ∧ ∀ k, p.size * (s.size + 3) + 1 ≤ k → missiveref01_Glob.f k p s = some b := by
  have ew : wrap64 ((s.size : Int) + 1) = ((s.size + 1 : Nat) : Int) := w64_succ s.size (by omega)
  obtain ⟨b, hb, hf⟩ := rglob_l0 p s hs hp p.size 0 ((List.replicate (s.size + 1) false).set 0 true) (by omega) (by omega) (by simp) (fun j hj => by
    rw [rd_set _ _ _ _ (by simp), List.take_zero, GM_nil]
    by_cases e : j = 0
    · subst e; simp
    · rw [if_neg e]
      have h1 : rdOf false (List.replicate (s.size + 1) false) (j : Int) = false := by
        simp only [rdOf, Int.toNat_natCast, List.getD_eq_getElem?_getD, List.getElem?_replicate]
        rw [if_pos (by omega)]
        rfl
      rw [h1]
      constructor
      · intro h; cases h
      · intro h
        have := congrArg List.length h
        rw [List.length_take, ba_len] at this
        simp only [List.length_nil] at this
        omega)
  refine ⟨b, hb, fun k hk => ?_⟩
  unfold missiveref01_Glob.f
  rw [ew, if_pos (by omega), if_pos (by omega), Option.bind_some, Int.toNat_natCast, if_pos (by simp)]
  exact hf k hk

/-! ### the program: the last star, and where what it stands for ends -/
def GInv (P S : List UInt8) (pp i mark : Nat) (star : Int) : Prop :=
  pp ≤ P.length ∧ i ≤ S.length ∧ ((star = -1 ∧ mark = 0 ∧ (GM P S ↔ GM (P.drop pp) (S.drop i))) ∨
    (∃ st : Nat, star = (st : Int) ∧ st < pp ∧ mark ≤ i ∧ i - mark = pp - (st + 1) ∧ (∀ c ∈ (P.drop (st + 1)).take (pp - (st + 1)), c ≠ 42) ∧
      (GM P S ↔ GM (42 :: P.drop (st + 1)) (S.drop mark)) ∧ (GM (P.drop (st + 1)) (S.drop mark) ↔ GM (P.drop pp) (S.drop i))))

theorem seg_split (P : List UInt8) (st pp : Nat) (h : st < pp) : P.drop (st + 1) = (P.drop (st + 1)).take (pp - (st + 1)) ++ P.drop pp := by
  conv => lhs; rw [← List.take_append_drop (pp - (st + 1)) (P.drop (st + 1))]
  rw [List.drop_drop, show st + 1 + (pp - (st + 1)) = pp by omega]
theorem seg_len (P : List UInt8) (st pp : Nat) (h : st < pp) (hp : pp ≤ P.length) : ((P.drop (st + 1)).take (pp - (st + 1))).length = pp - (st + 1) := by
  rw [List.length_take, List.length_drop]; omega
theorem GInv.from_star {P S : List UInt8} {pp i mark st : Nat} (hp : pp ≤ P.length) (hi : i ≤ S.length) (h1 : st < pp) (h2 : mark ≤ i) (h3 : i - mark = pp - (st + 1)) (h4 : ∀ c ∈ (P.drop (st + 1)).take (pp - (st + 1)), c ≠ 42)
    (h : GM (42 :: P.drop (st + 1)) (S.drop mark)) : ∃ n, i + n ≤ S.length ∧ GM (P.drop pp) (S.drop (i + n)) := by
  obtain ⟨n, hn, hg⟩ := (GM_star _ _).1 h
  rw [seg_split P st pp h1] at hg
  obtain ⟨h5, h6⟩ := GM_seg _ _ h4 _ hg
  rw [seg_len P st pp h1 hp, List.drop_drop] at h5
  rw [seg_len P st pp h1 hp, List.drop_drop, List.drop_drop, show mark + (n + (pp - (st + 1))) = i + n by omega] at h6
  rw [List.length_drop] at h5 hn
  exact ⟨n, by omega, h6⟩

theorem GInv.star_ {P S : List UInt8} {pp i mark : Nat} {star : Int} (h : GInv P S pp i mark star) (Q : List UInt8) (hQ : P.drop pp = 42 :: Q) : GInv P S (pp + 1) i i (pp : Int) := by
  obtain ⟨hp, hi, h⟩ := h
  have hpl : pp < P.length := by
    have := congrArg List.length hQ
    rw [List.length_drop, List.length_cons] at this
    omega
  have hQ2 : P.drop (pp + 1) = Q := by rw [← List.drop_drop, hQ]; rfl
  refine ⟨hpl, hi, .inr ⟨pp, rfl, by omega, Nat.le_refl _, by omega, by simp, ?_, Iff.rfl⟩⟩
  rw [hQ2, ← hQ]
  rcases h with ⟨_, _, h⟩ | ⟨st, rfl, h1, h2, h3, h4, h5, h6⟩
  · exact h
  · rw [h5]
    constructor
    · intro hg
      obtain ⟨n, hn, hg⟩ := GInv.from_star hp hi h1 h2 h3 h4 hg
      rw [← List.drop_drop] at hg
      rw [hQ] at hg ⊢
      exact GM_star_drop _ _ n hg
    · intro hg
      exact (GM_star _ _).2 ⟨0, Nat.zero_le _, h6.2 hg⟩

theorem GInv.one_ {P S : List UInt8} {pp i mark : Nat} {star : Int} (h : GInv P S pp i mark star) (c x : UInt8) (Q T : List UInt8) (hQ : P.drop pp = c :: Q) (hT : S.drop i = x :: T) (hc : c ≠ 42) (h1x : one c x) : GInv P S (pp + 1) (i + 1) mark star := by
  obtain ⟨hp, hi, h⟩ := h
  have hpl : pp < P.length := by
    have := congrArg List.length hQ
    rw [List.length_drop, List.length_cons] at this
    omega
  have hil : i < S.length := by
    have := congrArg List.length hT
    rw [List.length_drop, List.length_cons] at this
    omega
  have hQ2 : P.drop (pp + 1) = Q := by rw [← List.drop_drop, hQ]; rfl
  have hT2 : S.drop (i + 1) = T := by rw [← List.drop_drop, hT]; rfl
  have key : GM (P.drop pp) (S.drop i) ↔ GM (P.drop (pp + 1)) (S.drop (i + 1)) := by
    rw [hQ, hT, GM_one_cons c x Q T hc, hQ2, hT2]
    exact ⟨fun h => h.2, fun h => ⟨h1x, h⟩⟩
  refine ⟨hpl, hil, ?_⟩
  rcases h with ⟨e, e2, h⟩ | ⟨st, e, h1, h2, h3, h4, h5, h6⟩
  · exact .inl ⟨e, e2, h.trans key⟩
  · refine .inr ⟨st, e, by omega, by omega, by omega, ?_, h5, h6.trans key⟩
    intro d hd
    rw [show pp + 1 - (st + 1) = (pp - (st + 1)) + 1 by omega] at hd
    have hlt : pp - (st + 1) < (P.drop (st + 1)).length := by rw [List.length_drop]; omega
    rw [List.take_succ_eq_append_getElem hlt, List.mem_append] at hd
    rcases hd with hd | hd
    · exact h4 d hd
    · rw [List.mem_singleton] at hd
      subst hd
      have : (P.drop (st + 1))[pp - (st + 1)]? = some c := by
        rw [List.getElem?_drop, show st + 1 + (pp - (st + 1)) = pp by omega]
        have := congrArg (fun l : List UInt8 => l[0]?) hQ
        simpa using this
      rw [List.getElem?_eq_getElem hlt] at this
      rw [Option.some.inj this]
      exact hc

theorem GInv.back {P S : List UInt8} {pp i mark st : Nat} (h : GInv P S pp i mark (st : Int)) (hi : i < S.length) (hno : ¬ GM (P.drop pp) (S.drop i)) : GInv P S (st + 1) (mark + 1) (mark + 1) (st : Int) ∧ st < pp ∧ mark ≤ i := by
  obtain ⟨hp, _, h⟩ := h
  rcases h with ⟨e, _⟩ | ⟨st', e, h1, h2, h3, h4, h5, h6⟩
  · omega
  · obtain rfl : st = st' := by omega
    refine ⟨⟨by omega, by omega, .inr ⟨st, rfl, by omega, Nat.le_refl _, by omega, by simp, ?_, Iff.rfl⟩⟩, h1, h2⟩
    rw [h5, List.drop_eq_getElem_cons (show mark < S.length by omega), GM_star_cons, ← List.drop_eq_getElem_cons (show mark < S.length by omega), h6]
    exact ⟨fun h => h.elim (fun h => absurd h hno) id, fun h => .inr h⟩

theorem GInv.end_ {P S : List UInt8} {pp mark : Nat} {star : Int} (h : GInv P S pp S.length mark star) : GM P S ↔ GM (P.drop pp) [] := by
  obtain ⟨hp, _, h⟩ := h
  rcases h with ⟨_, _, h⟩ | ⟨st, rfl, h1, h2, h3, h4, h5, h6⟩
  · rw [h, List.drop_length]
  · rw [List.drop_length] at h6
    rw [h5]
    constructor
    · intro hg
      obtain ⟨n, hn, hg⟩ := GInv.from_star hp (Nat.le_refl _) h1 h2 h3 h4 hg
      have e : S.drop (S.length + n) = [] := List.drop_eq_nil_of_le (by omega)
      rw [e] at hg
      exact hg
    · intro hg
      exact (GM_star _ _).2 ⟨0, Nat.zero_le _, h6.2 hg⟩

theorem tglob_l1 (p : ByteArray) (hp : p.size ≤ 1000000) : ∀ (d pp : Nat), p.size - pp = d → pp ≤ p.size → ∃ b : Bool, (b = true ↔ GM (p.data.toList.drop pp) []) ∧ ∀ k, d + 1 ≤ k → text_Glob.l1 k p pp = some b := by
  intro d
  induction d with
  | zero =>
    intro pp hd hpp
    obtain rfl : pp = p.size := by omega
    refine ⟨true, ?_, fun k hk => ?_⟩
    · rw [← ba_len, List.drop_length]
      exact ⟨fun _ => rfl, fun _ => rfl⟩
    · obtain ⟨k, rfl⟩ : ∃ m, k = m + 1 := ⟨k - 1, by omega⟩
      rw [text_Glob.l1, if_neg (by omega)]
      simp
  | succ d ih =>
    intro pp hd hpp
    obtain ⟨c, r, h1, h2, h3⟩ := bt_nat p pp (by omega)
    by_cases hc : c = 42
    · obtain ⟨b, hb, hf⟩ := ih (pp + 1) (by omega) (by omega)
      refine ⟨b, ?_, fun k hk => ?_⟩
      · rw [hb, h1, h2, hc, GM_star]
        constructor
        · intro h; exact ⟨0, Nat.zero_le _, h⟩
        · rintro ⟨n, hn, h⟩
          rw [List.drop_nil] at h
          exact h
      · obtain ⟨k, rfl⟩ : ∃ m, k = m + 1 := ⟨k - 1, by omega⟩
        rw [text_Glob.l1, if_pos (by omega), if_pos (by omega), h3, if_pos ((is42 c).2 hc), w64_succ pp (by omega)]
        exact hf k (by omega)
    · refine ⟨false, ?_, fun k hk => ?_⟩
      · rw [h1]
        exact ⟨fun h => (by cases h), fun h => absurd h (GM_one_nil c r hc)⟩
      · obtain ⟨k, rfl⟩ : ∃ m, k = m + 1 := ⟨k - 1, by omega⟩
        rw [text_Glob.l1, if_pos (by omega), if_pos (by omega), h3, if_neg (fun h => hc ((is42 c).1 h))]
        congr 1
        rw [beq_eq_false_iff_ne]
        omega

theorem mu_lt {a b c W : Nat} (h : a < b) (hc : c < W) : a * W + c < b * W := by
  have : (a + 1) * W ≤ b * W := Nat.mul_le_mul_right _ h
  rw [Nat.add_mul, Nat.one_mul] at this
  omega

theorem tglob_l0 (p s : ByteArray) (hs : s.size ≤ 1000000) (hp : p.size ≤ 1000000) : ∀ (μ pp i mark : Nat) (star : Int), (s.size - mark) * (p.size + 2) + (p.size - pp) = μ → GInv p.data.toList s.data.toList pp i mark star →
    ∃ b : Bool, (b = true ↔ GM p.data.toList s.data.toList) ∧ ∀ k, 3 * μ + p.size + 5 ≤ k → text_Glob.l0 k p s pp i star mark = some b := by
  intro μ
  induction μ using Nat.strongRecOn with
  | _ μ ih =>
    intro pp i mark star hμ hI
    have hpp : pp ≤ p.size := by have := hI.1; rwa [ba_len] at this
    have hii : i ≤ s.size := by have := hI.2.1; rwa [ba_len] at this
    by_cases hi : i < s.size
    · obtain ⟨x, T, t1, t2, t3⟩ := bt_nat s i hi
      have back : ¬ GM (p.data.toList.drop pp) (s.data.toList.drop i) → ∃ b : Bool, (b = true ↔ GM p.data.toList s.data.toList) ∧ ∀ k, 3 * μ + p.size + 3 ≤ k → text_Glob.j2 k p s pp i star mark false = some b := by
        intro hno
        by_cases hst : star ≥ 0
        · obtain ⟨st, rfl⟩ : ∃ st : Nat, star = (st : Int) := ⟨star.toNat, by omega⟩
          obtain ⟨hI2, hsp, hmi⟩ := hI.back (by rw [ba_len]; exact hi) hno
          have hlt : (s.size - (mark + 1)) * (p.size + 2) + (p.size - (st + 1)) < μ := by
            have := mu_lt (a := s.size - (mark + 1)) (b := s.size - mark) (c := p.size - (st + 1)) (W := p.size + 2) (by omega) (by omega)
            omega
          obtain ⟨b, hb, hf⟩ := ih _ hlt (st + 1) (mark + 1) (mark + 1) (st : Int) rfl hI2
          refine ⟨b, hb, fun k hk => ?_⟩
          obtain ⟨k, rfl⟩ : ∃ m, k = m + 1 := ⟨k - 1, by omega⟩
          rw [text_Glob.j2, if_neg (by simp), if_pos hst, w64_succ st (by omega), w64_succ mark (by omega)]
          exact hf k (by omega)
        · refine ⟨false, ?_, fun k hk => ?_⟩
          · obtain ⟨_, _, h⟩ := hI
            rcases h with ⟨_, _, h⟩ | ⟨st, e, _⟩
            · rw [h]
              exact ⟨fun h => (by cases h), fun h => absurd h hno⟩
            · omega
          · obtain ⟨k, rfl⟩ : ∃ m, k = m + 1 := ⟨k - 1, by omega⟩
            rw [text_Glob.j2, if_neg (by simp), if_neg hst]
      by_cases hp2 : pp < p.size
      · obtain ⟨c, Q, q1, q2, q3⟩ := bt_nat p pp hp2
        by_cases hc : c = 42
        · have hmi : mark ≤ i := by
            obtain ⟨_, _, h⟩ := hI
            rcases h with ⟨_, e, _⟩ | ⟨st, _, _, h, _⟩
            · omega
            · exact h
          subst hc
          have hI2 := hI.star_ Q q1
          have hlt : (s.size - i) * (p.size + 2) + (p.size - (pp + 1)) < μ := by
            have : (s.size - i) * (p.size + 2) ≤ (s.size - mark) * (p.size + 2) := Nat.mul_le_mul_right _ (by omega)
            omega
          obtain ⟨b, hb, hf⟩ := ih _ hlt (pp + 1) i i (pp : Int) rfl hI2
          refine ⟨b, hb, fun k hk => ?_⟩
          obtain ⟨k, rfl⟩ : ∃ m, k = m + 1 + 1 := ⟨k - 2, by omega⟩
          rw [text_Glob.l0, if_pos (by omega), if_pos (by omega), if_pos (by omega), q3, text_Glob.j1, if_pos (by decide), w64_succ pp (by omega)]
          exact hf k (by omega)
        · have hc42 : (((c.toNat : Int) == 42) = false) := by rw [beq_eq_false_iff_ne]; exact fun h => hc ((is42 c).1 h)
          have hj1 : ∀ k, text_Glob.l0 (k + 1 + 1) p s pp i star mark = if (c.toNat : Int) = 63 then text_Glob.j2 k p s pp i star mark true else text_Glob.j2 k p s pp i star mark (((lowC c).toNat : Int) == ((lowC x).toNat : Int)) := by
            intro k
            rw [text_Glob.l0, if_pos (by omega), if_pos (by omega), if_pos (by omega), q3, hc42, text_Glob.j1, if_neg (by simp), if_pos (by omega), if_pos (by omega), q3]
            by_cases h63 : (c.toNat : Int) = 63
            · rw [if_pos h63, if_pos h63]
            · rw [if_neg h63, if_neg h63, lower_f, Option.bind_some, if_pos (by omega), if_pos (by omega), t3, lower_f, Option.bind_some]
          by_cases ho : one c x
          · have hI2 := hI.one_ c x Q T q1 t1 hc ho
            obtain ⟨b, hb, hf⟩ := ih ((s.size - mark) * (p.size + 2) + (p.size - (pp + 1))) (by omega) (pp + 1) (i + 1) mark star rfl hI2
            refine ⟨b, hb, fun k hk => ?_⟩
            obtain ⟨k, rfl⟩ : ∃ m, k = m + 1 + 1 + 1 := ⟨k - 3, by omega⟩
            have hj2 : text_Glob.j2 (k + 1) p s pp i star mark true = some b := by
              rw [text_Glob.j2, if_pos rfl, w64_succ pp (by omega), w64_succ i (by omega)]
              exact hf k (by omega)
            rw [hj1]
            by_cases h63 : (c.toNat : Int) = 63
            · rw [if_pos h63, hj2]
            · have he : (((lowC c).toNat : Int) == ((lowC x).toNat : Int)) = true := by
                rcases ho with h | h
                · exact absurd ((is63 c).2 h) h63
                · rw [h]; simp
              rw [if_neg h63, he, hj2]
          · have h63 : ¬ (c.toNat : Int) = 63 := fun h => ho (.inl ((is63 c).1 h))
            have he : (((lowC c).toNat : Int) == ((lowC x).toNat : Int)) = false := by
              rw [beq_eq_false_iff_ne]
              intro h
              exact ho (.inr (UInt8.toNat_inj.1 (by omega)))
            obtain ⟨b, hb, hf⟩ := back (by rw [q1, t1, GM_one_cons c x Q T hc]; exact fun h => ho h.1)
            refine ⟨b, hb, fun k hk => ?_⟩
            obtain ⟨k, rfl⟩ : ∃ m, k = m + 1 + 1 := ⟨k - 2, by omega⟩
            rw [hj1, if_neg h63, he]
            exact hf k (by omega)
      · obtain ⟨b, hb, hf⟩ := back (by
          rw [List.drop_eq_nil_of_le (by rw [ba_len]; omega), t1, GM_nil]
          intro h
          cases h)
        refine ⟨b, hb, fun k hk => ?_⟩
        obtain ⟨k, rfl⟩ : ∃ m, k = m + 1 + 1 := ⟨k - 2, by omega⟩
        rw [text_Glob.l0, if_pos (by omega), if_neg (by omega), text_Glob.j1, if_neg (by simp), if_neg (by omega)]
        exact hf k (by omega)
    · obtain rfl : i = s.size := by omega
      obtain ⟨b, hb, hf⟩ := tglob_l1 p hp (p.size - pp) pp rfl hpp
      refine ⟨b, ?_, fun k hk => ?_⟩
      · rw [hb]
        have := GInv.end_ (P := p.data.toList) (S := s.data.toList) (pp := pp) (mark := mark) (star := star) (by rw [ba_len]; exact hI)
        exact this.symm
      · obtain ⟨k, rfl⟩ : ∃ m, k = m + 1 := ⟨k - 1, by omega⟩
        rw [text_Glob.l0, if_neg (by omega)]
        exact hf k (by omega)

theorem glob_ev (p s : ByteArray) (hs : s.size ≤ 1000000) (hp : p.size ≤ 1000000) : ∃ (K : Nat) (b : Bool), ∀ k, K ≤ k → text_Glob.f k p s = some b ∧ missiveref01_Glob.f k p s = some b := by
  obtain ⟨b, hb, hf⟩ := rglob_ev p s hs hp
  obtain ⟨b', hb', hf'⟩ := tglob_l0 p s hs hp _ 0 0 0 (-1) rfl ⟨Nat.zero_le _, Nat.zero_le _, .inl ⟨rfl, rfl, Iff.rfl⟩⟩
  obtain rfl : b = b' := by rw [Bool.eq_iff_iff, hb, hb']
  refine ⟨(p.size * (s.size + 3) + 1) + (3 * ((s.size - 0) * (p.size + 2) + (p.size - 0)) + p.size + 5), b, fun k hk => ⟨?_, hf k (by omega)⟩⟩
  unfold text_Glob.f
  exact hf' k (by omega)

end Go.Proofs.YtadnefnofbnheaaDoor.Pr

-- Out of the translation, by this claim's own program over the kit's print.
namespace Go.Proofs.YtadnefnofbnheaaDoor.Pr
open Go.RowKit Go.Proofs.YtadnefnofbnheaaDoorW.PrintWords Go.Proofs.YtadnefnofbnheaaDoorW.PrintLast Go.Proofs.YtadnefnofbnheaaDoorW.PrintMore
attribute [local go_sem] max2_int min2_int max_two min_two max_three min_three max_four min_four   -- for this text's walks alone
set_option linter.unusedVariables false
set_option linter.unusedSimpArgs false

/-! ### missivelaw01_TextTells: function 9 -/
mutual
def missivelaw01_TextTells.j0 : Nat → ByteArray → ByteArray → List ByteArray → Int → Bool → Bool → Option (Bool)
  | 0, _, _, _, _, _, _ => none
  | k + 1, x0, x1, x2, x3, x9, x27 => if x27 = true then (some x9) else ((text_Number.f k x1).bind fun bt342 => ((missiveref01_Number.f k x1).bind fun bt344 => (if bt342.1 = bt344.1 then (if (bt342.2 != bt344.2) = true then (missivelaw01_TextTells.j1 k x0 x1 x2 x3 x9 true) else ((text_Lower.f x0).bind fun t346 => ((missiveref01_Lower.f x0).bind fun t347 => (if t346.toList = t347.toList then ((text_Upper.f x0).bind fun t348 => ((missiveref01_Upper.f x0).bind fun t349 => (if t348.toList = t349.toList then ((text_Same.f k x0 x1).bind fun t350 => ((missiveref01_Same.f x0 x1).bind fun t351 => (missivelaw01_TextTells.j1 k x0 x1 x2 x3 x9 (t350 != t351)))) else (missivelaw01_TextTells.j1 k x0 x1 x2 x3 x9 true)))) else (missivelaw01_TextTells.j1 k x0 x1 x2 x3 x9 true))))) else (missivelaw01_TextTells.j1 k x0 x1 x2 x3 x9 true))))
def missivelaw01_TextTells.j1 : Nat → ByteArray → ByteArray → List ByteArray → Int → Bool → Bool → Option (Bool)
  | 0, _, _, _, _, _, _ => none
  | k + 1, x0, x1, x2, x3, x9, x69 => if x69 = true then (some false) else ((text_Trim.f k x0).bind fun t352 => ((missiveref01_Trim.f k x0).bind fun t353 => (if t352.toList = t353.toList then ((text_Squeeze.f x0).bind fun t354 => ((missiveref01_Squeeze.f k x0).bind fun t355 => (if t354.toList = t355.toList then ((text_Unlines.f x2).bind fun t356 => ((missiveref01_Unlines.f k x2).bind fun t357 => (if t356.toList = t357.toList then ((text_Decimal.f x3).bind fun t358 => ((missiveref01_Decimal.f k x3).bind fun t359 => (missivelaw01_TextTells.j2 k x0 x1 x9 (t358.toList != t359.toList)))) else (missivelaw01_TextTells.j2 k x0 x1 x9 true)))) else (missivelaw01_TextTells.j2 k x0 x1 x9 true)))) else (missivelaw01_TextTells.j2 k x0 x1 x9 true))))
def missivelaw01_TextTells.j2 : Nat → ByteArray → ByteArray → Bool → Bool → Option (Bool)
  | 0, _, _, _, _ => none
  | k + 1, x0, x1, x9, x95 => if x95 = true then (some false) else (if x9 = true then ((text_Fields.f x0).bind fun t360 => ((missiveref01_Fields.f k x0).bind fun t363 => ((missiveref01_Strings.f k t360 t363).bind fun t366 => (if t366 = true then ((text_Lines.f k x0).bind fun t367 => ((missiveref01_Lines.f k x0).bind fun t370 => ((missiveref01_Strings.f k t367 t370).bind fun t373 => (if t373 = true then ((text_Glob.f k x1 x0).bind fun t374 => ((missiveref01_Glob.f k x1 x0).bind fun t375 => (some (t374 == t375)))) else (some false))))) else (some false))))) else (some false))
end
def missivelaw01_TextTells.f (k : Nat) (a0 : ByteArray) (a1 : ByteArray) (l2 : List ByteArray) (a3 : Int) : Option (Bool) := (missivelaw01_small.f k).bind fun t341 => (if (a0.size : Int) > 300 then (missivelaw01_TextTells.j0 k a0 a1 l2 a3 t341 true) else (if (a1.size : Int) > 300 then (missivelaw01_TextTells.j0 k a0 a1 l2 a3 t341 true) else (missivelaw01_TextTells.j0 k a0 a1 l2 a3 t341 (decide ((l2.length : Int) > 40)))))
theorem missivelaw01_TextTells.mono_l : ∀ k, (∀ y0 y1 y2 y3 y4 y5, LeO (missivelaw01_TextTells.j0 k y0 y1 y2 y3 y4 y5) (missivelaw01_TextTells.j0 (k + 1) y0 y1 y2 y3 y4 y5)) ∧ (∀ y0 y1 y2 y3 y4 y5, LeO (missivelaw01_TextTells.j1 k y0 y1 y2 y3 y4 y5) (missivelaw01_TextTells.j1 (k + 1) y0 y1 y2 y3 y4 y5)) ∧ (∀ y0 y1 y2 y3, LeO (missivelaw01_TextTells.j2 k y0 y1 y2 y3) (missivelaw01_TextTells.j2 (k + 1) y0 y1 y2 y3))
  | 0 => ⟨fun _ _ _ _ _ _ r h => by simp [missivelaw01_TextTells.j0] at h, fun _ _ _ _ _ _ r h => by simp [missivelaw01_TextTells.j1] at h, fun _ _ _ _ r h => by simp [missivelaw01_TextTells.j2] at h⟩
  | k + 1 => by
    obtain ⟨ih0, ih1, ih2⟩ := missivelaw01_TextTells.mono_l k
    refine ⟨?_, ?_, ?_⟩
    · intro y0 y1 y2 y3 y4 y5
      unfold missivelaw01_TextTells.j0
      repeat' first
      | (with_reducible exact ih0 _ _ _ _ _ _)
      | (with_reducible exact ih1 _ _ _ _ _ _)
      | (with_reducible exact ih2 _ _ _ _)
      | (with_reducible exact missivelaw01_small.mono _)
      | (with_reducible exact missiveref01_Decimal.mono _ _)
      | (with_reducible exact missiveref01_Fields.mono _ _)
      | (with_reducible exact missiveref01_Glob.mono _ _ _)
      | (with_reducible exact missiveref01_Lines.mono _ _)
      | (with_reducible exact missiveref01_Number.mono _ _)
      | (with_reducible exact missiveref01_Squeeze.mono _ _)
      | (with_reducible exact missiveref01_Strings.mono _ _ _)
      | (with_reducible exact missiveref01_Trim.mono _ _)
      | (with_reducible exact missiveref01_Unlines.mono _ _)
      | (with_reducible exact text_Glob.mono _ _ _)
      | (with_reducible exact text_Lines.mono _ _)
      | (with_reducible exact text_Number.mono _ _)
      | (with_reducible exact text_Same.mono _ _ _)
      | (with_reducible exact text_Trim.mono _ _)
      | (with_reducible exact LeO.refl _)
      | (with_reducible exact LeO.none _)
      | (with_reducible refine LeO.ite ?_ ?_)
      | (with_reducible refine LeO.bind ?_ (fun _ => ?_))
      | exact ih0 _ _ _ _ _ _
      | exact ih1 _ _ _ _ _ _
      | exact ih2 _ _ _ _
      | exact missivelaw01_small.mono _
      | exact missiveref01_Decimal.mono _ _
      | exact missiveref01_Fields.mono _ _
      | exact missiveref01_Glob.mono _ _ _
      | exact missiveref01_Lines.mono _ _
      | exact missiveref01_Number.mono _ _
      | exact missiveref01_Squeeze.mono _ _
      | exact missiveref01_Strings.mono _ _ _
      | exact missiveref01_Trim.mono _ _
      | exact missiveref01_Unlines.mono _ _
      | exact text_Glob.mono _ _ _
      | exact text_Lines.mono _ _
      | exact text_Number.mono _ _
      | exact text_Same.mono _ _ _
      | exact text_Trim.mono _ _
      | exact LeO.none _
      | refine LeO.ite ?_ ?_
      | refine LeO.bind ?_ (fun _ => ?_)
    · intro y0 y1 y2 y3 y4 y5
      unfold missivelaw01_TextTells.j1
      repeat' first
      | (with_reducible exact ih0 _ _ _ _ _ _)
      | (with_reducible exact ih1 _ _ _ _ _ _)
      | (with_reducible exact ih2 _ _ _ _)
      | (with_reducible exact missivelaw01_small.mono _)
      | (with_reducible exact missiveref01_Decimal.mono _ _)
      | (with_reducible exact missiveref01_Fields.mono _ _)
      | (with_reducible exact missiveref01_Glob.mono _ _ _)
      | (with_reducible exact missiveref01_Lines.mono _ _)
      | (with_reducible exact missiveref01_Number.mono _ _)
      | (with_reducible exact missiveref01_Squeeze.mono _ _)
      | (with_reducible exact missiveref01_Strings.mono _ _ _)
      | (with_reducible exact missiveref01_Trim.mono _ _)
      | (with_reducible exact missiveref01_Unlines.mono _ _)
      | (with_reducible exact text_Glob.mono _ _ _)
      | (with_reducible exact text_Lines.mono _ _)
      | (with_reducible exact text_Number.mono _ _)
      | (with_reducible exact text_Same.mono _ _ _)
      | (with_reducible exact text_Trim.mono _ _)
      | (with_reducible exact LeO.refl _)
      | (with_reducible exact LeO.none _)
      | (with_reducible refine LeO.ite ?_ ?_)
      | (with_reducible refine LeO.bind ?_ (fun _ => ?_))
      | exact ih0 _ _ _ _ _ _
      | exact ih1 _ _ _ _ _ _
      | exact ih2 _ _ _ _
      | exact missivelaw01_small.mono _
      | exact missiveref01_Decimal.mono _ _
      | exact missiveref01_Fields.mono _ _
      | exact missiveref01_Glob.mono _ _ _
      | exact missiveref01_Lines.mono _ _
      | exact missiveref01_Number.mono _ _
      | exact missiveref01_Squeeze.mono _ _
      | exact missiveref01_Strings.mono _ _ _
      | exact missiveref01_Trim.mono _ _
      | exact missiveref01_Unlines.mono _ _
      | exact text_Glob.mono _ _ _
      | exact text_Lines.mono _ _
      | exact text_Number.mono _ _
      | exact text_Same.mono _ _ _
      | exact text_Trim.mono _ _
      | exact LeO.none _
      | refine LeO.ite ?_ ?_
      | refine LeO.bind ?_ (fun _ => ?_)
    · intro y0 y1 y2 y3
      unfold missivelaw01_TextTells.j2
      repeat' first
      | (with_reducible exact ih0 _ _ _ _ _ _)
      | (with_reducible exact ih1 _ _ _ _ _ _)
      | (with_reducible exact ih2 _ _ _ _)
      | (with_reducible exact missivelaw01_small.mono _)
      | (with_reducible exact missiveref01_Decimal.mono _ _)
      | (with_reducible exact missiveref01_Fields.mono _ _)
      | (with_reducible exact missiveref01_Glob.mono _ _ _)
      | (with_reducible exact missiveref01_Lines.mono _ _)
      | (with_reducible exact missiveref01_Number.mono _ _)
      | (with_reducible exact missiveref01_Squeeze.mono _ _)
      | (with_reducible exact missiveref01_Strings.mono _ _ _)
      | (with_reducible exact missiveref01_Trim.mono _ _)
      | (with_reducible exact missiveref01_Unlines.mono _ _)
      | (with_reducible exact text_Glob.mono _ _ _)
      | (with_reducible exact text_Lines.mono _ _)
      | (with_reducible exact text_Number.mono _ _)
      | (with_reducible exact text_Same.mono _ _ _)
      | (with_reducible exact text_Trim.mono _ _)
      | (with_reducible exact LeO.refl _)
      | (with_reducible exact LeO.none _)
      | (with_reducible refine LeO.ite ?_ ?_)
      | (with_reducible refine LeO.bind ?_ (fun _ => ?_))
      | exact ih0 _ _ _ _ _ _
      | exact ih1 _ _ _ _ _ _
      | exact ih2 _ _ _ _
      | exact missivelaw01_small.mono _
      | exact missiveref01_Decimal.mono _ _
      | exact missiveref01_Fields.mono _ _
      | exact missiveref01_Glob.mono _ _ _
      | exact missiveref01_Lines.mono _ _
      | exact missiveref01_Number.mono _ _
      | exact missiveref01_Squeeze.mono _ _
      | exact missiveref01_Strings.mono _ _ _
      | exact missiveref01_Trim.mono _ _
      | exact missiveref01_Unlines.mono _ _
      | exact text_Glob.mono _ _ _
      | exact text_Lines.mono _ _
      | exact text_Number.mono _ _
      | exact text_Same.mono _ _ _
      | exact text_Trim.mono _ _
      | exact LeO.none _
      | refine LeO.ite ?_ ?_
      | refine LeO.bind ?_ (fun _ => ?_)
theorem missivelaw01_TextTells.mono : ∀ a0 a1 a2 a3 k, LeO (missivelaw01_TextTells.f k a0 a1 a2 a3) (missivelaw01_TextTells.f (k + 1) a0 a1 a2 a3) := by
  intro a0 a1 a2 a3 k
  obtain ⟨ih0, ih1, ih2⟩ := missivelaw01_TextTells.mono_l k
  unfold missivelaw01_TextTells.f
  repeat' first
      | (with_reducible exact ih0 _ _ _ _ _ _)
      | (with_reducible exact ih1 _ _ _ _ _ _)
      | (with_reducible exact ih2 _ _ _ _)
      | (with_reducible exact missivelaw01_small.mono _)
      | (with_reducible exact missiveref01_Decimal.mono _ _)
      | (with_reducible exact missiveref01_Fields.mono _ _)
      | (with_reducible exact missiveref01_Glob.mono _ _ _)
      | (with_reducible exact missiveref01_Lines.mono _ _)
      | (with_reducible exact missiveref01_Number.mono _ _)
      | (with_reducible exact missiveref01_Squeeze.mono _ _)
      | (with_reducible exact missiveref01_Strings.mono _ _ _)
      | (with_reducible exact missiveref01_Trim.mono _ _)
      | (with_reducible exact missiveref01_Unlines.mono _ _)
      | (with_reducible exact text_Glob.mono _ _ _)
      | (with_reducible exact text_Lines.mono _ _)
      | (with_reducible exact text_Number.mono _ _)
      | (with_reducible exact text_Same.mono _ _ _)
      | (with_reducible exact text_Trim.mono _ _)
      | (with_reducible exact LeO.refl _)
      | (with_reducible exact LeO.none _)
      | (with_reducible refine LeO.ite ?_ ?_)
      | (with_reducible refine LeO.bind ?_ (fun _ => ?_))
      | exact ih0 _ _ _ _ _ _
      | exact ih1 _ _ _ _ _ _
      | exact ih2 _ _ _ _
      | exact missivelaw01_small.mono _
      | exact missiveref01_Decimal.mono _ _
      | exact missiveref01_Fields.mono _ _
      | exact missiveref01_Glob.mono _ _ _
      | exact missiveref01_Lines.mono _ _
      | exact missiveref01_Number.mono _ _
      | exact missiveref01_Squeeze.mono _ _
      | exact missiveref01_Strings.mono _ _ _
      | exact missiveref01_Trim.mono _ _
      | exact missiveref01_Unlines.mono _ _
      | exact text_Glob.mono _ _ _
      | exact text_Lines.mono _ _
      | exact text_Number.mono _ _
      | exact text_Same.mono _ _ _
      | exact text_Trim.mono _ _
      | exact LeO.none _
      | refine LeO.ite ?_ ?_
      | refine LeO.bind ?_ (fun _ => ?_)
set_option maxHeartbeats 8000000 in
set_option maxRecDepth 100000 in
theorem missivelaw01_TextTells.calls (k : Nat) (a0 : ByteArray) (a1 : ByteArray) (A2 : Option Addr) (c2 : Nat) (l2 : List ByteArray) (a3 : Int) (r : Bool) (w : World) (hr2 : Kd.C Kd.string w A2 l2.length l2) (hc2 : l2.length ≤ c2) (hG : GOk 0 w) (h : missivelaw01_TextTells.f k a0 a1 l2 a3 = some r) :
    Calls Tryd.prog 9 #[.string a0, .string a1, .slice A2 l2.length c2, .int .i64 a3] w fun e w' => e = .returned (.bool r) ∧ Below w.heap.size w w' := by
  have HR2 := Aside0.mk hr2
  have HC2 := Aside0.mk hc2
  clear hr2 hc2
  have HB := Aside0.mk (Below.refl w.heap.size w)
  have H : ((missivelaw01_small.f k).bind fun t341 => (if (a0.size : Int) > 300 then (missivelaw01_TextTells.j0 k a0 a1 l2 a3 t341 true) else (if (a1.size : Int) > 300 then (missivelaw01_TextTells.j0 k a0 a1 l2 a3 t341 true) else (missivelaw01_TextTells.j0 k a0 a1 l2 a3 t341 (decide ((l2.length : Int) > 40)))))) = some r := h
  clear h
  replace H := Option.bind_eq_some_iff.mp H
  obtain ⟨t341, A50, H⟩ := H
  replace H : (if (a0.size : Int) > 300 then (missivelaw01_TextTells.j0 k a0 a1 l2 a3 t341 true) else (if (a1.size : Int) > 300 then (missivelaw01_TextTells.j0 k a0 a1 l2 a3 t341 true) else (missivelaw01_TextTells.j0 k a0 a1 l2 a3 t341 (decide ((l2.length : Int) > 40))))) = some r := H
  have A5 := Aside0.mk A50
  clear A50
  have HC6 := Aside0.mk H
  clear H
  go_enter Tryd.func9, Tryd.ntmps9
  go_upto_region 2 with (first | ((with_reducible refine gate_callee (f := 30) rfl ?_); refine goesL_ (some 14) rfl rfl Tryd.func30 (by kernel_rfl) rfl #[] rfl (by (try simp only [List.map_toArray, List.map_cons, List.map_nil]); first | done | rfl | (simp only [List.length_drop, List.length_take]; rfl)) ?_; (with_reducible refine (missivelaw01_small.calls k  t341 _ ?side1 A5.out).mono ?_); (case side1 => exact GOk.below hG (by decide) (by repeat (first | (with_reducible first | exact HB.out | apply below_alloc | apply pw_below_drewN | apply below_drew1) | exact HB.out))); rintro e w7 ⟨rfl, hb⟩; refine ⟨_, rfl, ?_⟩; have n0_ := Aside0.mk (below_step (by repeat (first | (with_reducible first | exact HB.out | apply below_alloc | apply pw_below_drewN | apply below_drew1) | exact HB.out)) hb); clear HB; have HB := n0_; clear n0_; (try clear hb); (try clear hb2); (try clear hk); (try clear hi)))
  (try simp only [Act.put, List.setIfInBounds_toArray, List.set_cons_zero, List.set_cons_succ])
  go_cut [27] (fun v27 wc => ∃ (kq : Nat) (x27_5 : Bool), v27 = .bool x27_5 ∧ Aside0 (missivelaw01_TextTells.j0 kq a0 a1 l2 a3 t341 x27_5 = some r) ∧ Aside0 (kq ≤ k) ∧ Aside0 (Below w.heap.size w wc))
  case first =>
    have H := HC6.out
    clear HC6
    by_cases c8 : (a0.size : Int) > 300
    · rw [if_pos c8] at H
      have c8b0 : decide (300 < (a0.size : Int)) = true := decide_eq_true c8
      have c8b1 : decide (300 < a0.size) = true := decide_eq_true (by omega)
      clear c8
      (first | rw [c8b0] | (simp only [i64_w, i32_w]; rw [c8b0]) | skip)
      have H' := Aside0.mk H
      clear H
      go_wp2
      go_meet
      case rel => exact ⟨_, (true), (by first | rfl | (simp; done) | (simp [*]; done)), H', ⟨by first | omega | exact Nat.le_refl _⟩, ⟨by repeat (first | (with_reducible first | exact HB.out | apply below_alloc | apply pw_below_drewN | apply below_drew1) | exact HB.out)⟩⟩
    · rw [if_neg c8] at H
      have c8b0 : decide (300 < (a0.size : Int)) = false := decide_eq_false c8
      have c8b1 : decide (300 < a0.size) = false := decide_eq_false (by omega)
      clear c8
      (first | rw [c8b0] | (simp only [i64_w, i32_w]; rw [c8b0]) | skip)
      by_cases c9 : (a1.size : Int) > 300
      · rw [if_pos c9] at H
        have c9b0 : decide (300 < (a1.size : Int)) = true := decide_eq_true c9
        have c9b1 : decide (300 < a1.size) = true := decide_eq_true (by omega)
        clear c9
        have H' := Aside0.mk H
        clear H
        go_wp2
        go_meet
        case rel => exact ⟨_, (true), (by first | rfl | (simp; done) | (simp [*]; done)), H', ⟨by first | omega | exact Nat.le_refl _⟩, ⟨by repeat (first | (with_reducible first | exact HB.out | apply below_alloc | apply pw_below_drewN | apply below_drew1) | exact HB.out)⟩⟩
      · rw [if_neg c9] at H
        have c9b0 : decide (300 < (a1.size : Int)) = false := decide_eq_false c9
        have c9b1 : decide (300 < a1.size) = false := decide_eq_false (by omega)
        clear c9
        have H' := Aside0.mk H
        clear H
        go_wp2
        go_meet
        case rel => exact ⟨_, (decide ((l2.length : Int) > 40)), (by first | rfl | (simp; done) | (simp [*]; done)), H', ⟨by first | omega | exact Nat.le_refl _⟩, ⟨by repeat (first | (with_reducible first | exact HB.out | apply below_alloc | apply pw_below_drewN | apply below_drew1) | exact HB.out)⟩⟩
  case rest =>
    clear HC6
    try clear c2
    try clear p2
    try clear c3
    try clear c8
    try clear c8b0
    try clear c8b1
    try clear c9
    try clear c9b0
    try clear c9b1
    obtain ⟨kq, x27_5, rfl, HA, HJ5, HB⟩ := hcut
    cases kq with
    | zero => exact absurd HA.out (by simp [missivelaw01_TextTells.j0])
    | succ kj5 =>
      have H := HA.out
      clear HA
      simp only [missivelaw01_TextTells.j0] at H
      by_cases c10 : x27_5 = true
      · subst c10
        have H1 : (some t341) = some r := by rw [if_pos rfl] at H; exact H
        clear H
        have H := H1
        clear H1
        obtain rfl := Option.some.inj H
        go_wp2
        go_ret
        exact ⟨by first | rfl | (simp [errW_none, errW_some] <;> rfl) | (simp [*, errW_none, errW_some] <;> rfl), by repeat (first | (with_reducible first | exact HB.out | apply below_alloc | apply pw_below_drewN | apply below_drew1) | exact HB.out)⟩
      · replace c10 := Bool.eq_false_iff.mpr c10
        subst c10
        have H1 : ((text_Number.f kj5 a1).bind fun bt342 => ((missiveref01_Number.f kj5 a1).bind fun bt344 => (if bt342.1 = bt344.1 then (if (bt342.2 != bt344.2) = true then (missivelaw01_TextTells.j1 kj5 a0 a1 l2 a3 t341 true) else ((text_Lower.f a0).bind fun t346 => ((missiveref01_Lower.f a0).bind fun t347 => (if t346.toList = t347.toList then ((text_Upper.f a0).bind fun t348 => ((missiveref01_Upper.f a0).bind fun t349 => (if t348.toList = t349.toList then ((text_Same.f kj5 a0 a1).bind fun t350 => ((missiveref01_Same.f a0 a1).bind fun t351 => (missivelaw01_TextTells.j1 kj5 a0 a1 l2 a3 t341 (t350 != t351)))) else (missivelaw01_TextTells.j1 kj5 a0 a1 l2 a3 t341 true)))) else (missivelaw01_TextTells.j1 kj5 a0 a1 l2 a3 t341 true))))) else (missivelaw01_TextTells.j1 kj5 a0 a1 l2 a3 t341 true)))) = some r := by rw [if_neg (show ¬ (false = true) by decide)] at H; exact H
        clear H
        have H := H1
        clear H1
        replace H := Option.bind_eq_some_iff.mp H
        obtain ⟨⟨t342, t343⟩, A110, H⟩ := H
        replace H : ((missiveref01_Number.f kj5 a1).bind fun bt344 => (if t342 = bt344.1 then (if (t343 != bt344.2) = true then (missivelaw01_TextTells.j1 kj5 a0 a1 l2 a3 t341 true) else ((text_Lower.f a0).bind fun t346 => ((missiveref01_Lower.f a0).bind fun t347 => (if t346.toList = t347.toList then ((text_Upper.f a0).bind fun t348 => ((missiveref01_Upper.f a0).bind fun t349 => (if t348.toList = t349.toList then ((text_Same.f kj5 a0 a1).bind fun t350 => ((missiveref01_Same.f a0 a1).bind fun t351 => (missivelaw01_TextTells.j1 kj5 a0 a1 l2 a3 t341 (t350 != t351)))) else (missivelaw01_TextTells.j1 kj5 a0 a1 l2 a3 t341 true)))) else (missivelaw01_TextTells.j1 kj5 a0 a1 l2 a3 t341 true))))) else (missivelaw01_TextTells.j1 kj5 a0 a1 l2 a3 t341 true))) = some r := H
        have A11 := Aside0.mk A110
        clear A110
        replace H := Option.bind_eq_some_iff.mp H
        obtain ⟨⟨t344, t345⟩, A120, H⟩ := H
        replace H : (if t342 = t344 then (if (t343 != t345) = true then (missivelaw01_TextTells.j1 kj5 a0 a1 l2 a3 t341 true) else ((text_Lower.f a0).bind fun t346 => ((missiveref01_Lower.f a0).bind fun t347 => (if t346.toList = t347.toList then ((text_Upper.f a0).bind fun t348 => ((missiveref01_Upper.f a0).bind fun t349 => (if t348.toList = t349.toList then ((text_Same.f kj5 a0 a1).bind fun t350 => ((missiveref01_Same.f a0 a1).bind fun t351 => (missivelaw01_TextTells.j1 kj5 a0 a1 l2 a3 t341 (t350 != t351)))) else (missivelaw01_TextTells.j1 kj5 a0 a1 l2 a3 t341 true)))) else (missivelaw01_TextTells.j1 kj5 a0 a1 l2 a3 t341 true))))) else (missivelaw01_TextTells.j1 kj5 a0 a1 l2 a3 t341 true)) = some r := H
        have A12 := Aside0.mk A120
        clear A120
        have HC13 := Aside0.mk H
        clear H
        go_upto_region 6 with (first | ((with_reducible refine gate_callee (f := 32) rfl ?_); refine goesL_ (some 31) rfl rfl Tryd.func32 (by kernel_rfl) rfl #[.string a1] rfl (by (try simp only [List.map_toArray, List.map_cons, List.map_nil]); first | done | rfl | (simp only [List.length_drop, List.length_take]; rfl)) ?_; (with_reducible refine (text_Number.calls kj5 a1 t342 t343 _ A11.out).mono ?_); rintro e w' ⟨rfl, ⟨nd, rfl⟩⟩; refine ⟨_, rfl, ?_⟩) | ((with_reducible refine gate_callee (f := 45) rfl ?_); refine goesL_ (some 36) rfl rfl Tryd.func45 (by kernel_rfl) rfl #[.string a1] rfl (by (try simp only [List.map_toArray, List.map_cons, List.map_nil]); first | done | rfl | (simp only [List.length_drop, List.length_take]; rfl)) ?_; (with_reducible refine (missiveref01_Number.calls kj5 a1 t344 t345 _ A12.out).mono ?_); rintro e w' ⟨rfl, ⟨nd, rfl⟩⟩; refine ⟨_, rfl, ?_⟩))
        (try simp only [Act.put, List.setIfInBounds_toArray, List.set_cons_zero, List.set_cons_succ])
        go_cut [69] (fun v69 wc => ∃ (kq : Nat) (x69_12 : Bool), v69 = .bool x69_12 ∧ Aside0 (missivelaw01_TextTells.j1 kq a0 a1 l2 a3 t341 x69_12 = some r) ∧ Aside0 (kq ≤ kj5) ∧ Aside0 (Below w.heap.size w wc))
        case first =>
          have H := HC13.out
          clear HC13
          by_cases c14 : t342 = t344
          · rw [if_pos c14] at H
            have c14b0 : (t342 == t344) = true := beq_iff_eq.mpr c14
            have c14b1 : (t342 != t344) = false := bne_eq_false_iff_eq.mpr c14
            clear c14
            (first | rw [c14b0] | (simp only [i64_w, i32_w]; rw [c14b0]) | skip)
            by_cases c15 : (t343 != t345) = true
            · rw [if_pos c15] at H
              have c15b0 : (t343 != t345) = true := c15
              (try (have c15b1 : decide (t343 = t345) = false := by simpa using c15))
              (try (have c15b2 : (t343 == t345) = false := by simpa using c15))
              (try (have c15b3 : ¬ (t343 = t345) := by simpa using c15))
              clear c15
              have H' := Aside0.mk H
              clear H
              go_wp2
              go_meet
              case rel => exact ⟨_, (true), (by first | rfl | (simp; done) | (simp [*]; done)), H', ⟨by have := HJ5.out; first | omega | exact Nat.le_refl _⟩, ⟨by repeat (first | (with_reducible first | exact HB.out | apply below_alloc | apply pw_below_drewN | apply below_drew1) | exact HB.out)⟩⟩
            · rw [if_neg c15] at H
              have c15b0 : (t343 != t345) = false := by simpa using c15
              (try (have c15b1 : decide (t343 = t345) = true := by simpa using c15))
              (try (have c15b2 : (t343 == t345) = true := by simpa using c15))
              clear c15
              replace H := Option.bind_eq_some_iff.mp H
              obtain ⟨t346, A160, H⟩ := H
              replace H : ((missiveref01_Lower.f a0).bind fun t347 => (if t346.toList = t347.toList then ((text_Upper.f a0).bind fun t348 => ((missiveref01_Upper.f a0).bind fun t349 => (if t348.toList = t349.toList then ((text_Same.f kj5 a0 a1).bind fun t350 => ((missiveref01_Same.f a0 a1).bind fun t351 => (missivelaw01_TextTells.j1 kj5 a0 a1 l2 a3 t341 (t350 != t351)))) else (missivelaw01_TextTells.j1 kj5 a0 a1 l2 a3 t341 true)))) else (missivelaw01_TextTells.j1 kj5 a0 a1 l2 a3 t341 true))) = some r := H
              have A16 := Aside0.mk A160
              clear A160
              replace H := Option.bind_eq_some_iff.mp H
              obtain ⟨t347, A170, H⟩ := H
              replace H : (if t346.toList = t347.toList then ((text_Upper.f a0).bind fun t348 => ((missiveref01_Upper.f a0).bind fun t349 => (if t348.toList = t349.toList then ((text_Same.f kj5 a0 a1).bind fun t350 => ((missiveref01_Same.f a0 a1).bind fun t351 => (missivelaw01_TextTells.j1 kj5 a0 a1 l2 a3 t341 (t350 != t351)))) else (missivelaw01_TextTells.j1 kj5 a0 a1 l2 a3 t341 true)))) else (missivelaw01_TextTells.j1 kj5 a0 a1 l2 a3 t341 true)) = some r := H
              have A17 := Aside0.mk A170
              clear A170
              by_cases c18 : t346.toList = t347.toList
              · rw [if_pos c18] at H
                have c18b0 : (t346.toList == t347.toList) = true := beq_iff_eq.mpr c18
                have c18b1 : (t346.toList != t347.toList) = false := bne_eq_false_iff_eq.mpr c18
                clear c18
                replace H := Option.bind_eq_some_iff.mp H
                obtain ⟨t348, A190, H⟩ := H
                replace H : ((missiveref01_Upper.f a0).bind fun t349 => (if t348.toList = t349.toList then ((text_Same.f kj5 a0 a1).bind fun t350 => ((missiveref01_Same.f a0 a1).bind fun t351 => (missivelaw01_TextTells.j1 kj5 a0 a1 l2 a3 t341 (t350 != t351)))) else (missivelaw01_TextTells.j1 kj5 a0 a1 l2 a3 t341 true))) = some r := H
                have A19 := Aside0.mk A190
                clear A190
                replace H := Option.bind_eq_some_iff.mp H
                obtain ⟨t349, A200, H⟩ := H
                replace H : (if t348.toList = t349.toList then ((text_Same.f kj5 a0 a1).bind fun t350 => ((missiveref01_Same.f a0 a1).bind fun t351 => (missivelaw01_TextTells.j1 kj5 a0 a1 l2 a3 t341 (t350 != t351)))) else (missivelaw01_TextTells.j1 kj5 a0 a1 l2 a3 t341 true)) = some r := H
                have A20 := Aside0.mk A200
                clear A200
                by_cases c21 : t348.toList = t349.toList
                · rw [if_pos c21] at H
                  have c21b0 : (t348.toList == t349.toList) = true := beq_iff_eq.mpr c21
                  have c21b1 : (t348.toList != t349.toList) = false := bne_eq_false_iff_eq.mpr c21
                  clear c21
                  replace H := Option.bind_eq_some_iff.mp H
                  obtain ⟨t350, A220, H⟩ := H
                  replace H : ((missiveref01_Same.f a0 a1).bind fun t351 => (missivelaw01_TextTells.j1 kj5 a0 a1 l2 a3 t341 (t350 != t351))) = some r := H
                  have A22 := Aside0.mk A220
                  clear A220
                  replace H := Option.bind_eq_some_iff.mp H
                  obtain ⟨t351, A230, H⟩ := H
                  replace H : (missivelaw01_TextTells.j1 kj5 a0 a1 l2 a3 t341 (t350 != t351)) = some r := H
                  have A23 := Aside0.mk A230
                  clear A230
                  have H' := Aside0.mk H
                  clear H
                  go_wp2_with (first | (go_at_call 43; (with_reducible refine (text_Lower.calls a0 t346 _ ?side1 A16.out).mono ?_); (case side1 => exact GOk.below hG (by decide) (by repeat (first | (with_reducible first | exact HB.out | apply below_alloc | apply pw_below_drewN | apply below_drew1) | exact HB.out))); rintro e w24 ⟨rfl, hb⟩; have n0_ := Aside0.mk (below_step (by repeat (first | (with_reducible first | exact HB.out | apply below_alloc | apply pw_below_drewN | apply below_drew1) | exact HB.out)) hb); clear HB; have HB := n0_; clear n0_; (try clear hb); (try clear hb2); (try clear hk); (try clear hi)) | (go_at_call 46; (with_reducible refine (missiveref01_Lower.calls a0 t347 _ ?side1 A17.out).mono ?_); (case side1 => exact GOk.below hG (by decide) (by repeat (first | (with_reducible first | exact HB.out | apply below_alloc | apply pw_below_drewN | apply below_drew1) | exact HB.out))); rintro e w25 ⟨rfl, hb⟩; have n0_ := Aside0.mk (below_step (by repeat (first | (with_reducible first | exact HB.out | apply below_alloc | apply pw_below_drewN | apply below_drew1) | exact HB.out)) hb); clear HB; have HB := n0_; clear n0_; (try clear hb); (try clear hb2); (try clear hk); (try clear hi)) | (go_at_call 44; (with_reducible refine (text_Upper.calls a0 t348 _ ?side1 A19.out).mono ?_); (case side1 => exact GOk.below hG (by decide) (by repeat (first | (with_reducible first | exact HB.out | apply below_alloc | apply pw_below_drewN | apply below_drew1) | exact HB.out))); rintro e w26 ⟨rfl, hb⟩; have n0_ := Aside0.mk (below_step (by repeat (first | (with_reducible first | exact HB.out | apply below_alloc | apply pw_below_drewN | apply below_drew1) | exact HB.out)) hb); clear HB; have HB := n0_; clear n0_; (try clear hb); (try clear hb2); (try clear hk); (try clear hi)) | (go_at_call 47; (with_reducible refine (missiveref01_Upper.calls a0 t349 _ ?side1 A20.out).mono ?_); (case side1 => exact GOk.below hG (by decide) (by repeat (first | (with_reducible first | exact HB.out | apply below_alloc | apply pw_below_drewN | apply below_drew1) | exact HB.out))); rintro e w27 ⟨rfl, hb⟩; have n0_ := Aside0.mk (below_step (by repeat (first | (with_reducible first | exact HB.out | apply below_alloc | apply pw_below_drewN | apply below_drew1) | exact HB.out)) hb); clear HB; have HB := n0_; clear n0_; (try clear hb); (try clear hb2); (try clear hk); (try clear hi)) | (go_at_call 48; (with_reducible refine (text_Same.calls kj5 a0 a1 t350 _ A22.out).mono ?_); rintro e w' ⟨rfl, ⟨nd, rfl⟩⟩) | (go_at_call 49; (with_reducible refine (missiveref01_Same.calls a0 a1 t351 _ ?side1 A23.out).mono ?_); (case side1 => exact GOk.below hG (by decide) (by repeat (first | (with_reducible first | exact HB.out | apply below_alloc | apply pw_below_drewN | apply below_drew1) | exact HB.out))); rintro e w28 ⟨rfl, hb⟩; have n0_ := Aside0.mk (below_step (by repeat (first | (with_reducible first | exact HB.out | apply below_alloc | apply pw_below_drewN | apply below_drew1) | exact HB.out)) hb); clear HB; have HB := n0_; clear n0_; (try clear hb); (try clear hb2); (try clear hk); (try clear hi)))
                  go_meet
                  case rel => exact ⟨_, ((t350 != t351)), (by first | rfl | (simp; done) | (simp [*]; done)), H', ⟨by have := HJ5.out; first | omega | exact Nat.le_refl _⟩, ⟨by repeat (first | (with_reducible first | exact HB.out | apply below_alloc | apply pw_below_drewN | apply below_drew1) | exact HB.out)⟩⟩
                · rw [if_neg c21] at H
                  have c21b0 : (t348.toList == t349.toList) = false := beq_eq_false_iff_ne.mpr c21
                  have c21b1 : (t348.toList != t349.toList) = true := bne_iff_ne.mpr c21
                  have H' := Aside0.mk H
                  clear H
                  go_wp2_with (first | (go_at_call 43; (with_reducible refine (text_Lower.calls a0 t346 _ ?side1 A16.out).mono ?_); (case side1 => exact GOk.below hG (by decide) (by repeat (first | (with_reducible first | exact HB.out | apply below_alloc | apply pw_below_drewN | apply below_drew1) | exact HB.out))); rintro e w29 ⟨rfl, hb⟩; have n0_ := Aside0.mk (below_step (by repeat (first | (with_reducible first | exact HB.out | apply below_alloc | apply pw_below_drewN | apply below_drew1) | exact HB.out)) hb); clear HB; have HB := n0_; clear n0_; (try clear hb); (try clear hb2); (try clear hk); (try clear hi)) | (go_at_call 46; (with_reducible refine (missiveref01_Lower.calls a0 t347 _ ?side1 A17.out).mono ?_); (case side1 => exact GOk.below hG (by decide) (by repeat (first | (with_reducible first | exact HB.out | apply below_alloc | apply pw_below_drewN | apply below_drew1) | exact HB.out))); rintro e w30 ⟨rfl, hb⟩; have n0_ := Aside0.mk (below_step (by repeat (first | (with_reducible first | exact HB.out | apply below_alloc | apply pw_below_drewN | apply below_drew1) | exact HB.out)) hb); clear HB; have HB := n0_; clear n0_; (try clear hb); (try clear hb2); (try clear hk); (try clear hi)) | (go_at_call 44; (with_reducible refine (text_Upper.calls a0 t348 _ ?side1 A19.out).mono ?_); (case side1 => exact GOk.below hG (by decide) (by repeat (first | (with_reducible first | exact HB.out | apply below_alloc | apply pw_below_drewN | apply below_drew1) | exact HB.out))); rintro e w31 ⟨rfl, hb⟩; have n0_ := Aside0.mk (below_step (by repeat (first | (with_reducible first | exact HB.out | apply below_alloc | apply pw_below_drewN | apply below_drew1) | exact HB.out)) hb); clear HB; have HB := n0_; clear n0_; (try clear hb); (try clear hb2); (try clear hk); (try clear hi)) | (go_at_call 47; (with_reducible refine (missiveref01_Upper.calls a0 t349 _ ?side1 A20.out).mono ?_); (case side1 => exact GOk.below hG (by decide) (by repeat (first | (with_reducible first | exact HB.out | apply below_alloc | apply pw_below_drewN | apply below_drew1) | exact HB.out))); rintro e w32 ⟨rfl, hb⟩; have n0_ := Aside0.mk (below_step (by repeat (first | (with_reducible first | exact HB.out | apply below_alloc | apply pw_below_drewN | apply below_drew1) | exact HB.out)) hb); clear HB; have HB := n0_; clear n0_; (try clear hb); (try clear hb2); (try clear hk); (try clear hi)))
                  go_meet
                  case rel => exact ⟨_, (true), (by first | rfl | (simp; done) | (simp [*]; done)), H', ⟨by have := HJ5.out; first | omega | exact Nat.le_refl _⟩, ⟨by repeat (first | (with_reducible first | exact HB.out | apply below_alloc | apply pw_below_drewN | apply below_drew1) | exact HB.out)⟩⟩
              · rw [if_neg c18] at H
                have c18b0 : (t346.toList == t347.toList) = false := beq_eq_false_iff_ne.mpr c18
                have c18b1 : (t346.toList != t347.toList) = true := bne_iff_ne.mpr c18
                have H' := Aside0.mk H
                clear H
                go_wp2_with (first | (go_at_call 43; (with_reducible refine (text_Lower.calls a0 t346 _ ?side1 A16.out).mono ?_); (case side1 => exact GOk.below hG (by decide) (by repeat (first | (with_reducible first | exact HB.out | apply below_alloc | apply pw_below_drewN | apply below_drew1) | exact HB.out))); rintro e w33 ⟨rfl, hb⟩; have n0_ := Aside0.mk (below_step (by repeat (first | (with_reducible first | exact HB.out | apply below_alloc | apply pw_below_drewN | apply below_drew1) | exact HB.out)) hb); clear HB; have HB := n0_; clear n0_; (try clear hb); (try clear hb2); (try clear hk); (try clear hi)) | (go_at_call 46; (with_reducible refine (missiveref01_Lower.calls a0 t347 _ ?side1 A17.out).mono ?_); (case side1 => exact GOk.below hG (by decide) (by repeat (first | (with_reducible first | exact HB.out | apply below_alloc | apply pw_below_drewN | apply below_drew1) | exact HB.out))); rintro e w34 ⟨rfl, hb⟩; have n0_ := Aside0.mk (below_step (by repeat (first | (with_reducible first | exact HB.out | apply below_alloc | apply pw_below_drewN | apply below_drew1) | exact HB.out)) hb); clear HB; have HB := n0_; clear n0_; (try clear hb); (try clear hb2); (try clear hk); (try clear hi)))
                go_meet
                case rel => exact ⟨_, (true), (by first | rfl | (simp; done) | (simp [*]; done)), H', ⟨by have := HJ5.out; first | omega | exact Nat.le_refl _⟩, ⟨by repeat (first | (with_reducible first | exact HB.out | apply below_alloc | apply pw_below_drewN | apply below_drew1) | exact HB.out)⟩⟩
          · rw [if_neg c14] at H
            have c14b0 : (t342 == t344) = false := beq_eq_false_iff_ne.mpr c14
            have c14b1 : (t342 != t344) = true := bne_iff_ne.mpr c14
            (first | rw [c14b0] | (simp only [i64_w, i32_w]; rw [c14b0]) | skip)
            have H' := Aside0.mk H
            clear H
            go_wp2
            go_meet
            case rel => exact ⟨_, (true), (by first | rfl | (simp; done) | (simp [*]; done)), H', ⟨by have := HJ5.out; first | omega | exact Nat.le_refl _⟩, ⟨by repeat (first | (with_reducible first | exact HB.out | apply below_alloc | apply pw_below_drewN | apply below_drew1) | exact HB.out)⟩⟩
        case rest =>
          clear HC13
          try clear c1
          try clear c2
          try clear p2
          try clear c3
          try clear c4
          try clear c8
          try clear c8b0
          try clear c8b1
          try clear c9
          try clear c9b0
          try clear c9b1
          try clear c10
          try clear c14
          try clear c14b0
          try clear c14b1
          try clear c15
          try clear c15b0
          try clear c15b1
          try clear c15b2
          try clear c18
          try clear c18b0
          try clear c18b1
          try clear c21
          try clear c21b0
          try clear c21b1
          try clear c30
          try clear c32
          try clear p2
          obtain ⟨kq, x69_12, rfl, HA, HJ12, HB⟩ := hcut
          cases kq with
          | zero => exact absurd HA.out (by simp [missivelaw01_TextTells.j1])
          | succ kj12 =>
            have H := HA.out
            clear HA
            simp only [missivelaw01_TextTells.j1] at H
            by_cases c35 : x69_12 = true
            · subst c35
              have H1 : (some false) = some r := by rw [if_pos rfl] at H; exact H
              clear H
              have H := H1
              clear H1
              obtain rfl := Option.some.inj H
              go_wp2
              go_ret
              exact ⟨by first | rfl | (simp [errW_none, errW_some] <;> rfl) | (simp [*, errW_none, errW_some] <;> rfl), by repeat (first | (with_reducible first | exact HB.out | apply below_alloc | apply pw_below_drewN | apply below_drew1) | exact HB.out)⟩
            · replace c35 := Bool.eq_false_iff.mpr c35
              subst c35
              have H1 : ((text_Trim.f kj12 a0).bind fun t352 => ((missiveref01_Trim.f kj12 a0).bind fun t353 => (if t352.toList = t353.toList then ((text_Squeeze.f a0).bind fun t354 => ((missiveref01_Squeeze.f kj12 a0).bind fun t355 => (if t354.toList = t355.toList then ((text_Unlines.f l2).bind fun t356 => ((missiveref01_Unlines.f kj12 l2).bind fun t357 => (if t356.toList = t357.toList then ((text_Decimal.f a3).bind fun t358 => ((missiveref01_Decimal.f kj12 a3).bind fun t359 => (missivelaw01_TextTells.j2 kj12 a0 a1 t341 (t358.toList != t359.toList)))) else (missivelaw01_TextTells.j2 kj12 a0 a1 t341 true)))) else (missivelaw01_TextTells.j2 kj12 a0 a1 t341 true)))) else (missivelaw01_TextTells.j2 kj12 a0 a1 t341 true)))) = some r := by rw [if_neg (show ¬ (false = true) by decide)] at H; exact H
              clear H
              have H := H1
              clear H1
              have HC36 := Aside0.mk H
              clear H
              go_upto_region 8 with (fail)
              go_cut [95] (fun v95 wc => ∃ (kq : Nat) (x95_35 : Bool), v95 = .bool x95_35 ∧ Aside0 (missivelaw01_TextTells.j2 kq a0 a1 t341 x95_35 = some r) ∧ Aside0 (kq ≤ kj12) ∧ Aside0 (Below w.heap.size w wc))
              case first =>
                have H := HC36.out
                clear HC36
                replace H := Option.bind_eq_some_iff.mp H
                obtain ⟨t352, A370, H⟩ := H
                replace H : ((missiveref01_Trim.f kj12 a0).bind fun t353 => (if t352.toList = t353.toList then ((text_Squeeze.f a0).bind fun t354 => ((missiveref01_Squeeze.f kj12 a0).bind fun t355 => (if t354.toList = t355.toList then ((text_Unlines.f l2).bind fun t356 => ((missiveref01_Unlines.f kj12 l2).bind fun t357 => (if t356.toList = t357.toList then ((text_Decimal.f a3).bind fun t358 => ((missiveref01_Decimal.f kj12 a3).bind fun t359 => (missivelaw01_TextTells.j2 kj12 a0 a1 t341 (t358.toList != t359.toList)))) else (missivelaw01_TextTells.j2 kj12 a0 a1 t341 true)))) else (missivelaw01_TextTells.j2 kj12 a0 a1 t341 true)))) else (missivelaw01_TextTells.j2 kj12 a0 a1 t341 true))) = some r := H
                have A37 := Aside0.mk A370
                clear A370
                replace H := Option.bind_eq_some_iff.mp H
                obtain ⟨t353, A380, H⟩ := H
                replace H : (if t352.toList = t353.toList then ((text_Squeeze.f a0).bind fun t354 => ((missiveref01_Squeeze.f kj12 a0).bind fun t355 => (if t354.toList = t355.toList then ((text_Unlines.f l2).bind fun t356 => ((missiveref01_Unlines.f kj12 l2).bind fun t357 => (if t356.toList = t357.toList then ((text_Decimal.f a3).bind fun t358 => ((missiveref01_Decimal.f kj12 a3).bind fun t359 => (missivelaw01_TextTells.j2 kj12 a0 a1 t341 (t358.toList != t359.toList)))) else (missivelaw01_TextTells.j2 kj12 a0 a1 t341 true)))) else (missivelaw01_TextTells.j2 kj12 a0 a1 t341 true)))) else (missivelaw01_TextTells.j2 kj12 a0 a1 t341 true)) = some r := H
                have A38 := Aside0.mk A380
                clear A380
                by_cases c39 : t352.toList = t353.toList
                · rw [if_pos c39] at H
                  have c39b0 : (t352.toList == t353.toList) = true := beq_iff_eq.mpr c39
                  have c39b1 : (t352.toList != t353.toList) = false := bne_eq_false_iff_eq.mpr c39
                  clear c39
                  (first | rw [c39b0] | (simp only [i64_w, i32_w]; rw [c39b0]) | skip)
                  replace H := Option.bind_eq_some_iff.mp H
                  obtain ⟨t354, A400, H⟩ := H
                  replace H : ((missiveref01_Squeeze.f kj12 a0).bind fun t355 => (if t354.toList = t355.toList then ((text_Unlines.f l2).bind fun t356 => ((missiveref01_Unlines.f kj12 l2).bind fun t357 => (if t356.toList = t357.toList then ((text_Decimal.f a3).bind fun t358 => ((missiveref01_Decimal.f kj12 a3).bind fun t359 => (missivelaw01_TextTells.j2 kj12 a0 a1 t341 (t358.toList != t359.toList)))) else (missivelaw01_TextTells.j2 kj12 a0 a1 t341 true)))) else (missivelaw01_TextTells.j2 kj12 a0 a1 t341 true))) = some r := H
                  have A40 := Aside0.mk A400
                  clear A400
                  replace H := Option.bind_eq_some_iff.mp H
                  obtain ⟨t355, A410, H⟩ := H
                  replace H : (if t354.toList = t355.toList then ((text_Unlines.f l2).bind fun t356 => ((missiveref01_Unlines.f kj12 l2).bind fun t357 => (if t356.toList = t357.toList then ((text_Decimal.f a3).bind fun t358 => ((missiveref01_Decimal.f kj12 a3).bind fun t359 => (missivelaw01_TextTells.j2 kj12 a0 a1 t341 (t358.toList != t359.toList)))) else (missivelaw01_TextTells.j2 kj12 a0 a1 t341 true)))) else (missivelaw01_TextTells.j2 kj12 a0 a1 t341 true)) = some r := H
                  have A41 := Aside0.mk A410
                  clear A410
                  by_cases c42 : t354.toList = t355.toList
                  · rw [if_pos c42] at H
                    have c42b0 : (t354.toList == t355.toList) = true := beq_iff_eq.mpr c42
                    have c42b1 : (t354.toList != t355.toList) = false := bne_eq_false_iff_eq.mpr c42
                    clear c42
                    replace H := Option.bind_eq_some_iff.mp H
                    obtain ⟨t356, A430, H⟩ := H
                    replace H : ((missiveref01_Unlines.f kj12 l2).bind fun t357 => (if t356.toList = t357.toList then ((text_Decimal.f a3).bind fun t358 => ((missiveref01_Decimal.f kj12 a3).bind fun t359 => (missivelaw01_TextTells.j2 kj12 a0 a1 t341 (t358.toList != t359.toList)))) else (missivelaw01_TextTells.j2 kj12 a0 a1 t341 true))) = some r := H
                    have A43 := Aside0.mk A430
                    clear A430
                    replace H := Option.bind_eq_some_iff.mp H
                    obtain ⟨t357, A440, H⟩ := H
                    replace H : (if t356.toList = t357.toList then ((text_Decimal.f a3).bind fun t358 => ((missiveref01_Decimal.f kj12 a3).bind fun t359 => (missivelaw01_TextTells.j2 kj12 a0 a1 t341 (t358.toList != t359.toList)))) else (missivelaw01_TextTells.j2 kj12 a0 a1 t341 true)) = some r := H
                    have A44 := Aside0.mk A440
                    clear A440
                    by_cases c45 : t356.toList = t357.toList
                    · rw [if_pos c45] at H
                      have c45b0 : (t356.toList == t357.toList) = true := beq_iff_eq.mpr c45
                      have c45b1 : (t356.toList != t357.toList) = false := bne_eq_false_iff_eq.mpr c45
                      clear c45
                      replace H := Option.bind_eq_some_iff.mp H
                      obtain ⟨t358, A460, H⟩ := H
                      replace H : ((missiveref01_Decimal.f kj12 a3).bind fun t359 => (missivelaw01_TextTells.j2 kj12 a0 a1 t341 (t358.toList != t359.toList))) = some r := H
                      have A46 := Aside0.mk A460
                      clear A460
                      replace H := Option.bind_eq_some_iff.mp H
                      obtain ⟨t359, A470, H⟩ := H
                      replace H : (missivelaw01_TextTells.j2 kj12 a0 a1 t341 (t358.toList != t359.toList)) = some r := H
                      have A47 := Aside0.mk A470
                      clear A470
                      have H' := Aside0.mk H
                      clear H
                      go_wp2_with (first | ((with_reducible refine gate_callee (f := 50) rfl ?_); refine goesL_ (some 71) rfl rfl Tryd.func50 (by kernel_rfl) rfl #[.string a0] rfl (by (try simp only [List.map_toArray, List.map_cons, List.map_nil]); first | done | rfl | (simp only [List.length_drop, List.length_take]; rfl)) ?_; (with_reducible refine (text_Trim.calls kj12 a0 t352 _ A37.out).mono ?_); rintro e w' ⟨rfl, ⟨nd, rfl⟩⟩; refine ⟨_, rfl, ?_⟩) | ((with_reducible refine gate_callee (f := 51) rfl ?_); refine goesL_ (some 73) rfl rfl Tryd.func51 (by kernel_rfl) rfl #[.string a0] rfl (by (try simp only [List.map_toArray, List.map_cons, List.map_nil]); first | done | rfl | (simp only [List.length_drop, List.length_take]; rfl)) ?_; (with_reducible refine (missiveref01_Trim.calls kj12 a0 t353 _ A38.out).mono ?_); rintro e w' ⟨rfl, ⟨nd, rfl⟩⟩; refine ⟨_, rfl, ?_⟩) | (go_at_call 52; (with_reducible refine (text_Squeeze.calls a0 t354 _ ?side1 A40.out).mono ?_); (case side1 => exact GOk.below hG (by decide) (by repeat (first | (with_reducible first | exact HB.out | apply below_alloc | apply pw_below_drewN | apply below_drew1) | exact HB.out))); rintro e w48 ⟨rfl, hb⟩; have n0_ := Aside0.mk (below_step (by repeat (first | (with_reducible first | exact HB.out | apply below_alloc | apply pw_below_drewN | apply below_drew1) | exact HB.out)) hb); clear HB; have HB := n0_; clear n0_; (try clear hb); (try clear hb2); (try clear hk); (try clear hi)) | (go_at_call 53; (with_reducible refine (missiveref01_Squeeze.calls kj12 a0 t355 _ A41.out).mono ?_); rintro e w49 ⟨rfl, hb⟩; have n0_ := Aside0.mk (below_step (by repeat (first | (with_reducible first | exact HB.out | apply below_alloc | apply pw_below_drewN | apply below_drew1) | exact HB.out)) hb); clear HB; have HB := n0_; clear n0_; (try clear hb); (try clear hb2); (try clear hk); (try clear hi)) | (go_at_call 54; (with_reducible refine (text_Unlines.calls _ _ l2 t356 _ ?side1 ?side2 ?side3 A43.out).mono ?_); (case side1 => repeat (first | exact (Kd.C_below HR2.out HB.out) | (with_reducible refine Kd.C_alloc ?_ _) | (with_reducible refine Kd.C_drewN ?_ _) | (with_reducible refine Kd.C_drew ?_))); (case side2 => exact HC2.out); (case side3 => exact GOk.below hG (by decide) (by repeat (first | (with_reducible first | exact HB.out | apply below_alloc | apply pw_below_drewN | apply below_drew1) | exact HB.out))); rintro e w50 ⟨rfl, hb⟩; have n0_ := Aside0.mk (below_step (by repeat (first | (with_reducible first | exact HB.out | apply below_alloc | apply pw_below_drewN | apply below_drew1) | exact HB.out)) hb); clear HB; have HB := n0_; clear n0_; (try clear hb); (try clear hb2); (try clear hk); (try clear hi)) | (go_at_call 55; (with_reducible refine (missiveref01_Unlines.calls kj12 _ _ l2 t357 _ ?side1 ?side2 A44.out).mono ?_); (case side1 => repeat (first | exact (Kd.C_below HR2.out HB.out) | (with_reducible refine Kd.C_alloc ?_ _) | (with_reducible refine Kd.C_drewN ?_ _) | (with_reducible refine Kd.C_drew ?_))); (case side2 => exact HC2.out); rintro e w51 ⟨rfl, hb⟩; have n0_ := Aside0.mk (below_step (by repeat (first | (with_reducible first | exact HB.out | apply below_alloc | apply pw_below_drewN | apply below_drew1) | exact HB.out)) hb); clear HB; have HB := n0_; clear n0_; (try clear hb); (try clear hb2); (try clear hk); (try clear hi)) | (go_at_call 31; (with_reducible refine (text_Decimal.calls a3 t358 _ ?side1 A46.out).mono ?_); (case side1 => exact GOk.below hG (by decide) (by repeat (first | (with_reducible first | exact HB.out | apply below_alloc | apply pw_below_drewN | apply below_drew1) | exact HB.out))); rintro e w52 ⟨rfl, hb⟩; have n0_ := Aside0.mk (below_step (by repeat (first | (with_reducible first | exact HB.out | apply below_alloc | apply pw_below_drewN | apply below_drew1) | exact HB.out)) hb); clear HB; have HB := n0_; clear n0_; (try clear hb); (try clear hb2); (try clear hk); (try clear hi)) | (go_at_call 56; (with_reducible refine (missiveref01_Decimal.calls kj12 a3 t359 _ A47.out).mono ?_); rintro e w53 ⟨rfl, hb⟩; have n0_ := Aside0.mk (below_step (by repeat (first | (with_reducible first | exact HB.out | apply below_alloc | apply pw_below_drewN | apply below_drew1) | exact HB.out)) hb); clear HB; have HB := n0_; clear n0_; (try clear hb); (try clear hb2); (try clear hk); (try clear hi)))
                      go_meet
                      case rel => exact ⟨_, ((t358.toList != t359.toList)), (by first | rfl | (simp; done) | (simp [*]; done)), H', ⟨by have := HJ5.out; have := HJ12.out; first | omega | exact Nat.le_refl _⟩, ⟨by repeat (first | (with_reducible first | exact HB.out | apply below_alloc | apply pw_below_drewN | apply below_drew1) | exact HB.out)⟩⟩
                    · rw [if_neg c45] at H
                      have c45b0 : (t356.toList == t357.toList) = false := beq_eq_false_iff_ne.mpr c45
                      have c45b1 : (t356.toList != t357.toList) = true := bne_iff_ne.mpr c45
                      have H' := Aside0.mk H
                      clear H
                      go_wp2_with (first | ((with_reducible refine gate_callee (f := 50) rfl ?_); refine goesL_ (some 71) rfl rfl Tryd.func50 (by kernel_rfl) rfl #[.string a0] rfl (by (try simp only [List.map_toArray, List.map_cons, List.map_nil]); first | done | rfl | (simp only [List.length_drop, List.length_take]; rfl)) ?_; (with_reducible refine (text_Trim.calls kj12 a0 t352 _ A37.out).mono ?_); rintro e w' ⟨rfl, ⟨nd, rfl⟩⟩; refine ⟨_, rfl, ?_⟩) | ((with_reducible refine gate_callee (f := 51) rfl ?_); refine goesL_ (some 73) rfl rfl Tryd.func51 (by kernel_rfl) rfl #[.string a0] rfl (by (try simp only [List.map_toArray, List.map_cons, List.map_nil]); first | done | rfl | (simp only [List.length_drop, List.length_take]; rfl)) ?_; (with_reducible refine (missiveref01_Trim.calls kj12 a0 t353 _ A38.out).mono ?_); rintro e w' ⟨rfl, ⟨nd, rfl⟩⟩; refine ⟨_, rfl, ?_⟩) | (go_at_call 52; (with_reducible refine (text_Squeeze.calls a0 t354 _ ?side1 A40.out).mono ?_); (case side1 => exact GOk.below hG (by decide) (by repeat (first | (with_reducible first | exact HB.out | apply below_alloc | apply pw_below_drewN | apply below_drew1) | exact HB.out))); rintro e w54 ⟨rfl, hb⟩; have n0_ := Aside0.mk (below_step (by repeat (first | (with_reducible first | exact HB.out | apply below_alloc | apply pw_below_drewN | apply below_drew1) | exact HB.out)) hb); clear HB; have HB := n0_; clear n0_; (try clear hb); (try clear hb2); (try clear hk); (try clear hi)) | (go_at_call 53; (with_reducible refine (missiveref01_Squeeze.calls kj12 a0 t355 _ A41.out).mono ?_); rintro e w55 ⟨rfl, hb⟩; have n0_ := Aside0.mk (below_step (by repeat (first | (with_reducible first | exact HB.out | apply below_alloc | apply pw_below_drewN | apply below_drew1) | exact HB.out)) hb); clear HB; have HB := n0_; clear n0_; (try clear hb); (try clear hb2); (try clear hk); (try clear hi)) | (go_at_call 54; (with_reducible refine (text_Unlines.calls _ _ l2 t356 _ ?side1 ?side2 ?side3 A43.out).mono ?_); (case side1 => repeat (first | exact (Kd.C_below HR2.out HB.out) | (with_reducible refine Kd.C_alloc ?_ _) | (with_reducible refine Kd.C_drewN ?_ _) | (with_reducible refine Kd.C_drew ?_))); (case side2 => exact HC2.out); (case side3 => exact GOk.below hG (by decide) (by repeat (first | (with_reducible first | exact HB.out | apply below_alloc | apply pw_below_drewN | apply below_drew1) | exact HB.out))); rintro e w56 ⟨rfl, hb⟩; have n0_ := Aside0.mk (below_step (by repeat (first | (with_reducible first | exact HB.out | apply below_alloc | apply pw_below_drewN | apply below_drew1) | exact HB.out)) hb); clear HB; have HB := n0_; clear n0_; (try clear hb); (try clear hb2); (try clear hk); (try clear hi)) | (go_at_call 55; (with_reducible refine (missiveref01_Unlines.calls kj12 _ _ l2 t357 _ ?side1 ?side2 A44.out).mono ?_); (case side1 => repeat (first | exact (Kd.C_below HR2.out HB.out) | (with_reducible refine Kd.C_alloc ?_ _) | (with_reducible refine Kd.C_drewN ?_ _) | (with_reducible refine Kd.C_drew ?_))); (case side2 => exact HC2.out); rintro e w57 ⟨rfl, hb⟩; have n0_ := Aside0.mk (below_step (by repeat (first | (with_reducible first | exact HB.out | apply below_alloc | apply pw_below_drewN | apply below_drew1) | exact HB.out)) hb); clear HB; have HB := n0_; clear n0_; (try clear hb); (try clear hb2); (try clear hk); (try clear hi)))
                      go_meet
                      case rel => exact ⟨_, (true), (by first | rfl | (simp; done) | (simp [*]; done)), H', ⟨by have := HJ5.out; have := HJ12.out; first | omega | exact Nat.le_refl _⟩, ⟨by repeat (first | (with_reducible first | exact HB.out | apply below_alloc | apply pw_below_drewN | apply below_drew1) | exact HB.out)⟩⟩
                  · rw [if_neg c42] at H
                    have c42b0 : (t354.toList == t355.toList) = false := beq_eq_false_iff_ne.mpr c42
                    have c42b1 : (t354.toList != t355.toList) = true := bne_iff_ne.mpr c42
                    have H' := Aside0.mk H
                    clear H
                    go_wp2_with (first | ((with_reducible refine gate_callee (f := 50) rfl ?_); refine goesL_ (some 71) rfl rfl Tryd.func50 (by kernel_rfl) rfl #[.string a0] rfl (by (try simp only [List.map_toArray, List.map_cons, List.map_nil]); first | done | rfl | (simp only [List.length_drop, List.length_take]; rfl)) ?_; (with_reducible refine (text_Trim.calls kj12 a0 t352 _ A37.out).mono ?_); rintro e w' ⟨rfl, ⟨nd, rfl⟩⟩; refine ⟨_, rfl, ?_⟩) | ((with_reducible refine gate_callee (f := 51) rfl ?_); refine goesL_ (some 73) rfl rfl Tryd.func51 (by kernel_rfl) rfl #[.string a0] rfl (by (try simp only [List.map_toArray, List.map_cons, List.map_nil]); first | done | rfl | (simp only [List.length_drop, List.length_take]; rfl)) ?_; (with_reducible refine (missiveref01_Trim.calls kj12 a0 t353 _ A38.out).mono ?_); rintro e w' ⟨rfl, ⟨nd, rfl⟩⟩; refine ⟨_, rfl, ?_⟩) | (go_at_call 52; (with_reducible refine (text_Squeeze.calls a0 t354 _ ?side1 A40.out).mono ?_); (case side1 => exact GOk.below hG (by decide) (by repeat (first | (with_reducible first | exact HB.out | apply below_alloc | apply pw_below_drewN | apply below_drew1) | exact HB.out))); rintro e w58 ⟨rfl, hb⟩; have n0_ := Aside0.mk (below_step (by repeat (first | (with_reducible first | exact HB.out | apply below_alloc | apply pw_below_drewN | apply below_drew1) | exact HB.out)) hb); clear HB; have HB := n0_; clear n0_; (try clear hb); (try clear hb2); (try clear hk); (try clear hi)) | (go_at_call 53; (with_reducible refine (missiveref01_Squeeze.calls kj12 a0 t355 _ A41.out).mono ?_); rintro e w59 ⟨rfl, hb⟩; have n0_ := Aside0.mk (below_step (by repeat (first | (with_reducible first | exact HB.out | apply below_alloc | apply pw_below_drewN | apply below_drew1) | exact HB.out)) hb); clear HB; have HB := n0_; clear n0_; (try clear hb); (try clear hb2); (try clear hk); (try clear hi)))
                    go_meet
                    case rel => exact ⟨_, (true), (by first | rfl | (simp; done) | (simp [*]; done)), H', ⟨by have := HJ5.out; have := HJ12.out; first | omega | exact Nat.le_refl _⟩, ⟨by repeat (first | (with_reducible first | exact HB.out | apply below_alloc | apply pw_below_drewN | apply below_drew1) | exact HB.out)⟩⟩
                · rw [if_neg c39] at H
                  have c39b0 : (t352.toList == t353.toList) = false := beq_eq_false_iff_ne.mpr c39
                  have c39b1 : (t352.toList != t353.toList) = true := bne_iff_ne.mpr c39
                  (first | rw [c39b0] | (simp only [i64_w, i32_w]; rw [c39b0]) | skip)
                  have H' := Aside0.mk H
                  clear H
                  go_wp2_with (first | ((with_reducible refine gate_callee (f := 50) rfl ?_); refine goesL_ (some 71) rfl rfl Tryd.func50 (by kernel_rfl) rfl #[.string a0] rfl (by (try simp only [List.map_toArray, List.map_cons, List.map_nil]); first | done | rfl | (simp only [List.length_drop, List.length_take]; rfl)) ?_; (with_reducible refine (text_Trim.calls kj12 a0 t352 _ A37.out).mono ?_); rintro e w' ⟨rfl, ⟨nd, rfl⟩⟩; refine ⟨_, rfl, ?_⟩) | ((with_reducible refine gate_callee (f := 51) rfl ?_); refine goesL_ (some 73) rfl rfl Tryd.func51 (by kernel_rfl) rfl #[.string a0] rfl (by (try simp only [List.map_toArray, List.map_cons, List.map_nil]); first | done | rfl | (simp only [List.length_drop, List.length_take]; rfl)) ?_; (with_reducible refine (missiveref01_Trim.calls kj12 a0 t353 _ A38.out).mono ?_); rintro e w' ⟨rfl, ⟨nd, rfl⟩⟩; refine ⟨_, rfl, ?_⟩))
                  go_meet
                  case rel => exact ⟨_, (true), (by first | rfl | (simp; done) | (simp [*]; done)), H', ⟨by have := HJ5.out; have := HJ12.out; first | omega | exact Nat.le_refl _⟩, ⟨by repeat (first | (with_reducible first | exact HB.out | apply below_alloc | apply pw_below_drewN | apply below_drew1) | exact HB.out)⟩⟩
              case rest =>
                clear HC36
                try clear c1
                try clear c2
                try clear p2
                try clear c3
                try clear c4
                try clear c5
                try clear c8
                try clear c8b0
                try clear c8b1
                try clear c9
                try clear c9b0
                try clear c9b1
                try clear c10
                try clear c14
                try clear c14b0
                try clear c14b1
                try clear c15
                try clear c15b0
                try clear c15b1
                try clear c15b2
                try clear c18
                try clear c18b0
                try clear c18b1
                try clear c21
                try clear c21b0
                try clear c21b1
                try clear c30
                try clear c32
                try clear c35
                try clear c39
                try clear c39b0
                try clear c39b1
                try clear c42
                try clear c42b0
                try clear c42b1
                try clear c45
                try clear c45b0
                try clear c45b1
                try clear c50
                try clear c51
                try clear p2
                obtain ⟨kq, x95_35, rfl, HA, HJ35, HB⟩ := hcut
                cases kq with
                | zero => exact absurd HA.out (by simp [missivelaw01_TextTells.j2])
                | succ kj35 =>
                  have H := HA.out
                  clear HA
                  simp only [missivelaw01_TextTells.j2] at H
                  by_cases c60 : x95_35 = true
                  · subst c60
                    have H1 : (some false) = some r := by rw [if_pos rfl] at H; exact H
                    clear H
                    have H := H1
                    clear H1
                    obtain rfl := Option.some.inj H
                    go_wp2
                    go_ret
                    exact ⟨by first | rfl | (simp [errW_none, errW_some] <;> rfl) | (simp [*, errW_none, errW_some] <;> rfl), by repeat (first | (with_reducible first | exact HB.out | apply below_alloc | apply pw_below_drewN | apply below_drew1) | exact HB.out)⟩
                  · replace c60 := Bool.eq_false_iff.mpr c60
                    subst c60
                    have H1 : (if t341 = true then ((text_Fields.f a0).bind fun t360 => ((missiveref01_Fields.f kj35 a0).bind fun t363 => ((missiveref01_Strings.f kj35 t360 t363).bind fun t366 => (if t366 = true then ((text_Lines.f kj35 a0).bind fun t367 => ((missiveref01_Lines.f kj35 a0).bind fun t370 => ((missiveref01_Strings.f kj35 t367 t370).bind fun t373 => (if t373 = true then ((text_Glob.f kj35 a1 a0).bind fun t374 => ((missiveref01_Glob.f kj35 a1 a0).bind fun t375 => (some (t374 == t375)))) else (some false))))) else (some false))))) else (some false)) = some r := by rw [if_neg (show ¬ (false = true) by decide)] at H; exact H
                    clear H
                    have H := H1
                    clear H1
                    by_cases c61 : t341 = true
                    · subst c61
                      have H1 : ((text_Fields.f a0).bind fun t360 => ((missiveref01_Fields.f kj35 a0).bind fun t363 => ((missiveref01_Strings.f kj35 t360 t363).bind fun t366 => (if t366 = true then ((text_Lines.f kj35 a0).bind fun t367 => ((missiveref01_Lines.f kj35 a0).bind fun t370 => ((missiveref01_Strings.f kj35 t367 t370).bind fun t373 => (if t373 = true then ((text_Glob.f kj35 a1 a0).bind fun t374 => ((missiveref01_Glob.f kj35 a1 a0).bind fun t375 => (some (t374 == t375)))) else (some false))))) else (some false))))) = some r := by rw [if_pos rfl] at H; exact H
                      clear H
                      have H := H1
                      clear H1
                      replace H := Option.bind_eq_some_iff.mp H
                      obtain ⟨t360, A620, H⟩ := H
                      replace H : ((missiveref01_Fields.f kj35 a0).bind fun t363 => ((missiveref01_Strings.f kj35 t360 t363).bind fun t366 => (if t366 = true then ((text_Lines.f kj35 a0).bind fun t367 => ((missiveref01_Lines.f kj35 a0).bind fun t370 => ((missiveref01_Strings.f kj35 t367 t370).bind fun t373 => (if t373 = true then ((text_Glob.f kj35 a1 a0).bind fun t374 => ((missiveref01_Glob.f kj35 a1 a0).bind fun t375 => (some (t374 == t375)))) else (some false))))) else (some false)))) = some r := H
                      have A62 := Aside0.mk A620
                      clear A620
                      replace H := Option.bind_eq_some_iff.mp H
                      obtain ⟨t363, A630, H⟩ := H
                      replace H : ((missiveref01_Strings.f kj35 t360 t363).bind fun t366 => (if t366 = true then ((text_Lines.f kj35 a0).bind fun t367 => ((missiveref01_Lines.f kj35 a0).bind fun t370 => ((missiveref01_Strings.f kj35 t367 t370).bind fun t373 => (if t373 = true then ((text_Glob.f kj35 a1 a0).bind fun t374 => ((missiveref01_Glob.f kj35 a1 a0).bind fun t375 => (some (t374 == t375)))) else (some false))))) else (some false))) = some r := H
                      have A63 := Aside0.mk A630
                      clear A630
                      replace H := Option.bind_eq_some_iff.mp H
                      obtain ⟨t366, A640, H⟩ := H
                      replace H : (if t366 = true then ((text_Lines.f kj35 a0).bind fun t367 => ((missiveref01_Lines.f kj35 a0).bind fun t370 => ((missiveref01_Strings.f kj35 t367 t370).bind fun t373 => (if t373 = true then ((text_Glob.f kj35 a1 a0).bind fun t374 => ((missiveref01_Glob.f kj35 a1 a0).bind fun t375 => (some (t374 == t375)))) else (some false))))) else (some false)) = some r := H
                      have A64 := Aside0.mk A640
                      clear A640
                      by_cases c65 : t366 = true
                      · subst c65
                        have H1 : ((text_Lines.f kj35 a0).bind fun t367 => ((missiveref01_Lines.f kj35 a0).bind fun t370 => ((missiveref01_Strings.f kj35 t367 t370).bind fun t373 => (if t373 = true then ((text_Glob.f kj35 a1 a0).bind fun t374 => ((missiveref01_Glob.f kj35 a1 a0).bind fun t375 => (some (t374 == t375)))) else (some false))))) = some r := by rw [if_pos rfl] at H; exact H
                        clear H
                        have H := H1
                        clear H1
                        replace H := Option.bind_eq_some_iff.mp H
                        obtain ⟨t367, A660, H⟩ := H
                        replace H : ((missiveref01_Lines.f kj35 a0).bind fun t370 => ((missiveref01_Strings.f kj35 t367 t370).bind fun t373 => (if t373 = true then ((text_Glob.f kj35 a1 a0).bind fun t374 => ((missiveref01_Glob.f kj35 a1 a0).bind fun t375 => (some (t374 == t375)))) else (some false)))) = some r := H
                        have A66 := Aside0.mk A660
                        clear A660
                        replace H := Option.bind_eq_some_iff.mp H
                        obtain ⟨t370, A670, H⟩ := H
                        replace H : ((missiveref01_Strings.f kj35 t367 t370).bind fun t373 => (if t373 = true then ((text_Glob.f kj35 a1 a0).bind fun t374 => ((missiveref01_Glob.f kj35 a1 a0).bind fun t375 => (some (t374 == t375)))) else (some false))) = some r := H
                        have A67 := Aside0.mk A670
                        clear A670
                        replace H := Option.bind_eq_some_iff.mp H
                        obtain ⟨t373, A680, H⟩ := H
                        replace H : (if t373 = true then ((text_Glob.f kj35 a1 a0).bind fun t374 => ((missiveref01_Glob.f kj35 a1 a0).bind fun t375 => (some (t374 == t375)))) else (some false)) = some r := H
                        have A68 := Aside0.mk A680
                        clear A680
                        by_cases c69 : t373 = true
                        · subst c69
                          have H1 : ((text_Glob.f kj35 a1 a0).bind fun t374 => ((missiveref01_Glob.f kj35 a1 a0).bind fun t375 => (some (t374 == t375)))) = some r := by rw [if_pos rfl] at H; exact H
                          clear H
                          have H := H1
                          clear H1
                          replace H := Option.bind_eq_some_iff.mp H
                          obtain ⟨t374, A700, H⟩ := H
                          replace H : ((missiveref01_Glob.f kj35 a1 a0).bind fun t375 => (some (t374 == t375))) = some r := H
                          have A70 := Aside0.mk A700
                          clear A700
                          replace H := Option.bind_eq_some_iff.mp H
                          obtain ⟨t375, A710, H⟩ := H
                          replace H : (some (t374 == t375)) = some r := H
                          have A71 := Aside0.mk A710
                          clear A710
                          obtain rfl := Option.some.inj H
                          go_wp2_with (first | (go_at_call 58; (with_reducible refine (text_Fields.calls a0 t360 _ ?side1 A62.out).mono ?_); (case side1 => exact GOk.below hG (by decide) (by repeat (first | (with_reducible first | exact HB.out | apply below_alloc | apply pw_below_drewN | apply below_drew1) | exact HB.out))); rintro e w72 ⟨v361, rfl, ho0, hb⟩; have n0_ := Aside0.mk (Kd.R_lower ho0 (below_size (by repeat (first | (with_reducible first | exact HB.out | apply below_alloc | apply pw_below_drewN | apply below_drew1) | exact HB.out)))); have n1_ := Aside0.mk (below_step (by repeat (first | (with_reducible first | exact HB.out | apply below_alloc | apply pw_below_drewN | apply below_drew1) | exact HB.out)) hb); clear HB; have HO362 := n0_; have HB := n1_; clear n0_ n1_; (try clear hb); (try clear hb2); (try clear hk); (try clear hi); (try clear ho0)) | (go_at_call 59; (with_reducible refine (missiveref01_Fields.calls kj35 a0 t363 _ A63.out).mono ?_); rintro e w73 ⟨v364, rfl, ho0, hb⟩; have n0_ := Aside0.mk (Kd.R_elder' (by (with_reducible repeat (first | apply Kd.R_alloc | apply Kd.R_drewN | apply Kd.R_drew)); exact HO362.out) (Kd.R_base ho0) hb); have n1_ := Aside0.mk (Kd.R_lower (Kd.R_new' ho0 (Kd.R_lt (by (with_reducible repeat (first | apply Kd.R_alloc | apply Kd.R_drewN | apply Kd.R_drew)); exact HO362.out))) (below_size (by repeat (first | (with_reducible first | exact HB.out | apply below_alloc | apply pw_below_drewN | apply below_drew1) | exact HB.out)))); have n2_ := Aside0.mk (below_step (by repeat (first | (with_reducible first | exact HB.out | apply below_alloc | apply pw_below_drewN | apply below_drew1) | exact HB.out)) hb); clear HO362; clear HB; have HO362 := n0_; have HO365 := n1_; have HB := n2_; clear n0_ n1_ n2_; (try clear hb); (try clear hb2); (try clear hk); (try clear hi); (try clear ho0); obtain ⟨Ao74, co74, eo74⟩ := Kd.R_slice HO362.out; subst eo74; obtain ⟨Ao75, co75, eo75⟩ := Kd.R_slice HO365.out; subst eo75) | (go_at_call 57; (with_reducible refine (missiveref01_Strings.calls kj35 _ _ t360 _ _ t363 true _ ?side1 ?side2 ?side3 ?side4 A64.out).mono ?_); (case side1 => repeat (first | exact (Kd.R_reads' HO362.out).2.2 | (with_reducible refine Kd.C_alloc ?_ _) | (with_reducible refine Kd.C_drewN ?_ _) | (with_reducible refine Kd.C_drew ?_))); (case side2 => exact (Kd.R_reads' HO362.out).2.1); (case side3 => repeat (first | exact (Kd.R_reads' HO365.out).2.2 | (with_reducible refine Kd.C_alloc ?_ _) | (with_reducible refine Kd.C_drewN ?_ _) | (with_reducible refine Kd.C_drew ?_))); (case side4 => exact (Kd.R_reads' HO365.out).2.1); rintro e w' ⟨rfl, ⟨nd, rfl⟩⟩) | (go_at_call 60; (with_reducible refine (text_Lines.calls kj35 a0 t367 _ ?side1 A66.out).mono ?_); (case side1 => exact GOk.below hG (by decide) (by repeat (first | (with_reducible first | exact HB.out | apply below_alloc | apply pw_below_drewN | apply below_drew1) | exact HB.out))); rintro e w76 ⟨v368, rfl, ho0, hb⟩; have n0_ := Aside0.mk (Kd.R_elder' (by (with_reducible repeat (first | apply Kd.R_alloc | apply Kd.R_drewN | apply Kd.R_drew)); exact HO362.out) (Kd.R_base ho0) hb); have n1_ := Aside0.mk (Kd.R_elder' (by (with_reducible repeat (first | apply Kd.R_alloc | apply Kd.R_drewN | apply Kd.R_drew)); exact HO365.out) (Kd.R_base ho0) hb); have n2_ := Aside0.mk (Kd.R_lower (Kd.R_new' (Kd.R_new' ho0 (Kd.R_lt (by (with_reducible repeat (first | apply Kd.R_alloc | apply Kd.R_drewN | apply Kd.R_drew)); exact HO362.out))) (Kd.R_lt (by (with_reducible repeat (first | apply Kd.R_alloc | apply Kd.R_drewN | apply Kd.R_drew)); exact HO365.out))) (below_size (by repeat (first | (with_reducible first | exact HB.out | apply below_alloc | apply pw_below_drewN | apply below_drew1) | exact HB.out)))); have n3_ := Aside0.mk (below_step (by repeat (first | (with_reducible first | exact HB.out | apply below_alloc | apply pw_below_drewN | apply below_drew1) | exact HB.out)) hb); clear HO362; clear HO365; clear HB; have HO362 := n0_; have HO365 := n1_; have HO369 := n2_; have HB := n3_; clear n0_ n1_ n2_ n3_; (try clear hb); (try clear hb2); (try clear hk); (try clear hi); (try clear ho0)) | (go_at_call 61; (with_reducible refine (missiveref01_Lines.calls kj35 a0 t370 _ A67.out).mono ?_); rintro e w77 ⟨v371, rfl, ho0, hb⟩; have n0_ := Aside0.mk (Kd.R_elder' (by (with_reducible repeat (first | apply Kd.R_alloc | apply Kd.R_drewN | apply Kd.R_drew)); exact HO362.out) (Kd.R_base ho0) hb); have n1_ := Aside0.mk (Kd.R_elder' (by (with_reducible repeat (first | apply Kd.R_alloc | apply Kd.R_drewN | apply Kd.R_drew)); exact HO365.out) (Kd.R_base ho0) hb); have n2_ := Aside0.mk (Kd.R_elder' (by (with_reducible repeat (first | apply Kd.R_alloc | apply Kd.R_drewN | apply Kd.R_drew)); exact HO369.out) (Kd.R_base ho0) hb); have n3_ := Aside0.mk (Kd.R_lower (Kd.R_new' (Kd.R_new' (Kd.R_new' ho0 (Kd.R_lt (by (with_reducible repeat (first | apply Kd.R_alloc | apply Kd.R_drewN | apply Kd.R_drew)); exact HO362.out))) (Kd.R_lt (by (with_reducible repeat (first | apply Kd.R_alloc | apply Kd.R_drewN | apply Kd.R_drew)); exact HO365.out))) (Kd.R_lt (by (with_reducible repeat (first | apply Kd.R_alloc | apply Kd.R_drewN | apply Kd.R_drew)); exact HO369.out))) (below_size (by repeat (first | (with_reducible first | exact HB.out | apply below_alloc | apply pw_below_drewN | apply below_drew1) | exact HB.out)))); have n4_ := Aside0.mk (below_step (by repeat (first | (with_reducible first | exact HB.out | apply below_alloc | apply pw_below_drewN | apply below_drew1) | exact HB.out)) hb); clear HO362; clear HO365; clear HO369; clear HB; have HO362 := n0_; have HO365 := n1_; have HO369 := n2_; have HO372 := n3_; have HB := n4_; clear n0_ n1_ n2_ n3_ n4_; (try clear hb); (try clear hb2); (try clear hk); (try clear hi); (try clear ho0); obtain ⟨Ao78, co78, eo78⟩ := Kd.R_slice HO369.out; subst eo78; obtain ⟨Ao79, co79, eo79⟩ := Kd.R_slice HO372.out; subst eo79) | (go_at_call 57; (with_reducible refine (missiveref01_Strings.calls kj35 _ _ t367 _ _ t370 true _ ?side1 ?side2 ?side3 ?side4 A68.out).mono ?_); (case side1 => repeat (first | exact (Kd.R_reads' HO369.out).2.2 | (with_reducible refine Kd.C_alloc ?_ _) | (with_reducible refine Kd.C_drewN ?_ _) | (with_reducible refine Kd.C_drew ?_))); (case side2 => exact (Kd.R_reads' HO369.out).2.1); (case side3 => repeat (first | exact (Kd.R_reads' HO372.out).2.2 | (with_reducible refine Kd.C_alloc ?_ _) | (with_reducible refine Kd.C_drewN ?_ _) | (with_reducible refine Kd.C_drew ?_))); (case side4 => exact (Kd.R_reads' HO372.out).2.1); rintro e w' ⟨rfl, ⟨nd, rfl⟩⟩) | (go_at_call 62; (with_reducible refine (text_Glob.calls kj35 a1 a0 t374 _ A70.out).mono ?_); rintro e w' ⟨rfl, ⟨nd, rfl⟩⟩) | (go_at_call 63; (with_reducible refine (missiveref01_Glob.calls kj35 a1 a0 t375 _ A71.out).mono ?_); rintro e w80 ⟨rfl, hb⟩; have n0_ := Aside0.mk (Kd.R_below (by (with_reducible repeat (first | apply Kd.R_alloc | apply Kd.R_drewN | apply Kd.R_drew)); exact HO362.out) hb); have n1_ := Aside0.mk (Kd.R_below (by (with_reducible repeat (first | apply Kd.R_alloc | apply Kd.R_drewN | apply Kd.R_drew)); exact HO365.out) hb); have n2_ := Aside0.mk (Kd.R_below (by (with_reducible repeat (first | apply Kd.R_alloc | apply Kd.R_drewN | apply Kd.R_drew)); exact HO369.out) hb); have n3_ := Aside0.mk (Kd.R_below (by (with_reducible repeat (first | apply Kd.R_alloc | apply Kd.R_drewN | apply Kd.R_drew)); exact HO372.out) hb); have n4_ := Aside0.mk (below_step (by repeat (first | (with_reducible first | exact HB.out | apply below_alloc | apply pw_below_drewN | apply below_drew1) | exact HB.out)) hb); clear HO362; clear HO365; clear HO369; clear HO372; clear HB; have HO362 := n0_; have HO365 := n1_; have HO369 := n2_; have HO372 := n3_; have HB := n4_; clear n0_ n1_ n2_ n3_ n4_; (try clear hb); (try clear hb2); (try clear hk); (try clear hi)))
                          go_ret
                          exact ⟨by first | rfl | (simp [errW_none, errW_some] <;> rfl) | (simp [*, errW_none, errW_some] <;> rfl), by repeat (first | (with_reducible first | exact HB.out | apply below_alloc | apply pw_below_drewN | apply below_drew1) | exact HB.out)⟩
                        · replace c69 := Bool.eq_false_iff.mpr c69
                          subst c69
                          have H1 : (some false) = some r := by rw [if_neg (show ¬ (false = true) by decide)] at H; exact H
                          clear H
                          have H := H1
                          clear H1
                          obtain rfl := Option.some.inj H
                          go_wp2_with (first | (go_at_call 58; (with_reducible refine (text_Fields.calls a0 t360 _ ?side1 A62.out).mono ?_); (case side1 => exact GOk.below hG (by decide) (by repeat (first | (with_reducible first | exact HB.out | apply below_alloc | apply pw_below_drewN | apply below_drew1) | exact HB.out))); rintro e w81 ⟨v361, rfl, ho0, hb⟩; have n0_ := Aside0.mk (Kd.R_lower ho0 (below_size (by repeat (first | (with_reducible first | exact HB.out | apply below_alloc | apply pw_below_drewN | apply below_drew1) | exact HB.out)))); have n1_ := Aside0.mk (below_step (by repeat (first | (with_reducible first | exact HB.out | apply below_alloc | apply pw_below_drewN | apply below_drew1) | exact HB.out)) hb); clear HB; have HO362 := n0_; have HB := n1_; clear n0_ n1_; (try clear hb); (try clear hb2); (try clear hk); (try clear hi); (try clear ho0)) | (go_at_call 59; (with_reducible refine (missiveref01_Fields.calls kj35 a0 t363 _ A63.out).mono ?_); rintro e w82 ⟨v364, rfl, ho0, hb⟩; have n0_ := Aside0.mk (Kd.R_elder' (by (with_reducible repeat (first | apply Kd.R_alloc | apply Kd.R_drewN | apply Kd.R_drew)); exact HO362.out) (Kd.R_base ho0) hb); have n1_ := Aside0.mk (Kd.R_lower (Kd.R_new' ho0 (Kd.R_lt (by (with_reducible repeat (first | apply Kd.R_alloc | apply Kd.R_drewN | apply Kd.R_drew)); exact HO362.out))) (below_size (by repeat (first | (with_reducible first | exact HB.out | apply below_alloc | apply pw_below_drewN | apply below_drew1) | exact HB.out)))); have n2_ := Aside0.mk (below_step (by repeat (first | (with_reducible first | exact HB.out | apply below_alloc | apply pw_below_drewN | apply below_drew1) | exact HB.out)) hb); clear HO362; clear HB; have HO362 := n0_; have HO365 := n1_; have HB := n2_; clear n0_ n1_ n2_; (try clear hb); (try clear hb2); (try clear hk); (try clear hi); (try clear ho0); obtain ⟨Ao83, co83, eo83⟩ := Kd.R_slice HO362.out; subst eo83; obtain ⟨Ao84, co84, eo84⟩ := Kd.R_slice HO365.out; subst eo84) | (go_at_call 57; (with_reducible refine (missiveref01_Strings.calls kj35 _ _ t360 _ _ t363 true _ ?side1 ?side2 ?side3 ?side4 A64.out).mono ?_); (case side1 => repeat (first | exact (Kd.R_reads' HO362.out).2.2 | (with_reducible refine Kd.C_alloc ?_ _) | (with_reducible refine Kd.C_drewN ?_ _) | (with_reducible refine Kd.C_drew ?_))); (case side2 => exact (Kd.R_reads' HO362.out).2.1); (case side3 => repeat (first | exact (Kd.R_reads' HO365.out).2.2 | (with_reducible refine Kd.C_alloc ?_ _) | (with_reducible refine Kd.C_drewN ?_ _) | (with_reducible refine Kd.C_drew ?_))); (case side4 => exact (Kd.R_reads' HO365.out).2.1); rintro e w' ⟨rfl, ⟨nd, rfl⟩⟩) | (go_at_call 60; (with_reducible refine (text_Lines.calls kj35 a0 t367 _ ?side1 A66.out).mono ?_); (case side1 => exact GOk.below hG (by decide) (by repeat (first | (with_reducible first | exact HB.out | apply below_alloc | apply pw_below_drewN | apply below_drew1) | exact HB.out))); rintro e w85 ⟨v368, rfl, ho0, hb⟩; have n0_ := Aside0.mk (Kd.R_elder' (by (with_reducible repeat (first | apply Kd.R_alloc | apply Kd.R_drewN | apply Kd.R_drew)); exact HO362.out) (Kd.R_base ho0) hb); have n1_ := Aside0.mk (Kd.R_elder' (by (with_reducible repeat (first | apply Kd.R_alloc | apply Kd.R_drewN | apply Kd.R_drew)); exact HO365.out) (Kd.R_base ho0) hb); have n2_ := Aside0.mk (Kd.R_lower (Kd.R_new' (Kd.R_new' ho0 (Kd.R_lt (by (with_reducible repeat (first | apply Kd.R_alloc | apply Kd.R_drewN | apply Kd.R_drew)); exact HO362.out))) (Kd.R_lt (by (with_reducible repeat (first | apply Kd.R_alloc | apply Kd.R_drewN | apply Kd.R_drew)); exact HO365.out))) (below_size (by repeat (first | (with_reducible first | exact HB.out | apply below_alloc | apply pw_below_drewN | apply below_drew1) | exact HB.out)))); have n3_ := Aside0.mk (below_step (by repeat (first | (with_reducible first | exact HB.out | apply below_alloc | apply pw_below_drewN | apply below_drew1) | exact HB.out)) hb); clear HO362; clear HO365; clear HB; have HO362 := n0_; have HO365 := n1_; have HO369 := n2_; have HB := n3_; clear n0_ n1_ n2_ n3_; (try clear hb); (try clear hb2); (try clear hk); (try clear hi); (try clear ho0)) | (go_at_call 61; (with_reducible refine (missiveref01_Lines.calls kj35 a0 t370 _ A67.out).mono ?_); rintro e w86 ⟨v371, rfl, ho0, hb⟩; have n0_ := Aside0.mk (Kd.R_elder' (by (with_reducible repeat (first | apply Kd.R_alloc | apply Kd.R_drewN | apply Kd.R_drew)); exact HO362.out) (Kd.R_base ho0) hb); have n1_ := Aside0.mk (Kd.R_elder' (by (with_reducible repeat (first | apply Kd.R_alloc | apply Kd.R_drewN | apply Kd.R_drew)); exact HO365.out) (Kd.R_base ho0) hb); have n2_ := Aside0.mk (Kd.R_elder' (by (with_reducible repeat (first | apply Kd.R_alloc | apply Kd.R_drewN | apply Kd.R_drew)); exact HO369.out) (Kd.R_base ho0) hb); have n3_ := Aside0.mk (Kd.R_lower (Kd.R_new' (Kd.R_new' (Kd.R_new' ho0 (Kd.R_lt (by (with_reducible repeat (first | apply Kd.R_alloc | apply Kd.R_drewN | apply Kd.R_drew)); exact HO362.out))) (Kd.R_lt (by (with_reducible repeat (first | apply Kd.R_alloc | apply Kd.R_drewN | apply Kd.R_drew)); exact HO365.out))) (Kd.R_lt (by (with_reducible repeat (first | apply Kd.R_alloc | apply Kd.R_drewN | apply Kd.R_drew)); exact HO369.out))) (below_size (by repeat (first | (with_reducible first | exact HB.out | apply below_alloc | apply pw_below_drewN | apply below_drew1) | exact HB.out)))); have n4_ := Aside0.mk (below_step (by repeat (first | (with_reducible first | exact HB.out | apply below_alloc | apply pw_below_drewN | apply below_drew1) | exact HB.out)) hb); clear HO362; clear HO365; clear HO369; clear HB; have HO362 := n0_; have HO365 := n1_; have HO369 := n2_; have HO372 := n3_; have HB := n4_; clear n0_ n1_ n2_ n3_ n4_; (try clear hb); (try clear hb2); (try clear hk); (try clear hi); (try clear ho0); obtain ⟨Ao87, co87, eo87⟩ := Kd.R_slice HO369.out; subst eo87; obtain ⟨Ao88, co88, eo88⟩ := Kd.R_slice HO372.out; subst eo88) | (go_at_call 57; (with_reducible refine (missiveref01_Strings.calls kj35 _ _ t367 _ _ t370 false _ ?side1 ?side2 ?side3 ?side4 A68.out).mono ?_); (case side1 => repeat (first | exact (Kd.R_reads' HO369.out).2.2 | (with_reducible refine Kd.C_alloc ?_ _) | (with_reducible refine Kd.C_drewN ?_ _) | (with_reducible refine Kd.C_drew ?_))); (case side2 => exact (Kd.R_reads' HO369.out).2.1); (case side3 => repeat (first | exact (Kd.R_reads' HO372.out).2.2 | (with_reducible refine Kd.C_alloc ?_ _) | (with_reducible refine Kd.C_drewN ?_ _) | (with_reducible refine Kd.C_drew ?_))); (case side4 => exact (Kd.R_reads' HO372.out).2.1); rintro e w' ⟨rfl, ⟨nd, rfl⟩⟩))
                          go_ret
                          exact ⟨by first | rfl | (simp [errW_none, errW_some] <;> rfl) | (simp [*, errW_none, errW_some] <;> rfl), by repeat (first | (with_reducible first | exact HB.out | apply below_alloc | apply pw_below_drewN | apply below_drew1) | exact HB.out)⟩
                      · replace c65 := Bool.eq_false_iff.mpr c65
                        subst c65
                        have H1 : (some false) = some r := by rw [if_neg (show ¬ (false = true) by decide)] at H; exact H
                        clear H
                        have H := H1
                        clear H1
                        obtain rfl := Option.some.inj H
                        go_wp2_with (first | (go_at_call 58; (with_reducible refine (text_Fields.calls a0 t360 _ ?side1 A62.out).mono ?_); (case side1 => exact GOk.below hG (by decide) (by repeat (first | (with_reducible first | exact HB.out | apply below_alloc | apply pw_below_drewN | apply below_drew1) | exact HB.out))); rintro e w89 ⟨v361, rfl, ho0, hb⟩; have n0_ := Aside0.mk (Kd.R_lower ho0 (below_size (by repeat (first | (with_reducible first | exact HB.out | apply below_alloc | apply pw_below_drewN | apply below_drew1) | exact HB.out)))); have n1_ := Aside0.mk (below_step (by repeat (first | (with_reducible first | exact HB.out | apply below_alloc | apply pw_below_drewN | apply below_drew1) | exact HB.out)) hb); clear HB; have HO362 := n0_; have HB := n1_; clear n0_ n1_; (try clear hb); (try clear hb2); (try clear hk); (try clear hi); (try clear ho0)) | (go_at_call 59; (with_reducible refine (missiveref01_Fields.calls kj35 a0 t363 _ A63.out).mono ?_); rintro e w90 ⟨v364, rfl, ho0, hb⟩; have n0_ := Aside0.mk (Kd.R_elder' (by (with_reducible repeat (first | apply Kd.R_alloc | apply Kd.R_drewN | apply Kd.R_drew)); exact HO362.out) (Kd.R_base ho0) hb); have n1_ := Aside0.mk (Kd.R_lower (Kd.R_new' ho0 (Kd.R_lt (by (with_reducible repeat (first | apply Kd.R_alloc | apply Kd.R_drewN | apply Kd.R_drew)); exact HO362.out))) (below_size (by repeat (first | (with_reducible first | exact HB.out | apply below_alloc | apply pw_below_drewN | apply below_drew1) | exact HB.out)))); have n2_ := Aside0.mk (below_step (by repeat (first | (with_reducible first | exact HB.out | apply below_alloc | apply pw_below_drewN | apply below_drew1) | exact HB.out)) hb); clear HO362; clear HB; have HO362 := n0_; have HO365 := n1_; have HB := n2_; clear n0_ n1_ n2_; (try clear hb); (try clear hb2); (try clear hk); (try clear hi); (try clear ho0); obtain ⟨Ao91, co91, eo91⟩ := Kd.R_slice HO362.out; subst eo91; obtain ⟨Ao92, co92, eo92⟩ := Kd.R_slice HO365.out; subst eo92) | (go_at_call 57; (with_reducible refine (missiveref01_Strings.calls kj35 _ _ t360 _ _ t363 false _ ?side1 ?side2 ?side3 ?side4 A64.out).mono ?_); (case side1 => repeat (first | exact (Kd.R_reads' HO362.out).2.2 | (with_reducible refine Kd.C_alloc ?_ _) | (with_reducible refine Kd.C_drewN ?_ _) | (with_reducible refine Kd.C_drew ?_))); (case side2 => exact (Kd.R_reads' HO362.out).2.1); (case side3 => repeat (first | exact (Kd.R_reads' HO365.out).2.2 | (with_reducible refine Kd.C_alloc ?_ _) | (with_reducible refine Kd.C_drewN ?_ _) | (with_reducible refine Kd.C_drew ?_))); (case side4 => exact (Kd.R_reads' HO365.out).2.1); rintro e w' ⟨rfl, ⟨nd, rfl⟩⟩))
                        go_ret
                        exact ⟨by first | rfl | (simp [errW_none, errW_some] <;> rfl) | (simp [*, errW_none, errW_some] <;> rfl), by repeat (first | (with_reducible first | exact HB.out | apply below_alloc | apply pw_below_drewN | apply below_drew1) | exact HB.out)⟩
                    · replace c61 := Bool.eq_false_iff.mpr c61
                      subst c61
                      have H1 : (some false) = some r := by rw [if_neg (show ¬ (false = true) by decide)] at H; exact H
                      clear H
                      have H := H1
                      clear H1
                      obtain rfl := Option.some.inj H
                      go_wp2
                      go_ret
                      exact ⟨by first | rfl | (simp [errW_none, errW_some] <;> rfl) | (simp [*, errW_none, errW_some] <;> rfl), by repeat (first | (with_reducible first | exact HB.out | apply below_alloc | apply pw_below_drewN | apply below_drew1) | exact HB.out)⟩

end Go.Proofs.YtadnefnofbnheaaDoor.Pr

/- TextTells answers true: the plain law. -/
namespace Go.Proofs.YtadnefnofbnheaaDoor.Pr
open Go.RowKit Go.Proofs.YtadnefnofbnheaaDoorW.PrintWords Go.Proofs.YtadnefnofbnheaaDoorW.PrintLast Go.Proofs.YtadnefnofbnheaaDoorW.PrintMore

theorem small01_60 : missivelaw01_small.f 60 = some true := by kernel_rfl
theorem small01_ev : Ev (fun k => missivelaw01_small.f k) true := by
  refine ⟨60, fun k hk => ?_⟩
  obtain ⟨d, rfl⟩ : ∃ d, k = d + 60 := ⟨k - 60, by omega⟩
  clear hk
  dsimp only
  induction d with
  | zero => rw [Nat.zero_add]; exact small01_60
  | succ d ih =>
    rw [show d + 1 + 60 = d + 60 + 1 by omega]
    exact missivelaw01_small.mono (d + 60) _ ih

theorem dec_eq (n : Int) (h : -9223372036854775808 ≤ n ∧ n ≤ 9223372036854775807) : text_Decimal.f n = some ⟨(Lib.itoa n).toArray⟩ := by
  unfold text_Decimal.f strconv_Itoa.f
  rw [if_pos h.1, if_pos h.2]
  rfl

theorem tells_j2 (s t : ByteArray) (hs : s.size ≤ 300) (ht : t.size ≤ 300) : ∃ K, ∀ k, K ≤ k → missivelaw01_TextTells.j2 k s t true false = some true := by
  obtain ⟨K, b, hK⟩ := glob_ev t s (by omega) (by omega)
  refine ⟨K + 2000, fun k hk => ?_⟩
  obtain ⟨k, rfl⟩ : ∃ m, k = m + 1 := ⟨k - 1, by omega⟩
  obtain ⟨g1, g2⟩ := hK k (by omega)
  have hw := (wordsL_total s.data.toList []).2.1
  rw [ba_len] at hw
  have hll := linesP_len s.data.toList []
  rw [ba_len] at hll
  simp only [List.length_nil, Nat.zero_add] at hw hll
  rw [missivelaw01_TextTells.j2, if_neg (by simp), if_pos rfl]
  rw [show text_Fields.f s = some (wordsB s) from by unfold text_Fields.f; rw [if_pos (by omega)], Option.bind_some, rfields_ev s (by omega) k (by omega), Option.bind_some]
  rw [strings_ev _ (by simp [wordsB]; omega) k (by simp [wordsB]; omega), Option.bind_some, if_pos rfl]
  rw [lines_ev s (by omega) k (by omega), Option.bind_some, rlines_ev s (by omega) k (by omega), Option.bind_some]
  rw [strings_ev _ (by rw [List.length_map]; omega) k (by rw [List.length_map]; omega), Option.bind_some, if_pos rfl, g1, Option.bind_some, g2, Option.bind_some]
  simp

theorem tells_j1 (s t : ByteArray) (l : List ByteArray) (n : Int) (hs : s.size ≤ 300) (ht : t.size ≤ 300) (hl : l.length ≤ 40) (hu : (unl l).length ≤ 100000000000000) (hn : -9223372036854775808 ≤ n ∧ n ≤ 9223372036854775807) :
    ∃ K, ∀ k, K ≤ k → missivelaw01_TextTells.j1 k s t l n true false = some true := by
  obtain ⟨K, hK⟩ := tells_j2 s t hs ht
  refine ⟨K + 2000, fun k hk => ?_⟩
  obtain ⟨k, rfl⟩ : ∃ m, k = m + 1 := ⟨k - 1, by omega⟩
  have hj := hK k (by omega)
  obtain ⟨T, h1, h2⟩ := trim_ev s (by omega) k (by omega)
  rw [missivelaw01_TextTells.j1, if_neg (by simp), h1, Option.bind_some, h2, Option.bind_some, if_pos rfl]
  rw [show text_Squeeze.f s = some ⟨(sqz (wordsL s.data.toList [])).toArray⟩ from by unfold text_Squeeze.f; rw [if_pos (by omega)], Option.bind_some, rsqueeze_ev s (by omega) k (by omega), Option.bind_some, if_pos rfl]
  rw [show text_Unlines.f l = some ⟨(unl l).toArray⟩ from by unfold text_Unlines.f; rw [if_pos hu], Option.bind_some, runl_ev l (by omega) hu k (by omega), Option.bind_some, if_pos rfl]
  rw [dec_eq n hn, Option.bind_some, rdec_ev n hn k (by omega), Option.bind_some]
  rw [show ((⟨(Lib.itoa n).toArray⟩ : ByteArray).toList != (⟨(Lib.itoa n).toArray⟩ : ByteArray).toList) = false by simp]
  exact hj

theorem tells_j0 (s t : ByteArray) (l : List ByteArray) (n : Int) (hs : s.size ≤ 300) (ht : t.size ≤ 300) (hl : l.length ≤ 40) (hu : (unl l).length ≤ 100000000000000) (hn : -9223372036854775808 ≤ n ∧ n ≤ 9223372036854775807) :
    ∃ K, ∀ k, K ≤ k → missivelaw01_TextTells.j0 k s t l n true false = some true := by
  obtain ⟨K, hK⟩ := tells_j1 s t l n hs ht hl hu hn
  refine ⟨K + 2000, fun k hk => ?_⟩
  obtain ⟨k, rfl⟩ : ∃ m, k = m + 1 := ⟨k - 1, by omega⟩
  have hj := hK k (by omega)
  rw [missivelaw01_TextTells.j0, if_neg (by simp), number_ev t k (by omega), Option.bind_some, rnumber_ev t k (by omega), Option.bind_some, if_pos rfl]
  rw [if_neg (by simp)]
  rw [show text_Lower.f s = some (lowB s) from by unfold text_Lower.f; rw [if_pos (by omega)], show missiveref01_Lower.f s = some (lowB s) from by unfold missiveref01_Lower.f; rw [if_pos (by omega)], Option.bind_some, Option.bind_some, if_pos rfl]
  rw [show text_Upper.f s = some (upB s) from by unfold text_Upper.f; rw [if_pos (by omega)], show missiveref01_Upper.f s = some (upB s) from by unfold missiveref01_Upper.f; rw [if_pos (by omega)], Option.bind_some, Option.bind_some, if_pos rfl]
  rw [same_ev s t (by omega) k (by omega), Option.bind_some, rsame_eq s t (by omega) (by omega), Option.bind_some]
  rw [show (decide (s.data.toList.map lowC = t.data.toList.map lowC) != decide (s.data.toList.map lowC = t.data.toList.map lowC)) = false by simp]
  exact hj

theorem textTells_ev (s t : ByteArray) (l : List ByteArray) (n : Int) (hu : l.length ≤ 40 → (unl l).length ≤ 100000000000000) (hn : -9223372036854775808 ≤ n ∧ n ≤ 9223372036854775807) :
    Ev (fun k => missivelaw01_TextTells.f k s t l n) true := by
  obtain ⟨K0, hK0⟩ := small01_ev
  have big : ∀ k, 1 ≤ k → missivelaw01_TextTells.j0 k s t l n true true = some true := by
    intro k hk
    obtain ⟨k, rfl⟩ : ∃ m, k = m + 1 := ⟨k - 1, by omega⟩
    rw [missivelaw01_TextTells.j0, if_pos rfl]
  by_cases h1 : s.size > 300
  · refine ⟨K0 + 1, fun k hk => ?_⟩
    have hs := hK0 k (by omega)
    dsimp only at hs ⊢
    unfold missivelaw01_TextTells.f
    rw [hs, Option.bind_some, if_pos (by omega)]
    exact big k (by omega)
  · by_cases h2 : t.size > 300
    · refine ⟨K0 + 1, fun k hk => ?_⟩
      have hs := hK0 k (by omega)
      dsimp only at hs ⊢
      unfold missivelaw01_TextTells.f
      rw [hs, Option.bind_some, if_neg (by omega), if_pos (by omega)]
      exact big k (by omega)
    · by_cases h3 : l.length > 40
      · refine ⟨K0 + 1, fun k hk => ?_⟩
        have hs := hK0 k (by omega)
        dsimp only at hs ⊢
        unfold missivelaw01_TextTells.f
        rw [hs, Option.bind_some, if_neg (by omega), if_neg (by omega), decide_eq_true (by omega)]
        exact big k (by omega)
      · obtain ⟨K, hK⟩ := tells_j0 s t l n (by omega) (by omega) (by omega) (hu (by omega)) hn
        refine ⟨K0 + K, fun k hk => ?_⟩
        have hs := hK0 k (by omega)
        have hj := hK k (by omega)
        dsimp only at hs ⊢
        unfold missivelaw01_TextTells.f
        rw [hs, Option.bind_some, if_neg (by omega), if_neg (by omega), decide_eq_false (by omega)]
        exact hj

end Go.Proofs.YtadnefnofbnheaaDoor.Pr
