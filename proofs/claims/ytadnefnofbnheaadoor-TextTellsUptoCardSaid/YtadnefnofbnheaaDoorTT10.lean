/- Part 10 of the proof: HPLines. -/
import Derived.Test.YtadnefnofbnheaaDoorTT1
import Derived.Test.YtadnefnofbnheaaDoorTT9
import Derived.Test.YtadnefnofbnheaaDoorTT5
/- text.Lines and the reference's: both are the lines of a list of bytes. -/
namespace Go.Proofs.YtadnefnofbnheaaDoor.Pr
open Go.RowKit Go.Proofs.YtadnefnofbnheaaDoorW.PrintWords Go.Proofs.YtadnefnofbnheaaDoorW.PrintLast Go.Proofs.YtadnefnofbnheaaDoorW.PrintMore

def cutL (c : UInt8) : List UInt8 → List UInt8 × List UInt8 × Bool
  | [] => ([], [], false)
  | x :: r => if x = c then ([], r, true) else (x :: (cutL c r).1, (cutL c r).2.1, (cutL c r).2.2)

theorem cut_eq (c : UInt8) (l : List UInt8) : Lib.cut l [c] = cutL c l := by
  induction l with
  | nil => rfl
  | cons x l ih =>
    have hp : [c].isPrefixOf (x :: l) = (c == x) := by simp [List.isPrefixOf]
    have hge := Lib.index_ge l [c]
    unfold Lib.cut at ih ⊢
    rw [Lib.index, hp, cutL]
    by_cases hx : x = c
    · subst hx
      simp
    · have hcx : (c == x) = false := beq_eq_false_iff_ne.mpr (fun e => hx e.symm)
      rw [hcx, if_neg hx, ← ih]
      simp only [Bool.false_eq_true, if_false]
      by_cases hi : Lib.index l [c] = -1
      · rw [hi]; simp
      · have h0 : 0 ≤ Lib.index l [c] := by omega
        have e1 : (if (Lib.index l [c] == -1) = true then (-1 : Int) else Lib.index l [c] + 1) = Lib.index l [c] + 1 := if_neg (by simpa using hi)
        rw [e1, if_pos (by omega : 0 ≤ Lib.index l [c] + 1), if_pos h0]
        rw [show (Lib.index l [c] + 1).toNat = (Lib.index l [c]).toNat + 1 by omega]
        simp

def dropCR (l : List UInt8) : List UInt8 := Lib.trimSuffix l [13]
theorem dropCR_nil : dropCR [] = [] := by rfl
theorem dropCR_snoc (l : List UInt8) (x : UInt8) : dropCR (l ++ [x]) = if x = 13 then l else l ++ [x] := by
  unfold dropCR Lib.trimSuffix Lib.hasSuffix
  have : [13].isSuffixOf (l ++ [x]) = ((13 : UInt8) == x) := by simp [List.isSuffixOf, List.isPrefixOf]
  rw [this]
  by_cases h : x = 13
  · subst h; simp
  · rw [if_neg h, if_neg (by simp; exact fun e => h e.symm)]

/-- The lines of l, where cur is what of a line has come. -/
def linesP : List UInt8 → List UInt8 → List (List UInt8)
  | [], cur => if cur = [] then [] else [cur]
  | c :: r, cur => if c = 10 then dropCR cur :: linesP r [] else linesP r (cur ++ [c])

theorem linesP_cut (l : List UInt8) : ∀ cur, linesP l cur = if (cutL 10 l).2.2 = true then dropCR (cur ++ (cutL 10 l).1) :: linesP (cutL 10 l).2.1 [] else (if cur ++ l = [] then [] else [cur ++ l]) := by
  induction l with
  | nil => intro cur; simp [linesP, cutL]
  | cons c l ih =>
    intro cur
    rw [linesP, cutL]
    by_cases h : c = 10
    · subst h; simp
    · rw [if_neg h, if_neg h, ih]
      simp
theorem cutL_len (c : UInt8) (l : List UInt8) : (cutL c l).2.1.length ≤ l.length - 1 ∧ ((cutL c l).2.2 = false → (cutL c l).1 = l ∧ (cutL c l).2.1 = []) := by
  induction l with
  | nil => simp [cutL]
  | cons x l ih =>
    rw [cutL]
    split
    · simp
    · refine ⟨by have := ih.1; simp; omega, fun h => ?_⟩
      obtain ⟨h1, h2⟩ := ih.2 h
      exact ⟨by rw [h1], h2⟩
theorem linesP_len (l : List UInt8) : ∀ cur, (linesP l cur).length ≤ cur.length + l.length := by
  induction l with
  | nil =>
    intro cur
    simp only [linesP]
    split
    · simp
    · rename_i h
      have := List.length_pos_iff.2 h
      simp; omega
  | cons c l ih =>
    intro cur
    simp only [linesP]
    split
    · have := ih []; simp at this ⊢; omega
    · have := ih (cur ++ [c]); simp at this ⊢; omega

theorem lines_l0 : ∀ (d k : Nat) (x : ByteArray) (acc : List ByteArray), x.size = d → d + 1 ≤ k → acc.length + d ≤ 1000000 →
    text_Lines.l0 k x acc = some (acc ++ (linesP x.data.toList []).map fun l => ⟨l.toArray⟩) := by
  intro d
  induction d using Nat.strongRecOn with
  | _ d ih =>
    intro k x acc hd hk ha
    obtain ⟨k, rfl⟩ : ∃ m, k = m + 1 := ⟨k - 1, by omega⟩
    rw [text_Lines.l0, ba_toList]
    by_cases h0 : x.data.toList = []
    · rw [if_pos h0, h0]
      simp [linesP]
    · have hpos : 0 < x.size := by
        rw [← ba_len]
        exact List.length_pos_iff.2 h0
      have hc : strings_Cut.f x ⟨#[10]⟩ = some (⟨(cutL 10 x.data.toList).1.toArray⟩, ⟨(cutL 10 x.data.toList).2.1.toArray⟩, (cutL 10 x.data.toList).2.2) := by
        unfold strings_Cut.f
        rw [if_pos (by omega), ← cut_eq]
      obtain ⟨hlen, hno⟩ := cutL_len 10 x.data.toList
      rw [ba_len] at hlen
      rw [if_neg h0, hc, Option.bind_some, linesP_cut]
      dsimp only
      by_cases he : (cutL 10 x.data.toList).2.2 = true
      · have htr : ∀ l : List UInt8, l.length ≤ 1000000 → strings_TrimSuffix.f ⟨l.toArray⟩ ⟨#[13]⟩ = some ⟨(dropCR l).toArray⟩ := by
          intro l hl
          unfold strings_TrimSuffix.f dropCR
          rw [if_pos (by rw [sz_mk]; omega)]
        have hl1 : (cutL 10 x.data.toList).1.length ≤ x.data.toList.length := by
          have := (Lib.cut x.data.toList [10]).1
          clear hc hlen hno he h0 htr ih
          generalize x.data.toList = l
          induction l with
          | nil => simp [cutL]
          | cons c l ih => rw [cutL]; split <;> simp; omega
        rw [ba_len] at hl1
        rw [if_pos he, if_pos he, htr _ (by omega), Option.bind_some, if_pos (by omega), ih _ (by rw [sz_mk]; omega) k _ _ rfl (by rw [sz_mk]; omega) (by rw [sz_mk, List.length_append]; simp; omega)]
        simp
      · obtain ⟨e1, e2⟩ := hno (by simpa using he)
        rw [if_neg he, if_neg he, if_pos (by omega), ih _ (by rw [sz_mk]; omega) k _ _ rfl (by rw [sz_mk]; omega) (by rw [sz_mk, List.length_append]; simp; omega), e1, e2, List.nil_append, if_neg h0]
        simp [linesP]
theorem lines_ev (s : ByteArray) (hs : s.size ≤ 1000000) (k : Nat) (hk : s.size + 1 ≤ k) : text_Lines.f k s = some ((linesP s.data.toList []).map fun l => ⟨l.toArray⟩) := by
  unfold text_Lines.f
  have := lines_l0 s.size k s [] rfl hk (by simpa using hs)
  simpa using this

theorem rlines_l0 (s : ByteArray) (hs : s.size ≤ 1000000) : ∀ (d i : Nat), s.size - i = d → i ≤ s.size →
    ∀ (k : Nat) (acc : List ByteArray) (a : Nat), d + 1 ≤ k → acc.length + d + 1 ≤ 1000001 → a ≤ i →
    missiveref01_Lines.l0 k s acc a i = some (acc ++ (linesP (s.data.toList.drop i) ((s.data.toList.take i).drop a)).map fun l => ⟨l.toArray⟩) := by
  intro d
  induction d with
  | zero =>
    intro i hd hi k acc a hk hac hai
    obtain ⟨k, rfl⟩ : ∃ m, k = m + 1 := ⟨k - 1, by omega⟩
    obtain rfl : i = s.size := by omega
    have hdr : s.data.toList.drop s.size = [] := by rw [← ba_len, List.drop_length]
    have htk : s.data.toList.take s.size = s.data.toList := by rw [← ba_len, List.take_length]
    rw [missiveref01_Lines.l0, if_neg (by omega), hdr, linesP, htk]
    by_cases h : a < s.size
    · have hne : s.data.toList.drop a ≠ [] := by
        intro e
        have := congrArg List.length e
        simp at this
        try rw [ba_len] at this
        omega
      rw [if_pos (by omega), if_pos (by omega), if_pos (by omega), if_pos (by omega), if_neg hne, Int.toNat_natCast, ba_drop]
      rfl
    · have he : s.data.toList.drop a = [] := List.drop_eq_nil_of_le (by rw [ba_len]; omega)
      rw [if_neg (by omega), he, if_pos rfl]
      simp
  | succ d ih =>
    intro i hd hi k acc a hk hac hai
    obtain ⟨k, rfl⟩ : ∃ m, k = m + 1 := ⟨k - 1, by omega⟩
    obtain ⟨c, r, h1, h2, h3⟩ := bt_nat s i (by omega)
    have ihn := ih (i + 1) (by omega) (by omega) k
    have hnil : ∀ acc : List ByteArray, acc.length + d + 1 ≤ 1000001 → missiveref01_Lines.l0 k s acc ((i + 1 : Nat) : Int) ((i + 1 : Nat) : Int) = some (acc ++ (linesP r []).map fun l => ⟨l.toArray⟩) := by
      intro acc h
      rw [ihn acc (i + 1) (by omega) h (by omega), h2]
      congr 4
      apply List.drop_eq_nil_of_le
      simp
      omega
    have hcut : ∀ j, j ≤ s.size → s.extract (a : Int).toNat ((j : Nat) : Int).toNat = ⟨((s.data.toList.take j).drop a).toArray⟩ := by
      intro j hj
      apply ba_inj
      rw [Int.toNat_natCast, Int.toNat_natCast, ba_extract s a j hj]
    have hcc : (c.toNat : Int) = 10 ↔ c = 10 := by
      rw [← UInt8.toNat_inj]
      show (c.toNat : Int) = 10 ↔ c.toNat = 10
      omega
    rw [missiveref01_Lines.l0, if_pos (by omega), if_pos (by omega), h3, w64_succ i (by omega), h1, linesP]
    by_cases hc : c = 10
    · rw [if_pos (hcc.2 hc), if_pos hc]
      by_cases hia : i > a
      · have e : wrap64 ((i : Int) - 1) = ((i - 1 : Nat) : Int) := by unfold wrap64; omega
        obtain ⟨c', r', h1', h2', h3'⟩ := bt_nat s (i - 1) (by omega)
        have hlt : i - 1 < s.data.toList.length := by rw [ba_len]; omega
        have hc' : s.data.toList[i - 1] = c' := by
          have := List.drop_eq_getElem_cons hlt
          rw [h1'] at this
          exact (List.cons.inj this).1.symm
        have hcur : (s.data.toList.take i).drop a = (s.data.toList.take (i - 1)).drop a ++ [c'] := by
          have : s.data.toList.take i = s.data.toList.take (i - 1) ++ [c'] := by
            conv => lhs; rw [show i = (i - 1) + 1 by omega]
            rw [List.take_succ_eq_append_getElem hlt, hc']
          rw [this, List.drop_append_of_le_length (by simp; omega)]
        have hcc' : (c'.toNat : Int) = 13 ↔ c' = 13 := by
          rw [← UInt8.toNat_inj]
          show (c'.toNat : Int) = 13 ↔ c'.toNat = 13
          omega
        rw [if_pos (by omega), e, if_pos (by omega), if_pos (by omega), h3', hcur, dropCR_snoc]
        by_cases h13 : c' = 13
        · rw [if_pos (hcc'.2 h13), if_pos h13, if_pos (by omega), if_pos (by omega), if_pos (by omega), if_pos (by omega), hnil _ (by simp; omega), hcut _ (by omega)]
          simp
        · rw [if_neg (fun h => h13 (hcc'.1 h)), if_neg h13, if_pos (by omega), if_pos (by omega), if_pos (by omega), if_pos (by omega), hnil _ (by simp; omega), hcut _ (by omega), hcur]
          simp
      · obtain rfl : a = i := by omega
        rw [if_neg (by omega), if_pos (by omega), if_pos (by omega), if_pos (by omega), if_pos (by omega), hnil _ (by simp; omega), hcut _ (by omega)]
        have : (s.data.toList.take a).drop a = [] := List.drop_eq_nil_of_le (by simp; omega)
        rw [this, dropCR_nil]
        simp
    · rw [if_neg (fun h => hc (hcc.1 h)), if_neg hc, ihn acc a (by omega) (by omega) (by omega), h2]
      congr 4
      have hlt : i < s.data.toList.length := by rw [ba_len]; omega
      have hci : s.data.toList[i] = c := by
        have := List.drop_eq_getElem_cons hlt
        rw [h1] at this
        exact (List.cons.inj this).1.symm
      rw [List.take_succ_eq_append_getElem hlt, hci, List.drop_append_of_le_length (by simp; omega)]
theorem rlines_ev (s : ByteArray) (hs : s.size ≤ 1000000) (k : Nat) (hk : s.size + 1 ≤ k) : missiveref01_Lines.f k s = some ((linesP s.data.toList []).map fun l => ⟨l.toArray⟩) := by
  unfold missiveref01_Lines.f
  have := rlines_l0 s hs s.size 0 (by omega) (by omega) k [] 0 hk (by simp; omega) (by omega)
  simpa using this

end Go.Proofs.YtadnefnofbnheaaDoor.Pr
