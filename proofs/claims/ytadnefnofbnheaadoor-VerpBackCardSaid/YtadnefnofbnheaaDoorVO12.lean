/- Part 12 of the proof: HWire. -/
import Derived.Test.YtadnefnofbnheaaDoorVO8
import Derived.Test.YtadnefnofbnheaaDoorVO7
import Derived.Test.YtadnefnofbnheaaDoorVO2
import Derived.LoopTactic
/- wire.Nums and wire.Texts: the encoding of a list is its length, '[', the encodings of the elements, ']'. -/
namespace Go.Proofs.YtadnefnofbnheaaDoor.Pr
open Go.RowKit Go.Proofs.YtadnefnofbnheaaDoorW.PrintWords Go.Proofs.YtadnefnofbnheaaDoorW.PrintLast Go.Proofs.YtadnefnofbnheaaDoorW.PrintMore

def encInt (n : Int) : List UInt8 := Lib.itoa n ++ [59]
def encInts (l : List Int) : List UInt8 := l.flatMap encInt
def encNums (l : List Int) : List UInt8 := Lib.itoa l.length ++ [91] ++ encInts l ++ [93]

theorem wire_Int_some (n : Int) (h0 : -9223372036854775808 ≤ n) (h1 : n ≤ 9223372036854775807) : wire_Int.f n = some ⟨(encInt n).toArray⟩ := by
  have hl := Lib.itoa_length_le n h0 h1
  unfold wire_Int.f strconv_Itoa.f
  rw [if_pos h0, if_pos h1, Option.bind_some, if_pos]
  · congr 1
  · show (Lib.itoa n).toArray.size + 1 ≤ _
    simp
    omega

def wire_Nums.f (l0 : List Int) : Option ByteArray :=
  if l0.length ≤ 1000000000 then (if ∀ x ∈ l0, -9223372036854775808 ≤ x ∧ x ≤ 9223372036854775807 then some ⟨(encNums l0).toArray⟩ else none) else none

theorem encInt_len (n : Int) (h0 : -9223372036854775808 ≤ n) (h1 : n ≤ 9223372036854775807) : (encInt n).length ≤ 22 := by
  have hl := Lib.itoa_length_le n h0 h1
  simp [encInt]; omega

theorem encInts_len (l : List Int) (h : ∀ x ∈ l, -9223372036854775808 ≤ x ∧ x ≤ 9223372036854775807) : (encInts l).length ≤ 22 * l.length := by
  induction l with
  | nil => simp [encInts]
  | cons x l ih =>
    have h1 := encInt_len x (h x (by simp)).1 (h x (by simp)).2
    have h2 := ih (fun y hy => h y (by simp [hy]))
    simp [encInts] at h2 ⊢
    omega

theorem encInts_snoc (l : List Int) (k : Nat) (hk : k < l.length) : encInts (l.take (k + 1)) = encInts (l.take k) ++ encInt (rdOf 0 l k) := by
  rw [List.take_succ_eq_append_getElem hk, encInts, encInts, List.flatMap_append]
  simp [rdOf, List.getD, hk]

set_option maxHeartbeats 4000000 in
set_option maxRecDepth 100000 in
theorem list_int.calls (A0 : Option Addr) (c0 : Nat) (l0 : List Int) (w : World) (hr0 : Kd.C (Kd.int .i64) w A0 l0.length l0) (hG : GOk 0 w)
    (hn : l0.length ≤ 1000000000) (hx : ∀ x ∈ l0, -9223372036854775808 ≤ x ∧ x ≤ 9223372036854775807) :
    Calls Tryd.prog 88 #[.slice A0 l0.length c0, .func (.func 20) #[] #[]] w fun e w' => e = .returned (.string ⟨(encNums l0).toArray⟩) ∧ Below w.heap.size w w' := by
  have hil := Lib.itoa_length_le l0.length (by omega) (by omega)
  have HL := encInts_len l0 hx
  have hit : strconv_Itoa.f (l0.length : Int) = some ⟨(Lib.itoa l0.length).toArray⟩ := by
    unfold strconv_Itoa.f; rw [if_pos (by omega), if_pos (by omega)]
  have Hit := Aside0.mk hit
  clear hit
  have HX := Aside0.mk hx
  clear hx
  have hb0 : Below w.heap.size w (w.alloc (.cells #[.pointer none, .slice none 0 0] 101)) := (Below.refl _ _).alloc (Nat.le_refl _) _
  have HB0 := Bld.fresh w.heap.size w (Nat.le_refl _)
  go_enter Tryd.func88, Tryd.ntmps88
  go_wp2_with fail
  refine (strconv_Itoa.calls (l0.length : Int) _ _ (hG.below (by decide) hb0) Hit.out).mono ?_
  rintro e w1 ⟨rfl, hb1⟩
  have hb1' := hb0.trans (hb1.mono (by simp))
  have HB1 := HB0.below hb1
  have hs1 : w.heap.size ≤ w1.heap.size := hb1'.size
  go_wp2_with fail
  refine (bld_WriteString _ _ _ _ _ HB1 (by rw [sz_mk]; simp; omega) hs1).mono ?_
  rintro e w2 ⟨rfl, HB2, hb2, -⟩
  have hb2' := hb1'.trans hb2
  have hs2 : w.heap.size ≤ w2.heap.size := hb2'.size
  clear HB1 HB0 hb1 hb2 hb1' hb0 hs1
  go_wp2_with fail
  refine (bld_WriteByte _ _ _ 91 _ HB2 (by simp; omega) hs2).mono ?_
  rintro e w3 ⟨rfl, HB3, hb3, -⟩
  have hb3' := hb2'.trans hb3
  clear HB2 hb2' hs2 hb3
  go_wp2_with fail
  go_loopw [15] (fun i wr => ∃ k : Nat, k ≤ l0.length ∧ i = .int .i64 k ∧ Aside0 (Bld w.heap.size w.heap.size ([] ++ Lib.itoa l0.length ++ [91] ++ encInts (l0.take k)) wr) ∧ Aside0 (Below w.heap.size w wr)) (fun i _ => l0.length - (intOf i).toNat)
  case atStart => exact ⟨0, Nat.zero_le _, rfl, ⟨by simpa [encInts] using HB3⟩, ⟨hb3'⟩⟩
  case round =>
    clear HB3 hb3'
    obtain ⟨k, hk, rfl, HB, hb⟩ := hrel
    have hs := hb.out.size
    have hlk : (encInts (l0.take k)).length ≤ 22 * k := by
      have := encInts_len (l0.take k) (fun x hx => HX.out x (List.mem_of_mem_take hx))
      have h2 : (l0.take k).length ≤ k := List.length_take_le _ _
      omega
    by_cases hlt : k < l0.length
    · obtain ⟨ad, rfl, hcell⟩ := (Kd.reads_of_C (d := (0 : Int)) (Kd.C_below hr0 hb.out)).at_ (k : Int) (by omega) (by omega)
      rw [Int.toNat_natCast] at hcell
      have hmem : rdOf 0 l0 (k : Int) ∈ l0 := by simp [rdOf, List.getD, hlt]
      obtain ⟨hx0, hx1⟩ := HX.out _ hmem
      have Hs := Aside0.mk (wire_Int_some _ hx0 hx1)
      have hel := encInt_len _ hx0 hx1
      have Hsn := Aside0.mk (encInts_snoc l0 k hlt)
      clear hmem hx0 hx1
      generalize rdOf 0 l0 (k : Int) = x at *
      go_wp2_with fail
      refine (wire_Int.calls x _ _ (hG.below (by decide) hb.out) Hs.out).mono ?_
      rintro e w4 ⟨rfl, hb4⟩
      have HB4 := HB.out.below hb4
      have hb4' := hb.out.trans (hb4.mono hs)
      have hs4 := hb4'.size
      go_wp2_with fail
      refine (bld_WriteString _ _ _ _ _ HB4 (by rw [sz_mk]; simp; omega) hs4).mono ?_
      rintro e w5 ⟨rfl, HB5, hb5, -⟩
      have hb5' := hb4'.trans hb5
      clear HB4 hb4 hb4' HB hb hcell hb5 hs4 hs
      go_wp2_with fail
      go_roundw
      case rel => exact ⟨k + 1, by omega, by go_num, ⟨by rw [Hsn.out, ← List.append_assoc]; exact HB5⟩, ⟨hb5'⟩⟩
      case measure => simp [intOf]; omega
    · obtain rfl : k = l0.length := by omega
      rw [List.take_length] at HB
      have HB := HB.out
      have hb := hb.out
      go_wp2_with fail
      refine (bld_WriteByte _ _ _ 93 _ HB (by simp; omega) hs).mono ?_
      rintro e w6 ⟨rfl, HB6, hb6, -⟩
      have hb6' := hb.trans hb6
      clear HB hb hb6
      go_wp2_with fail
      refine (bld_String _ _ _ _ HB6 hb6'.size).mono ?_
      rintro e w7 ⟨rfl, hb7⟩
      go_wp2_with fail
      go_ret
      exact ⟨by simp [encNums], hb6'.trans hb7⟩

def encText (s : ByteArray) : List UInt8 := Lib.itoa s.size ++ [58] ++ s.data.toList ++ [44]
def encStrs (l : List ByteArray) : List UInt8 := l.flatMap encText
def encTxts (l : List ByteArray) : List UInt8 := Lib.itoa l.length ++ [91] ++ encStrs l ++ [93]

theorem wire_Text_some (s : ByteArray) (h : s.size ≤ 140737488355328) : wire_Text.f s = some ⟨(encText s).toArray⟩ := by
  have hl := Lib.itoa_length_le s.size (by omega) (by omega)
  have h1 : ((⟨(Lib.itoa s.size).toArray⟩ : ByteArray)).size ≤ 21 := by rw [sz_mk]; exact hl
  unfold wire_Text.f strconv_Itoa.f
  rw [if_pos (by omega), if_pos (by omega), Option.bind_some, if_pos (by omega), if_pos, if_pos]
  · have e : encText s = Lib.itoa s.size ++ [58] ++ s.data.toList ++ [44] := rfl
    rw [e, ← ba_append, ← ba_append, ← ba_append, ba_eta]
  · rw [ByteArray.size_append, ByteArray.size_append]; show _ + 1 + s.size + 1 ≤ _; omega
  · rw [ByteArray.size_append]; show _ + 1 + s.size ≤ _; omega

theorem encStrs_snoc (l : List ByteArray) (k : Nat) (hk : k < l.length) : encStrs (l.take (k + 1)) = encStrs (l.take k) ++ encText (rdOf ByteArray.empty l k) := by
  rw [List.take_succ_eq_append_getElem hk, encStrs, encStrs, List.flatMap_append]
  simp [rdOf, List.getD, hk]
theorem encStrs_take (l : List ByteArray) (k : Nat) : (encStrs (l.take k)).length ≤ (encStrs l).length := by
  have : encStrs l = encStrs (l.take k) ++ encStrs (l.drop k) := by
    rw [encStrs, encStrs, encStrs, ← List.flatMap_append, List.take_append_drop]
  rw [this, List.length_append]; omega

set_option maxHeartbeats 4000000 in
set_option maxRecDepth 100000 in
theorem list_string.calls (A0 : Option Addr) (c0 : Nat) (l0 : List ByteArray) (w : World) (hr0 : Kd.C Kd.string w A0 l0.length l0) (hG : GOk 0 w)
    (hn : l0.length ≤ 1000000000) (HL : (encStrs l0).length ≤ 100000000000000) :
    Calls Tryd.prog 90 #[.slice A0 l0.length c0, .func (.func 22) #[] #[]] w fun e w' => e = .returned (.string ⟨(encTxts l0).toArray⟩) ∧ Below w.heap.size w w' := by
  have hil := Lib.itoa_length_le l0.length (by omega) (by omega)
  have hit : strconv_Itoa.f (l0.length : Int) = some ⟨(Lib.itoa l0.length).toArray⟩ := by
    unfold strconv_Itoa.f; rw [if_pos (by omega), if_pos (by omega)]
  have Hit := Aside0.mk hit
  clear hit
  have hb0 : Below w.heap.size w (w.alloc (.cells #[.pointer none, .slice none 0 0] 101)) := (Below.refl _ _).alloc (Nat.le_refl _) _
  have HB0 := Bld.fresh w.heap.size w (Nat.le_refl _)
  go_enter Tryd.func90, Tryd.ntmps90
  go_wp2_with fail
  refine (strconv_Itoa.calls (l0.length : Int) _ _ (hG.below (by decide) hb0) Hit.out).mono ?_
  rintro e w1 ⟨rfl, hb1⟩
  have hb1' := hb0.trans (hb1.mono (by simp))
  have HB1 := HB0.below hb1
  have hs1 : w.heap.size ≤ w1.heap.size := hb1'.size
  go_wp2_with fail
  refine (bld_WriteString _ _ _ _ _ HB1 (by rw [sz_mk]; simp; omega) hs1).mono ?_
  rintro e w2 ⟨rfl, HB2, hb2, -⟩
  have hb2' := hb1'.trans hb2
  have hs2 : w.heap.size ≤ w2.heap.size := hb2'.size
  clear HB1 HB0 hb1 hb2 hb1' hb0 hs1
  go_wp2_with fail
  refine (bld_WriteByte _ _ _ 91 _ HB2 (by simp; omega) hs2).mono ?_
  rintro e w3 ⟨rfl, HB3, hb3, -⟩
  have hb3' := hb2'.trans hb3
  clear HB2 hb2' hs2 hb3
  go_wp2_with fail
  go_loopw [15] (fun i wr => ∃ k : Nat, k ≤ l0.length ∧ i = .int .i64 k ∧ Aside0 (Bld w.heap.size w.heap.size ([] ++ Lib.itoa l0.length ++ [91] ++ encStrs (l0.take k)) wr) ∧ Aside0 (Below w.heap.size w wr)) (fun i _ => l0.length - (intOf i).toNat)
  case atStart => exact ⟨0, Nat.zero_le _, rfl, ⟨by simpa [encStrs] using HB3⟩, ⟨hb3'⟩⟩
  case round =>
    clear HB3 hb3'
    obtain ⟨k, hk, rfl, HB, hb⟩ := hrel
    have hs := hb.out.size
    have hlk := encStrs_take l0 k
    have hlk1 := encStrs_take l0 (k + 1)
    by_cases hlt : k < l0.length
    · obtain ⟨ad, rfl, hcell⟩ := (Kd.reads_of_C (d := ByteArray.empty) (Kd.C_below hr0 hb.out)).at_ (k : Int) (by omega) (by omega)
      rw [Int.toNat_natCast] at hcell
      have hsn := encStrs_snoc l0 k hlt
      have hel : (encStrs (l0.take k)).length + (encText (rdOf ByteArray.empty l0 (k : Int))).length ≤ 100000000000000 := by
        rw [← List.length_append, ← hsn]; omega
      have hsz : (rdOf ByteArray.empty l0 (k : Int)).size ≤ (encText (rdOf ByteArray.empty l0 (k : Int))).length := by simp [encText]; omega
      have Hs := Aside0.mk (wire_Text_some (rdOf ByteArray.empty l0 (k : Int)) (by omega))
      have Hsn := Aside0.mk hsn
      clear hsn
      generalize hxx : rdOf ByteArray.empty l0 (k : Int) = x at *
      clear hxx
      go_wp2_with fail
      refine (wire_Text.calls x _ _ (hG.below (by decide) hb.out) Hs.out).mono ?_
      rintro e w4 ⟨rfl, hb4⟩
      have HB4 := HB.out.below hb4
      have hb4' := hb.out.trans (hb4.mono hs)
      have hs4 := hb4'.size
      go_wp2_with fail
      refine (bld_WriteString _ _ _ _ _ HB4 (by rw [sz_mk]; simp; omega) hs4).mono ?_
      rintro e w5 ⟨rfl, HB5, hb5, -⟩
      have hb5' := hb4'.trans hb5
      clear HB4 hb4 hb4' HB hb hcell hb5 hs4 hs
      go_wp2_with fail
      go_roundw
      case rel => exact ⟨k + 1, by omega, by go_num, ⟨by rw [Hsn.out, ← List.append_assoc]; exact HB5⟩, ⟨hb5'⟩⟩
      case measure => simp [intOf]; omega
    · obtain rfl : k = l0.length := by omega
      rw [List.take_length] at HB
      have HB := HB.out
      have hb := hb.out
      go_wp2_with fail
      refine (bld_WriteByte _ _ _ 93 _ HB (by simp; omega) hs).mono ?_
      rintro e w6 ⟨rfl, HB6, hb6, -⟩
      have hb6' := hb.trans hb6
      clear HB hb hb6
      go_wp2_with fail
      refine (bld_String _ _ _ _ HB6 hb6'.size).mono ?_
      rintro e w7 ⟨rfl, hb7⟩
      go_wp2_with fail
      go_ret
      exact ⟨by simp [encTxts], hb6'.trans hb7⟩

theorem wire_Nums.calls (A0 : Option Addr) (c0 : Nat) (l0 : List Int) (r : ByteArray) (w : World) (hr0 : Kd.C (Kd.int .i64) w A0 l0.length l0) (_hc0 : l0.length ≤ c0) (hG : GOk 0 w) (h : wire_Nums.f l0 = some r) :
    Calls Tryd.prog 24 #[.slice A0 l0.length c0] w fun e w' => e = .returned (.string r) ∧ Below w.heap.size w w' := by
  unfold wire_Nums.f at h
  split at h
  · rename_i hn
    split at h
    · rename_i hx
      obtain rfl := Option.some.inj h
      have HC := Aside0.mk (list_int.calls A0 c0 l0 w hr0 hG hn hx)
      clear hx hr0
      go_enter Tryd.func24, Tryd.ntmps24
      go_wp2_with fail
      refine HC.out.mono ?_
      rintro e w' ⟨rfl, hb⟩
      go_wp2_with fail
      go_ret
      exact ⟨rfl, hb⟩
    · cases h
  · cases h

def wire_Texts.f (l0 : List ByteArray) : Option ByteArray :=
  if l0.length ≤ 1000000000 then (if (encStrs l0).length ≤ 100000000000000 then some ⟨(encTxts l0).toArray⟩ else none) else none
theorem wire_Texts.calls (A0 : Option Addr) (c0 : Nat) (l0 : List ByteArray) (r : ByteArray) (w : World) (hr0 : Kd.C Kd.string w A0 l0.length l0) (_hc0 : l0.length ≤ c0) (hG : GOk 0 w) (h : wire_Texts.f l0 = some r) :
    Calls Tryd.prog 26 #[.slice A0 l0.length c0] w fun e w' => e = .returned (.string r) ∧ Below w.heap.size w w' := by
  unfold wire_Texts.f at h
  split at h
  · rename_i hn
    split at h
    · rename_i hx
      obtain rfl := Option.some.inj h
      have HC := Aside0.mk (list_string.calls A0 c0 l0 w hr0 hG hn hx)
      clear hx hr0
      go_enter Tryd.func26, Tryd.ntmps26
      go_wp2_with fail
      refine HC.out.mono ?_
      rintro e w' ⟨rfl, hb⟩
      go_wp2_with fail
      go_ret
      exact ⟨rfl, hb⟩
    · cases h
  · cases h

end Go.Proofs.YtadnefnofbnheaaDoor.Pr
