-- Out of the translation, by this claim's own program over the kit's print.
import Derived.Test.YtadnefnofbnheaaDoorQ0
import Derived.Test.YtadnefnofbnheaaDoorQMissivelaw01Small
import Derived.Test.YtadnefnofbnheaaDoorQTextDecimal
import Derived.Test.YtadnefnofbnheaaDoorQTextNumber
import Derived.Test.YtadnefnofbnheaaDoorHG
namespace Go.Proofs.YtadnefnofbnheaaDoor.Pr
open Go.RowKit Go.Proofs.YtadnefnofbnheaaDoorW.PrintWords Go.Proofs.YtadnefnofbnheaaDoorW.PrintLast Go.Proofs.YtadnefnofbnheaaDoorW.PrintMore
attribute [local go_sem] max2_int min2_int max_two min_two max_three min_three max_four min_four   -- for this text's walks alone
set_option linter.unusedVariables false
set_option linter.unusedSimpArgs false

/-! ### missivelaw01_TextNumbers: function 4 -/
mutual
def missivelaw01_TextNumbers.j0 : Nat → Int → Int → Int → Bool → ByteArray → Int → Bool → Bool → Option (Bool)
  | 0, _, _, _, _, _, _, _, _ => none
  | k + 1, x0, x1, x2, x7, x8, x9, x10, x11 => if (x10 != x11) = true then (missivelaw01_TextNumbers.j1 k x0 x2 x7 x8 x11 true) else (if x10 = true then (if x9 = x0 then ((text_Decimal.f x1).bind fun t142 => (missivelaw01_TextNumbers.j1 k x0 x2 x7 x8 x11 ((x8.toList == t142.toList) != (x0 == x1)))) else (missivelaw01_TextNumbers.j1 k x0 x2 x7 x8 x11 true)) else ((text_Decimal.f x1).bind fun t143 => (missivelaw01_TextNumbers.j1 k x0 x2 x7 x8 x11 ((x8.toList == t143.toList) != (x0 == x1)))))
def missivelaw01_TextNumbers.j1 : Nat → Int → Int → Bool → ByteArray → Bool → Bool → Option (Bool)
  | 0, _, _, _, _, _, _ => none
  | k + 1, x0, x2, x7, x8, x11, x50 => if x50 = true then (some false) else (if x11 = true then (if x2 < 0 then (missivelaw01_TextNumbers.j2 k x0 x2 x7 x8 true) else (missivelaw01_TextNumbers.j2 k x0 x2 x7 x8 (decide (x2 > 20)))) else (missivelaw01_TextNumbers.j2 k x0 x2 x7 x8 true))
def missivelaw01_TextNumbers.j2 : Nat → Int → Int → Bool → ByteArray → Bool → Option (Bool)
  | 0, _, _, _, _, _ => none
  | k + 1, x0, x2, x7, x8, x60 => if x60 = true then (some x7) else (missivelaw01_TextNumbers.l0 k x0 x2 x7 x8 0)
def missivelaw01_TextNumbers.l0 : Nat → Int → Int → Bool → ByteArray → Int → Option (Bool)
  | 0, _, _, _, _, _ => none
  | k + 1, x0, x2, x7, x12, x13 => if x13 < x2 then (if 1 + x12.size ≤ 9223372036854775807 then (missivelaw01_TextNumbers.l0 k x0 x2 x7 ((⟨#[48]⟩ : ByteArray) ++ x12) (wrap64 (x13 + 1))) else (none)) else ((text_Number.f k x12).bind fun bt144 => (if x7 = true then (if (bt144.2 == (decide ((x12.size : Int) ≤ 15))) = true then (if bt144.2 = true then (some (bt144.1 == x0)) else (some true)) else (some false)) else (some false)))
end
def missivelaw01_TextNumbers.f (k : Nat) (a0 : Int) (a1 : Int) (a2 : Int) : Option (Bool) := (missivelaw01_small.f k).bind fun t138 => ((text_Decimal.f a0).bind fun t139 => ((text_Number.f k t139).bind fun bt140 => (if a0 ≥ 0 then (missivelaw01_TextNumbers.j0 k a0 a1 a2 t138 t139 bt140.1 bt140.2 (decide (a0 ≤ 999999999999999))) else (missivelaw01_TextNumbers.j0 k a0 a1 a2 t138 t139 bt140.1 bt140.2 false))))
theorem missivelaw01_TextNumbers.mono_l : ∀ k, (∀ y0 y1 y2 y3 y4 y5 y6 y7, LeO (missivelaw01_TextNumbers.j0 k y0 y1 y2 y3 y4 y5 y6 y7) (missivelaw01_TextNumbers.j0 (k + 1) y0 y1 y2 y3 y4 y5 y6 y7)) ∧ (∀ y0 y1 y2 y3 y4 y5, LeO (missivelaw01_TextNumbers.j1 k y0 y1 y2 y3 y4 y5) (missivelaw01_TextNumbers.j1 (k + 1) y0 y1 y2 y3 y4 y5)) ∧ (∀ y0 y1 y2 y3 y4, LeO (missivelaw01_TextNumbers.j2 k y0 y1 y2 y3 y4) (missivelaw01_TextNumbers.j2 (k + 1) y0 y1 y2 y3 y4)) ∧ (∀ y0 y1 y2 y3 y4, LeO (missivelaw01_TextNumbers.l0 k y0 y1 y2 y3 y4) (missivelaw01_TextNumbers.l0 (k + 1) y0 y1 y2 y3 y4))
  | 0 => ⟨fun _ _ _ _ _ _ _ _ r h => by simp [missivelaw01_TextNumbers.j0] at h, fun _ _ _ _ _ _ r h => by simp [missivelaw01_TextNumbers.j1] at h, fun _ _ _ _ _ r h => by simp [missivelaw01_TextNumbers.j2] at h, fun _ _ _ _ _ r h => by simp [missivelaw01_TextNumbers.l0] at h⟩
  | k + 1 => by
    obtain ⟨ih0, ih1, ih2, ih3⟩ := missivelaw01_TextNumbers.mono_l k
    refine ⟨?_, ?_, ?_, ?_⟩
    · intro y0 y1 y2 y3 y4 y5 y6 y7
      unfold missivelaw01_TextNumbers.j0
      repeat' first
      | (with_reducible exact ih0 _ _ _ _ _ _ _ _)
      | (with_reducible exact ih1 _ _ _ _ _ _)
      | (with_reducible exact ih2 _ _ _ _ _)
      | (with_reducible exact ih3 _ _ _ _ _)
      | (with_reducible exact missivelaw01_small.mono _)
      | (with_reducible exact text_Number.mono _ _)
      | (with_reducible exact LeO.refl _)
      | (with_reducible exact LeO.none _)
      | (with_reducible refine LeO.ite ?_ ?_)
      | (with_reducible refine LeO.bind ?_ (fun _ => ?_))
      | exact ih0 _ _ _ _ _ _ _ _
      | exact ih1 _ _ _ _ _ _
      | exact ih2 _ _ _ _ _
      | exact ih3 _ _ _ _ _
      | exact missivelaw01_small.mono _
      | exact text_Number.mono _ _
      | exact LeO.none _
      | refine LeO.ite ?_ ?_
      | refine LeO.bind ?_ (fun _ => ?_)
    · intro y0 y1 y2 y3 y4 y5
      unfold missivelaw01_TextNumbers.j1
      repeat' first
      | (with_reducible exact ih0 _ _ _ _ _ _ _ _)
      | (with_reducible exact ih1 _ _ _ _ _ _)
      | (with_reducible exact ih2 _ _ _ _ _)
      | (with_reducible exact ih3 _ _ _ _ _)
      | (with_reducible exact missivelaw01_small.mono _)
      | (with_reducible exact text_Number.mono _ _)
      | (with_reducible exact LeO.refl _)
      | (with_reducible exact LeO.none _)
      | (with_reducible refine LeO.ite ?_ ?_)
      | (with_reducible refine LeO.bind ?_ (fun _ => ?_))
      | exact ih0 _ _ _ _ _ _ _ _
      | exact ih1 _ _ _ _ _ _
      | exact ih2 _ _ _ _ _
      | exact ih3 _ _ _ _ _
      | exact missivelaw01_small.mono _
      | exact text_Number.mono _ _
      | exact LeO.none _
      | refine LeO.ite ?_ ?_
      | refine LeO.bind ?_ (fun _ => ?_)
    · intro y0 y1 y2 y3 y4
      unfold missivelaw01_TextNumbers.j2
      repeat' first
      | (with_reducible exact ih0 _ _ _ _ _ _ _ _)
      | (with_reducible exact ih1 _ _ _ _ _ _)
      | (with_reducible exact ih2 _ _ _ _ _)
      | (with_reducible exact ih3 _ _ _ _ _)
      | (with_reducible exact missivelaw01_small.mono _)
      | (with_reducible exact text_Number.mono _ _)
      | (with_reducible exact LeO.refl _)
      | (with_reducible exact LeO.none _)
      | (with_reducible refine LeO.ite ?_ ?_)
      | (with_reducible refine LeO.bind ?_ (fun _ => ?_))
      | exact ih0 _ _ _ _ _ _ _ _
      | exact ih1 _ _ _ _ _ _
      | exact ih2 _ _ _ _ _
      | exact ih3 _ _ _ _ _
      | exact missivelaw01_small.mono _
      | exact text_Number.mono _ _
      | exact LeO.none _
      | refine LeO.ite ?_ ?_
      | refine LeO.bind ?_ (fun _ => ?_)
    · intro y0 y1 y2 y3 y4
      unfold missivelaw01_TextNumbers.l0
      repeat' first
      | (with_reducible exact ih0 _ _ _ _ _ _ _ _)
      | (with_reducible exact ih1 _ _ _ _ _ _)
      | (with_reducible exact ih2 _ _ _ _ _)
      | (with_reducible exact ih3 _ _ _ _ _)
      | (with_reducible exact missivelaw01_small.mono _)
      | (with_reducible exact text_Number.mono _ _)
      | (with_reducible exact LeO.refl _)
      | (with_reducible exact LeO.none _)
      | (with_reducible refine LeO.ite ?_ ?_)
      | (with_reducible refine LeO.bind ?_ (fun _ => ?_))
      | exact ih0 _ _ _ _ _ _ _ _
      | exact ih1 _ _ _ _ _ _
      | exact ih2 _ _ _ _ _
      | exact ih3 _ _ _ _ _
      | exact missivelaw01_small.mono _
      | exact text_Number.mono _ _
      | exact LeO.none _
      | refine LeO.ite ?_ ?_
      | refine LeO.bind ?_ (fun _ => ?_)
theorem missivelaw01_TextNumbers.mono : ∀ a0 a1 a2 k, LeO (missivelaw01_TextNumbers.f k a0 a1 a2) (missivelaw01_TextNumbers.f (k + 1) a0 a1 a2) := by
  intro a0 a1 a2 k
  obtain ⟨ih0, ih1, ih2, ih3⟩ := missivelaw01_TextNumbers.mono_l k
  unfold missivelaw01_TextNumbers.f
  repeat' first
      | (with_reducible exact ih0 _ _ _ _ _ _ _ _)
      | (with_reducible exact ih1 _ _ _ _ _ _)
      | (with_reducible exact ih2 _ _ _ _ _)
      | (with_reducible exact ih3 _ _ _ _ _)
      | (with_reducible exact missivelaw01_small.mono _)
      | (with_reducible exact text_Number.mono _ _)
      | (with_reducible exact LeO.refl _)
      | (with_reducible exact LeO.none _)
      | (with_reducible refine LeO.ite ?_ ?_)
      | (with_reducible refine LeO.bind ?_ (fun _ => ?_))
      | exact ih0 _ _ _ _ _ _ _ _
      | exact ih1 _ _ _ _ _ _
      | exact ih2 _ _ _ _ _
      | exact ih3 _ _ _ _ _
      | exact missivelaw01_small.mono _
      | exact text_Number.mono _ _
      | exact LeO.none _
      | refine LeO.ite ?_ ?_
      | refine LeO.bind ?_ (fun _ => ?_)
set_option maxHeartbeats 8000000 in
set_option maxRecDepth 100000 in
theorem missivelaw01_TextNumbers.calls (k : Nat) (a0 : Int) (a1 : Int) (a2 : Int) (r : Bool) (w : World) (hG : GOk 0 w) (h : missivelaw01_TextNumbers.f k a0 a1 a2 = some r) :
    Calls Tryd.prog 4 #[.int .i64 a0, .int .i64 a1, .int .i64 a2] w fun e w' => e = .returned (.bool r) ∧ Below w.heap.size w w' := by
  have HB := Aside0.mk (Below.refl w.heap.size w)
  have H : ((missivelaw01_small.f k).bind fun t138 => ((text_Decimal.f a0).bind fun t139 => ((text_Number.f k t139).bind fun bt140 => (if a0 ≥ 0 then (missivelaw01_TextNumbers.j0 k a0 a1 a2 t138 t139 bt140.1 bt140.2 (decide (a0 ≤ 999999999999999))) else (missivelaw01_TextNumbers.j0 k a0 a1 a2 t138 t139 bt140.1 bt140.2 false))))) = some r := h
  clear h
  replace H := Option.bind_eq_some_iff.mp H
  obtain ⟨t138, A40, H⟩ := H
  replace H : ((text_Decimal.f a0).bind fun t139 => ((text_Number.f k t139).bind fun bt140 => (if a0 ≥ 0 then (missivelaw01_TextNumbers.j0 k a0 a1 a2 t138 t139 bt140.1 bt140.2 (decide (a0 ≤ 999999999999999))) else (missivelaw01_TextNumbers.j0 k a0 a1 a2 t138 t139 bt140.1 bt140.2 false)))) = some r := H
  have A4 := Aside0.mk A40
  clear A40
  replace H := Option.bind_eq_some_iff.mp H
  obtain ⟨t139, A50, H⟩ := H
  replace H : ((text_Number.f k t139).bind fun bt140 => (if a0 ≥ 0 then (missivelaw01_TextNumbers.j0 k a0 a1 a2 t138 t139 bt140.1 bt140.2 (decide (a0 ≤ 999999999999999))) else (missivelaw01_TextNumbers.j0 k a0 a1 a2 t138 t139 bt140.1 bt140.2 false))) = some r := H
  have A5 := Aside0.mk A50
  clear A50
  replace H := Option.bind_eq_some_iff.mp H
  obtain ⟨⟨t140, t141⟩, A60, H⟩ := H
  replace H : (if a0 ≥ 0 then (missivelaw01_TextNumbers.j0 k a0 a1 a2 t138 t139 t140 t141 (decide (a0 ≤ 999999999999999))) else (missivelaw01_TextNumbers.j0 k a0 a1 a2 t138 t139 t140 t141 false)) = some r := H
  have A6 := Aside0.mk A60
  clear A60
  have HC7 := Aside0.mk H
  clear H
  go_enter Tryd.func4, Tryd.ntmps4
  go_upto_region 4 with (first | ((with_reducible refine gate_callee (f := 30) rfl ?_); refine goesL_ (some 16) rfl rfl Tryd.func30 (by kernel_rfl) rfl #[] rfl (by (try simp only [List.map_toArray, List.map_cons, List.map_nil]); first | done | rfl | (simp only [List.length_drop, List.length_take]; rfl)) ?_; (with_reducible refine (missivelaw01_small.calls k  t138 _ ?side1 A4.out).mono ?_); (case side1 => exact GOk.below hG (by decide) (by repeat (first | (with_reducible first | exact HB.out | apply below_alloc | apply pw_below_drewN | apply below_drew1) | exact HB.out))); rintro e w8 ⟨rfl, hb⟩; refine ⟨_, rfl, ?_⟩; have n0_ := Aside0.mk (below_step (by repeat (first | (with_reducible first | exact HB.out | apply below_alloc | apply pw_below_drewN | apply below_drew1) | exact HB.out)) hb); clear HB; have HB := n0_; clear n0_; (try clear hb); (try clear hb2); (try clear hk); (try clear hi)) | ((with_reducible refine gate_callee (f := 31) rfl ?_); refine goesL_ (some 18) rfl rfl Tryd.func31 (by kernel_rfl) rfl #[.int .i64 a0] rfl (by (try simp only [List.map_toArray, List.map_cons, List.map_nil]); first | done | rfl | (simp only [List.length_drop, List.length_take]; rfl)) ?_; (with_reducible refine (text_Decimal.calls a0 t139 _ ?side1 A5.out).mono ?_); (case side1 => exact GOk.below hG (by decide) (by repeat (first | (with_reducible first | exact HB.out | apply below_alloc | apply pw_below_drewN | apply below_drew1) | exact HB.out))); rintro e w9 ⟨rfl, hb⟩; refine ⟨_, rfl, ?_⟩; have n0_ := Aside0.mk (below_step (by repeat (first | (with_reducible first | exact HB.out | apply below_alloc | apply pw_below_drewN | apply below_drew1) | exact HB.out)) hb); clear HB; have HB := n0_; clear n0_; (try clear hb); (try clear hb2); (try clear hk); (try clear hi)) | ((with_reducible refine gate_callee (f := 32) rfl ?_); refine goesL_ (some 21) rfl rfl Tryd.func32 (by kernel_rfl) rfl #[.string t139] rfl (by (try simp only [List.map_toArray, List.map_cons, List.map_nil]); first | done | rfl | (simp only [List.length_drop, List.length_take]; rfl)) ?_; (with_reducible refine (text_Number.calls k t139 t140 t141 _ A6.out).mono ?_); rintro e w' ⟨rfl, ⟨nd, rfl⟩⟩; refine ⟨_, rfl, ?_⟩))
  (try simp only [Act.put, List.setIfInBounds_toArray, List.set_cons_zero, List.set_cons_succ])
  go_cut [11] (fun v11 wc => ∃ (kq : Nat) (x11_6 : Bool), v11 = .bool x11_6 ∧ Aside0 (missivelaw01_TextNumbers.j0 kq a0 a1 a2 t138 t139 t140 t141 x11_6 = some r) ∧ Aside0 (kq ≤ k) ∧ Aside0 (Below w.heap.size w wc))
  case first =>
    have H := HC7.out
    clear HC7
    by_cases c10 : a0 ≥ 0
    · rw [if_pos c10] at H
      have c10b0 : decide (0 ≤ a0) = true := decide_eq_true c10
      clear c10
      (first | rw [c10b0] | (simp only [i64_w, i32_w]; rw [c10b0]) | skip)
      have H' := Aside0.mk H
      clear H
      go_wp2
      go_meet
      case rel => exact ⟨_, (decide (a0 ≤ 999999999999999)), (by first | rfl | (simp; done) | (simp [*]; done)), H', ⟨by first | omega | exact Nat.le_refl _⟩, ⟨by repeat (first | (with_reducible first | exact HB.out | apply below_alloc | apply pw_below_drewN | apply below_drew1) | exact HB.out)⟩⟩
    · rw [if_neg c10] at H
      have c10b0 : decide (0 ≤ a0) = false := decide_eq_false c10
      clear c10
      (first | rw [c10b0] | (simp only [i64_w, i32_w]; rw [c10b0]) | skip)
      have H' := Aside0.mk H
      clear H
      go_wp2
      go_meet
      case rel => exact ⟨_, (false), (by first | rfl | (simp; done) | (simp [*]; done)), H', ⟨by first | omega | exact Nat.le_refl _⟩, ⟨by repeat (first | (with_reducible first | exact HB.out | apply below_alloc | apply pw_below_drewN | apply below_drew1) | exact HB.out)⟩⟩
  case rest =>
    clear HC7
    try clear c1
    try clear p2
    try clear c3
    try clear c4
    try clear c10
    try clear c10b0
    obtain ⟨kq, x11_6, rfl, HA, HJ6, HB⟩ := hcut
    cases kq with
    | zero => exact absurd HA.out (by simp [missivelaw01_TextNumbers.j0])
    | succ kj6 =>
      have H := HA.out
      clear HA
      simp only [missivelaw01_TextNumbers.j0] at H
      have HC11 := Aside0.mk H
      clear H
      go_upto_region 5 with (fail)
      go_cut [50] (fun v50 wc => ∃ (kq : Nat) (x50_10 : Bool), v50 = .bool x50_10 ∧ Aside0 (missivelaw01_TextNumbers.j1 kq a0 a2 t138 t139 x11_6 x50_10 = some r) ∧ Aside0 (kq ≤ kj6) ∧ Aside0 (Below w.heap.size w wc))
      case first =>
        have H := HC11.out
        clear HC11
        by_cases c12 : (t141 != x11_6) = true
        · rw [if_pos c12] at H
          have c12b0 : (t141 != x11_6) = true := c12
          (try (have c12b1 : decide (t141 = x11_6) = false := by simpa using c12))
          (try (have c12b2 : (t141 == x11_6) = false := by simpa using c12))
          (try (have c12b3 : ¬ (t141 = x11_6) := by simpa using c12))
          clear c12
          (first | rw [c12b0] | (simp only [i64_w, i32_w]; rw [c12b0]) | skip)
          have H' := Aside0.mk H
          clear H
          go_wp2
          go_meet
          case rel => exact ⟨_, (true), (by first | rfl | (simp; done) | (simp [*]; done)), H', ⟨by have := HJ6.out; first | omega | exact Nat.le_refl _⟩, ⟨by repeat (first | (with_reducible first | exact HB.out | apply below_alloc | apply pw_below_drewN | apply below_drew1) | exact HB.out)⟩⟩
        · rw [if_neg c12] at H
          have c12b0 : (t141 != x11_6) = false := by simpa using c12
          (try (have c12b1 : decide (t141 = x11_6) = true := by simpa using c12))
          (try (have c12b2 : (t141 == x11_6) = true := by simpa using c12))
          clear c12
          (first | rw [c12b0] | (simp only [i64_w, i32_w]; rw [c12b0]) | skip)
          by_cases c13 : t141 = true
          · subst c13
            have H1 : (if t140 = a0 then ((text_Decimal.f a1).bind fun t142 => (missivelaw01_TextNumbers.j1 kj6 a0 a2 t138 t139 x11_6 ((t139.toList == t142.toList) != (a0 == a1)))) else (missivelaw01_TextNumbers.j1 kj6 a0 a2 t138 t139 x11_6 true)) = some r := by rw [if_pos rfl] at H; exact H
            clear H
            have H := H1
            clear H1
            by_cases c14 : t140 = a0
            · rw [if_pos c14] at H
              have c14b0 : (t140 == a0) = true := beq_iff_eq.mpr c14
              have c14b1 : (t140 != a0) = false := bne_eq_false_iff_eq.mpr c14
              clear c14
              replace H := Option.bind_eq_some_iff.mp H
              obtain ⟨t142, A150, H⟩ := H
              replace H : (missivelaw01_TextNumbers.j1 kj6 a0 a2 t138 t139 x11_6 ((t139.toList == t142.toList) != (a0 == a1))) = some r := H
              have A15 := Aside0.mk A150
              clear A150
              have H' := Aside0.mk H
              clear H
              go_wp2_with (first | (go_at_call 31; (with_reducible refine (text_Decimal.calls a1 t142 _ ?side1 A15.out).mono ?_); (case side1 => exact GOk.below hG (by decide) (by repeat (first | (with_reducible first | exact HB.out | apply below_alloc | apply pw_below_drewN | apply below_drew1) | exact HB.out))); rintro e w16 ⟨rfl, hb⟩; have n0_ := Aside0.mk (below_step (by repeat (first | (with_reducible first | exact HB.out | apply below_alloc | apply pw_below_drewN | apply below_drew1) | exact HB.out)) hb); clear HB; have HB := n0_; clear n0_; (try clear hb); (try clear hb2); (try clear hk); (try clear hi)))
              go_meet
              case rel => exact ⟨_, (((t139.toList == t142.toList) != (a0 == a1))), (by first | rfl | (simp; done) | (simp [*]; done)), H', ⟨by have := HJ6.out; first | omega | exact Nat.le_refl _⟩, ⟨by repeat (first | (with_reducible first | exact HB.out | apply below_alloc | apply pw_below_drewN | apply below_drew1) | exact HB.out)⟩⟩
            · rw [if_neg c14] at H
              have c14b0 : (t140 == a0) = false := beq_eq_false_iff_ne.mpr c14
              have c14b1 : (t140 != a0) = true := bne_iff_ne.mpr c14
              have H' := Aside0.mk H
              clear H
              go_wp2
              go_meet
              case rel => exact ⟨_, (true), (by first | rfl | (simp; done) | (simp [*]; done)), H', ⟨by have := HJ6.out; first | omega | exact Nat.le_refl _⟩, ⟨by repeat (first | (with_reducible first | exact HB.out | apply below_alloc | apply pw_below_drewN | apply below_drew1) | exact HB.out)⟩⟩
          · replace c13 := Bool.eq_false_iff.mpr c13
            subst c13
            have H1 : ((text_Decimal.f a1).bind fun t143 => (missivelaw01_TextNumbers.j1 kj6 a0 a2 t138 t139 x11_6 ((t139.toList == t143.toList) != (a0 == a1)))) = some r := by rw [if_neg (show ¬ (false = true) by decide)] at H; exact H
            clear H
            have H := H1
            clear H1
            replace H := Option.bind_eq_some_iff.mp H
            obtain ⟨t143, A170, H⟩ := H
            replace H : (missivelaw01_TextNumbers.j1 kj6 a0 a2 t138 t139 x11_6 ((t139.toList == t143.toList) != (a0 == a1))) = some r := H
            have A17 := Aside0.mk A170
            clear A170
            have H' := Aside0.mk H
            clear H
            go_wp2_with (first | (go_at_call 31; (with_reducible refine (text_Decimal.calls a1 t143 _ ?side1 A17.out).mono ?_); (case side1 => exact GOk.below hG (by decide) (by repeat (first | (with_reducible first | exact HB.out | apply below_alloc | apply pw_below_drewN | apply below_drew1) | exact HB.out))); rintro e w18 ⟨rfl, hb⟩; have n0_ := Aside0.mk (below_step (by repeat (first | (with_reducible first | exact HB.out | apply below_alloc | apply pw_below_drewN | apply below_drew1) | exact HB.out)) hb); clear HB; have HB := n0_; clear n0_; (try clear hb); (try clear hb2); (try clear hk); (try clear hi)))
            go_meet
            case rel => exact ⟨_, (((t139.toList == t143.toList) != (a0 == a1))), (by first | rfl | (simp; done) | (simp [*]; done)), H', ⟨by have := HJ6.out; first | omega | exact Nat.le_refl _⟩, ⟨by repeat (first | (with_reducible first | exact HB.out | apply below_alloc | apply pw_below_drewN | apply below_drew1) | exact HB.out)⟩⟩
      case rest =>
        clear HC11
        try clear c1
        try clear p2
        try clear c3
        try clear c4
        try clear c10
        try clear c10b0
        try clear c12
        try clear c12b0
        try clear c12b1
        try clear c12b2
        try clear c13
        try clear c14
        try clear c14b0
        try clear c14b1
        try clear p2
        obtain ⟨kq, x50_10, rfl, HA, HJ10, HB⟩ := hcut
        cases kq with
        | zero => exact absurd HA.out (by simp [missivelaw01_TextNumbers.j1])
        | succ kj10 =>
          have H := HA.out
          clear HA
          simp only [missivelaw01_TextNumbers.j1] at H
          by_cases c19 : x50_10 = true
          · subst c19
            have H1 : (some false) = some r := by rw [if_pos rfl] at H; exact H
            clear H
            have H := H1
            clear H1
            obtain rfl := Option.some.inj H
            go_wp2
            go_ret
            exact ⟨by first | rfl | (simp [errW_none, errW_some] <;> rfl) | (simp [*, errW_none, errW_some] <;> rfl), by repeat (first | (with_reducible first | exact HB.out | apply below_alloc | apply pw_below_drewN | apply below_drew1) | exact HB.out)⟩
          · replace c19 := Bool.eq_false_iff.mpr c19
            subst c19
            have H1 : (if x11_6 = true then (if a2 < 0 then (missivelaw01_TextNumbers.j2 kj10 a0 a2 t138 t139 true) else (missivelaw01_TextNumbers.j2 kj10 a0 a2 t138 t139 (decide (a2 > 20)))) else (missivelaw01_TextNumbers.j2 kj10 a0 a2 t138 t139 true)) = some r := by rw [if_neg (show ¬ (false = true) by decide)] at H; exact H
            clear H
            have H := H1
            clear H1
            have HC20 := Aside0.mk H
            clear H
            go_upto_region 7 with (fail)
            go_cut [60] (fun v60 wc => ∃ (kq : Nat) (x60_19 : Bool), v60 = .bool x60_19 ∧ Aside0 (missivelaw01_TextNumbers.j2 kq a0 a2 t138 t139 x60_19 = some r) ∧ Aside0 (kq ≤ kj10) ∧ Aside0 (Below w.heap.size w wc))
            case first =>
              have H := HC20.out
              clear HC20
              by_cases c21 : x11_6 = true
              · subst c21
                have H1 : (if a2 < 0 then (missivelaw01_TextNumbers.j2 kj10 a0 a2 t138 t139 true) else (missivelaw01_TextNumbers.j2 kj10 a0 a2 t138 t139 (decide (a2 > 20)))) = some r := by rw [if_pos rfl] at H; exact H
                clear H
                have H := H1
                clear H1
                by_cases c22 : a2 < 0
                · rw [if_pos c22] at H
                  have c22b0 : decide (a2 < 0) = true := decide_eq_true c22
                  clear c22
                  (first | rw [c22b0] | (simp only [i64_w, i32_w]; rw [c22b0]) | skip)
                  have H' := Aside0.mk H
                  clear H
                  go_wp2
                  go_meet
                  case rel => exact ⟨_, (true), (by first | rfl | (simp; done) | (simp [*]; done)), H', ⟨by have := HJ6.out; have := HJ10.out; first | omega | exact Nat.le_refl _⟩, ⟨by repeat (first | (with_reducible first | exact HB.out | apply below_alloc | apply pw_below_drewN | apply below_drew1) | exact HB.out)⟩⟩
                · rw [if_neg c22] at H
                  have c22b0 : decide (a2 < 0) = false := decide_eq_false c22
                  clear c22
                  (first | rw [c22b0] | (simp only [i64_w, i32_w]; rw [c22b0]) | skip)
                  have H' := Aside0.mk H
                  clear H
                  go_wp2
                  go_meet
                  case rel => exact ⟨_, (decide (a2 > 20)), (by first | rfl | (simp; done) | (simp [*]; done)), H', ⟨by have := HJ6.out; have := HJ10.out; first | omega | exact Nat.le_refl _⟩, ⟨by repeat (first | (with_reducible first | exact HB.out | apply below_alloc | apply pw_below_drewN | apply below_drew1) | exact HB.out)⟩⟩
              · replace c21 := Bool.eq_false_iff.mpr c21
                subst c21
                have H1 : (missivelaw01_TextNumbers.j2 kj10 a0 a2 t138 t139 true) = some r := by rw [if_neg (show ¬ (false = true) by decide)] at H; exact H
                clear H
                have H := H1
                clear H1
                have H' := Aside0.mk H
                clear H
                go_wp2
                go_meet
                case rel => exact ⟨_, (true), (by first | rfl | (simp; done) | (simp [*]; done)), H', ⟨by have := HJ6.out; have := HJ10.out; first | omega | exact Nat.le_refl _⟩, ⟨by repeat (first | (with_reducible first | exact HB.out | apply below_alloc | apply pw_below_drewN | apply below_drew1) | exact HB.out)⟩⟩
            case rest =>
              clear HC20
              try clear c1
              try clear c2
              try clear p2
              try clear c3
              try clear c4
              try clear c10
              try clear c10b0
              try clear c12
              try clear c12b0
              try clear c12b1
              try clear c12b2
              try clear c13
              try clear c14
              try clear c14b0
              try clear c14b1
              try clear c19
              try clear c21
              try clear c22
              try clear c22b0
              try clear p2
              obtain ⟨kq, x60_19, rfl, HA, HJ19, HB⟩ := hcut
              cases kq with
              | zero => exact absurd HA.out (by simp [missivelaw01_TextNumbers.j2])
              | succ kj19 =>
                have H := HA.out
                clear HA
                simp only [missivelaw01_TextNumbers.j2] at H
                by_cases c23 : x60_19 = true
                · subst c23
                  have H1 : (some t138) = some r := by rw [if_pos rfl] at H; exact H
                  clear H
                  have H := H1
                  clear H1
                  obtain rfl := Option.some.inj H
                  go_wp2
                  go_ret
                  exact ⟨by first | rfl | (simp [errW_none, errW_some] <;> rfl) | (simp [*, errW_none, errW_some] <;> rfl), by repeat (first | (with_reducible first | exact HB.out | apply below_alloc | apply pw_below_drewN | apply below_drew1) | exact HB.out)⟩
                · replace c23 := Bool.eq_false_iff.mpr c23
                  subst c23
                  have H1 : (missivelaw01_TextNumbers.l0 kj19 a0 a2 t138 t139 0) = some r := by rw [if_neg (show ¬ (false = true) by decide)] at H; exact H
                  clear H
                  have H := H1
                  clear H1
                  have H' := Aside0.mk H
                  clear H
                  go_wp2
                  go_loopg [12, 13] kj19 (fun kq v12 v13 w' => ∃ (x12_4 : ByteArray) (x13_4 : Int), v12 = .string x12_4 ∧ v13 = .int .i64 x13_4 ∧ Aside0 (missivelaw01_TextNumbers.l0 kq a0 a2 t138 x12_4 x13_4 = some r) ∧ Aside0 (kq ≤ kj19) ∧ Aside0 (Below w.heap.size w w'))
                  case atStart => exact ⟨(t139), (0), (by first | rfl | (simp; done) | (simp [*]; done)), (by first | rfl | (simp; done) | (simp [*]; done)), H', ⟨Nat.le_refl _⟩, ⟨by repeat (first | (with_reducible first | exact HB.out | apply below_alloc | apply pw_below_drewN | apply below_drew1) | exact HB.out)⟩⟩
                  case round =>
                    clear H'
                    try clear c1
                    try clear c2
                    try clear p2
                    try clear c3
                    try clear c4
                    try clear c10
                    try clear c10b0
                    try clear c12
                    try clear c12b0
                    try clear c12b1
                    try clear c12b2
                    try clear c13
                    try clear c14
                    try clear c14b0
                    try clear c14b1
                    try clear c19
                    try clear c21
                    try clear c22
                    try clear c22b0
                    try clear c23
                    try clear p2
                    obtain ⟨x12_4, x13_4, rfl, rfl, HA, HK4, HB⟩ := hrel
                    cases gk with
                    | zero => exact absurd HA.out (by simp [missivelaw01_TextNumbers.l0])
                    | succ k4 =>
                      have H := HA.out
                      clear HA
                      simp only [missivelaw01_TextNumbers.l0] at H
                      by_cases c24 : x13_4 < a2
                      · rw [if_pos c24] at H
                        have c24b0 : decide (x13_4 < a2) = true := decide_eq_true c24
                        clear c24
                        by_cases c25 : 1 + x12_4.size ≤ 9223372036854775807
                        · rw [if_pos c25] at H
                          have c25b0 := eq_true c25
                          have c25b1 : decide (1 + x12_4.size ≤ 9223372036854775807) = true := decide_eq_true c25
                          try have c25b2 : (9223372036854775807 < 1 + x12_4.size) = False := eq_false (Nat.not_lt.2 c25)
                          have H' := Aside0.mk H
                          clear H
                          go_wp2
                          go_roundg k4
                          case measure => have := HJ6.out; have := HJ10.out; have := HJ19.out; have := HK4.out; omega
                          case rel => exact ⟨((⟨#[48]⟩ : ByteArray) ++ x12_4), (wrap64 (x13_4 + 1)), (by first | rfl | (simp; done) | (simp [*]; done)), (by first | rfl | (simp; done) | (simp [*]; done)), H', ⟨by have := HJ6.out; have := HJ10.out; have := HJ19.out; have := HK4.out; omega⟩, ⟨by repeat (first | (with_reducible first | exact HB.out | apply below_alloc | apply pw_below_drewN | apply below_drew1) | exact HB.out)⟩⟩
                        · rw [if_neg c25] at H
                          exact absurd H (by simp)
                      · rw [if_neg c24] at H
                        have c24b0 : decide (x13_4 < a2) = false := decide_eq_false c24
                        clear c24
                        replace H := Option.bind_eq_some_iff.mp H
                        obtain ⟨⟨t144, t145⟩, A260, H⟩ := H
                        replace H : (if t138 = true then (if (t145 == (decide ((x12_4.size : Int) ≤ 15))) = true then (if t145 = true then (some (t144 == a0)) else (some true)) else (some false)) else (some false)) = some r := H
                        have A26 := Aside0.mk A260
                        clear A260
                        by_cases c27 : t138 = true
                        · subst c27
                          have H1 : (if (t145 == (decide ((x12_4.size : Int) ≤ 15))) = true then (if t145 = true then (some (t144 == a0)) else (some true)) else (some false)) = some r := by rw [if_pos rfl] at H; exact H
                          clear H
                          have H := H1
                          clear H1
                          by_cases c28 : (t145 == (decide ((x12_4.size : Int) ≤ 15))) = true
                          · rw [if_pos c28] at H
                            have c28b0 : (t145 == (decide ((x12_4.size : Int) ≤ 15))) = true := c28
                            (try (have c28b1 : decide (t145 = (decide ((x12_4.size : Int) ≤ 15))) = true := by simpa using c28))
                            (try (have c28b2 : (t145 == (decide ((x12_4.size : Int) ≤ 15))) = true := by simpa using c28))
                            clear c28
                            by_cases c29 : t145 = true
                            · subst c29
                              have H1 : (some (t144 == a0)) = some r := by rw [if_pos rfl] at H; exact H
                              clear H
                              have H := H1
                              clear H1
                              obtain rfl := Option.some.inj H
                              go_wp2_with (first | ((with_reducible refine gate_callee (f := 32) rfl ?_); refine goesL_ (some 72) rfl rfl Tryd.func32 (by kernel_rfl) rfl #[.string x12_4] rfl (by (try simp only [List.map_toArray, List.map_cons, List.map_nil]); first | done | rfl | (simp only [List.length_drop, List.length_take]; rfl)) ?_; (with_reducible refine (text_Number.calls k4 x12_4 t144 true _ A26.out).mono ?_); rintro e w' ⟨rfl, ⟨nd, rfl⟩⟩; refine ⟨_, rfl, ?_⟩))
                              go_ret
                              exact ⟨by first | rfl | (simp [errW_none, errW_some] <;> rfl) | (simp [*, errW_none, errW_some] <;> rfl), by repeat (first | (with_reducible first | exact HB.out | apply below_alloc | apply pw_below_drewN | apply below_drew1) | exact HB.out)⟩
                            · replace c29 := Bool.eq_false_iff.mpr c29
                              subst c29
                              have H1 : (some true) = some r := by rw [if_neg (show ¬ (false = true) by decide)] at H; exact H
                              clear H
                              have H := H1
                              clear H1
                              obtain rfl := Option.some.inj H
                              go_wp2_with (first | ((with_reducible refine gate_callee (f := 32) rfl ?_); refine goesL_ (some 72) rfl rfl Tryd.func32 (by kernel_rfl) rfl #[.string x12_4] rfl (by (try simp only [List.map_toArray, List.map_cons, List.map_nil]); first | done | rfl | (simp only [List.length_drop, List.length_take]; rfl)) ?_; (with_reducible refine (text_Number.calls k4 x12_4 t144 false _ A26.out).mono ?_); rintro e w' ⟨rfl, ⟨nd, rfl⟩⟩; refine ⟨_, rfl, ?_⟩))
                              go_ret
                              exact ⟨by first | rfl | (simp [errW_none, errW_some] <;> rfl) | (simp [*, errW_none, errW_some] <;> rfl), by repeat (first | (with_reducible first | exact HB.out | apply below_alloc | apply pw_below_drewN | apply below_drew1) | exact HB.out)⟩
                          · rw [if_neg c28] at H
                            have c28b0 : (t145 == (decide ((x12_4.size : Int) ≤ 15))) = false := by simpa using c28
                            (try (have c28b1 : decide (t145 = (decide ((x12_4.size : Int) ≤ 15))) = false := by simpa using c28))
                            (try (have c28b2 : (t145 == (decide ((x12_4.size : Int) ≤ 15))) = false := by simpa using c28))
                            (try (have c28b3 : ¬ (t145 = (decide ((x12_4.size : Int) ≤ 15))) := by simpa using c28))
                            clear c28
                            obtain rfl := Option.some.inj H
                            go_wp2_with (first | ((with_reducible refine gate_callee (f := 32) rfl ?_); refine goesL_ (some 72) rfl rfl Tryd.func32 (by kernel_rfl) rfl #[.string x12_4] rfl (by (try simp only [List.map_toArray, List.map_cons, List.map_nil]); first | done | rfl | (simp only [List.length_drop, List.length_take]; rfl)) ?_; (with_reducible refine (text_Number.calls k4 x12_4 t144 t145 _ A26.out).mono ?_); rintro e w' ⟨rfl, ⟨nd, rfl⟩⟩; refine ⟨_, rfl, ?_⟩))
                            go_ret
                            exact ⟨by first | rfl | (simp [errW_none, errW_some] <;> rfl) | (simp [*, errW_none, errW_some] <;> rfl), by repeat (first | (with_reducible first | exact HB.out | apply below_alloc | apply pw_below_drewN | apply below_drew1) | exact HB.out)⟩
                        · replace c27 := Bool.eq_false_iff.mpr c27
                          subst c27
                          have H1 : (some false) = some r := by rw [if_neg (show ¬ (false = true) by decide)] at H; exact H
                          clear H
                          have H := H1
                          clear H1
                          obtain rfl := Option.some.inj H
                          go_wp2_with (first | ((with_reducible refine gate_callee (f := 32) rfl ?_); refine goesL_ (some 72) rfl rfl Tryd.func32 (by kernel_rfl) rfl #[.string x12_4] rfl (by (try simp only [List.map_toArray, List.map_cons, List.map_nil]); first | done | rfl | (simp only [List.length_drop, List.length_take]; rfl)) ?_; (with_reducible refine (text_Number.calls k4 x12_4 t144 t145 _ A26.out).mono ?_); rintro e w' ⟨rfl, ⟨nd, rfl⟩⟩; refine ⟨_, rfl, ?_⟩))
                          go_ret
                          exact ⟨by first | rfl | (simp [errW_none, errW_some] <;> rfl) | (simp [*, errW_none, errW_some] <;> rfl), by repeat (first | (with_reducible first | exact HB.out | apply below_alloc | apply pw_below_drewN | apply below_drew1) | exact HB.out)⟩

end Go.Proofs.YtadnefnofbnheaaDoor.Pr
