/- VerpDiffers: what the law's function computes, its walk, and that its answer is true. -/
import Derived.Test.YtadnefnofbnheaaDoorVO1
import Derived.Test.YtadnefnofbnheaaDoorVO2
import Derived.Test.YtadnefnofbnheaaDoorVO3
import Derived.Test.YtadnefnofbnheaaDoorVO4
import Derived.Test.YtadnefnofbnheaaDoorVO5
import Derived.Test.YtadnefnofbnheaaDoorVO6
import Derived.Test.YtadnefnofbnheaaDoorVO7
import Derived.Test.YtadnefnofbnheaaDoorVO8
import Derived.Test.YtadnefnofbnheaaDoorVO9
import Derived.Test.YtadnefnofbnheaaDoorVO10
import Derived.Test.YtadnefnofbnheaaDoorVO11
import Derived.Test.YtadnefnofbnheaaDoorVO12
import Derived.Test.YtadnefnofbnheaaDoorVO13
import Derived.Test.YtadnefnofbnheaaDoorVO14
import Derived.Test.YtadnefnofbnheaaDoorVO15
import Derived.Test.YtadnefnofbnheaaDoorVO16
namespace Go.Proofs.YtadnefnofbnheaaDoor.Pr
open Go.RowKit Go.Proofs.YtadnefnofbnheaaDoorW.PrintWords Go.Proofs.YtadnefnofbnheaaDoorW.PrintLast Go.Proofs.YtadnefnofbnheaaDoorW.PrintMore
attribute [local go_sem] max2_int min2_int max_two min_two max_three min_three max_four min_four   -- for this text's walks alone
set_option linter.unusedVariables false
set_option linter.unusedSimpArgs false

/-! ### missivelaw38_VerpDiffers: function 7 -/
mutual
def missivelaw38_VerpDiffers.j0 : Nat → ByteArray → Int → ByteArray → Int → ByteArray → Int → Int → Bool → Bool → Option (Bool)
  | 0, _, _, _, _, _, _, _, _, _ => none
  | k + 1, x0, x1, x2, x3, x4, x5, x6, x15, x45 => if x45 = true then (some x15) else ((missivelaw38_write.f k x0 (wrap64 (1 + (Int.tmod (wrap64 (x5)) 3))) x1 x2).bind fun t526 => ((missivelaw38_write.f k x0 (wrap64 (1 + (Int.tmod (wrap64 (x6)) 3))) x3 x4).bind fun t527 => (missivelaw38_VerpDiffers.l0 k x1 x2 x3 x4 x15 (wrap64 (1 + (Int.tmod (wrap64 (x5)) 3))) (wrap64 (1 + (Int.tmod (wrap64 (x6)) 3))) t526 t527 0 0)))
def missivelaw38_VerpDiffers.l0 : Nat → Int → ByteArray → Int → ByteArray → Bool → Int → Int → ByteArray → ByteArray → Int → Int → Option (Bool)
  | 0, _, _, _, _, _, _, _, _, _, _, _ => none
  | k + 1, x1, x2, x3, x4, x15, x16, x17, x18, x19, x20, x21 => if x21 < (x18.size : Int) then (if 0 ≤ x21 then (if (bt x18 x21) = 43 then (missivelaw38_VerpDiffers.l0 k x1 x2 x3 x4 x15 x16 x17 x18 x19 (wrap64 (x20 + 1)) (wrap64 (x21 + 1))) else (if (bt x18 x21) ≥ 97 then (if (bt x18 x21) ≤ 122 then (missivelaw38_VerpDiffers.l0 k x1 x2 x3 x4 x15 x16 x17 x18 x19 x20 (wrap64 (x21 + 1))) else (if (bt x18 x21) ≥ 50 then (if (bt x18 x21) ≤ 55 then (if x20 = 1 then (missivelaw38_VerpDiffers.l0 k x1 x2 x3 x4 x15 x16 x17 x18 x19 x20 (wrap64 (x21 + 1))) else (some false)) else (some false)) else (some false))) else (if (bt x18 x21) ≥ 50 then (if (bt x18 x21) ≤ 55 then (if x20 = 1 then (missivelaw38_VerpDiffers.l0 k x1 x2 x3 x4 x15 x16 x17 x18 x19 x20 (wrap64 (x21 + 1))) else (some false)) else (some false)) else (some false)))) else (none)) else (if x16 = x17 then (if x16 = 3 then (if x16 = 1 then (if x15 = true then (if x20 = 1 then (some ((x18.toList == x19.toList) == true)) else (some false)) else (some false)) else (if x15 = true then (if x20 = 1 then (some ((x18.toList == x19.toList) == (x2.toList == x4.toList))) else (some false)) else (some false))) else (if x1 = x3 then (if x16 = 1 then (if x15 = true then (if x20 = 1 then (some ((x18.toList == x19.toList) == true)) else (some false)) else (some false)) else (if x15 = true then (if x20 = 1 then (some ((x18.toList == x19.toList) == (x2.toList == x4.toList))) else (some false)) else (some false))) else (if x15 = true then (if x20 = 1 then (some ((x18.toList == x19.toList) == false)) else (some false)) else (some false)))) else (if x15 = true then (if x20 = 1 then (some ((x18.toList == x19.toList) == false)) else (some false)) else (some false)))
end
def missivelaw38_VerpDiffers.f (k : Nat) (a0 : ByteArray) (a1 : Int) (a2 : ByteArray) (a3 : Int) (a4 : ByteArray) (a5 : Int) (a6 : Int) : Option (Bool) := (missivelaw38_small.f k).bind fun t525 => (if (a0.size : Int) > 300 then (missivelaw38_VerpDiffers.j0 k a0 a1 a2 a3 a4 a5 a6 t525 true) else (if (a2.size : Int) > 300 then (missivelaw38_VerpDiffers.j0 k a0 a1 a2 a3 a4 a5 a6 t525 true) else (if (a4.size : Int) > 300 then (missivelaw38_VerpDiffers.j0 k a0 a1 a2 a3 a4 a5 a6 t525 true) else (if a1 < 0 then (missivelaw38_VerpDiffers.j0 k a0 a1 a2 a3 a4 a5 a6 t525 true) else (missivelaw38_VerpDiffers.j0 k a0 a1 a2 a3 a4 a5 a6 t525 (decide (a3 < 0)))))))
theorem missivelaw38_VerpDiffers.mono_l : ∀ k, (∀ y0 y1 y2 y3 y4 y5 y6 y7 y8, LeO (missivelaw38_VerpDiffers.j0 k y0 y1 y2 y3 y4 y5 y6 y7 y8) (missivelaw38_VerpDiffers.j0 (k + 1) y0 y1 y2 y3 y4 y5 y6 y7 y8)) ∧ (∀ y0 y1 y2 y3 y4 y5 y6 y7 y8 y9 y10, LeO (missivelaw38_VerpDiffers.l0 k y0 y1 y2 y3 y4 y5 y6 y7 y8 y9 y10) (missivelaw38_VerpDiffers.l0 (k + 1) y0 y1 y2 y3 y4 y5 y6 y7 y8 y9 y10))
  | 0 => ⟨fun _ _ _ _ _ _ _ _ _ r h => by simp [missivelaw38_VerpDiffers.j0] at h, fun _ _ _ _ _ _ _ _ _ _ _ r h => by simp [missivelaw38_VerpDiffers.l0] at h⟩
  | k + 1 => by
    obtain ⟨ih0, ih1⟩ := missivelaw38_VerpDiffers.mono_l k
    refine ⟨?_, ?_⟩
    · intro y0 y1 y2 y3 y4 y5 y6 y7 y8
      unfold missivelaw38_VerpDiffers.j0
      repeat' first
      | (with_reducible exact ih0 _ _ _ _ _ _ _ _ _)
      | (with_reducible exact ih1 _ _ _ _ _ _ _ _ _ _ _)
      | (with_reducible exact missivelaw38_small.mono _)
      | (with_reducible exact missivelaw38_write.mono _ _ _ _ _)
      | (with_reducible exact LeO.refl _)
      | (with_reducible exact LeO.none _)
      | (with_reducible refine LeO.ite ?_ ?_)
      | (with_reducible refine LeO.bind ?_ (fun _ => ?_))
      | exact ih0 _ _ _ _ _ _ _ _ _
      | exact ih1 _ _ _ _ _ _ _ _ _ _ _
      | exact missivelaw38_small.mono _
      | exact missivelaw38_write.mono _ _ _ _ _
      | exact LeO.none _
      | refine LeO.ite ?_ ?_
      | refine LeO.bind ?_ (fun _ => ?_)
    · intro y0 y1 y2 y3 y4 y5 y6 y7 y8 y9 y10
      unfold missivelaw38_VerpDiffers.l0
      repeat' first
      | (with_reducible exact ih0 _ _ _ _ _ _ _ _ _)
      | (with_reducible exact ih1 _ _ _ _ _ _ _ _ _ _ _)
      | (with_reducible exact missivelaw38_small.mono _)
      | (with_reducible exact missivelaw38_write.mono _ _ _ _ _)
      | (with_reducible exact LeO.refl _)
      | (with_reducible exact LeO.none _)
      | (with_reducible refine LeO.ite ?_ ?_)
      | (with_reducible refine LeO.bind ?_ (fun _ => ?_))
      | exact ih0 _ _ _ _ _ _ _ _ _
      | exact ih1 _ _ _ _ _ _ _ _ _ _ _
      | exact missivelaw38_small.mono _
      | exact missivelaw38_write.mono _ _ _ _ _
      | exact LeO.none _
      | refine LeO.ite ?_ ?_
      | refine LeO.bind ?_ (fun _ => ?_)
theorem missivelaw38_VerpDiffers.mono : ∀ a0 a1 a2 a3 a4 a5 a6 k, LeO (missivelaw38_VerpDiffers.f k a0 a1 a2 a3 a4 a5 a6) (missivelaw38_VerpDiffers.f (k + 1) a0 a1 a2 a3 a4 a5 a6) := by
  intro a0 a1 a2 a3 a4 a5 a6 k
  obtain ⟨ih0, ih1⟩ := missivelaw38_VerpDiffers.mono_l k
  unfold missivelaw38_VerpDiffers.f
  repeat' first
      | (with_reducible exact ih0 _ _ _ _ _ _ _ _ _)
      | (with_reducible exact ih1 _ _ _ _ _ _ _ _ _ _ _)
      | (with_reducible exact missivelaw38_small.mono _)
      | (with_reducible exact missivelaw38_write.mono _ _ _ _ _)
      | (with_reducible exact LeO.refl _)
      | (with_reducible exact LeO.none _)
      | (with_reducible refine LeO.ite ?_ ?_)
      | (with_reducible refine LeO.bind ?_ (fun _ => ?_))
      | exact ih0 _ _ _ _ _ _ _ _ _
      | exact ih1 _ _ _ _ _ _ _ _ _ _ _
      | exact missivelaw38_small.mono _
      | exact missivelaw38_write.mono _ _ _ _ _
      | exact LeO.none _
      | refine LeO.ite ?_ ?_
      | refine LeO.bind ?_ (fun _ => ?_)
set_option maxHeartbeats 8000000 in
set_option maxRecDepth 100000 in
theorem missivelaw38_VerpDiffers.calls (k : Nat) (a0 : ByteArray) (a1 : Int) (a2 : ByteArray) (a3 : Int) (a4 : ByteArray) (a5 : Int) (a6 : Int) (r : Bool) (w : World) (hG : GOk 2 w) (h : missivelaw38_VerpDiffers.f k a0 a1 a2 a3 a4 a5 a6 = some r) :
    Calls Tryd.prog 7 #[.string a0, .int .i64 a1, .string a2, .int .i64 a3, .string a4, .int .u8 a5, .int .u8 a6] w fun e w' => e = .returned (.bool r) ∧ Below w.heap.size w w' := by
  have HB := Aside0.mk (Below.refl w.heap.size w)
  have H : ((missivelaw38_small.f k).bind fun t525 => (if (a0.size : Int) > 300 then (missivelaw38_VerpDiffers.j0 k a0 a1 a2 a3 a4 a5 a6 t525 true) else (if (a2.size : Int) > 300 then (missivelaw38_VerpDiffers.j0 k a0 a1 a2 a3 a4 a5 a6 t525 true) else (if (a4.size : Int) > 300 then (missivelaw38_VerpDiffers.j0 k a0 a1 a2 a3 a4 a5 a6 t525 true) else (if a1 < 0 then (missivelaw38_VerpDiffers.j0 k a0 a1 a2 a3 a4 a5 a6 t525 true) else (missivelaw38_VerpDiffers.j0 k a0 a1 a2 a3 a4 a5 a6 t525 (decide (a3 < 0)))))))) = some r := h
  clear h
  replace H := Option.bind_eq_some_iff.mp H
  obtain ⟨t525, A80, H⟩ := H
  replace H : (if (a0.size : Int) > 300 then (missivelaw38_VerpDiffers.j0 k a0 a1 a2 a3 a4 a5 a6 t525 true) else (if (a2.size : Int) > 300 then (missivelaw38_VerpDiffers.j0 k a0 a1 a2 a3 a4 a5 a6 t525 true) else (if (a4.size : Int) > 300 then (missivelaw38_VerpDiffers.j0 k a0 a1 a2 a3 a4 a5 a6 t525 true) else (if a1 < 0 then (missivelaw38_VerpDiffers.j0 k a0 a1 a2 a3 a4 a5 a6 t525 true) else (missivelaw38_VerpDiffers.j0 k a0 a1 a2 a3 a4 a5 a6 t525 (decide (a3 < 0))))))) = some r := H
  have A8 := Aside0.mk A80
  clear A80
  have HC9 := Aside0.mk H
  clear H
  go_enter Tryd.func7, Tryd.ntmps7
  go_upto_region 2 with (first | ((with_reducible refine gate_callee (f := 33) rfl ?_); refine goesL_ (some 24) rfl rfl Tryd.func33 (by kernel_rfl) rfl #[] rfl (by (try simp only [List.map_toArray, List.map_cons, List.map_nil]); first | done | rfl | (simp only [List.length_drop, List.length_take]; rfl)) ?_; (with_reducible refine (missivelaw38_small.calls k  t525 _ ?side1 A8.out).mono ?_); (case side1 => exact GOk.below hG (by decide) (by repeat (first | (with_reducible first | exact HB.out | apply below_alloc | apply pw_below_drewN | apply below_drew1) | exact HB.out))); rintro e w10 ⟨rfl, hb⟩; refine ⟨_, rfl, ?_⟩; have n0_ := Aside0.mk (below_step (by repeat (first | (with_reducible first | exact HB.out | apply below_alloc | apply pw_below_drewN | apply below_drew1) | exact HB.out)) hb); clear HB; have HB := n0_; clear n0_; (try clear hb); (try clear hb2); (try clear hk); (try clear hi)))
  (try simp only [Act.put, List.setIfInBounds_toArray, List.set_cons_zero, List.set_cons_succ])
  go_cut [45] (fun v45 wc => ∃ (kq : Nat) (x45_8 : Bool), v45 = .bool x45_8 ∧ Aside0 (missivelaw38_VerpDiffers.j0 kq a0 a1 a2 a3 a4 a5 a6 t525 x45_8 = some r) ∧ Aside0 (kq ≤ k) ∧ Aside0 (Below w.heap.size w wc))
  case first =>
    have H := HC9.out
    clear HC9
    by_cases c11 : (a0.size : Int) > 300
    · rw [if_pos c11] at H
      have c11b0 : decide (300 < (a0.size : Int)) = true := decide_eq_true c11
      have c11b1 : decide (300 < a0.size) = true := decide_eq_true (by omega)
      clear c11
      (first | rw [c11b0] | (simp only [i64_w, i32_w]; rw [c11b0]) | skip)
      have H' := Aside0.mk H
      clear H
      go_wp2
      go_meet
      case rel => exact ⟨_, (true), (by first | rfl | (simp; done) | (simp [*]; done)), H', ⟨by first | omega | exact Nat.le_refl _⟩, ⟨by repeat (first | (with_reducible first | exact HB.out | apply below_alloc | apply pw_below_drewN | apply below_drew1) | exact HB.out)⟩⟩
    · rw [if_neg c11] at H
      have c11b0 : decide (300 < (a0.size : Int)) = false := decide_eq_false c11
      have c11b1 : decide (300 < a0.size) = false := decide_eq_false (by omega)
      clear c11
      (first | rw [c11b0] | (simp only [i64_w, i32_w]; rw [c11b0]) | skip)
      by_cases c12 : (a2.size : Int) > 300
      · rw [if_pos c12] at H
        have c12b0 : decide (300 < (a2.size : Int)) = true := decide_eq_true c12
        have c12b1 : decide (300 < a2.size) = true := decide_eq_true (by omega)
        clear c12
        have H' := Aside0.mk H
        clear H
        go_wp2
        go_meet
        case rel => exact ⟨_, (true), (by first | rfl | (simp; done) | (simp [*]; done)), H', ⟨by first | omega | exact Nat.le_refl _⟩, ⟨by repeat (first | (with_reducible first | exact HB.out | apply below_alloc | apply pw_below_drewN | apply below_drew1) | exact HB.out)⟩⟩
      · rw [if_neg c12] at H
        have c12b0 : decide (300 < (a2.size : Int)) = false := decide_eq_false c12
        have c12b1 : decide (300 < a2.size) = false := decide_eq_false (by omega)
        clear c12
        by_cases c13 : (a4.size : Int) > 300
        · rw [if_pos c13] at H
          have c13b0 : decide (300 < (a4.size : Int)) = true := decide_eq_true c13
          have c13b1 : decide (300 < a4.size) = true := decide_eq_true (by omega)
          clear c13
          have H' := Aside0.mk H
          clear H
          go_wp2
          go_meet
          case rel => exact ⟨_, (true), (by first | rfl | (simp; done) | (simp [*]; done)), H', ⟨by first | omega | exact Nat.le_refl _⟩, ⟨by repeat (first | (with_reducible first | exact HB.out | apply below_alloc | apply pw_below_drewN | apply below_drew1) | exact HB.out)⟩⟩
        · rw [if_neg c13] at H
          have c13b0 : decide (300 < (a4.size : Int)) = false := decide_eq_false c13
          have c13b1 : decide (300 < a4.size) = false := decide_eq_false (by omega)
          clear c13
          by_cases c14 : a1 < 0
          · rw [if_pos c14] at H
            have c14b0 : decide (a1 < 0) = true := decide_eq_true c14
            clear c14
            have H' := Aside0.mk H
            clear H
            go_wp2
            go_meet
            case rel => exact ⟨_, (true), (by first | rfl | (simp; done) | (simp [*]; done)), H', ⟨by first | omega | exact Nat.le_refl _⟩, ⟨by repeat (first | (with_reducible first | exact HB.out | apply below_alloc | apply pw_below_drewN | apply below_drew1) | exact HB.out)⟩⟩
          · rw [if_neg c14] at H
            have c14b0 : decide (a1 < 0) = false := decide_eq_false c14
            clear c14
            have H' := Aside0.mk H
            clear H
            go_wp2
            go_meet
            case rel => exact ⟨_, (decide (a3 < 0)), (by first | rfl | (simp; done) | (simp [*]; done)), H', ⟨by first | omega | exact Nat.le_refl _⟩, ⟨by repeat (first | (with_reducible first | exact HB.out | apply below_alloc | apply pw_below_drewN | apply below_drew1) | exact HB.out)⟩⟩
  case rest =>
    clear HC9
    try clear c1
    try clear p2
    try clear c3
    try clear c7
    try clear c11
    try clear c11b0
    try clear c11b1
    try clear c12
    try clear c12b0
    try clear c12b1
    try clear c13
    try clear c13b0
    try clear c13b1
    try clear c14
    try clear c14b0
    obtain ⟨kq, x45_8, rfl, HA, HJ8, HB⟩ := hcut
    cases kq with
    | zero => exact absurd HA.out (by simp [missivelaw38_VerpDiffers.j0])
    | succ kj8 =>
      have H := HA.out
      clear HA
      simp only [missivelaw38_VerpDiffers.j0] at H
      by_cases c15 : x45_8 = true
      · subst c15
        have H1 : (some t525) = some r := by rw [if_pos rfl] at H; exact H
        clear H
        have H := H1
        clear H1
        obtain rfl := Option.some.inj H
        go_wp2
        go_ret
        exact ⟨by first | rfl | (simp [errW_none, errW_some] <;> rfl) | (simp [*, errW_none, errW_some] <;> rfl), by repeat (first | (with_reducible first | exact HB.out | apply below_alloc | apply pw_below_drewN | apply below_drew1) | exact HB.out)⟩
      · replace c15 := Bool.eq_false_iff.mpr c15
        subst c15
        have H1 : ((missivelaw38_write.f kj8 a0 (wrap64 (1 + (Int.tmod (wrap64 (a5)) 3))) a1 a2).bind fun t526 => ((missivelaw38_write.f kj8 a0 (wrap64 (1 + (Int.tmod (wrap64 (a6)) 3))) a3 a4).bind fun t527 => (missivelaw38_VerpDiffers.l0 kj8 a1 a2 a3 a4 t525 (wrap64 (1 + (Int.tmod (wrap64 (a5)) 3))) (wrap64 (1 + (Int.tmod (wrap64 (a6)) 3))) t526 t527 0 0))) = some r := by rw [if_neg (show ¬ (false = true) by decide)] at H; exact H
        clear H
        have H := H1
        clear H1
        replace H := Option.bind_eq_some_iff.mp H
        obtain ⟨t526, A160, H⟩ := H
        replace H : ((missivelaw38_write.f kj8 a0 (wrap64 (1 + (Int.tmod (wrap64 (a6)) 3))) a3 a4).bind fun t527 => (missivelaw38_VerpDiffers.l0 kj8 a1 a2 a3 a4 t525 (wrap64 (1 + (Int.tmod (wrap64 (a5)) 3))) (wrap64 (1 + (Int.tmod (wrap64 (a6)) 3))) t526 t527 0 0)) = some r := H
        have A16 := Aside0.mk A160
        clear A160
        replace H := Option.bind_eq_some_iff.mp H
        obtain ⟨t527, A170, H⟩ := H
        replace H : (missivelaw38_VerpDiffers.l0 kj8 a1 a2 a3 a4 t525 (wrap64 (1 + (Int.tmod (wrap64 (a5)) 3))) (wrap64 (1 + (Int.tmod (wrap64 (a6)) 3))) t526 t527 0 0) = some r := H
        have A17 := Aside0.mk A170
        clear A170
        have H' := Aside0.mk H
        clear H
        go_wp2_with (first | ((with_reducible refine gate_callee (f := 42) rfl ?_); refine goesL_ (some 59) rfl rfl Tryd.func42 (by kernel_rfl) rfl #[.string a0, .int .i64 (wrap64 (1 + (Int.tmod (wrap64 (a5)) 3))), .int .i64 a1, .string a2] rfl (by (try simp only [List.map_toArray, List.map_cons, List.map_nil]); first | done | rfl | (simp only [List.length_drop, List.length_take]; rfl)) ?_; (with_reducible refine (missivelaw38_write.calls kj8 a0 (wrap64 (1 + (Int.tmod (wrap64 (a5)) 3))) a1 a2 t526 _ ?side1 A16.out).mono ?_); (case side1 => exact GOk.below hG (by decide) (by repeat (first | (with_reducible first | exact HB.out | apply below_alloc | apply pw_below_drewN | apply below_drew1) | exact HB.out))); rintro e w18 ⟨rfl, hb⟩; refine ⟨_, rfl, ?_⟩; have n0_ := Aside0.mk (below_step (by repeat (first | (with_reducible first | exact HB.out | apply below_alloc | apply pw_below_drewN | apply below_drew1) | exact HB.out)) hb); clear HB; have HB := n0_; clear n0_; (try clear hb); (try clear hb2); (try clear hk); (try clear hi)) | ((with_reducible refine gate_callee (f := 42) rfl ?_); refine goesL_ (some 64) rfl rfl Tryd.func42 (by kernel_rfl) rfl #[.string a0, .int .i64 (wrap64 (1 + (Int.tmod (wrap64 (a6)) 3))), .int .i64 a3, .string a4] rfl (by (try simp only [List.map_toArray, List.map_cons, List.map_nil]); first | done | rfl | (simp only [List.length_drop, List.length_take]; rfl)) ?_; (with_reducible refine (missivelaw38_write.calls kj8 a0 (wrap64 (1 + (Int.tmod (wrap64 (a6)) 3))) a3 a4 t527 _ ?side1 A17.out).mono ?_); (case side1 => exact GOk.below hG (by decide) (by repeat (first | (with_reducible first | exact HB.out | apply below_alloc | apply pw_below_drewN | apply below_drew1) | exact HB.out))); rintro e w19 ⟨rfl, hb⟩; refine ⟨_, rfl, ?_⟩; have n0_ := Aside0.mk (below_step (by repeat (first | (with_reducible first | exact HB.out | apply below_alloc | apply pw_below_drewN | apply below_drew1) | exact HB.out)) hb); clear HB; have HB := n0_; clear n0_; (try clear hb); (try clear hb2); (try clear hk); (try clear hi)))
        go_loopg [20, 21] kj8 (fun kq v20 v21 w' => ∃ (x20_2 : Int) (x21_2 : Int), v20 = .int .i64 x20_2 ∧ v21 = .int .i64 x21_2 ∧ Aside0 (missivelaw38_VerpDiffers.l0 kq a1 a2 a3 a4 t525 (wrap64 (1 + (Int.tmod (wrap64 (a5)) 3))) (wrap64 (1 + (Int.tmod (wrap64 (a6)) 3))) t526 t527 x20_2 x21_2 = some r) ∧ Aside0 (kq ≤ kj8) ∧ Aside0 (Below w.heap.size w w'))
        case atStart => exact ⟨(0), (0), (by first | rfl | (simp; done) | (simp [*]; done)), (by first | rfl | (simp; done) | (simp [*]; done)), H', ⟨Nat.le_refl _⟩, ⟨by repeat (first | (with_reducible first | exact HB.out | apply below_alloc | apply pw_below_drewN | apply below_drew1) | exact HB.out)⟩⟩
        case round =>
          clear H'
          try clear c1
          try clear p2
          try clear c3
          try clear c4
          try clear p6
          try clear c7
          try clear c11
          try clear c11b0
          try clear c11b1
          try clear c12
          try clear c12b0
          try clear c12b1
          try clear c13
          try clear c13b0
          try clear c13b1
          try clear c14
          try clear c14b0
          try clear c15
          try clear p2
          obtain ⟨x20_2, x21_2, rfl, rfl, HA, HK2, HB⟩ := hrel
          cases gk with
          | zero => exact absurd HA.out (by simp [missivelaw38_VerpDiffers.l0])
          | succ k2 =>
            have H := HA.out
            clear HA
            simp only [missivelaw38_VerpDiffers.l0] at H
            by_cases c20 : x21_2 < (t526.size : Int)
            · rw [if_pos c20] at H
              have c20b0 : decide (x21_2 < (t526.size : Int)) = true := decide_eq_true c20
              clear c20
              by_cases c21 : 0 ≤ x21_2
              · rw [if_pos c21] at H
                have c21b0 : decide (0 ≤ x21_2) = true := decide_eq_true c21
                clear c21
                by_cases c23 : (bt t526 x21_2) = 43
                · rw [if_pos c23] at H
                  have c23b0 : ((bt t526 x21_2) == 43) = true := beq_iff_eq.mpr c23
                  have c23b1 : ((bt t526 x21_2) != 43) = false := bne_eq_false_iff_eq.mpr c23
                  clear c23
                  have H' := Aside0.mk H
                  clear H
                  have p22 : 0 ≤ (x21_2 : Int) := of_decide_eq_true (by first | (with_reducible assumption) | assumption)
                  have q22 : x21_2 < (t526.size : Int) := of_decide_eq_true (by first | (with_reducible assumption) | assumption)
                  have hx22 := bt_at t526 x21_2
                  replace p22 := eq_true p22
                  replace q22 := eq_true q22
                  go_wp2
                  go_roundg k2
                  case measure => have := HJ8.out; have := HK2.out; omega
                  case rel => exact ⟨(wrap64 (x20_2 + 1)), (wrap64 (x21_2 + 1)), (by first | rfl | (simp; done) | (simp [*]; done)), (by first | rfl | (simp; done) | (simp [*]; done)), H', ⟨by have := HJ8.out; have := HK2.out; omega⟩, ⟨by repeat (first | (with_reducible first | exact HB.out | apply below_alloc | apply pw_below_drewN | apply below_drew1) | exact HB.out)⟩⟩
                · rw [if_neg c23] at H
                  have c23b0 : ((bt t526 x21_2) == 43) = false := beq_eq_false_iff_ne.mpr c23
                  have c23b1 : ((bt t526 x21_2) != 43) = true := bne_iff_ne.mpr c23
                  by_cases c24 : (bt t526 x21_2) ≥ 97
                  · rw [if_pos c24] at H
                    have c24b0 : decide (97 ≤ (bt t526 x21_2)) = true := decide_eq_true c24
                    clear c24
                    by_cases c25 : (bt t526 x21_2) ≤ 122
                    · rw [if_pos c25] at H
                      have c25b0 : decide ((bt t526 x21_2) ≤ 122) = true := decide_eq_true c25
                      clear c25
                      have H' := Aside0.mk H
                      clear H
                      have p22 : 0 ≤ (x21_2 : Int) := of_decide_eq_true (by first | (with_reducible assumption) | assumption)
                      have q22 : x21_2 < (t526.size : Int) := of_decide_eq_true (by first | (with_reducible assumption) | assumption)
                      have hx22 := bt_at t526 x21_2
                      replace p22 := eq_true p22
                      replace q22 := eq_true q22
                      go_wp2
                      go_roundg k2
                      case measure => have := HJ8.out; have := HK2.out; omega
                      case rel => exact ⟨(x20_2), (wrap64 (x21_2 + 1)), (by first | rfl | (simp; done) | (simp [*]; done)), (by first | rfl | (simp; done) | (simp [*]; done)), H', ⟨by have := HJ8.out; have := HK2.out; omega⟩, ⟨by repeat (first | (with_reducible first | exact HB.out | apply below_alloc | apply pw_below_drewN | apply below_drew1) | exact HB.out)⟩⟩
                    · rw [if_neg c25] at H
                      have c25b0 : decide ((bt t526 x21_2) ≤ 122) = false := decide_eq_false c25
                      clear c25
                      by_cases c26 : (bt t526 x21_2) ≥ 50
                      · rw [if_pos c26] at H
                        have c26b0 : decide (50 ≤ (bt t526 x21_2)) = true := decide_eq_true c26
                        clear c26
                        by_cases c27 : (bt t526 x21_2) ≤ 55
                        · rw [if_pos c27] at H
                          have c27b0 : decide ((bt t526 x21_2) ≤ 55) = true := decide_eq_true c27
                          clear c27
                          by_cases c28 : x20_2 = 1
                          · rw [if_pos c28] at H
                            have c28b0 : (x20_2 == 1) = true := beq_iff_eq.mpr c28
                            have c28b1 : (x20_2 != 1) = false := bne_eq_false_iff_eq.mpr c28
                            clear c28
                            have H' := Aside0.mk H
                            clear H
                            have p22 : 0 ≤ (x21_2 : Int) := of_decide_eq_true (by first | (with_reducible assumption) | assumption)
                            have q22 : x21_2 < (t526.size : Int) := of_decide_eq_true (by first | (with_reducible assumption) | assumption)
                            have hx22 := bt_at t526 x21_2
                            replace p22 := eq_true p22
                            replace q22 := eq_true q22
                            go_wp2
                            go_roundg k2
                            case measure => have := HJ8.out; have := HK2.out; omega
                            case rel => exact ⟨(x20_2), (wrap64 (x21_2 + 1)), (by first | rfl | (simp; done) | (simp [*]; done)), (by first | rfl | (simp; done) | (simp [*]; done)), H', ⟨by have := HJ8.out; have := HK2.out; omega⟩, ⟨by repeat (first | (with_reducible first | exact HB.out | apply below_alloc | apply pw_below_drewN | apply below_drew1) | exact HB.out)⟩⟩
                          · rw [if_neg c28] at H
                            have c28b0 : (x20_2 == 1) = false := beq_eq_false_iff_ne.mpr c28
                            have c28b1 : (x20_2 != 1) = true := bne_iff_ne.mpr c28
                            obtain rfl := Option.some.inj H
                            have p22 : 0 ≤ (x21_2 : Int) := of_decide_eq_true (by first | (with_reducible assumption) | assumption)
                            have q22 : x21_2 < (t526.size : Int) := of_decide_eq_true (by first | (with_reducible assumption) | assumption)
                            have hx22 := bt_at t526 x21_2
                            replace p22 := eq_true p22
                            replace q22 := eq_true q22
                            go_wp2
                            go_ret
                            exact ⟨by first | rfl | (simp [errW_none, errW_some] <;> rfl) | (simp [*, errW_none, errW_some] <;> rfl), by repeat (first | (with_reducible first | exact HB.out | apply below_alloc | apply pw_below_drewN | apply below_drew1) | exact HB.out)⟩
                        · rw [if_neg c27] at H
                          have c27b0 : decide ((bt t526 x21_2) ≤ 55) = false := decide_eq_false c27
                          clear c27
                          obtain rfl := Option.some.inj H
                          have p22 : 0 ≤ (x21_2 : Int) := of_decide_eq_true (by first | (with_reducible assumption) | assumption)
                          have q22 : x21_2 < (t526.size : Int) := of_decide_eq_true (by first | (with_reducible assumption) | assumption)
                          have hx22 := bt_at t526 x21_2
                          replace p22 := eq_true p22
                          replace q22 := eq_true q22
                          go_wp2
                          go_ret
                          exact ⟨by first | rfl | (simp [errW_none, errW_some] <;> rfl) | (simp [*, errW_none, errW_some] <;> rfl), by repeat (first | (with_reducible first | exact HB.out | apply below_alloc | apply pw_below_drewN | apply below_drew1) | exact HB.out)⟩
                      · rw [if_neg c26] at H
                        have c26b0 : decide (50 ≤ (bt t526 x21_2)) = false := decide_eq_false c26
                        clear c26
                        obtain rfl := Option.some.inj H
                        have p22 : 0 ≤ (x21_2 : Int) := of_decide_eq_true (by first | (with_reducible assumption) | assumption)
                        have q22 : x21_2 < (t526.size : Int) := of_decide_eq_true (by first | (with_reducible assumption) | assumption)
                        have hx22 := bt_at t526 x21_2
                        replace p22 := eq_true p22
                        replace q22 := eq_true q22
                        go_wp2
                        go_ret
                        exact ⟨by first | rfl | (simp [errW_none, errW_some] <;> rfl) | (simp [*, errW_none, errW_some] <;> rfl), by repeat (first | (with_reducible first | exact HB.out | apply below_alloc | apply pw_below_drewN | apply below_drew1) | exact HB.out)⟩
                  · rw [if_neg c24] at H
                    have c24b0 : decide (97 ≤ (bt t526 x21_2)) = false := decide_eq_false c24
                    clear c24
                    by_cases c29 : (bt t526 x21_2) ≥ 50
                    · rw [if_pos c29] at H
                      have c29b0 : decide (50 ≤ (bt t526 x21_2)) = true := decide_eq_true c29
                      clear c29
                      by_cases c30 : (bt t526 x21_2) ≤ 55
                      · rw [if_pos c30] at H
                        have c30b0 : decide ((bt t526 x21_2) ≤ 55) = true := decide_eq_true c30
                        clear c30
                        by_cases c31 : x20_2 = 1
                        · rw [if_pos c31] at H
                          have c31b0 : (x20_2 == 1) = true := beq_iff_eq.mpr c31
                          have c31b1 : (x20_2 != 1) = false := bne_eq_false_iff_eq.mpr c31
                          clear c31
                          have H' := Aside0.mk H
                          clear H
                          have p22 : 0 ≤ (x21_2 : Int) := of_decide_eq_true (by first | (with_reducible assumption) | assumption)
                          have q22 : x21_2 < (t526.size : Int) := of_decide_eq_true (by first | (with_reducible assumption) | assumption)
                          have hx22 := bt_at t526 x21_2
                          replace p22 := eq_true p22
                          replace q22 := eq_true q22
                          go_wp2
                          go_roundg k2
                          case measure => have := HJ8.out; have := HK2.out; omega
                          case rel => exact ⟨(x20_2), (wrap64 (x21_2 + 1)), (by first | rfl | (simp; done) | (simp [*]; done)), (by first | rfl | (simp; done) | (simp [*]; done)), H', ⟨by have := HJ8.out; have := HK2.out; omega⟩, ⟨by repeat (first | (with_reducible first | exact HB.out | apply below_alloc | apply pw_below_drewN | apply below_drew1) | exact HB.out)⟩⟩
                        · rw [if_neg c31] at H
                          have c31b0 : (x20_2 == 1) = false := beq_eq_false_iff_ne.mpr c31
                          have c31b1 : (x20_2 != 1) = true := bne_iff_ne.mpr c31
                          obtain rfl := Option.some.inj H
                          have p22 : 0 ≤ (x21_2 : Int) := of_decide_eq_true (by first | (with_reducible assumption) | assumption)
                          have q22 : x21_2 < (t526.size : Int) := of_decide_eq_true (by first | (with_reducible assumption) | assumption)
                          have hx22 := bt_at t526 x21_2
                          replace p22 := eq_true p22
                          replace q22 := eq_true q22
                          go_wp2
                          go_ret
                          exact ⟨by first | rfl | (simp [errW_none, errW_some] <;> rfl) | (simp [*, errW_none, errW_some] <;> rfl), by repeat (first | (with_reducible first | exact HB.out | apply below_alloc | apply pw_below_drewN | apply below_drew1) | exact HB.out)⟩
                      · rw [if_neg c30] at H
                        have c30b0 : decide ((bt t526 x21_2) ≤ 55) = false := decide_eq_false c30
                        clear c30
                        obtain rfl := Option.some.inj H
                        have p22 : 0 ≤ (x21_2 : Int) := of_decide_eq_true (by first | (with_reducible assumption) | assumption)
                        have q22 : x21_2 < (t526.size : Int) := of_decide_eq_true (by first | (with_reducible assumption) | assumption)
                        have hx22 := bt_at t526 x21_2
                        replace p22 := eq_true p22
                        replace q22 := eq_true q22
                        go_wp2
                        go_ret
                        exact ⟨by first | rfl | (simp [errW_none, errW_some] <;> rfl) | (simp [*, errW_none, errW_some] <;> rfl), by repeat (first | (with_reducible first | exact HB.out | apply below_alloc | apply pw_below_drewN | apply below_drew1) | exact HB.out)⟩
                    · rw [if_neg c29] at H
                      have c29b0 : decide (50 ≤ (bt t526 x21_2)) = false := decide_eq_false c29
                      clear c29
                      obtain rfl := Option.some.inj H
                      have p22 : 0 ≤ (x21_2 : Int) := of_decide_eq_true (by first | (with_reducible assumption) | assumption)
                      have q22 : x21_2 < (t526.size : Int) := of_decide_eq_true (by first | (with_reducible assumption) | assumption)
                      have hx22 := bt_at t526 x21_2
                      replace p22 := eq_true p22
                      replace q22 := eq_true q22
                      go_wp2
                      go_ret
                      exact ⟨by first | rfl | (simp [errW_none, errW_some] <;> rfl) | (simp [*, errW_none, errW_some] <;> rfl), by repeat (first | (with_reducible first | exact HB.out | apply below_alloc | apply pw_below_drewN | apply below_drew1) | exact HB.out)⟩
              · rw [if_neg c21] at H
                exact absurd H (by simp)
            · rw [if_neg c20] at H
              have c20b0 : decide (x21_2 < (t526.size : Int)) = false := decide_eq_false c20
              clear c20
              by_cases c32 : (wrap64 (1 + (Int.tmod (wrap64 (a5)) 3))) = (wrap64 (1 + (Int.tmod (wrap64 (a6)) 3)))
              · rw [if_pos c32] at H
                have c32b0 : ((wrap64 (1 + (Int.tmod (wrap64 (a5)) 3))) == (wrap64 (1 + (Int.tmod (wrap64 (a6)) 3)))) = true := beq_iff_eq.mpr c32
                have c32b1 : ((wrap64 (1 + (Int.tmod (wrap64 (a5)) 3))) != (wrap64 (1 + (Int.tmod (wrap64 (a6)) 3)))) = false := bne_eq_false_iff_eq.mpr c32
                clear c32
                by_cases c33 : (wrap64 (1 + (Int.tmod (wrap64 (a5)) 3))) = 3
                · rw [if_pos c33] at H
                  have c33b0 : ((wrap64 (1 + (Int.tmod (wrap64 (a5)) 3))) == 3) = true := beq_iff_eq.mpr c33
                  have c33b1 : ((wrap64 (1 + (Int.tmod (wrap64 (a5)) 3))) != 3) = false := bne_eq_false_iff_eq.mpr c33
                  clear c33
                  by_cases c34 : (wrap64 (1 + (Int.tmod (wrap64 (a5)) 3))) = 1
                  · rw [if_pos c34] at H
                    have c34b0 : ((wrap64 (1 + (Int.tmod (wrap64 (a5)) 3))) == 1) = true := beq_iff_eq.mpr c34
                    have c34b1 : ((wrap64 (1 + (Int.tmod (wrap64 (a5)) 3))) != 1) = false := bne_eq_false_iff_eq.mpr c34
                    clear c34
                    by_cases c35 : t525 = true
                    · subst c35
                      have H1 : (if x20_2 = 1 then (some ((t526.toList == t527.toList) == true)) else (some false)) = some r := by rw [if_pos rfl] at H; exact H
                      clear H
                      have H := H1
                      clear H1
                      by_cases c36 : x20_2 = 1
                      · rw [if_pos c36] at H
                        have c36b0 : (x20_2 == 1) = true := beq_iff_eq.mpr c36
                        have c36b1 : (x20_2 != 1) = false := bne_eq_false_iff_eq.mpr c36
                        clear c36
                        obtain rfl := Option.some.inj H
                        go_wp2
                        go_ret
                        exact ⟨by first | rfl | (simp [errW_none, errW_some] <;> rfl) | (simp [*, errW_none, errW_some] <;> rfl), by repeat (first | (with_reducible first | exact HB.out | apply below_alloc | apply pw_below_drewN | apply below_drew1) | exact HB.out)⟩
                      · rw [if_neg c36] at H
                        have c36b0 : (x20_2 == 1) = false := beq_eq_false_iff_ne.mpr c36
                        have c36b1 : (x20_2 != 1) = true := bne_iff_ne.mpr c36
                        obtain rfl := Option.some.inj H
                        go_wp2
                        go_ret
                        exact ⟨by first | rfl | (simp [errW_none, errW_some] <;> rfl) | (simp [*, errW_none, errW_some] <;> rfl), by repeat (first | (with_reducible first | exact HB.out | apply below_alloc | apply pw_below_drewN | apply below_drew1) | exact HB.out)⟩
                    · replace c35 := Bool.eq_false_iff.mpr c35
                      subst c35
                      have H1 : (some false) = some r := by rw [if_neg (show ¬ (false = true) by decide)] at H; exact H
                      clear H
                      have H := H1
                      clear H1
                      obtain rfl := Option.some.inj H
                      go_wp2
                      go_ret
                      exact ⟨by first | rfl | (simp [errW_none, errW_some] <;> rfl) | (simp [*, errW_none, errW_some] <;> rfl), by repeat (first | (with_reducible first | exact HB.out | apply below_alloc | apply pw_below_drewN | apply below_drew1) | exact HB.out)⟩
                  · rw [if_neg c34] at H
                    have c34b0 : ((wrap64 (1 + (Int.tmod (wrap64 (a5)) 3))) == 1) = false := beq_eq_false_iff_ne.mpr c34
                    have c34b1 : ((wrap64 (1 + (Int.tmod (wrap64 (a5)) 3))) != 1) = true := bne_iff_ne.mpr c34
                    by_cases c37 : t525 = true
                    · subst c37
                      have H1 : (if x20_2 = 1 then (some ((t526.toList == t527.toList) == (a2.toList == a4.toList))) else (some false)) = some r := by rw [if_pos rfl] at H; exact H
                      clear H
                      have H := H1
                      clear H1
                      by_cases c38 : x20_2 = 1
                      · rw [if_pos c38] at H
                        have c38b0 : (x20_2 == 1) = true := beq_iff_eq.mpr c38
                        have c38b1 : (x20_2 != 1) = false := bne_eq_false_iff_eq.mpr c38
                        clear c38
                        obtain rfl := Option.some.inj H
                        go_wp2
                        go_ret
                        exact ⟨by first | rfl | (simp [errW_none, errW_some] <;> rfl) | (simp [*, errW_none, errW_some] <;> rfl), by repeat (first | (with_reducible first | exact HB.out | apply below_alloc | apply pw_below_drewN | apply below_drew1) | exact HB.out)⟩
                      · rw [if_neg c38] at H
                        have c38b0 : (x20_2 == 1) = false := beq_eq_false_iff_ne.mpr c38
                        have c38b1 : (x20_2 != 1) = true := bne_iff_ne.mpr c38
                        obtain rfl := Option.some.inj H
                        go_wp2
                        go_ret
                        exact ⟨by first | rfl | (simp [errW_none, errW_some] <;> rfl) | (simp [*, errW_none, errW_some] <;> rfl), by repeat (first | (with_reducible first | exact HB.out | apply below_alloc | apply pw_below_drewN | apply below_drew1) | exact HB.out)⟩
                    · replace c37 := Bool.eq_false_iff.mpr c37
                      subst c37
                      have H1 : (some false) = some r := by rw [if_neg (show ¬ (false = true) by decide)] at H; exact H
                      clear H
                      have H := H1
                      clear H1
                      obtain rfl := Option.some.inj H
                      go_wp2
                      go_ret
                      exact ⟨by first | rfl | (simp [errW_none, errW_some] <;> rfl) | (simp [*, errW_none, errW_some] <;> rfl), by repeat (first | (with_reducible first | exact HB.out | apply below_alloc | apply pw_below_drewN | apply below_drew1) | exact HB.out)⟩
                · rw [if_neg c33] at H
                  have c33b0 : ((wrap64 (1 + (Int.tmod (wrap64 (a5)) 3))) == 3) = false := beq_eq_false_iff_ne.mpr c33
                  have c33b1 : ((wrap64 (1 + (Int.tmod (wrap64 (a5)) 3))) != 3) = true := bne_iff_ne.mpr c33
                  by_cases c39 : a1 = a3
                  · rw [if_pos c39] at H
                    have c39b0 : (a1 == a3) = true := beq_iff_eq.mpr c39
                    have c39b1 : (a1 != a3) = false := bne_eq_false_iff_eq.mpr c39
                    clear c39
                    by_cases c40 : (wrap64 (1 + (Int.tmod (wrap64 (a5)) 3))) = 1
                    · rw [if_pos c40] at H
                      have c40b0 : ((wrap64 (1 + (Int.tmod (wrap64 (a5)) 3))) == 1) = true := beq_iff_eq.mpr c40
                      have c40b1 : ((wrap64 (1 + (Int.tmod (wrap64 (a5)) 3))) != 1) = false := bne_eq_false_iff_eq.mpr c40
                      clear c40
                      by_cases c41 : t525 = true
                      · subst c41
                        have H1 : (if x20_2 = 1 then (some ((t526.toList == t527.toList) == true)) else (some false)) = some r := by rw [if_pos rfl] at H; exact H
                        clear H
                        have H := H1
                        clear H1
                        by_cases c42 : x20_2 = 1
                        · rw [if_pos c42] at H
                          have c42b0 : (x20_2 == 1) = true := beq_iff_eq.mpr c42
                          have c42b1 : (x20_2 != 1) = false := bne_eq_false_iff_eq.mpr c42
                          clear c42
                          obtain rfl := Option.some.inj H
                          go_wp2
                          go_ret
                          exact ⟨by first | rfl | (simp [errW_none, errW_some] <;> rfl) | (simp [*, errW_none, errW_some] <;> rfl), by repeat (first | (with_reducible first | exact HB.out | apply below_alloc | apply pw_below_drewN | apply below_drew1) | exact HB.out)⟩
                        · rw [if_neg c42] at H
                          have c42b0 : (x20_2 == 1) = false := beq_eq_false_iff_ne.mpr c42
                          have c42b1 : (x20_2 != 1) = true := bne_iff_ne.mpr c42
                          obtain rfl := Option.some.inj H
                          go_wp2
                          go_ret
                          exact ⟨by first | rfl | (simp [errW_none, errW_some] <;> rfl) | (simp [*, errW_none, errW_some] <;> rfl), by repeat (first | (with_reducible first | exact HB.out | apply below_alloc | apply pw_below_drewN | apply below_drew1) | exact HB.out)⟩
                      · replace c41 := Bool.eq_false_iff.mpr c41
                        subst c41
                        have H1 : (some false) = some r := by rw [if_neg (show ¬ (false = true) by decide)] at H; exact H
                        clear H
                        have H := H1
                        clear H1
                        obtain rfl := Option.some.inj H
                        go_wp2
                        go_ret
                        exact ⟨by first | rfl | (simp [errW_none, errW_some] <;> rfl) | (simp [*, errW_none, errW_some] <;> rfl), by repeat (first | (with_reducible first | exact HB.out | apply below_alloc | apply pw_below_drewN | apply below_drew1) | exact HB.out)⟩
                    · rw [if_neg c40] at H
                      have c40b0 : ((wrap64 (1 + (Int.tmod (wrap64 (a5)) 3))) == 1) = false := beq_eq_false_iff_ne.mpr c40
                      have c40b1 : ((wrap64 (1 + (Int.tmod (wrap64 (a5)) 3))) != 1) = true := bne_iff_ne.mpr c40
                      by_cases c43 : t525 = true
                      · subst c43
                        have H1 : (if x20_2 = 1 then (some ((t526.toList == t527.toList) == (a2.toList == a4.toList))) else (some false)) = some r := by rw [if_pos rfl] at H; exact H
                        clear H
                        have H := H1
                        clear H1
                        by_cases c44 : x20_2 = 1
                        · rw [if_pos c44] at H
                          have c44b0 : (x20_2 == 1) = true := beq_iff_eq.mpr c44
                          have c44b1 : (x20_2 != 1) = false := bne_eq_false_iff_eq.mpr c44
                          clear c44
                          obtain rfl := Option.some.inj H
                          go_wp2
                          go_ret
                          exact ⟨by first | rfl | (simp [errW_none, errW_some] <;> rfl) | (simp [*, errW_none, errW_some] <;> rfl), by repeat (first | (with_reducible first | exact HB.out | apply below_alloc | apply pw_below_drewN | apply below_drew1) | exact HB.out)⟩
                        · rw [if_neg c44] at H
                          have c44b0 : (x20_2 == 1) = false := beq_eq_false_iff_ne.mpr c44
                          have c44b1 : (x20_2 != 1) = true := bne_iff_ne.mpr c44
                          obtain rfl := Option.some.inj H
                          go_wp2
                          go_ret
                          exact ⟨by first | rfl | (simp [errW_none, errW_some] <;> rfl) | (simp [*, errW_none, errW_some] <;> rfl), by repeat (first | (with_reducible first | exact HB.out | apply below_alloc | apply pw_below_drewN | apply below_drew1) | exact HB.out)⟩
                      · replace c43 := Bool.eq_false_iff.mpr c43
                        subst c43
                        have H1 : (some false) = some r := by rw [if_neg (show ¬ (false = true) by decide)] at H; exact H
                        clear H
                        have H := H1
                        clear H1
                        obtain rfl := Option.some.inj H
                        go_wp2
                        go_ret
                        exact ⟨by first | rfl | (simp [errW_none, errW_some] <;> rfl) | (simp [*, errW_none, errW_some] <;> rfl), by repeat (first | (with_reducible first | exact HB.out | apply below_alloc | apply pw_below_drewN | apply below_drew1) | exact HB.out)⟩
                  · rw [if_neg c39] at H
                    have c39b0 : (a1 == a3) = false := beq_eq_false_iff_ne.mpr c39
                    have c39b1 : (a1 != a3) = true := bne_iff_ne.mpr c39
                    by_cases c45 : t525 = true
                    · subst c45
                      have H1 : (if x20_2 = 1 then (some ((t526.toList == t527.toList) == false)) else (some false)) = some r := by rw [if_pos rfl] at H; exact H
                      clear H
                      have H := H1
                      clear H1
                      by_cases c46 : x20_2 = 1
                      · rw [if_pos c46] at H
                        have c46b0 : (x20_2 == 1) = true := beq_iff_eq.mpr c46
                        have c46b1 : (x20_2 != 1) = false := bne_eq_false_iff_eq.mpr c46
                        clear c46
                        obtain rfl := Option.some.inj H
                        go_wp2
                        go_ret
                        exact ⟨by first | rfl | (simp [errW_none, errW_some] <;> rfl) | (simp [*, errW_none, errW_some] <;> rfl), by repeat (first | (with_reducible first | exact HB.out | apply below_alloc | apply pw_below_drewN | apply below_drew1) | exact HB.out)⟩
                      · rw [if_neg c46] at H
                        have c46b0 : (x20_2 == 1) = false := beq_eq_false_iff_ne.mpr c46
                        have c46b1 : (x20_2 != 1) = true := bne_iff_ne.mpr c46
                        obtain rfl := Option.some.inj H
                        go_wp2
                        go_ret
                        exact ⟨by first | rfl | (simp [errW_none, errW_some] <;> rfl) | (simp [*, errW_none, errW_some] <;> rfl), by repeat (first | (with_reducible first | exact HB.out | apply below_alloc | apply pw_below_drewN | apply below_drew1) | exact HB.out)⟩
                    · replace c45 := Bool.eq_false_iff.mpr c45
                      subst c45
                      have H1 : (some false) = some r := by rw [if_neg (show ¬ (false = true) by decide)] at H; exact H
                      clear H
                      have H := H1
                      clear H1
                      obtain rfl := Option.some.inj H
                      go_wp2
                      go_ret
                      exact ⟨by first | rfl | (simp [errW_none, errW_some] <;> rfl) | (simp [*, errW_none, errW_some] <;> rfl), by repeat (first | (with_reducible first | exact HB.out | apply below_alloc | apply pw_below_drewN | apply below_drew1) | exact HB.out)⟩
              · rw [if_neg c32] at H
                have c32b0 : ((wrap64 (1 + (Int.tmod (wrap64 (a5)) 3))) == (wrap64 (1 + (Int.tmod (wrap64 (a6)) 3)))) = false := beq_eq_false_iff_ne.mpr c32
                have c32b1 : ((wrap64 (1 + (Int.tmod (wrap64 (a5)) 3))) != (wrap64 (1 + (Int.tmod (wrap64 (a6)) 3)))) = true := bne_iff_ne.mpr c32
                by_cases c47 : t525 = true
                · subst c47
                  have H1 : (if x20_2 = 1 then (some ((t526.toList == t527.toList) == false)) else (some false)) = some r := by rw [if_pos rfl] at H; exact H
                  clear H
                  have H := H1
                  clear H1
                  by_cases c48 : x20_2 = 1
                  · rw [if_pos c48] at H
                    have c48b0 : (x20_2 == 1) = true := beq_iff_eq.mpr c48
                    have c48b1 : (x20_2 != 1) = false := bne_eq_false_iff_eq.mpr c48
                    clear c48
                    obtain rfl := Option.some.inj H
                    go_wp2
                    go_ret
                    exact ⟨by first | rfl | (simp [errW_none, errW_some] <;> rfl) | (simp [*, errW_none, errW_some] <;> rfl), by repeat (first | (with_reducible first | exact HB.out | apply below_alloc | apply pw_below_drewN | apply below_drew1) | exact HB.out)⟩
                  · rw [if_neg c48] at H
                    have c48b0 : (x20_2 == 1) = false := beq_eq_false_iff_ne.mpr c48
                    have c48b1 : (x20_2 != 1) = true := bne_iff_ne.mpr c48
                    obtain rfl := Option.some.inj H
                    go_wp2
                    go_ret
                    exact ⟨by first | rfl | (simp [errW_none, errW_some] <;> rfl) | (simp [*, errW_none, errW_some] <;> rfl), by repeat (first | (with_reducible first | exact HB.out | apply below_alloc | apply pw_below_drewN | apply below_drew1) | exact HB.out)⟩
                · replace c47 := Bool.eq_false_iff.mpr c47
                  subst c47
                  have H1 : (some false) = some r := by rw [if_neg (show ¬ (false = true) by decide)] at H; exact H
                  clear H
                  have H := H1
                  clear H1
                  obtain rfl := Option.some.inj H
                  go_wp2
                  go_ret
                  exact ⟨by first | rfl | (simp [errW_none, errW_some] <;> rfl) | (simp [*, errW_none, errW_some] <;> rfl), by repeat (first | (with_reducible first | exact HB.out | apply below_alloc | apply pw_below_drewN | apply below_drew1) | exact HB.out)⟩

end Go.Proofs.YtadnefnofbnheaaDoor.Pr

namespace Go.Proofs.YtadnefnofbnheaaDoor.Pr
open Go.RowKit Go.Proofs.YtadnefnofbnheaaDoorW.PrintWords Go.Proofs.YtadnefnofbnheaaDoorW.PrintLast Go.Proofs.YtadnefnofbnheaaDoorW.PrintMore

def wN (a n : Int) : Int := if a = 3 then 0 else n
def wU (a : Int) (u : ByteArray) : ByteArray := if a = 1 then ⟨#[]⟩ else u
theorem wOk (a n : Int) (u : ByteArray) (ha : a = 1 ∨ a = 2 ∨ a = 3) (h0 : 0 ≤ n) (h1 : n ≤ 9223372036854775807) (hu : u.size ≤ 100000) : KOk a (wN a n) (wU a u) := by
  have hz : (⟨#[]⟩ : ByteArray).size = 0 := rfl
  refine ⟨ha, ?_, ?_, ?_⟩
  · unfold wN; split <;> omega
  · unfold wN; split <;> omega
  · unfold wU; split <;> omega
theorem wgen_ev (secret : ByteArray) (a n : Int) (u : ByteArray) (hs : secret.size ≤ 1000000) (ha : a = 1 ∨ a = 2 ∨ a = 3) (h0 : 0 ≤ n) (h1 : n ≤ 9223372036854775807) (hu : u.size ≤ 100000) :
    Ev (fun k => missivelaw38_write.f k secret a n u) (compB secret a (wN a n) (wU a u)) := by
  have hm : mx n 0 = n := by unfold mx; split <;> omega
  have hc := comp_ev secret a (wN a n) (wU a u) hs (wOk a n u ha h0 h1 hu)
  have he : Ev (fun k => verp_compose.f k secret a (wN a n) (wU a u)) (compB secret a (wN a n) (wU a u)) := ⟨2000000, hc⟩
  unfold missivelaw38_write.f verp_Bounce.f verp_Vote.f verp_Confirm.f
  rw [hm]
  rcases ha with rfl | rfl | rfl
  · simp only [if_true]
    exact Ev.bind (Ev.bind he (Ev.now _)) (Ev.now _)
  · simp only [if_neg (show ¬ ((2 : Int) = 1) by decide), if_true]
    exact Ev.bind (Ev.bind he (Ev.now _)) (Ev.now _)
  · simp only [if_neg (show ¬ ((3 : Int) = 1) by decide), if_neg (show ¬ ((3 : Int) = 2) by decide)]
    exact Ev.bind (Ev.bind he (Ev.now _)) (Ev.now _)
/-- Equal local parts have equal contents. -/
theorem comp_inj (secret : ByteArray) (a b n m : Int) (u v : ByteArray) (h1 : KOk a n u) (h2 : KOk b m v) (hu : a = 1 → u = ⟨#[]⟩) (hn : a = 3 → n = 0) (hv : b = 1 → v = ⟨#[]⟩) (hm : b = 3 → m = 0) :
    compB secret a n u = compB secret b m v ↔ a = b ∧ n = m ∧ u = v := by
  constructor
  · intro h
    have e1 := parse_back secret a n u h1 hu hn
    have e2 := parse_back secret b m v h2 hv hm
    rw [h, e2] at e1
    simp only [Prod.mk.injEq, and_true] at e1
    exact ⟨e1.1.symm, e1.2.1.symm, e1.2.2.symm⟩
  · rintro ⟨rfl, rfl, rfl⟩
    rfl

theorem bt_getD (s : ByteArray) (i : Nat) (h : i < s.size) : bt s (i : Int) = ((s.data.toList.getD i 0).toNat : Int) := by
  have h' : i < s.data.toList.length := by rw [ba_len]; exact h
  unfold bt
  rw [dif_pos (by simpa using h), List.getD_eq_getElem?_getD, List.getElem?_eq_getElem h', Option.getD_some]
  rfl
def kwLen (a : Nat) : Nat := (kw a).length - 1
theorem kw_letters (a : Nat) (h : a = 1 ∨ a = 2 ∨ a = 3) : ∀ i, i < kwLen a → 97 ≤ ((kw a).getD i 0).toNat ∧ ((kw a).getD i 0).toNat ≤ 122 := by
  unfold kwLen
  rcases h with rfl | rfl | rfl
  · rw [kw1]; decide
  · rw [kw2]; decide
  · rw [kw3]; decide
theorem kw_plus (a : Nat) (h : a = 1 ∨ a = 2 ∨ a = 3) : ((kw a).getD (kwLen a) 0).toNat = 43 ∧ (kw a).length = kwLen a + 1 := by
  unfold kwLen
  rcases h with rfl | rfl | rfl
  · rw [kw1]; decide
  · rw [kw2]; decide
  · rw [kw3]; decide
def Small (c : UInt8) : Prop := (97 ≤ c.toNat ∧ c.toNat ≤ 122) ∨ (50 ≤ c.toNat ∧ c.toNat ≤ 55)
theorem dg_small : ∀ d, d < 32 → Small (UInt8.ofNat (dg d).toNat) := by unfold Small; decide

theorem diff_l0 (x1 : Int) (x2 : ByteArray) (x3 : Int) (x4 : ByteArray) (x15 : Bool) (x16 x17 : Int) (s t : ByteArray) (lw : Nat) (hsz : s.size ≤ 1000000) (hlw : lw < s.size)
    (hA : ∀ i, i < lw → 97 ≤ bt s (i : Int) ∧ bt s (i : Int) ≤ 122) (hB : bt s (lw : Int) = 43)
    (hC : ∀ i, lw < i → i < s.size → (97 ≤ bt s (i : Int) ∧ bt s (i : Int) ≤ 122) ∨ (50 ≤ bt s (i : Int) ∧ bt s (i : Int) ≤ 55)) (k : Nat) :
    ∀ (j i : Nat), s.size - i = j → i ≤ s.size → missivelaw38_VerpDiffers.l0 (j + k) x1 x2 x3 x4 x15 x16 x17 s t (if i ≤ lw then 0 else 1) (i : Int) = missivelaw38_VerpDiffers.l0 k x1 x2 x3 x4 x15 x16 x17 s t 1 (s.size : Int)
  | 0, i, hj, hi => by
    obtain rfl : i = s.size := by omega
    rw [if_neg (by omega), Nat.zero_add]
  | j + 1, i, hj, hi => by
    have ih := diff_l0 x1 x2 x3 x4 x15 x16 x17 s t lw hsz hlw hA hB hC k j (i + 1) (by omega) (by omega)
    have hw1 : Aside0 (wrap64 ((i : Int) + 1) = ((i + 1 : Nat) : Int)) := ⟨w64_suc i (by omega)⟩
    have hw2 : Aside0 (wrap64 ((0 : Int) + 1) = 1) := ⟨w64_of 1 (by omega)⟩
    have d1 : (i : Int) < (s.size : Int) := by omega
    have d2 : (0 : Int) ≤ (i : Int) := by omega
    rw [show j + 1 + k = (j + k) + 1 by omega, missivelaw38_VerpDiffers.l0, if_pos d1, if_pos d2, hw1.out]
    rcases Nat.lt_trichotomy i lw with h | h | h
    · obtain ⟨g1, g2⟩ := hA i h
      rw [if_pos (show i ≤ lw by omega), if_neg (show ¬ bt s (i : Int) = 43 by omega), if_pos (show bt s (i : Int) ≥ 97 by omega), if_pos g2]
      rw [if_pos (show i + 1 ≤ lw by omega)] at ih
      exact ih
    · rw [if_pos (show i ≤ lw by omega), if_pos (show bt s (i : Int) = 43 by rw [h]; exact hB), hw2.out]
      rw [if_neg (show ¬ i + 1 ≤ lw by omega)] at ih
      exact ih
    · rw [if_neg (show ¬ i + 1 ≤ lw by omega)] at ih
      rw [if_neg (show ¬ i ≤ lw by omega)]
      rcases hC i h (by omega) with ⟨g1, g2⟩ | ⟨g1, g2⟩
      · rw [if_neg (show ¬ bt s (i : Int) = 43 by omega), if_pos (show bt s (i : Int) ≥ 97 by omega), if_pos g2]
        exact ih
      · rw [if_neg (show ¬ bt s (i : Int) = 43 by omega), if_neg (show ¬ bt s (i : Int) ≥ 97 by omega), if_pos (show bt s (i : Int) ≥ 50 by omega), if_pos g2, if_pos rfl]
        exact ih
theorem toList_beq (s t : ByteArray) : (s.toList == t.toList) = decide (s = t) := by
  rw [ba_toList, ba_toList, Bool.eq_iff_iff, beq_iff_eq, decide_eq_true_eq]
  exact ⟨ba_inj, fun h => by rw [h]⟩
theorem diff_loop (secret : ByteArray) (a b n m : Int) (u v : ByteArray) (ha : a = 1 ∨ a = 2 ∨ a = 3) (hb : b = 1 ∨ b = 2 ∨ b = 3) (hn0 : 0 ≤ n) (hn1 : n ≤ 9223372036854775807) (hm0 : 0 ≤ m) (hm1 : m ≤ 9223372036854775807)
    (hu : u.size ≤ 1000) (hv : v.size ≤ 1000) :
    Ev (fun k => missivelaw38_VerpDiffers.l0 k n u m v true a b (compB secret a (wN a n) (wU a u)) (compB secret b (wN b m) (wU b v)) 0 0) true := by
  have k1 := wOk a n u ha hn0 hn1 (by omega)
  have k2 := wOk b m v hb hm0 hm1 (by omega)
  have hinj := comp_inj secret a b (wN a n) (wN b m) (wU a u) (wU b v) k1 k2 (fun h => by rw [wU, if_pos h]) (fun h => by rw [wN, if_pos h]) (fun h => by rw [wU, if_pos h]) (fun h => by rw [wN, if_pos h])
  have hwu : (wU a u).size ≤ 1000 := by unfold wU; split; exact Nat.zero_le _; exact hu
  have hsz := comp_size secret a (wN a n) (wU a u) k1 (by omega)
  have hl := comp_list secret a (wN a n) (wU a u)
  have haN : a.toNat = 1 ∨ a.toNat = 2 ∨ a.toNat = 3 := by omega
  obtain ⟨hp, hpl⟩ := kw_plus a.toNat haN
  have hlet := kw_letters a.toNat haN
  have hsm := b32_all dg_small (contL a (wN a n) (wU a u) ++ (macL secret a (wN a n) (wU a u)).data.toList)
  have hlen : (compB secret a (wN a n) (wU a u)).size = (kw a.toNat).length + (restB secret a (wN a n) (wU a u)).data.toList.length := by rw [← ba_len, hl, List.length_append]
  change ∀ c ∈ (restB secret a (wN a n) (wU a u)).data.toList, Small c at hsm
  generalize (restB secret a (wN a n) (wU a u)).data.toList = r at hl hsm hlen
  generalize compB secret a (wN a n) (wU a u) = s at hinj hsz hl hlen ⊢
  generalize compB secret b (wN b m) (wU b v) = t at hinj ⊢
  have hget : ∀ i, i < s.size → bt s (i : Int) = (((kw a.toNat ++ r).getD i 0).toNat : Int) := fun i hi => by rw [bt_getD s i hi, hl]
  have main := fun k => diff_l0 n u m v true a b s t (kwLen a.toNat) (by omega) (by omega)
    (fun i hi => by
      have h1 := hlet i hi
      have e : (kw a.toNat ++ r).getD i 0 = (kw a.toNat).getD i 0 := by
        rw [List.getD_eq_getElem?_getD, List.getD_eq_getElem?_getD, List.getElem?_append_left (by omega)]
      rw [hget i (by omega), e]
      omega)
    (by
      have e : (kw a.toNat ++ r).getD (kwLen a.toNat) 0 = (kw a.toNat).getD (kwLen a.toNat) 0 := by
        rw [List.getD_eq_getElem?_getD, List.getD_eq_getElem?_getD, List.getElem?_append_left (by omega)]
      rw [hget _ (by omega), e, hp]
      rfl)
    (fun i h1 h2 => by
      have hi : i - (kw a.toNat).length < r.length := by omega
      have e : (kw a.toNat ++ r).getD i 0 = r[i - (kw a.toNat).length] := by
        rw [List.getD_eq_getElem?_getD, List.getElem?_append_right (by omega), List.getElem?_eq_getElem hi, Option.getD_some]
      have hs := hsm _ (List.getElem_mem hi)
      unfold Small at hs
      rw [hget i h2, e]
      omega) k s.size 0 (by omega) (by omega)
  refine ⟨s.size + 1, fun k hk => ?_⟩
  obtain ⟨k, rfl⟩ : ∃ k', k = s.size + (k' + 1) := ⟨k - s.size - 1, by omega⟩
  have hm := main (k + 1)
  rw [if_pos (Nat.zero_le _)] at hm
  show missivelaw38_VerpDiffers.l0 (s.size + (k + 1)) n u m v true a b s t 0 ((0 : Nat) : Int) = some true
  rw [hm, missivelaw38_VerpDiffers.l0, if_neg (by omega)]
  simp only [if_true, toList_beq]
  unfold wN wU at hinj
  by_cases e1 : a = b
  · subst e1
    rw [if_pos rfl]
    rcases ha with rfl | rfl | rfl
    · rw [if_neg (by decide)]
      by_cases e2 : n = m
      · rw [if_pos e2, if_pos rfl]
        have : s = t := hinj.2 ⟨rfl, by simpa using e2, rfl⟩
        simp [this]
      · rw [if_neg e2]
        have : ¬ s = t := fun h => e2 (by simpa using (hinj.1 h).2.1)
        simp [this]
    · rw [if_neg (by decide)]
      by_cases e2 : n = m
      · rw [if_pos e2, if_neg (by decide)]
        have : s = t ↔ u = v := by rw [hinj]; simp [e2]
        simp [this]
      · rw [if_neg e2]
        have : ¬ s = t := fun h => e2 (by simpa using (hinj.1 h).2.1)
        simp [this]
    · rw [if_pos rfl, if_neg (by decide)]
      have : s = t ↔ u = v := by rw [hinj]; simp
      simp [this]
  · rw [if_neg e1]
    have : ¬ s = t := fun h => e1 (hinj.1 h).1
    simp [this]

theorem kind_of (x : Int) (h0 : 0 ≤ x) (h1 : x ≤ 255) : wrap64 (1 + (Int.tmod (wrap64 x) 3)) = 1 + x % 3 := by
  have e1 : wrap64 x = x := by
    obtain ⟨n, rfl⟩ := Int.eq_ofNat_of_zero_le h0
    exact w64_of n (by omega)
  rw [e1, Int.tmod_eq_emod_of_nonneg h0]
  have h2 : 0 ≤ 1 + x % 3 := by omega
  obtain ⟨n, hn⟩ := Int.eq_ofNat_of_zero_le h2
  rw [hn]
  exact w64_of n (by omega)
theorem verpDiffers_holds (secret : ByteArray) (n : Int) (u : ByteArray) (m : Int) (v : ByteArray) (x y : Int) (hn : n ≤ 9223372036854775807) (hm : m ≤ 9223372036854775807) (hx : 0 ≤ x ∧ x ≤ 255) (hy : 0 ≤ y ∧ y ≤ 255) :
    Ev (fun k => missivelaw38_VerpDiffers.f k secret n u m v x y) true := by
  unfold missivelaw38_VerpDiffers.f
  refine Ev.bind small_ev ?_
  have big : Ev (fun k => missivelaw38_VerpDiffers.j0 k secret n u m v x y true true) true :=
    Ev.step (f := fun _ => some true) (fun k => by rw [missivelaw38_VerpDiffers.j0, if_pos rfl]) (Ev.now _)
  by_cases c1 : (secret.size : Int) > 300
  · simp only [if_pos c1]
    exact big
  · simp only [if_neg c1]
    by_cases c2 : (u.size : Int) > 300
    · simp only [if_pos c2]
      exact big
    · simp only [if_neg c2]
      by_cases c3 : (v.size : Int) > 300
      · simp only [if_pos c3]
        exact big
      · simp only [if_neg c3]
        by_cases c4 : n < 0
        · simp only [if_pos c4]
          exact big
        · simp only [if_neg c4]
          by_cases c5 : m < 0
          · rw [show decide (m < 0) = true by simpa using c5]
            exact big
          · rw [show decide (m < 0) = false by simpa using c5]
            refine Ev.step (f := fun k => _) (fun k => by rw [missivelaw38_VerpDiffers.j0, if_neg (by decide), kind_of x hx.1 hx.2, kind_of y hy.1 hy.2]) ?_
            have ha : 1 + x % 3 = 1 ∨ 1 + x % 3 = 2 ∨ 1 + x % 3 = 3 := by omega
            have hb : 1 + y % 3 = 1 ∨ 1 + y % 3 = 2 ∨ 1 + y % 3 = 3 := by omega
            generalize 1 + x % 3 = a at ha ⊢
            generalize 1 + y % 3 = b at hb ⊢
            refine Ev.bind (wgen_ev secret a n u (by omega) ha (by omega) hn (by omega)) ?_
            refine Ev.bind (wgen_ev secret b m v (by omega) hb (by omega) hm (by omega)) ?_
            exact diff_loop secret a b n m u v ha hb (by omega) hn (by omega) hm (by omega) (by omega)
end Go.Proofs.YtadnefnofbnheaaDoor.Pr
