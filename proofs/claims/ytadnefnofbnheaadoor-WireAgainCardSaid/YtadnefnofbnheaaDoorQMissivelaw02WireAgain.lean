-- Out of the translation, by this claim's own program over the kit's print.
import Derived.Test.YtadnefnofbnheaaDoorQ0
import Derived.Test.YtadnefnofbnheaaDoorHWire
import Derived.Test.YtadnefnofbnheaaDoorHWireR
import Derived.Test.YtadnefnofbnheaaDoorQMissivelaw02Kind
import Derived.Test.YtadnefnofbnheaaDoorQMissivelaw02Small
import Derived.Test.YtadnefnofbnheaaDoorQWireInt
import Derived.Test.YtadnefnofbnheaaDoorQWireNum
import Derived.Test.YtadnefnofbnheaaDoorQWireOpen
import Derived.Test.YtadnefnofbnheaaDoorQWireReaderDone
import Derived.Test.YtadnefnofbnheaaDoorQWireReaderInt
import Derived.Test.YtadnefnofbnheaaDoorQWireReaderLeft
import Derived.Test.YtadnefnofbnheaaDoorQWireReaderNum
import Derived.Test.YtadnefnofbnheaaDoorQWireReaderText
import Derived.Test.YtadnefnofbnheaaDoorQWireText
import Derived.Test.YtadnefnofbnheaaDoorHG
namespace Go.Proofs.YtadnefnofbnheaaDoor.Pr
open Go.RowKit Go.Proofs.YtadnefnofbnheaaDoorW.PrintWords Go.Proofs.YtadnefnofbnheaaDoorW.PrintLast Go.Proofs.YtadnefnofbnheaaDoorW.PrintMore
attribute [local go_sem] max2_int min2_int max_two min_two max_three min_three max_four min_four   -- for this text's walks alone
set_option linter.unusedVariables false
set_option linter.unusedSimpArgs false

/-! ### missivelaw02_WireAgain: function 3 -/
def missivelaw02_WireAgain.j0 : Nat → ByteArray → Bool → ByteArray → ByteArray → Bool → Option (Bool)
  | 0, _, _, _, _, _ => none
  | k + 1, x0, x5, x7, x177000, x177001 => (wire_Reader_Left.f x177000 x177001).bind fun bt202 => (if bt202.1 = 0 then ((wire_Reader_Done.f bt202.2.1 bt202.2.2).bind fun bt205 => (if bt205.1 = true then ((wire_Reader_Left.f bt205.2.1 bt205.2.2).bind fun bt208 => (if x5 = true then (if (wrap64 ((x0.size : Int) - bt208.1)) ≥ 0 then (if (wrap64 ((x0.size : Int) - bt208.1)) ≤ (x0.size : Int) then (if 0 ≤ (mx 0 (mn (wrap64 ((x0.size : Int) - bt208.1)) (x0.size : Int))) then (if (mx 0 (mn (wrap64 ((x0.size : Int) - bt208.1)) (x0.size : Int))) ≤ (x0.size : Int) then (some (x7.toList == (x0.extract 0 ((mx 0 (mn (wrap64 ((x0.size : Int) - bt208.1)) (x0.size : Int))) : Int).toNat).toList)) else (none)) else (none)) else (some false)) else (some false)) else (some false))) else (some x5))) else ((wire_Reader_Left.f bt202.2.1 bt202.2.2).bind fun bt211 => (if x5 = true then (if (wrap64 ((x0.size : Int) - bt211.1)) ≥ 0 then (if (wrap64 ((x0.size : Int) - bt211.1)) ≤ (x0.size : Int) then (if 0 ≤ (mx 0 (mn (wrap64 ((x0.size : Int) - bt211.1)) (x0.size : Int))) then (if (mx 0 (mn (wrap64 ((x0.size : Int) - bt211.1)) (x0.size : Int))) ≤ (x0.size : Int) then (some (x7.toList == (x0.extract 0 ((mx 0 (mn (wrap64 ((x0.size : Int) - bt211.1)) (x0.size : Int))) : Int).toNat).toList)) else (none)) else (none)) else (some false)) else (some false)) else (some false))))
def missivelaw02_WireAgain.f (k : Nat) (a0 : ByteArray) (a1 : Int) : Option (Bool) := (missivelaw02_small.f k).bind fun t173 => (if (a0.size : Int) > 400 then (some t173) else ((wire_Open.f a0).bind fun bt174 => ((missivelaw02_kind.f a1 0 (⟨#[]⟩ : ByteArray) ([] : List Int) ([] : List ByteArray)).bind fun t177 => (if t177 = 0 then ((wire_Reader_Num.f k bt174.1 bt174.2).bind fun bt178 => ((wire_Num.f bt178.1).bind fun t181 => (missivelaw02_WireAgain.j0 k a0 t173 t181 bt178.2.1 bt178.2.2))) else (if t177 = 1 then ((wire_Reader_Int.f k bt174.1 bt174.2).bind fun bt182 => ((wire_Int.f bt182.1).bind fun t185 => (missivelaw02_WireAgain.j0 k a0 t173 t185 bt182.2.1 bt182.2.2))) else (if t177 = 2 then ((wire_Reader_Text.f k bt174.1 bt174.2).bind fun bt186 => ((wire_Text.f bt186.1).bind fun t189 => (missivelaw02_WireAgain.j0 k a0 t173 t189 bt186.2.1 bt186.2.2))) else (if t177 = 3 then ((wire_Reader_Nums.f k bt174.1 bt174.2).bind fun bt190 => ((wire_Nums.f bt190.1).bind fun t195 => (missivelaw02_WireAgain.j0 k a0 t173 t195 bt190.2.1 bt190.2.2))) else ((wire_Reader_Texts.f k bt174.1 bt174.2).bind fun bt196 => ((wire_Texts.f bt196.1).bind fun t201 => (missivelaw02_WireAgain.j0 k a0 t173 t201 bt196.2.1 bt196.2.2))))))))))
theorem missivelaw02_WireAgain.mono_l : ∀ k, (∀ y0 y1 y2 y3 y4, LeO (missivelaw02_WireAgain.j0 k y0 y1 y2 y3 y4) (missivelaw02_WireAgain.j0 (k + 1) y0 y1 y2 y3 y4))
  | 0 => fun _ _ _ _ _ r h => by simp [missivelaw02_WireAgain.j0] at h
  | k + 1 => by
    have ih0 := missivelaw02_WireAgain.mono_l k
    · intro y0 y1 y2 y3 y4
      unfold missivelaw02_WireAgain.j0
      repeat' first
      | (with_reducible exact ih0 _ _ _ _ _)
      | (with_reducible exact missivelaw02_small.mono _)
      | (with_reducible exact wire_Reader_Int.mono _ _ _)
      | (with_reducible exact wire_Reader_Num.mono _ _ _)
      | (with_reducible exact wire_Reader_Nums.mono _ _ _)
      | (with_reducible exact wire_Reader_Text.mono _ _ _)
      | (with_reducible exact wire_Reader_Texts.mono _ _ _)
      | (with_reducible exact LeO.refl _)
      | (with_reducible exact LeO.none _)
      | (with_reducible refine LeO.ite ?_ ?_)
      | (with_reducible refine LeO.bind ?_ (fun _ => ?_))
      | exact ih0 _ _ _ _ _
      | exact missivelaw02_small.mono _
      | exact wire_Reader_Int.mono _ _ _
      | exact wire_Reader_Num.mono _ _ _
      | exact wire_Reader_Nums.mono _ _ _
      | exact wire_Reader_Text.mono _ _ _
      | exact wire_Reader_Texts.mono _ _ _
      | exact LeO.none _
      | refine LeO.ite ?_ ?_
      | refine LeO.bind ?_ (fun _ => ?_)
theorem missivelaw02_WireAgain.mono : ∀ a0 a1 k, LeO (missivelaw02_WireAgain.f k a0 a1) (missivelaw02_WireAgain.f (k + 1) a0 a1) := by
  intro a0 a1 k
  have ih0 := missivelaw02_WireAgain.mono_l k
  unfold missivelaw02_WireAgain.f
  repeat' first
      | (with_reducible exact ih0 _ _ _ _ _)
      | (with_reducible exact missivelaw02_small.mono _)
      | (with_reducible exact wire_Reader_Int.mono _ _ _)
      | (with_reducible exact wire_Reader_Num.mono _ _ _)
      | (with_reducible exact wire_Reader_Nums.mono _ _ _)
      | (with_reducible exact wire_Reader_Text.mono _ _ _)
      | (with_reducible exact wire_Reader_Texts.mono _ _ _)
      | (with_reducible exact LeO.refl _)
      | (with_reducible exact LeO.none _)
      | (with_reducible refine LeO.ite ?_ ?_)
      | (with_reducible refine LeO.bind ?_ (fun _ => ?_))
      | exact ih0 _ _ _ _ _
      | exact missivelaw02_small.mono _
      | exact wire_Reader_Int.mono _ _ _
      | exact wire_Reader_Num.mono _ _ _
      | exact wire_Reader_Nums.mono _ _ _
      | exact wire_Reader_Text.mono _ _ _
      | exact wire_Reader_Texts.mono _ _ _
      | exact LeO.none _
      | refine LeO.ite ?_ ?_
      | refine LeO.bind ?_ (fun _ => ?_)
set_option maxHeartbeats 8000000 in
set_option maxRecDepth 100000 in
theorem missivelaw02_WireAgain.calls (k : Nat) (a0 : ByteArray) (a1 : Int) (r : Bool) (w : World) (hG : GOk 0 w) (h : missivelaw02_WireAgain.f k a0 a1 = some r) :
    Calls Tryd.prog 3 #[.string a0, .int .i64 a1] w fun e w' => e = .returned (.bool r) ∧ Below w.heap.size w w' := by
  have hu29 := Tryd.underlying29
  have HB := Aside0.mk (Below.refl w.heap.size w)
  have H : ((missivelaw02_small.f k).bind fun t173 => (if (a0.size : Int) > 400 then (some t173) else ((wire_Open.f a0).bind fun bt174 => ((missivelaw02_kind.f a1 0 (⟨#[]⟩ : ByteArray) ([] : List Int) ([] : List ByteArray)).bind fun t177 => (if t177 = 0 then ((wire_Reader_Num.f k bt174.1 bt174.2).bind fun bt178 => ((wire_Num.f bt178.1).bind fun t181 => (missivelaw02_WireAgain.j0 k a0 t173 t181 bt178.2.1 bt178.2.2))) else (if t177 = 1 then ((wire_Reader_Int.f k bt174.1 bt174.2).bind fun bt182 => ((wire_Int.f bt182.1).bind fun t185 => (missivelaw02_WireAgain.j0 k a0 t173 t185 bt182.2.1 bt182.2.2))) else (if t177 = 2 then ((wire_Reader_Text.f k bt174.1 bt174.2).bind fun bt186 => ((wire_Text.f bt186.1).bind fun t189 => (missivelaw02_WireAgain.j0 k a0 t173 t189 bt186.2.1 bt186.2.2))) else (if t177 = 3 then ((wire_Reader_Nums.f k bt174.1 bt174.2).bind fun bt190 => ((wire_Nums.f bt190.1).bind fun t195 => (missivelaw02_WireAgain.j0 k a0 t173 t195 bt190.2.1 bt190.2.2))) else ((wire_Reader_Texts.f k bt174.1 bt174.2).bind fun bt196 => ((wire_Texts.f bt196.1).bind fun t201 => (missivelaw02_WireAgain.j0 k a0 t173 t201 bt196.2.1 bt196.2.2))))))))))) = some r := h
  clear h
  replace H := Option.bind_eq_some_iff.mp H
  obtain ⟨t173, A30, H⟩ := H
  replace H : (if (a0.size : Int) > 400 then (some t173) else ((wire_Open.f a0).bind fun bt174 => ((missivelaw02_kind.f a1 0 (⟨#[]⟩ : ByteArray) ([] : List Int) ([] : List ByteArray)).bind fun t177 => (if t177 = 0 then ((wire_Reader_Num.f k bt174.1 bt174.2).bind fun bt178 => ((wire_Num.f bt178.1).bind fun t181 => (missivelaw02_WireAgain.j0 k a0 t173 t181 bt178.2.1 bt178.2.2))) else (if t177 = 1 then ((wire_Reader_Int.f k bt174.1 bt174.2).bind fun bt182 => ((wire_Int.f bt182.1).bind fun t185 => (missivelaw02_WireAgain.j0 k a0 t173 t185 bt182.2.1 bt182.2.2))) else (if t177 = 2 then ((wire_Reader_Text.f k bt174.1 bt174.2).bind fun bt186 => ((wire_Text.f bt186.1).bind fun t189 => (missivelaw02_WireAgain.j0 k a0 t173 t189 bt186.2.1 bt186.2.2))) else (if t177 = 3 then ((wire_Reader_Nums.f k bt174.1 bt174.2).bind fun bt190 => ((wire_Nums.f bt190.1).bind fun t195 => (missivelaw02_WireAgain.j0 k a0 t173 t195 bt190.2.1 bt190.2.2))) else ((wire_Reader_Texts.f k bt174.1 bt174.2).bind fun bt196 => ((wire_Texts.f bt196.1).bind fun t201 => (missivelaw02_WireAgain.j0 k a0 t173 t201 bt196.2.1 bt196.2.2)))))))))) = some r := H
  have A3 := Aside0.mk A30
  clear A30
  by_cases c4 : (a0.size : Int) > 400
  · rw [if_pos c4] at H
    have c4b0 : decide (400 < (a0.size : Int)) = true := decide_eq_true c4
    have c4b1 : decide (400 < a0.size) = true := decide_eq_true (by omega)
    clear c4
    obtain rfl := Option.some.inj H
    go_enter Tryd.func3, Tryd.ntmps3
    go_wp2_with (first | ((with_reducible refine gate_callee (f := 15) rfl ?_); refine goesL_ (some 9) rfl rfl Tryd.func15 (by kernel_rfl) rfl #[] rfl (by (try simp only [List.map_toArray, List.map_cons, List.map_nil]); first | done | rfl | (simp only [List.length_drop, List.length_take]; rfl)) ?_; (with_reducible refine (missivelaw02_small.calls k  t173 _ ?side1 A3.out).mono ?_); (case side1 => exact GOk.below hG (by decide) (by repeat (first | (with_reducible first | exact HB.out | apply below_alloc | apply pw_below_drewN | apply below_drew1) | exact HB.out))); rintro e w5 ⟨rfl, hb⟩; refine ⟨_, rfl, ?_⟩; have n0_ := Aside0.mk (below_step (by repeat (first | (with_reducible first | exact HB.out | apply below_alloc | apply pw_below_drewN | apply below_drew1) | exact HB.out)) hb); clear HB; have HB := n0_; clear n0_; (try clear hb); (try clear hb2); (try clear hk); (try clear hi)))
    go_ret
    exact ⟨by first | rfl | (simp [errW_none, errW_some] <;> rfl) | (simp [*, errW_none, errW_some] <;> rfl), by repeat (first | (with_reducible first | exact HB.out | apply below_alloc | apply pw_below_drewN | apply below_drew1) | exact HB.out)⟩
  · rw [if_neg c4] at H
    have c4b0 : decide (400 < (a0.size : Int)) = false := decide_eq_false c4
    have c4b1 : decide (400 < a0.size) = false := decide_eq_false (by omega)
    clear c4
    replace H := Option.bind_eq_some_iff.mp H
    obtain ⟨⟨t174, t175⟩, A60, H⟩ := H
    replace H : ((missivelaw02_kind.f a1 0 (⟨#[]⟩ : ByteArray) ([] : List Int) ([] : List ByteArray)).bind fun t177 => (if t177 = 0 then ((wire_Reader_Num.f k t174 t175).bind fun bt178 => ((wire_Num.f bt178.1).bind fun t181 => (missivelaw02_WireAgain.j0 k a0 t173 t181 bt178.2.1 bt178.2.2))) else (if t177 = 1 then ((wire_Reader_Int.f k t174 t175).bind fun bt182 => ((wire_Int.f bt182.1).bind fun t185 => (missivelaw02_WireAgain.j0 k a0 t173 t185 bt182.2.1 bt182.2.2))) else (if t177 = 2 then ((wire_Reader_Text.f k t174 t175).bind fun bt186 => ((wire_Text.f bt186.1).bind fun t189 => (missivelaw02_WireAgain.j0 k a0 t173 t189 bt186.2.1 bt186.2.2))) else (if t177 = 3 then ((wire_Reader_Nums.f k t174 t175).bind fun bt190 => ((wire_Nums.f bt190.1).bind fun t195 => (missivelaw02_WireAgain.j0 k a0 t173 t195 bt190.2.1 bt190.2.2))) else ((wire_Reader_Texts.f k t174 t175).bind fun bt196 => ((wire_Texts.f bt196.1).bind fun t201 => (missivelaw02_WireAgain.j0 k a0 t173 t201 bt196.2.1 bt196.2.2)))))))) = some r := H
    have A6 := Aside0.mk A60
    clear A60
    replace H := Option.bind_eq_some_iff.mp H
    obtain ⟨t177, A70, H⟩ := H
    replace H : (if t177 = 0 then ((wire_Reader_Num.f k t174 t175).bind fun bt178 => ((wire_Num.f bt178.1).bind fun t181 => (missivelaw02_WireAgain.j0 k a0 t173 t181 bt178.2.1 bt178.2.2))) else (if t177 = 1 then ((wire_Reader_Int.f k t174 t175).bind fun bt182 => ((wire_Int.f bt182.1).bind fun t185 => (missivelaw02_WireAgain.j0 k a0 t173 t185 bt182.2.1 bt182.2.2))) else (if t177 = 2 then ((wire_Reader_Text.f k t174 t175).bind fun bt186 => ((wire_Text.f bt186.1).bind fun t189 => (missivelaw02_WireAgain.j0 k a0 t173 t189 bt186.2.1 bt186.2.2))) else (if t177 = 3 then ((wire_Reader_Nums.f k t174 t175).bind fun bt190 => ((wire_Nums.f bt190.1).bind fun t195 => (missivelaw02_WireAgain.j0 k a0 t173 t195 bt190.2.1 bt190.2.2))) else ((wire_Reader_Texts.f k t174 t175).bind fun bt196 => ((wire_Texts.f bt196.1).bind fun t201 => (missivelaw02_WireAgain.j0 k a0 t173 t201 bt196.2.1 bt196.2.2))))))) = some r := H
    have A7 := Aside0.mk A70
    clear A70
    have HC8 := Aside0.mk H
    clear H
    go_enter Tryd.func3, Tryd.ntmps3
    go_upto_block 0 with (first | ((with_reducible refine gate_callee (f := 15) rfl ?_); refine goesL_ (some 9) rfl rfl Tryd.func15 (by kernel_rfl) rfl #[] rfl (by (try simp only [List.map_toArray, List.map_cons, List.map_nil]); first | done | rfl | (simp only [List.length_drop, List.length_take]; rfl)) ?_; (with_reducible refine (missivelaw02_small.calls k  t173 _ ?side1 A3.out).mono ?_); (case side1 => exact GOk.below hG (by decide) (by repeat (first | (with_reducible first | exact HB.out | apply below_alloc | apply pw_below_drewN | apply below_drew1) | exact HB.out))); rintro e w9 ⟨rfl, hb⟩; refine ⟨_, rfl, ?_⟩; have n0_ := Aside0.mk (below_step (by repeat (first | (with_reducible first | exact HB.out | apply below_alloc | apply pw_below_drewN | apply below_drew1) | exact HB.out)) hb); clear HB; have HB := n0_; clear n0_; (try clear hb); (try clear hb2); (try clear hk); (try clear hi)) | ((with_reducible refine gate_callee (f := 16) rfl ?_); refine goesL_ (some 15) rfl rfl Tryd.func16 (by kernel_rfl) rfl #[.string a0] rfl (by (try simp only [List.map_toArray, List.map_cons, List.map_nil]); first | done | rfl | (simp only [List.length_drop, List.length_take]; rfl)) ?_; (with_reducible refine (wire_Open.calls a0 t174 t175 w _ ?side1 A6.out).mono ?_); (case side1 => repeat (first | (with_reducible first | exact HB.out | apply below_alloc | apply pw_below_drewN | apply below_drew1) | exact HB.out)); rintro e w10 ⟨g176, rfl, hi, hb, hb2⟩; refine ⟨_, rfl, ?_⟩; have n0_ := Aside0.mk (hb); have n1_ := Aside0.mk (hi); clear HB; have HB := n0_; have HI176 := n1_; clear n0_ n1_; (try clear hb); (try clear hb2); (try clear hk); (try clear hi)) | ((with_reducible refine gate_callee (f := 17) rfl ?_); refine goesL_ (some 20) rfl rfl Tryd.func17 (by kernel_rfl) rfl #[.agg #[.int .i64 a1, .int .i64 0, .string (⟨#[]⟩ : ByteArray), .slice none 0 0, .slice none 0 0]] rfl (by (try simp only [List.map_toArray, List.map_cons, List.map_nil]); first | done | rfl | (simp only [List.length_drop, List.length_take]; rfl)) ?_; (refine (missivelaw02_kind.calls a1 0 (⟨#[]⟩ : ByteArray) _ _ ([] : List Int) _ _ ([] : List ByteArray) t177 _ ?side1 ?side2 ?side3 ?side4 A7.out).mono ?_); (case side1 => exact Kd.C_nil _ _); (case side2 => exact Nat.le_refl _); (case side3 => exact Kd.C_nil _ _); (case side4 => exact Nat.le_refl _); rintro e w11 ⟨rfl, hb⟩; refine ⟨_, rfl, ?_⟩; have n0_ := Aside0.mk (IsS78.below (by repeat (first | (with_reducible first | exact HI176.out | apply IsS78.alloc | apply IsS78.drewN | apply IsS78.drew | apply IsS78.set_0 | apply IsS78.set_1) | exact HI176.out)) hb); have n1_ := Aside0.mk (below_step (by repeat (first | (with_reducible first | exact HB.out | apply below_alloc | apply pw_below_drewN | apply below_drew1 | refine below_set ?_ (IsS78.ge HI176.out)) | exact HB.out)) hb); clear HI176; clear HB; have HI176 := n0_; have HB := n1_; clear n0_ n1_; (try clear hb); (try clear hb2); (try clear hk); (try clear hi)))
    (try simp only [Act.put, List.setIfInBounds_toArray, List.set_cons_zero, List.set_cons_succ])
    go_cut [7] (fun v7 wc => ∃ (kq : Nat) (x7_7 : ByteArray) (x177000_7 : ByteArray) (x177001_7 : Bool), v7 = .string x7_7 ∧ Aside0 (missivelaw02_WireAgain.j0 kq a0 t173 x7_7 x177000_7 x177001_7 = some r) ∧ Aside0 (kq ≤ k) ∧ Aside0 (IsS78 w wc g176 x177000_7 x177001_7) ∧ Aside0 (Below w.heap.size w wc))
    case first =>
      have H := HC8.out
      clear HC8
      by_cases c12 : t177 = 0
      · rw [if_pos c12] at H
        have c12b0 : (t177 == 0) = true := beq_iff_eq.mpr c12
        have c12b1 : (t177 != 0) = false := bne_eq_false_iff_eq.mpr c12
        clear c12
        (first | rw [c12b0] | (simp only [i64_w, i32_w]; rw [c12b0]) | skip)
        replace H := Option.bind_eq_some_iff.mp H
        obtain ⟨⟨t178, t179, t180⟩, A130, H⟩ := H
        replace H : ((wire_Num.f t178).bind fun t181 => (missivelaw02_WireAgain.j0 k a0 t173 t181 t179 t180)) = some r := H
        have A13 := Aside0.mk A130
        clear A130
        replace H := Option.bind_eq_some_iff.mp H
        obtain ⟨t181, A140, H⟩ := H
        replace H : (missivelaw02_WireAgain.j0 k a0 t173 t181 t179 t180) = some r := H
        have A14 := Aside0.mk A140
        clear A140
        have H' := Aside0.mk H
        clear H
        go_wp2_with (first | ((with_reducible refine gate_callee (f := 19) rfl ?_); refine goesL_ (some 27) rfl rfl Tryd.func19 (by kernel_rfl) rfl #[.pointer (some ⟨g176, 0, none⟩)] rfl (by (try simp only [List.map_toArray, List.map_cons, List.map_nil]); first | done | rfl | (simp only [List.length_drop, List.length_take]; rfl)) ?_; (with_reducible refine (wire_Reader_Num.calls k g176 t174 t175 t178 t179 t180 w _ ?side1 ?side2 A13.out).mono ?_); (case side1 => repeat (first | (with_reducible first | exact HI176.out | apply IsS78.alloc | apply IsS78.drewN | apply IsS78.drew | apply IsS78.set_0 | apply IsS78.set_1) | exact HI176.out)); (case side2 => repeat (first | (with_reducible first | exact HB.out | apply below_alloc | apply pw_below_drewN | apply below_drew1 | refine below_set ?_ (IsS78.ge HI176.out)) | exact HB.out)); rintro e w15 ⟨rfl, hi, hb, hk⟩; refine ⟨_, rfl, ?_⟩; have n0_ := Aside0.mk (hb); have n1_ := Aside0.mk (hi); clear HB; clear HI176; have HB := n0_; have HI176 := n1_; clear n0_ n1_; (try clear hb); (try clear hb2); (try clear hk); (try clear hi)) | ((with_reducible refine gate_callee (f := 18) rfl ?_); refine goesL_ (some 28) rfl rfl Tryd.func18 (by kernel_rfl) rfl #[.int .i64 t178] rfl (by (try simp only [List.map_toArray, List.map_cons, List.map_nil]); first | done | rfl | (simp only [List.length_drop, List.length_take]; rfl)) ?_; (with_reducible refine (wire_Num.calls t178 t181 _ ?side1 A14.out).mono ?_); (case side1 => exact GOk.below hG (by decide) (by repeat (first | (with_reducible first | exact HB.out | apply below_alloc | apply pw_below_drewN | apply below_drew1 | refine below_set ?_ (IsS78.ge HI176.out)) | exact HB.out))); rintro e w16 ⟨rfl, hb⟩; refine ⟨_, rfl, ?_⟩; have n0_ := Aside0.mk (IsS78.below (by repeat (first | (with_reducible first | exact HI176.out | apply IsS78.alloc | apply IsS78.drewN | apply IsS78.drew | apply IsS78.set_0 | apply IsS78.set_1) | exact HI176.out)) hb); have n1_ := Aside0.mk (below_step (by repeat (first | (with_reducible first | exact HB.out | apply below_alloc | apply pw_below_drewN | apply below_drew1 | refine below_set ?_ (IsS78.ge HI176.out)) | exact HB.out)) hb); clear HI176; clear HB; have HI176 := n0_; have HB := n1_; clear n0_ n1_; (try clear hb); (try clear hb2); (try clear hk); (try clear hi)))
        go_meet
        case rel => exact ⟨_, (t181), (t179), (t180), (by first | rfl | (simp; done) | (simp [*]; done)), H', ⟨by first | omega | exact Nat.le_refl _⟩, ⟨by repeat (first | (with_reducible first | exact HI176.out | apply IsS78.alloc | apply IsS78.drewN | apply IsS78.drew | apply IsS78.set_0 | apply IsS78.set_1) | exact HI176.out)⟩, ⟨by repeat (first | (with_reducible first | exact HB.out | apply below_alloc | apply pw_below_drewN | apply below_drew1 | refine below_set ?_ (IsS78.ge HI176.out)) | exact HB.out)⟩⟩
      · rw [if_neg c12] at H
        have c12b0 : (t177 == 0) = false := beq_eq_false_iff_ne.mpr c12
        have c12b1 : (t177 != 0) = true := bne_iff_ne.mpr c12
        (first | rw [c12b0] | (simp only [i64_w, i32_w]; rw [c12b0]) | skip)
        by_cases c17 : t177 = 1
        · rw [if_pos c17] at H
          have c17b0 : (t177 == 1) = true := beq_iff_eq.mpr c17
          have c17b1 : (t177 != 1) = false := bne_eq_false_iff_eq.mpr c17
          clear c17
          replace H := Option.bind_eq_some_iff.mp H
          obtain ⟨⟨t182, t183, t184⟩, A180, H⟩ := H
          replace H : ((wire_Int.f t182).bind fun t185 => (missivelaw02_WireAgain.j0 k a0 t173 t185 t183 t184)) = some r := H
          have A18 := Aside0.mk A180
          clear A180
          replace H := Option.bind_eq_some_iff.mp H
          obtain ⟨t185, A190, H⟩ := H
          replace H : (missivelaw02_WireAgain.j0 k a0 t173 t185 t183 t184) = some r := H
          have A19 := Aside0.mk A190
          clear A190
          have H' := Aside0.mk H
          clear H
          go_wp2_with (first | ((with_reducible refine gate_callee (f := 21) rfl ?_); refine goesL_ (some 32) rfl rfl Tryd.func21 (by kernel_rfl) rfl #[.pointer (some ⟨g176, 0, none⟩)] rfl (by (try simp only [List.map_toArray, List.map_cons, List.map_nil]); first | done | rfl | (simp only [List.length_drop, List.length_take]; rfl)) ?_; (with_reducible refine (wire_Reader_Int.calls k g176 t174 t175 t182 t183 t184 w _ ?side1 ?side2 A18.out).mono ?_); (case side1 => repeat (first | (with_reducible first | exact HI176.out | apply IsS78.alloc | apply IsS78.drewN | apply IsS78.drew | apply IsS78.set_0 | apply IsS78.set_1) | exact HI176.out)); (case side2 => repeat (first | (with_reducible first | exact HB.out | apply below_alloc | apply pw_below_drewN | apply below_drew1 | refine below_set ?_ (IsS78.ge HI176.out)) | exact HB.out)); rintro e w20 ⟨rfl, hi, hb, hk⟩; refine ⟨_, rfl, ?_⟩; have n0_ := Aside0.mk (hb); have n1_ := Aside0.mk (hi); clear HB; clear HI176; have HB := n0_; have HI176 := n1_; clear n0_ n1_; (try clear hb); (try clear hb2); (try clear hk); (try clear hi)) | ((with_reducible refine gate_callee (f := 20) rfl ?_); refine goesL_ (some 33) rfl rfl Tryd.func20 (by kernel_rfl) rfl #[.int .i64 t182] rfl (by (try simp only [List.map_toArray, List.map_cons, List.map_nil]); first | done | rfl | (simp only [List.length_drop, List.length_take]; rfl)) ?_; (with_reducible refine (wire_Int.calls t182 t185 _ ?side1 A19.out).mono ?_); (case side1 => exact GOk.below hG (by decide) (by repeat (first | (with_reducible first | exact HB.out | apply below_alloc | apply pw_below_drewN | apply below_drew1 | refine below_set ?_ (IsS78.ge HI176.out)) | exact HB.out))); rintro e w21 ⟨rfl, hb⟩; refine ⟨_, rfl, ?_⟩; have n0_ := Aside0.mk (IsS78.below (by repeat (first | (with_reducible first | exact HI176.out | apply IsS78.alloc | apply IsS78.drewN | apply IsS78.drew | apply IsS78.set_0 | apply IsS78.set_1) | exact HI176.out)) hb); have n1_ := Aside0.mk (below_step (by repeat (first | (with_reducible first | exact HB.out | apply below_alloc | apply pw_below_drewN | apply below_drew1 | refine below_set ?_ (IsS78.ge HI176.out)) | exact HB.out)) hb); clear HI176; clear HB; have HI176 := n0_; have HB := n1_; clear n0_ n1_; (try clear hb); (try clear hb2); (try clear hk); (try clear hi)))
          go_meet
          case rel => exact ⟨_, (t185), (t183), (t184), (by first | rfl | (simp; done) | (simp [*]; done)), H', ⟨by first | omega | exact Nat.le_refl _⟩, ⟨by repeat (first | (with_reducible first | exact HI176.out | apply IsS78.alloc | apply IsS78.drewN | apply IsS78.drew | apply IsS78.set_0 | apply IsS78.set_1) | exact HI176.out)⟩, ⟨by repeat (first | (with_reducible first | exact HB.out | apply below_alloc | apply pw_below_drewN | apply below_drew1 | refine below_set ?_ (IsS78.ge HI176.out)) | exact HB.out)⟩⟩
        · rw [if_neg c17] at H
          have c17b0 : (t177 == 1) = false := beq_eq_false_iff_ne.mpr c17
          have c17b1 : (t177 != 1) = true := bne_iff_ne.mpr c17
          by_cases c22 : t177 = 2
          · rw [if_pos c22] at H
            have c22b0 : (t177 == 2) = true := beq_iff_eq.mpr c22
            have c22b1 : (t177 != 2) = false := bne_eq_false_iff_eq.mpr c22
            clear c22
            replace H := Option.bind_eq_some_iff.mp H
            obtain ⟨⟨t186, t187, t188⟩, A230, H⟩ := H
            replace H : ((wire_Text.f t186).bind fun t189 => (missivelaw02_WireAgain.j0 k a0 t173 t189 t187 t188)) = some r := H
            have A23 := Aside0.mk A230
            clear A230
            replace H := Option.bind_eq_some_iff.mp H
            obtain ⟨t189, A240, H⟩ := H
            replace H : (missivelaw02_WireAgain.j0 k a0 t173 t189 t187 t188) = some r := H
            have A24 := Aside0.mk A240
            clear A240
            have H' := Aside0.mk H
            clear H
            go_wp2_with (first | ((with_reducible refine gate_callee (f := 23) rfl ?_); refine goesL_ (some 37) rfl rfl Tryd.func23 (by kernel_rfl) rfl #[.pointer (some ⟨g176, 0, none⟩)] rfl (by (try simp only [List.map_toArray, List.map_cons, List.map_nil]); first | done | rfl | (simp only [List.length_drop, List.length_take]; rfl)) ?_; (with_reducible refine (wire_Reader_Text.calls k g176 t174 t175 t186 t187 t188 w _ ?side1 ?side2 A23.out).mono ?_); (case side1 => repeat (first | (with_reducible first | exact HI176.out | apply IsS78.alloc | apply IsS78.drewN | apply IsS78.drew | apply IsS78.set_0 | apply IsS78.set_1) | exact HI176.out)); (case side2 => repeat (first | (with_reducible first | exact HB.out | apply below_alloc | apply pw_below_drewN | apply below_drew1 | refine below_set ?_ (IsS78.ge HI176.out)) | exact HB.out)); rintro e w25 ⟨rfl, hi, hb, hk⟩; refine ⟨_, rfl, ?_⟩; have n0_ := Aside0.mk (hb); have n1_ := Aside0.mk (hi); clear HB; clear HI176; have HB := n0_; have HI176 := n1_; clear n0_ n1_; (try clear hb); (try clear hb2); (try clear hk); (try clear hi)) | ((with_reducible refine gate_callee (f := 22) rfl ?_); refine goesL_ (some 38) rfl rfl Tryd.func22 (by kernel_rfl) rfl #[.string t186] rfl (by (try simp only [List.map_toArray, List.map_cons, List.map_nil]); first | done | rfl | (simp only [List.length_drop, List.length_take]; rfl)) ?_; (with_reducible refine (wire_Text.calls t186 t189 _ ?side1 A24.out).mono ?_); (case side1 => exact GOk.below hG (by decide) (by repeat (first | (with_reducible first | exact HB.out | apply below_alloc | apply pw_below_drewN | apply below_drew1 | refine below_set ?_ (IsS78.ge HI176.out)) | exact HB.out))); rintro e w26 ⟨rfl, hb⟩; refine ⟨_, rfl, ?_⟩; have n0_ := Aside0.mk (IsS78.below (by repeat (first | (with_reducible first | exact HI176.out | apply IsS78.alloc | apply IsS78.drewN | apply IsS78.drew | apply IsS78.set_0 | apply IsS78.set_1) | exact HI176.out)) hb); have n1_ := Aside0.mk (below_step (by repeat (first | (with_reducible first | exact HB.out | apply below_alloc | apply pw_below_drewN | apply below_drew1 | refine below_set ?_ (IsS78.ge HI176.out)) | exact HB.out)) hb); clear HI176; clear HB; have HI176 := n0_; have HB := n1_; clear n0_ n1_; (try clear hb); (try clear hb2); (try clear hk); (try clear hi)))
            go_meet
            case rel => exact ⟨_, (t189), (t187), (t188), (by first | rfl | (simp; done) | (simp [*]; done)), H', ⟨by first | omega | exact Nat.le_refl _⟩, ⟨by repeat (first | (with_reducible first | exact HI176.out | apply IsS78.alloc | apply IsS78.drewN | apply IsS78.drew | apply IsS78.set_0 | apply IsS78.set_1) | exact HI176.out)⟩, ⟨by repeat (first | (with_reducible first | exact HB.out | apply below_alloc | apply pw_below_drewN | apply below_drew1 | refine below_set ?_ (IsS78.ge HI176.out)) | exact HB.out)⟩⟩
          · rw [if_neg c22] at H
            have c22b0 : (t177 == 2) = false := beq_eq_false_iff_ne.mpr c22
            have c22b1 : (t177 != 2) = true := bne_iff_ne.mpr c22
            by_cases c27 : t177 = 3
            · rw [if_pos c27] at H
              have c27b0 : (t177 == 3) = true := beq_iff_eq.mpr c27
              have c27b1 : (t177 != 3) = false := bne_eq_false_iff_eq.mpr c27
              clear c27
              replace H := Option.bind_eq_some_iff.mp H
              obtain ⟨⟨t190, t193, t194⟩, A280, H⟩ := H
              replace H : ((wire_Nums.f t190).bind fun t195 => (missivelaw02_WireAgain.j0 k a0 t173 t195 t193 t194)) = some r := H
              have A28 := Aside0.mk A280
              clear A280
              replace H := Option.bind_eq_some_iff.mp H
              obtain ⟨t195, A290, H⟩ := H
              replace H : (missivelaw02_WireAgain.j0 k a0 t173 t195 t193 t194) = some r := H
              have A29 := Aside0.mk A290
              clear A290
              have H' := Aside0.mk H
              clear H
              go_wp2_with (first | ((with_reducible refine gate_callee (f := 25) rfl ?_); refine goesL_ (some 42) rfl rfl Tryd.func25 (by kernel_rfl) rfl #[.pointer (some ⟨g176, 0, none⟩)] rfl (by (try simp only [List.map_toArray, List.map_cons, List.map_nil]); first | done | rfl | (simp only [List.length_drop, List.length_take]; rfl)) ?_; (with_reducible refine (wire_Reader_Nums.calls k g176 t174 t175 t190 t193 t194 w _ ?side1 ?side2 A28.out).mono ?_); (case side1 => repeat (first | (with_reducible first | exact HI176.out | apply IsS78.alloc | apply IsS78.drewN | apply IsS78.drew | apply IsS78.set_0 | apply IsS78.set_1) | exact HI176.out)); (case side2 => repeat (first | (with_reducible first | exact HB.out | apply below_alloc | apply pw_below_drewN | apply below_drew1 | refine below_set ?_ (IsS78.ge HI176.out)) | exact HB.out)); rintro e w30 ⟨v191, rfl, ho0, hi, hb, hk⟩; refine ⟨_, rfl, ?_⟩; have n0_ := Aside0.mk (Kd.R_lower ho0 (below_size (by repeat (first | (with_reducible first | exact HB.out | apply below_alloc | apply pw_below_drewN | apply below_drew1 | refine below_set ?_ (IsS78.ge HI176.out)) | exact HB.out)))); have n1_ := Aside0.mk (hb); have n2_ := Aside0.mk (hi); clear HB; clear HI176; have HO192 := n0_; have HB := n1_; have HI176 := n2_; clear n0_ n1_ n2_; (try clear hb); (try clear hb2); (try clear hk); (try clear hi); (try clear ho0); obtain ⟨Ao31, co31, eo31⟩ := Kd.R_slice HO192.out; subst eo31) | ((with_reducible refine gate_callee (f := 24) rfl ?_); refine goesL_ (some 43) rfl rfl Tryd.func24 (by kernel_rfl) rfl #[.slice Ao31 t190.length co31] rfl (by (try simp only [List.map_toArray, List.map_cons, List.map_nil]); first | done | rfl | (simp only [List.length_drop, List.length_take]; rfl)) ?_; (with_reducible refine (wire_Nums.calls _ _ t190 t195 _ ?side1 ?side2 ?side3 A29.out).mono ?_); (case side1 => repeat (first | exact (Kd.R_reads' HO192.out).2.2 | (with_reducible refine Kd.C_alloc ?_ _) | (with_reducible refine Kd.C_drewN ?_ _) | (with_reducible refine Kd.C_drew ?_))); (case side2 => exact (Kd.R_reads' HO192.out).2.1); (case side3 => exact GOk.below hG (by decide) (by repeat (first | (with_reducible first | exact HB.out | apply below_alloc | apply pw_below_drewN | apply below_drew1 | refine below_set ?_ (IsS78.ge HI176.out)) | exact HB.out))); rintro e w32 ⟨rfl, hb⟩; refine ⟨_, rfl, ?_⟩; have n0_ := Aside0.mk (Kd.R_below (by (with_reducible repeat (first | apply Kd.R_alloc | apply Kd.R_drewN | apply Kd.R_drew)); exact HO192.out) hb); have n1_ := Aside0.mk (IsS78.below (by repeat (first | (with_reducible first | exact HI176.out | apply IsS78.alloc | apply IsS78.drewN | apply IsS78.drew | apply IsS78.set_0 | apply IsS78.set_1) | exact HI176.out)) hb); have n2_ := Aside0.mk (below_step (by repeat (first | (with_reducible first | exact HB.out | apply below_alloc | apply pw_below_drewN | apply below_drew1 | refine below_set ?_ (IsS78.ge HI176.out)) | exact HB.out)) hb); clear HO192; clear HI176; clear HB; have HO192 := n0_; have HI176 := n1_; have HB := n2_; clear n0_ n1_ n2_; (try clear hb); (try clear hb2); (try clear hk); (try clear hi)))
              go_meet
              case rel => exact ⟨_, (t195), (t193), (t194), (by first | rfl | (simp; done) | (simp [*]; done)), H', ⟨by first | omega | exact Nat.le_refl _⟩, ⟨by repeat (first | (with_reducible first | exact HI176.out | apply IsS78.alloc | apply IsS78.drewN | apply IsS78.drew | apply IsS78.set_0 | apply IsS78.set_1) | exact HI176.out)⟩, ⟨by repeat (first | (with_reducible first | exact HB.out | apply below_alloc | apply pw_below_drewN | apply below_drew1 | refine below_set ?_ (IsS78.ge HI176.out)) | exact HB.out)⟩⟩
            · rw [if_neg c27] at H
              have c27b0 : (t177 == 3) = false := beq_eq_false_iff_ne.mpr c27
              have c27b1 : (t177 != 3) = true := bne_iff_ne.mpr c27
              replace H := Option.bind_eq_some_iff.mp H
              obtain ⟨⟨t196, t199, t200⟩, A330, H⟩ := H
              replace H : ((wire_Texts.f t196).bind fun t201 => (missivelaw02_WireAgain.j0 k a0 t173 t201 t199 t200)) = some r := H
              have A33 := Aside0.mk A330
              clear A330
              replace H := Option.bind_eq_some_iff.mp H
              obtain ⟨t201, A340, H⟩ := H
              replace H : (missivelaw02_WireAgain.j0 k a0 t173 t201 t199 t200) = some r := H
              have A34 := Aside0.mk A340
              clear A340
              have H' := Aside0.mk H
              clear H
              go_wp2_with (first | ((with_reducible refine gate_callee (f := 27) rfl ?_); refine goesL_ (some 22) rfl rfl Tryd.func27 (by kernel_rfl) rfl #[.pointer (some ⟨g176, 0, none⟩)] rfl (by (try simp only [List.map_toArray, List.map_cons, List.map_nil]); first | done | rfl | (simp only [List.length_drop, List.length_take]; rfl)) ?_; (with_reducible refine (wire_Reader_Texts.calls k g176 t174 t175 t196 t199 t200 w _ ?side1 ?side2 A33.out).mono ?_); (case side1 => repeat (first | (with_reducible first | exact HI176.out | apply IsS78.alloc | apply IsS78.drewN | apply IsS78.drew | apply IsS78.set_0 | apply IsS78.set_1) | exact HI176.out)); (case side2 => repeat (first | (with_reducible first | exact HB.out | apply below_alloc | apply pw_below_drewN | apply below_drew1 | refine below_set ?_ (IsS78.ge HI176.out)) | exact HB.out)); rintro e w35 ⟨v197, rfl, ho0, hi, hb, hk⟩; refine ⟨_, rfl, ?_⟩; have n0_ := Aside0.mk (Kd.R_lower ho0 (below_size (by repeat (first | (with_reducible first | exact HB.out | apply below_alloc | apply pw_below_drewN | apply below_drew1 | refine below_set ?_ (IsS78.ge HI176.out)) | exact HB.out)))); have n1_ := Aside0.mk (hb); have n2_ := Aside0.mk (hi); clear HB; clear HI176; have HO198 := n0_; have HB := n1_; have HI176 := n2_; clear n0_ n1_ n2_; (try clear hb); (try clear hb2); (try clear hk); (try clear hi); (try clear ho0); obtain ⟨Ao36, co36, eo36⟩ := Kd.R_slice HO198.out; subst eo36) | ((with_reducible refine gate_callee (f := 26) rfl ?_); refine goesL_ (some 23) rfl rfl Tryd.func26 (by kernel_rfl) rfl #[.slice Ao36 t196.length co36] rfl (by (try simp only [List.map_toArray, List.map_cons, List.map_nil]); first | done | rfl | (simp only [List.length_drop, List.length_take]; rfl)) ?_; (with_reducible refine (wire_Texts.calls _ _ t196 t201 _ ?side1 ?side2 ?side3 A34.out).mono ?_); (case side1 => repeat (first | exact (Kd.R_reads' HO198.out).2.2 | (with_reducible refine Kd.C_alloc ?_ _) | (with_reducible refine Kd.C_drewN ?_ _) | (with_reducible refine Kd.C_drew ?_))); (case side2 => exact (Kd.R_reads' HO198.out).2.1); (case side3 => exact GOk.below hG (by decide) (by repeat (first | (with_reducible first | exact HB.out | apply below_alloc | apply pw_below_drewN | apply below_drew1 | refine below_set ?_ (IsS78.ge HI176.out)) | exact HB.out))); rintro e w37 ⟨rfl, hb⟩; refine ⟨_, rfl, ?_⟩; have n0_ := Aside0.mk (Kd.R_below (by (with_reducible repeat (first | apply Kd.R_alloc | apply Kd.R_drewN | apply Kd.R_drew)); exact HO198.out) hb); have n1_ := Aside0.mk (IsS78.below (by repeat (first | (with_reducible first | exact HI176.out | apply IsS78.alloc | apply IsS78.drewN | apply IsS78.drew | apply IsS78.set_0 | apply IsS78.set_1) | exact HI176.out)) hb); have n2_ := Aside0.mk (below_step (by repeat (first | (with_reducible first | exact HB.out | apply below_alloc | apply pw_below_drewN | apply below_drew1 | refine below_set ?_ (IsS78.ge HI176.out)) | exact HB.out)) hb); clear HO198; clear HI176; clear HB; have HO198 := n0_; have HI176 := n1_; have HB := n2_; clear n0_ n1_ n2_; (try clear hb); (try clear hb2); (try clear hk); (try clear hi)))
              go_meet
              case rel => exact ⟨_, (t201), (t199), (t200), (by first | rfl | (simp; done) | (simp [*]; done)), H', ⟨by first | omega | exact Nat.le_refl _⟩, ⟨by repeat (first | (with_reducible first | exact HI176.out | apply IsS78.alloc | apply IsS78.drewN | apply IsS78.drew | apply IsS78.set_0 | apply IsS78.set_1) | exact HI176.out)⟩, ⟨by repeat (first | (with_reducible first | exact HB.out | apply below_alloc | apply pw_below_drewN | apply below_drew1 | refine below_set ?_ (IsS78.ge HI176.out)) | exact HB.out)⟩⟩
    case rest =>
      clear HC8
      try clear c1
      try clear c2
      try clear p2
      try clear c3
      try clear c4
      try clear c4b0
      try clear c4b1
      try clear c12
      try clear c12b0
      try clear c12b1
      try clear c15
      try clear c16
      try clear c17
      try clear c17b0
      try clear c17b1
      try clear c18
      try clear c19
      try clear c20
      try clear c21
      try clear c22
      try clear c22b0
      try clear c22b1
      try clear c23
      try clear c24
      try clear c25
      try clear c26
      try clear c27
      try clear c27b0
      try clear c27b1
      obtain ⟨kq, x7_7, x177000_7, x177001_7, rfl, HA, HJ7, HI176, HB⟩ := hcut
      cases kq with
      | zero => exact absurd HA.out (by simp [missivelaw02_WireAgain.j0])
      | succ kj7 =>
        have H := HA.out
        clear HA
        simp only [missivelaw02_WireAgain.j0] at H
        replace H := Option.bind_eq_some_iff.mp H
        obtain ⟨⟨t202, t203, t204⟩, A380, H⟩ := H
        replace H : (if t202 = 0 then ((wire_Reader_Done.f t203 t204).bind fun bt205 => (if bt205.1 = true then ((wire_Reader_Left.f bt205.2.1 bt205.2.2).bind fun bt208 => (if t173 = true then (if (wrap64 ((a0.size : Int) - bt208.1)) ≥ 0 then (if (wrap64 ((a0.size : Int) - bt208.1)) ≤ (a0.size : Int) then (if 0 ≤ (mx 0 (mn (wrap64 ((a0.size : Int) - bt208.1)) (a0.size : Int))) then (if (mx 0 (mn (wrap64 ((a0.size : Int) - bt208.1)) (a0.size : Int))) ≤ (a0.size : Int) then (some (x7_7.toList == (a0.extract 0 ((mx 0 (mn (wrap64 ((a0.size : Int) - bt208.1)) (a0.size : Int))) : Int).toNat).toList)) else (none)) else (none)) else (some false)) else (some false)) else (some false))) else (some t173))) else ((wire_Reader_Left.f t203 t204).bind fun bt211 => (if t173 = true then (if (wrap64 ((a0.size : Int) - bt211.1)) ≥ 0 then (if (wrap64 ((a0.size : Int) - bt211.1)) ≤ (a0.size : Int) then (if 0 ≤ (mx 0 (mn (wrap64 ((a0.size : Int) - bt211.1)) (a0.size : Int))) then (if (mx 0 (mn (wrap64 ((a0.size : Int) - bt211.1)) (a0.size : Int))) ≤ (a0.size : Int) then (some (x7_7.toList == (a0.extract 0 ((mx 0 (mn (wrap64 ((a0.size : Int) - bt211.1)) (a0.size : Int))) : Int).toNat).toList)) else (none)) else (none)) else (some false)) else (some false)) else (some false)))) = some r := H
        have A38 := Aside0.mk A380
        clear A380
        by_cases c39 : t202 = 0
        · rw [if_pos c39] at H
          have c39b0 : (t202 == 0) = true := beq_iff_eq.mpr c39
          have c39b1 : (t202 != 0) = false := bne_eq_false_iff_eq.mpr c39
          clear c39
          replace H := Option.bind_eq_some_iff.mp H
          obtain ⟨⟨t205, t206, t207⟩, A400, H⟩ := H
          replace H : (if t205 = true then ((wire_Reader_Left.f t206 t207).bind fun bt208 => (if t173 = true then (if (wrap64 ((a0.size : Int) - bt208.1)) ≥ 0 then (if (wrap64 ((a0.size : Int) - bt208.1)) ≤ (a0.size : Int) then (if 0 ≤ (mx 0 (mn (wrap64 ((a0.size : Int) - bt208.1)) (a0.size : Int))) then (if (mx 0 (mn (wrap64 ((a0.size : Int) - bt208.1)) (a0.size : Int))) ≤ (a0.size : Int) then (some (x7_7.toList == (a0.extract 0 ((mx 0 (mn (wrap64 ((a0.size : Int) - bt208.1)) (a0.size : Int))) : Int).toNat).toList)) else (none)) else (none)) else (some false)) else (some false)) else (some false))) else (some t173)) = some r := H
          have A40 := Aside0.mk A400
          clear A400
          by_cases c41 : t205 = true
          · subst c41
            have H1 : ((wire_Reader_Left.f t206 t207).bind fun bt208 => (if t173 = true then (if (wrap64 ((a0.size : Int) - bt208.1)) ≥ 0 then (if (wrap64 ((a0.size : Int) - bt208.1)) ≤ (a0.size : Int) then (if 0 ≤ (mx 0 (mn (wrap64 ((a0.size : Int) - bt208.1)) (a0.size : Int))) then (if (mx 0 (mn (wrap64 ((a0.size : Int) - bt208.1)) (a0.size : Int))) ≤ (a0.size : Int) then (some (x7_7.toList == (a0.extract 0 ((mx 0 (mn (wrap64 ((a0.size : Int) - bt208.1)) (a0.size : Int))) : Int).toNat).toList)) else (none)) else (none)) else (some false)) else (some false)) else (some false))) = some r := by rw [if_pos rfl] at H; exact H
            clear H
            have H := H1
            clear H1
            replace H := Option.bind_eq_some_iff.mp H
            obtain ⟨⟨t208, t209, t210⟩, A420, H⟩ := H
            replace H : (if t173 = true then (if (wrap64 ((a0.size : Int) - t208)) ≥ 0 then (if (wrap64 ((a0.size : Int) - t208)) ≤ (a0.size : Int) then (if 0 ≤ (mx 0 (mn (wrap64 ((a0.size : Int) - t208)) (a0.size : Int))) then (if (mx 0 (mn (wrap64 ((a0.size : Int) - t208)) (a0.size : Int))) ≤ (a0.size : Int) then (some (x7_7.toList == (a0.extract 0 ((mx 0 (mn (wrap64 ((a0.size : Int) - t208)) (a0.size : Int))) : Int).toNat).toList)) else (none)) else (none)) else (some false)) else (some false)) else (some false)) = some r := H
            have A42 := Aside0.mk A420
            clear A420
            by_cases c43 : t173 = true
            · subst c43
              have H1 : (if (wrap64 ((a0.size : Int) - t208)) ≥ 0 then (if (wrap64 ((a0.size : Int) - t208)) ≤ (a0.size : Int) then (if 0 ≤ (mx 0 (mn (wrap64 ((a0.size : Int) - t208)) (a0.size : Int))) then (if (mx 0 (mn (wrap64 ((a0.size : Int) - t208)) (a0.size : Int))) ≤ (a0.size : Int) then (some (x7_7.toList == (a0.extract 0 ((mx 0 (mn (wrap64 ((a0.size : Int) - t208)) (a0.size : Int))) : Int).toNat).toList)) else (none)) else (none)) else (some false)) else (some false)) = some r := by rw [if_pos rfl] at H; exact H
              clear H
              have H := H1
              clear H1
              by_cases c44 : (wrap64 ((a0.size : Int) - t208)) ≥ 0
              · rw [if_pos c44] at H
                have c44b0 : decide (0 ≤ (wrap64 ((a0.size : Int) - t208))) = true := decide_eq_true c44
                clear c44
                by_cases c45 : (wrap64 ((a0.size : Int) - t208)) ≤ (a0.size : Int)
                · rw [if_pos c45] at H
                  have c45b0 : decide ((wrap64 ((a0.size : Int) - t208)) ≤ (a0.size : Int)) = true := decide_eq_true c45
                  clear c45
                  obtain ⟨ji46, hji46⟩ : ∃ j_ : Int, (mn (wrap64 ((a0.size : Int) - t208)) (a0.size : Int)) = j_ := ⟨_, rfl⟩
                  replace H : (if 0 ≤ (mx 0 (ji46)) then (if (mx 0 (ji46)) ≤ (a0.size : Int) then (some (x7_7.toList == (a0.extract 0 ((mx 0 (ji46)) : Int).toNat).toList)) else (none)) else (none)) = some r := by first | (rw [hji46] at H; exact H) | (simp only [hji46] at H ⊢; exact H)
                  (try rw [hji46] at A38)
                  (try rw [hji46] at A40)
                  (try rw [hji46] at A42)
                  have hji46_ : (if (a0.size : Int) < (wrap64 ((a0.size : Int) - t208)) then (a0.size : Int) else (wrap64 ((a0.size : Int) - t208))) = ji46 := hji46
                  obtain ⟨ji47, hji47⟩ : ∃ j_ : Int, (mx 0 (ji46)) = j_ := ⟨_, rfl⟩
                  replace H : (if 0 ≤ (ji47) then (if (ji47) ≤ (a0.size : Int) then (some (x7_7.toList == (a0.extract 0 ((ji47) : Int).toNat).toList)) else (none)) else (none)) = some r := by first | (rw [hji47] at H; exact H) | (simp only [hji47] at H ⊢; exact H)
                  (try rw [hji47] at A38)
                  (try rw [hji47] at A40)
                  (try rw [hji47] at A42)
                  have hji47_ : (if 0 < (ji46) then (ji46) else 0) = ji47 := hji47
                  by_cases c48 : 0 ≤ (ji47)
                  · rw [if_pos c48] at H
                    have c48b0 := eq_true c48
                    have c48b1 : decide (0 ≤ (ji47)) = true := decide_eq_true c48
                    clear c48
                    by_cases c49 : (ji47) ≤ (a0.size : Int)
                    · rw [if_pos c49] at H
                      have c49b0 := eq_true c49
                      have c49b1 : decide ((ji47) ≤ (a0.size : Int)) = true := decide_eq_true c49
                      clear c49
                      obtain rfl := Option.some.inj H
                      go_wp2_with (first | ((with_reducible refine gate_callee (f := 28) rfl ?_); refine goesL_ (some 45) rfl rfl Tryd.func28 (by kernel_rfl) rfl #[.pointer (some ⟨g176, 0, none⟩)] rfl (by (try simp only [List.map_toArray, List.map_cons, List.map_nil]); first | done | rfl | (simp only [List.length_drop, List.length_take]; rfl)) ?_; (with_reducible refine (wire_Reader_Left.calls g176 x177000_7 x177001_7 t202 t203 t204 w _ ?side1 ?side2 A38.out).mono ?_); (case side1 => repeat (first | (with_reducible first | exact HI176.out | apply IsS78.alloc | apply IsS78.drewN | apply IsS78.drew | apply IsS78.set_0 | apply IsS78.set_1) | exact HI176.out)); (case side2 => repeat (first | (with_reducible first | exact HB.out | apply below_alloc | apply pw_below_drewN | apply below_drew1 | refine below_set ?_ (IsS78.ge HI176.out)) | exact HB.out)); rintro e w50 ⟨rfl, hi, hb, hk⟩; refine ⟨_, rfl, ?_⟩; have n0_ := Aside0.mk (hb); have n1_ := Aside0.mk (hi); clear HB; clear HI176; have HB := n0_; have HI176 := n1_; clear n0_ n1_; (try clear hb); (try clear hb2); (try clear hk); (try clear hi)) | (go_at_call 29; (with_reducible refine (wire_Reader_Done.calls g176 t203 t204 true t206 t207 w _ ?side1 ?side2 A40.out).mono ?_); (case side1 => repeat (first | (with_reducible first | exact HI176.out | apply IsS78.alloc | apply IsS78.drewN | apply IsS78.drew | apply IsS78.set_0 | apply IsS78.set_1) | exact HI176.out)); (case side2 => repeat (first | (with_reducible first | exact HB.out | apply below_alloc | apply pw_below_drewN | apply below_drew1 | refine below_set ?_ (IsS78.ge HI176.out)) | exact HB.out)); rintro e w51 ⟨rfl, hi, hb, hk⟩; have n0_ := Aside0.mk (hb); have n1_ := Aside0.mk (hi); clear HB; clear HI176; have HB := n0_; have HI176 := n1_; clear n0_ n1_; (try clear hb); (try clear hb2); (try clear hk); (try clear hi)) | ((with_reducible refine gate_callee (f := 28) rfl ?_); refine goesL_ (some 56) rfl rfl Tryd.func28 (by kernel_rfl) rfl #[.pointer (some ⟨g176, 0, none⟩)] rfl (by (try simp only [List.map_toArray, List.map_cons, List.map_nil]); first | done | rfl | (simp only [List.length_drop, List.length_take]; rfl)) ?_; (with_reducible refine (wire_Reader_Left.calls g176 t206 t207 t208 t209 t210 w _ ?side1 ?side2 A42.out).mono ?_); (case side1 => repeat (first | (with_reducible first | exact HI176.out | apply IsS78.alloc | apply IsS78.drewN | apply IsS78.drew | apply IsS78.set_0 | apply IsS78.set_1) | exact HI176.out)); (case side2 => repeat (first | (with_reducible first | exact HB.out | apply below_alloc | apply pw_below_drewN | apply below_drew1 | refine below_set ?_ (IsS78.ge HI176.out)) | exact HB.out)); rintro e w52 ⟨rfl, hi, hb, hk⟩; refine ⟨_, rfl, ?_⟩; have n0_ := Aside0.mk (hb); have n1_ := Aside0.mk (hi); clear HB; clear HI176; have HB := n0_; have HI176 := n1_; clear n0_ n1_; (try clear hb); (try clear hb2); (try clear hk); (try clear hi)))
                      go_ret
                      exact ⟨by first | rfl | (simp [errW_none, errW_some] <;> rfl) | (simp only [← hji46, ← hji47]; first | rfl | (simp [errW_none, errW_some] <;> rfl)) | (simp [*, errW_none, errW_some] <;> rfl), by repeat (first | (with_reducible first | exact HB.out | apply below_alloc | apply pw_below_drewN | apply below_drew1 | refine below_set ?_ (IsS78.ge HI176.out)) | exact HB.out)⟩
                    · rw [if_neg c49] at H
                      exact absurd H (by simp)
                  · rw [if_neg c48] at H
                    exact absurd H (by simp)
                · rw [if_neg c45] at H
                  have c45b0 : decide ((wrap64 ((a0.size : Int) - t208)) ≤ (a0.size : Int)) = false := decide_eq_false c45
                  clear c45
                  obtain rfl := Option.some.inj H
                  go_wp2_with (first | ((with_reducible refine gate_callee (f := 28) rfl ?_); refine goesL_ (some 45) rfl rfl Tryd.func28 (by kernel_rfl) rfl #[.pointer (some ⟨g176, 0, none⟩)] rfl (by (try simp only [List.map_toArray, List.map_cons, List.map_nil]); first | done | rfl | (simp only [List.length_drop, List.length_take]; rfl)) ?_; (with_reducible refine (wire_Reader_Left.calls g176 x177000_7 x177001_7 t202 t203 t204 w _ ?side1 ?side2 A38.out).mono ?_); (case side1 => repeat (first | (with_reducible first | exact HI176.out | apply IsS78.alloc | apply IsS78.drewN | apply IsS78.drew | apply IsS78.set_0 | apply IsS78.set_1) | exact HI176.out)); (case side2 => repeat (first | (with_reducible first | exact HB.out | apply below_alloc | apply pw_below_drewN | apply below_drew1 | refine below_set ?_ (IsS78.ge HI176.out)) | exact HB.out)); rintro e w53 ⟨rfl, hi, hb, hk⟩; refine ⟨_, rfl, ?_⟩; have n0_ := Aside0.mk (hb); have n1_ := Aside0.mk (hi); clear HB; clear HI176; have HB := n0_; have HI176 := n1_; clear n0_ n1_; (try clear hb); (try clear hb2); (try clear hk); (try clear hi)) | (go_at_call 29; (with_reducible refine (wire_Reader_Done.calls g176 t203 t204 true t206 t207 w _ ?side1 ?side2 A40.out).mono ?_); (case side1 => repeat (first | (with_reducible first | exact HI176.out | apply IsS78.alloc | apply IsS78.drewN | apply IsS78.drew | apply IsS78.set_0 | apply IsS78.set_1) | exact HI176.out)); (case side2 => repeat (first | (with_reducible first | exact HB.out | apply below_alloc | apply pw_below_drewN | apply below_drew1 | refine below_set ?_ (IsS78.ge HI176.out)) | exact HB.out)); rintro e w54 ⟨rfl, hi, hb, hk⟩; have n0_ := Aside0.mk (hb); have n1_ := Aside0.mk (hi); clear HB; clear HI176; have HB := n0_; have HI176 := n1_; clear n0_ n1_; (try clear hb); (try clear hb2); (try clear hk); (try clear hi)) | ((with_reducible refine gate_callee (f := 28) rfl ?_); refine goesL_ (some 56) rfl rfl Tryd.func28 (by kernel_rfl) rfl #[.pointer (some ⟨g176, 0, none⟩)] rfl (by (try simp only [List.map_toArray, List.map_cons, List.map_nil]); first | done | rfl | (simp only [List.length_drop, List.length_take]; rfl)) ?_; (with_reducible refine (wire_Reader_Left.calls g176 t206 t207 t208 t209 t210 w _ ?side1 ?side2 A42.out).mono ?_); (case side1 => repeat (first | (with_reducible first | exact HI176.out | apply IsS78.alloc | apply IsS78.drewN | apply IsS78.drew | apply IsS78.set_0 | apply IsS78.set_1) | exact HI176.out)); (case side2 => repeat (first | (with_reducible first | exact HB.out | apply below_alloc | apply pw_below_drewN | apply below_drew1 | refine below_set ?_ (IsS78.ge HI176.out)) | exact HB.out)); rintro e w55 ⟨rfl, hi, hb, hk⟩; refine ⟨_, rfl, ?_⟩; have n0_ := Aside0.mk (hb); have n1_ := Aside0.mk (hi); clear HB; clear HI176; have HB := n0_; have HI176 := n1_; clear n0_ n1_; (try clear hb); (try clear hb2); (try clear hk); (try clear hi)))
                  go_ret
                  exact ⟨by first | rfl | (simp [errW_none, errW_some] <;> rfl) | (simp [*, errW_none, errW_some] <;> rfl), by repeat (first | (with_reducible first | exact HB.out | apply below_alloc | apply pw_below_drewN | apply below_drew1 | refine below_set ?_ (IsS78.ge HI176.out)) | exact HB.out)⟩
              · rw [if_neg c44] at H
                have c44b0 : decide (0 ≤ (wrap64 ((a0.size : Int) - t208))) = false := decide_eq_false c44
                clear c44
                obtain rfl := Option.some.inj H
                go_wp2_with (first | ((with_reducible refine gate_callee (f := 28) rfl ?_); refine goesL_ (some 45) rfl rfl Tryd.func28 (by kernel_rfl) rfl #[.pointer (some ⟨g176, 0, none⟩)] rfl (by (try simp only [List.map_toArray, List.map_cons, List.map_nil]); first | done | rfl | (simp only [List.length_drop, List.length_take]; rfl)) ?_; (with_reducible refine (wire_Reader_Left.calls g176 x177000_7 x177001_7 t202 t203 t204 w _ ?side1 ?side2 A38.out).mono ?_); (case side1 => repeat (first | (with_reducible first | exact HI176.out | apply IsS78.alloc | apply IsS78.drewN | apply IsS78.drew | apply IsS78.set_0 | apply IsS78.set_1) | exact HI176.out)); (case side2 => repeat (first | (with_reducible first | exact HB.out | apply below_alloc | apply pw_below_drewN | apply below_drew1 | refine below_set ?_ (IsS78.ge HI176.out)) | exact HB.out)); rintro e w56 ⟨rfl, hi, hb, hk⟩; refine ⟨_, rfl, ?_⟩; have n0_ := Aside0.mk (hb); have n1_ := Aside0.mk (hi); clear HB; clear HI176; have HB := n0_; have HI176 := n1_; clear n0_ n1_; (try clear hb); (try clear hb2); (try clear hk); (try clear hi)) | (go_at_call 29; (with_reducible refine (wire_Reader_Done.calls g176 t203 t204 true t206 t207 w _ ?side1 ?side2 A40.out).mono ?_); (case side1 => repeat (first | (with_reducible first | exact HI176.out | apply IsS78.alloc | apply IsS78.drewN | apply IsS78.drew | apply IsS78.set_0 | apply IsS78.set_1) | exact HI176.out)); (case side2 => repeat (first | (with_reducible first | exact HB.out | apply below_alloc | apply pw_below_drewN | apply below_drew1 | refine below_set ?_ (IsS78.ge HI176.out)) | exact HB.out)); rintro e w57 ⟨rfl, hi, hb, hk⟩; have n0_ := Aside0.mk (hb); have n1_ := Aside0.mk (hi); clear HB; clear HI176; have HB := n0_; have HI176 := n1_; clear n0_ n1_; (try clear hb); (try clear hb2); (try clear hk); (try clear hi)) | ((with_reducible refine gate_callee (f := 28) rfl ?_); refine goesL_ (some 56) rfl rfl Tryd.func28 (by kernel_rfl) rfl #[.pointer (some ⟨g176, 0, none⟩)] rfl (by (try simp only [List.map_toArray, List.map_cons, List.map_nil]); first | done | rfl | (simp only [List.length_drop, List.length_take]; rfl)) ?_; (with_reducible refine (wire_Reader_Left.calls g176 t206 t207 t208 t209 t210 w _ ?side1 ?side2 A42.out).mono ?_); (case side1 => repeat (first | (with_reducible first | exact HI176.out | apply IsS78.alloc | apply IsS78.drewN | apply IsS78.drew | apply IsS78.set_0 | apply IsS78.set_1) | exact HI176.out)); (case side2 => repeat (first | (with_reducible first | exact HB.out | apply below_alloc | apply pw_below_drewN | apply below_drew1 | refine below_set ?_ (IsS78.ge HI176.out)) | exact HB.out)); rintro e w58 ⟨rfl, hi, hb, hk⟩; refine ⟨_, rfl, ?_⟩; have n0_ := Aside0.mk (hb); have n1_ := Aside0.mk (hi); clear HB; clear HI176; have HB := n0_; have HI176 := n1_; clear n0_ n1_; (try clear hb); (try clear hb2); (try clear hk); (try clear hi)))
                go_ret
                exact ⟨by first | rfl | (simp [errW_none, errW_some] <;> rfl) | (simp [*, errW_none, errW_some] <;> rfl), by repeat (first | (with_reducible first | exact HB.out | apply below_alloc | apply pw_below_drewN | apply below_drew1 | refine below_set ?_ (IsS78.ge HI176.out)) | exact HB.out)⟩
            · replace c43 := Bool.eq_false_iff.mpr c43
              subst c43
              have H1 : (some false) = some r := by rw [if_neg (show ¬ (false = true) by decide)] at H; exact H
              clear H
              have H := H1
              clear H1
              obtain rfl := Option.some.inj H
              go_wp2_with (first | ((with_reducible refine gate_callee (f := 28) rfl ?_); refine goesL_ (some 45) rfl rfl Tryd.func28 (by kernel_rfl) rfl #[.pointer (some ⟨g176, 0, none⟩)] rfl (by (try simp only [List.map_toArray, List.map_cons, List.map_nil]); first | done | rfl | (simp only [List.length_drop, List.length_take]; rfl)) ?_; (with_reducible refine (wire_Reader_Left.calls g176 x177000_7 x177001_7 t202 t203 t204 w _ ?side1 ?side2 A38.out).mono ?_); (case side1 => repeat (first | (with_reducible first | exact HI176.out | apply IsS78.alloc | apply IsS78.drewN | apply IsS78.drew | apply IsS78.set_0 | apply IsS78.set_1) | exact HI176.out)); (case side2 => repeat (first | (with_reducible first | exact HB.out | apply below_alloc | apply pw_below_drewN | apply below_drew1 | refine below_set ?_ (IsS78.ge HI176.out)) | exact HB.out)); rintro e w59 ⟨rfl, hi, hb, hk⟩; refine ⟨_, rfl, ?_⟩; have n0_ := Aside0.mk (hb); have n1_ := Aside0.mk (hi); clear HB; clear HI176; have HB := n0_; have HI176 := n1_; clear n0_ n1_; (try clear hb); (try clear hb2); (try clear hk); (try clear hi)) | (go_at_call 29; (with_reducible refine (wire_Reader_Done.calls g176 t203 t204 true t206 t207 w _ ?side1 ?side2 A40.out).mono ?_); (case side1 => repeat (first | (with_reducible first | exact HI176.out | apply IsS78.alloc | apply IsS78.drewN | apply IsS78.drew | apply IsS78.set_0 | apply IsS78.set_1) | exact HI176.out)); (case side2 => repeat (first | (with_reducible first | exact HB.out | apply below_alloc | apply pw_below_drewN | apply below_drew1 | refine below_set ?_ (IsS78.ge HI176.out)) | exact HB.out)); rintro e w60 ⟨rfl, hi, hb, hk⟩; have n0_ := Aside0.mk (hb); have n1_ := Aside0.mk (hi); clear HB; clear HI176; have HB := n0_; have HI176 := n1_; clear n0_ n1_; (try clear hb); (try clear hb2); (try clear hk); (try clear hi)) | ((with_reducible refine gate_callee (f := 28) rfl ?_); refine goesL_ (some 56) rfl rfl Tryd.func28 (by kernel_rfl) rfl #[.pointer (some ⟨g176, 0, none⟩)] rfl (by (try simp only [List.map_toArray, List.map_cons, List.map_nil]); first | done | rfl | (simp only [List.length_drop, List.length_take]; rfl)) ?_; (with_reducible refine (wire_Reader_Left.calls g176 t206 t207 t208 t209 t210 w _ ?side1 ?side2 A42.out).mono ?_); (case side1 => repeat (first | (with_reducible first | exact HI176.out | apply IsS78.alloc | apply IsS78.drewN | apply IsS78.drew | apply IsS78.set_0 | apply IsS78.set_1) | exact HI176.out)); (case side2 => repeat (first | (with_reducible first | exact HB.out | apply below_alloc | apply pw_below_drewN | apply below_drew1 | refine below_set ?_ (IsS78.ge HI176.out)) | exact HB.out)); rintro e w61 ⟨rfl, hi, hb, hk⟩; refine ⟨_, rfl, ?_⟩; have n0_ := Aside0.mk (hb); have n1_ := Aside0.mk (hi); clear HB; clear HI176; have HB := n0_; have HI176 := n1_; clear n0_ n1_; (try clear hb); (try clear hb2); (try clear hk); (try clear hi)))
              go_ret
              exact ⟨by first | rfl | (simp [errW_none, errW_some] <;> rfl) | (simp [*, errW_none, errW_some] <;> rfl), by repeat (first | (with_reducible first | exact HB.out | apply below_alloc | apply pw_below_drewN | apply below_drew1 | refine below_set ?_ (IsS78.ge HI176.out)) | exact HB.out)⟩
          · replace c41 := Bool.eq_false_iff.mpr c41
            subst c41
            have H1 : (some t173) = some r := by rw [if_neg (show ¬ (false = true) by decide)] at H; exact H
            clear H
            have H := H1
            clear H1
            obtain rfl := Option.some.inj H
            go_wp2_with (first | ((with_reducible refine gate_callee (f := 28) rfl ?_); refine goesL_ (some 45) rfl rfl Tryd.func28 (by kernel_rfl) rfl #[.pointer (some ⟨g176, 0, none⟩)] rfl (by (try simp only [List.map_toArray, List.map_cons, List.map_nil]); first | done | rfl | (simp only [List.length_drop, List.length_take]; rfl)) ?_; (with_reducible refine (wire_Reader_Left.calls g176 x177000_7 x177001_7 t202 t203 t204 w _ ?side1 ?side2 A38.out).mono ?_); (case side1 => repeat (first | (with_reducible first | exact HI176.out | apply IsS78.alloc | apply IsS78.drewN | apply IsS78.drew | apply IsS78.set_0 | apply IsS78.set_1) | exact HI176.out)); (case side2 => repeat (first | (with_reducible first | exact HB.out | apply below_alloc | apply pw_below_drewN | apply below_drew1 | refine below_set ?_ (IsS78.ge HI176.out)) | exact HB.out)); rintro e w62 ⟨rfl, hi, hb, hk⟩; refine ⟨_, rfl, ?_⟩; have n0_ := Aside0.mk (hb); have n1_ := Aside0.mk (hi); clear HB; clear HI176; have HB := n0_; have HI176 := n1_; clear n0_ n1_; (try clear hb); (try clear hb2); (try clear hk); (try clear hi)) | (go_at_call 29; (with_reducible refine (wire_Reader_Done.calls g176 t203 t204 false t206 t207 w _ ?side1 ?side2 A40.out).mono ?_); (case side1 => repeat (first | (with_reducible first | exact HI176.out | apply IsS78.alloc | apply IsS78.drewN | apply IsS78.drew | apply IsS78.set_0 | apply IsS78.set_1) | exact HI176.out)); (case side2 => repeat (first | (with_reducible first | exact HB.out | apply below_alloc | apply pw_below_drewN | apply below_drew1 | refine below_set ?_ (IsS78.ge HI176.out)) | exact HB.out)); rintro e w63 ⟨rfl, hi, hb, hk⟩; have n0_ := Aside0.mk (hb); have n1_ := Aside0.mk (hi); clear HB; clear HI176; have HB := n0_; have HI176 := n1_; clear n0_ n1_; (try clear hb); (try clear hb2); (try clear hk); (try clear hi)))
            go_ret
            exact ⟨by first | rfl | (simp [errW_none, errW_some] <;> rfl) | (simp [*, errW_none, errW_some] <;> rfl), by repeat (first | (with_reducible first | exact HB.out | apply below_alloc | apply pw_below_drewN | apply below_drew1 | refine below_set ?_ (IsS78.ge HI176.out)) | exact HB.out)⟩
        · rw [if_neg c39] at H
          have c39b0 : (t202 == 0) = false := beq_eq_false_iff_ne.mpr c39
          have c39b1 : (t202 != 0) = true := bne_iff_ne.mpr c39
          replace H := Option.bind_eq_some_iff.mp H
          obtain ⟨⟨t211, t212, t213⟩, A640, H⟩ := H
          replace H : (if t173 = true then (if (wrap64 ((a0.size : Int) - t211)) ≥ 0 then (if (wrap64 ((a0.size : Int) - t211)) ≤ (a0.size : Int) then (if 0 ≤ (mx 0 (mn (wrap64 ((a0.size : Int) - t211)) (a0.size : Int))) then (if (mx 0 (mn (wrap64 ((a0.size : Int) - t211)) (a0.size : Int))) ≤ (a0.size : Int) then (some (x7_7.toList == (a0.extract 0 ((mx 0 (mn (wrap64 ((a0.size : Int) - t211)) (a0.size : Int))) : Int).toNat).toList)) else (none)) else (none)) else (some false)) else (some false)) else (some false)) = some r := H
          have A64 := Aside0.mk A640
          clear A640
          by_cases c65 : t173 = true
          · subst c65
            have H1 : (if (wrap64 ((a0.size : Int) - t211)) ≥ 0 then (if (wrap64 ((a0.size : Int) - t211)) ≤ (a0.size : Int) then (if 0 ≤ (mx 0 (mn (wrap64 ((a0.size : Int) - t211)) (a0.size : Int))) then (if (mx 0 (mn (wrap64 ((a0.size : Int) - t211)) (a0.size : Int))) ≤ (a0.size : Int) then (some (x7_7.toList == (a0.extract 0 ((mx 0 (mn (wrap64 ((a0.size : Int) - t211)) (a0.size : Int))) : Int).toNat).toList)) else (none)) else (none)) else (some false)) else (some false)) = some r := by rw [if_pos rfl] at H; exact H
            clear H
            have H := H1
            clear H1
            by_cases c66 : (wrap64 ((a0.size : Int) - t211)) ≥ 0
            · rw [if_pos c66] at H
              have c66b0 : decide (0 ≤ (wrap64 ((a0.size : Int) - t211))) = true := decide_eq_true c66
              clear c66
              by_cases c67 : (wrap64 ((a0.size : Int) - t211)) ≤ (a0.size : Int)
              · rw [if_pos c67] at H
                have c67b0 : decide ((wrap64 ((a0.size : Int) - t211)) ≤ (a0.size : Int)) = true := decide_eq_true c67
                clear c67
                obtain ⟨ji68, hji68⟩ : ∃ j_ : Int, (mn (wrap64 ((a0.size : Int) - t211)) (a0.size : Int)) = j_ := ⟨_, rfl⟩
                replace H : (if 0 ≤ (mx 0 (ji68)) then (if (mx 0 (ji68)) ≤ (a0.size : Int) then (some (x7_7.toList == (a0.extract 0 ((mx 0 (ji68)) : Int).toNat).toList)) else (none)) else (none)) = some r := by first | (rw [hji68] at H; exact H) | (simp only [hji68] at H ⊢; exact H)
                (try rw [hji68] at A38)
                (try rw [hji68] at A64)
                have hji68_ : (if (a0.size : Int) < (wrap64 ((a0.size : Int) - t211)) then (a0.size : Int) else (wrap64 ((a0.size : Int) - t211))) = ji68 := hji68
                obtain ⟨ji69, hji69⟩ : ∃ j_ : Int, (mx 0 (ji68)) = j_ := ⟨_, rfl⟩
                replace H : (if 0 ≤ (ji69) then (if (ji69) ≤ (a0.size : Int) then (some (x7_7.toList == (a0.extract 0 ((ji69) : Int).toNat).toList)) else (none)) else (none)) = some r := by first | (rw [hji69] at H; exact H) | (simp only [hji69] at H ⊢; exact H)
                (try rw [hji69] at A38)
                (try rw [hji69] at A64)
                have hji69_ : (if 0 < (ji68) then (ji68) else 0) = ji69 := hji69
                by_cases c70 : 0 ≤ (ji69)
                · rw [if_pos c70] at H
                  have c70b0 := eq_true c70
                  have c70b1 : decide (0 ≤ (ji69)) = true := decide_eq_true c70
                  clear c70
                  by_cases c71 : (ji69) ≤ (a0.size : Int)
                  · rw [if_pos c71] at H
                    have c71b0 := eq_true c71
                    have c71b1 : decide ((ji69) ≤ (a0.size : Int)) = true := decide_eq_true c71
                    clear c71
                    obtain rfl := Option.some.inj H
                    go_wp2_with (first | ((with_reducible refine gate_callee (f := 28) rfl ?_); refine goesL_ (some 45) rfl rfl Tryd.func28 (by kernel_rfl) rfl #[.pointer (some ⟨g176, 0, none⟩)] rfl (by (try simp only [List.map_toArray, List.map_cons, List.map_nil]); first | done | rfl | (simp only [List.length_drop, List.length_take]; rfl)) ?_; (with_reducible refine (wire_Reader_Left.calls g176 x177000_7 x177001_7 t202 t203 t204 w _ ?side1 ?side2 A38.out).mono ?_); (case side1 => repeat (first | (with_reducible first | exact HI176.out | apply IsS78.alloc | apply IsS78.drewN | apply IsS78.drew | apply IsS78.set_0 | apply IsS78.set_1) | exact HI176.out)); (case side2 => repeat (first | (with_reducible first | exact HB.out | apply below_alloc | apply pw_below_drewN | apply below_drew1 | refine below_set ?_ (IsS78.ge HI176.out)) | exact HB.out)); rintro e w72 ⟨rfl, hi, hb, hk⟩; refine ⟨_, rfl, ?_⟩; have n0_ := Aside0.mk (hb); have n1_ := Aside0.mk (hi); clear HB; clear HI176; have HB := n0_; have HI176 := n1_; clear n0_ n1_; (try clear hb); (try clear hb2); (try clear hk); (try clear hi)) | ((with_reducible refine gate_callee (f := 28) rfl ?_); refine goesL_ (some 56) rfl rfl Tryd.func28 (by kernel_rfl) rfl #[.pointer (some ⟨g176, 0, none⟩)] rfl (by (try simp only [List.map_toArray, List.map_cons, List.map_nil]); first | done | rfl | (simp only [List.length_drop, List.length_take]; rfl)) ?_; (with_reducible refine (wire_Reader_Left.calls g176 t203 t204 t211 t212 t213 w _ ?side1 ?side2 A64.out).mono ?_); (case side1 => repeat (first | (with_reducible first | exact HI176.out | apply IsS78.alloc | apply IsS78.drewN | apply IsS78.drew | apply IsS78.set_0 | apply IsS78.set_1) | exact HI176.out)); (case side2 => repeat (first | (with_reducible first | exact HB.out | apply below_alloc | apply pw_below_drewN | apply below_drew1 | refine below_set ?_ (IsS78.ge HI176.out)) | exact HB.out)); rintro e w73 ⟨rfl, hi, hb, hk⟩; refine ⟨_, rfl, ?_⟩; have n0_ := Aside0.mk (hb); have n1_ := Aside0.mk (hi); clear HB; clear HI176; have HB := n0_; have HI176 := n1_; clear n0_ n1_; (try clear hb); (try clear hb2); (try clear hk); (try clear hi)))
                    go_ret
                    exact ⟨by first | rfl | (simp [errW_none, errW_some] <;> rfl) | (simp only [← hji68, ← hji69]; first | rfl | (simp [errW_none, errW_some] <;> rfl)) | (simp [*, errW_none, errW_some] <;> rfl), by repeat (first | (with_reducible first | exact HB.out | apply below_alloc | apply pw_below_drewN | apply below_drew1 | refine below_set ?_ (IsS78.ge HI176.out)) | exact HB.out)⟩
                  · rw [if_neg c71] at H
                    exact absurd H (by simp)
                · rw [if_neg c70] at H
                  exact absurd H (by simp)
              · rw [if_neg c67] at H
                have c67b0 : decide ((wrap64 ((a0.size : Int) - t211)) ≤ (a0.size : Int)) = false := decide_eq_false c67
                clear c67
                obtain rfl := Option.some.inj H
                go_wp2_with (first | ((with_reducible refine gate_callee (f := 28) rfl ?_); refine goesL_ (some 45) rfl rfl Tryd.func28 (by kernel_rfl) rfl #[.pointer (some ⟨g176, 0, none⟩)] rfl (by (try simp only [List.map_toArray, List.map_cons, List.map_nil]); first | done | rfl | (simp only [List.length_drop, List.length_take]; rfl)) ?_; (with_reducible refine (wire_Reader_Left.calls g176 x177000_7 x177001_7 t202 t203 t204 w _ ?side1 ?side2 A38.out).mono ?_); (case side1 => repeat (first | (with_reducible first | exact HI176.out | apply IsS78.alloc | apply IsS78.drewN | apply IsS78.drew | apply IsS78.set_0 | apply IsS78.set_1) | exact HI176.out)); (case side2 => repeat (first | (with_reducible first | exact HB.out | apply below_alloc | apply pw_below_drewN | apply below_drew1 | refine below_set ?_ (IsS78.ge HI176.out)) | exact HB.out)); rintro e w74 ⟨rfl, hi, hb, hk⟩; refine ⟨_, rfl, ?_⟩; have n0_ := Aside0.mk (hb); have n1_ := Aside0.mk (hi); clear HB; clear HI176; have HB := n0_; have HI176 := n1_; clear n0_ n1_; (try clear hb); (try clear hb2); (try clear hk); (try clear hi)) | ((with_reducible refine gate_callee (f := 28) rfl ?_); refine goesL_ (some 56) rfl rfl Tryd.func28 (by kernel_rfl) rfl #[.pointer (some ⟨g176, 0, none⟩)] rfl (by (try simp only [List.map_toArray, List.map_cons, List.map_nil]); first | done | rfl | (simp only [List.length_drop, List.length_take]; rfl)) ?_; (with_reducible refine (wire_Reader_Left.calls g176 t203 t204 t211 t212 t213 w _ ?side1 ?side2 A64.out).mono ?_); (case side1 => repeat (first | (with_reducible first | exact HI176.out | apply IsS78.alloc | apply IsS78.drewN | apply IsS78.drew | apply IsS78.set_0 | apply IsS78.set_1) | exact HI176.out)); (case side2 => repeat (first | (with_reducible first | exact HB.out | apply below_alloc | apply pw_below_drewN | apply below_drew1 | refine below_set ?_ (IsS78.ge HI176.out)) | exact HB.out)); rintro e w75 ⟨rfl, hi, hb, hk⟩; refine ⟨_, rfl, ?_⟩; have n0_ := Aside0.mk (hb); have n1_ := Aside0.mk (hi); clear HB; clear HI176; have HB := n0_; have HI176 := n1_; clear n0_ n1_; (try clear hb); (try clear hb2); (try clear hk); (try clear hi)))
                go_ret
                exact ⟨by first | rfl | (simp [errW_none, errW_some] <;> rfl) | (simp [*, errW_none, errW_some] <;> rfl), by repeat (first | (with_reducible first | exact HB.out | apply below_alloc | apply pw_below_drewN | apply below_drew1 | refine below_set ?_ (IsS78.ge HI176.out)) | exact HB.out)⟩
            · rw [if_neg c66] at H
              have c66b0 : decide (0 ≤ (wrap64 ((a0.size : Int) - t211))) = false := decide_eq_false c66
              clear c66
              obtain rfl := Option.some.inj H
              go_wp2_with (first | ((with_reducible refine gate_callee (f := 28) rfl ?_); refine goesL_ (some 45) rfl rfl Tryd.func28 (by kernel_rfl) rfl #[.pointer (some ⟨g176, 0, none⟩)] rfl (by (try simp only [List.map_toArray, List.map_cons, List.map_nil]); first | done | rfl | (simp only [List.length_drop, List.length_take]; rfl)) ?_; (with_reducible refine (wire_Reader_Left.calls g176 x177000_7 x177001_7 t202 t203 t204 w _ ?side1 ?side2 A38.out).mono ?_); (case side1 => repeat (first | (with_reducible first | exact HI176.out | apply IsS78.alloc | apply IsS78.drewN | apply IsS78.drew | apply IsS78.set_0 | apply IsS78.set_1) | exact HI176.out)); (case side2 => repeat (first | (with_reducible first | exact HB.out | apply below_alloc | apply pw_below_drewN | apply below_drew1 | refine below_set ?_ (IsS78.ge HI176.out)) | exact HB.out)); rintro e w76 ⟨rfl, hi, hb, hk⟩; refine ⟨_, rfl, ?_⟩; have n0_ := Aside0.mk (hb); have n1_ := Aside0.mk (hi); clear HB; clear HI176; have HB := n0_; have HI176 := n1_; clear n0_ n1_; (try clear hb); (try clear hb2); (try clear hk); (try clear hi)) | ((with_reducible refine gate_callee (f := 28) rfl ?_); refine goesL_ (some 56) rfl rfl Tryd.func28 (by kernel_rfl) rfl #[.pointer (some ⟨g176, 0, none⟩)] rfl (by (try simp only [List.map_toArray, List.map_cons, List.map_nil]); first | done | rfl | (simp only [List.length_drop, List.length_take]; rfl)) ?_; (with_reducible refine (wire_Reader_Left.calls g176 t203 t204 t211 t212 t213 w _ ?side1 ?side2 A64.out).mono ?_); (case side1 => repeat (first | (with_reducible first | exact HI176.out | apply IsS78.alloc | apply IsS78.drewN | apply IsS78.drew | apply IsS78.set_0 | apply IsS78.set_1) | exact HI176.out)); (case side2 => repeat (first | (with_reducible first | exact HB.out | apply below_alloc | apply pw_below_drewN | apply below_drew1 | refine below_set ?_ (IsS78.ge HI176.out)) | exact HB.out)); rintro e w77 ⟨rfl, hi, hb, hk⟩; refine ⟨_, rfl, ?_⟩; have n0_ := Aside0.mk (hb); have n1_ := Aside0.mk (hi); clear HB; clear HI176; have HB := n0_; have HI176 := n1_; clear n0_ n1_; (try clear hb); (try clear hb2); (try clear hk); (try clear hi)))
              go_ret
              exact ⟨by first | rfl | (simp [errW_none, errW_some] <;> rfl) | (simp [*, errW_none, errW_some] <;> rfl), by repeat (first | (with_reducible first | exact HB.out | apply below_alloc | apply pw_below_drewN | apply below_drew1 | refine below_set ?_ (IsS78.ge HI176.out)) | exact HB.out)⟩
          · replace c65 := Bool.eq_false_iff.mpr c65
            subst c65
            have H1 : (some false) = some r := by rw [if_neg (show ¬ (false = true) by decide)] at H; exact H
            clear H
            have H := H1
            clear H1
            obtain rfl := Option.some.inj H
            go_wp2_with (first | ((with_reducible refine gate_callee (f := 28) rfl ?_); refine goesL_ (some 45) rfl rfl Tryd.func28 (by kernel_rfl) rfl #[.pointer (some ⟨g176, 0, none⟩)] rfl (by (try simp only [List.map_toArray, List.map_cons, List.map_nil]); first | done | rfl | (simp only [List.length_drop, List.length_take]; rfl)) ?_; (with_reducible refine (wire_Reader_Left.calls g176 x177000_7 x177001_7 t202 t203 t204 w _ ?side1 ?side2 A38.out).mono ?_); (case side1 => repeat (first | (with_reducible first | exact HI176.out | apply IsS78.alloc | apply IsS78.drewN | apply IsS78.drew | apply IsS78.set_0 | apply IsS78.set_1) | exact HI176.out)); (case side2 => repeat (first | (with_reducible first | exact HB.out | apply below_alloc | apply pw_below_drewN | apply below_drew1 | refine below_set ?_ (IsS78.ge HI176.out)) | exact HB.out)); rintro e w78 ⟨rfl, hi, hb, hk⟩; refine ⟨_, rfl, ?_⟩; have n0_ := Aside0.mk (hb); have n1_ := Aside0.mk (hi); clear HB; clear HI176; have HB := n0_; have HI176 := n1_; clear n0_ n1_; (try clear hb); (try clear hb2); (try clear hk); (try clear hi)) | ((with_reducible refine gate_callee (f := 28) rfl ?_); refine goesL_ (some 56) rfl rfl Tryd.func28 (by kernel_rfl) rfl #[.pointer (some ⟨g176, 0, none⟩)] rfl (by (try simp only [List.map_toArray, List.map_cons, List.map_nil]); first | done | rfl | (simp only [List.length_drop, List.length_take]; rfl)) ?_; (with_reducible refine (wire_Reader_Left.calls g176 t203 t204 t211 t212 t213 w _ ?side1 ?side2 A64.out).mono ?_); (case side1 => repeat (first | (with_reducible first | exact HI176.out | apply IsS78.alloc | apply IsS78.drewN | apply IsS78.drew | apply IsS78.set_0 | apply IsS78.set_1) | exact HI176.out)); (case side2 => repeat (first | (with_reducible first | exact HB.out | apply below_alloc | apply pw_below_drewN | apply below_drew1 | refine below_set ?_ (IsS78.ge HI176.out)) | exact HB.out)); rintro e w79 ⟨rfl, hi, hb, hk⟩; refine ⟨_, rfl, ?_⟩; have n0_ := Aside0.mk (hb); have n1_ := Aside0.mk (hi); clear HB; clear HI176; have HB := n0_; have HI176 := n1_; clear n0_ n1_; (try clear hb); (try clear hb2); (try clear hk); (try clear hi)))
            go_ret
            exact ⟨by first | rfl | (simp [errW_none, errW_some] <;> rfl) | (simp [*, errW_none, errW_some] <;> rfl), by repeat (first | (with_reducible first | exact HB.out | apply below_alloc | apply pw_below_drewN | apply below_drew1 | refine below_set ?_ (IsS78.ge HI176.out)) | exact HB.out)⟩

end Go.Proofs.YtadnefnofbnheaaDoor.Pr
