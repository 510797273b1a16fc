/- Part 10 of the proof: HWireR. -/
import Derived.Test.YtadnefnofbnheaaDoorVO2
import Derived.Test.YtadnefnofbnheaaDoorVO8
import Derived.Test.YtadnefnofbnheaaDoorVO6
import Derived.LoopTactic
/- The reader's Nums and Texts: how many elements, '[', the elements one by one, ']'; the empty list where anything fails. -/
namespace Go.Proofs.YtadnefnofbnheaaDoor.Pr
open Go.RowKit Go.Proofs.YtadnefnofbnheaaDoorW.PrintWords Go.Proofs.YtadnefnofbnheaaDoorW.PrintLast Go.Proofs.YtadnefnofbnheaaDoorW.PrintMore

def elemsI : Nat → Int → List Int → ByteArray → Bool → Option (List Int × ByteArray × Bool)
  | 0, _, _, _, _ => none
  | k + 1, n, l, s0, s1 =>
    if n > 0 then (wire_Reader_Int.f k s0 s1).bind fun b => if b.2.2 = true then some ([], b.2.1, b.2.2) else if l.length < 17592186044416 then elemsI k ((n - 1) % 18446744073709551616) (l ++ [b.1]) b.2.1 b.2.2 else none
    else (wire_Reader_skip.f s0 s1 93).bind fun b => if b.1 = true then some (l, b.2.1, b.2.2) else some ([], b.2.1, b.2.2)

def wire_Reader_Nums.f (k : Nat) (s0 : ByteArray) (s1 : Bool) : Option (List Int × ByteArray × Bool) :=
  (wire_Reader_digits.f k s0 s1 9223372036854775807).bind fun b =>
    if b.2.1 = true then (wire_Reader_skip.f b.2.2.1 b.2.2.2 91).bind fun c => if c.1 = true then elemsI k b.1 [] c.2.1 c.2.2 else some ([], c.2.1, c.2.2)
    else some ([], b.2.2.1, b.2.2.2)

theorem elemsI.mono_l : ∀ k, ∀ n l s0 s1, LeO (elemsI k n l s0 s1) (elemsI (k + 1) n l s0 s1)
  | 0 => fun _ _ _ _ r h => by simp [elemsI] at h
  | k + 1 => by
    have ih0 := elemsI.mono_l k
    intro n l s0 s1
    rw [elemsI, elemsI]
    repeat' first
      | (with_reducible exact ih0 _ _ _ _)
      | (with_reducible exact wire_Reader_Int.mono _ _ _)
      | (with_reducible exact LeO.refl _)
      | (with_reducible exact LeO.none _)
      | (with_reducible refine LeO.ite ?_ ?_)
      | (with_reducible refine LeO.bind ?_ (fun _ => ?_))
theorem wire_Reader_Nums.mono : ∀ a0 a1 k, LeO (wire_Reader_Nums.f k a0 a1) (wire_Reader_Nums.f (k + 1) a0 a1) := by
  intro a0 a1 k
  have ih0 := elemsI.mono_l k
  unfold wire_Reader_Nums.f
  repeat' first
    | (with_reducible exact ih0 _ _ _ _)
    | (with_reducible exact wire_Reader_digits.mono _ _ _ _)
    | (with_reducible exact LeO.refl _)
    | (with_reducible exact LeO.none _)
    | (with_reducible refine LeO.ite ?_ ?_)
    | (with_reducible refine LeO.bind ?_ (fun _ => ?_))

set_option maxHeartbeats 4000000 in
set_option maxRecDepth 100000 in
theorem elements_int.calls (k : Nat) (g : Nat) (s0_0 : ByteArray) (s0_1 : Bool) (r1 : List Int) (r2 : ByteArray) (r3 : Bool) (w0 w : World) (hI : IsS78 w0 w g s0_0 s0_1) (hB : Below w0.heap.size w0 w) (h : wire_Reader_Nums.f k s0_0 s0_1 = some (r1, r2, r3)) :
    Calls Tryd.prog 89 #[.pointer (some ⟨g, 0, none⟩), .func (.func 21) #[.pointer (some ⟨g, 0, none⟩)] #[]] w fun e w' => ∃ v0_ : Value, e = .returned v0_ ∧ Kd.R (Kd.int .i64) 3 w' w.heap.size (fun _ => True) v0_ r1 ∧ IsS78 w0 w' g r2 r3 ∧ Below w0.heap.size w0 w' ∧ KeepBut w w' g none := by
  unfold wire_Reader_Nums.f at h
  obtain ⟨⟨n, ok, s1, f1⟩, H1, h⟩ := Option.bind_eq_some_iff.1 h
  have H1 := Aside0.mk H1
  simp only at h
  cases ok with
  | false =>
    simp only [Bool.false_eq_true, if_false, Option.some.injEq, Prod.mk.injEq] at h
    obtain ⟨rfl, rfl, rfl⟩ := h
    go_enter Tryd.func89, Tryd.ntmps89
    go_wp2_with fail
    refine (wire_Reader_digits.calls k g s0_0 s0_1 _ _ _ _ _ w0 _ hI hB H1.out).mono ?_
    rintro e w1 ⟨rfl, hI1, hB1, hK1⟩
    go_wp2_with fail
    go_ret
    exact ⟨_, rfl, Kd.R_nil _ _ _ _ _, hI1, hB1, hK1⟩
  | true =>
    rw [if_pos rfl] at h
    obtain ⟨⟨ok2, s2, f2⟩, H2, h⟩ := Option.bind_eq_some_iff.1 h
    have H2 := Aside0.mk H2
    simp only at h
    cases ok2 with
    | false =>
      simp only [Bool.false_eq_true, if_false, Option.some.injEq, Prod.mk.injEq] at h
      obtain ⟨rfl, rfl, rfl⟩ := h
      go_enter Tryd.func89, Tryd.ntmps89
      go_wp2_with fail
      refine (wire_Reader_digits.calls k g s0_0 s0_1 _ _ _ _ _ w0 _ hI hB H1.out).mono ?_
      rintro e w1 ⟨rfl, hI1, hB1, hK1⟩
      go_wp2_with fail
      refine (wire_Reader_skip.calls g _ _ _ _ _ _ w0 _ hI1 hB1 H2.out).mono ?_
      rintro e w2 ⟨rfl, hI2, hB2, hK2⟩
      go_wp2_with fail
      go_ret
      exact ⟨_, rfl, Kd.R_nil _ _ _ _ _, hI2, hB2, hK1.trans hK2 (.inl rfl)⟩
    | true =>
      rw [if_pos rfl] at h
      have H := Aside0.mk h
      clear h
      go_enter Tryd.func89, Tryd.ntmps89
      go_wp2_with fail
      refine (wire_Reader_digits.calls k g s0_0 s0_1 _ _ _ _ _ w0 _ hI hB H1.out).mono ?_
      rintro e w1 ⟨rfl, hI1, hB1, hK1⟩
      go_wp2_with fail
      refine (wire_Reader_skip.calls g _ _ _ _ _ _ w0 _ hI1 hB1 H2.out).mono ?_
      rintro e w2 ⟨rfl, hI2, hB2, hK2⟩
      have hK := hK1.trans hK2 (.inl rfl)
      clear hI1 hB1 hK1 hK2
      go_wp2_with fail
      go_loopw [5, 7] (fun v5 v7 wr => ∃ (kq : Nat) (m : Int) (l : List Int) (t0 : ByteArray) (t1 : Bool), v5 = .int .u64 m ∧ Aside0 (elemsI kq m l t0 t1 = some (r1, r2, r3)) ∧ Aside0 (Kd.R (Kd.int .i64) 3 wr w.heap.size (fun _ => True) v7 l) ∧ Aside0 (IsS78 w0 wr g t0 t1) ∧ Aside0 (Below w0.heap.size w0 wr) ∧ Aside0 (KeepBut w wr g none)) (fun v5 _ _ => (intOf v5).toNat)
      case atStart => exact ⟨k, n, [], s2, f2, rfl, H, ⟨Kd.R_nil _ _ _ _ _⟩, ⟨hI2⟩, ⟨hB2⟩, ⟨hK⟩⟩
      case round =>
        clear hI2 hB2 hK H H1 H2
        obtain ⟨kq, m, l, t0, t1, rfl, H, HO, HI, HB, HK⟩ := hrel
        cases kq with
        | zero => exact absurd H.out (by simp [elemsI])
        | succ kq =>
        have h := H.out
        clear H
        unfold elemsI at h
        by_cases hm : m > 0
        · rw [if_pos hm] at h
          obtain ⟨⟨x, u0, u1⟩, H3, h⟩ := Option.bind_eq_some_iff.1 h
          have H3 := Aside0.mk H3
          simp only at h
          cases u1 with
          | true =>
            rw [if_pos rfl] at h
            simp only [Option.some.injEq, Prod.mk.injEq] at h
            obtain ⟨rfl, rfl, rfl⟩ := h
            go_wp2_with fail
            refine (wire_Reader_Int.calls kq g _ _ _ _ _ w0 _ HI.out HB.out H3.out).mono ?_
            rintro e w3 ⟨rfl, hI3, hB3, hK3⟩
            have hc := cellS78_1 hI3.1
            have hK4 := HK.out.trans hK3 (.inl rfl)
            have HI3 := Aside0.mk hI3
            have HK4 := Aside0.mk hK4
            clear hI3 hK4 hK3 HO HI HB HK
            go_wp2_with fail
            go_ret
            exact ⟨_, rfl, Kd.R_nil _ _ _ _ _, HI3.out, hB3, HK4.out⟩
          | false =>
            simp only [Bool.false_eq_true, if_false] at h
            by_cases hl : l.length < 17592186044416
            · rw [if_pos hl] at h
              have H := Aside0.mk h
              clear h
              go_wp2_with fail
              refine (wire_Reader_Int.calls kq g _ _ _ _ _ w0 _ HI.out HB.out H3.out).mono ?_
              rintro e w3 ⟨rfl, hI3, hB3, hK3⟩
              have hc := cellS78_1 hI3.1
              have HK4 := Aside0.mk (HK.out.trans hK3 (.inl rfl))
              have HO3 := Aside0.mk (Kd.R_keep (Kd.R_types HO.out HI.out.1 (by decide)) hK3 (fun k hk => hk.2))
              have HI3 := Aside0.mk hI3
              have hsz := HK4.out.1
              clear hI3 hK3 HO HI HB HK
              have hu : 0 < m := hm
              go_wp2_with ((with_reducible refine gate_dst (N := 34) rfl ?_); refine Kd.R_append (Kd.int .i64) (w0 := w3) w.heap.size rfl (.tmp 31) (.tmp 33) 26 3 (.int .i64 0) 8 rfl Tryd.underlying26 info3 rfl (by decide) (by omega) u7 l x [.int .i64 x] (fun k => True ∧ k ≠ g) (fun _ => False) rfl rfl ?aP (fun _ hk => hk.elim) ?aF ?aO ?aB ?aS ?aL ?_; (case aP => exact rfl); (case aF => exact (fun k hk => ⟨trivial, by have := HI3.out.lt; omega⟩)); (case aO => exact HO3.out); (case aB => exact Below.refl _ _); (case aS => exact hsz); (case aL => omega); intro v1 w4 ho hb hg hat; have n0 := Aside0.mk ho; have n1 := Aside0.mk (HI3.out.grown hg (IsS78.own_ne HI3.out HO3.out (by decide))); have n2 := Aside0.mk (HK4.out.trans (KeepBut.of_grown hg g) (Kd.R_base2 HO3.out)); have n3 := Aside0.mk (hB3.grown hg hB3.size (fun k hk => Nat.le_trans hB.size (Kd.R_base HO3.out k hk))); clear ho hb hg hat HI3 HO3 HK4 hB3)
              go_roundw
              case rel => exact ⟨kq, _, _, _, _, rfl, H, ⟨Kd.R_mono n0.out (fun _ _ => trivial)⟩, n1, n3, n2⟩
              case measure => simp [intOf, IntKind.wrap_u64]; omega
            · rw [if_neg hl] at h; cases h
        · rw [if_neg hm] at h
          obtain ⟨⟨x, u0, u1⟩, H3, h⟩ := Option.bind_eq_some_iff.1 h
          have H3 := Aside0.mk H3
          simp only at h
          cases x with
          | true =>
            rw [if_pos rfl] at h
            simp only [Option.some.injEq, Prod.mk.injEq] at h
            obtain ⟨rfl, rfl, rfl⟩ := h
            go_wp2_with fail
            refine (wire_Reader_skip.calls g _ _ _ _ _ _ w0 _ HI.out HB.out H3.out).mono ?_
            rintro e w3 ⟨rfl, hI3, hB3, hK3⟩
            have HK4 := Aside0.mk (HK.out.trans hK3 (.inl rfl))
            have HO3 := Aside0.mk (Kd.R_keep (Kd.R_types HO.out HI.out.1 (by decide)) hK3 (fun k hk => hk.2))
            have HI3 := Aside0.mk hI3
            clear hI3 hK3 HO HI HB HK
            go_wp2_with fail
            go_ret
            exact ⟨_, rfl, Kd.R_mono HO3.out (fun _ _ => trivial), HI3.out, hB3, HK4.out⟩
          | false =>
            simp only [Bool.false_eq_true, if_false, Option.some.injEq, Prod.mk.injEq] at h
            obtain ⟨rfl, rfl, rfl⟩ := h
            go_wp2_with fail
            refine (wire_Reader_skip.calls g _ _ _ _ _ _ w0 _ HI.out HB.out H3.out).mono ?_
            rintro e w3 ⟨rfl, hI3, hB3, hK3⟩
            have HK4 := Aside0.mk (HK.out.trans hK3 (.inl rfl))
            have HI3 := Aside0.mk hI3
            clear hI3 hK3 HO HI HB HK
            go_wp2_with fail
            go_ret
            exact ⟨_, rfl, Kd.R_nil _ _ _ _ _, HI3.out, hB3, HK4.out⟩

theorem wire_Reader_Nums.calls (k : Nat) (g : Nat) (s0_0 : ByteArray) (s0_1 : Bool) (r1 : List Int) (r2 : ByteArray) (r3 : Bool) (w0 w : World) (hI : IsS78 w0 w g s0_0 s0_1) (hB : Below w0.heap.size w0 w) (h : wire_Reader_Nums.f k s0_0 s0_1 = some (r1, r2, r3)) :
    Calls Tryd.prog 25 #[.pointer (some ⟨g, 0, none⟩)] w fun e w' => ∃ v0_ : Value, e = .returned v0_ ∧ Kd.R (Kd.int .i64) 3 w' w.heap.size (fun _ => True) v0_ r1 ∧ IsS78 w0 w' g r2 r3 ∧ Below w0.heap.size w0 w' ∧ KeepBut w w' g none := by
  have HC := Aside0.mk (elements_int.calls k g s0_0 s0_1 r1 r2 r3 w0 w hI hB h)
  clear h hI hB
  go_enter Tryd.func25, Tryd.ntmps25
  go_wp2_with fail
  refine HC.out.mono ?_
  rintro e w1 ⟨v, rfl, hR, hI, hB, hK⟩
  go_wp2_with fail
  go_ret
  exact ⟨v, rfl, hR, hI, hB, hK⟩

def elemsT : Nat → Int → List ByteArray → ByteArray → Bool → Option (List ByteArray × ByteArray × Bool)
  | 0, _, _, _, _ => none
  | k + 1, n, l, s0, s1 =>
    if n > 0 then (wire_Reader_Text.f k s0 s1).bind fun b => if b.2.2 = true then some ([], b.2.1, b.2.2) else if l.length < 8796093022208 then elemsT k ((n - 1) % 18446744073709551616) (l ++ [b.1]) b.2.1 b.2.2 else none
    else (wire_Reader_skip.f s0 s1 93).bind fun b => if b.1 = true then some (l, b.2.1, b.2.2) else some ([], b.2.1, b.2.2)

def wire_Reader_Texts.f (k : Nat) (s0 : ByteArray) (s1 : Bool) : Option (List ByteArray × ByteArray × Bool) :=
  (wire_Reader_digits.f k s0 s1 9223372036854775807).bind fun b =>
    if b.2.1 = true then (wire_Reader_skip.f b.2.2.1 b.2.2.2 91).bind fun c => if c.1 = true then elemsT k b.1 [] c.2.1 c.2.2 else some ([], c.2.1, c.2.2)
    else some ([], b.2.2.1, b.2.2.2)

theorem elemsT.mono_l : ∀ k, ∀ n l s0 s1, LeO (elemsT k n l s0 s1) (elemsT (k + 1) n l s0 s1)
  | 0 => fun _ _ _ _ r h => by simp [elemsT] at h
  | k + 1 => by
    have ih0 := elemsT.mono_l k
    intro n l s0 s1
    rw [elemsT, elemsT]
    repeat' first
      | (with_reducible exact ih0 _ _ _ _)
      | (with_reducible exact wire_Reader_Text.mono _ _ _)
      | (with_reducible exact LeO.refl _)
      | (with_reducible exact LeO.none _)
      | (with_reducible refine LeO.ite ?_ ?_)
      | (with_reducible refine LeO.bind ?_ (fun _ => ?_))
theorem wire_Reader_Texts.mono : ∀ a0 a1 k, LeO (wire_Reader_Texts.f k a0 a1) (wire_Reader_Texts.f (k + 1) a0 a1) := by
  intro a0 a1 k
  have ih0 := elemsT.mono_l k
  unfold wire_Reader_Texts.f
  repeat' first
    | (with_reducible exact ih0 _ _ _ _)
    | (with_reducible exact wire_Reader_digits.mono _ _ _ _)
    | (with_reducible exact LeO.refl _)
    | (with_reducible exact LeO.none _)
    | (with_reducible refine LeO.ite ?_ ?_)
    | (with_reducible refine LeO.bind ?_ (fun _ => ?_))

set_option maxHeartbeats 4000000 in
set_option maxRecDepth 100000 in
theorem elements_string.calls (k : Nat) (g : Nat) (s0_0 : ByteArray) (s0_1 : Bool) (r1 : List ByteArray) (r2 : ByteArray) (r3 : Bool) (w0 w : World) (hI : IsS78 w0 w g s0_0 s0_1) (hB : Below w0.heap.size w0 w) (h : wire_Reader_Texts.f k s0_0 s0_1 = some (r1, r2, r3)) :
    Calls Tryd.prog 91 #[.pointer (some ⟨g, 0, none⟩), .func (.func 23) #[.pointer (some ⟨g, 0, none⟩)] #[]] w fun e w' => ∃ v0_ : Value, e = .returned v0_ ∧ Kd.R Kd.string 9 w' w.heap.size (fun _ => True) v0_ r1 ∧ IsS78 w0 w' g r2 r3 ∧ Below w0.heap.size w0 w' ∧ KeepBut w w' g none := by
  unfold wire_Reader_Texts.f at h
  obtain ⟨⟨n, ok, s1, f1⟩, H1, h⟩ := Option.bind_eq_some_iff.1 h
  have H1 := Aside0.mk H1
  simp only at h
  cases ok with
  | false =>
    simp only [Bool.false_eq_true, if_false, Option.some.injEq, Prod.mk.injEq] at h
    obtain ⟨rfl, rfl, rfl⟩ := h
    go_enter Tryd.func91, Tryd.ntmps91
    go_wp2_with fail
    refine (wire_Reader_digits.calls k g s0_0 s0_1 _ _ _ _ _ w0 _ hI hB H1.out).mono ?_
    rintro e w1 ⟨rfl, hI1, hB1, hK1⟩
    go_wp2_with fail
    go_ret
    exact ⟨_, rfl, Kd.R_nil _ _ _ _ _, hI1, hB1, hK1⟩
  | true =>
    rw [if_pos rfl] at h
    obtain ⟨⟨ok2, s2, f2⟩, H2, h⟩ := Option.bind_eq_some_iff.1 h
    have H2 := Aside0.mk H2
    simp only at h
    cases ok2 with
    | false =>
      simp only [Bool.false_eq_true, if_false, Option.some.injEq, Prod.mk.injEq] at h
      obtain ⟨rfl, rfl, rfl⟩ := h
      go_enter Tryd.func91, Tryd.ntmps91
      go_wp2_with fail
      refine (wire_Reader_digits.calls k g s0_0 s0_1 _ _ _ _ _ w0 _ hI hB H1.out).mono ?_
      rintro e w1 ⟨rfl, hI1, hB1, hK1⟩
      go_wp2_with fail
      refine (wire_Reader_skip.calls g _ _ _ _ _ _ w0 _ hI1 hB1 H2.out).mono ?_
      rintro e w2 ⟨rfl, hI2, hB2, hK2⟩
      go_wp2_with fail
      go_ret
      exact ⟨_, rfl, Kd.R_nil _ _ _ _ _, hI2, hB2, hK1.trans hK2 (.inl rfl)⟩
    | true =>
      rw [if_pos rfl] at h
      have H := Aside0.mk h
      clear h
      go_enter Tryd.func91, Tryd.ntmps91
      go_wp2_with fail
      refine (wire_Reader_digits.calls k g s0_0 s0_1 _ _ _ _ _ w0 _ hI hB H1.out).mono ?_
      rintro e w1 ⟨rfl, hI1, hB1, hK1⟩
      go_wp2_with fail
      refine (wire_Reader_skip.calls g _ _ _ _ _ _ w0 _ hI1 hB1 H2.out).mono ?_
      rintro e w2 ⟨rfl, hI2, hB2, hK2⟩
      have hK := hK1.trans hK2 (.inl rfl)
      clear hI1 hB1 hK1 hK2
      go_wp2_with fail
      go_loopw [5, 7] (fun v5 v7 wr => ∃ (kq : Nat) (m : Int) (l : List ByteArray) (t0 : ByteArray) (t1 : Bool), v5 = .int .u64 m ∧ Aside0 (elemsT kq m l t0 t1 = some (r1, r2, r3)) ∧ Aside0 (Kd.R Kd.string 9 wr w.heap.size (fun _ => True) v7 l) ∧ Aside0 (IsS78 w0 wr g t0 t1) ∧ Aside0 (Below w0.heap.size w0 wr) ∧ Aside0 (KeepBut w wr g none)) (fun v5 _ _ => (intOf v5).toNat)
      case atStart => exact ⟨k, n, [], s2, f2, rfl, H, ⟨Kd.R_nil _ _ _ _ _⟩, ⟨hI2⟩, ⟨hB2⟩, ⟨hK⟩⟩
      case round =>
        clear hI2 hB2 hK H H1 H2
        obtain ⟨kq, m, l, t0, t1, rfl, H, HO, HI, HB, HK⟩ := hrel
        cases kq with
        | zero => exact absurd H.out (by simp [elemsT])
        | succ kq =>
        have h := H.out
        clear H
        unfold elemsT at h
        by_cases hm : m > 0
        · rw [if_pos hm] at h
          obtain ⟨⟨x, u0, u1⟩, H3, h⟩ := Option.bind_eq_some_iff.1 h
          have H3 := Aside0.mk H3
          simp only at h
          cases u1 with
          | true =>
            rw [if_pos rfl] at h
            simp only [Option.some.injEq, Prod.mk.injEq] at h
            obtain ⟨rfl, rfl, rfl⟩ := h
            go_wp2_with fail
            refine (wire_Reader_Text.calls kq g _ _ _ _ _ w0 _ HI.out HB.out H3.out).mono ?_
            rintro e w3 ⟨rfl, hI3, hB3, hK3⟩
            have hc := cellS78_1 hI3.1
            have hK4 := HK.out.trans hK3 (.inl rfl)
            have HI3 := Aside0.mk hI3
            have HK4 := Aside0.mk hK4
            clear hI3 hK4 hK3 HO HI HB HK
            go_wp2_with fail
            go_ret
            exact ⟨_, rfl, Kd.R_nil _ _ _ _ _, HI3.out, hB3, HK4.out⟩
          | false =>
            simp only [Bool.false_eq_true, if_false] at h
            by_cases hl : l.length < 8796093022208
            · rw [if_pos hl] at h
              have H := Aside0.mk h
              clear h
              go_wp2_with fail
              refine (wire_Reader_Text.calls kq g _ _ _ _ _ w0 _ HI.out HB.out H3.out).mono ?_
              rintro e w3 ⟨rfl, hI3, hB3, hK3⟩
              have hc := cellS78_1 hI3.1
              have HK4 := Aside0.mk (HK.out.trans hK3 (.inl rfl))
              have HO3 := Aside0.mk (Kd.R_keep (Kd.R_types HO.out HI.out.1 (by decide)) hK3 (fun k hk => hk.2))
              have HI3 := Aside0.mk hI3
              have hsz := HK4.out.1
              clear hI3 hK3 HO HI HB HK
              have hu : 0 < m := hm
              go_wp2_with ((with_reducible refine gate_dst (N := 34) rfl ?_); refine Kd.R_append Kd.string (w0 := w3) w.heap.size rfl (.tmp 31) (.tmp 33) 27 9 (.string ⟨#[]⟩) 16 rfl Tryd.underlying27 info9 rfl (by decide) (by omega) u7 l x [.string x] (fun k => True ∧ k ≠ g) (fun _ => False) rfl rfl ?aP (fun _ hk => hk.elim) ?aF ?aO ?aB ?aS ?aL ?_; (case aP => exact rfl); (case aF => exact (fun k hk => ⟨trivial, by have := HI3.out.lt; omega⟩)); (case aO => exact HO3.out); (case aB => exact Below.refl _ _); (case aS => exact hsz); (case aL => omega); intro v1 w4 ho hb hg hat; have n0 := Aside0.mk ho; have n1 := Aside0.mk (HI3.out.grown hg (IsS78.own_ne HI3.out HO3.out (by decide))); have n2 := Aside0.mk (HK4.out.trans (KeepBut.of_grown hg g) (Kd.R_base2 HO3.out)); have n3 := Aside0.mk (hB3.grown hg hB3.size (fun k hk => Nat.le_trans hB.size (Kd.R_base HO3.out k hk))); clear ho hb hg hat HI3 HO3 HK4 hB3)
              go_roundw
              case rel => exact ⟨kq, _, _, _, _, rfl, H, ⟨Kd.R_mono n0.out (fun _ _ => trivial)⟩, n1, n3, n2⟩
              case measure => simp [intOf, IntKind.wrap_u64]; omega
            · rw [if_neg hl] at h; cases h
        · rw [if_neg hm] at h
          obtain ⟨⟨x, u0, u1⟩, H3, h⟩ := Option.bind_eq_some_iff.1 h
          have H3 := Aside0.mk H3
          simp only at h
          cases x with
          | true =>
            rw [if_pos rfl] at h
            simp only [Option.some.injEq, Prod.mk.injEq] at h
            obtain ⟨rfl, rfl, rfl⟩ := h
            go_wp2_with fail
            refine (wire_Reader_skip.calls g _ _ _ _ _ _ w0 _ HI.out HB.out H3.out).mono ?_
            rintro e w3 ⟨rfl, hI3, hB3, hK3⟩
            have HK4 := Aside0.mk (HK.out.trans hK3 (.inl rfl))
            have HO3 := Aside0.mk (Kd.R_keep (Kd.R_types HO.out HI.out.1 (by decide)) hK3 (fun k hk => hk.2))
            have HI3 := Aside0.mk hI3
            clear hI3 hK3 HO HI HB HK
            go_wp2_with fail
            go_ret
            exact ⟨_, rfl, Kd.R_mono HO3.out (fun _ _ => trivial), HI3.out, hB3, HK4.out⟩
          | false =>
            simp only [Bool.false_eq_true, if_false, Option.some.injEq, Prod.mk.injEq] at h
            obtain ⟨rfl, rfl, rfl⟩ := h
            go_wp2_with fail
            refine (wire_Reader_skip.calls g _ _ _ _ _ _ w0 _ HI.out HB.out H3.out).mono ?_
            rintro e w3 ⟨rfl, hI3, hB3, hK3⟩
            have HK4 := Aside0.mk (HK.out.trans hK3 (.inl rfl))
            have HI3 := Aside0.mk hI3
            clear hI3 hK3 HO HI HB HK
            go_wp2_with fail
            go_ret
            exact ⟨_, rfl, Kd.R_nil _ _ _ _ _, HI3.out, hB3, HK4.out⟩

theorem wire_Reader_Texts.calls (k : Nat) (g : Nat) (s0_0 : ByteArray) (s0_1 : Bool) (r1 : List ByteArray) (r2 : ByteArray) (r3 : Bool) (w0 w : World) (hI : IsS78 w0 w g s0_0 s0_1) (hB : Below w0.heap.size w0 w) (h : wire_Reader_Texts.f k s0_0 s0_1 = some (r1, r2, r3)) :
    Calls Tryd.prog 27 #[.pointer (some ⟨g, 0, none⟩)] w fun e w' => ∃ v0_ : Value, e = .returned v0_ ∧ Kd.R Kd.string 9 w' w.heap.size (fun _ => True) v0_ r1 ∧ IsS78 w0 w' g r2 r3 ∧ Below w0.heap.size w0 w' ∧ KeepBut w w' g none := by
  have HC := Aside0.mk (elements_string.calls k g s0_0 s0_1 r1 r2 r3 w0 w hI hB h)
  clear h hI hB
  go_enter Tryd.func27, Tryd.ntmps27
  go_wp2_with fail
  refine HC.out.mono ?_
  rintro e w1 ⟨v, rfl, hR, hI, hB, hK⟩
  go_wp2_with fail
  go_ret
  exact ⟨v, rfl, hR, hI, hB, hK⟩

end Go.Proofs.YtadnefnofbnheaaDoor.Pr
