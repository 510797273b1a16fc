/- VerpBack: the one way through the law's function, and that its answer is true. -/
import Derived.Test.YtadnefnofbnheaaDoorVO1
import Derived.Test.YtadnefnofbnheaaDoorVO2
import Derived.Test.YtadnefnofbnheaaDoorVO3
import Derived.Test.YtadnefnofbnheaaDoorVO4
import Derived.Test.YtadnefnofbnheaaDoorVO5
import Derived.Test.YtadnefnofbnheaaDoorVO6
import Derived.Test.YtadnefnofbnheaaDoorVO7
import Derived.Test.YtadnefnofbnheaaDoorVO8
import Derived.Test.YtadnefnofbnheaaDoorVO9
import Derived.Test.YtadnefnofbnheaaDoorVO10
import Derived.Test.YtadnefnofbnheaaDoorVO11
import Derived.Test.YtadnefnofbnheaaDoorVO12
import Derived.Test.YtadnefnofbnheaaDoorVO13
import Derived.Test.YtadnefnofbnheaaDoorVO14
import Derived.Test.YtadnefnofbnheaaDoorVO15
import Derived.Test.YtadnefnofbnheaaDoorVO16
namespace Go.Proofs.YtadnefnofbnheaaDoor.Pr
open Go.RowKit Go.Proofs.YtadnefnofbnheaaDoorW.PrintWords Go.Proofs.YtadnefnofbnheaaDoorW.PrintLast Go.Proofs.YtadnefnofbnheaaDoorW.PrintMore
set_option maxHeartbeats 8000000 in
set_option maxRecDepth 100000 in
theorem back_w (k : Nat) (x0 : ByteArray) (x1 : Int) (x2 : ByteArray) (s1 s2 s3 : ByteArray) (w : World) (hG : GOk 2 w) (hz0 : x0.size ≤ 300) (hz2 : x2.size ≤ 300)
    (h0 : missivelaw38_small.f k = some true)
    (h1 : verp_Bounce.f k x0 x1 = some s1) (h2 : text_Upper.f s1 = some (upB s1)) (h3 : verp_Parse.f k x0 (upB s1) = some (1, mx x1 0, ⟨#[]⟩, true))
    (h4 : verp_Vote.f k x0 x1 x2 = some s2) (h5 : verp_Parse.f k x0 s2 = some (2, mx x1 0, x2, true))
    (h6 : verp_Confirm.f k x0 x2 = some s3) (h7 : text_Upper.f s3 = some (upB s3)) (h8 : verp_Parse.f k x0 (upB s3) = some (3, 0, x2, true)) :
    Calls Tryd.prog 8 #[.string x0, .int .i64 x1, .string x2] w fun e w' => e = .returned (.bool true) ∧ Below w.heap.size w w' := by
  have c0 : ¬ (300 : Int) < x0.size := by omega
  have c2 : ¬ (300 : Int) < x2.size := by omega
  have hmx : mx x1 0 = max x1 0 := by unfold mx; omega
  have HB0 : Aside0 (Below w.heap.size w w) := ⟨Below.refl _ _⟩
  go_enter Tryd.func8, Tryd.ntmps8
  go_wp2_with fail
  have key := missivelaw38_small.calls k true w hG h0
  refine Calls.mono key ?_
  rintro e w1 ⟨rfl, hb⟩
  have HB1 := Aside0.mk hb
  clear hb key HB0
  go_wp2_with fail
  have key := verp_Bounce.calls k x0 x1 s1 w1 (hG.below (by decide) HB1.out) h1
  refine Calls.mono key ?_
  rintro e w2 ⟨rfl, hb⟩
  have HB2 := Aside0.mk (HB1.out.trans (hb.mono HB1.out.size))
  clear hb key HB1
  go_wp2_with fail
  have key := text_Upper.calls s1 (upB s1) w2 (hG.below (by decide) HB2.out) h2
  refine Calls.mono key ?_
  rintro e w3 ⟨rfl, hb⟩
  have HB3 := Aside0.mk (HB2.out.trans (hb.mono HB2.out.size))
  clear hb key HB2
  go_wp2_with fail
  have key := verp_Parse.calls k x0 (upB s1) 1 (mx x1 0) ⟨#[]⟩ true w3 (hG.below (by decide) HB3.out) h3
  refine Calls.mono key ?_
  rintro e w4 ⟨rfl, hb⟩
  have HB4 := Aside0.mk (HB3.out.trans (hb.mono HB3.out.size))
  clear hb key HB3
  go_wp2_with fail
  have key := verp_Vote.calls k x0 x1 x2 s2 w4 (hG.below (by decide) HB4.out) h4
  refine Calls.mono key ?_
  rintro e w5 ⟨rfl, hb⟩
  have HB5 := Aside0.mk (HB4.out.trans (hb.mono HB4.out.size))
  clear hb key HB4
  go_wp2_with fail
  have key := verp_Parse.calls k x0 s2 2 (mx x1 0) x2 true w5 (hG.below (by decide) HB5.out) h5
  refine Calls.mono key ?_
  rintro e w6 ⟨rfl, hb⟩
  have HB6 := Aside0.mk (HB5.out.trans (hb.mono HB5.out.size))
  clear hb key HB5
  go_wp2_with fail
  have key := verp_Confirm.calls k x0 x2 s3 w6 (hG.below (by decide) HB6.out) h6
  refine Calls.mono key ?_
  rintro e w7 ⟨rfl, hb⟩
  have HB7 := Aside0.mk (HB6.out.trans (hb.mono HB6.out.size))
  clear hb key HB6
  go_wp2_with fail
  have key := text_Upper.calls s3 (upB s3) w7 (hG.below (by decide) HB7.out) h7
  refine Calls.mono key ?_
  rintro e w8 ⟨rfl, hb⟩
  have HB8 := Aside0.mk (HB7.out.trans (hb.mono HB7.out.size))
  clear hb key HB7
  go_wp2_with fail
  have key := verp_Parse.calls k x0 (upB s3) 3 0 x2 true w8 (hG.below (by decide) HB8.out) h8
  refine Calls.mono key ?_
  rintro e w9 ⟨rfl, hb⟩
  have HB9 := Aside0.mk (HB8.out.trans (hb.mono HB8.out.size))
  clear hb key HB8
  go_wp2_with fail
  go_ret
  exact ⟨rfl, HB9.out⟩

set_option maxHeartbeats 8000000 in
set_option maxRecDepth 100000 in
theorem back_big0 (k : Nat) (x0 : ByteArray) (x1 : Int) (x2 : ByteArray) (w : World) (hG : GOk 2 w) (hz0 : ¬ x0.size ≤ 300) (h0 : missivelaw38_small.f k = some true) :
    Calls Tryd.prog 8 #[.string x0, .int .i64 x1, .string x2] w fun e w' => e = .returned (.bool true) ∧ Below w.heap.size w w' := by
  have c0 : (300 : Int) < x0.size := by omega
  go_enter Tryd.func8, Tryd.ntmps8
  go_wp2_with fail
  have key := missivelaw38_small.calls k true w hG h0
  refine Calls.mono key ?_
  rintro e w1 ⟨rfl, hb⟩
  have HB1 := Aside0.mk hb
  clear hb key
  go_wp2
  go_ret
  exact ⟨rfl, HB1.out⟩
set_option maxHeartbeats 8000000 in
set_option maxRecDepth 100000 in
theorem back_big2 (k : Nat) (x0 : ByteArray) (x1 : Int) (x2 : ByteArray) (w : World) (hG : GOk 2 w) (hz0 : x0.size ≤ 300) (hz2 : ¬ x2.size ≤ 300) (h0 : missivelaw38_small.f k = some true) :
    Calls Tryd.prog 8 #[.string x0, .int .i64 x1, .string x2] w fun e w' => e = .returned (.bool true) ∧ Below w.heap.size w w' := by
  have c0 : ¬ (300 : Int) < x0.size := by omega
  have c2 : (300 : Int) < x2.size := by omega
  go_enter Tryd.func8, Tryd.ntmps8
  go_wp2_with fail
  have key := missivelaw38_small.calls k true w hG h0
  refine Calls.mono key ?_
  rintro e w1 ⟨rfl, hb⟩
  have HB1 := Aside0.mk hb
  clear hb key
  go_wp2
  go_ret
  exact ⟨rfl, HB1.out⟩

/-- What the law's calls answer, where they all answer as the law says. -/
def BackOk (k : Nat) (x0 : ByteArray) (x1 : Int) (x2 : ByteArray) : Prop :=
  missivelaw38_small.f k = some true ∧ (x0.size ≤ 300 → x2.size ≤ 300 → ∃ s1 s2 s3, verp_Bounce.f k x0 x1 = some s1 ∧ text_Upper.f s1 = some (upB s1) ∧ verp_Parse.f k x0 (upB s1) = some (1, mx x1 0, ⟨#[]⟩, true) ∧
    verp_Vote.f k x0 x1 x2 = some s2 ∧ verp_Parse.f k x0 s2 = some (2, mx x1 0, x2, true) ∧
    verp_Confirm.f k x0 x2 = some s3 ∧ text_Upper.f s3 = some (upB s3) ∧ verp_Parse.f k x0 (upB s3) = some (3, 0, x2, true))
open Classical in
noncomputable def backLaw.f (k : Nat) (x0 : ByteArray) (x1 : Int) (x2 : ByteArray) : Option Bool := if BackOk k x0 x1 x2 then some true else none
theorem backLaw.calls (k : Nat) (a0 : ByteArray) (a1 : Int) (a2 : ByteArray) (r : Bool) (w : World) (hG : GOk 2 w) (h : backLaw.f k a0 a1 a2 = some r) :
    Calls Tryd.prog 8 #[.string a0, .int .i64 a1, .string a2] w fun e w' => e = .returned (.bool r) ∧ Below w.heap.size w w' := by
  unfold backLaw.f at h
  split at h
  case isFalse => cases h
  rename_i hb
  obtain rfl := Option.some.inj h
  obtain ⟨h0, hb⟩ := hb
  by_cases z0 : a0.size ≤ 300
  · by_cases z2 : a2.size ≤ 300
    · obtain ⟨s1, s2, s3, h1, h2, h3, h4, h5, h6, h7, h8⟩ := hb z0 z2
      exact back_w k a0 a1 a2 s1 s2 s3 w hG z0 z2 h0 h1 h2 h3 h4 h5 h6 h7 h8
    · exact back_big2 k a0 a1 a2 w hG z0 z2 h0
  · exact back_big0 k a0 a1 a2 w hG z0 h0
set_option maxRecDepth 100000 in
theorem low_up (c : UInt8) : lowC (upC c) = lowC c := by
  have h : ∀ n, n < 256 → lowC (upC (UInt8.ofNat n)) = lowC (UInt8.ofNat n) := by decide
  have := h c.toNat c.toNat_lt
  simpa using this
theorem lowB_upB (s : ByteArray) : lowB (upB s) = lowB s := by
  unfold lowB upB
  simp only [List.map_map]
  congr 2
  apply List.map_congr_left
  intro c _
  exact low_up c
theorem upB_size (s : ByteArray) : (upB s).size = s.size := by rw [upB, sz_mk, List.length_map, ba_len]
theorem parse_up (secret s : ByteArray) : parseB secret (upB s) = parseB secret s := by rw [parseB, parseB, lowB_upB]
theorem up_eq (s : ByteArray) (hs : s.size ≤ 100000) : text_Upper.f s = some (upB s) := by
  unfold text_Upper.f
  rw [if_pos (by omega)]
theorem backLaw_ev (secret : ByteArray) (n : Int) (u : ByteArray) (hn : n ≤ 9223372036854775807) : Ev (fun k => backLaw.f k secret n u) true := by
  have fin : ∀ K, (∀ k, K ≤ k → BackOk k secret n u) → Ev (fun k => backLaw.f k secret n u) true := by
    intro K h
    refine ⟨K, fun k hk => ?_⟩
    show backLaw.f k secret n u = some true
    unfold backLaw.f
    rw [if_pos (h k hk)]
  obtain ⟨K0, hK0⟩ := small_ev
  by_cases z : secret.size ≤ 300 ∧ u.size ≤ 300
  · obtain ⟨z0, z2⟩ := z
    have hsz : secret.size ≤ 1000000 := by omega
    have hm0 : 0 ≤ mx n 0 := by unfold mx; split <;> omega
    have hm1 : mx n 0 ≤ 9223372036854775807 := by unfold mx; split <;> omega
    have hz : (⟨#[]⟩ : ByteArray).size = 0 := rfl
    obtain ⟨m, hm⟩ : ∃ m, m = mx n 0 := ⟨_, rfl⟩
    have k1 : KOk 1 m ⟨#[]⟩ := ⟨.inl rfl, by omega, by omega, by omega⟩
    have k2 : KOk 2 m u := ⟨.inr (.inl rfl), by omega, by omega, by omega⟩
    have k3 : KOk 3 0 u := ⟨.inr (.inr rfl), by decide, by decide, by omega⟩
    have s1 := comp_size secret 1 m ⟨#[]⟩ k1 (by omega)
    have s2 := comp_size secret 2 m u k2 (by omega)
    have s3 := comp_size secret 3 0 u k3 (by omega)
    have p1 := parse_ev secret (upB (compB secret 1 m ⟨#[]⟩)) hsz (by rw [upB_size]; exact s1)
    have p2 := parse_ev secret (compB secret 2 m u) hsz s2
    have p3 := parse_ev secret (upB (compB secret 3 0 u)) hsz (by rw [upB_size]; exact s3)
    rw [parse_up, parse_back secret 1 m ⟨#[]⟩ k1 (fun _ => rfl) (fun h => absurd h (by decide))] at p1
    rw [parse_back secret 2 m u k2 (fun h => absurd h (by decide)) (fun h => absurd h (by decide))] at p2
    rw [parse_up, parse_back secret 3 0 u k3 (fun h => absurd h (by decide)) (fun _ => rfl)] at p3
    obtain ⟨K1, hK1⟩ := p1
    obtain ⟨K2, hK2⟩ := p2
    obtain ⟨K3, hK3⟩ := p3
    refine fin (K0 + K1 + K2 + K3 + 2000000) fun k hk => ⟨hK0 k (by omega), fun _ _ => ⟨compB secret 1 m ⟨#[]⟩, compB secret 2 m u, compB secret 3 0 u, ?_, up_eq _ s1, ?_, ?_, ?_, ?_, up_eq _ s3, hK3 k (by omega)⟩⟩
    · unfold verp_Bounce.f
      rw [← hm, comp_ev secret 1 m _ hsz k1 k (by omega), Option.bind_some]
    · rw [← hm]
      exact hK1 k (by omega)
    · unfold verp_Vote.f
      rw [← hm, comp_ev secret 2 m u hsz k2 k (by omega), Option.bind_some]
    · rw [← hm]
      exact hK2 k (by omega)
    · unfold verp_Confirm.f
      rw [comp_ev secret 3 0 u hsz k3 k (by omega), Option.bind_some]
  · exact fin K0 fun k hk => ⟨hK0 k hk, fun h1 h2 => absurd ⟨h1, h2⟩ z⟩
end Go.Proofs.YtadnefnofbnheaaDoor.Pr
