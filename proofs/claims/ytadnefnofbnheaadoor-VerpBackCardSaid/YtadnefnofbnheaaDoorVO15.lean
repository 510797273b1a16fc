/- Part 15 of the proof: HVerpC, HVerp, QVerpBounce, QMissivelaw38Small, QVerpConfirm, QVerpVote, QMissivelaw38Write, QMissivelaw38VerpOnly. -/
import Derived.Test.YtadnefnofbnheaaDoorVO14
import Derived.Test.YtadnefnofbnheaaDoorVO8
import Derived.BigQuiet
import Derived.Deep.RegionWith
import Derived.Test.YtadnefnofbnheaaDoorVO6
import Derived.Test.YtadnefnofbnheaaDoorVO3
import Derived.Test.YtadnefnofbnheaaDoorVO11
/- The local parts of addresses: verp.compose, verp.Parse. -/
namespace Go.Proofs.YtadnefnofbnheaaDoor.Pr
open Go.RowKit Go.Proofs.YtadnefnofbnheaaDoorW.PrintWords Go.Proofs.YtadnefnofbnheaaDoorW.PrintLast Go.Proofs.YtadnefnofbnheaaDoorW.PrintMore

def kindW (k : Nat) : ByteArray := ⟨(kindWords.getD k []).toArray⟩
theorem kindW_size (k : Nat) : (kindW k).size ≤ 7 := by
  match k with
  | 0 => decide
  | 1 => decide
  | 2 => decide
  | 3 => decide
  | n + 4 => show (⟨((kindWords.getD (n + 4) []).toArray)⟩ : ByteArray).size ≤ 7; rw [sz_mk]; simp [kindWords]
theorem wds_cell {w : World} (hG : GOk 2 w) (k : Nat) (h : k < 4) : w.cell? ⟨0, k, none⟩ = some (.string (kindW k)) := hG.wds (Nat.le_refl _) k h

def verp_content.f (kind n : Int) (user : ByteArray) : Option ByteArray :=
  if kind = 1 then wire_Num.f n
  else if kind = 2 then (wire_Num.f n).bind fun a => (wire_Text.f user).bind fun b => if a.size + b.size ≤ 1000000 then some (a ++ b) else none
  else if kind = 3 then wire_Text.f user
  else none
def verp_compose.f (k : Nat) (secret : ByteArray) (kind n : Int) (user : ByteArray) : Option ByteArray :=
  (verp_content.f kind n user).bind fun c => (wire_Text.f (kindW kind.toNat)).bind fun wt =>
    if wt.size + c.size ≤ 2000000 then (digest_Mac.f secret (wt ++ c)).bind fun m => (digest_Base32.f k (c ++ m.extract 0 5)).bind fun b =>
      if b.size ≤ 100000000 then some (kindW kind.toNat ++ ⟨#[43]⟩ ++ b) else none
    else none
theorem verp_compose.mono : ∀ a0 a1 a2 a3 k, LeO (verp_compose.f k a0 a1 a2 a3) (verp_compose.f (k + 1) a0 a1 a2 a3) := by
  intro a0 a1 a2 a3 k
  unfold verp_compose.f
  repeat' first
      | (with_reducible exact digest_Base32.mono _ _)
      | (with_reducible exact LeO.refl _)
      | (with_reducible exact LeO.none _)
      | (with_reducible refine LeO.ite ?_ ?_)
      | (with_reducible refine LeO.bind ?_ (fun _ => ?_))
theorem ba_empty (x : ByteArray) : (⟨#[]⟩ : ByteArray) ++ x = x := by
  apply ByteArray.ext
  rw [ByteArray.data_append]
  simp
theorem macB_size (k s : ByteArray) : (macB k s).size = 32 := by unfold macB; exact sumB_size _

set_option maxHeartbeats 8000000 in
set_option maxRecDepth 100000 in
theorem compose_w1 (k : Nat) (secret : ByteArray) (n : Int) (user : ByteArray) (c wt m b : ByteArray) (w : World) (hG : GOk 2 w) (h1 : verp_content.f 1 n user = some c) (h2 : wire_Text.f (kindW 1) = some wt) (h3 : wt.size + c.size ≤ 2000000)
    (h4 : digest_Mac.f secret (wt ++ c) = some m) (hm : m.size = 32) (h5 : digest_Base32.f k (c ++ m.extract 0 5) = some b) (h6 : b.size ≤ 100000000) :
    Calls Tryd.prog 94 #[.string secret, .int .i64 1, .int .i64 n, .string user] w fun e w' => e = .returned (.string (kindW 1 ++ ⟨#[43]⟩ ++ b)) ∧ Below w.heap.size w w' := by
  have hcell : ∀ w', Below w.heap.size w w' → w'.cell? ⟨0, 1, none⟩ = some (.string (kindW 1)) := fun w' hb => wds_cell (hG.below (Nat.le_refl _) hb) 1 (by decide)
  have hx5 : (m.extract 0 5).size = 5 := by rw [ByteArray.size_extract]; omega
  have h1' : wire_Num.f n = some c := by simpa [verp_content.f] using h1
  clear h1
  have he : (⟨#[]⟩ : ByteArray) ++ c = c := ba_empty c
  go_enter Tryd.func94, Tryd.ntmps94
  go_wp2_with fail
  refine (wire_Num.calls n c _ (hG.mono (by decide)) h1').mono ?_
  rintro e w1 ⟨rfl, hb⟩
  have HBn := Aside0.mk hb
  clear hb
  have HW := Aside0.mk (hcell _ HBn.out)
  have hw0 := HW.out
  go_wp2_with fail
  refine (wire_Text.calls (kindW 1) wt _ ((hG.below (by decide) HBn.out)) h2).mono ?_
  rintro e w5 ⟨rfl, hb⟩
  have HBm := Aside0.mk (HBn.out.trans (hb.mono HBn.out.size))
  clear hb HBn hw0 HW
  have hz1 : ¬ 9223372036854775807 < wt.size + c.size := by omega
  go_wp2_with fail
  refine (digest_Mac.calls secret (wt ++ c) m _ (hG.below (by decide) HBm.out) h4).mono ?_
  rintro e w6 ⟨rfl, hb⟩
  have HBn := Aside0.mk (HBm.out.trans (hb.mono HBm.out.size))
  clear hb HBm
  have hm5 : (5 : Int) < m.size := by omega
  have hw0 := hcell _ HBn.out
  have hz2 : ¬ 9223372036854775807 < (kindW 1).size + 1 := by have := kindW_size 1; omega
  have hz3 : ¬ 9223372036854775807 < c.size + 5 := by omega
  have hz4 : ¬ 9223372036854775807 < (kindW 1 ++ ⟨#[43]⟩).size + b.size := by rw [ByteArray.size_append]; have := kindW_size 1; have h43 : (⟨#[43]⟩ : ByteArray).size = 1 := rfl; omega
  have hz4' : ¬ 9223372036854775807 < (kindW 1).size + 1 + b.size := by have := kindW_size 1; omega
  go_wp2_with fail
  go_region_with (go_at_call 136; refine (digest_Base32.calls k (c ++ m.extract 0 5) b _ h5).mono ?_; rintro e w7 ⟨rfl, hb7⟩; have hw1 := hcell _ (HBn.out.drew.trans (hb7.mono HBn.out.drew.size)))
  all_goals (go_wp2; go_ret; exact ⟨rfl, HBn.out.drew.trans (hb7.mono HBn.out.drew.size)⟩)
set_option maxHeartbeats 8000000 in
set_option maxRecDepth 100000 in
theorem compose_w2 (k : Nat) (secret : ByteArray) (n : Int) (user : ByteArray) (c wt m b : ByteArray) (w : World) (hG : GOk 2 w) (h1 : verp_content.f 2 n user = some c) (h2 : wire_Text.f (kindW 2) = some wt) (h3 : wt.size + c.size ≤ 2000000)
    (h4 : digest_Mac.f secret (wt ++ c) = some m) (hm : m.size = 32) (h5 : digest_Base32.f k (c ++ m.extract 0 5) = some b) (h6 : b.size ≤ 100000000) :
    Calls Tryd.prog 94 #[.string secret, .int .i64 2, .int .i64 n, .string user] w fun e w' => e = .returned (.string (kindW 2 ++ ⟨#[43]⟩ ++ b)) ∧ Below w.heap.size w w' := by
  have hcell : ∀ w', Below w.heap.size w w' → w'.cell? ⟨0, 2, none⟩ = some (.string (kindW 2)) := fun w' hb => wds_cell (hG.below (Nat.le_refl _) hb) 2 (by decide)
  have hx5 : (m.extract 0 5).size = 5 := by rw [ByteArray.size_extract]; omega
  have h1' : ((wire_Num.f n).bind fun a => (wire_Text.f user).bind fun b => if a.size + b.size ≤ 1000000 then some (a ++ b) else none) = some c := by simpa [verp_content.f] using h1
  clear h1
  obtain ⟨ca, ha, h1'⟩ := Option.bind_eq_some_iff.mp h1'
  obtain ⟨cb, hb', h1'⟩ := Option.bind_eq_some_iff.mp h1'
  split at h1'
  case isFalse => cases h1'
  rename_i hab
  have he2 : ca ++ cb = c := Option.some.inj h1'
  clear h1'
  have hz0 : ¬ 9223372036854775807 < ca.size + cb.size := by omega
  have he : (⟨#[]⟩ : ByteArray) ++ c = c := ba_empty c
  have he : (⟨#[]⟩ : ByteArray) ++ ca = ca := ba_empty ca
  go_enter Tryd.func94, Tryd.ntmps94
  go_wp2_with fail
  refine (wire_Num.calls n ca _ (hG.mono (by decide)) ha).mono ?_
  rintro e w1 ⟨rfl, hb⟩
  have HBm := Aside0.mk hb
  clear hb
  go_wp2_with fail
  refine (wire_Text.calls user cb _ (hG.below (by decide) HBm.out) hb').mono ?_
  rintro e w2 ⟨rfl, hb⟩
  have HBn := Aside0.mk (HBm.out.trans (hb.mono HBm.out.size))
  clear hb HBm
  have HW := Aside0.mk (hcell _ HBn.out)
  have hw0 := HW.out
  go_wp2_with fail
  refine (wire_Text.calls (kindW 2) wt _ ((hG.below (by decide) HBn.out)) h2).mono ?_
  rintro e w5 ⟨rfl, hb⟩
  have HBm := Aside0.mk (HBn.out.trans (hb.mono HBn.out.size))
  clear hb HBn hw0 HW
  have hz1 : ¬ 9223372036854775807 < wt.size + c.size := by omega
  go_wp2_with fail
  refine (digest_Mac.calls secret (wt ++ c) m _ (hG.below (by decide) HBm.out) h4).mono ?_
  rintro e w6 ⟨rfl, hb⟩
  have HBn := Aside0.mk (HBm.out.trans (hb.mono HBm.out.size))
  clear hb HBm
  have hm5 : (5 : Int) < m.size := by omega
  have hw0 := hcell _ HBn.out
  have hz2 : ¬ 9223372036854775807 < (kindW 2).size + 1 := by have := kindW_size 2; omega
  have hz3 : ¬ 9223372036854775807 < c.size + 5 := by omega
  have hz4 : ¬ 9223372036854775807 < (kindW 2 ++ ⟨#[43]⟩).size + b.size := by rw [ByteArray.size_append]; have := kindW_size 2; have h43 : (⟨#[43]⟩ : ByteArray).size = 1 := rfl; omega
  have hz4' : ¬ 9223372036854775807 < (kindW 2).size + 1 + b.size := by have := kindW_size 2; omega
  go_wp2_with fail
  go_region_with (go_at_call 136; refine (digest_Base32.calls k (c ++ m.extract 0 5) b _ h5).mono ?_; rintro e w7 ⟨rfl, hb7⟩; have hw1 := hcell _ (HBn.out.drew.trans (hb7.mono HBn.out.drew.size)))
  all_goals (go_wp2; go_ret; exact ⟨rfl, HBn.out.drew.trans (hb7.mono HBn.out.drew.size)⟩)
set_option maxHeartbeats 8000000 in
set_option maxRecDepth 100000 in
theorem compose_w3 (k : Nat) (secret : ByteArray) (n : Int) (user : ByteArray) (c wt m b : ByteArray) (w : World) (hG : GOk 2 w) (h1 : verp_content.f 3 n user = some c) (h2 : wire_Text.f (kindW 3) = some wt) (h3 : wt.size + c.size ≤ 2000000)
    (h4 : digest_Mac.f secret (wt ++ c) = some m) (hm : m.size = 32) (h5 : digest_Base32.f k (c ++ m.extract 0 5) = some b) (h6 : b.size ≤ 100000000) :
    Calls Tryd.prog 94 #[.string secret, .int .i64 3, .int .i64 n, .string user] w fun e w' => e = .returned (.string (kindW 3 ++ ⟨#[43]⟩ ++ b)) ∧ Below w.heap.size w w' := by
  have hcell : ∀ w', Below w.heap.size w w' → w'.cell? ⟨0, 3, none⟩ = some (.string (kindW 3)) := fun w' hb => wds_cell (hG.below (Nat.le_refl _) hb) 3 (by decide)
  have hx5 : (m.extract 0 5).size = 5 := by rw [ByteArray.size_extract]; omega
  have h1' : wire_Text.f user = some c := by simpa [verp_content.f] using h1
  clear h1
  have he : (⟨#[]⟩ : ByteArray) ++ c = c := ba_empty c
  go_enter Tryd.func94, Tryd.ntmps94
  go_wp2_with fail
  refine (wire_Text.calls user c _ (hG.mono (by decide)) h1').mono ?_
  rintro e w1 ⟨rfl, hb⟩
  have HBn := Aside0.mk hb
  clear hb
  have HW := Aside0.mk (hcell _ HBn.out)
  have hw0 := HW.out
  go_wp2_with fail
  refine (wire_Text.calls (kindW 3) wt _ ((hG.below (by decide) HBn.out)) h2).mono ?_
  rintro e w5 ⟨rfl, hb⟩
  have HBm := Aside0.mk (HBn.out.trans (hb.mono HBn.out.size))
  clear hb HBn hw0 HW
  have hz1 : ¬ 9223372036854775807 < wt.size + c.size := by omega
  go_wp2_with fail
  refine (digest_Mac.calls secret (wt ++ c) m _ (hG.below (by decide) HBm.out) h4).mono ?_
  rintro e w6 ⟨rfl, hb⟩
  have HBn := Aside0.mk (HBm.out.trans (hb.mono HBm.out.size))
  clear hb HBm
  have hm5 : (5 : Int) < m.size := by omega
  have hw0 := hcell _ HBn.out
  have hz2 : ¬ 9223372036854775807 < (kindW 3).size + 1 := by have := kindW_size 3; omega
  have hz3 : ¬ 9223372036854775807 < c.size + 5 := by omega
  have hz4 : ¬ 9223372036854775807 < (kindW 3 ++ ⟨#[43]⟩).size + b.size := by rw [ByteArray.size_append]; have := kindW_size 3; have h43 : (⟨#[43]⟩ : ByteArray).size = 1 := rfl; omega
  have hz4' : ¬ 9223372036854775807 < (kindW 3).size + 1 + b.size := by have := kindW_size 3; omega
  go_wp2_with fail
  go_region_with (go_at_call 136; refine (digest_Base32.calls k (c ++ m.extract 0 5) b _ h5).mono ?_; rintro e w7 ⟨rfl, hb7⟩; have hw1 := hcell _ (HBn.out.drew.trans (hb7.mono HBn.out.drew.size)))
  all_goals (go_wp2; go_ret; exact ⟨rfl, HBn.out.drew.trans (hb7.mono HBn.out.drew.size)⟩)

theorem digest_Mac.len {a b r : ByteArray} (h : digest_Mac.f a b = some r) : r.size = 32 := by
  unfold digest_Mac.f at h
  split at h
  · rw [← Option.some.inj h, macB_size]
  · cases h
theorem verp_compose.calls (k : Nat) (a0 : ByteArray) (a1 a2 : Int) (a3 : ByteArray) (r : ByteArray) (w : World) (hG : GOk 2 w) (h : verp_compose.f k a0 a1 a2 a3 = some r) :
    Calls Tryd.prog 94 #[.string a0, .int .i64 a1, .int .i64 a2, .string a3] w fun e w' => e = .returned (.string r) ∧ Below w.heap.size w w' := by
  unfold verp_compose.f at h
  obtain ⟨c, h1, h⟩ := Option.bind_eq_some_iff.mp h
  obtain ⟨wt, h2, h⟩ := Option.bind_eq_some_iff.mp h
  split at h
  case isFalse => cases h
  rename_i h3
  obtain ⟨m, h4, h⟩ := Option.bind_eq_some_iff.mp h
  obtain ⟨b, h5, h⟩ := Option.bind_eq_some_iff.mp h
  split at h
  case isFalse => cases h
  rename_i h6
  obtain rfl := Option.some.inj h
  have hm := digest_Mac.len h4
  by_cases k1 : a1 = 1
  · subst k1
    exact compose_w1 k a0 a2 a3 c wt m b w hG h1 h2 h3 h4 hm h5 h6
  · by_cases k2 : a1 = 2
    · subst k2
      exact compose_w2 k a0 a2 a3 c wt m b w hG h1 h2 h3 h4 hm h5 h6
    · by_cases k3 : a1 = 3
      · subst k3
        exact compose_w3 k a0 a2 a3 c wt m b w hG h1 h2 h3 h4 hm h5 h6
      · rw [verp_content.f, if_neg k1, if_neg k2, if_neg k3] at h1
        cases h1
end Go.Proofs.YtadnefnofbnheaaDoor.Pr

/- verp.Parse. -/
namespace Go.Proofs.YtadnefnofbnheaaDoor.Pr
open Go.RowKit Go.Proofs.YtadnefnofbnheaaDoorW.PrintWords Go.Proofs.YtadnefnofbnheaaDoorW.PrintLast Go.Proofs.YtadnefnofbnheaaDoorW.PrintMore

def verp_pf (k : Nat) (secret low : ByteArray) : Nat → Option (Int × Int × ByteArray × Bool)
  | 0 => some (0, 0, ⟨#[]⟩, false)
  | q + 1 =>
    if Lib.hasPrefix low.data.toList (kindW (3 - q) ++ ⟨#[43]⟩).data.toList = true then
      (verp_read.f k ((3 - q : Nat) : Int) ⟨(Lib.trimPrefix low.data.toList (kindW (3 - q) ++ ⟨#[43]⟩).data.toList).toArray⟩).bind fun t =>
        if t.2.2 = true then (verp_compose.f k secret ((3 - q : Nat) : Int) t.1 t.2.1).bind fun c =>
          if c.toList = low.toList then some (((3 - q : Nat) : Int), t.1, t.2.1, true) else verp_pf k secret low q
        else verp_pf k secret low q
    else verp_pf k secret low q
def verp_Parse.f (k : Nat) (secret loc : ByteArray) : Option (Int × Int × ByteArray × Bool) := (text_Lower.f loc).bind fun low => verp_pf k secret low 3
theorem verp_pf.mono (a0 low : ByteArray) (k : Nat) : ∀ q, LeO (verp_pf k a0 low q) (verp_pf (k + 1) a0 low q)
  | 0 => LeO.refl _
  | q + 1 => by
    have ih := verp_pf.mono a0 low k q
    unfold verp_pf
    repeat' first
      | (with_reducible exact ih)
      | (with_reducible exact verp_read.mono _ _ _)
      | (with_reducible exact verp_compose.mono _ _ _ _ _)
      | (with_reducible exact LeO.refl _)
      | (with_reducible exact LeO.none _)
      | (with_reducible refine LeO.ite ?_ ?_)
      | (with_reducible refine LeO.bind ?_ (fun _ => ?_))
theorem verp_Parse.mono : ∀ a0 a1 k, LeO (verp_Parse.f k a0 a1) (verp_Parse.f (k + 1) a0 a1) := by
  intro a0 a1 k
  unfold verp_Parse.f
  exact LeO.bind (LeO.refl _) (fun _ => verp_pf.mono _ _ _ _)

set_option maxHeartbeats 8000000 in
set_option maxRecDepth 100000 in
theorem verp_Parse.calls (k : Nat) (a0 a1 : ByteArray) (r1 r2 : Int) (r3 : ByteArray) (r4 : Bool) (w : World) (hG : GOk 2 w) (h : verp_Parse.f k a0 a1 = some (r1, r2, r3, r4)) :
    Calls Tryd.prog 34 #[.string a0, .string a1] w fun e w' => e = .returned (.tuple #[.int .i64 r1, .int .i64 r2, .string r3, .bool r4]) ∧ Below w.heap.size w w' := by
  unfold verp_Parse.f at h
  obtain ⟨low, hlow, h⟩ := Option.bind_eq_some_iff.mp h
  have H := Aside0.mk h
  clear h
  have hcell : Aside0 (∀ w' (kd : Nat), kd < 4 → Below w.heap.size w w' → w'.cell? ⟨0, kd, none⟩ = some (.string (kindW kd))) := ⟨fun w' kd hk hb => wds_cell (hG.below (Nat.le_refl _) hb) kd hk⟩
  go_enter Tryd.func34, Tryd.ntmps34
  go_wp2_with fail
  refine (text_Lower.calls a1 low _ (hG.mono (by decide)) hlow).mono ?_
  rintro e w1 ⟨rfl, hb⟩
  have HB1 := Aside0.mk hb
  clear hb hlow
  go_wp2_with fail
  go_loopw [9] (fun i wr => ∃ q : Nat, q ≤ 3 ∧ i = .int .i64 ((4 - q : Nat) : Int) ∧ Aside0 (verp_pf k a0 low q = some (r1, r2, r3, r4)) ∧ Aside0 (Below w.heap.size w wr)) (fun i _ => 5 - (intOf i).toNat)
  case atStart => exact ⟨3, by decide, rfl, H, HB1⟩
  case round =>
    clear H HB1
    obtain ⟨q, hq, rfl, H, HB⟩ := hrel
    cases q with
    | zero =>
      have h := H.out
      clear H
      unfold verp_pf at h
      simp only [Option.some.injEq, Prod.mk.injEq] at h
      obtain ⟨rfl, rfl, rfl, rfl⟩ := h
      go_wp2
      refine bodyPost_ret (v := .tuple #[.int .i64 0, .int .i64 0, .string ⟨#[]⟩, .bool false]) ?_ rfl ⟨rfl, HB.out⟩
      simp [results, Tryd.f34, go_sem]
    | succ q =>
      obtain ⟨kd, hkd⟩ : ∃ kd, kd = 3 - q := ⟨_, rfl⟩
      have hk1 : 4 - (q + 1) = kd := by omega
      have hk3 : (kd : Int) ≤ 3 := by omega
      have hk4 : (kd : Int) < 4 := by omega
      have hkn : kd + 1 = 4 - q := by omega
      rw [hk1]
      have hw0 := hcell.out wr kd (by omega) HB.out
      have h := H.out
      clear H
      unfold verp_pf at h
      rw [← hkd] at h
      have H := Aside0.mk h
      have hz : ¬ 9223372036854775807 < (kindW kd).size + 1 := by have := kindW_size kd; omega
      clear h hkd hk1
      have hcp : strings_CutPrefix.f low (kindW kd ++ ⟨#[43]⟩) = some (⟨(Lib.trimPrefix low.data.toList (kindW kd ++ ⟨#[43]⟩).data.toList).toArray⟩, Lib.hasPrefix low.data.toList (kindW kd ++ ⟨#[43]⟩).data.toList) := by rw [strings_CutPrefix.f]
      have h := H.out
      clear H
      generalize hX : (⟨(Lib.trimPrefix low.data.toList (kindW kd ++ ⟨#[43]⟩).data.toList).toArray⟩ : ByteArray) = X at h hcp
      generalize hP : Lib.hasPrefix low.data.toList (kindW kd ++ ⟨#[43]⟩).data.toList = P at h hcp
      have H := Aside0.mk h
      have HCP := Aside0.mk hcp
      clear h hX hP hcp
      go_wp2_with fail
      have key := strings_CutPrefix.calls low (kindW kd ++ ⟨#[43]⟩) X P wr HCP.out
      refine Calls.mono key ?_
      clear key
      rintro e w2 ⟨rfl, hb⟩
      have HB2 := Aside0.mk (HB.out.trans (hb.mono HB.out.size))
      clear hb HB
      clear HCP
      cases P with
      | true =>
        have h := H.out
        clear H
        rw [if_pos rfl] at h
        obtain ⟨⟨rn, ru, ro⟩, hrd, h⟩ := Option.bind_eq_some_iff.mp h
        dsimp only at h
        have H := Aside0.mk h
        clear h hw0
        go_wp2_with fail
        refine (verp_read.calls k kd X rn ru ro _ hrd).mono ?_
        rintro e w3 ⟨rfl, hb⟩
        have HB3 := Aside0.mk (HB2.out.trans (hb.mono HB2.out.size))
        clear hb HB2 hrd
        cases ro with
        | true =>
          have h := H.out
          clear H
          rw [if_pos rfl] at h
          obtain ⟨c, hc, h⟩ := Option.bind_eq_some_iff.mp h
          have H := Aside0.mk h
          clear h
          go_wp2_with fail
          refine (verp_compose.calls k a0 kd rn ru c _ (hG.below (Nat.le_refl _) HB3.out) hc).mono ?_
          rintro e w4 ⟨rfl, hb⟩
          have HB4 := Aside0.mk (HB3.out.trans (hb.mono HB3.out.size))
          clear hb HB3 hc
          by_cases hcl : c.toList = low.toList
          · have h := H.out
            clear H
            rw [if_pos hcl] at h
            simp only [Option.some.injEq, Prod.mk.injEq] at h
            obtain ⟨rfl, rfl, rfl, rfl⟩ := h
            have hcb : (c.toList == low.toList) = true := by rw [hcl]; simp
            go_wp2
            refine bodyPost_ret (v := .tuple #[.int .i64 kd, .int .i64 rn, .string ru, .bool true]) ?_ rfl ⟨rfl, HB4.out⟩
            simp [results, Tryd.f34, go_sem]
          · have h := H.out
            clear H
            rw [if_neg hcl] at h
            have hcb : (c.toList == low.toList) = false := by rw [beq_eq_false_iff_ne]; exact hcl
            have H := Aside0.mk h
            clear h hcl
            go_wp2
            go_roundw
            case rel => exact ⟨q, by omega, by rw [← hkn]; go_num, H, HB4⟩
            case measure => simp [intOf]; omega
        | false =>
          have h := H.out
          clear H
          rw [if_neg (by simp)] at h
          have H := Aside0.mk h
          clear h
          go_wp2
          go_roundw
          case rel => exact ⟨q, by omega, by rw [← hkn]; go_num, H, HB3⟩
          case measure => simp [intOf]; omega
      | false =>
        have h := H.out
        clear H
        rw [if_neg (by simp)] at h
        have H := Aside0.mk h
        clear h hw0
        go_wp2
        go_roundw
        case rel => exact ⟨q, by omega, by rw [← hkn]; go_num, H, HB2⟩
        case measure => simp [intOf]; omega
end Go.Proofs.YtadnefnofbnheaaDoor.Pr

-- Out of the translation, by this claim's own program over the kit's print.
namespace Go.Proofs.YtadnefnofbnheaaDoor.Pr
open Go.RowKit Go.Proofs.YtadnefnofbnheaaDoorW.PrintWords Go.Proofs.YtadnefnofbnheaaDoorW.PrintLast Go.Proofs.YtadnefnofbnheaaDoorW.PrintMore
attribute [local go_sem] max2_int min2_int max_two min_two max_three min_three max_four min_four   -- for this text's walks alone
set_option linter.unusedVariables false
set_option linter.unusedSimpArgs false

/-! ### verp_Bounce: function 36 -/
def verp_Bounce.f (k : Nat) (a0 : ByteArray) (a1 : Int) : Option (ByteArray) := (verp_compose.f k a0 1 (mx a1 0) (⟨#[]⟩ : ByteArray)).bind fun t376 => (some t376)
theorem verp_Bounce.mono : ∀ a0 a1 k, LeO (verp_Bounce.f k a0 a1) (verp_Bounce.f (k + 1) a0 a1) := by
  intro a0 a1 k
  unfold verp_Bounce.f
  repeat' first
      | (with_reducible exact verp_compose.mono _ _ _ _ _)
      | (with_reducible exact LeO.refl _)
      | (with_reducible exact LeO.none _)
      | (with_reducible refine LeO.ite ?_ ?_)
      | (with_reducible refine LeO.bind ?_ (fun _ => ?_))
      | exact verp_compose.mono _ _ _ _ _
      | exact LeO.none _
      | refine LeO.ite ?_ ?_
      | refine LeO.bind ?_ (fun _ => ?_)
set_option maxHeartbeats 8000000 in
set_option maxRecDepth 100000 in
theorem verp_Bounce.calls (k : Nat) (a0 : ByteArray) (a1 : Int) (r : ByteArray) (w : World) (hG : GOk 2 w) (h : verp_Bounce.f k a0 a1 = some r) :
    Calls Tryd.prog 36 #[.string a0, .int .i64 a1] w fun e w' => e = .returned (.string r) ∧ Below w.heap.size w w' := by
  have HB := Aside0.mk (Below.refl w.heap.size w)
  have H : ((verp_compose.f k a0 1 (mx a1 0) (⟨#[]⟩ : ByteArray)).bind fun t376 => (some t376)) = some r := h
  clear h
  obtain ⟨ji3, hji3⟩ : ∃ j_ : Int, (mx a1 0) = j_ := ⟨_, rfl⟩
  replace H : ((verp_compose.f k a0 1 (ji3) (⟨#[]⟩ : ByteArray)).bind fun t376 => (some t376)) = some r := by first | (rw [hji3] at H; exact H) | (simp only [hji3] at H ⊢; exact H)
  (try (have hji3l : 0 ≤ ji3 := by (rw [← hji3]; unfold mx; (repeat' split) <;> omega)))
  (try (have hji3m : 0 ≤ ji3 := by omega))
  have hji3_ : (if a1 < 0 then 0 else a1) = ji3 := hji3
  replace H := Option.bind_eq_some_iff.mp H
  obtain ⟨t376, A40, H⟩ := H
  replace H : (some t376) = some r := H
  have A4 := Aside0.mk A40
  clear A40
  obtain rfl := Option.some.inj H
  go_enter Tryd.func36, Tryd.ntmps36
  go_wp2_with (first | ((with_reducible refine gate_callee (f := 94) rfl ?_); refine goesL_ (some 8) rfl rfl Tryd.func94 (by kernel_rfl) rfl #[.string a0, .int .i64 1, .int .i64 ji3, .string (⟨#[]⟩ : ByteArray)] rfl (by (try simp only [List.map_toArray, List.map_cons, List.map_nil]); first | done | (simp only [hji3]; rfl) | rfl | (simp only [List.length_drop, List.length_take]; rfl)) ?_; (with_reducible refine (verp_compose.calls k a0 1 ji3 (⟨#[]⟩ : ByteArray) t376 _ ?side1 A4.out).mono ?_); (case side1 => exact GOk.below hG (by decide) (by repeat (first | (with_reducible first | exact HB.out | apply below_alloc | apply pw_below_drewN | apply below_drew1) | exact HB.out))); rintro e w5 ⟨rfl, hb⟩; refine ⟨_, rfl, ?_⟩; have n0_ := Aside0.mk (below_step (by repeat (first | (with_reducible first | exact HB.out | apply below_alloc | apply pw_below_drewN | apply below_drew1) | exact HB.out)) hb); clear HB; have HB := n0_; clear n0_; (try clear hb); (try clear hb2); (try clear hk); (try clear hi)))
  go_ret
  exact ⟨by first | rfl | (simp [errW_none, errW_some] <;> rfl) | (simp only [← hji3]; first | rfl | (simp [errW_none, errW_some] <;> rfl)) | (simp [*, errW_none, errW_some] <;> rfl), by repeat (first | (with_reducible first | exact HB.out | apply below_alloc | apply pw_below_drewN | apply below_drew1) | exact HB.out)⟩

end Go.Proofs.YtadnefnofbnheaaDoor.Pr

-- Out of the translation, by this claim's own program over the kit's print.
namespace Go.Proofs.YtadnefnofbnheaaDoor.Pr
open Go.RowKit Go.Proofs.YtadnefnofbnheaaDoorW.PrintWords Go.Proofs.YtadnefnofbnheaaDoorW.PrintLast Go.Proofs.YtadnefnofbnheaaDoorW.PrintMore
attribute [local go_sem] max2_int min2_int max_two min_two max_three min_three max_four min_four   -- for this text's walks alone
set_option linter.unusedVariables false
set_option linter.unusedSimpArgs false

/-! ### missivelaw38_small: function 33 -/
def missivelaw38_small.f (k : Nat)  : Option (Bool) := (verp_Bounce.f k (⟨#[107]⟩ : ByteArray) 7).bind fun t377 => ((verp_Parse.f k (⟨#[107]⟩ : ByteArray) t377).bind fun bt378 => ((verp_Parse.f k (⟨#[107]⟩ : ByteArray) (⟨#[118, 111, 116, 101, 43, 97, 98, 99]⟩ : ByteArray)).bind fun bt382 => (if bt378.1 = 1 then (if bt378.2.1 = 7 then (if bt378.2.2.1.toList = ([] : List UInt8) then (if bt378.2.2.2 = true then (if bt382.1 = 0 then (if bt382.2.1 = 0 then (if bt382.2.2.1.toList = ([] : List UInt8) then (if bt382.2.2.2 = true then (some false) else (some true)) else (some false)) else (some false)) else (some false)) else (some false)) else (some false)) else (some false)) else (some false))))
theorem missivelaw38_small.mono : ∀ k, LeO (missivelaw38_small.f k ) (missivelaw38_small.f (k + 1) ) := by
  intro  k
  unfold missivelaw38_small.f
  repeat' first
      | (with_reducible exact verp_Bounce.mono _ _ _)
      | (with_reducible exact verp_Parse.mono _ _ _)
      | (with_reducible exact LeO.refl _)
      | (with_reducible exact LeO.none _)
      | (with_reducible refine LeO.ite ?_ ?_)
      | (with_reducible refine LeO.bind ?_ (fun _ => ?_))
      | exact verp_Bounce.mono _ _ _
      | exact verp_Parse.mono _ _ _
      | exact LeO.none _
      | refine LeO.ite ?_ ?_
      | refine LeO.bind ?_ (fun _ => ?_)
set_option maxHeartbeats 8000000 in
set_option maxRecDepth 100000 in
theorem missivelaw38_small.calls (k : Nat)  (r : Bool) (w : World) (hG : GOk 2 w) (h : missivelaw38_small.f k  = some r) :
    Calls Tryd.prog 33 #[] w fun e w' => e = .returned (.bool r) ∧ Below w.heap.size w w' := by
  have HB := Aside0.mk (Below.refl w.heap.size w)
  have H : ((verp_Bounce.f k (⟨#[107]⟩ : ByteArray) 7).bind fun t377 => ((verp_Parse.f k (⟨#[107]⟩ : ByteArray) t377).bind fun bt378 => ((verp_Parse.f k (⟨#[107]⟩ : ByteArray) (⟨#[118, 111, 116, 101, 43, 97, 98, 99]⟩ : ByteArray)).bind fun bt382 => (if bt378.1 = 1 then (if bt378.2.1 = 7 then (if bt378.2.2.1.toList = ([] : List UInt8) then (if bt378.2.2.2 = true then (if bt382.1 = 0 then (if bt382.2.1 = 0 then (if bt382.2.2.1.toList = ([] : List UInt8) then (if bt382.2.2.2 = true then (some false) else (some true)) else (some false)) else (some false)) else (some false)) else (some false)) else (some false)) else (some false)) else (some false))))) = some r := h
  clear h
  replace H := Option.bind_eq_some_iff.mp H
  obtain ⟨t377, A10, H⟩ := H
  replace H : ((verp_Parse.f k (⟨#[107]⟩ : ByteArray) t377).bind fun bt378 => ((verp_Parse.f k (⟨#[107]⟩ : ByteArray) (⟨#[118, 111, 116, 101, 43, 97, 98, 99]⟩ : ByteArray)).bind fun bt382 => (if bt378.1 = 1 then (if bt378.2.1 = 7 then (if bt378.2.2.1.toList = ([] : List UInt8) then (if bt378.2.2.2 = true then (if bt382.1 = 0 then (if bt382.2.1 = 0 then (if bt382.2.2.1.toList = ([] : List UInt8) then (if bt382.2.2.2 = true then (some false) else (some true)) else (some false)) else (some false)) else (some false)) else (some false)) else (some false)) else (some false)) else (some false)))) = some r := H
  have A1 := Aside0.mk A10
  clear A10
  replace H := Option.bind_eq_some_iff.mp H
  obtain ⟨⟨t378, t379, t380, t381⟩, A20, H⟩ := H
  replace H : ((verp_Parse.f k (⟨#[107]⟩ : ByteArray) (⟨#[118, 111, 116, 101, 43, 97, 98, 99]⟩ : ByteArray)).bind fun bt382 => (if t378 = 1 then (if t379 = 7 then (if t380.toList = ([] : List UInt8) then (if t381 = true then (if bt382.1 = 0 then (if bt382.2.1 = 0 then (if bt382.2.2.1.toList = ([] : List UInt8) then (if bt382.2.2.2 = true then (some false) else (some true)) else (some false)) else (some false)) else (some false)) else (some false)) else (some false)) else (some false)) else (some false))) = some r := H
  have A2 := Aside0.mk A20
  clear A20
  replace H := Option.bind_eq_some_iff.mp H
  obtain ⟨⟨t382, t383, t384, t385⟩, A30, H⟩ := H
  replace H : (if t378 = 1 then (if t379 = 7 then (if t380.toList = ([] : List UInt8) then (if t381 = true then (if t382 = 0 then (if t383 = 0 then (if t384.toList = ([] : List UInt8) then (if t385 = true then (some false) else (some true)) else (some false)) else (some false)) else (some false)) else (some false)) else (some false)) else (some false)) else (some false)) = some r := H
  have A3 := Aside0.mk A30
  clear A30
  by_cases c4 : t378 = 1
  · rw [if_pos c4] at H
    have c4b0 : (t378 == 1) = true := beq_iff_eq.mpr c4
    have c4b1 : (t378 != 1) = false := bne_eq_false_iff_eq.mpr c4
    clear c4
    by_cases c5 : t379 = 7
    · rw [if_pos c5] at H
      have c5b0 : (t379 == 7) = true := beq_iff_eq.mpr c5
      have c5b1 : (t379 != 7) = false := bne_eq_false_iff_eq.mpr c5
      clear c5
      by_cases c6 : t380.toList = ([] : List UInt8)
      · rw [if_pos c6] at H
        have c6b0 : (t380.toList == ([] : List UInt8)) = true := beq_iff_eq.mpr c6
        have c6b1 : (t380.toList != ([] : List UInt8)) = false := bne_eq_false_iff_eq.mpr c6
        clear c6
        by_cases c7 : t381 = true
        · subst c7
          have H1 : (if t382 = 0 then (if t383 = 0 then (if t384.toList = ([] : List UInt8) then (if t385 = true then (some false) else (some true)) else (some false)) else (some false)) else (some false)) = some r := by rw [if_pos rfl] at H; exact H
          clear H
          have H := H1
          clear H1
          by_cases c8 : t382 = 0
          · rw [if_pos c8] at H
            have c8b0 : (t382 == 0) = true := beq_iff_eq.mpr c8
            have c8b1 : (t382 != 0) = false := bne_eq_false_iff_eq.mpr c8
            clear c8
            by_cases c9 : t383 = 0
            · rw [if_pos c9] at H
              have c9b0 : (t383 == 0) = true := beq_iff_eq.mpr c9
              have c9b1 : (t383 != 0) = false := bne_eq_false_iff_eq.mpr c9
              clear c9
              by_cases c10 : t384.toList = ([] : List UInt8)
              · rw [if_pos c10] at H
                have c10b0 : (t384.toList == ([] : List UInt8)) = true := beq_iff_eq.mpr c10
                have c10b1 : (t384.toList != ([] : List UInt8)) = false := bne_eq_false_iff_eq.mpr c10
                clear c10
                by_cases c11 : t385 = true
                · subst c11
                  have H1 : (some false) = some r := by rw [if_pos rfl] at H; exact H
                  clear H
                  have H := H1
                  clear H1
                  obtain rfl := Option.some.inj H
                  go_enter Tryd.func33, Tryd.ntmps33
                  go_wp2_with (first | ((with_reducible refine gate_callee (f := 36) rfl ?_); refine goesL_ (some 10) rfl rfl Tryd.func36 (by kernel_rfl) rfl #[.string (⟨#[107]⟩ : ByteArray), .int .i64 7] rfl (by (try simp only [List.map_toArray, List.map_cons, List.map_nil]); first | done | rfl | (simp only [List.length_drop, List.length_take]; rfl)) ?_; (with_reducible refine (verp_Bounce.calls k (⟨#[107]⟩ : ByteArray) 7 t377 _ ?side1 A1.out).mono ?_); (case side1 => exact GOk.below hG (by decide) (by repeat (first | (with_reducible first | exact HB.out | apply below_alloc | apply pw_below_drewN | apply below_drew1) | exact HB.out))); rintro e w12 ⟨rfl, hb⟩; refine ⟨_, rfl, ?_⟩; have n0_ := Aside0.mk (below_step (by repeat (first | (with_reducible first | exact HB.out | apply below_alloc | apply pw_below_drewN | apply below_drew1) | exact HB.out)) hb); clear HB; have HB := n0_; clear n0_; (try clear hb); (try clear hb2); (try clear hk); (try clear hi)) | ((with_reducible refine gate_callee (f := 34) rfl ?_); refine goesL_ (some 11) rfl rfl Tryd.func34 (by kernel_rfl) rfl #[.string (⟨#[107]⟩ : ByteArray), .string t377] rfl (by (try simp only [List.map_toArray, List.map_cons, List.map_nil]); first | done | rfl | (simp only [List.length_drop, List.length_take]; rfl)) ?_; (with_reducible refine (verp_Parse.calls k (⟨#[107]⟩ : ByteArray) t377 t378 t379 t380 true _ ?side1 A2.out).mono ?_); (case side1 => exact GOk.below hG (by decide) (by repeat (first | (with_reducible first | exact HB.out | apply below_alloc | apply pw_below_drewN | apply below_drew1) | exact HB.out))); rintro e w13 ⟨rfl, hb⟩; refine ⟨_, rfl, ?_⟩; have n0_ := Aside0.mk (below_step (by repeat (first | (with_reducible first | exact HB.out | apply below_alloc | apply pw_below_drewN | apply below_drew1) | exact HB.out)) hb); clear HB; have HB := n0_; clear n0_; (try clear hb); (try clear hb2); (try clear hk); (try clear hi)) | ((with_reducible refine gate_callee (f := 34) rfl ?_); refine goesL_ (some 17) rfl rfl Tryd.func34 (by kernel_rfl) rfl #[.string (⟨#[107]⟩ : ByteArray), .string (⟨#[118, 111, 116, 101, 43, 97, 98, 99]⟩ : ByteArray)] rfl (by (try simp only [List.map_toArray, List.map_cons, List.map_nil]); first | done | rfl | (simp only [List.length_drop, List.length_take]; rfl)) ?_; (with_reducible refine (verp_Parse.calls k (⟨#[107]⟩ : ByteArray) (⟨#[118, 111, 116, 101, 43, 97, 98, 99]⟩ : ByteArray) t382 t383 t384 true _ ?side1 A3.out).mono ?_); (case side1 => exact GOk.below hG (by decide) (by repeat (first | (with_reducible first | exact HB.out | apply below_alloc | apply pw_below_drewN | apply below_drew1) | exact HB.out))); rintro e w14 ⟨rfl, hb⟩; refine ⟨_, rfl, ?_⟩; have n0_ := Aside0.mk (below_step (by repeat (first | (with_reducible first | exact HB.out | apply below_alloc | apply pw_below_drewN | apply below_drew1) | exact HB.out)) hb); clear HB; have HB := n0_; clear n0_; (try clear hb); (try clear hb2); (try clear hk); (try clear hi)))
                  go_ret
                  exact ⟨by first | rfl | (simp [errW_none, errW_some] <;> rfl) | (simp [*, errW_none, errW_some] <;> rfl), by repeat (first | (with_reducible first | exact HB.out | apply below_alloc | apply pw_below_drewN | apply below_drew1) | exact HB.out)⟩
                · replace c11 := Bool.eq_false_iff.mpr c11
                  subst c11
                  have H1 : (some true) = some r := by rw [if_neg (show ¬ (false = true) by decide)] at H; exact H
                  clear H
                  have H := H1
                  clear H1
                  obtain rfl := Option.some.inj H
                  go_enter Tryd.func33, Tryd.ntmps33
                  go_wp2_with (first | ((with_reducible refine gate_callee (f := 36) rfl ?_); refine goesL_ (some 10) rfl rfl Tryd.func36 (by kernel_rfl) rfl #[.string (⟨#[107]⟩ : ByteArray), .int .i64 7] rfl (by (try simp only [List.map_toArray, List.map_cons, List.map_nil]); first | done | rfl | (simp only [List.length_drop, List.length_take]; rfl)) ?_; (with_reducible refine (verp_Bounce.calls k (⟨#[107]⟩ : ByteArray) 7 t377 _ ?side1 A1.out).mono ?_); (case side1 => exact GOk.below hG (by decide) (by repeat (first | (with_reducible first | exact HB.out | apply below_alloc | apply pw_below_drewN | apply below_drew1) | exact HB.out))); rintro e w15 ⟨rfl, hb⟩; refine ⟨_, rfl, ?_⟩; have n0_ := Aside0.mk (below_step (by repeat (first | (with_reducible first | exact HB.out | apply below_alloc | apply pw_below_drewN | apply below_drew1) | exact HB.out)) hb); clear HB; have HB := n0_; clear n0_; (try clear hb); (try clear hb2); (try clear hk); (try clear hi)) | ((with_reducible refine gate_callee (f := 34) rfl ?_); refine goesL_ (some 11) rfl rfl Tryd.func34 (by kernel_rfl) rfl #[.string (⟨#[107]⟩ : ByteArray), .string t377] rfl (by (try simp only [List.map_toArray, List.map_cons, List.map_nil]); first | done | rfl | (simp only [List.length_drop, List.length_take]; rfl)) ?_; (with_reducible refine (verp_Parse.calls k (⟨#[107]⟩ : ByteArray) t377 t378 t379 t380 true _ ?side1 A2.out).mono ?_); (case side1 => exact GOk.below hG (by decide) (by repeat (first | (with_reducible first | exact HB.out | apply below_alloc | apply pw_below_drewN | apply below_drew1) | exact HB.out))); rintro e w16 ⟨rfl, hb⟩; refine ⟨_, rfl, ?_⟩; have n0_ := Aside0.mk (below_step (by repeat (first | (with_reducible first | exact HB.out | apply below_alloc | apply pw_below_drewN | apply below_drew1) | exact HB.out)) hb); clear HB; have HB := n0_; clear n0_; (try clear hb); (try clear hb2); (try clear hk); (try clear hi)) | ((with_reducible refine gate_callee (f := 34) rfl ?_); refine goesL_ (some 17) rfl rfl Tryd.func34 (by kernel_rfl) rfl #[.string (⟨#[107]⟩ : ByteArray), .string (⟨#[118, 111, 116, 101, 43, 97, 98, 99]⟩ : ByteArray)] rfl (by (try simp only [List.map_toArray, List.map_cons, List.map_nil]); first | done | rfl | (simp only [List.length_drop, List.length_take]; rfl)) ?_; (with_reducible refine (verp_Parse.calls k (⟨#[107]⟩ : ByteArray) (⟨#[118, 111, 116, 101, 43, 97, 98, 99]⟩ : ByteArray) t382 t383 t384 false _ ?side1 A3.out).mono ?_); (case side1 => exact GOk.below hG (by decide) (by repeat (first | (with_reducible first | exact HB.out | apply below_alloc | apply pw_below_drewN | apply below_drew1) | exact HB.out))); rintro e w17 ⟨rfl, hb⟩; refine ⟨_, rfl, ?_⟩; have n0_ := Aside0.mk (below_step (by repeat (first | (with_reducible first | exact HB.out | apply below_alloc | apply pw_below_drewN | apply below_drew1) | exact HB.out)) hb); clear HB; have HB := n0_; clear n0_; (try clear hb); (try clear hb2); (try clear hk); (try clear hi)))
                  go_ret
                  exact ⟨by first | rfl | (simp [errW_none, errW_some] <;> rfl) | (simp [*, errW_none, errW_some] <;> rfl), by repeat (first | (with_reducible first | exact HB.out | apply below_alloc | apply pw_below_drewN | apply below_drew1) | exact HB.out)⟩
              · rw [if_neg c10] at H
                have c10b0 : (t384.toList == ([] : List UInt8)) = false := beq_eq_false_iff_ne.mpr c10
                have c10b1 : (t384.toList != ([] : List UInt8)) = true := bne_iff_ne.mpr c10
                obtain rfl := Option.some.inj H
                go_enter Tryd.func33, Tryd.ntmps33
                go_wp2_with (first | ((with_reducible refine gate_callee (f := 36) rfl ?_); refine goesL_ (some 10) rfl rfl Tryd.func36 (by kernel_rfl) rfl #[.string (⟨#[107]⟩ : ByteArray), .int .i64 7] rfl (by (try simp only [List.map_toArray, List.map_cons, List.map_nil]); first | done | rfl | (simp only [List.length_drop, List.length_take]; rfl)) ?_; (with_reducible refine (verp_Bounce.calls k (⟨#[107]⟩ : ByteArray) 7 t377 _ ?side1 A1.out).mono ?_); (case side1 => exact GOk.below hG (by decide) (by repeat (first | (with_reducible first | exact HB.out | apply below_alloc | apply pw_below_drewN | apply below_drew1) | exact HB.out))); rintro e w18 ⟨rfl, hb⟩; refine ⟨_, rfl, ?_⟩; have n0_ := Aside0.mk (below_step (by repeat (first | (with_reducible first | exact HB.out | apply below_alloc | apply pw_below_drewN | apply below_drew1) | exact HB.out)) hb); clear HB; have HB := n0_; clear n0_; (try clear hb); (try clear hb2); (try clear hk); (try clear hi)) | ((with_reducible refine gate_callee (f := 34) rfl ?_); refine goesL_ (some 11) rfl rfl Tryd.func34 (by kernel_rfl) rfl #[.string (⟨#[107]⟩ : ByteArray), .string t377] rfl (by (try simp only [List.map_toArray, List.map_cons, List.map_nil]); first | done | rfl | (simp only [List.length_drop, List.length_take]; rfl)) ?_; (with_reducible refine (verp_Parse.calls k (⟨#[107]⟩ : ByteArray) t377 t378 t379 t380 true _ ?side1 A2.out).mono ?_); (case side1 => exact GOk.below hG (by decide) (by repeat (first | (with_reducible first | exact HB.out | apply below_alloc | apply pw_below_drewN | apply below_drew1) | exact HB.out))); rintro e w19 ⟨rfl, hb⟩; refine ⟨_, rfl, ?_⟩; have n0_ := Aside0.mk (below_step (by repeat (first | (with_reducible first | exact HB.out | apply below_alloc | apply pw_below_drewN | apply below_drew1) | exact HB.out)) hb); clear HB; have HB := n0_; clear n0_; (try clear hb); (try clear hb2); (try clear hk); (try clear hi)) | ((with_reducible refine gate_callee (f := 34) rfl ?_); refine goesL_ (some 17) rfl rfl Tryd.func34 (by kernel_rfl) rfl #[.string (⟨#[107]⟩ : ByteArray), .string (⟨#[118, 111, 116, 101, 43, 97, 98, 99]⟩ : ByteArray)] rfl (by (try simp only [List.map_toArray, List.map_cons, List.map_nil]); first | done | rfl | (simp only [List.length_drop, List.length_take]; rfl)) ?_; (with_reducible refine (verp_Parse.calls k (⟨#[107]⟩ : ByteArray) (⟨#[118, 111, 116, 101, 43, 97, 98, 99]⟩ : ByteArray) t382 t383 t384 t385 _ ?side1 A3.out).mono ?_); (case side1 => exact GOk.below hG (by decide) (by repeat (first | (with_reducible first | exact HB.out | apply below_alloc | apply pw_below_drewN | apply below_drew1) | exact HB.out))); rintro e w20 ⟨rfl, hb⟩; refine ⟨_, rfl, ?_⟩; have n0_ := Aside0.mk (below_step (by repeat (first | (with_reducible first | exact HB.out | apply below_alloc | apply pw_below_drewN | apply below_drew1) | exact HB.out)) hb); clear HB; have HB := n0_; clear n0_; (try clear hb); (try clear hb2); (try clear hk); (try clear hi)))
                go_ret
                exact ⟨by first | rfl | (simp [errW_none, errW_some] <;> rfl) | (simp [*, errW_none, errW_some] <;> rfl), by repeat (first | (with_reducible first | exact HB.out | apply below_alloc | apply pw_below_drewN | apply below_drew1) | exact HB.out)⟩
            · rw [if_neg c9] at H
              have c9b0 : (t383 == 0) = false := beq_eq_false_iff_ne.mpr c9
              have c9b1 : (t383 != 0) = true := bne_iff_ne.mpr c9
              obtain rfl := Option.some.inj H
              go_enter Tryd.func33, Tryd.ntmps33
              go_wp2_with (first | ((with_reducible refine gate_callee (f := 36) rfl ?_); refine goesL_ (some 10) rfl rfl Tryd.func36 (by kernel_rfl) rfl #[.string (⟨#[107]⟩ : ByteArray), .int .i64 7] rfl (by (try simp only [List.map_toArray, List.map_cons, List.map_nil]); first | done | rfl | (simp only [List.length_drop, List.length_take]; rfl)) ?_; (with_reducible refine (verp_Bounce.calls k (⟨#[107]⟩ : ByteArray) 7 t377 _ ?side1 A1.out).mono ?_); (case side1 => exact GOk.below hG (by decide) (by repeat (first | (with_reducible first | exact HB.out | apply below_alloc | apply pw_below_drewN | apply below_drew1) | exact HB.out))); rintro e w21 ⟨rfl, hb⟩; refine ⟨_, rfl, ?_⟩; have n0_ := Aside0.mk (below_step (by repeat (first | (with_reducible first | exact HB.out | apply below_alloc | apply pw_below_drewN | apply below_drew1) | exact HB.out)) hb); clear HB; have HB := n0_; clear n0_; (try clear hb); (try clear hb2); (try clear hk); (try clear hi)) | ((with_reducible refine gate_callee (f := 34) rfl ?_); refine goesL_ (some 11) rfl rfl Tryd.func34 (by kernel_rfl) rfl #[.string (⟨#[107]⟩ : ByteArray), .string t377] rfl (by (try simp only [List.map_toArray, List.map_cons, List.map_nil]); first | done | rfl | (simp only [List.length_drop, List.length_take]; rfl)) ?_; (with_reducible refine (verp_Parse.calls k (⟨#[107]⟩ : ByteArray) t377 t378 t379 t380 true _ ?side1 A2.out).mono ?_); (case side1 => exact GOk.below hG (by decide) (by repeat (first | (with_reducible first | exact HB.out | apply below_alloc | apply pw_below_drewN | apply below_drew1) | exact HB.out))); rintro e w22 ⟨rfl, hb⟩; refine ⟨_, rfl, ?_⟩; have n0_ := Aside0.mk (below_step (by repeat (first | (with_reducible first | exact HB.out | apply below_alloc | apply pw_below_drewN | apply below_drew1) | exact HB.out)) hb); clear HB; have HB := n0_; clear n0_; (try clear hb); (try clear hb2); (try clear hk); (try clear hi)) | ((with_reducible refine gate_callee (f := 34) rfl ?_); refine goesL_ (some 17) rfl rfl Tryd.func34 (by kernel_rfl) rfl #[.string (⟨#[107]⟩ : ByteArray), .string (⟨#[118, 111, 116, 101, 43, 97, 98, 99]⟩ : ByteArray)] rfl (by (try simp only [List.map_toArray, List.map_cons, List.map_nil]); first | done | rfl | (simp only [List.length_drop, List.length_take]; rfl)) ?_; (with_reducible refine (verp_Parse.calls k (⟨#[107]⟩ : ByteArray) (⟨#[118, 111, 116, 101, 43, 97, 98, 99]⟩ : ByteArray) t382 t383 t384 t385 _ ?side1 A3.out).mono ?_); (case side1 => exact GOk.below hG (by decide) (by repeat (first | (with_reducible first | exact HB.out | apply below_alloc | apply pw_below_drewN | apply below_drew1) | exact HB.out))); rintro e w23 ⟨rfl, hb⟩; refine ⟨_, rfl, ?_⟩; have n0_ := Aside0.mk (below_step (by repeat (first | (with_reducible first | exact HB.out | apply below_alloc | apply pw_below_drewN | apply below_drew1) | exact HB.out)) hb); clear HB; have HB := n0_; clear n0_; (try clear hb); (try clear hb2); (try clear hk); (try clear hi)))
              go_ret
              exact ⟨by first | rfl | (simp [errW_none, errW_some] <;> rfl) | (simp [*, errW_none, errW_some] <;> rfl), by repeat (first | (with_reducible first | exact HB.out | apply below_alloc | apply pw_below_drewN | apply below_drew1) | exact HB.out)⟩
          · rw [if_neg c8] at H
            have c8b0 : (t382 == 0) = false := beq_eq_false_iff_ne.mpr c8
            have c8b1 : (t382 != 0) = true := bne_iff_ne.mpr c8
            obtain rfl := Option.some.inj H
            go_enter Tryd.func33, Tryd.ntmps33
            go_wp2_with (first | ((with_reducible refine gate_callee (f := 36) rfl ?_); refine goesL_ (some 10) rfl rfl Tryd.func36 (by kernel_rfl) rfl #[.string (⟨#[107]⟩ : ByteArray), .int .i64 7] rfl (by (try simp only [List.map_toArray, List.map_cons, List.map_nil]); first | done | rfl | (simp only [List.length_drop, List.length_take]; rfl)) ?_; (with_reducible refine (verp_Bounce.calls k (⟨#[107]⟩ : ByteArray) 7 t377 _ ?side1 A1.out).mono ?_); (case side1 => exact GOk.below hG (by decide) (by repeat (first | (with_reducible first | exact HB.out | apply below_alloc | apply pw_below_drewN | apply below_drew1) | exact HB.out))); rintro e w24 ⟨rfl, hb⟩; refine ⟨_, rfl, ?_⟩; have n0_ := Aside0.mk (below_step (by repeat (first | (with_reducible first | exact HB.out | apply below_alloc | apply pw_below_drewN | apply below_drew1) | exact HB.out)) hb); clear HB; have HB := n0_; clear n0_; (try clear hb); (try clear hb2); (try clear hk); (try clear hi)) | ((with_reducible refine gate_callee (f := 34) rfl ?_); refine goesL_ (some 11) rfl rfl Tryd.func34 (by kernel_rfl) rfl #[.string (⟨#[107]⟩ : ByteArray), .string t377] rfl (by (try simp only [List.map_toArray, List.map_cons, List.map_nil]); first | done | rfl | (simp only [List.length_drop, List.length_take]; rfl)) ?_; (with_reducible refine (verp_Parse.calls k (⟨#[107]⟩ : ByteArray) t377 t378 t379 t380 true _ ?side1 A2.out).mono ?_); (case side1 => exact GOk.below hG (by decide) (by repeat (first | (with_reducible first | exact HB.out | apply below_alloc | apply pw_below_drewN | apply below_drew1) | exact HB.out))); rintro e w25 ⟨rfl, hb⟩; refine ⟨_, rfl, ?_⟩; have n0_ := Aside0.mk (below_step (by repeat (first | (with_reducible first | exact HB.out | apply below_alloc | apply pw_below_drewN | apply below_drew1) | exact HB.out)) hb); clear HB; have HB := n0_; clear n0_; (try clear hb); (try clear hb2); (try clear hk); (try clear hi)) | ((with_reducible refine gate_callee (f := 34) rfl ?_); refine goesL_ (some 17) rfl rfl Tryd.func34 (by kernel_rfl) rfl #[.string (⟨#[107]⟩ : ByteArray), .string (⟨#[118, 111, 116, 101, 43, 97, 98, 99]⟩ : ByteArray)] rfl (by (try simp only [List.map_toArray, List.map_cons, List.map_nil]); first | done | rfl | (simp only [List.length_drop, List.length_take]; rfl)) ?_; (with_reducible refine (verp_Parse.calls k (⟨#[107]⟩ : ByteArray) (⟨#[118, 111, 116, 101, 43, 97, 98, 99]⟩ : ByteArray) t382 t383 t384 t385 _ ?side1 A3.out).mono ?_); (case side1 => exact GOk.below hG (by decide) (by repeat (first | (with_reducible first | exact HB.out | apply below_alloc | apply pw_below_drewN | apply below_drew1) | exact HB.out))); rintro e w26 ⟨rfl, hb⟩; refine ⟨_, rfl, ?_⟩; have n0_ := Aside0.mk (below_step (by repeat (first | (with_reducible first | exact HB.out | apply below_alloc | apply pw_below_drewN | apply below_drew1) | exact HB.out)) hb); clear HB; have HB := n0_; clear n0_; (try clear hb); (try clear hb2); (try clear hk); (try clear hi)))
            go_ret
            exact ⟨by first | rfl | (simp [errW_none, errW_some] <;> rfl) | (simp [*, errW_none, errW_some] <;> rfl), by repeat (first | (with_reducible first | exact HB.out | apply below_alloc | apply pw_below_drewN | apply below_drew1) | exact HB.out)⟩
        · replace c7 := Bool.eq_false_iff.mpr c7
          subst c7
          have H1 : (some false) = some r := by rw [if_neg (show ¬ (false = true) by decide)] at H; exact H
          clear H
          have H := H1
          clear H1
          obtain rfl := Option.some.inj H
          go_enter Tryd.func33, Tryd.ntmps33
          go_wp2_with (first | ((with_reducible refine gate_callee (f := 36) rfl ?_); refine goesL_ (some 10) rfl rfl Tryd.func36 (by kernel_rfl) rfl #[.string (⟨#[107]⟩ : ByteArray), .int .i64 7] rfl (by (try simp only [List.map_toArray, List.map_cons, List.map_nil]); first | done | rfl | (simp only [List.length_drop, List.length_take]; rfl)) ?_; (with_reducible refine (verp_Bounce.calls k (⟨#[107]⟩ : ByteArray) 7 t377 _ ?side1 A1.out).mono ?_); (case side1 => exact GOk.below hG (by decide) (by repeat (first | (with_reducible first | exact HB.out | apply below_alloc | apply pw_below_drewN | apply below_drew1) | exact HB.out))); rintro e w27 ⟨rfl, hb⟩; refine ⟨_, rfl, ?_⟩; have n0_ := Aside0.mk (below_step (by repeat (first | (with_reducible first | exact HB.out | apply below_alloc | apply pw_below_drewN | apply below_drew1) | exact HB.out)) hb); clear HB; have HB := n0_; clear n0_; (try clear hb); (try clear hb2); (try clear hk); (try clear hi)) | ((with_reducible refine gate_callee (f := 34) rfl ?_); refine goesL_ (some 11) rfl rfl Tryd.func34 (by kernel_rfl) rfl #[.string (⟨#[107]⟩ : ByteArray), .string t377] rfl (by (try simp only [List.map_toArray, List.map_cons, List.map_nil]); first | done | rfl | (simp only [List.length_drop, List.length_take]; rfl)) ?_; (with_reducible refine (verp_Parse.calls k (⟨#[107]⟩ : ByteArray) t377 t378 t379 t380 false _ ?side1 A2.out).mono ?_); (case side1 => exact GOk.below hG (by decide) (by repeat (first | (with_reducible first | exact HB.out | apply below_alloc | apply pw_below_drewN | apply below_drew1) | exact HB.out))); rintro e w28 ⟨rfl, hb⟩; refine ⟨_, rfl, ?_⟩; have n0_ := Aside0.mk (below_step (by repeat (first | (with_reducible first | exact HB.out | apply below_alloc | apply pw_below_drewN | apply below_drew1) | exact HB.out)) hb); clear HB; have HB := n0_; clear n0_; (try clear hb); (try clear hb2); (try clear hk); (try clear hi)) | ((with_reducible refine gate_callee (f := 34) rfl ?_); refine goesL_ (some 17) rfl rfl Tryd.func34 (by kernel_rfl) rfl #[.string (⟨#[107]⟩ : ByteArray), .string (⟨#[118, 111, 116, 101, 43, 97, 98, 99]⟩ : ByteArray)] rfl (by (try simp only [List.map_toArray, List.map_cons, List.map_nil]); first | done | rfl | (simp only [List.length_drop, List.length_take]; rfl)) ?_; (with_reducible refine (verp_Parse.calls k (⟨#[107]⟩ : ByteArray) (⟨#[118, 111, 116, 101, 43, 97, 98, 99]⟩ : ByteArray) t382 t383 t384 t385 _ ?side1 A3.out).mono ?_); (case side1 => exact GOk.below hG (by decide) (by repeat (first | (with_reducible first | exact HB.out | apply below_alloc | apply pw_below_drewN | apply below_drew1) | exact HB.out))); rintro e w29 ⟨rfl, hb⟩; refine ⟨_, rfl, ?_⟩; have n0_ := Aside0.mk (below_step (by repeat (first | (with_reducible first | exact HB.out | apply below_alloc | apply pw_below_drewN | apply below_drew1) | exact HB.out)) hb); clear HB; have HB := n0_; clear n0_; (try clear hb); (try clear hb2); (try clear hk); (try clear hi)))
          go_ret
          exact ⟨by first | rfl | (simp [errW_none, errW_some] <;> rfl) | (simp [*, errW_none, errW_some] <;> rfl), by repeat (first | (with_reducible first | exact HB.out | apply below_alloc | apply pw_below_drewN | apply below_drew1) | exact HB.out)⟩
      · rw [if_neg c6] at H
        have c6b0 : (t380.toList == ([] : List UInt8)) = false := beq_eq_false_iff_ne.mpr c6
        have c6b1 : (t380.toList != ([] : List UInt8)) = true := bne_iff_ne.mpr c6
        obtain rfl := Option.some.inj H
        go_enter Tryd.func33, Tryd.ntmps33
        go_wp2_with (first | ((with_reducible refine gate_callee (f := 36) rfl ?_); refine goesL_ (some 10) rfl rfl Tryd.func36 (by kernel_rfl) rfl #[.string (⟨#[107]⟩ : ByteArray), .int .i64 7] rfl (by (try simp only [List.map_toArray, List.map_cons, List.map_nil]); first | done | rfl | (simp only [List.length_drop, List.length_take]; rfl)) ?_; (with_reducible refine (verp_Bounce.calls k (⟨#[107]⟩ : ByteArray) 7 t377 _ ?side1 A1.out).mono ?_); (case side1 => exact GOk.below hG (by decide) (by repeat (first | (with_reducible first | exact HB.out | apply below_alloc | apply pw_below_drewN | apply below_drew1) | exact HB.out))); rintro e w30 ⟨rfl, hb⟩; refine ⟨_, rfl, ?_⟩; have n0_ := Aside0.mk (below_step (by repeat (first | (with_reducible first | exact HB.out | apply below_alloc | apply pw_below_drewN | apply below_drew1) | exact HB.out)) hb); clear HB; have HB := n0_; clear n0_; (try clear hb); (try clear hb2); (try clear hk); (try clear hi)) | ((with_reducible refine gate_callee (f := 34) rfl ?_); refine goesL_ (some 11) rfl rfl Tryd.func34 (by kernel_rfl) rfl #[.string (⟨#[107]⟩ : ByteArray), .string t377] rfl (by (try simp only [List.map_toArray, List.map_cons, List.map_nil]); first | done | rfl | (simp only [List.length_drop, List.length_take]; rfl)) ?_; (with_reducible refine (verp_Parse.calls k (⟨#[107]⟩ : ByteArray) t377 t378 t379 t380 t381 _ ?side1 A2.out).mono ?_); (case side1 => exact GOk.below hG (by decide) (by repeat (first | (with_reducible first | exact HB.out | apply below_alloc | apply pw_below_drewN | apply below_drew1) | exact HB.out))); rintro e w31 ⟨rfl, hb⟩; refine ⟨_, rfl, ?_⟩; have n0_ := Aside0.mk (below_step (by repeat (first | (with_reducible first | exact HB.out | apply below_alloc | apply pw_below_drewN | apply below_drew1) | exact HB.out)) hb); clear HB; have HB := n0_; clear n0_; (try clear hb); (try clear hb2); (try clear hk); (try clear hi)) | ((with_reducible refine gate_callee (f := 34) rfl ?_); refine goesL_ (some 17) rfl rfl Tryd.func34 (by kernel_rfl) rfl #[.string (⟨#[107]⟩ : ByteArray), .string (⟨#[118, 111, 116, 101, 43, 97, 98, 99]⟩ : ByteArray)] rfl (by (try simp only [List.map_toArray, List.map_cons, List.map_nil]); first | done | rfl | (simp only [List.length_drop, List.length_take]; rfl)) ?_; (with_reducible refine (verp_Parse.calls k (⟨#[107]⟩ : ByteArray) (⟨#[118, 111, 116, 101, 43, 97, 98, 99]⟩ : ByteArray) t382 t383 t384 t385 _ ?side1 A3.out).mono ?_); (case side1 => exact GOk.below hG (by decide) (by repeat (first | (with_reducible first | exact HB.out | apply below_alloc | apply pw_below_drewN | apply below_drew1) | exact HB.out))); rintro e w32 ⟨rfl, hb⟩; refine ⟨_, rfl, ?_⟩; have n0_ := Aside0.mk (below_step (by repeat (first | (with_reducible first | exact HB.out | apply below_alloc | apply pw_below_drewN | apply below_drew1) | exact HB.out)) hb); clear HB; have HB := n0_; clear n0_; (try clear hb); (try clear hb2); (try clear hk); (try clear hi)))
        go_ret
        exact ⟨by first | rfl | (simp [errW_none, errW_some] <;> rfl) | (simp [*, errW_none, errW_some] <;> rfl), by repeat (first | (with_reducible first | exact HB.out | apply below_alloc | apply pw_below_drewN | apply below_drew1) | exact HB.out)⟩
    · rw [if_neg c5] at H
      have c5b0 : (t379 == 7) = false := beq_eq_false_iff_ne.mpr c5
      have c5b1 : (t379 != 7) = true := bne_iff_ne.mpr c5
      obtain rfl := Option.some.inj H
      go_enter Tryd.func33, Tryd.ntmps33
      go_wp2_with (first | ((with_reducible refine gate_callee (f := 36) rfl ?_); refine goesL_ (some 10) rfl rfl Tryd.func36 (by kernel_rfl) rfl #[.string (⟨#[107]⟩ : ByteArray), .int .i64 7] rfl (by (try simp only [List.map_toArray, List.map_cons, List.map_nil]); first | done | rfl | (simp only [List.length_drop, List.length_take]; rfl)) ?_; (with_reducible refine (verp_Bounce.calls k (⟨#[107]⟩ : ByteArray) 7 t377 _ ?side1 A1.out).mono ?_); (case side1 => exact GOk.below hG (by decide) (by repeat (first | (with_reducible first | exact HB.out | apply below_alloc | apply pw_below_drewN | apply below_drew1) | exact HB.out))); rintro e w33 ⟨rfl, hb⟩; refine ⟨_, rfl, ?_⟩; have n0_ := Aside0.mk (below_step (by repeat (first | (with_reducible first | exact HB.out | apply below_alloc | apply pw_below_drewN | apply below_drew1) | exact HB.out)) hb); clear HB; have HB := n0_; clear n0_; (try clear hb); (try clear hb2); (try clear hk); (try clear hi)) | ((with_reducible refine gate_callee (f := 34) rfl ?_); refine goesL_ (some 11) rfl rfl Tryd.func34 (by kernel_rfl) rfl #[.string (⟨#[107]⟩ : ByteArray), .string t377] rfl (by (try simp only [List.map_toArray, List.map_cons, List.map_nil]); first | done | rfl | (simp only [List.length_drop, List.length_take]; rfl)) ?_; (with_reducible refine (verp_Parse.calls k (⟨#[107]⟩ : ByteArray) t377 t378 t379 t380 t381 _ ?side1 A2.out).mono ?_); (case side1 => exact GOk.below hG (by decide) (by repeat (first | (with_reducible first | exact HB.out | apply below_alloc | apply pw_below_drewN | apply below_drew1) | exact HB.out))); rintro e w34 ⟨rfl, hb⟩; refine ⟨_, rfl, ?_⟩; have n0_ := Aside0.mk (below_step (by repeat (first | (with_reducible first | exact HB.out | apply below_alloc | apply pw_below_drewN | apply below_drew1) | exact HB.out)) hb); clear HB; have HB := n0_; clear n0_; (try clear hb); (try clear hb2); (try clear hk); (try clear hi)) | ((with_reducible refine gate_callee (f := 34) rfl ?_); refine goesL_ (some 17) rfl rfl Tryd.func34 (by kernel_rfl) rfl #[.string (⟨#[107]⟩ : ByteArray), .string (⟨#[118, 111, 116, 101, 43, 97, 98, 99]⟩ : ByteArray)] rfl (by (try simp only [List.map_toArray, List.map_cons, List.map_nil]); first | done | rfl | (simp only [List.length_drop, List.length_take]; rfl)) ?_; (with_reducible refine (verp_Parse.calls k (⟨#[107]⟩ : ByteArray) (⟨#[118, 111, 116, 101, 43, 97, 98, 99]⟩ : ByteArray) t382 t383 t384 t385 _ ?side1 A3.out).mono ?_); (case side1 => exact GOk.below hG (by decide) (by repeat (first | (with_reducible first | exact HB.out | apply below_alloc | apply pw_below_drewN | apply below_drew1) | exact HB.out))); rintro e w35 ⟨rfl, hb⟩; refine ⟨_, rfl, ?_⟩; have n0_ := Aside0.mk (below_step (by repeat (first | (with_reducible first | exact HB.out | apply below_alloc | apply pw_below_drewN | apply below_drew1) | exact HB.out)) hb); clear HB; have HB := n0_; clear n0_; (try clear hb); (try clear hb2); (try clear hk); (try clear hi)))
      go_ret
      exact ⟨by first | rfl | (simp [errW_none, errW_some] <;> rfl) | (simp [*, errW_none, errW_some] <;> rfl), by repeat (first | (with_reducible first | exact HB.out | apply below_alloc | apply pw_below_drewN | apply below_drew1) | exact HB.out)⟩
  · rw [if_neg c4] at H
    have c4b0 : (t378 == 1) = false := beq_eq_false_iff_ne.mpr c4
    have c4b1 : (t378 != 1) = true := bne_iff_ne.mpr c4
    obtain rfl := Option.some.inj H
    go_enter Tryd.func33, Tryd.ntmps33
    go_wp2_with (first | ((with_reducible refine gate_callee (f := 36) rfl ?_); refine goesL_ (some 10) rfl rfl Tryd.func36 (by kernel_rfl) rfl #[.string (⟨#[107]⟩ : ByteArray), .int .i64 7] rfl (by (try simp only [List.map_toArray, List.map_cons, List.map_nil]); first | done | rfl | (simp only [List.length_drop, List.length_take]; rfl)) ?_; (with_reducible refine (verp_Bounce.calls k (⟨#[107]⟩ : ByteArray) 7 t377 _ ?side1 A1.out).mono ?_); (case side1 => exact GOk.below hG (by decide) (by repeat (first | (with_reducible first | exact HB.out | apply below_alloc | apply pw_below_drewN | apply below_drew1) | exact HB.out))); rintro e w36 ⟨rfl, hb⟩; refine ⟨_, rfl, ?_⟩; have n0_ := Aside0.mk (below_step (by repeat (first | (with_reducible first | exact HB.out | apply below_alloc | apply pw_below_drewN | apply below_drew1) | exact HB.out)) hb); clear HB; have HB := n0_; clear n0_; (try clear hb); (try clear hb2); (try clear hk); (try clear hi)) | ((with_reducible refine gate_callee (f := 34) rfl ?_); refine goesL_ (some 11) rfl rfl Tryd.func34 (by kernel_rfl) rfl #[.string (⟨#[107]⟩ : ByteArray), .string t377] rfl (by (try simp only [List.map_toArray, List.map_cons, List.map_nil]); first | done | rfl | (simp only [List.length_drop, List.length_take]; rfl)) ?_; (with_reducible refine (verp_Parse.calls k (⟨#[107]⟩ : ByteArray) t377 t378 t379 t380 t381 _ ?side1 A2.out).mono ?_); (case side1 => exact GOk.below hG (by decide) (by repeat (first | (with_reducible first | exact HB.out | apply below_alloc | apply pw_below_drewN | apply below_drew1) | exact HB.out))); rintro e w37 ⟨rfl, hb⟩; refine ⟨_, rfl, ?_⟩; have n0_ := Aside0.mk (below_step (by repeat (first | (with_reducible first | exact HB.out | apply below_alloc | apply pw_below_drewN | apply below_drew1) | exact HB.out)) hb); clear HB; have HB := n0_; clear n0_; (try clear hb); (try clear hb2); (try clear hk); (try clear hi)) | ((with_reducible refine gate_callee (f := 34) rfl ?_); refine goesL_ (some 17) rfl rfl Tryd.func34 (by kernel_rfl) rfl #[.string (⟨#[107]⟩ : ByteArray), .string (⟨#[118, 111, 116, 101, 43, 97, 98, 99]⟩ : ByteArray)] rfl (by (try simp only [List.map_toArray, List.map_cons, List.map_nil]); first | done | rfl | (simp only [List.length_drop, List.length_take]; rfl)) ?_; (with_reducible refine (verp_Parse.calls k (⟨#[107]⟩ : ByteArray) (⟨#[118, 111, 116, 101, 43, 97, 98, 99]⟩ : ByteArray) t382 t383 t384 t385 _ ?side1 A3.out).mono ?_); (case side1 => exact GOk.below hG (by decide) (by repeat (first | (with_reducible first | exact HB.out | apply below_alloc | apply pw_below_drewN | apply below_drew1) | exact HB.out))); rintro e w38 ⟨rfl, hb⟩; refine ⟨_, rfl, ?_⟩; have n0_ := Aside0.mk (below_step (by repeat (first | (with_reducible first | exact HB.out | apply below_alloc | apply pw_below_drewN | apply below_drew1) | exact HB.out)) hb); clear HB; have HB := n0_; clear n0_; (try clear hb); (try clear hb2); (try clear hk); (try clear hi)))
    go_ret
    exact ⟨by first | rfl | (simp [errW_none, errW_some] <;> rfl) | (simp [*, errW_none, errW_some] <;> rfl), by repeat (first | (with_reducible first | exact HB.out | apply below_alloc | apply pw_below_drewN | apply below_drew1) | exact HB.out)⟩

end Go.Proofs.YtadnefnofbnheaaDoor.Pr

-- Out of the translation, by this claim's own program over the kit's print.
namespace Go.Proofs.YtadnefnofbnheaaDoor.Pr
open Go.RowKit Go.Proofs.YtadnefnofbnheaaDoorW.PrintWords Go.Proofs.YtadnefnofbnheaaDoorW.PrintLast Go.Proofs.YtadnefnofbnheaaDoorW.PrintMore
attribute [local go_sem] max2_int min2_int max_two min_two max_three min_three max_four min_four   -- for this text's walks alone
set_option linter.unusedVariables false
set_option linter.unusedSimpArgs false

/-! ### verp_Confirm: function 40 -/
def verp_Confirm.f (k : Nat) (a0 : ByteArray) (a1 : ByteArray) : Option (ByteArray) := (verp_compose.f k a0 3 0 a1).bind fun t492 => (some t492)
theorem verp_Confirm.mono : ∀ a0 a1 k, LeO (verp_Confirm.f k a0 a1) (verp_Confirm.f (k + 1) a0 a1) := by
  intro a0 a1 k
  unfold verp_Confirm.f
  repeat' first
      | (with_reducible exact verp_compose.mono _ _ _ _ _)
      | (with_reducible exact LeO.refl _)
      | (with_reducible exact LeO.none _)
      | (with_reducible refine LeO.ite ?_ ?_)
      | (with_reducible refine LeO.bind ?_ (fun _ => ?_))
      | exact verp_compose.mono _ _ _ _ _
      | exact LeO.none _
      | refine LeO.ite ?_ ?_
      | refine LeO.bind ?_ (fun _ => ?_)
set_option maxHeartbeats 8000000 in
set_option maxRecDepth 100000 in
theorem verp_Confirm.calls (k : Nat) (a0 : ByteArray) (a1 : ByteArray) (r : ByteArray) (w : World) (hG : GOk 2 w) (h : verp_Confirm.f k a0 a1 = some r) :
    Calls Tryd.prog 40 #[.string a0, .string a1] w fun e w' => e = .returned (.string r) ∧ Below w.heap.size w w' := by
  have HB := Aside0.mk (Below.refl w.heap.size w)
  have H : ((verp_compose.f k a0 3 0 a1).bind fun t492 => (some t492)) = some r := h
  clear h
  replace H := Option.bind_eq_some_iff.mp H
  obtain ⟨t492, A30, H⟩ := H
  replace H : (some t492) = some r := H
  have A3 := Aside0.mk A30
  clear A30
  obtain rfl := Option.some.inj H
  go_enter Tryd.func40, Tryd.ntmps40
  go_wp2_with (first | ((with_reducible refine gate_callee (f := 94) rfl ?_); refine goesL_ (some 7) rfl rfl Tryd.func94 (by kernel_rfl) rfl #[.string a0, .int .i64 3, .int .i64 0, .string a1] rfl (by (try simp only [List.map_toArray, List.map_cons, List.map_nil]); first | done | rfl | (simp only [List.length_drop, List.length_take]; rfl)) ?_; (with_reducible refine (verp_compose.calls k a0 3 0 a1 t492 _ ?side1 A3.out).mono ?_); (case side1 => exact GOk.below hG (by decide) (by repeat (first | (with_reducible first | exact HB.out | apply below_alloc | apply pw_below_drewN | apply below_drew1) | exact HB.out))); rintro e w4 ⟨rfl, hb⟩; refine ⟨_, rfl, ?_⟩; have n0_ := Aside0.mk (below_step (by repeat (first | (with_reducible first | exact HB.out | apply below_alloc | apply pw_below_drewN | apply below_drew1) | exact HB.out)) hb); clear HB; have HB := n0_; clear n0_; (try clear hb); (try clear hb2); (try clear hk); (try clear hi)))
  go_ret
  exact ⟨by first | rfl | (simp [errW_none, errW_some] <;> rfl) | (simp [*, errW_none, errW_some] <;> rfl), by repeat (first | (with_reducible first | exact HB.out | apply below_alloc | apply pw_below_drewN | apply below_drew1) | exact HB.out)⟩

end Go.Proofs.YtadnefnofbnheaaDoor.Pr

-- Out of the translation, by this claim's own program over the kit's print.
namespace Go.Proofs.YtadnefnofbnheaaDoor.Pr
open Go.RowKit Go.Proofs.YtadnefnofbnheaaDoorW.PrintWords Go.Proofs.YtadnefnofbnheaaDoorW.PrintLast Go.Proofs.YtadnefnofbnheaaDoorW.PrintMore
attribute [local go_sem] max2_int min2_int max_two min_two max_three min_three max_four min_four   -- for this text's walks alone
set_option linter.unusedVariables false
set_option linter.unusedSimpArgs false

/-! ### verp_Vote: function 38 -/
def verp_Vote.f (k : Nat) (a0 : ByteArray) (a1 : Int) (a2 : ByteArray) : Option (ByteArray) := (verp_compose.f k a0 2 (mx a1 0) a2).bind fun t491 => (some t491)
theorem verp_Vote.mono : ∀ a0 a1 a2 k, LeO (verp_Vote.f k a0 a1 a2) (verp_Vote.f (k + 1) a0 a1 a2) := by
  intro a0 a1 a2 k
  unfold verp_Vote.f
  repeat' first
      | (with_reducible exact verp_compose.mono _ _ _ _ _)
      | (with_reducible exact LeO.refl _)
      | (with_reducible exact LeO.none _)
      | (with_reducible refine LeO.ite ?_ ?_)
      | (with_reducible refine LeO.bind ?_ (fun _ => ?_))
      | exact verp_compose.mono _ _ _ _ _
      | exact LeO.none _
      | refine LeO.ite ?_ ?_
      | refine LeO.bind ?_ (fun _ => ?_)
set_option maxHeartbeats 8000000 in
set_option maxRecDepth 100000 in
theorem verp_Vote.calls (k : Nat) (a0 : ByteArray) (a1 : Int) (a2 : ByteArray) (r : ByteArray) (w : World) (hG : GOk 2 w) (h : verp_Vote.f k a0 a1 a2 = some r) :
    Calls Tryd.prog 38 #[.string a0, .int .i64 a1, .string a2] w fun e w' => e = .returned (.string r) ∧ Below w.heap.size w w' := by
  have HB := Aside0.mk (Below.refl w.heap.size w)
  have H : ((verp_compose.f k a0 2 (mx a1 0) a2).bind fun t491 => (some t491)) = some r := h
  clear h
  obtain ⟨ji4, hji4⟩ : ∃ j_ : Int, (mx a1 0) = j_ := ⟨_, rfl⟩
  replace H : ((verp_compose.f k a0 2 (ji4) a2).bind fun t491 => (some t491)) = some r := by first | (rw [hji4] at H; exact H) | (simp only [hji4] at H ⊢; exact H)
  (try (have hji4l : 0 ≤ ji4 := by (rw [← hji4]; unfold mx; (repeat' split) <;> omega)))
  (try (have hji4m : 0 ≤ ji4 := by omega))
  have hji4_ : (if a1 < 0 then 0 else a1) = ji4 := hji4
  replace H := Option.bind_eq_some_iff.mp H
  obtain ⟨t491, A50, H⟩ := H
  replace H : (some t491) = some r := H
  have A5 := Aside0.mk A50
  clear A50
  obtain rfl := Option.some.inj H
  go_enter Tryd.func38, Tryd.ntmps38
  go_wp2_with (first | ((with_reducible refine gate_callee (f := 94) rfl ?_); refine goesL_ (some 11) rfl rfl Tryd.func94 (by kernel_rfl) rfl #[.string a0, .int .i64 2, .int .i64 ji4, .string a2] rfl (by (try simp only [List.map_toArray, List.map_cons, List.map_nil]); first | done | (simp only [hji4]; rfl) | rfl | (simp only [List.length_drop, List.length_take]; rfl)) ?_; (with_reducible refine (verp_compose.calls k a0 2 ji4 a2 t491 _ ?side1 A5.out).mono ?_); (case side1 => exact GOk.below hG (by decide) (by repeat (first | (with_reducible first | exact HB.out | apply below_alloc | apply pw_below_drewN | apply below_drew1) | exact HB.out))); rintro e w6 ⟨rfl, hb⟩; refine ⟨_, rfl, ?_⟩; have n0_ := Aside0.mk (below_step (by repeat (first | (with_reducible first | exact HB.out | apply below_alloc | apply pw_below_drewN | apply below_drew1) | exact HB.out)) hb); clear HB; have HB := n0_; clear n0_; (try clear hb); (try clear hb2); (try clear hk); (try clear hi)))
  go_ret
  exact ⟨by first | rfl | (simp [errW_none, errW_some] <;> rfl) | (simp only [← hji4]; first | rfl | (simp [errW_none, errW_some] <;> rfl)) | (simp [*, errW_none, errW_some] <;> rfl), by repeat (first | (with_reducible first | exact HB.out | apply below_alloc | apply pw_below_drewN | apply below_drew1) | exact HB.out)⟩

end Go.Proofs.YtadnefnofbnheaaDoor.Pr

-- Out of the translation, by this claim's own program over the kit's print.
namespace Go.Proofs.YtadnefnofbnheaaDoor.Pr
open Go.RowKit Go.Proofs.YtadnefnofbnheaaDoorW.PrintWords Go.Proofs.YtadnefnofbnheaaDoorW.PrintLast Go.Proofs.YtadnefnofbnheaaDoorW.PrintMore
attribute [local go_sem] max2_int min2_int max_two min_two max_three min_three max_four min_four   -- for this text's walks alone
set_option linter.unusedVariables false
set_option linter.unusedSimpArgs false

/-! ### missivelaw38_write: function 42 -/
def missivelaw38_write.f (k : Nat) (a0 : ByteArray) (a1 : Int) (a2 : Int) (a3 : ByteArray) : Option (ByteArray) := if a1 = 1 then ((verp_Bounce.f k a0 a2).bind fun t509 => (some t509)) else (if a1 = 2 then ((verp_Vote.f k a0 a2 a3).bind fun t510 => (some t510)) else ((verp_Confirm.f k a0 a3).bind fun t511 => (some t511)))
theorem missivelaw38_write.mono : ∀ a0 a1 a2 a3 k, LeO (missivelaw38_write.f k a0 a1 a2 a3) (missivelaw38_write.f (k + 1) a0 a1 a2 a3) := by
  intro a0 a1 a2 a3 k
  unfold missivelaw38_write.f
  repeat' first
      | (with_reducible exact verp_Bounce.mono _ _ _)
      | (with_reducible exact verp_Confirm.mono _ _ _)
      | (with_reducible exact verp_Vote.mono _ _ _ _)
      | (with_reducible exact LeO.refl _)
      | (with_reducible exact LeO.none _)
      | (with_reducible refine LeO.ite ?_ ?_)
      | (with_reducible refine LeO.bind ?_ (fun _ => ?_))
      | exact verp_Bounce.mono _ _ _
      | exact verp_Confirm.mono _ _ _
      | exact verp_Vote.mono _ _ _ _
      | exact LeO.none _
      | refine LeO.ite ?_ ?_
      | refine LeO.bind ?_ (fun _ => ?_)
set_option maxHeartbeats 8000000 in
set_option maxRecDepth 100000 in
theorem missivelaw38_write.calls (k : Nat) (a0 : ByteArray) (a1 : Int) (a2 : Int) (a3 : ByteArray) (r : ByteArray) (w : World) (hG : GOk 2 w) (h : missivelaw38_write.f k a0 a1 a2 a3 = some r) :
    Calls Tryd.prog 42 #[.string a0, .int .i64 a1, .int .i64 a2, .string a3] w fun e w' => e = .returned (.string r) ∧ Below w.heap.size w w' := by
  have HB := Aside0.mk (Below.refl w.heap.size w)
  have H : (if a1 = 1 then ((verp_Bounce.f k a0 a2).bind fun t509 => (some t509)) else (if a1 = 2 then ((verp_Vote.f k a0 a2 a3).bind fun t510 => (some t510)) else ((verp_Confirm.f k a0 a3).bind fun t511 => (some t511)))) = some r := h
  clear h
  by_cases c5 : a1 = 1
  · rw [if_pos c5] at H
    have c5b0 : (a1 == 1) = true := beq_iff_eq.mpr c5
    have c5b1 : (a1 != 1) = false := bne_eq_false_iff_eq.mpr c5
    clear c5
    replace H := Option.bind_eq_some_iff.mp H
    obtain ⟨t509, A60, H⟩ := H
    replace H : (some t509) = some r := H
    have A6 := Aside0.mk A60
    clear A60
    obtain rfl := Option.some.inj H
    go_enter Tryd.func42, Tryd.ntmps42
    go_wp2_with (first | ((with_reducible refine gate_callee (f := 36) rfl ?_); refine goesL_ (some 14) rfl rfl Tryd.func36 (by kernel_rfl) rfl #[.string a0, .int .i64 a2] rfl (by (try simp only [List.map_toArray, List.map_cons, List.map_nil]); first | done | rfl | (simp only [List.length_drop, List.length_take]; rfl)) ?_; (with_reducible refine (verp_Bounce.calls k a0 a2 t509 _ ?side1 A6.out).mono ?_); (case side1 => exact GOk.below hG (by decide) (by repeat (first | (with_reducible first | exact HB.out | apply below_alloc | apply pw_below_drewN | apply below_drew1) | exact HB.out))); rintro e w7 ⟨rfl, hb⟩; refine ⟨_, rfl, ?_⟩; have n0_ := Aside0.mk (below_step (by repeat (first | (with_reducible first | exact HB.out | apply below_alloc | apply pw_below_drewN | apply below_drew1) | exact HB.out)) hb); clear HB; have HB := n0_; clear n0_; (try clear hb); (try clear hb2); (try clear hk); (try clear hi)))
    go_ret
    exact ⟨by first | rfl | (simp [errW_none, errW_some] <;> rfl) | (simp [*, errW_none, errW_some] <;> rfl), by repeat (first | (with_reducible first | exact HB.out | apply below_alloc | apply pw_below_drewN | apply below_drew1) | exact HB.out)⟩
  · rw [if_neg c5] at H
    have c5b0 : (a1 == 1) = false := beq_eq_false_iff_ne.mpr c5
    have c5b1 : (a1 != 1) = true := bne_iff_ne.mpr c5
    by_cases c8 : a1 = 2
    · rw [if_pos c8] at H
      have c8b0 : (a1 == 2) = true := beq_iff_eq.mpr c8
      have c8b1 : (a1 != 2) = false := bne_eq_false_iff_eq.mpr c8
      clear c8
      replace H := Option.bind_eq_some_iff.mp H
      obtain ⟨t510, A90, H⟩ := H
      replace H : (some t510) = some r := H
      have A9 := Aside0.mk A90
      clear A90
      obtain rfl := Option.some.inj H
      go_enter Tryd.func42, Tryd.ntmps42
      go_wp2_with (first | ((with_reducible refine gate_callee (f := 38) rfl ?_); refine goesL_ (some 20) rfl rfl Tryd.func38 (by kernel_rfl) rfl #[.string a0, .int .i64 a2, .string a3] rfl (by (try simp only [List.map_toArray, List.map_cons, List.map_nil]); first | done | rfl | (simp only [List.length_drop, List.length_take]; rfl)) ?_; (with_reducible refine (verp_Vote.calls k a0 a2 a3 t510 _ ?side1 A9.out).mono ?_); (case side1 => exact GOk.below hG (by decide) (by repeat (first | (with_reducible first | exact HB.out | apply below_alloc | apply pw_below_drewN | apply below_drew1) | exact HB.out))); rintro e w10 ⟨rfl, hb⟩; refine ⟨_, rfl, ?_⟩; have n0_ := Aside0.mk (below_step (by repeat (first | (with_reducible first | exact HB.out | apply below_alloc | apply pw_below_drewN | apply below_drew1) | exact HB.out)) hb); clear HB; have HB := n0_; clear n0_; (try clear hb); (try clear hb2); (try clear hk); (try clear hi)))
      go_ret
      exact ⟨by first | rfl | (simp [errW_none, errW_some] <;> rfl) | (simp [*, errW_none, errW_some] <;> rfl), by repeat (first | (with_reducible first | exact HB.out | apply below_alloc | apply pw_below_drewN | apply below_drew1) | exact HB.out)⟩
    · rw [if_neg c8] at H
      have c8b0 : (a1 == 2) = false := beq_eq_false_iff_ne.mpr c8
      have c8b1 : (a1 != 2) = true := bne_iff_ne.mpr c8
      replace H := Option.bind_eq_some_iff.mp H
      obtain ⟨t511, A110, H⟩ := H
      replace H : (some t511) = some r := H
      have A11 := Aside0.mk A110
      clear A110
      obtain rfl := Option.some.inj H
      go_enter Tryd.func42, Tryd.ntmps42
      go_wp2_with (first | ((with_reducible refine gate_callee (f := 40) rfl ?_); refine goesL_ (some 23) rfl rfl Tryd.func40 (by kernel_rfl) rfl #[.string a0, .string a3] rfl (by (try simp only [List.map_toArray, List.map_cons, List.map_nil]); first | done | rfl | (simp only [List.length_drop, List.length_take]; rfl)) ?_; (with_reducible refine (verp_Confirm.calls k a0 a3 t511 _ ?side1 A11.out).mono ?_); (case side1 => exact GOk.below hG (by decide) (by repeat (first | (with_reducible first | exact HB.out | apply below_alloc | apply pw_below_drewN | apply below_drew1) | exact HB.out))); rintro e w12 ⟨rfl, hb⟩; refine ⟨_, rfl, ?_⟩; have n0_ := Aside0.mk (below_step (by repeat (first | (with_reducible first | exact HB.out | apply below_alloc | apply pw_below_drewN | apply below_drew1) | exact HB.out)) hb); clear HB; have HB := n0_; clear n0_; (try clear hb); (try clear hb2); (try clear hk); (try clear hi)))
      go_ret
      exact ⟨by first | rfl | (simp [errW_none, errW_some] <;> rfl) | (simp [*, errW_none, errW_some] <;> rfl), by repeat (first | (with_reducible first | exact HB.out | apply below_alloc | apply pw_below_drewN | apply below_drew1) | exact HB.out)⟩

end Go.Proofs.YtadnefnofbnheaaDoor.Pr

-- Out of the translation, by this claim's own program over the kit's print.
namespace Go.Proofs.YtadnefnofbnheaaDoor.Pr
open Go.RowKit Go.Proofs.YtadnefnofbnheaaDoorW.PrintWords Go.Proofs.YtadnefnofbnheaaDoorW.PrintLast Go.Proofs.YtadnefnofbnheaaDoorW.PrintMore
attribute [local go_sem] max2_int min2_int max_two min_two max_three min_three max_four min_four   -- for this text's walks alone
set_option linter.unusedVariables false
set_option linter.unusedSimpArgs false

/-! ### missivelaw38_VerpOnly: function 6 -/
def missivelaw38_VerpOnly.j0 : Nat → ByteArray → ByteArray → Bool → Bool → Option (Bool)
  | 0, _, _, _, _ => none
  | k + 1, x0, x1, x5, x18 => if x18 = true then (some x5) else ((verp_Parse.f k x0 x1).bind fun bt513 => (if bt513.2.2.2 = true then (if x5 = true then (if bt513.1 ≥ 1 then (if bt513.1 ≤ 3 then (if bt513.2.1 ≥ 0 then (if bt513.1 = 1 then (if bt513.2.2.1.toList = ([] : List UInt8) then (if bt513.1 = 3 then (if bt513.2.1 = 0 then ((missivelaw38_write.f k x0 bt513.1 bt513.2.1 bt513.2.2.1).bind fun t517 => ((text_Lower.f x1).bind fun t518 => (some (t517.toList == t518.toList)))) else (some false)) else ((missivelaw38_write.f k x0 bt513.1 bt513.2.1 bt513.2.2.1).bind fun t519 => ((text_Lower.f x1).bind fun t520 => (some (t519.toList == t520.toList))))) else (some false)) else (if bt513.1 = 3 then (if bt513.2.1 = 0 then ((missivelaw38_write.f k x0 bt513.1 bt513.2.1 bt513.2.2.1).bind fun t521 => ((text_Lower.f x1).bind fun t522 => (some (t521.toList == t522.toList)))) else (some false)) else ((missivelaw38_write.f k x0 bt513.1 bt513.2.1 bt513.2.2.1).bind fun t523 => ((text_Lower.f x1).bind fun t524 => (some (t523.toList == t524.toList)))))) else (some false)) else (some false)) else (some false)) else (some false)) else (if x5 = true then (if bt513.1 = 0 then (if bt513.2.1 = 0 then (some (bt513.2.2.1.toList == ([] : List UInt8))) else (some false)) else (some false)) else (some false))))
def missivelaw38_VerpOnly.f (k : Nat) (a0 : ByteArray) (a1 : ByteArray) : Option (Bool) := (missivelaw38_small.f k).bind fun t512 => (if (a0.size : Int) > 300 then (missivelaw38_VerpOnly.j0 k a0 a1 t512 true) else (missivelaw38_VerpOnly.j0 k a0 a1 t512 (decide ((a1.size : Int) > 300))))
theorem missivelaw38_VerpOnly.mono_l : ∀ k, (∀ y0 y1 y2 y3, LeO (missivelaw38_VerpOnly.j0 k y0 y1 y2 y3) (missivelaw38_VerpOnly.j0 (k + 1) y0 y1 y2 y3))
  | 0 => fun _ _ _ _ r h => by simp [missivelaw38_VerpOnly.j0] at h
  | k + 1 => by
    have ih0 := missivelaw38_VerpOnly.mono_l k
    · intro y0 y1 y2 y3
      unfold missivelaw38_VerpOnly.j0
      repeat' first
      | (with_reducible exact ih0 _ _ _ _)
      | (with_reducible exact missivelaw38_small.mono _)
      | (with_reducible exact missivelaw38_write.mono _ _ _ _ _)
      | (with_reducible exact verp_Parse.mono _ _ _)
      | (with_reducible exact LeO.refl _)
      | (with_reducible exact LeO.none _)
      | (with_reducible refine LeO.ite ?_ ?_)
      | (with_reducible refine LeO.bind ?_ (fun _ => ?_))
      | exact ih0 _ _ _ _
      | exact missivelaw38_small.mono _
      | exact missivelaw38_write.mono _ _ _ _ _
      | exact verp_Parse.mono _ _ _
      | exact LeO.none _
      | refine LeO.ite ?_ ?_
      | refine LeO.bind ?_ (fun _ => ?_)
theorem missivelaw38_VerpOnly.mono : ∀ a0 a1 k, LeO (missivelaw38_VerpOnly.f k a0 a1) (missivelaw38_VerpOnly.f (k + 1) a0 a1) := by
  intro a0 a1 k
  have ih0 := missivelaw38_VerpOnly.mono_l k
  unfold missivelaw38_VerpOnly.f
  repeat' first
      | (with_reducible exact ih0 _ _ _ _)
      | (with_reducible exact missivelaw38_small.mono _)
      | (with_reducible exact missivelaw38_write.mono _ _ _ _ _)
      | (with_reducible exact verp_Parse.mono _ _ _)
      | (with_reducible exact LeO.refl _)
      | (with_reducible exact LeO.none _)
      | (with_reducible refine LeO.ite ?_ ?_)
      | (with_reducible refine LeO.bind ?_ (fun _ => ?_))
      | exact ih0 _ _ _ _
      | exact missivelaw38_small.mono _
      | exact missivelaw38_write.mono _ _ _ _ _
      | exact verp_Parse.mono _ _ _
      | exact LeO.none _
      | refine LeO.ite ?_ ?_
      | refine LeO.bind ?_ (fun _ => ?_)
set_option maxHeartbeats 8000000 in
set_option maxRecDepth 100000 in
theorem missivelaw38_VerpOnly.calls (k : Nat) (a0 : ByteArray) (a1 : ByteArray) (r : Bool) (w : World) (hG : GOk 2 w) (h : missivelaw38_VerpOnly.f k a0 a1 = some r) :
    Calls Tryd.prog 6 #[.string a0, .string a1] w fun e w' => e = .returned (.bool r) ∧ Below w.heap.size w w' := by
  have HB := Aside0.mk (Below.refl w.heap.size w)
  have H : ((missivelaw38_small.f k).bind fun t512 => (if (a0.size : Int) > 300 then (missivelaw38_VerpOnly.j0 k a0 a1 t512 true) else (missivelaw38_VerpOnly.j0 k a0 a1 t512 (decide ((a1.size : Int) > 300))))) = some r := h
  clear h
  replace H := Option.bind_eq_some_iff.mp H
  obtain ⟨t512, A30, H⟩ := H
  replace H : (if (a0.size : Int) > 300 then (missivelaw38_VerpOnly.j0 k a0 a1 t512 true) else (missivelaw38_VerpOnly.j0 k a0 a1 t512 (decide ((a1.size : Int) > 300)))) = some r := H
  have A3 := Aside0.mk A30
  clear A30
  have HC4 := Aside0.mk H
  clear H
  go_enter Tryd.func6, Tryd.ntmps6
  go_upto_region 2 with (first | ((with_reducible refine gate_callee (f := 33) rfl ?_); refine goesL_ (some 10) rfl rfl Tryd.func33 (by kernel_rfl) rfl #[] rfl (by (try simp only [List.map_toArray, List.map_cons, List.map_nil]); first | done | rfl | (simp only [List.length_drop, List.length_take]; rfl)) ?_; (with_reducible refine (missivelaw38_small.calls k  t512 _ ?side1 A3.out).mono ?_); (case side1 => exact GOk.below hG (by decide) (by repeat (first | (with_reducible first | exact HB.out | apply below_alloc | apply pw_below_drewN | apply below_drew1) | exact HB.out))); rintro e w5 ⟨rfl, hb⟩; refine ⟨_, rfl, ?_⟩; have n0_ := Aside0.mk (below_step (by repeat (first | (with_reducible first | exact HB.out | apply below_alloc | apply pw_below_drewN | apply below_drew1) | exact HB.out)) hb); clear HB; have HB := n0_; clear n0_; (try clear hb); (try clear hb2); (try clear hk); (try clear hi)))
  (try simp only [Act.put, List.setIfInBounds_toArray, List.set_cons_zero, List.set_cons_succ])
  go_cut [18] (fun v18 wc => ∃ (kq : Nat) (x18_3 : Bool), v18 = .bool x18_3 ∧ Aside0 (missivelaw38_VerpOnly.j0 kq a0 a1 t512 x18_3 = some r) ∧ Aside0 (kq ≤ k) ∧ Aside0 (Below w.heap.size w wc))
  case first =>
    have H := HC4.out
    clear HC4
    by_cases c6 : (a0.size : Int) > 300
    · rw [if_pos c6] at H
      have c6b0 : decide (300 < (a0.size : Int)) = true := decide_eq_true c6
      have c6b1 : decide (300 < a0.size) = true := decide_eq_true (by omega)
      clear c6
      (first | rw [c6b0] | (simp only [i64_w, i32_w]; rw [c6b0]) | skip)
      have H' := Aside0.mk H
      clear H
      go_wp2
      go_meet
      case rel => exact ⟨_, (true), (by first | rfl | (simp; done) | (simp [*]; done)), H', ⟨by first | omega | exact Nat.le_refl _⟩, ⟨by repeat (first | (with_reducible first | exact HB.out | apply below_alloc | apply pw_below_drewN | apply below_drew1) | exact HB.out)⟩⟩
    · rw [if_neg c6] at H
      have c6b0 : decide (300 < (a0.size : Int)) = false := decide_eq_false c6
      have c6b1 : decide (300 < a0.size) = false := decide_eq_false (by omega)
      clear c6
      (first | rw [c6b0] | (simp only [i64_w, i32_w]; rw [c6b0]) | skip)
      have H' := Aside0.mk H
      clear H
      go_wp2
      go_meet
      case rel => exact ⟨_, (decide ((a1.size : Int) > 300)), (by first | rfl | (simp; done) | (simp [*]; done)), H', ⟨by first | omega | exact Nat.le_refl _⟩, ⟨by repeat (first | (with_reducible first | exact HB.out | apply below_alloc | apply pw_below_drewN | apply below_drew1) | exact HB.out)⟩⟩
  case rest =>
    clear HC4
    try clear p2
    try clear c3
    try clear c6
    try clear c6b0
    try clear c6b1
    obtain ⟨kq, x18_3, rfl, HA, HJ3, HB⟩ := hcut
    cases kq with
    | zero => exact absurd HA.out (by simp [missivelaw38_VerpOnly.j0])
    | succ kj3 =>
      have H := HA.out
      clear HA
      simp only [missivelaw38_VerpOnly.j0] at H
      by_cases c7 : x18_3 = true
      · subst c7
        have H1 : (some t512) = some r := by rw [if_pos rfl] at H; exact H
        clear H
        have H := H1
        clear H1
        obtain rfl := Option.some.inj H
        go_wp2
        go_ret
        exact ⟨by first | rfl | (simp [errW_none, errW_some] <;> rfl) | (simp [*, errW_none, errW_some] <;> rfl), by repeat (first | (with_reducible first | exact HB.out | apply below_alloc | apply pw_below_drewN | apply below_drew1) | exact HB.out)⟩
      · replace c7 := Bool.eq_false_iff.mpr c7
        subst c7
        have H1 : ((verp_Parse.f kj3 a0 a1).bind fun bt513 => (if bt513.2.2.2 = true then (if t512 = true then (if bt513.1 ≥ 1 then (if bt513.1 ≤ 3 then (if bt513.2.1 ≥ 0 then (if bt513.1 = 1 then (if bt513.2.2.1.toList = ([] : List UInt8) then (if bt513.1 = 3 then (if bt513.2.1 = 0 then ((missivelaw38_write.f kj3 a0 bt513.1 bt513.2.1 bt513.2.2.1).bind fun t517 => ((text_Lower.f a1).bind fun t518 => (some (t517.toList == t518.toList)))) else (some false)) else ((missivelaw38_write.f kj3 a0 bt513.1 bt513.2.1 bt513.2.2.1).bind fun t519 => ((text_Lower.f a1).bind fun t520 => (some (t519.toList == t520.toList))))) else (some false)) else (if bt513.1 = 3 then (if bt513.2.1 = 0 then ((missivelaw38_write.f kj3 a0 bt513.1 bt513.2.1 bt513.2.2.1).bind fun t521 => ((text_Lower.f a1).bind fun t522 => (some (t521.toList == t522.toList)))) else (some false)) else ((missivelaw38_write.f kj3 a0 bt513.1 bt513.2.1 bt513.2.2.1).bind fun t523 => ((text_Lower.f a1).bind fun t524 => (some (t523.toList == t524.toList)))))) else (some false)) else (some false)) else (some false)) else (some false)) else (if t512 = true then (if bt513.1 = 0 then (if bt513.2.1 = 0 then (some (bt513.2.2.1.toList == ([] : List UInt8))) else (some false)) else (some false)) else (some false)))) = some r := by rw [if_neg (show ¬ (false = true) by decide)] at H; exact H
        clear H
        have H := H1
        clear H1
        replace H := Option.bind_eq_some_iff.mp H
        obtain ⟨⟨t513, t514, t515, t516⟩, A80, H⟩ := H
        replace H : (if t516 = true then (if t512 = true then (if t513 ≥ 1 then (if t513 ≤ 3 then (if t514 ≥ 0 then (if t513 = 1 then (if t515.toList = ([] : List UInt8) then (if t513 = 3 then (if t514 = 0 then ((missivelaw38_write.f kj3 a0 t513 t514 t515).bind fun t517 => ((text_Lower.f a1).bind fun t518 => (some (t517.toList == t518.toList)))) else (some false)) else ((missivelaw38_write.f kj3 a0 t513 t514 t515).bind fun t519 => ((text_Lower.f a1).bind fun t520 => (some (t519.toList == t520.toList))))) else (some false)) else (if t513 = 3 then (if t514 = 0 then ((missivelaw38_write.f kj3 a0 t513 t514 t515).bind fun t521 => ((text_Lower.f a1).bind fun t522 => (some (t521.toList == t522.toList)))) else (some false)) else ((missivelaw38_write.f kj3 a0 t513 t514 t515).bind fun t523 => ((text_Lower.f a1).bind fun t524 => (some (t523.toList == t524.toList)))))) else (some false)) else (some false)) else (some false)) else (some false)) else (if t512 = true then (if t513 = 0 then (if t514 = 0 then (some (t515.toList == ([] : List UInt8))) else (some false)) else (some false)) else (some false))) = some r := H
        have A8 := Aside0.mk A80
        clear A80
        by_cases c9 : t516 = true
        · subst c9
          have H1 : (if t512 = true then (if t513 ≥ 1 then (if t513 ≤ 3 then (if t514 ≥ 0 then (if t513 = 1 then (if t515.toList = ([] : List UInt8) then (if t513 = 3 then (if t514 = 0 then ((missivelaw38_write.f kj3 a0 t513 t514 t515).bind fun t517 => ((text_Lower.f a1).bind fun t518 => (some (t517.toList == t518.toList)))) else (some false)) else ((missivelaw38_write.f kj3 a0 t513 t514 t515).bind fun t519 => ((text_Lower.f a1).bind fun t520 => (some (t519.toList == t520.toList))))) else (some false)) else (if t513 = 3 then (if t514 = 0 then ((missivelaw38_write.f kj3 a0 t513 t514 t515).bind fun t521 => ((text_Lower.f a1).bind fun t522 => (some (t521.toList == t522.toList)))) else (some false)) else ((missivelaw38_write.f kj3 a0 t513 t514 t515).bind fun t523 => ((text_Lower.f a1).bind fun t524 => (some (t523.toList == t524.toList)))))) else (some false)) else (some false)) else (some false)) else (some false)) = some r := by rw [if_pos rfl] at H; exact H
          clear H
          have H := H1
          clear H1
          by_cases c10 : t512 = true
          · subst c10
            have H1 : (if t513 ≥ 1 then (if t513 ≤ 3 then (if t514 ≥ 0 then (if t513 = 1 then (if t515.toList = ([] : List UInt8) then (if t513 = 3 then (if t514 = 0 then ((missivelaw38_write.f kj3 a0 t513 t514 t515).bind fun t517 => ((text_Lower.f a1).bind fun t518 => (some (t517.toList == t518.toList)))) else (some false)) else ((missivelaw38_write.f kj3 a0 t513 t514 t515).bind fun t519 => ((text_Lower.f a1).bind fun t520 => (some (t519.toList == t520.toList))))) else (some false)) else (if t513 = 3 then (if t514 = 0 then ((missivelaw38_write.f kj3 a0 t513 t514 t515).bind fun t521 => ((text_Lower.f a1).bind fun t522 => (some (t521.toList == t522.toList)))) else (some false)) else ((missivelaw38_write.f kj3 a0 t513 t514 t515).bind fun t523 => ((text_Lower.f a1).bind fun t524 => (some (t523.toList == t524.toList)))))) else (some false)) else (some false)) else (some false)) = some r := by rw [if_pos rfl] at H; exact H
            clear H
            have H := H1
            clear H1
            by_cases c11 : t513 ≥ 1
            · rw [if_pos c11] at H
              have c11b0 : decide (1 ≤ t513) = true := decide_eq_true c11
              clear c11
              by_cases c12 : t513 ≤ 3
              · rw [if_pos c12] at H
                have c12b0 : decide (t513 ≤ 3) = true := decide_eq_true c12
                clear c12
                by_cases c13 : t514 ≥ 0
                · rw [if_pos c13] at H
                  have c13b0 : decide (0 ≤ t514) = true := decide_eq_true c13
                  clear c13
                  by_cases c14 : t513 = 1
                  · rw [if_pos c14] at H
                    have c14b0 : (t513 == 1) = true := beq_iff_eq.mpr c14
                    have c14b1 : (t513 != 1) = false := bne_eq_false_iff_eq.mpr c14
                    clear c14
                    by_cases c15 : t515.toList = ([] : List UInt8)
                    · rw [if_pos c15] at H
                      have c15b0 : (t515.toList == ([] : List UInt8)) = true := beq_iff_eq.mpr c15
                      have c15b1 : (t515.toList != ([] : List UInt8)) = false := bne_eq_false_iff_eq.mpr c15
                      clear c15
                      by_cases c16 : t513 = 3
                      · rw [if_pos c16] at H
                        have c16b0 : (t513 == 3) = true := beq_iff_eq.mpr c16
                        have c16b1 : (t513 != 3) = false := bne_eq_false_iff_eq.mpr c16
                        clear c16
                        by_cases c17 : t514 = 0
                        · rw [if_pos c17] at H
                          have c17b0 : (t514 == 0) = true := beq_iff_eq.mpr c17
                          have c17b1 : (t514 != 0) = false := bne_eq_false_iff_eq.mpr c17
                          clear c17
                          replace H := Option.bind_eq_some_iff.mp H
                          obtain ⟨t517, A180, H⟩ := H
                          replace H : ((text_Lower.f a1).bind fun t518 => (some (t517.toList == t518.toList))) = some r := H
                          have A18 := Aside0.mk A180
                          clear A180
                          replace H := Option.bind_eq_some_iff.mp H
                          obtain ⟨t518, A190, H⟩ := H
                          replace H : (some (t517.toList == t518.toList)) = some r := H
                          have A19 := Aside0.mk A190
                          clear A190
                          obtain rfl := Option.some.inj H
                          go_wp2_with (first | ((with_reducible refine gate_callee (f := 34) rfl ?_); refine goesL_ (some 23) rfl rfl Tryd.func34 (by kernel_rfl) rfl #[.string a0, .string a1] rfl (by (try simp only [List.map_toArray, List.map_cons, List.map_nil]); first | done | rfl | (simp only [List.length_drop, List.length_take]; rfl)) ?_; (with_reducible refine (verp_Parse.calls kj3 a0 a1 t513 t514 t515 true _ ?side1 A8.out).mono ?_); (case side1 => exact GOk.below hG (by decide) (by repeat (first | (with_reducible first | exact HB.out | apply below_alloc | apply pw_below_drewN | apply below_drew1) | exact HB.out))); rintro e w20 ⟨rfl, hb⟩; refine ⟨_, rfl, ?_⟩; have n0_ := Aside0.mk (below_step (by repeat (first | (with_reducible first | exact HB.out | apply below_alloc | apply pw_below_drewN | apply below_drew1) | exact HB.out)) hb); clear HB; have HB := n0_; clear n0_; (try clear hb); (try clear hb2); (try clear hk); (try clear hi)) | (go_at_call 42; (with_reducible refine (missivelaw38_write.calls kj3 a0 t513 t514 t515 t517 _ ?side1 A18.out).mono ?_); (case side1 => exact GOk.below hG (by decide) (by repeat (first | (with_reducible first | exact HB.out | apply below_alloc | apply pw_below_drewN | apply below_drew1) | exact HB.out))); rintro e w21 ⟨rfl, hb⟩; have n0_ := Aside0.mk (below_step (by repeat (first | (with_reducible first | exact HB.out | apply below_alloc | apply pw_below_drewN | apply below_drew1) | exact HB.out)) hb); clear HB; have HB := n0_; clear n0_; (try clear hb); (try clear hb2); (try clear hk); (try clear hi)) | (go_at_call 43; (with_reducible refine (text_Lower.calls a1 t518 _ ?side1 A19.out).mono ?_); (case side1 => exact GOk.below hG (by decide) (by repeat (first | (with_reducible first | exact HB.out | apply below_alloc | apply pw_below_drewN | apply below_drew1) | exact HB.out))); rintro e w22 ⟨rfl, hb⟩; have n0_ := Aside0.mk (below_step (by repeat (first | (with_reducible first | exact HB.out | apply below_alloc | apply pw_below_drewN | apply below_drew1) | exact HB.out)) hb); clear HB; have HB := n0_; clear n0_; (try clear hb); (try clear hb2); (try clear hk); (try clear hi)))
                          go_ret
                          exact ⟨by first | rfl | (simp [errW_none, errW_some] <;> rfl) | (simp [*, errW_none, errW_some] <;> rfl), by repeat (first | (with_reducible first | exact HB.out | apply below_alloc | apply pw_below_drewN | apply below_drew1) | exact HB.out)⟩
                        · rw [if_neg c17] at H
                          have c17b0 : (t514 == 0) = false := beq_eq_false_iff_ne.mpr c17
                          have c17b1 : (t514 != 0) = true := bne_iff_ne.mpr c17
                          obtain rfl := Option.some.inj H
                          go_wp2_with (first | ((with_reducible refine gate_callee (f := 34) rfl ?_); refine goesL_ (some 23) rfl rfl Tryd.func34 (by kernel_rfl) rfl #[.string a0, .string a1] rfl (by (try simp only [List.map_toArray, List.map_cons, List.map_nil]); first | done | rfl | (simp only [List.length_drop, List.length_take]; rfl)) ?_; (with_reducible refine (verp_Parse.calls kj3 a0 a1 t513 t514 t515 true _ ?side1 A8.out).mono ?_); (case side1 => exact GOk.below hG (by decide) (by repeat (first | (with_reducible first | exact HB.out | apply below_alloc | apply pw_below_drewN | apply below_drew1) | exact HB.out))); rintro e w23 ⟨rfl, hb⟩; refine ⟨_, rfl, ?_⟩; have n0_ := Aside0.mk (below_step (by repeat (first | (with_reducible first | exact HB.out | apply below_alloc | apply pw_below_drewN | apply below_drew1) | exact HB.out)) hb); clear HB; have HB := n0_; clear n0_; (try clear hb); (try clear hb2); (try clear hk); (try clear hi)))
                          go_ret
                          exact ⟨by first | rfl | (simp [errW_none, errW_some] <;> rfl) | (simp [*, errW_none, errW_some] <;> rfl), by repeat (first | (with_reducible first | exact HB.out | apply below_alloc | apply pw_below_drewN | apply below_drew1) | exact HB.out)⟩
                      · rw [if_neg c16] at H
                        have c16b0 : (t513 == 3) = false := beq_eq_false_iff_ne.mpr c16
                        have c16b1 : (t513 != 3) = true := bne_iff_ne.mpr c16
                        replace H := Option.bind_eq_some_iff.mp H
                        obtain ⟨t519, A240, H⟩ := H
                        replace H : ((text_Lower.f a1).bind fun t520 => (some (t519.toList == t520.toList))) = some r := H
                        have A24 := Aside0.mk A240
                        clear A240
                        replace H := Option.bind_eq_some_iff.mp H
                        obtain ⟨t520, A250, H⟩ := H
                        replace H : (some (t519.toList == t520.toList)) = some r := H
                        have A25 := Aside0.mk A250
                        clear A250
                        obtain rfl := Option.some.inj H
                        go_wp2_with (first | ((with_reducible refine gate_callee (f := 34) rfl ?_); refine goesL_ (some 23) rfl rfl Tryd.func34 (by kernel_rfl) rfl #[.string a0, .string a1] rfl (by (try simp only [List.map_toArray, List.map_cons, List.map_nil]); first | done | rfl | (simp only [List.length_drop, List.length_take]; rfl)) ?_; (with_reducible refine (verp_Parse.calls kj3 a0 a1 t513 t514 t515 true _ ?side1 A8.out).mono ?_); (case side1 => exact GOk.below hG (by decide) (by repeat (first | (with_reducible first | exact HB.out | apply below_alloc | apply pw_below_drewN | apply below_drew1) | exact HB.out))); rintro e w26 ⟨rfl, hb⟩; refine ⟨_, rfl, ?_⟩; have n0_ := Aside0.mk (below_step (by repeat (first | (with_reducible first | exact HB.out | apply below_alloc | apply pw_below_drewN | apply below_drew1) | exact HB.out)) hb); clear HB; have HB := n0_; clear n0_; (try clear hb); (try clear hb2); (try clear hk); (try clear hi)) | (go_at_call 42; (with_reducible refine (missivelaw38_write.calls kj3 a0 t513 t514 t515 t519 _ ?side1 A24.out).mono ?_); (case side1 => exact GOk.below hG (by decide) (by repeat (first | (with_reducible first | exact HB.out | apply below_alloc | apply pw_below_drewN | apply below_drew1) | exact HB.out))); rintro e w27 ⟨rfl, hb⟩; have n0_ := Aside0.mk (below_step (by repeat (first | (with_reducible first | exact HB.out | apply below_alloc | apply pw_below_drewN | apply below_drew1) | exact HB.out)) hb); clear HB; have HB := n0_; clear n0_; (try clear hb); (try clear hb2); (try clear hk); (try clear hi)) | (go_at_call 43; (with_reducible refine (text_Lower.calls a1 t520 _ ?side1 A25.out).mono ?_); (case side1 => exact GOk.below hG (by decide) (by repeat (first | (with_reducible first | exact HB.out | apply below_alloc | apply pw_below_drewN | apply below_drew1) | exact HB.out))); rintro e w28 ⟨rfl, hb⟩; have n0_ := Aside0.mk (below_step (by repeat (first | (with_reducible first | exact HB.out | apply below_alloc | apply pw_below_drewN | apply below_drew1) | exact HB.out)) hb); clear HB; have HB := n0_; clear n0_; (try clear hb); (try clear hb2); (try clear hk); (try clear hi)))
                        go_ret
                        exact ⟨by first | rfl | (simp [errW_none, errW_some] <;> rfl) | (simp [*, errW_none, errW_some] <;> rfl), by repeat (first | (with_reducible first | exact HB.out | apply below_alloc | apply pw_below_drewN | apply below_drew1) | exact HB.out)⟩
                    · rw [if_neg c15] at H
                      have c15b0 : (t515.toList == ([] : List UInt8)) = false := beq_eq_false_iff_ne.mpr c15
                      have c15b1 : (t515.toList != ([] : List UInt8)) = true := bne_iff_ne.mpr c15
                      obtain rfl := Option.some.inj H
                      go_wp2_with (first | ((with_reducible refine gate_callee (f := 34) rfl ?_); refine goesL_ (some 23) rfl rfl Tryd.func34 (by kernel_rfl) rfl #[.string a0, .string a1] rfl (by (try simp only [List.map_toArray, List.map_cons, List.map_nil]); first | done | rfl | (simp only [List.length_drop, List.length_take]; rfl)) ?_; (with_reducible refine (verp_Parse.calls kj3 a0 a1 t513 t514 t515 true _ ?side1 A8.out).mono ?_); (case side1 => exact GOk.below hG (by decide) (by repeat (first | (with_reducible first | exact HB.out | apply below_alloc | apply pw_below_drewN | apply below_drew1) | exact HB.out))); rintro e w29 ⟨rfl, hb⟩; refine ⟨_, rfl, ?_⟩; have n0_ := Aside0.mk (below_step (by repeat (first | (with_reducible first | exact HB.out | apply below_alloc | apply pw_below_drewN | apply below_drew1) | exact HB.out)) hb); clear HB; have HB := n0_; clear n0_; (try clear hb); (try clear hb2); (try clear hk); (try clear hi)))
                      go_ret
                      exact ⟨by first | rfl | (simp [errW_none, errW_some] <;> rfl) | (simp [*, errW_none, errW_some] <;> rfl), by repeat (first | (with_reducible first | exact HB.out | apply below_alloc | apply pw_below_drewN | apply below_drew1) | exact HB.out)⟩
                  · rw [if_neg c14] at H
                    have c14b0 : (t513 == 1) = false := beq_eq_false_iff_ne.mpr c14
                    have c14b1 : (t513 != 1) = true := bne_iff_ne.mpr c14
                    by_cases c30 : t513 = 3
                    · rw [if_pos c30] at H
                      have c30b0 : (t513 == 3) = true := beq_iff_eq.mpr c30
                      have c30b1 : (t513 != 3) = false := bne_eq_false_iff_eq.mpr c30
                      clear c30
                      by_cases c31 : t514 = 0
                      · rw [if_pos c31] at H
                        have c31b0 : (t514 == 0) = true := beq_iff_eq.mpr c31
                        have c31b1 : (t514 != 0) = false := bne_eq_false_iff_eq.mpr c31
                        clear c31
                        replace H := Option.bind_eq_some_iff.mp H
                        obtain ⟨t521, A320, H⟩ := H
                        replace H : ((text_Lower.f a1).bind fun t522 => (some (t521.toList == t522.toList))) = some r := H
                        have A32 := Aside0.mk A320
                        clear A320
                        replace H := Option.bind_eq_some_iff.mp H
                        obtain ⟨t522, A330, H⟩ := H
                        replace H : (some (t521.toList == t522.toList)) = some r := H
                        have A33 := Aside0.mk A330
                        clear A330
                        obtain rfl := Option.some.inj H
                        go_wp2_with (first | ((with_reducible refine gate_callee (f := 34) rfl ?_); refine goesL_ (some 23) rfl rfl Tryd.func34 (by kernel_rfl) rfl #[.string a0, .string a1] rfl (by (try simp only [List.map_toArray, List.map_cons, List.map_nil]); first | done | rfl | (simp only [List.length_drop, List.length_take]; rfl)) ?_; (with_reducible refine (verp_Parse.calls kj3 a0 a1 t513 t514 t515 true _ ?side1 A8.out).mono ?_); (case side1 => exact GOk.below hG (by decide) (by repeat (first | (with_reducible first | exact HB.out | apply below_alloc | apply pw_below_drewN | apply below_drew1) | exact HB.out))); rintro e w34 ⟨rfl, hb⟩; refine ⟨_, rfl, ?_⟩; have n0_ := Aside0.mk (below_step (by repeat (first | (with_reducible first | exact HB.out | apply below_alloc | apply pw_below_drewN | apply below_drew1) | exact HB.out)) hb); clear HB; have HB := n0_; clear n0_; (try clear hb); (try clear hb2); (try clear hk); (try clear hi)) | (go_at_call 42; (with_reducible refine (missivelaw38_write.calls kj3 a0 t513 t514 t515 t521 _ ?side1 A32.out).mono ?_); (case side1 => exact GOk.below hG (by decide) (by repeat (first | (with_reducible first | exact HB.out | apply below_alloc | apply pw_below_drewN | apply below_drew1) | exact HB.out))); rintro e w35 ⟨rfl, hb⟩; have n0_ := Aside0.mk (below_step (by repeat (first | (with_reducible first | exact HB.out | apply below_alloc | apply pw_below_drewN | apply below_drew1) | exact HB.out)) hb); clear HB; have HB := n0_; clear n0_; (try clear hb); (try clear hb2); (try clear hk); (try clear hi)) | (go_at_call 43; (with_reducible refine (text_Lower.calls a1 t522 _ ?side1 A33.out).mono ?_); (case side1 => exact GOk.below hG (by decide) (by repeat (first | (with_reducible first | exact HB.out | apply below_alloc | apply pw_below_drewN | apply below_drew1) | exact HB.out))); rintro e w36 ⟨rfl, hb⟩; have n0_ := Aside0.mk (below_step (by repeat (first | (with_reducible first | exact HB.out | apply below_alloc | apply pw_below_drewN | apply below_drew1) | exact HB.out)) hb); clear HB; have HB := n0_; clear n0_; (try clear hb); (try clear hb2); (try clear hk); (try clear hi)))
                        go_ret
                        exact ⟨by first | rfl | (simp [errW_none, errW_some] <;> rfl) | (simp [*, errW_none, errW_some] <;> rfl), by repeat (first | (with_reducible first | exact HB.out | apply below_alloc | apply pw_below_drewN | apply below_drew1) | exact HB.out)⟩
                      · rw [if_neg c31] at H
                        have c31b0 : (t514 == 0) = false := beq_eq_false_iff_ne.mpr c31
                        have c31b1 : (t514 != 0) = true := bne_iff_ne.mpr c31
                        obtain rfl := Option.some.inj H
                        go_wp2_with (first | ((with_reducible refine gate_callee (f := 34) rfl ?_); refine goesL_ (some 23) rfl rfl Tryd.func34 (by kernel_rfl) rfl #[.string a0, .string a1] rfl (by (try simp only [List.map_toArray, List.map_cons, List.map_nil]); first | done | rfl | (simp only [List.length_drop, List.length_take]; rfl)) ?_; (with_reducible refine (verp_Parse.calls kj3 a0 a1 t513 t514 t515 true _ ?side1 A8.out).mono ?_); (case side1 => exact GOk.below hG (by decide) (by repeat (first | (with_reducible first | exact HB.out | apply below_alloc | apply pw_below_drewN | apply below_drew1) | exact HB.out))); rintro e w37 ⟨rfl, hb⟩; refine ⟨_, rfl, ?_⟩; have n0_ := Aside0.mk (below_step (by repeat (first | (with_reducible first | exact HB.out | apply below_alloc | apply pw_below_drewN | apply below_drew1) | exact HB.out)) hb); clear HB; have HB := n0_; clear n0_; (try clear hb); (try clear hb2); (try clear hk); (try clear hi)))
                        go_ret
                        exact ⟨by first | rfl | (simp [errW_none, errW_some] <;> rfl) | (simp [*, errW_none, errW_some] <;> rfl), by repeat (first | (with_reducible first | exact HB.out | apply below_alloc | apply pw_below_drewN | apply below_drew1) | exact HB.out)⟩
                    · rw [if_neg c30] at H
                      have c30b0 : (t513 == 3) = false := beq_eq_false_iff_ne.mpr c30
                      have c30b1 : (t513 != 3) = true := bne_iff_ne.mpr c30
                      replace H := Option.bind_eq_some_iff.mp H
                      obtain ⟨t523, A380, H⟩ := H
                      replace H : ((text_Lower.f a1).bind fun t524 => (some (t523.toList == t524.toList))) = some r := H
                      have A38 := Aside0.mk A380
                      clear A380
                      replace H := Option.bind_eq_some_iff.mp H
                      obtain ⟨t524, A390, H⟩ := H
                      replace H : (some (t523.toList == t524.toList)) = some r := H
                      have A39 := Aside0.mk A390
                      clear A390
                      obtain rfl := Option.some.inj H
                      go_wp2_with (first | ((with_reducible refine gate_callee (f := 34) rfl ?_); refine goesL_ (some 23) rfl rfl Tryd.func34 (by kernel_rfl) rfl #[.string a0, .string a1] rfl (by (try simp only [List.map_toArray, List.map_cons, List.map_nil]); first | done | rfl | (simp only [List.length_drop, List.length_take]; rfl)) ?_; (with_reducible refine (verp_Parse.calls kj3 a0 a1 t513 t514 t515 true _ ?side1 A8.out).mono ?_); (case side1 => exact GOk.below hG (by decide) (by repeat (first | (with_reducible first | exact HB.out | apply below_alloc | apply pw_below_drewN | apply below_drew1) | exact HB.out))); rintro e w40 ⟨rfl, hb⟩; refine ⟨_, rfl, ?_⟩; have n0_ := Aside0.mk (below_step (by repeat (first | (with_reducible first | exact HB.out | apply below_alloc | apply pw_below_drewN | apply below_drew1) | exact HB.out)) hb); clear HB; have HB := n0_; clear n0_; (try clear hb); (try clear hb2); (try clear hk); (try clear hi)) | (go_at_call 42; (with_reducible refine (missivelaw38_write.calls kj3 a0 t513 t514 t515 t523 _ ?side1 A38.out).mono ?_); (case side1 => exact GOk.below hG (by decide) (by repeat (first | (with_reducible first | exact HB.out | apply below_alloc | apply pw_below_drewN | apply below_drew1) | exact HB.out))); rintro e w41 ⟨rfl, hb⟩; have n0_ := Aside0.mk (below_step (by repeat (first | (with_reducible first | exact HB.out | apply below_alloc | apply pw_below_drewN | apply below_drew1) | exact HB.out)) hb); clear HB; have HB := n0_; clear n0_; (try clear hb); (try clear hb2); (try clear hk); (try clear hi)) | (go_at_call 43; (with_reducible refine (text_Lower.calls a1 t524 _ ?side1 A39.out).mono ?_); (case side1 => exact GOk.below hG (by decide) (by repeat (first | (with_reducible first | exact HB.out | apply below_alloc | apply pw_below_drewN | apply below_drew1) | exact HB.out))); rintro e w42 ⟨rfl, hb⟩; have n0_ := Aside0.mk (below_step (by repeat (first | (with_reducible first | exact HB.out | apply below_alloc | apply pw_below_drewN | apply below_drew1) | exact HB.out)) hb); clear HB; have HB := n0_; clear n0_; (try clear hb); (try clear hb2); (try clear hk); (try clear hi)))
                      go_ret
                      exact ⟨by first | rfl | (simp [errW_none, errW_some] <;> rfl) | (simp [*, errW_none, errW_some] <;> rfl), by repeat (first | (with_reducible first | exact HB.out | apply below_alloc | apply pw_below_drewN | apply below_drew1) | exact HB.out)⟩
                · rw [if_neg c13] at H
                  have c13b0 : decide (0 ≤ t514) = false := decide_eq_false c13
                  clear c13
                  obtain rfl := Option.some.inj H
                  go_wp2_with (first | ((with_reducible refine gate_callee (f := 34) rfl ?_); refine goesL_ (some 23) rfl rfl Tryd.func34 (by kernel_rfl) rfl #[.string a0, .string a1] rfl (by (try simp only [List.map_toArray, List.map_cons, List.map_nil]); first | done | rfl | (simp only [List.length_drop, List.length_take]; rfl)) ?_; (with_reducible refine (verp_Parse.calls kj3 a0 a1 t513 t514 t515 true _ ?side1 A8.out).mono ?_); (case side1 => exact GOk.below hG (by decide) (by repeat (first | (with_reducible first | exact HB.out | apply below_alloc | apply pw_below_drewN | apply below_drew1) | exact HB.out))); rintro e w43 ⟨rfl, hb⟩; refine ⟨_, rfl, ?_⟩; have n0_ := Aside0.mk (below_step (by repeat (first | (with_reducible first | exact HB.out | apply below_alloc | apply pw_below_drewN | apply below_drew1) | exact HB.out)) hb); clear HB; have HB := n0_; clear n0_; (try clear hb); (try clear hb2); (try clear hk); (try clear hi)))
                  go_ret
                  exact ⟨by first | rfl | (simp [errW_none, errW_some] <;> rfl) | (simp [*, errW_none, errW_some] <;> rfl), by repeat (first | (with_reducible first | exact HB.out | apply below_alloc | apply pw_below_drewN | apply below_drew1) | exact HB.out)⟩
              · rw [if_neg c12] at H
                have c12b0 : decide (t513 ≤ 3) = false := decide_eq_false c12
                clear c12
                obtain rfl := Option.some.inj H
                go_wp2_with (first | ((with_reducible refine gate_callee (f := 34) rfl ?_); refine goesL_ (some 23) rfl rfl Tryd.func34 (by kernel_rfl) rfl #[.string a0, .string a1] rfl (by (try simp only [List.map_toArray, List.map_cons, List.map_nil]); first | done | rfl | (simp only [List.length_drop, List.length_take]; rfl)) ?_; (with_reducible refine (verp_Parse.calls kj3 a0 a1 t513 t514 t515 true _ ?side1 A8.out).mono ?_); (case side1 => exact GOk.below hG (by decide) (by repeat (first | (with_reducible first | exact HB.out | apply below_alloc | apply pw_below_drewN | apply below_drew1) | exact HB.out))); rintro e w44 ⟨rfl, hb⟩; refine ⟨_, rfl, ?_⟩; have n0_ := Aside0.mk (below_step (by repeat (first | (with_reducible first | exact HB.out | apply below_alloc | apply pw_below_drewN | apply below_drew1) | exact HB.out)) hb); clear HB; have HB := n0_; clear n0_; (try clear hb); (try clear hb2); (try clear hk); (try clear hi)))
                go_ret
                exact ⟨by first | rfl | (simp [errW_none, errW_some] <;> rfl) | (simp [*, errW_none, errW_some] <;> rfl), by repeat (first | (with_reducible first | exact HB.out | apply below_alloc | apply pw_below_drewN | apply below_drew1) | exact HB.out)⟩
            · rw [if_neg c11] at H
              have c11b0 : decide (1 ≤ t513) = false := decide_eq_false c11
              clear c11
              obtain rfl := Option.some.inj H
              go_wp2_with (first | ((with_reducible refine gate_callee (f := 34) rfl ?_); refine goesL_ (some 23) rfl rfl Tryd.func34 (by kernel_rfl) rfl #[.string a0, .string a1] rfl (by (try simp only [List.map_toArray, List.map_cons, List.map_nil]); first | done | rfl | (simp only [List.length_drop, List.length_take]; rfl)) ?_; (with_reducible refine (verp_Parse.calls kj3 a0 a1 t513 t514 t515 true _ ?side1 A8.out).mono ?_); (case side1 => exact GOk.below hG (by decide) (by repeat (first | (with_reducible first | exact HB.out | apply below_alloc | apply pw_below_drewN | apply below_drew1) | exact HB.out))); rintro e w45 ⟨rfl, hb⟩; refine ⟨_, rfl, ?_⟩; have n0_ := Aside0.mk (below_step (by repeat (first | (with_reducible first | exact HB.out | apply below_alloc | apply pw_below_drewN | apply below_drew1) | exact HB.out)) hb); clear HB; have HB := n0_; clear n0_; (try clear hb); (try clear hb2); (try clear hk); (try clear hi)))
              go_ret
              exact ⟨by first | rfl | (simp [errW_none, errW_some] <;> rfl) | (simp [*, errW_none, errW_some] <;> rfl), by repeat (first | (with_reducible first | exact HB.out | apply below_alloc | apply pw_below_drewN | apply below_drew1) | exact HB.out)⟩
          · replace c10 := Bool.eq_false_iff.mpr c10
            subst c10
            have H1 : (some false) = some r := by rw [if_neg (show ¬ (false = true) by decide)] at H; exact H
            clear H
            have H := H1
            clear H1
            obtain rfl := Option.some.inj H
            go_wp2_with (first | ((with_reducible refine gate_callee (f := 34) rfl ?_); refine goesL_ (some 23) rfl rfl Tryd.func34 (by kernel_rfl) rfl #[.string a0, .string a1] rfl (by (try simp only [List.map_toArray, List.map_cons, List.map_nil]); first | done | rfl | (simp only [List.length_drop, List.length_take]; rfl)) ?_; (with_reducible refine (verp_Parse.calls kj3 a0 a1 t513 t514 t515 true _ ?side1 A8.out).mono ?_); (case side1 => exact GOk.below hG (by decide) (by repeat (first | (with_reducible first | exact HB.out | apply below_alloc | apply pw_below_drewN | apply below_drew1) | exact HB.out))); rintro e w46 ⟨rfl, hb⟩; refine ⟨_, rfl, ?_⟩; have n0_ := Aside0.mk (below_step (by repeat (first | (with_reducible first | exact HB.out | apply below_alloc | apply pw_below_drewN | apply below_drew1) | exact HB.out)) hb); clear HB; have HB := n0_; clear n0_; (try clear hb); (try clear hb2); (try clear hk); (try clear hi)))
            go_ret
            exact ⟨by first | rfl | (simp [errW_none, errW_some] <;> rfl) | (simp [*, errW_none, errW_some] <;> rfl), by repeat (first | (with_reducible first | exact HB.out | apply below_alloc | apply pw_below_drewN | apply below_drew1) | exact HB.out)⟩
        · replace c9 := Bool.eq_false_iff.mpr c9
          subst c9
          have H1 : (if t512 = true then (if t513 = 0 then (if t514 = 0 then (some (t515.toList == ([] : List UInt8))) else (some false)) else (some false)) else (some false)) = some r := by rw [if_neg (show ¬ (false = true) by decide)] at H; exact H
          clear H
          have H := H1
          clear H1
          by_cases c47 : t512 = true
          · subst c47
            have H1 : (if t513 = 0 then (if t514 = 0 then (some (t515.toList == ([] : List UInt8))) else (some false)) else (some false)) = some r := by rw [if_pos rfl] at H; exact H
            clear H
            have H := H1
            clear H1
            by_cases c48 : t513 = 0
            · rw [if_pos c48] at H
              have c48b0 : (t513 == 0) = true := beq_iff_eq.mpr c48
              have c48b1 : (t513 != 0) = false := bne_eq_false_iff_eq.mpr c48
              clear c48
              by_cases c49 : t514 = 0
              · rw [if_pos c49] at H
                have c49b0 : (t514 == 0) = true := beq_iff_eq.mpr c49
                have c49b1 : (t514 != 0) = false := bne_eq_false_iff_eq.mpr c49
                clear c49
                obtain rfl := Option.some.inj H
                go_wp2_with (first | ((with_reducible refine gate_callee (f := 34) rfl ?_); refine goesL_ (some 23) rfl rfl Tryd.func34 (by kernel_rfl) rfl #[.string a0, .string a1] rfl (by (try simp only [List.map_toArray, List.map_cons, List.map_nil]); first | done | rfl | (simp only [List.length_drop, List.length_take]; rfl)) ?_; (with_reducible refine (verp_Parse.calls kj3 a0 a1 t513 t514 t515 false _ ?side1 A8.out).mono ?_); (case side1 => exact GOk.below hG (by decide) (by repeat (first | (with_reducible first | exact HB.out | apply below_alloc | apply pw_below_drewN | apply below_drew1) | exact HB.out))); rintro e w50 ⟨rfl, hb⟩; refine ⟨_, rfl, ?_⟩; have n0_ := Aside0.mk (below_step (by repeat (first | (with_reducible first | exact HB.out | apply below_alloc | apply pw_below_drewN | apply below_drew1) | exact HB.out)) hb); clear HB; have HB := n0_; clear n0_; (try clear hb); (try clear hb2); (try clear hk); (try clear hi)))
                go_ret
                exact ⟨by first | rfl | (simp [errW_none, errW_some] <;> rfl) | (simp [*, errW_none, errW_some] <;> rfl), by repeat (first | (with_reducible first | exact HB.out | apply below_alloc | apply pw_below_drewN | apply below_drew1) | exact HB.out)⟩
              · rw [if_neg c49] at H
                have c49b0 : (t514 == 0) = false := beq_eq_false_iff_ne.mpr c49
                have c49b1 : (t514 != 0) = true := bne_iff_ne.mpr c49
                obtain rfl := Option.some.inj H
                go_wp2_with (first | ((with_reducible refine gate_callee (f := 34) rfl ?_); refine goesL_ (some 23) rfl rfl Tryd.func34 (by kernel_rfl) rfl #[.string a0, .string a1] rfl (by (try simp only [List.map_toArray, List.map_cons, List.map_nil]); first | done | rfl | (simp only [List.length_drop, List.length_take]; rfl)) ?_; (with_reducible refine (verp_Parse.calls kj3 a0 a1 t513 t514 t515 false _ ?side1 A8.out).mono ?_); (case side1 => exact GOk.below hG (by decide) (by repeat (first | (with_reducible first | exact HB.out | apply below_alloc | apply pw_below_drewN | apply below_drew1) | exact HB.out))); rintro e w51 ⟨rfl, hb⟩; refine ⟨_, rfl, ?_⟩; have n0_ := Aside0.mk (below_step (by repeat (first | (with_reducible first | exact HB.out | apply below_alloc | apply pw_below_drewN | apply below_drew1) | exact HB.out)) hb); clear HB; have HB := n0_; clear n0_; (try clear hb); (try clear hb2); (try clear hk); (try clear hi)))
                go_ret
                exact ⟨by first | rfl | (simp [errW_none, errW_some] <;> rfl) | (simp [*, errW_none, errW_some] <;> rfl), by repeat (first | (with_reducible first | exact HB.out | apply below_alloc | apply pw_below_drewN | apply below_drew1) | exact HB.out)⟩
            · rw [if_neg c48] at H
              have c48b0 : (t513 == 0) = false := beq_eq_false_iff_ne.mpr c48
              have c48b1 : (t513 != 0) = true := bne_iff_ne.mpr c48
              obtain rfl := Option.some.inj H
              go_wp2_with (first | ((with_reducible refine gate_callee (f := 34) rfl ?_); refine goesL_ (some 23) rfl rfl Tryd.func34 (by kernel_rfl) rfl #[.string a0, .string a1] rfl (by (try simp only [List.map_toArray, List.map_cons, List.map_nil]); first | done | rfl | (simp only [List.length_drop, List.length_take]; rfl)) ?_; (with_reducible refine (verp_Parse.calls kj3 a0 a1 t513 t514 t515 false _ ?side1 A8.out).mono ?_); (case side1 => exact GOk.below hG (by decide) (by repeat (first | (with_reducible first | exact HB.out | apply below_alloc | apply pw_below_drewN | apply below_drew1) | exact HB.out))); rintro e w52 ⟨rfl, hb⟩; refine ⟨_, rfl, ?_⟩; have n0_ := Aside0.mk (below_step (by repeat (first | (with_reducible first | exact HB.out | apply below_alloc | apply pw_below_drewN | apply below_drew1) | exact HB.out)) hb); clear HB; have HB := n0_; clear n0_; (try clear hb); (try clear hb2); (try clear hk); (try clear hi)))
              go_ret
              exact ⟨by first | rfl | (simp [errW_none, errW_some] <;> rfl) | (simp [*, errW_none, errW_some] <;> rfl), by repeat (first | (with_reducible first | exact HB.out | apply below_alloc | apply pw_below_drewN | apply below_drew1) | exact HB.out)⟩
          · replace c47 := Bool.eq_false_iff.mpr c47
            subst c47
            have H1 : (some false) = some r := by rw [if_neg (show ¬ (false = true) by decide)] at H; exact H
            clear H
            have H := H1
            clear H1
            obtain rfl := Option.some.inj H
            go_wp2_with (first | ((with_reducible refine gate_callee (f := 34) rfl ?_); refine goesL_ (some 23) rfl rfl Tryd.func34 (by kernel_rfl) rfl #[.string a0, .string a1] rfl (by (try simp only [List.map_toArray, List.map_cons, List.map_nil]); first | done | rfl | (simp only [List.length_drop, List.length_take]; rfl)) ?_; (with_reducible refine (verp_Parse.calls kj3 a0 a1 t513 t514 t515 false _ ?side1 A8.out).mono ?_); (case side1 => exact GOk.below hG (by decide) (by repeat (first | (with_reducible first | exact HB.out | apply below_alloc | apply pw_below_drewN | apply below_drew1) | exact HB.out))); rintro e w53 ⟨rfl, hb⟩; refine ⟨_, rfl, ?_⟩; have n0_ := Aside0.mk (below_step (by repeat (first | (with_reducible first | exact HB.out | apply below_alloc | apply pw_below_drewN | apply below_drew1) | exact HB.out)) hb); clear HB; have HB := n0_; clear n0_; (try clear hb); (try clear hb2); (try clear hk); (try clear hi)))
            go_ret
            exact ⟨by first | rfl | (simp [errW_none, errW_some] <;> rfl) | (simp [*, errW_none, errW_some] <;> rfl), by repeat (first | (with_reducible first | exact HB.out | apply below_alloc | apply pw_below_drewN | apply below_drew1) | exact HB.out)⟩

end Go.Proofs.YtadnefnofbnheaaDoor.Pr
