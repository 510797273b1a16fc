/- The card of VerpBack. -/
import Derived.Test.YtadnefnofbnheaaDoorVO1
import Derived.Test.YtadnefnofbnheaaDoorVO2
import Derived.Test.YtadnefnofbnheaaDoorVO3
import Derived.Test.YtadnefnofbnheaaDoorVO4
import Derived.Test.YtadnefnofbnheaaDoorVO5
import Derived.Test.YtadnefnofbnheaaDoorVO6
import Derived.Test.YtadnefnofbnheaaDoorVO7
import Derived.Test.YtadnefnofbnheaaDoorVO8
import Derived.Test.YtadnefnofbnheaaDoorVO9
import Derived.Test.YtadnefnofbnheaaDoorVO10
import Derived.Test.YtadnefnofbnheaaDoorVO11
import Derived.Test.YtadnefnofbnheaaDoorVO12
import Derived.Test.YtadnefnofbnheaaDoorVO13
import Derived.Test.YtadnefnofbnheaaDoorVO14
import Derived.Test.YtadnefnofbnheaaDoorVO15
import Derived.Test.YtadnefnofbnheaaDoorVO16
import Derived.Test.YtadnefnofbnheaaDoorVB1
namespace Go.Proofs.YtadnefnofbnheaaDoor.verpBack
open Go.ChangeShapes Go.WideShapes Go.ChangeAt Go.RowKit Go.Proofs.YtadnefnofbnheaaDoor.Pr Go.Proofs.YtadnefnofbnheaaDoorW.PrintWords

theorem own : ownKnob Tryd.prog.godebug = none := by kernel_rfl

set_option maxRecDepth 100000 in
theorem contract (H : Type) (enc : TypeId × Value → H) (W : World) (base : Nat) (args : Array Value) (ds gs : List (DataW H)) (before : List MemPlace)
    (hval : ∀ (j : Nat) t v, Tryd.f8.params[j]? = some t → args[j]? = some v → Value.okWide Tryd.prog W .any base t v)
    (hW : DataW.Whole enc Tryd.prog Tryd.f8.params.toList Rows.verpBackSpec.vars false W args.toList ds gs before)
    (hz : (DataW.weightsEach Tryd.prog (Tryd.f8.params.toList ++ (OpenSpec.ofChange Rows.verpBackSpec).bare.plain.varTypes Tryd.prog) (ds ++ gs)).all (· ≤ reachBytes) = true)
    (hk : ∀ k, (OpenSpec.ofChange Rows.verpBackSpec).cond = some k → k H (ds ++ gs) = true) (hL : laidMetH Tryd.prog Rows.verpBackRow.laid W) (hsh : W.ShapedOpen Tryd.prog) :
    Calls Tryd.prog 8 args W fun e W' => ∃ v, e = .returned v ∧ Rows.verpBackSpec.post enc Tryd.prog Tryd.f8 false true false false W args v W' := by
  have hW' := hW
  obtain ⟨p, q, hA0, hV, rfl, hfz, hnd⟩ := hW
  have hA : DataW.TrodAll enc Tryd.prog W 0 (fun _ => true) true Tryd.f8.params.toList args.toList ds p := hA0
  rw [Tryd.params8] at hA hval hz
  obtain ⟨v0, vs0, d0, ds0, p0, q0, hargs, rfl, rfl, h0, r0⟩ := trodAll_cons hA
  obtain ⟨v1, vs1, d1, ds1, p1, q1, rfl, rfl, rfl, h1, r1⟩ := trodAll_cons r0
  obtain ⟨v2, vs2, d2, ds2, p2, q2, rfl, rfl, rfl, h2, r2⟩ := trodAll_cons r1
  obtain ⟨rfl, rfl, rfl⟩ := trodAll_nil r2
  obtain rfl : args = #[v0, v1, v2] := by cases args; simp_all
  obtain ⟨rfl, rfl⟩ := trodVars_none hV
  obtain ⟨a0, rfl, rfl, rfl, hs_a0⟩ := Go.ChangeMaps.open_string Tryd.underlying9 (hval 0 9 _ rfl rfl) h0
  obtain ⟨a1, rfl, rfl, rfl, hs_a1⟩ := open_int Tryd.underlying3 (hval 1 3 _ rfl rfl) h1
  obtain ⟨a2, rfl, rfl, rfl, hs_a2⟩ := Go.ChangeMaps.open_string Tryd.underlying9 (hval 2 9 _ rfl rfl) h2
  have hst := fun (W' : World) (hb : Below W.heap.size W W') => trodAll_stay hb (by
    intro t ht
    rw [Tryd.params8] at ht
    simp only [List.mem_cons, List.not_mem_nil, or_false] at ht
    rcases ht with rfl | rfl | rfl
    all_goals exact ⟨by kernel_rfl, of_decide_eq_true (by kernel_rfl)⟩) hA0 (fun x hx => hW'.lt x (List.mem_append_left _ hx))
  simp only [List.append_nil] at hz
  have z_a0 := sized_string hz (j := 0) (t := 9) rfl rfl
  rw [Array.length_toList] at z_a0
  have z'_a0 : a0.size ≤ 140737488351232 := z_a0
  have z'_a1 := lit_i64 hs_a1
  have z_a2 := sized_string hz (j := 2) (t := 9) rfl rfl
  rw [Array.length_toList] at z_a2
  have z'_a2 : a2.size ≤ 140737488351232 := z_a2

  obtain ⟨K, hK⟩ := backLaw_ev a0 a1 a2 z'_a1.2
  have hK := hK K (Nat.le_refl _)
  have hG : GOk 2 W := g2_of hL hsh rfl rfl rfl
  refine (backLaw.calls K a0 a1 a2 _ W hG hK).mono fun e W' he => ?_
  obtain ⟨rfl, hb⟩ := he
  exact ⟨_, rfl, post_of_below hb hW' (fun _ _ _ => trodAll_cons_mk (shut_bool Tryd.underlying4 _) trodAll_mk0) (fun sp hsp => hst W' hb sp (fun x hx => hsp x (List.mem_append_left _ hx))) (fun _ _ => rfl) rfl
    (ok_one (by kernel_rfl) rfl (okWide_bool_mk Tryd.underlying4 _))⟩

theorem door_met (os : Os) : laidMetH Tryd.prog Rows.verpBackRow.laid ((World.doorLaid Tryd.prog 44 os).forCall (fun _ _ => 0) ⟨#[], #[.string ⟨#[]⟩, .int .i64 0, .string ⟨#[]⟩], []⟩).memory :=
  show laidMet Tryd.prog Rows.verpBackRow.laid _ from laidMet_of_run' 8 (by kernel_rfl) (by kernel_rfl)
theorem reads (os : Os) {H : Type} (enc : TypeId × Value → H) : ∃ places, DataW.whole enc Tryd.prog ((World.doorLaid Tryd.prog 44 os).forCall (fun _ _ => 0) ⟨#[], #[.string ⟨#[]⟩, .int .i64 0, .string ⟨#[]⟩], []⟩).memory Tryd.f8.params.toList Rows.verpBackSpec.vars false #[.string ⟨#[]⟩, .int .i64 0, .string ⟨#[]⟩].toList 8 = some ([.lit (.string []), .lit (.int .i64 0), .lit (.string [])], [], places) :=
  ⟨[], by kernel_rfl⟩

set_option maxRecDepth 100000 in
theorem lifted (os : Os) (started : os.Started) (H : Type) (enc : TypeId × Value → H) (F : Stop.Interp) :
    ReturnsInHanded {} Tryd.checked os 8 .any ((OpenSpec.ofChange Rows.verpBackSpec).preRow enc Tryd.prog Tryd.f8 Rows.verpBackRow.domain false Rows.verpBackRow.laid) (((OpenSpec.ofChange Rows.verpBackSpec).at F).post enc Tryd.prog Tryd.f8 false true false false) := by
  obtain ⟨places, hx⟩ := reads os enc
  refine returnsInHanded_of_row (C := Tryd.checked) (s := (OpenSpec.ofChange Rows.verpBackSpec)) own started (by kernel_rfl) Tryd.func8
    (witness_row_at (enc := enc) (C := Tryd.checked) false (World.doorLaid Tryd.prog 44 os) #[.string ⟨#[]⟩, .int .i64 0, .string ⟨#[]⟩] rfl (by kernel_rfl) (by kernel_rfl) (by kernel_rfl)
      (OpenSpec.preRow_of_cond 8 hx (by kernel_rfl) (fun k hk => by cases hk) (by kernel_rfl) (door_met os))) ?_
  intro W base args ds gs before hval hW _ hk hz hL hsh _
  exact contract H enc W base args ds gs before hval hW hz hk hL hsh

theorem said : Rows.VerpBackSaid :=
  OpenClaim.holds_of_cond 8 Tryd.f8 rfl rfl rfl rfl rfl rfl rfl ⟨rfl, rfl, rfl, rfl, rfl⟩ rfl rfl rfl rfl rfl (by kernel_rfl) Tryd.func8 (by kernel_rfl)
    (of_decide_eq_true (by kernel_rfl)) (by unfold Func.isWrapper; first | (rw [if_pos (by decide +kernel)]; kernel_rfl) | (rw [if_neg (by decide +kernel)]; exact ⟨rfl, rfl⟩))
    (fun os started H enc _ F => by rw [OpenClaim.pre_eq_preRow]; exact lifted os started H enc F)

theorem plain (f : FuncId) (fn : Func) (hf : Tryd.pinned.checked.prog.funcNamed "missive/missivelaw38.VerpBack" = some f) (hfn : Tryd.pinned.checked.prog.funcs[f]? = some fn) :
    false = Tryd.pinned.checked.prog.looks [] ∧ ∀ (j : Nat) t, fn.params[j]? = some t → Tryd.pinned.checked.prog.wantsStandIn t = false := by
  obtain rfl : f = 8 := Option.some.inj ((show Tryd.prog.funcNamed "missive/missivelaw38.VerpBack" = some 8 by kernel_rfl).symm.trans hf) |>.symm
  obtain rfl : fn = Tryd.f8 := (Option.some.inj (Tryd.func8.symm.trans hfn)).symm
  refine ⟨by kernel_rfl, fun j t ht => ?_⟩
  rw [Tryd.params8] at ht
  rcases j with _ | j
  · obtain rfl : t = 9 := by simpa using ht.symm
    exact (show Tryd.prog.wantsStandIn 9 = false by kernel_rfl)
  rcases j with _ | j
  · obtain rfl : t = 3 := by simpa using ht.symm
    exact (show Tryd.prog.wantsStandIn 3 = false by kernel_rfl)
  rcases j with _ | j
  · obtain rfl : t = 9 := by simpa using ht.symm
    exact (show Tryd.prog.wantsStandIn 9 = false by kernel_rfl)
  simp at ht

/-- The card. -/
theorem card : Rows.VerpBackCardSaid :=
  Claim7.holds_tied_plain_at .later [] _ _ _ _ said (fun _ h => by cases h) (by kernel_rfl) (fun _ h => by cases h) verpBack_row_tie rfl ⟨rfl, rfl⟩ (by kernel_rfl) rfl plain (by kernel_rfl)
end Go.Proofs.YtadnefnofbnheaaDoor.verpBack
