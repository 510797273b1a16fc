/- WireAgain answers true: the plain law and the card. -/
import Derived.Test.YtadnefnofbnheaaDoorHPWire
import Derived.Test.YtadnefnofbnheaaDoorQMissivelaw02WireAgain
import Derived.KernelRfl
namespace Go.Proofs.YtadnefnofbnheaaDoor.Pr
open Go.RowKit Go.Proofs.YtadnefnofbnheaaDoorW.PrintWords Go.Proofs.YtadnefnofbnheaaDoorW.PrintLast Go.Proofs.YtadnefnofbnheaaDoorW.PrintMore

theorem small_30 : missivelaw02_small.f 30 = some true := by kernel_rfl
theorem small_ev : Ev (fun k => missivelaw02_small.f k) true := by
  refine ⟨30, fun k hk => ?_⟩
  obtain ⟨d, rfl⟩ : ∃ d, k = d + 30 := ⟨k - 30, by omega⟩
  clear hk
  dsimp only
  induction d with
  | zero => rw [Nat.zero_add]; exact small_30
  | succ d ih =>
    rw [show d + 1 + 30 = d + 30 + 1 by omega]
    exact missivelaw02_small.mono (d + 30) _ ih

theorem again_ok (k : Nat) (x0 : ByteArray) (hx : x0.size ≤ 400) (enc rest : List UInt8) (h : x0.data.toList = enc ++ rest) :
    missivelaw02_WireAgain.j0 (k + 1) x0 true ⟨enc.toArray⟩ ⟨rest.toArray⟩ false = some true := by
  have hl : x0.size = enc.length + rest.length := by rw [← ba_len, h]; simp
  have e1 : wrap64 ((x0.size : Int) - (((⟨rest.toArray⟩ : ByteArray).size : Nat) : Int)) = (enc.length : Int) := by rw [hl, sz_mk]; unfold wrap64; omega
  have e2 : mx 0 (mn (enc.length : Int) (x0.size : Int)) = (enc.length : Int) := by unfold mx mn; omega
  have e3 : ((⟨enc.toArray⟩ : ByteArray).toList == (x0.extract 0 ((enc.length : Int)).toNat).toList) = true := by
    rw [ba_toList, ba_toList, Int.toNat_natCast, ba_extract x0 0 enc.length (by omega), h]
    simp
  have hd : ∀ s f, wire_Reader_Left.f s f = some ((s.size : Int), s, f) := fun _ _ => rfl
  rw [missivelaw02_WireAgain.j0, hd, Option.bind_some]
  dsimp only
  have tail : (wire_Reader_Left.f ⟨rest.toArray⟩ false).bind (fun bt208 => (if true = true then (if (wrap64 ((x0.size : Int) - bt208.1)) ≥ 0 then (if (wrap64 ((x0.size : Int) - bt208.1)) ≤ (x0.size : Int) then (if 0 ≤ (mx 0 (mn (wrap64 ((x0.size : Int) - bt208.1)) (x0.size : Int))) then (if (mx 0 (mn (wrap64 ((x0.size : Int) - bt208.1)) (x0.size : Int))) ≤ (x0.size : Int) then (some ((⟨enc.toArray⟩ : ByteArray).toList == (x0.extract 0 ((mx 0 (mn (wrap64 ((x0.size : Int) - bt208.1)) (x0.size : Int))) : Int).toNat).toList)) else (none)) else (none)) else (some false)) else (some false)) else (some false))) = some true := by
    rw [hd, Option.bind_some]
    dsimp only
    rw [e1, e2, if_pos rfl, if_pos (by omega), if_pos (by omega), if_pos (by omega), if_pos (by omega), e3]
  by_cases h0 : ((((⟨rest.toArray⟩ : ByteArray).size : Nat) : Int)) = 0
  · rw [if_pos h0]
    unfold wire_Reader_Done.f
    rw [if_neg (by simp), Option.bind_some]
    dsimp only
    split
    · exact tail
    · rfl
  · rw [if_neg h0]
    exact tail

theorem again_bad (k : Nat) (x0 : ByteArray) (enc : ByteArray) :
    missivelaw02_WireAgain.j0 (k + 1) x0 true enc ⟨#[]⟩ true = some true := by
  unfold missivelaw02_WireAgain.j0 wire_Reader_Left.f wire_Reader_Done.f
  rfl

theorem wireAgain_ev (a0 : ByteArray) (a1 : Int) (h0 : a0.size ≤ 140737488355328) :
    Ev (fun k => missivelaw02_WireAgain.f k a0 a1) true := by
  obtain ⟨K0, hK0⟩ := small_ev
  by_cases hb : a0.size > 400
  · refine ⟨K0, fun k hk => ?_⟩
    have hs := hK0 k hk
    dsimp only at hs ⊢
    unfold missivelaw02_WireAgain.f
    rw [hs, Option.bind_some, if_pos (by omega)]
  · obtain ⟨K1, hK1⟩ := num_ev a0 false (by omega)
    obtain ⟨K2, hK2⟩ := int_ev a0 false (by omega)
    obtain ⟨K3, hK3⟩ := text_ev a0 false (by omega)
    obtain ⟨K4, hK4⟩ := nums_ev a0 (by omega)
    obtain ⟨K5, hK5⟩ := texts_ev a0 (by omega)
    refine ⟨K0 + K1 + K2 + K3 + K4 + K5 + 1, fun k hk => ?_⟩
    obtain ⟨k, rfl⟩ : ∃ m, k = m + 1 := ⟨k - 1, by omega⟩
    have q0 := hK0 (k + 1) (by omega)
    have q1 := hK1 (k + 1) (by omega)
    have q2 := hK2 (k + 1) (by omega)
    have q3 := hK3 (k + 1) (by omega)
    have q4 := hK4 (k + 1) (by omega)
    have q5 := hK5 (k + 1) (by omega)
    clear hK0 hK1 hK2 hK3 hK4 hK5
    dsimp only at q0 q1 q2 q3 q4 q5 ⊢
    unfold missivelaw02_WireAgain.f
    rw [q0, Option.bind_some, if_neg (by omega)]
    unfold wire_Open.f
    rw [Option.bind_some]
    dsimp only
    have hkind : ∃ n : Int, missivelaw02_kind.f a1 0 (⟨#[]⟩ : ByteArray) ([] : List Int) ([] : List ByteArray) = some n := by
      unfold missivelaw02_kind.f; split <;> exact ⟨_, rfl⟩
    obtain ⟨n, hn⟩ := hkind
    rw [hn, Option.bind_some]
    have hsz : (a0.data.toList).length ≤ 400 := by rw [ba_len]; omega
    by_cases n0 : n = 0
    · rw [if_pos n0, q1, Option.bind_some]
      cases hq : numR maxI 59 a0.data.toList with
      | none =>
        dsimp only
        rw [show wire_Num.f 0 = some ⟨(encInt 0).toArray⟩ from by unfold wire_Num.f; rw [if_neg (by omega), wire_Int_some 0 (by omega) (by omega)]; rfl, Option.bind_some]
        exact again_bad _ _ _
      | some p =>
        obtain ⟨v, r⟩ := p
        obtain ⟨e1, e2⟩ := (numR_iff maxI (by unfold maxI; omega) 59 rfl _ _ _).1 hq
        unfold maxI at e2
        dsimp only
        rw [show wire_Num.f (v : Int) = some ⟨(encInt (v : Int)).toArray⟩ from by unfold wire_Num.f; rw [if_neg (by omega), wire_Int_some (v : Int) (by omega) (by omega)]; rfl, Option.bind_some]
        refine again_ok k a0 (by omega) (encInt (v : Int)) r ?_
        rw [e1, encInt, Lib.itoa, if_neg (by omega)]; simp
    · rw [if_neg n0]
      by_cases n1 : n = 1
      · rw [if_pos n1, q2, Option.bind_some]
        cases hq : intR a0.data.toList with
        | none =>
          dsimp only
          rw [wire_Int_some 0 (by omega) (by omega), Option.bind_some]
          exact again_bad _ _ _
        | some p =>
          obtain ⟨v, r⟩ := p
          obtain ⟨e1, e2, e3⟩ := (intR_iff _ _ _).1 hq
          dsimp only
          rw [wire_Int_some v e2 e3, Option.bind_some]
          refine again_ok k a0 (by omega) (encInt v) r ?_
          rw [e1, encInt]; simp
      · rw [if_neg n1]
        by_cases n2 : n = 2
        · rw [if_pos n2, q3, Option.bind_some]
          cases hq : textR a0.data.toList with
          | none =>
            dsimp only
            rw [wire_Text_some ⟨#[]⟩ (by decide), Option.bind_some]
            exact again_bad _ _ _
          | some p =>
            obtain ⟨v, r⟩ := p
            obtain ⟨e1, e2⟩ := (textR_iff _ _ _).1 hq
            have hv : v.length ≤ 400 := by rw [e1] at hsz; simp [encTextL] at hsz; omega
            dsimp only
            rw [wire_Text_some ⟨v.toArray⟩ (by rw [sz_mk]; omega), Option.bind_some]
            refine again_ok k a0 (by omega) (encText ⟨v.toArray⟩) r ?_
            rw [e1, encText_eq]
        · rw [if_neg n2]
          by_cases n3 : n = 3
          · rw [if_pos n3, q4, Option.bind_some]
            cases hq : numsR a0.data.toList with
            | none =>
              dsimp only
              rw [show wire_Nums.f [] = some ⟨(encNums []).toArray⟩ from by unfold wire_Nums.f; rw [if_pos (by simp), if_pos (by simp)], Option.bind_some]
              exact again_bad _ _ _
            | some p =>
              obtain ⟨v, r⟩ := p
              obtain ⟨e1, e2⟩ := numsR_sound _ _ _ hq
              have hv : v.length ≤ 400 := by
                rw [e1] at hsz
                have : v.length ≤ (encInts v).length := by
                  clear e1 e2 hq hsz
                  induction v with
                  | nil => simp
                  | cons a v ih => simp [encInts, encInt] at ih ⊢; omega
                simp [encNums] at hsz; omega
              dsimp only
              rw [show wire_Nums.f v = some ⟨(encNums v).toArray⟩ from by unfold wire_Nums.f; rw [if_pos (by omega), if_pos e2], Option.bind_some]
              exact again_ok k a0 (by omega) (encNums v) r e1
          · rw [if_neg n3, q5, Option.bind_some]
            cases hq : textsR a0.data.toList with
            | none =>
              dsimp only
              rw [show wire_Texts.f [] = some ⟨(encTxts []).toArray⟩ from by unfold wire_Texts.f; rw [if_pos (by simp), if_pos (by simp [encStrs])], Option.bind_some]
              exact again_bad _ _ _
            | some p =>
              obtain ⟨v, r⟩ := p
              have e1 := textsR_sound _ _ _ hq
              have hv : v.length ≤ (encStrs v).length ∧ (encStrs v).length ≤ 400 := by
                rw [e1] at hsz
                refine ⟨?_, by simp [encTxts] at hsz; omega⟩
                clear e1 hq hsz
                induction v with
                | nil => simp
                | cons a v ih => simp [encStrs, encText] at ih ⊢; omega
              dsimp only
              rw [show wire_Texts.f v = some ⟨(encTxts v).toArray⟩ from by unfold wire_Texts.f; rw [if_pos (by omega), if_pos (by omega)], Option.bind_some]
              exact again_ok k a0 (by omega) (encTxts v) r e1

end Go.Proofs.YtadnefnofbnheaaDoor.Pr
