/- Part 12 of the proof: HWords. -/
import Derived.Test.YtadnefnofbnheaaDoorTT7
import Derived.Test.YtadnefnofbnheaaDoorTT1
import Derived.Test.YtadnefnofbnheaaDoorTT6
import Derived.RangeFuncNested
import Derived.RangeFuncBound
import Derived.RangeFuncCalls
import Derived.RangeFuncLeaves
import Derived.RangeFuncBox
import Derived.Shelf.Abstract
import Derived.Shelf.RegionOpen
import Derived.WalkKit
import Derived.OwnWalkIn
import Derived.TacticsInMore
import Derived.LoopNIn
import Derived.LoopIn
import Derived.Maps.AppendAt
import Derived.Deep.DeepMust
/- The words of a string: the iterator text.words, and Fields and Squeeze, which range over it. -/
namespace Go.Proofs.YtadnefnofbnheaaDoor.Pr
open Go.RowKit Go.Shelf Go.Proofs.YtadnefnofbnheaaDoorW.PrintWords Go.Proofs.YtadnefnofbnheaaDoorW.PrintLast Go.Proofs.YtadnefnofbnheaaDoorW.PrintMore
attribute [local go_sem] Oper.semAt_some

/-! ### the words -/
def isW (c : UInt8) : Bool := c.toNat == 9 || c.toNat == 10 || c.toNat == 13 || c.toNat == 32
/-- The words of l, where cur is what of a word has come. -/
def wordsL : List UInt8 → List UInt8 → List (List UInt8)
  | [], cur => if cur = [] then [] else [cur]
  | c :: r, cur => if isW c = true then (if cur = [] then wordsL r [] else cur :: wordsL r []) else wordsL r (cur ++ [c])
def wordsB (s : ByteArray) : List ByteArray := (wordsL s.data.toList []).map fun l => ⟨l.toArray⟩

theorem wordsL_cur (l cur : List UInt8) (hc : cur ≠ []) (h : l = [] ∨ ∃ c r, l = c :: r ∧ isW c = true) : wordsL l cur = cur :: wordsL l [] := by
  rcases h with rfl | ⟨c, r, rfl, h⟩
  · simp [wordsL, hc]
  · simp [wordsL, hc, h]

theorem wordsL_total : ∀ (l cur : List UInt8), ((wordsL l cur).flatten).length ≤ cur.length + l.length ∧ (wordsL l cur).length ≤ cur.length + l.length ∧ ∀ x ∈ wordsL l cur, x.length ≤ cur.length + l.length := by
  intro l
  induction l with
  | nil =>
    intro cur
    by_cases hc : cur = []
    · simp [wordsL, hc]
    · have : 0 < cur.length := List.length_pos_iff.2 hc
      simp [wordsL, hc]; omega
  | cons c r ih =>
    intro cur
    simp only [wordsL]
    split
    · split
      · have := ih []
        simp at this ⊢
        refine ⟨by omega, by omega, fun x hx => ?_⟩
        have := this.2.2 x hx
        omega
      · rename_i hc
        have : 0 < cur.length := List.length_pos_iff.2 hc
        have h := ih []
        simp at h ⊢
        refine ⟨by omega, by omega, fun x hx => ?_⟩
        have := h.2.2 x hx
        omega
    · have h := ih (cur ++ [c])
      simp at h ⊢
      refine ⟨by omega, by omega, fun x hx => ?_⟩
      have := h.2.2 x hx
      omega

/-- A word of at most a million bytes. -/
abbrev Wd := { x : ByteArray // x.size ≤ 1000000 }

theorem white_at (s : ByteArray) (i : Nat) (h : i < s.size) : ∃ r, s.data.toList.drop i = s[i] :: r ∧ s.data.toList.drop (i + 1) = r := by
  have hl : i < s.data.toList.length := by rw [ba_len]; exact h
  exact ⟨s.data.toList.drop (i + 1), (List.drop_eq_getElem_cons hl), rfl⟩

set_option maxHeartbeats 1000000 in
theorem white_w (c : UInt8) (w : World) : Calls Tryd.prog 108 #[.int .u8 c.toNat] w fun e w' => e = .returned (.bool (isW c)) ∧ w' = w := by
  have H : isW c = (((c.toNat : Int) == 9) || ((c.toNat : Int) == 10) || ((c.toNat : Int) == 13) || ((c.toNat : Int) == 32)) := by
    unfold isW
    rw [Bool.eq_iff_iff]
    simp
    omega
  rw [H]
  clear H
  generalize (c.toNat : Int) = a0
  by_cases c2 : a0 = 9
  · subst c2
    go_enter Tryd.func108, Tryd.ntmps108
    go_wp2
    go_ret
    exact ⟨rfl, rfl⟩
  · have c2b0 : (a0 == 9) = false := beq_eq_false_iff_ne.mpr c2
    by_cases c3 : a0 = 10
    · subst c3
      go_enter Tryd.func108, Tryd.ntmps108
      go_wp2
      go_ret
      exact ⟨rfl, rfl⟩
    · have c3b0 : (a0 == 10) = false := beq_eq_false_iff_ne.mpr c3
      by_cases c4 : a0 = 13
      · subst c4
        go_enter Tryd.func108, Tryd.ntmps108
        go_wp2
        go_ret
        exact ⟨rfl, rfl⟩
      · have c4b0 : (a0 == 13) = false := beq_eq_false_iff_ne.mpr c4
        rw [c2b0, c3b0, c4b0]
        go_enter Tryd.func108, Tryd.ntmps108
        go_wp2
        go_ret
        exact ⟨rfl, rfl⟩

theorem List.drop_take_self_nil (l : List UInt8) (k : Nat) : (l.take k).drop k = [] := by
  apply List.drop_eq_nil_of_le
  simp
  omega

theorem wordsL_take (l : List UInt8) (c : UInt8) (r : List UInt8) (m k : Nat) (hk : k ≤ m) (h : l.drop m = c :: r) (hc : isW c = false) :
    wordsL (l.drop m) ((l.take m).drop k) = wordsL (l.drop (m + 1)) ((l.take (m + 1)).drop k) := by
  have hm : m < l.length := by
    rcases Nat.lt_or_ge m l.length with h' | h'
    · exact h'
    · rw [List.drop_eq_nil_of_le h'] at h; cases h
  have h2 : l.drop (m + 1) = r := by rw [← List.drop_drop, h]; rfl
  have h3 : l[m] = c := by
    have := List.drop_eq_getElem_cons hm
    rw [h] at this
    exact (List.cons.inj this).1.symm
  rw [h, h2, wordsL, hc, if_neg (by simp)]
  congr 1
  rw [List.take_succ_eq_append_getElem hm, List.drop_append_of_le_length (by simp; omega), h3]

theorem words_size (s : ByteArray) (k m : Nat) (hs : s.size ≤ 1000000) (hm : m ≤ s.size) : (s.extract k m).size ≤ 1000000 := by
  rw [← ba_len, ba_extract s k m hm]
  simp
  try rw [ba_len]
  omega

theorem words_step (s : ByteArray) (k m : Nat) (pre : List Wd) (hkm : k < m) (hm : m ≤ s.size)
    (hW : wordsL s.data.toList [] = pre.map (fun x => x.1.data.toList) ++ wordsL (s.data.toList.drop k) [])
    (hM : wordsL (s.data.toList.drop k) [] = wordsL (s.data.toList.drop m) ((s.data.toList.take m).drop k))
    (he : s.data.toList.drop m = [] ∨ ∃ c r, s.data.toList.drop m = c :: r ∧ isW c = true) (hs : s.size ≤ 1000000 := by assumption) :
    pre.length < 1000000 ∧ wordsL s.data.toList [] = (pre ++ [(⟨s.extract k m, words_size s k m hs hm⟩ : Wd)]).map (fun x => x.1.data.toList) ++ wordsL (s.data.toList.drop m) [] := by
  have hc : (s.data.toList.take m).drop k ≠ [] := by
    intro h
    have := congrArg List.length h
    simp at this
    try rw [ba_len] at this
    omega
  rw [wordsL_cur _ _ hc he] at hM
  have h2 : wordsL s.data.toList [] = (pre ++ [(⟨s.extract k m, words_size s k m hs hm⟩ : Wd)]).map (fun x => x.1.data.toList) ++ wordsL (s.data.toList.drop m) [] := by
    rw [hW, hM, List.map_append, List.map_singleton, ba_extract s k m hm]
    simp
  refine ⟨?_, h2⟩
  have h3 := (wordsL_total s.data.toList []).2.1
  rw [h2] at h3
  simp at h3
  try rw [ba_len] at h3
  omega

set_option maxRecDepth 100000 in
set_option maxHeartbeats 4000000 in
theorem words1_in (n : Nat) (hn : 1 ≤ n) (l Bn : Nat) (s : ByteArray) (hs : s.size ≤ 1000000) (J Jx : List Wd → World → Prop)
    (hY : ∀ pre x W, J pre W → pre.length < 1000000 → YieldAt Fence.wide (n - 1) Tryd.prog l #[.string x.1] W fun e W' =>
      (e = .returned (.bool true) ∧ J (pre ++ [x]) W' ∧ W'.heap[Bn]? = W.heap[Bn]?) ∨ (e = .returned (.bool false) ∧ Jx (pre ++ [x]) W'))
    (W : World) (hBn : W.heap[Bn]? = some (.cells #[.string s] 9 (0, 0))) (h0 : J [] W) :
    CallsIn Fence.wide n Tryd.prog 143 #[.func (.yield l) #[] #[], .pointer (some ⟨Bn, 0, none⟩)] W fun e W' => (∃ v, e = .returned v) ∧
      ((∃ ys : List Wd, ys.map (fun x => x.1.data.toList) = wordsL s.data.toList [] ∧ J ys W') ∨ (∃ pre, True ∧ Jx pre W')) := by
  refine callsIn_of_wp Tryd.func143 rfl trivial ?_ rfl
  simp only [Tryd.ntmps143, List.size_toArray, List.length_cons, List.length_nil, Nat.reduceAdd, Nat.reduceSub, Array.replicate_succ, Array.replicate_zero, List.push_toArray, List.append_toArray, List.nil_append, List.cons_append]
  gi_wp2
  gi_loopw [3] (fun p wr => ∃ (k : Nat) (pre : List Wd), p = .int .i64 k ∧ k ≤ s.size ∧ Aside0 (wordsL s.data.toList [] = pre.map (fun x => x.1.data.toList) ++ wordsL (s.data.toList.drop k) []) ∧ Aside0 (J pre wr) ∧ Aside0 (wr.heap[Bn]? = some (.cells #[.string s] 9 (0, 0))))
    (fun p _ => s.size - (intOf p).toNat)
  case atStart => exact ⟨0, [], rfl, Nat.zero_le _, ⟨rfl⟩, ⟨h0⟩, ⟨hBn⟩⟩
  case round =>
    obtain ⟨k, pre, rfl, hk, HW, HJ, HB⟩ := hrel
    have hcell : wr.cell? ⟨Bn, 0, none⟩ = some (.string s) := by rw [Lib.cell_of_heap HB.out]; rfl
    by_cases hlt : k < s.size
    · obtain ⟨r, h1, h2⟩ := white_at s k hlt
      have HD := Aside0.mk (And.intro h1 h2)
      clear h1 h2
      cases hw : isW s[k] with
      | true =>
        gi_wp2_with (refine ⟨trivial, ?_⟩; gi_at_call 108; refine (callsIn_wide.2 (white_w _ _)).mono ?_; rintro e w1 ⟨rfl, rfl⟩; try rw [hw])
        go_roundw
        case rel =>
          refine ⟨k + 1, pre, by simp, by omega, ⟨?_⟩, HJ, HB⟩
          rw [HW.out, HD.out.1, HD.out.2, wordsL, hw, if_pos rfl, if_pos rfl]
        case measure => simp [intOf]; omega
      | false =>
        gi_wp2_with (refine ⟨trivial, ?_⟩; gi_at_call 108; refine (callsIn_wide.2 (white_w _ _)).mono ?_; rintro e w1 ⟨rfl, rfl⟩; try rw [hw])
        gi_loopw [3] (fun p wq => ∃ m : Nat, p = .int .i64 m ∧ k ≤ m ∧ m ≤ s.size ∧ wq = w1 ∧ Aside0 (wordsL (s.data.toList.drop k) [] = wordsL (s.data.toList.drop m) ((s.data.toList.take m).drop k)))
          (fun p _ => s.size - (intOf p).toNat)
        case atStart =>
          refine ⟨k, rfl, Nat.le_refl _, by omega, rfl, ⟨?_⟩⟩
          rw [List.drop_take_self_nil]
        case round =>
          obtain ⟨m, rfl, hkm, hms, rfl, HM⟩ := hrel
          by_cases hmt : m < s.size
          · obtain ⟨r2, h1, h2⟩ := white_at s m hmt
            have HD2 := Aside0.mk (And.intro h1 h2)
            clear h1 h2
            cases hw2 : isW s[m] with
            | false =>
              gi_wp2_with (refine ⟨trivial, ?_⟩; gi_at_call 108; refine (callsIn_wide.2 (white_w _ _)).mono ?_; rintro e w1 ⟨rfl, rfl⟩; try rw [hw2])
              go_roundw
              case rel =>
                refine ⟨m + 1, by simp, by omega, by omega, by first | rfl | trivial, ⟨?_⟩⟩
                rw [HM.out]
                exact wordsL_take _ _ _ _ _ hkm HD2.out.1 hw2
              case measure => simp [intOf]; omega
            | true =>
              have hkm' : k < m := by
                rcases Nat.lt_or_ge k m with h | h
                · exact h
                · obtain rfl : k = m := by omega
                  rw [hw] at hw2
                  cases hw2
              obtain ⟨hlen, hnew⟩ := words_step s k m pre hkm' hms HW.out HM.out (.inr ⟨_, _, HD2.out.1, hw2⟩)
              obtain ⟨fn, tmps, assign, body, hy, hR⟩ := hY pre ⟨s.extract k m, words_size s k m hs hms⟩ _ HJ.out hlen
              dsimp only at hy
              gi_wp2_with (refine ⟨trivial, ?_⟩; gi_at_call 108; refine (callsIn_wide.2 (white_w _ _)).mono ?_; rintro e w1 ⟨rfl, rfl⟩; try rw [hw2])
              refine hR.mono ?_
              rintro e W3 (⟨rfl, hJ3, hk3⟩ | ⟨rfl, hJx3⟩)
              · gi_wp2
                go_roundw
                case rel => exact ⟨m, _, rfl, hms, ⟨hnew⟩, ⟨hJ3⟩, ⟨hk3.trans HB.out⟩⟩
                case measure => simp [intOf]; omega
              · gi_wp2
                refine bodyPost_ret (results_none rfl _ _ _) rfl ?_
                exact ⟨⟨_, rfl⟩, .inr ⟨_, trivial, hJx3⟩⟩
          · obtain rfl : m = s.size := by omega
            have hkm' : k < s.size := hlt
            obtain ⟨hlen, hnew⟩ := words_step s k s.size pre hkm' hms HW.out HM.out (.inl (by rw [← ba_len, List.drop_length]))
            obtain ⟨fn, tmps, assign, body, hy, hR⟩ := hY pre ⟨s.extract k s.size, words_size s k s.size hs hms⟩ _ HJ.out hlen
            dsimp only at hy
            gi_wp2
            refine ⟨trivial, ?_⟩
            gi_wp2
            refine hR.mono ?_
            rintro e W3 (⟨rfl, hJ3, hk3⟩ | ⟨rfl, hJx3⟩)
            · gi_wp2
              go_roundw
              case rel => exact ⟨s.size, _, rfl, hms, ⟨hnew⟩, ⟨hJ3⟩, ⟨hk3.trans HB.out⟩⟩
              case measure => simp [intOf]; omega
            · gi_wp2
              refine bodyPost_ret (results_none rfl _ _ _) rfl ?_
              exact ⟨⟨_, rfl⟩, .inr ⟨_, trivial, hJx3⟩⟩
    · obtain rfl : k = s.size := by omega
      gi_wp2
      go_end0
      refine ⟨⟨_, rfl⟩, .inl ⟨pre, ?_, HJ.out⟩⟩
      have := HW.out
      rw [← ba_len, List.drop_length] at this
      simpa [wordsL] using this.symm

set_option maxHeartbeats 1000000 in
theorem words_in (n : Nat) (s : ByteArray) (w : World) :
    CallsIn Fence.wide n Tryd.prog 110 #[.string s] w fun e w' => e = .returned (.func (.func 143) #[] #[.pointer (some ⟨w.heap.size, 0, none⟩)]) ∧ w' = w.alloc (.cells #[.string s] 9) := by
  refine callsIn_of_wp Tryd.func110 rfl trivial ?_ rfl
  simp only [Tryd.ntmps110, List.size_toArray, List.length_cons, List.length_nil, Nat.reduceAdd, Nat.reduceSub, Array.replicate_succ, Array.replicate_zero, List.push_toArray, List.append_toArray, List.nil_append, List.cons_append]
  gi_wp2
  go_ret
  exact ⟨rfl, rfl⟩

/-- Block b stands. -/
def KpB (b : Nat) (W W' : World) : Prop := W'.heap[b]? = W.heap[b]?
theorem KpB.trans {b : Nat} {A B C : World} (h : KpB b A B) (k : KpB b B C) : KpB b A C := Eq.trans k h

theorem words_stops (n : Nat) (hn : 1 ≤ n) (Bn : Nat) (s : ByteArray) (hs : s.size ≤ 1000000) (w : World) (hb : Boxed w Bn 9 (.string s)) :
    SeqStopsK Fence.wide n Tryd.prog 143 #[.pointer (some ⟨Bn, 0, none⟩)] (fun x : Wd => #[Value.string x.1]) (KpB Bn) (fun ys => ys.map (fun x => x.1.data.toList) = wordsL s.data.toList []) (fun _ => True) 1000000 w :=
  fun l J Jx W hW _ _ hY h0 => words1_in n hn l Bn s hs J Jx hY W ((hW.block Bn hb.lt).trans hb) h0

theorem info_str : (Tryd.prog.info? 9).map (fun i => (i.zero, i.size, i.bytes)) = some (some (.string ⟨#[]⟩), 1, 16) := by kernel_rfl

theorem keep_row {W w1 : World} {B base e size k n : Nat} {v : Value} {xs : List Value} {tmp : Obj} (u : Value) (hrow : W.ownsRow base e size v k xs) (hgrow : (W.alloc tmp).grownBy w1 v.ownBlock) (hn : n < W.heap.size) (hb : n < base) (hB : n ≠ B) : KpB n W (w1.setCell ⟨B, 0, none⟩ u) := by
  unfold KpB
  rw [Below.heap_setCell _ _ _ _ hB, hgrow.block n (by simp; omega) (fun e' => ?_), Below.heap_alloc _ _ _ hn]
  have := (hrow.lt n e'.symm).1
  omega

def text_Fields.f (a0 : ByteArray) : Option (List ByteArray) := if a0.size ≤ 1000000 then some (wordsB a0) else none

set_option maxRecDepth 100000 in
set_option maxHeartbeats 4000000 in
theorem text_Fields.calls (a0 : ByteArray) (r : List ByteArray) (w : World) (_hG : GOk 0 w) (h : text_Fields.f a0 = some r) :
    Calls Tryd.prog 58 #[.string a0] w fun e w' => ∃ v0_ : Value, e = .returned (v0_) ∧ Kd.R Kd.string 9 w' w.heap.size (fun _ => True) v0_ r ∧ Below w.heap.size w w' := by
  unfold text_Fields.f at h
  split at h
  case isFalse => cases h
  rename_i hs
  obtain rfl := Option.some.inj h
  clear h
  refine (callsIn_wide (n := 4)).1 ?_
  obtain ⟨i0, hi, hz0, hz1, hz2⟩ := info_parts info_str
  refine callsIn_of_wp_marks Tryd.func58 rfl trivial ?_ rfl
  simp only [Tryd.ntmps58, List.size_toArray, List.length_cons, List.length_nil, Nat.reduceAdd, Nat.reduceSub, Array.replicate_succ, Array.replicate_zero, List.push_toArray, List.append_toArray, List.nil_append, List.cons_append]
  gi_wp2_with (refine ⟨trivial, ?_⟩; gi_at_call 110; refine (words_in _ _ _).mono ?_; rintro e w' ⟨rfl, rfl⟩)
  have bO := Boxed.new w 27 (.slice none 0 0)
  have bN := Boxed.new (w.alloc (.cells #[.slice none 0 0] 27)) 9 (.string a0)
  rw [World.size_alloc] at bN
  have hB0 : Below w.heap.size w ((w.alloc (.cells #[.slice none 0 0] 27)).alloc (.cells #[.string a0] 9)) := ((Below.refl _ w).alloc (Nat.le_refl _) _).alloc (by simp) _
  refine wpIn_rangeFunc_ownG rfl (by omega) (gf := 143) (lb := #[.pointer (some ⟨w.heap.size + 1, 0, none⟩)]) rfl trivial (enters_of Tryd.func143 (by kernel_rfl) rfl)
    (words_stops _ (by omega) (w.heap.size + 1) a0 hs _ bN) (fun h k => KpB.trans h k) (fun W l o o' hl _ _ _ => ?kb) (Below.refl _ _) (fun _ => rfl)
    (fun pre W => (∃ v, Boxed W w.heap.size 27 v ∧ W.ownsRow (w.heap.size + 2) 9 1 v pre.length (pre.map (fun x => Value.string x.1)) ∧ True) ∧ Boxed W (w.heap.size + 1) 9 (.string a0) ∧ Below w.heap.size w W)
    (fun _ _ _ => False)
    (OwnFrom.and (Own.from (holdsRow_own (w.heap.size + 2) w.heap.size 27 9 1 (fun pre : List Wd => pre.length) (fun pre => pre.map (fun x => Value.string x.1)) (fun _ _ => True)) _) (OwnFrom.and (Own.from (boxed_own _ _ _) _) (ownFrom_below (Nat.le_refl _) (by simp; omega))))
    (fun _ _ _ _ _ hs _ _ => hs)
    ⟨⟨_, bO.alloc _, World.ownsRow_nil _ _ _ _, trivial⟩, bN, hB0⟩
    (fun x => { tmps := #[.string a0, undef, .slice none 0 0, .pointer (some ⟨w.heap.size, 0, none⟩), .string x.1, .string a0, .func (.func 143) #[] #[.pointer (some ⟨w.heap.size + 1, 0, none⟩)], .string x.1, undef, undef, undef, undef, undef], defers := [] }) ?assign ?body ?done ?stop
  case kb =>
    unfold KpB
    exact World.putObj_heap_other (by simp at hl; omega)
  case assign =>
    intro l x W K hK
    gi_wp2
    exact hK
  case body =>
    rintro l pre x W ⟨⟨v, hv, hrow, -⟩, hbx, hB⟩ hlt
    have hc := hv.cell
    have hsz := hbx.lt
    gi_wp2_with (gi_at_builtin; go_must (refine wpListIn_append_own _ rfl _ _ 27 rfl (w.heap.size + 2) 9 i0 (.string ⟨#[]⟩) 1 16 Tryd.underlying27 hi hz0 hz1 hz2 rfl (by decide) _ _ _ rfl (hrow.alloc _) ⟨W.heap.size, 0, none⟩ 1 1 [.string x.1] rfl rfl (cell_one_new _ _ _) (by simp [Value.oneCell']) (by unfold maxLen; omega) (by omega) (by simp; omega) ?_; intro v' w1 hown' hgrow _; obtain ⟨g', cap', rfl⟩ := ownsRow_succ hown'; obtain ⟨hv1, hv2, hr2, hk2, hb2⟩ := hv.appended (by decide) (own_weaken (base' := w.heap.size) hrow (by omega)) hB.size (Nat.le_refl _) (own_weaken (base' := w.heap.size) hown' (by omega)) hgrow; have hc1 := hv1.cell; have hf1 := hv1.frozen))
    have hkp := keep_row (n := w.heap.size + 1) (B := w.heap.size) (.slice (some ⟨g', 0, none⟩) (pre.length + 1) cap') hrow hgrow hsz (by omega) (by omega)
    refine ⟨hk2.from _, hkp, ⟨_, hv2, ?_, trivial⟩, Eq.trans hkp hbx, hB.trans hb2⟩
    have := hown'.kept (grownBy_setCell' w1 w.heap.size (.slice (some ⟨g', 0, none⟩) (pre.length + 1) cap')) (.inr (hv1.not_row (by decide) hown').symm)
    simpa using this
  case done =>
    rintro D ys W hD hys ⟨⟨v, hv, hrow, -⟩, hbx, hB⟩ hK
    have hc := hv.cell
    gi_wp2
    refine ⟨by simp, .inl ⟨_, _, rfl, run_takeDeferred hK, ?_⟩⟩
    refine ⟨_, results_tmp rfl _ _ _, v, rfl, ?_, hB.trans (belowK_b (w := w) (Nat.le_refl _) W D _ _ (by simp at hD; omega) hK rfl rfl)⟩
    have hL : wordsB a0 = ys.map (fun x => x.1) := by
      unfold wordsB
      rw [← hys, List.map_map]
      apply List.map_congr_left
      intro x _
      exact ba_eta x.1
    rw [hL]
    refine Kd.R_of_own ?_ (fun _ _ => trivial)
    have := own_weaken (base' := w.heap.size) (ownsRow_putObj hrow (.deferred none) hK rfl) (by omega)
    simpa [encs, Function.comp_def] using this
  case stop =>
    rintro D c pre W _ _ h _
    exact h.elim

/-! ### Squeeze -/
def sqz (l : List (List UInt8)) : List UInt8 := l.foldl (fun b x => (if b = [] then b else b ++ [32]) ++ x) []
theorem sqz_snoc (l : List (List UInt8)) (x : List UInt8) : sqz (l ++ [x]) = (if sqz l = [] then sqz l else sqz l ++ [32]) ++ x := by
  unfold sqz
  rw [List.foldl_append]
  rfl
theorem sqz_len (l : List Wd) : (sqz (l.map fun x => x.1.data.toList)).length ≤ l.length * 1000001 := by
  suffices h : ∀ (l : List Wd) (b : List UInt8), ((l.map fun x => x.1.data.toList).foldl (fun b x => (if b = [] then b else b ++ [32]) ++ x) b).length ≤ b.length + l.length * 1000001 by
    have := h l []
    simpa [sqz] using this
  intro l
  induction l with
  | nil => intro b; simp
  | cons x l ih =>
    intro b
    have h1 := ih ((if b = [] then b else b ++ [32]) ++ x.1.data.toList)
    have h2 := x.2
    simp only [List.map_cons, List.foldl_cons]
    refine Nat.le_trans h1 ?_
    rw [List.length_append, ba_len, List.length_cons]
    split
    · omega
    · rw [List.length_append, List.length_singleton]; omega

theorem Bld.block {B b : Nat} {l : List UInt8} {w : World} (h : Bld B b l w) : ∃ c fz, w.heap[b]? = some (.cells c 101 fz) := by
  rcases h with h | h
  all_goals
    obtain ⟨_, v, hb, _⟩ := h
    exact ⟨_, _, hb⟩
theorem Bld.keeps {B b : Nat} {l : List UInt8} {W W' : World} (h : Bld B b l W) (hs : W.heap.size ≤ W'.heap.size) (hk : Lib.OthersKept 5 (some b) W W') (B' : Nat) : KeepsFrom B' W W' := by
  refine ⟨hs, fun k o _ hk' ho => hk k o hk' ?_ ?_⟩
  · intro e
    cases e
    obtain ⟨c, fz, hb⟩ := h.block
    rw [hb] at hk'
    cases hk'
    cases ho
  · rintro c fz rfl
    cases ho
theorem Bld.own {β : Type} (B b : Nat) (f : β → List UInt8) : Own (fun s W => Bld B b (f s) W) := by
  rintro s X Y row h hg hrow
  have key : ∀ p, Lib.BuilderAtF 101 5 B b p (Lib.byteCells (f s)) X → Lib.BuilderAtF 101 5 B b p (Lib.byteCells (f s)) Y := by
    intro p h
    have hlt := h.lt
    obtain ⟨hB, v, hbk, hown, hne⟩ := h
    refine ⟨hB, v, (hg.block b hlt (fun e => ?_)).trans hbk, ⟨hown.1, ?_⟩, hne⟩
    · obtain ⟨o, ho, hc⟩ := hrow b e.symm
      rw [hbk] at ho; cases ho; cases hc
    · rcases hown.2 with h0 | ⟨g, cap, cur, fz, hv, hg', hh, r⟩
      · exact .inl h0
      · refine .inr ⟨g, cap, cur, fz, hv, hg', (hg.block g (Array.getElem?_eq_some_iff.1 hh).1 (fun e => ?_)).trans hh, r⟩
        obtain ⟨o, ho, hc⟩ := hrow g e.symm
        rw [hh] at ho; cases ho; cases hc
  exact h.elim (fun x => .inl (key _ x)) (fun x => .inr (key _ x))
theorem boxed_others {W W' : World} {B b : Nat} {v : Value} (h : Boxed W B 9 v) (hk : Lib.OthersKept 5 (some b) W W') (hne : B ≠ b) : Boxed W' B 9 v :=
  hk B _ h (fun e => hne (by cases e; rfl)) (fun c fz e => by cases e)

def text_Squeeze.f (a0 : ByteArray) : Option ByteArray := if a0.size ≤ 1000000 then some ⟨(sqz (wordsL a0.data.toList [])).toArray⟩ else none

set_option maxRecDepth 100000 in
set_option maxHeartbeats 4000000 in
theorem text_Squeeze.calls (a0 : ByteArray) (r : ByteArray) (w : World) (_hG : GOk 0 w) (h : text_Squeeze.f a0 = some r) :
    Calls Tryd.prog 52 #[.string a0] w fun e w' => e = .returned (.string r) ∧ Below w.heap.size w w' := by
  unfold text_Squeeze.f at h
  split at h
  case isFalse => cases h
  rename_i hs
  obtain rfl := Option.some.inj h
  clear h
  refine (callsIn_wide (n := 4)).1 ?_
  refine callsIn_of_wp_marks Tryd.func52 rfl trivial ?_ rfl
  simp only [Tryd.ntmps52, List.size_toArray, List.length_cons, List.length_nil, Nat.reduceAdd, Nat.reduceSub, Array.replicate_succ, Array.replicate_zero, List.push_toArray, List.append_toArray, List.nil_append, List.cons_append]
  gi_wp2_with (refine ⟨trivial, ?_⟩; gi_at_call 110; refine (words_in _ _ _).mono ?_; rintro e w' ⟨rfl, rfl⟩)
  have bO := Bld.fresh w.heap.size w (Nat.le_refl _)
  have bN := Boxed.new (w.alloc (.cells #[.pointer none, .slice none 0 0] 101)) 9 (.string a0)
  rw [World.size_alloc] at bN
  have hB0 : Below w.heap.size w ((w.alloc (.cells #[.pointer none, .slice none 0 0] 101)).alloc (.cells #[.string a0] 9)) := ((Below.refl _ w).alloc (Nat.le_refl _) _).alloc (by simp) _
  refine wpIn_rangeFunc_ownG rfl (by omega) (gf := 143) (lb := #[.pointer (some ⟨w.heap.size + 1, 0, none⟩)]) rfl trivial (enters_of Tryd.func143 (by kernel_rfl) rfl)
    (words_stops _ (by omega) (w.heap.size + 1) a0 hs _ bN) (fun h k => KpB.trans h k) (fun W l o o' hl _ _ _ => ?kb) (Below.refl _ _) (fun _ => rfl)
    (fun pre W => Bld w.heap.size w.heap.size (sqz (pre.map fun x => x.1.data.toList)) W ∧ Boxed W (w.heap.size + 1) 9 (.string a0) ∧ Below w.heap.size w W)
    (fun _ _ _ => False)
    (OwnFrom.and (Own.from (Bld.own w.heap.size w.heap.size (fun pre : List Wd => sqz (pre.map fun x => x.1.data.toList))) _) (OwnFrom.and (Own.from (boxed_own _ _ _) _) (ownFrom_below (Nat.le_refl _) (by simp; omega))))
    (fun _ _ _ _ _ hs _ _ => hs)
    ⟨bO.alloc _, bN, hB0⟩
    (fun x => { tmps := #[.string a0, undef, .string ⟨#[]⟩, .pointer (some ⟨w.heap.size, 0, none⟩), .string x.1, .string a0, .func (.func 143) #[] #[.pointer (some ⟨w.heap.size + 1, 0, none⟩)], .string x.1, undef, undef, undef, undef, undef, undef], defers := [] }) ?assign ?body ?done ?stop
  case kb =>
    unfold KpB
    exact World.putObj_heap_other (by simp at hl; omega)
  case assign =>
    intro l x W K hK
    gi_wp2
    exact hK
  case body =>
    rintro l pre x W ⟨hb, hbx, hB⟩ hlt
    have hsz := hbx.lt
    have hln := sqz_len pre
    have hxs := x.2
    have hsn := sqz_snoc (pre.map fun x => x.1.data.toList) x.1.data.toList
    have HSN := Aside0.mk hsn
    clear hsn
    obtain ⟨q, hq⟩ : ∃ q, sqz (pre.map fun x => x.1.data.toList) = q := ⟨_, rfl⟩
    rw [hq] at hb hln HSN
    have HQ := Aside0.mk hq
    clear hq
    cases q with
    | nil =>
      gi_wp2_with (first
        | (refine ⟨trivial, ?_⟩; gi_at_call 111; go_must (refine (CallsIn.inRound l (callsIn_wide.2 (bld_Len _ _ _ _ hb))).mono ?_; rintro e w1 ⟨rfl, rfl⟩))
        | (refine ⟨trivial, ?_⟩; gi_at_call 113; go_must (refine (CallsIn.inRound l (callsIn_wide.2 (bld_WriteString _ _ _ x.1 _ hb (by simp; omega) (by omega)))).mono ?_; rintro e w1 ⟨rfl, hb1, hw1, hk1⟩)))
      have hbx1 := boxed_others hbx hk1 (by omega)
      refine ⟨hb.keeps hw1.size hk1 _, Eq.trans hbx1 hbx.symm, ?_, hbx1, hB.trans hw1⟩
      rw [List.map_append, List.map_singleton, HSN.out]
      exact hb1
    | cons c t =>
      gi_wp2_with (first
        | (refine ⟨trivial, ?_⟩; gi_at_call 111; go_must (refine (CallsIn.inRound l (callsIn_wide.2 (bld_Len _ _ _ _ hb))).mono ?_; rintro e w1 ⟨rfl, rfl⟩))
        | (refine ⟨trivial, ?_⟩; gi_at_call 112; go_must (refine (CallsIn.inRound l (callsIn_wide.2 (bld_WriteByte _ _ _ 32 _ hb (by omega) (by omega)))).mono ?_; rintro e w1 ⟨rfl, hb0, hw0, hk0⟩))
        | (refine ⟨trivial, ?_⟩; gi_at_call 113; go_must (refine (CallsIn.inRound l (callsIn_wide.2 (bld_WriteString _ _ _ x.1 _ hb0 (by simp at hln ⊢; omega) (by have := hw0.size; omega)))).mono ?_; rintro e w1 ⟨rfl, hb1, hw1, hk1⟩)))
      have hk := hk0.trans hk1
      have hw := hw0.trans hw1
      have hbx1 := boxed_others hbx hk (by omega)
      refine ⟨hb.keeps hw.size hk _, Eq.trans hbx1 hbx.symm, ?_, hbx1, hB.trans hw⟩
      rw [List.map_append, List.map_singleton, HSN.out]
      exact hb1
  case done =>
    rintro D ys W hD hys ⟨hb, hbx, hB⟩ hK
    have hsz := hbx.lt
    gi_wp2_with (refine ⟨trivial, ?_⟩; gi_at_call 114; go_must (refine (callsIn_wide.2 (Tryd.Builder_String_any_k _ _ _ _ hb (by omega))).mono ?_; rintro e w1 ⟨rfl, -, hw1, hk1⟩))
    obtain ⟨c, fz, hbl⟩ := hb.block
    have hD1 := hk1 D _ hK (fun e => by cases e; rw [hbl] at hK; cases hK) (fun c fz e => by cases e)
    refine ⟨by simp, .inl ⟨_, _, rfl, run_takeDeferred hD1, ?_⟩⟩
    exact ⟨_, results_tmp rfl _ _ _, rfl, (hB.trans hw1).trans (belowK_b (w := w) (Nat.le_refl _) _ D _ _ (by simp at hD; omega) hD1 rfl rfl)⟩
  case stop =>
    rintro D c pre W _ _ h _
    exact h.elim

end Go.Proofs.YtadnefnofbnheaaDoor.Pr
