/- Part 11 of the proof: HText, HDigest, HDigP. -/
import Derived.Test.YtadnefnofbnheaaDoorVO7
import Derived.Test.YtadnefnofbnheaaDoorVO2
import Derived.Test.YtadnefnofbnheaaDoorVO6
import Derived.LoopTactic
import Derived.Laws.IdiomStrings
import Derived.Deep.QuietTactic
import Derived.BigQuiet
/- Lower and Upper, of the program and of the reference, and Unlines: the bytes of a string one by one. -/
namespace Go.Proofs.YtadnefnofbnheaaDoor.Pr
open Go.RowKit Go.Proofs.YtadnefnofbnheaaDoorW.PrintWords Go.Proofs.YtadnefnofbnheaaDoorW.PrintLast Go.Proofs.YtadnefnofbnheaaDoorW.PrintMore

def lowC (c : UInt8) : UInt8 := if 65 ≤ c.toNat ∧ c.toNat ≤ 90 then c + 32 else c
def upC (c : UInt8) : UInt8 := if 97 ≤ c.toNat ∧ c.toNat ≤ 122 then c - 32 else c
def lowB (s : ByteArray) : ByteArray := ⟨(s.data.toList.map lowC).toArray⟩
def upB (s : ByteArray) : ByteArray := ⟨(s.data.toList.map upC).toArray⟩

/-- Block b (from block B on) is a row of bytes that begins with l, and these may be written. -/
def BRow (B b : Nat) (l : List UInt8) (w : World) : Prop :=
  B ≤ b ∧ ∃ cs fz, w.heap[b]? = some (.cells cs 5 fz) ∧ (∀ j, j < l.length → w.frozen? ⟨b, j, none⟩ = false) ∧ ∀ j (h : j < l.length), cs[j]? = some (.int .u8 (l[j].toNat : Int))

theorem BRow.cell {B b : Nat} {l : List UInt8} {w : World} (h : BRow B b l w) (j : Nat) (hj : j < l.length) : w.cell? ⟨b, j, none⟩ = some (.int .u8 (l[j].toNat : Int)) ∧ w.frozen? ⟨b, j, none⟩ = false := by
  obtain ⟨_, cs, fz, hb, hf, hc⟩ := h
  exact ⟨by rw [Lib.cell_of_heap hb]; exact hc j hj, hf j hj⟩

theorem BRow.put {B b : Nat} {l : List UInt8} {w : World} (h : BRow B b l w) (i : Nat) (c : UInt8) : BRow B b (l.set i c) (w.setCell ⟨b, i, none⟩ (.int .u8 (c.toNat : Int))) := by
  obtain ⟨hB, cs, fz, hb, hf, hc⟩ := h
  have hb2 : (w.setCell ⟨b, i, none⟩ (.int .u8 (c.toNat : Int))).heap[b]? = some (.cells (cs.setIfInBounds i (.int .u8 (c.toNat : Int))) 5 fz) := by
    simp [World.setCell, Array.getElem?_modify, hb]
  refine ⟨hB, _, _, hb2, fun j hj => ?_, fun j hj => ?_⟩
  · rw [World.frozen?_setCell]
    exact hf j (by simpa using hj)
  · have hj' : j < l.length := by simpa using hj
    rw [Array.getElem?_setIfInBounds]
    have hlt := (Array.getElem?_eq_some_iff.1 (hc j hj')).1
    by_cases hij : i = j
    · subst hij
      rw [if_pos rfl, if_pos hlt]
      simp
    · rw [if_neg hij, hc j hj']
      simp [hij]

theorem BRow.below {B b : Nat} {l : List UInt8} {w w' : World} (h : BRow B b l w) (hb : Below w.heap.size w w') : BRow B b l w' := by
  obtain ⟨hB, cs, fz, hbk, hf, hc⟩ := h
  have hlt := (Array.getElem?_eq_some_iff.1 hbk).1
  exact ⟨hB, cs, fz, (hb.block b hlt).trans hbk, fun j hj => by rw [hb.frozen (p := ⟨b, j, none⟩) hlt]; exact hf j hj, hc⟩

/-- '[]byte(s)'. -/
theorem BRow.of_string (w : World) (s : ByteArray) (cap : Nat) :
    BRow w.heap.size w.heap.size s.data.toList (w.drew.alloc (.cells (bytesRow s cap) 5 ((bytesRow s cap).size, (bytesRow s cap).size + 1))) := by
  have hh : (w.drew.alloc (.cells (bytesRow s cap) 5 ((bytesRow s cap).size, (bytesRow s cap).size + 1))).heap[w.heap.size]? = some (.cells (bytesRow s cap) 5 ((bytesRow s cap).size, (bytesRow s cap).size + 1)) := by
    show (w.heap.push _)[w.heap.size]? = _
    simp
  refine ⟨Nat.le_refl _, _, _, hh, fun j hj => ?_, fun j hj => ?_⟩
  · have : j < (bytesRow s cap).size := by
      rw [Array.length_toList] at hj
      have h1 : (bytesRow s cap).size = s.data.size + (cap - s.size) := by simp [bytesRow]
      omega
    unfold World.frozen?
    simp only [hh]
    simp
    omega
  · rw [Array.length_toList] at hj
    have hj2 : j < (s.data.map fun b => Value.int .u8 (b.toNat : Int)).size := by simpa using hj
    unfold bytesRow
    rw [Array.getElem?_append_left hj2]
    simp
    exact ⟨_, Array.getElem?_eq_getElem hj, rfl⟩

/-- 'string(b)'. -/
theorem BRow.string {B b : Nat} {l : List UInt8} {w : World} (h : BRow B b l w) (cap : Nat) :
    (convert 98 9 (.slice (some ⟨b, 0, none⟩) l.length cap)).run Tryd.prog w = .ok (.string ⟨l.toArray⟩) w :=
  run_convert_bytes_back w _ _ _ ⟨b, 0, none⟩ cap l Tryd.underlying98 Tryd.underlying5 Tryd.underlying9 (fun j hj => by
    rw [show ((⟨b, 0, none⟩ : Addr).add j) = ⟨b, j, none⟩ by simp [Addr.add]; omega]
    exact (h.cell j hj).1)

theorem BRow.of_own {base n : Nat} {w : World} {v : Value} {l : List UInt8} {b : Nat} (h : w.ownsRow base 5 1 v n (l.map fun c => .int .u8 (c.toNat : Int))) (hn : l.length = n) (hb : v.ownBlock = some b) :
    BRow base b l w ∧ ∃ cap, v = .slice (some ⟨b, 0, none⟩) n cap := by
  obtain ⟨h1, h2⟩ := h
  rcases h2 with ⟨rfl, _⟩ | ⟨g, cap, cur, rfl, hg, hh, r⟩
  · simp [Value.ownBlock] at hb
  · obtain rfl : g = b := by simpa [Value.ownBlock] using hb
    obtain ⟨h3, h4, h5, h6⟩ := r
    refine ⟨⟨hg, cur, _, hh, fun j _ => Lib.frozen_of_heap hh j, fun j hj => ?_⟩, cap, rfl⟩
    have h7 := congrArg (fun x : List Value => x[j]?) h6
    simp only [Nat.mul_one] at h7
    rw [List.getElem?_take_of_lt (by omega)] at h7
    simpa [hj] using h7


theorem lower_w (c : UInt8) (w : World) : Calls Tryd.prog 105 #[.int .u8 (c.toNat : Int)] w fun e w' => e = .returned (.int .u8 ((lowC c).toNat : Int)) ∧ w' = w := by
  have hc := c.toNat_lt
  have H : (((lowC c).toNat : Nat) : Int) = if 65 ≤ (c.toNat : Int) ∧ (c.toNat : Int) ≤ 90 then ((c.toNat : Int) + 32) else (c.toNat : Int) := by
    unfold lowC
    by_cases h : 65 ≤ c.toNat ∧ c.toNat ≤ 90
    · rw [if_pos h, if_pos (by omega), UInt8.toNat_add]
      simp
      omega
    · rw [if_neg h, if_neg (by omega)]
  rw [H]
  clear H
  generalize (c.toNat : Int) = a at *
  by_cases h1 : 65 ≤ a
  · by_cases h2 : a ≤ 90
    · rw [if_pos ⟨h1, h2⟩]
      go_enter Tryd.func105, Tryd.ntmps105
      go_wp2
      go_ret
      exact ⟨rfl, rfl⟩
    · rw [if_neg (fun h => h2 h.2)]
      have h3 : 90 < a := by omega
      go_enter Tryd.func105, Tryd.ntmps105
      go_wp2
      go_ret
      exact ⟨rfl, rfl⟩
  · rw [if_neg (fun h => h1 h.1)]
    have h3 : a < 65 := by omega
    go_enter Tryd.func105, Tryd.ntmps105
    go_wp2
    go_ret
    exact ⟨rfl, rfl⟩

theorem upper_w (c : UInt8) (w : World) : Calls Tryd.prog 106 #[.int .u8 (c.toNat : Int)] w fun e w' => e = .returned (.int .u8 ((upC c).toNat : Int)) ∧ w' = w := by
  have hc := c.toNat_lt
  have H : (((upC c).toNat : Nat) : Int) = if 97 ≤ (c.toNat : Int) ∧ (c.toNat : Int) ≤ 122 then ((c.toNat : Int) - 32) else (c.toNat : Int) := by
    unfold upC
    by_cases h : 97 ≤ c.toNat ∧ c.toNat ≤ 122
    · rw [if_pos h, if_pos (by omega), UInt8.toNat_sub]
      simp
      omega
    · rw [if_neg h, if_neg (by omega)]
  rw [H]
  clear H
  generalize (c.toNat : Int) = a at *
  by_cases h1 : 97 ≤ a
  · by_cases h2 : a ≤ 122
    · rw [if_pos ⟨h1, h2⟩]
      go_enter Tryd.func106, Tryd.ntmps106
      go_wp2
      go_ret
      exact ⟨rfl, rfl⟩
    · rw [if_neg (fun h => h2 h.2)]
      have h3 : 122 < a := by omega
      go_enter Tryd.func106, Tryd.ntmps106
      go_wp2
      go_ret
      exact ⟨rfl, rfl⟩
  · rw [if_neg (fun h => h1 h.1)]
    have h3 : a < 97 := by omega
    go_enter Tryd.func106, Tryd.ntmps106
    go_wp2
    go_ret
    exact ⟨rfl, rfl⟩

theorem lower_r (c : UInt8) (w : World) : Calls Tryd.prog 107 #[.int .u8 (c.toNat : Int)] w fun e w' => e = .returned (.int .u8 ((lowC c).toNat : Int)) ∧ w' = w := by
  have hc := c.toNat_lt
  have H : (((lowC c).toNat : Nat) : Int) = if 65 ≤ (c.toNat : Int) ∧ (c.toNat : Int) ≤ 90 then ((c.toNat : Int) + 32) else (c.toNat : Int) := by
    unfold lowC
    by_cases h : 65 ≤ c.toNat ∧ c.toNat ≤ 90
    · rw [if_pos h, if_pos (by omega), UInt8.toNat_add]
      simp
      omega
    · rw [if_neg h, if_neg (by omega)]
  rw [H]
  clear H
  generalize (c.toNat : Int) = a at *
  by_cases h1 : 65 ≤ a
  · by_cases h2 : a ≤ 90
    · rw [if_pos ⟨h1, h2⟩]
      go_enter Tryd.func107, Tryd.ntmps107
      go_wp2
      go_ret
      exact ⟨rfl, rfl⟩
    · rw [if_neg (fun h => h2 h.2)]
      have h3 : 90 < a := by omega
      go_enter Tryd.func107, Tryd.ntmps107
      go_wp2
      go_ret
      exact ⟨rfl, rfl⟩
  · rw [if_neg (fun h => h1 h.1)]
    have h3 : a < 65 := by omega
    go_enter Tryd.func107, Tryd.ntmps107
    go_wp2
    go_ret
    exact ⟨rfl, rfl⟩

/-- What a loop over the bytes has come to behind k rounds. -/
def upTo (g : UInt8 → UInt8) (l : List UInt8) (k : Nat) : List UInt8 := (l.take k).map g ++ l.drop k
theorem upTo_len (g : UInt8 → UInt8) (l : List UInt8) (k : Nat) : (upTo g l k).length = l.length := by simp [upTo]; omega
theorem upTo_zero (g : UInt8 → UInt8) (l : List UInt8) : upTo g l 0 = l := by simp [upTo]
theorem upTo_all (g : UInt8 → UInt8) (l : List UInt8) : upTo g l l.length = l.map g := by simp [upTo]
theorem upTo_get (g : UInt8 → UInt8) (l : List UInt8) (k : Nat) (h : k < l.length) : (upTo g l k)[k]'(by rw [upTo_len]; exact h) = l[k] := by
  simp only [upTo]
  rw [List.getElem_append_right (by simp; omega)]
  simp
  congr 1
  omega
theorem upTo_succ (g : UInt8 → UInt8) (l : List UInt8) (k : Nat) (h : k < l.length) : (upTo g l k).set k (g l[k]) = upTo g l (k + 1) := by
  simp only [upTo]
  rw [List.set_append_right _ _ (by simp; omega), List.drop_eq_getElem_cons h, List.take_succ_eq_append_getElem h, List.map_append]
  have : k - ((l.take k).map g).length = 0 := by simp; omega
  rw [this]
  simp
  rw [List.drop_eq_getElem_cons h]
  rfl
theorem upTo_same (g : UInt8 → UInt8) (l : List UInt8) (k : Nat) (h : k < l.length) (hg : g l[k] = l[k]) : upTo g l (k + 1) = upTo g l k := by
  rw [← upTo_succ g l k h, hg]
  apply List.ext_getElem
  · simp
  · intro i h1 h2
    rw [List.getElem_set]
    split
    · rename_i hik
      subst hik
      exact (upTo_get g l k h).symm
    · rfl
theorem upTo_row {g : UInt8 → UInt8} {l : List UInt8} {B b k : Nat} {w : World} (h : BRow B b (upTo g l k) w) (hk : k < l.length) :
    w.cell? ⟨b, k, none⟩ = some (.int .u8 (l[k].toNat : Int)) ∧ w.frozen? ⟨b, k, none⟩ = false := by
  have := h.cell k (by rw [upTo_len]; exact hk)
  rw [upTo_get g l k hk] at this
  exact this

def mapTo (g : UInt8 → UInt8) (l : List UInt8) (k : Nat) : List UInt8 := (l.take k).map g ++ List.replicate (l.length - k) 0
theorem mapTo_len (g : UInt8 → UInt8) (l : List UInt8) (k : Nat) (h : k ≤ l.length) : (mapTo g l k).length = l.length := by simp [mapTo]; omega
theorem mapTo_zero (g : UInt8 → UInt8) (l : List UInt8) : mapTo g l 0 = List.replicate l.length 0 := by simp [mapTo]
theorem mapTo_all (g : UInt8 → UInt8) (l : List UInt8) : mapTo g l l.length = l.map g := by simp [mapTo]
theorem mapTo_succ (g : UInt8 → UInt8) (l : List UInt8) (k : Nat) (h : k < l.length) : (mapTo g l k).set k (g l[k]) = mapTo g l (k + 1) := by
  simp only [mapTo]
  rw [List.set_append_right _ _ (by simp; omega), List.take_succ_eq_append_getElem h, List.map_append]
  have : k - ((l.take k).map g).length = 0 := by simp; omega
  rw [this, show l.length - k = (l.length - (k + 1)) + 1 by omega, List.replicate_succ]
  simp

theorem at_of (s : ByteArray) (k : Nat) (h : k < s.size) : s.data.toList[k]'(by rw [ba_len]; exact h) = s[k] := by
  simp
  rfl

set_option maxHeartbeats 4000000 in
set_option maxRecDepth 100000 in
theorem mapped_lower (s : ByteArray) (w : World) (hs : s.size ≤ 140737488355328) :
    Calls Tryd.prog 104 #[.string s, .func (.func 105) #[] #[]] w fun e w' => e = .returned (.string ⟨(s.data.toList.map lowC).toArray⟩) ∧ Below w.heap.size w w' := by
  have hi5 : (Tryd.prog.info? 5).map (fun i => (i.zero, i.size, i.bytes)) = some (some (.int .u8 0), 1, 1) := by kernel_rfl
  go_enter Tryd.func104, Tryd.ntmps104
  go_wp2_with ((with_reducible refine gate_dst (N := 9) rfl ?_); refine Kd.R_make (Kd.int .u8) (w0 := w) w.heap.size 5 rfl (N := 9) rfl 98 _ _ rfl (s.size : Int) rfl rfl Tryd.underlying98 (.int .u8 0) 1 hi5 rfl (by decide) (by omega) 0 (ok := fun _ => True) (okp := fun _ => True) rfl (fun _ hk => hk) trivial (by omega) (by simp; omega) (Below.refl _ _) (Nat.le_refl _) ?_; intro v1 w1 HO hb1 hg1 hat1; obtain ⟨b, hvb, hbw⟩ := hat1; have hown := Kd.own_of_R HO; obtain ⟨hrow, cap, rfl⟩ := BRow.of_own (l := List.replicate s.size 0) (n := s.size) (b := b) (by simpa [encs] using hown) (by simp) hvb; have HROW := Aside0.mk hrow; clear HO hown hrow hvb)
  go_loopw [12] (fun i wr => ∃ k : Nat, k ≤ s.size ∧ i = .int .i64 k ∧ Aside0 (BRow w.heap.size b (mapTo lowC s.data.toList k) wr) ∧ Aside0 (Below w.heap.size w wr)) (fun i _ => s.size - (intOf i).toNat)
  case atStart => exact ⟨0, Nat.zero_le _, rfl, ⟨by rw [mapTo_zero, ba_len]; exact HROW.out⟩, ⟨hb1⟩⟩
  case round =>
    clear HROW hb1 hg1
    obtain ⟨k, hk, rfl, HR, HB⟩ := hrel
    by_cases hlt : k < s.size
    · have hlt' : k < s.data.toList.length := by rw [ba_len]; exact hlt
      obtain ⟨hc, hfz⟩ := HR.out.cell k (by rw [mapTo_len _ _ _ (by omega)]; exact hlt')
      generalize (mapTo lowC s.data.toList k)[k]'_ = old at hc
      go_wp2_with fail
      refine (lower_w s[k] _).mono ?_
      rintro e w2 ⟨rfl, rfl⟩
      go_wp2_with fail
      go_roundw
      case rel =>
        refine ⟨k + 1, by omega, by go_num, ⟨?_⟩, ⟨HB.out.setCell (p := ⟨b, k, none⟩) hbw _⟩⟩
        rw [← mapTo_succ lowC _ k hlt', at_of s k hlt]
        exact HR.out.put k (lowC s[k])
      case measure => simp [intOf]; omega
    · obtain rfl : k = s.size := by omega
      have hrow := HR.out
      rw [← ba_len, mapTo_all] at hrow
      have hcv := hrow.string cap
      rw [List.length_map, ba_len] at hcv
      go_wp2
      go_ret
      exact ⟨rfl, HB.out⟩

set_option maxHeartbeats 4000000 in
set_option maxRecDepth 100000 in
theorem mapped_upper (s : ByteArray) (w : World) (hs : s.size ≤ 140737488355328) :
    Calls Tryd.prog 104 #[.string s, .func (.func 106) #[] #[]] w fun e w' => e = .returned (.string ⟨(s.data.toList.map upC).toArray⟩) ∧ Below w.heap.size w w' := by
  have hi5 : (Tryd.prog.info? 5).map (fun i => (i.zero, i.size, i.bytes)) = some (some (.int .u8 0), 1, 1) := by kernel_rfl
  go_enter Tryd.func104, Tryd.ntmps104
  go_wp2_with ((with_reducible refine gate_dst (N := 9) rfl ?_); refine Kd.R_make (Kd.int .u8) (w0 := w) w.heap.size 5 rfl (N := 9) rfl 98 _ _ rfl (s.size : Int) rfl rfl Tryd.underlying98 (.int .u8 0) 1 hi5 rfl (by decide) (by omega) 0 (ok := fun _ => True) (okp := fun _ => True) rfl (fun _ hk => hk) trivial (by omega) (by simp; omega) (Below.refl _ _) (Nat.le_refl _) ?_; intro v1 w1 HO hb1 hg1 hat1; obtain ⟨b, hvb, hbw⟩ := hat1; have hown := Kd.own_of_R HO; obtain ⟨hrow, cap, rfl⟩ := BRow.of_own (l := List.replicate s.size 0) (n := s.size) (b := b) (by simpa [encs] using hown) (by simp) hvb; have HROW := Aside0.mk hrow; clear HO hown hrow hvb)
  go_loopw [12] (fun i wr => ∃ k : Nat, k ≤ s.size ∧ i = .int .i64 k ∧ Aside0 (BRow w.heap.size b (mapTo upC s.data.toList k) wr) ∧ Aside0 (Below w.heap.size w wr)) (fun i _ => s.size - (intOf i).toNat)
  case atStart => exact ⟨0, Nat.zero_le _, rfl, ⟨by rw [mapTo_zero, ba_len]; exact HROW.out⟩, ⟨hb1⟩⟩
  case round =>
    clear HROW hb1 hg1
    obtain ⟨k, hk, rfl, HR, HB⟩ := hrel
    by_cases hlt : k < s.size
    · have hlt' : k < s.data.toList.length := by rw [ba_len]; exact hlt
      obtain ⟨hc, hfz⟩ := HR.out.cell k (by rw [mapTo_len _ _ _ (by omega)]; exact hlt')
      generalize (mapTo upC s.data.toList k)[k]'_ = old at hc
      go_wp2_with fail
      refine (upper_w s[k] _).mono ?_
      rintro e w2 ⟨rfl, rfl⟩
      go_wp2_with fail
      go_roundw
      case rel =>
        refine ⟨k + 1, by omega, by go_num, ⟨?_⟩, ⟨HB.out.setCell (p := ⟨b, k, none⟩) hbw _⟩⟩
        rw [← mapTo_succ upC _ k hlt', at_of s k hlt]
        exact HR.out.put k (upC s[k])
      case measure => simp [intOf]; omega
    · obtain rfl : k = s.size := by omega
      have hrow := HR.out
      rw [← ba_len, mapTo_all] at hrow
      have hcv := hrow.string cap
      rw [List.length_map, ba_len] at hcv
      go_wp2
      go_ret
      exact ⟨rfl, HB.out⟩

def text_Lower.f (a0 : ByteArray) : Option ByteArray := if a0.size ≤ 140737488355328 then some (lowB a0) else none
def text_Upper.f (a0 : ByteArray) : Option ByteArray := if a0.size ≤ 140737488355328 then some (upB a0) else none
theorem text_Lower.calls (a0 : ByteArray) (r : ByteArray) (w : World) (_hG : GOk 0 w) (h : text_Lower.f a0 = some r) :
    Calls Tryd.prog 43 #[.string a0] w fun e w' => e = .returned (.string r) ∧ Below w.heap.size w w' := by
  unfold text_Lower.f at h
  split at h
  case isFalse => cases h
  rename_i hs
  obtain rfl := Option.some.inj h
  go_enter Tryd.func43, Tryd.ntmps43
  go_wp2_with fail
  refine (mapped_lower a0 w hs).mono ?_
  rintro e w1 ⟨rfl, hb⟩
  go_wp2_with fail
  go_ret
  exact ⟨rfl, hb⟩
theorem text_Upper.calls (a0 : ByteArray) (r : ByteArray) (w : World) (_hG : GOk 0 w) (h : text_Upper.f a0 = some r) :
    Calls Tryd.prog 44 #[.string a0] w fun e w' => e = .returned (.string r) ∧ Below w.heap.size w w' := by
  unfold text_Upper.f at h
  split at h
  case isFalse => cases h
  rename_i hs
  obtain rfl := Option.some.inj h
  go_enter Tryd.func44, Tryd.ntmps44
  go_wp2_with fail
  refine (mapped_upper a0 w hs).mono ?_
  rintro e w1 ⟨rfl, hb⟩
  go_wp2_with fail
  go_ret
  exact ⟨rfl, hb⟩

def missiveref01_Lower.f (a0 : ByteArray) : Option ByteArray := if a0.size ≤ 140737488355328 then some (lowB a0) else none
def missiveref01_Upper.f (a0 : ByteArray) : Option ByteArray := if a0.size ≤ 140737488355328 then some (upB a0) else none

set_option maxHeartbeats 4000000 in
set_option maxRecDepth 100000 in
theorem missiveref01_Lower.calls (a0 : ByteArray) (r : ByteArray) (w : World) (_hG : GOk 0 w) (h : missiveref01_Lower.f a0 = some r) :
    Calls Tryd.prog 46 #[.string a0] w fun e w' => e = .returned (.string r) ∧ Below w.heap.size w w' := by
  unfold missiveref01_Lower.f at h
  split at h
  case isFalse => cases h
  rename_i hs
  obtain rfl := Option.some.inj h
  clear h
  have hcv0 := run_bytes_of_string (P := Tryd.prog) w _ _ _ a0 Tryd.underlying9 Tryd.underlying98 Tryd.underlying5
  have hrow0 := BRow.of_string w a0 (grownCap w a0.size 0 5)
  have hb0 : Below w.heap.size w (w.drew.alloc (.cells (bytesRow a0 (grownCap w a0.size 0 5)) 5 ((bytesRow a0 (grownCap w a0.size 0 5)).size, (bytesRow a0 (grownCap w a0.size 0 5)).size + 1))) := ((Below.refl _ w).drew).alloc (Nat.le_refl _) _
  generalize (w.drew.alloc (.cells (bytesRow a0 (grownCap w a0.size 0 5)) 5 ((bytesRow a0 (grownCap w a0.size 0 5)).size, (bytesRow a0 (grownCap w a0.size 0 5)).size + 1))) = w1 at hcv0 hrow0 hb0
  have HROW := Aside0.mk hrow0
  have HB0 := Aside0.mk hb0
  clear hrow0 hb0
  generalize grownCap w a0.size 0 5 = cap at hcv0
  go_enter Tryd.func46, Tryd.ntmps46
  go_wp2_with fail
  go_loopw [4] (fun i wr => ∃ k : Nat, k ≤ a0.size ∧ i = .int .i64 k ∧ Aside0 (BRow w.heap.size w.heap.size (upTo lowC a0.data.toList k) wr) ∧ Aside0 (Below w.heap.size w wr)) (fun i _ => a0.size - (intOf i).toNat)
  case atStart => exact ⟨0, Nat.zero_le _, rfl, ⟨by rw [upTo_zero]; exact HROW.out⟩, HB0⟩
  case round =>
    clear HROW HB0 hcv0
    obtain ⟨k, hk, rfl, HR, HB⟩ := hrel
    by_cases hlt : k < a0.size
    · have hlt' : k < a0.data.toList.length := by rw [ba_len]; exact hlt
      obtain ⟨hc, hfz⟩ := upTo_row HR.out hlt'
      generalize hx : a0.data.toList[k] = x at hc
      go_wp2_with fail
      refine (lower_r x _).mono ?_
      rintro e w2 ⟨rfl, rfl⟩
      go_wp2_with fail
      go_roundw
      case rel =>
        refine ⟨k + 1, by omega, by go_num, ⟨?_⟩, ⟨HB.out.setCell (p := ⟨w.heap.size, k, none⟩) (Nat.le_refl _) _⟩⟩
        rw [← upTo_succ lowC _ k hlt', hx]
        exact HR.out.put k (lowC x)
      case measure => simp [intOf]; omega
    · obtain rfl : k = a0.size := by omega
      have hrow := HR.out
      rw [← ba_len, upTo_all] at hrow
      have hcv := hrow.string cap
      rw [List.length_map, ba_len] at hcv
      go_wp2
      go_ret
      exact ⟨rfl, HB.out⟩

set_option maxHeartbeats 4000000 in
set_option maxRecDepth 100000 in
theorem missiveref01_Upper.calls (a0 : ByteArray) (r : ByteArray) (w : World) (_hG : GOk 0 w) (h : missiveref01_Upper.f a0 = some r) :
    Calls Tryd.prog 47 #[.string a0] w fun e w' => e = .returned (.string r) ∧ Below w.heap.size w w' := by
  unfold missiveref01_Upper.f at h
  split at h
  case isFalse => cases h
  rename_i hs
  obtain rfl := Option.some.inj h
  clear h
  have hcv0 := run_bytes_of_string (P := Tryd.prog) w _ _ _ a0 Tryd.underlying9 Tryd.underlying98 Tryd.underlying5
  have hrow0 := BRow.of_string w a0 (grownCap w a0.size 0 5)
  have hb0 : Below w.heap.size w (w.drew.alloc (.cells (bytesRow a0 (grownCap w a0.size 0 5)) 5 ((bytesRow a0 (grownCap w a0.size 0 5)).size, (bytesRow a0 (grownCap w a0.size 0 5)).size + 1))) := ((Below.refl _ w).drew).alloc (Nat.le_refl _) _
  generalize (w.drew.alloc (.cells (bytesRow a0 (grownCap w a0.size 0 5)) 5 ((bytesRow a0 (grownCap w a0.size 0 5)).size, (bytesRow a0 (grownCap w a0.size 0 5)).size + 1))) = w1 at hcv0 hrow0 hb0
  have HROW := Aside0.mk hrow0
  have HB0 := Aside0.mk hb0
  clear hrow0 hb0
  generalize grownCap w a0.size 0 5 = cap at hcv0
  go_enter Tryd.func47, Tryd.ntmps47
  go_wp2_with fail
  go_loopw [4] (fun i wr => ∃ k : Nat, k ≤ a0.size ∧ i = .int .i64 k ∧ Aside0 (BRow w.heap.size w.heap.size (upTo upC a0.data.toList k) wr) ∧ Aside0 (Below w.heap.size w wr)) (fun i _ => a0.size - (intOf i).toNat)
  case atStart => exact ⟨0, Nat.zero_le _, rfl, ⟨by rw [upTo_zero]; exact HROW.out⟩, HB0⟩
  case round =>
    clear HROW HB0 hcv0
    obtain ⟨k, hk, rfl, HR, HB⟩ := hrel
    by_cases hlt : k < a0.size
    · have hlt' : k < a0.data.toList.length := by rw [ba_len]; exact hlt
      obtain ⟨hc, hfz⟩ := upTo_row HR.out hlt'
      have hsame := upTo_same upC a0.data.toList k hlt'
      have hsucc := upTo_succ upC a0.data.toList k hlt'
      have HS := Aside0.mk (And.intro hsame hsucc)
      clear hsame hsucc
      generalize hx : a0.data.toList[k] = x at hc HS
      have hx8 := x.toNat_lt
      by_cases h1 : 97 ≤ x.toNat
      · by_cases h2 : x.toNat ≤ 122
        · have hu : ((upC x).toNat : Int) = (x.toNat : Int) - 32 := by
            unfold upC
            rw [if_pos ⟨h1, h2⟩, UInt8.toNat_sub]
            simp
            omega
          have HU := Aside0.mk hu
          clear hu
          have h1' : 97 ≤ (x.toNat : Int) := by omega
          have h2' : (x.toNat : Int) ≤ 122 := by omega
          go_wp2_with fail
          go_roundw
          case rel =>
            refine ⟨k + 1, by omega, by go_num, ⟨?_⟩, ⟨HB.out.setCell (p := ⟨w.heap.size, k, none⟩) (Nat.le_refl _) _⟩⟩
            rw [← HS.out.2, ← HU.out]
            exact HR.out.put k (upC x)
          case measure => simp [intOf]; omega
        · have h2' : 122 < (x.toNat : Int) := by omega
          have h1' : 97 ≤ (x.toNat : Int) := by omega
          go_wp2_with fail
          go_roundw
          case rel => exact ⟨k + 1, by omega, by go_num, ⟨by rw [HS.out.1 (by unfold upC; rw [if_neg (by omega)])]; exact HR.out⟩, HB⟩
          case measure => simp [intOf]; omega
      · have h1' : (x.toNat : Int) < 97 := by omega
        go_wp2_with fail
        go_roundw
        case rel => exact ⟨k + 1, by omega, by go_num, ⟨by rw [HS.out.1 (by unfold upC; rw [if_neg (by omega)])]; exact HR.out⟩, HB⟩
        case measure => simp [intOf]; omega
    · obtain rfl : k = a0.size := by omega
      have hrow := HR.out
      rw [← ba_len, upTo_all] at hrow
      have hcv := hrow.string cap
      rw [List.length_map, ba_len] at hcv
      go_wp2
      go_ret
      exact ⟨rfl, HB.out⟩

/-! ### Unlines -/
def unl (l : List ByteArray) : List UInt8 := l.flatMap fun s => s.data.toList ++ [10]
theorem unl_snoc (l : List ByteArray) (k : Nat) (hk : k < l.length) : unl (l.take (k + 1)) = unl (l.take k) ++ ((rdOf ByteArray.empty l k).data.toList ++ [10]) := by
  rw [List.take_succ_eq_append_getElem hk, unl, unl, List.flatMap_append]
  simp [rdOf, List.getD, hk]
theorem unl_take (l : List ByteArray) (k : Nat) : (unl (l.take k)).length ≤ (unl l).length := by
  have : unl l = unl (l.take k) ++ unl (l.drop k) := by
    rw [unl, unl, unl, ← List.flatMap_append, List.take_append_drop]
  rw [this]; simp

def text_Unlines.f (l0 : List ByteArray) : Option ByteArray := if (unl l0).length ≤ 100000000000000 then some ⟨(unl l0).toArray⟩ else none

set_option maxHeartbeats 4000000 in
set_option maxRecDepth 100000 in
theorem text_Unlines.calls (A0 : Option Addr) (c0 : Nat) (l0 : List ByteArray) (r : ByteArray) (w : World) (hr0 : Kd.C Kd.string w A0 l0.length l0) (_hc0 : l0.length ≤ c0) (_hG : GOk 0 w) (h : text_Unlines.f l0 = some r) :
    Calls Tryd.prog 54 #[.slice A0 l0.length c0] w fun e w' => e = .returned (.string r) ∧ Below w.heap.size w w' := by
  unfold text_Unlines.f at h
  split at h
  case isFalse => cases h
  rename_i hl
  obtain rfl := Option.some.inj h
  clear h
  have HL := Aside0.mk hl
  clear hl
  have hb0 : Below w.heap.size w (w.alloc (.cells #[.pointer none, .slice none 0 0] 101)) := (Below.refl _ _).alloc (Nat.le_refl _) _
  have HB0 := Bld.fresh w.heap.size w (Nat.le_refl _)
  have hll : l0.length ≤ (unl l0).length := by
    clear HL hr0 _hc0
    induction l0 with
    | nil => simp
    | cons x l ih => simp [unl] at ih ⊢; omega
  have hll2 := Nat.le_trans hll HL.out
  clear hll
  go_enter Tryd.func54, Tryd.ntmps54
  go_wp2_with fail
  go_loopw [8] (fun i wr => ∃ k : Nat, k ≤ l0.length ∧ i = .int .i64 k ∧ Aside0 (Bld w.heap.size w.heap.size (unl (l0.take k)) wr) ∧ Aside0 (Below w.heap.size w wr)) (fun i _ => l0.length - (intOf i).toNat)
  case atStart => exact ⟨0, Nat.zero_le _, rfl, ⟨by simpa [unl] using HB0⟩, ⟨hb0⟩⟩
  case round =>
    clear HB0 hb0
    obtain ⟨k, hk, rfl, HB, hb⟩ := hrel
    have hs := hb.out.size
    have ht := unl_take l0 k
    have ht1 := unl_take l0 (k + 1)
    have hl := HL.out
    by_cases hlt : k < l0.length
    · obtain ⟨ad, rfl, hcell⟩ := (Kd.reads_of_C (d := ByteArray.empty) (Kd.C_below hr0 hb.out)).at_ (k : Int) (by omega) (by omega)
      rw [Int.toNat_natCast] at hcell
      have Hsn := Aside0.mk (unl_snoc l0 k hlt)
      rw [Hsn.out] at ht1
      generalize rdOf ByteArray.empty l0 (k : Int) = x at *
      have hxs : (unl (l0.take k)).length + (x.size + 1) ≤ 100000000000000 := by
        rw [List.length_append, List.length_append, ba_len] at ht1
        simp at ht1
        omega
      have HXS := Aside0.mk hxs
      clear hxs ht ht1 hl
      go_wp2_with fail
      refine (bld_WriteString _ _ _ x _ HB.out (by have := HXS.out; omega) hs).mono ?_
      rintro e w4 ⟨rfl, HB4, hb4, -⟩
      have hb4' := hb.out.trans hb4
      have hs4 := hb4'.size
      go_wp2_with fail
      refine (bld_WriteByte _ _ _ 10 _ HB4 (by have := HXS.out; rw [List.length_append, ba_len]; omega) hs4).mono ?_
      rintro e w5 ⟨rfl, HB5, hb5, -⟩
      have hb5' := hb4'.trans hb5
      clear HB4 hb4 hb4' HB hb hcell hb5 hs4 hs
      go_wp2_with fail
      go_roundw
      case rel => exact ⟨k + 1, by omega, by go_num, ⟨by rw [Hsn.out, ← List.append_assoc]; exact HB5⟩, ⟨hb5'⟩⟩
      case measure => simp [intOf]; omega
    · obtain rfl : k = l0.length := by omega
      rw [List.take_length] at HB
      have HB := HB.out
      have hb := hb.out
      go_wp2_with fail
      refine (bld_String _ _ _ _ HB hs).mono ?_
      rintro e w7 ⟨rfl, hb7⟩
      go_wp2_with fail
      go_ret
      exact ⟨rfl, hb.trans hb7⟩

end Go.Proofs.YtadnefnofbnheaaDoor.Pr

/- The digest: arrays of words, the state before the first block. -/
namespace Go.Proofs.YtadnefnofbnheaaDoor.Pr
open Go.RowKit Go.Proofs.YtadnefnofbnheaaDoorW.PrintWords Go.Proofs.YtadnefnofbnheaaDoorW.PrintLast Go.Proofs.YtadnefnofbnheaaDoorW.PrintMore

/-- Block b is an array (of type t) of the words l. -/
def UArr (t b : Nat) (l : List Int) (w : World) : Prop := w.heap[b]? = some (.cells (l.map (Value.int .u32)).toArray t (0, 0))

theorem UArr.cell {t b : Nat} {l : List Int} {w : World} (h : UArr t b l w) (j : Nat) (hj : j < l.length) : w.cell? ⟨b, j, none⟩ = some (.int .u32 l[j]) ∧ w.frozen? ⟨b, j, none⟩ = false := by
  refine ⟨?_, Lib.frozen_of_heap h j⟩
  rw [Lib.cell_of_heap h]
  simp [hj]
theorem UArr.put {t b : Nat} {l : List Int} {w : World} (h : UArr t b l w) (i : Nat) (x : Int) : UArr t b (l.set i x) (w.setCell ⟨b, i, none⟩ (.int .u32 x)) := by
  have h' : w.heap[b]? = some (.cells (l.map (Value.int .u32)).toArray t (0, 0)) := h
  show (w.setCell ⟨b, i, none⟩ (.int .u32 x)).heap[b]? = some (.cells ((l.set i x).map (Value.int .u32)).toArray t (0, 0))
  simp [World.setCell, Array.getElem?_modify, h', List.map_set]
theorem UArr.below {t b : Nat} {l : List Int} {w w' : World} (h : UArr t b l w) (hb : Below w.heap.size w w') : UArr t b l w' :=
  (hb.block b (Array.getElem?_eq_some_iff.1 h).1).trans h
theorem UArr.other {t b : Nat} {l : List Int} {w : World} (h : UArr t b l w) (p : Addr) (hp : b ≠ p.block) (v : Value) : UArr t b l (w.setCell p v) :=
  (Below.heap_setCell w p v b hp).trans h
theorem UArr.lt {t b : Nat} {l : List Int} {w : World} (h : UArr t b l w) : b < w.heap.size := (Array.getElem?_eq_some_iff.1 h).1

def sha0 : List Int := [1779033703, 3144134277, 1013904242, 2773480762, 1359893119, 2600822924, 528734635, 1541459225]

set_option maxHeartbeats 1000000 in
theorem digest_begin.calls (w : World) : Calls Tryd.prog 171 #[] w fun e w' => e = .returned (.agg (sha0.map (Value.int .u32)).toArray) ∧ Below w.heap.size w w' := by
  go_enter Tryd.func171, Tryd.ntmps171
  go_wp2_with fail
  refine bodyPost_ret (v := .agg (sha0.map (Value.int .u32)).toArray) ?_ rfl ⟨rfl, (Below.refl _ w).alloc (Nat.le_refl _) _⟩
  simp [results, Tryd.f171, go_sem, sha0]

end Go.Proofs.YtadnefnofbnheaaDoor.Pr

/- One block of the digest: (*digest.state).process. -/
namespace Go.Proofs.YtadnefnofbnheaaDoor.Pr
open Go.RowKit Go.Proofs.YtadnefnofbnheaaDoorW.PrintWords Go.Proofs.YtadnefnofbnheaaDoorW.PrintLast Go.Proofs.YtadnefnofbnheaaDoorW.PrintMore

/-- A word, turned to the right. -/
def rr (k : Nat) (x : Int) : Int := Go.bits .or .u32 (x * 2 ^ (32 - k) % 4294967296) (x / 2 ^ k)
theorem rr7_w (x : Int) (w : World) : Calls Tryd.prog 187 #[.int .u32 x, .int .i64 (-7)] w fun e w' => e = .returned (.int .u32 (rr 7 x)) ∧ w' = w := by
  have h1 : Go.bits .and .u64 (IntKind.u64.wrap (-7)) 31 = 25 := by decide
  have h2 : IntKind.u64.wrap (32 - 25) = 7 := by decide
  go_enter Tryd.func187, Tryd.ntmps187
  go_wp2
  go_ret
  exact ⟨rfl, rfl⟩
theorem rr18_w (x : Int) (w : World) : Calls Tryd.prog 187 #[.int .u32 x, .int .i64 (-18)] w fun e w' => e = .returned (.int .u32 (rr 18 x)) ∧ w' = w := by
  have h1 : Go.bits .and .u64 (IntKind.u64.wrap (-18)) 31 = 14 := by decide
  have h2 : IntKind.u64.wrap (32 - 14) = 18 := by decide
  go_enter Tryd.func187, Tryd.ntmps187
  go_wp2
  go_ret
  exact ⟨rfl, rfl⟩
theorem rr17_w (x : Int) (w : World) : Calls Tryd.prog 187 #[.int .u32 x, .int .i64 (-17)] w fun e w' => e = .returned (.int .u32 (rr 17 x)) ∧ w' = w := by
  have h1 : Go.bits .and .u64 (IntKind.u64.wrap (-17)) 31 = 15 := by decide
  have h2 : IntKind.u64.wrap (32 - 15) = 17 := by decide
  go_enter Tryd.func187, Tryd.ntmps187
  go_wp2
  go_ret
  exact ⟨rfl, rfl⟩
theorem rr19_w (x : Int) (w : World) : Calls Tryd.prog 187 #[.int .u32 x, .int .i64 (-19)] w fun e w' => e = .returned (.int .u32 (rr 19 x)) ∧ w' = w := by
  have h1 : Go.bits .and .u64 (IntKind.u64.wrap (-19)) 31 = 13 := by decide
  have h2 : IntKind.u64.wrap (32 - 13) = 19 := by decide
  go_enter Tryd.func187, Tryd.ntmps187
  go_wp2
  go_ret
  exact ⟨rfl, rfl⟩
theorem rr6_w (x : Int) (w : World) : Calls Tryd.prog 187 #[.int .u32 x, .int .i64 (-6)] w fun e w' => e = .returned (.int .u32 (rr 6 x)) ∧ w' = w := by
  have h1 : Go.bits .and .u64 (IntKind.u64.wrap (-6)) 31 = 26 := by decide
  have h2 : IntKind.u64.wrap (32 - 26) = 6 := by decide
  go_enter Tryd.func187, Tryd.ntmps187
  go_wp2
  go_ret
  exact ⟨rfl, rfl⟩
theorem rr11_w (x : Int) (w : World) : Calls Tryd.prog 187 #[.int .u32 x, .int .i64 (-11)] w fun e w' => e = .returned (.int .u32 (rr 11 x)) ∧ w' = w := by
  have h1 : Go.bits .and .u64 (IntKind.u64.wrap (-11)) 31 = 21 := by decide
  have h2 : IntKind.u64.wrap (32 - 21) = 11 := by decide
  go_enter Tryd.func187, Tryd.ntmps187
  go_wp2
  go_ret
  exact ⟨rfl, rfl⟩
theorem rr25_w (x : Int) (w : World) : Calls Tryd.prog 187 #[.int .u32 x, .int .i64 (-25)] w fun e w' => e = .returned (.int .u32 (rr 25 x)) ∧ w' = w := by
  have h1 : Go.bits .and .u64 (IntKind.u64.wrap (-25)) 31 = 7 := by decide
  have h2 : IntKind.u64.wrap (32 - 7) = 25 := by decide
  go_enter Tryd.func187, Tryd.ntmps187
  go_wp2
  go_ret
  exact ⟨rfl, rfl⟩
theorem rr2_w (x : Int) (w : World) : Calls Tryd.prog 187 #[.int .u32 x, .int .i64 (-2)] w fun e w' => e = .returned (.int .u32 (rr 2 x)) ∧ w' = w := by
  have h1 : Go.bits .and .u64 (IntKind.u64.wrap (-2)) 31 = 30 := by decide
  have h2 : IntKind.u64.wrap (32 - 30) = 2 := by decide
  go_enter Tryd.func187, Tryd.ntmps187
  go_wp2
  go_ret
  exact ⟨rfl, rfl⟩
theorem rr13_w (x : Int) (w : World) : Calls Tryd.prog 187 #[.int .u32 x, .int .i64 (-13)] w fun e w' => e = .returned (.int .u32 (rr 13 x)) ∧ w' = w := by
  have h1 : Go.bits .and .u64 (IntKind.u64.wrap (-13)) 31 = 19 := by decide
  have h2 : IntKind.u64.wrap (32 - 19) = 13 := by decide
  go_enter Tryd.func187, Tryd.ntmps187
  go_wp2
  go_ret
  exact ⟨rfl, rfl⟩
theorem rr22_w (x : Int) (w : World) : Calls Tryd.prog 187 #[.int .u32 x, .int .i64 (-22)] w fun e w' => e = .returned (.int .u32 (rr 22 x)) ∧ w' = w := by
  have h1 : Go.bits .and .u64 (IntKind.u64.wrap (-22)) 31 = 10 := by decide
  have h2 : IntKind.u64.wrap (32 - 10) = 22 := by decide
  go_enter Tryd.func187, Tryd.ntmps187
  go_wp2
  go_ret
  exact ⟨rfl, rfl⟩

def nextW (l : List Int) (n : Nat) : Int :=
  l.getD (n - 16) 0 + Go.bits .xor .u32 (Go.bits .xor .u32 (rr 7 (l.getD (n - 15) 0)) (rr 18 (l.getD (n - 15) 0))) (l.getD (n - 15) 0 / 8) + l.getD (n - 7) 0 + Go.bits .xor .u32 (Go.bits .xor .u32 (rr 17 (l.getD (n - 2) 0)) (rr 19 (l.getD (n - 2) 0))) (l.getD (n - 2) 0 / 1024)
def expW (l : List Int) : Nat → List Int
  | 0 => l
  | k + 1 => (expW l k).set (16 + k) (nextW (expW l k) (16 + k) % 4294967296)
theorem expW_len (l : List Int) (k : Nat) : (expW l k).length = l.length := by
  induction k with
  | zero => rfl
  | succ k ih => rw [expW, List.length_set, ih]
theorem UArr.getD {t b : Nat} {l : List Int} {w : World} (h : UArr t b l w) (j : Nat) (hj : j < l.length) : w.cell? ⟨b, j, none⟩ = some (.int .u32 (l.getD j 0)) ∧ w.frozen? ⟨b, j, none⟩ = false := by
  have := h.cell j hj
  rw [show l.getD j 0 = l[j] by simp [hj]]
  exact this
theorem getD_at (s : ByteArray) (k : Nat) (h : k < s.size) : s.data.toList.getD k 0 = s[k] := by
  have h' : k < s.data.toList.length := by rw [ba_len]; exact h
  rw [List.getD_eq_getElem?_getD, List.getElem?_eq_getElem h', at_of s k h]
  rfl

/-- A word of a block, j of its four bytes read. -/
def word4 (s : ByteArray) (i : Nat) : Nat → Int
  | 0 => 0
  | j + 1 => Go.bits .or .u32 (word4 s i j * 256 % 4294967296) ((s.data.toList.getD (4 * i + j) 0).toNat % 4294967296 : Int)
def firstW (s : ByteArray) (i : Nat) : List Int := (List.range i).map (fun k => word4 s k 4) ++ List.replicate (64 - i) 0
theorem firstW_len (s : ByteArray) (i : Nat) (h : i ≤ 16) : (firstW s i).length = 64 := by simp [firstW]; omega
def firstJ (s : ByteArray) (i j : Nat) : List Int := (firstW s i).set i (word4 s i j)
theorem firstJ_len (s : ByteArray) (i j : Nat) (h : i ≤ 16) : (firstJ s i j).length = 64 := by rw [firstJ, List.length_set, firstW_len s i h]

theorem firstJ_zero (s : ByteArray) (i : Nat) (h : i < 16) : firstJ s i 0 = firstW s i := by
  rw [firstJ, firstW, List.set_append_right _ _ (by simp), show 64 - i = (64 - (i + 1)) + 1 by omega, List.replicate_succ]
  simp [word4]
theorem firstJ_four (s : ByteArray) (i : Nat) (h : i < 16) : firstJ s i 4 = firstW s (i + 1) := by
  rw [firstJ, firstW, firstW, List.set_append_right _ _ (by simp), show 64 - i = (64 - (i + 1)) + 1 by omega, List.replicate_succ, List.range_succ]
  simp
theorem firstJ_get (s : ByteArray) (i j : Nat) (h : i < 16) : (firstJ s i j)[i]'(by rw [firstJ_len s i j (by omega)]; omega) = word4 s i j := by
  simp [firstJ]
theorem firstJ_succ (s : ByteArray) (i j : Nat) : firstJ s i (j + 1) = (firstJ s i j).set i (Go.bits .or .u32 (word4 s i j * 256 % 4294967296) ((s.data.toList.getD (4 * i + j) 0).toNat % 4294967296 : Int)) := by
  simp [firstJ, word4]

theorem eight (l : List Int) (h : l.length = 8) : ∃ a b c d e f g i, l = [a, b, c, d, e, f, g, i] := by
  match l, h with
  | [a, b, c, d, e, f, g, i], _ => exact ⟨a, b, c, d, e, f, g, i, rfl⟩

def rnd (c x : Int) : List Int → List Int
  | [a, b, c', d, e, f, g, h] =>
    let t := (h + Go.bits .xor .u32 (Go.bits .xor .u32 (rr 6 e) (rr 11 e)) (rr 25 e) + (Go.bits .xor .u32 (Go.bits .and .u32 e f) (Go.bits .and .u32 (Go.bits .xor .u32 IntKind.u32.max e) g) + c + x)) % 4294967296
    let u := (Go.bits .xor .u32 (Go.bits .xor .u32 (rr 2 a) (rr 13 a)) (rr 22 a) + Go.bits .xor .u32 (Go.bits .xor .u32 (Go.bits .and .u32 a b) (Go.bits .and .u32 a c')) (Go.bits .and .u32 b c')) % 4294967296
    [(t + u) % 4294967296, a, b, c', (d + t) % 4294967296, e, f, g]
  | l => l
def rnds (W l : List Int) : Nat → List Int
  | 0 => l
  | k + 1 => rnd (shaTab.getD k 0) (W.getD k 0) (rnds W l k)
theorem rnds_succ (W l : List Int) (k : Nat) : rnds W l (k + 1) = rnd (shaTab.getD k 0) (W.getD k 0) (rnds W l k) := rfl

def loopAt (n : Nat) : Code → Option Code
  | .seq a b => match loopAt n a with | some c => some c | none => loopAt n b
  | .block _ c => loopAt n c
  | .scope c => loopAt n c
  | .cond _ a b => match loopAt n a with | some c => some c | none => loopAt n b
  | .loop c => if (match firstR c with | some k => k == n | none => false) then some (.loop c) else loopAt n c
  | _ => none
  where firstR : Code → Option Nat
  | .seq a b => match firstR a with | some c => some c | none => firstR b
  | .block _ c => firstR c
  | .scope c => firstR c
  | .region k _ _ => some k
  | _ => none

noncomputable def L4 : Code := ((Tryd.f172.body).bind (loopAt 20)).getD .skip

set_option maxHeartbeats 8000000 in
set_option maxRecDepth 100000 in
theorem loop4_w (Q : Exit → Act → World → Prop) (bw : Nat) (WX : List Int) (A B C D E F G H : Int) (w0 w : World) (hL : WX.length = 64) (HR : UArr 167 bw WX w) (HB : Below bw w0 w)
    (hT : ∀ i, i < 64 → w0.cell? ⟨2, i, none⟩ = some (.int .u32 (shaTab.getD i 0))) (hbw : 2 < bw) {x0 x1 x2 x3 x5 x6 x7 x8 x9 x10 x11 x20 x21 x22 x23 x24 x25 x26 x27 x28 x29 x30 x31 x32 x33 x34 x35 x36 x37 x38 x39 x40 x41 x42 x43 x44 x45 x46 x47 x48 x49 x50 x51 x52 x53 x54 x55 x56 x57 x58 x59 x60 x61 x62 x63 x64 x65 x66 x67 x68 x69 x70 x71 x72 x73 x74 x75 x76 x77 x78 x79 x80 x81 x82 x83 x84 x85 x86 x87 x88 x89 x90 x91 x92 x93 x94 x95 x96 x97 x98 x99 x100 x101 x102 x103 x104 x105 x106 x107 x108 x109 x110 x111 x112 x113 x114 x115 x116 x117 x118 x119 x120 x121 x123 x124 x125 x126 x127 x128 x129 x130 x131 x132 x133 x134 x135 x136 x137 x138 x139 x140 x141 x142 x143 x144 x145 x146 x147 x148 x149 x150 x151 x152 x153 x154 x155 x156 x157 x158 x159 x160 x161 x162 x163 x164 x165 x166 x167 x168 x169 x170 x171 x172 x173 x174 x175 x176 x177 x178 x179 x180 x181 x182 x183 x184 x185 x186 x187 x188 x189 x190 x191 x192 x193 x194 x195 x196 x197 x198 x199 x200 x201 x202 x203 x204 x205 x206 x207 x208 x209 : Value}
    (hQ : ∀ (A' B' C' D' E' F' G' H' : Int) (y20 y21 y22 y124 y125 y126 y127 y128 y129 y130 y131 y132 y133 y134 y135 y136 y137 y138 y139 y140 y141 y142 y143 y144 y145 y146 y147 y148 y149 y150 y151 y152 y153 y154 y155 y156 y157 y158 y159 y160 y161 y162 y163 y164 y165 y166 y167 y168 y169 y170 y171 y172 y173 y174 y175 y176 y177 y178 y179 y180 y181 y182 y183 y184 y185 y186 : Value) (w' : World), rnds WX [A, B, C, D, E, F, G, H] 64 = [A', B', C', D', E', F', G', H'] → UArr 167 bw WX w' → Below bw w0 w' → Q (.exit 6) ⟨List.toArray (x0 :: x1 :: x2 :: x3 :: (.pointer (some ⟨bw, 0, none⟩)) :: x5 :: x6 :: x7 :: x8 :: x9 :: x10 :: x11 :: (.int .u32 A') :: (.int .u32 B') :: (.int .u32 C') :: (.int .u32 D') :: (.int .u32 E') :: (.int .u32 F') :: (.int .u32 G') :: (.int .u32 H') :: y20 :: y21 :: y22 :: x23 :: x24 :: x25 :: x26 :: x27 :: x28 :: x29 :: x30 :: x31 :: x32 :: x33 :: x34 :: x35 :: x36 :: x37 :: x38 :: x39 :: x40 :: x41 :: x42 :: x43 :: x44 :: x45 :: x46 :: x47 :: x48 :: x49 :: x50 :: x51 :: x52 :: x53 :: x54 :: x55 :: x56 :: x57 :: x58 :: x59 :: x60 :: x61 :: x62 :: x63 :: x64 :: x65 :: x66 :: x67 :: x68 :: x69 :: x70 :: x71 :: x72 :: x73 :: x74 :: x75 :: x76 :: x77 :: x78 :: x79 :: x80 :: x81 :: x82 :: x83 :: x84 :: x85 :: x86 :: x87 :: x88 :: x89 :: x90 :: x91 :: x92 :: x93 :: x94 :: x95 :: x96 :: x97 :: x98 :: x99 :: x100 :: x101 :: x102 :: x103 :: x104 :: x105 :: x106 :: x107 :: x108 :: x109 :: x110 :: x111 :: x112 :: x113 :: x114 :: x115 :: x116 :: x117 :: x118 :: x119 :: x120 :: x121 :: (.int .i64 64) :: (.bool false) :: y124 :: y125 :: y126 :: y127 :: y128 :: y129 :: y130 :: y131 :: y132 :: y133 :: y134 :: y135 :: y136 :: y137 :: y138 :: y139 :: y140 :: y141 :: y142 :: y143 :: y144 :: y145 :: y146 :: y147 :: y148 :: y149 :: y150 :: y151 :: y152 :: y153 :: y154 :: y155 :: y156 :: y157 :: y158 :: y159 :: y160 :: y161 :: y162 :: y163 :: y164 :: y165 :: y166 :: y167 :: y168 :: y169 :: y170 :: y171 :: y172 :: y173 :: y174 :: y175 :: y176 :: y177 :: y178 :: y179 :: y180 :: y181 :: y182 :: y183 :: y184 :: y185 :: y186 :: x187 :: x188 :: x189 :: x190 :: x191 :: x192 :: x193 :: x194 :: x195 :: x196 :: x197 :: x198 :: x199 :: x200 :: x201 :: x202 :: x203 :: x204 :: x205 :: x206 :: x207 :: x208 :: x209 :: []), []⟩ w') :
    L4.wp Tryd.prog Q ⟨List.toArray (x0 :: x1 :: x2 :: x3 :: (.pointer (some ⟨bw, 0, none⟩)) :: x5 :: x6 :: x7 :: x8 :: x9 :: x10 :: x11 :: (.int .u32 A) :: (.int .u32 B) :: (.int .u32 C) :: (.int .u32 D) :: (.int .u32 E) :: (.int .u32 F) :: (.int .u32 G) :: (.int .u32 H) :: x20 :: x21 :: x22 :: x23 :: x24 :: x25 :: x26 :: x27 :: x28 :: x29 :: x30 :: x31 :: x32 :: x33 :: x34 :: x35 :: x36 :: x37 :: x38 :: x39 :: x40 :: x41 :: x42 :: x43 :: x44 :: x45 :: x46 :: x47 :: x48 :: x49 :: x50 :: x51 :: x52 :: x53 :: x54 :: x55 :: x56 :: x57 :: x58 :: x59 :: x60 :: x61 :: x62 :: x63 :: x64 :: x65 :: x66 :: x67 :: x68 :: x69 :: x70 :: x71 :: x72 :: x73 :: x74 :: x75 :: x76 :: x77 :: x78 :: x79 :: x80 :: x81 :: x82 :: x83 :: x84 :: x85 :: x86 :: x87 :: x88 :: x89 :: x90 :: x91 :: x92 :: x93 :: x94 :: x95 :: x96 :: x97 :: x98 :: x99 :: x100 :: x101 :: x102 :: x103 :: x104 :: x105 :: x106 :: x107 :: x108 :: x109 :: x110 :: x111 :: x112 :: x113 :: x114 :: x115 :: x116 :: x117 :: x118 :: x119 :: x120 :: x121 :: (.int .i64 0) :: x123 :: x124 :: x125 :: x126 :: x127 :: x128 :: x129 :: x130 :: x131 :: x132 :: x133 :: x134 :: x135 :: x136 :: x137 :: x138 :: x139 :: x140 :: x141 :: x142 :: x143 :: x144 :: x145 :: x146 :: x147 :: x148 :: x149 :: x150 :: x151 :: x152 :: x153 :: x154 :: x155 :: x156 :: x157 :: x158 :: x159 :: x160 :: x161 :: x162 :: x163 :: x164 :: x165 :: x166 :: x167 :: x168 :: x169 :: x170 :: x171 :: x172 :: x173 :: x174 :: x175 :: x176 :: x177 :: x178 :: x179 :: x180 :: x181 :: x182 :: x183 :: x184 :: x185 :: x186 :: x187 :: x188 :: x189 :: x190 :: x191 :: x192 :: x193 :: x194 :: x195 :: x196 :: x197 :: x198 :: x199 :: x200 :: x201 :: x202 :: x203 :: x204 :: x205 :: x206 :: x207 :: x208 :: x209 :: []), []⟩ w := by
  have HRW := Aside0.mk HR
  have HBW := Aside0.mk HB
  have HT := Aside0.mk hT
  have HQ := Aside0.mk hQ
  clear HR HB hT hQ
  unfold L4
  conv => arg 2; whnf
  go_loopw [12, 13, 14, 15, 16, 17, 18, 19, 122] (fun a b c d e f g h i wr => ∃ (n : Nat) (A' B' C' D' E' F' G' H' : Int), n ≤ 64 ∧ i = .int .i64 (n : Int) ∧ a = .int .u32 A' ∧ b = .int .u32 B' ∧ c = .int .u32 C' ∧ d = .int .u32 D' ∧ e = .int .u32 E' ∧ f = .int .u32 F' ∧ g = .int .u32 G' ∧ h = .int .u32 H' ∧ Aside0 (rnds WX [A, B, C, D, E, F, G, H] n = [A', B', C', D', E', F', G', H']) ∧ Aside0 (UArr 167 bw WX wr) ∧ Aside0 (Below bw w0 wr)) (fun _ _ _ _ _ _ _ _ i _ => 64 - (intOf i).toNat)
  case atStart => exact ⟨0, _, _, _, _, _, _, _, _, Nat.zero_le _, rfl, rfl, rfl, rfl, rfl, rfl, rfl, rfl, rfl, ⟨rfl⟩, HRW, HBW⟩
  case round =>
    clear HRW HBW
    obtain ⟨n, A', B', C', D', E', F', G', H', hn, rfl, rfl, rfl, rfl, rfl, rfl, rfl, rfl, rfl, HS, HR, HB⟩ := hrel
    by_cases hlt : n < 64
    · obtain ⟨hx, hxf⟩ := HR.out.getD n (by omega)
      have hT := HT.out n hlt
      have hT2 : wr.cell? ⟨2, n, none⟩ = some (.int .u32 (shaTab.getD n 0)) := (HB.out.cell (p := ⟨2, n, none⟩) hbw).trans hT
      have HSR := Aside0.mk (rnds_succ WX [A, B, C, D, E, F, G, H] n)
      generalize WX.getD n 0 = X at hx HSR
      generalize shaTab.getD n 0 = Cn at hT2 HSR
      clear hT
      have hsg : IntKind.u32.signed = false := rfl
      go_wp2_with fail
      refine (rr6_w E' _).mono ?_
      rintro e w2 ⟨rfl, rfl⟩
      go_wp2_with fail
      refine (rr11_w E' _).mono ?_
      rintro e w2 ⟨rfl, rfl⟩
      go_wp2_with fail
      refine (rr25_w E' _).mono ?_
      rintro e w2 ⟨rfl, rfl⟩
      go_wp2_with fail
      go_quiet (fail)
      go_wp2_with fail
      refine (rr2_w A' _).mono ?_
      rintro e w2 ⟨rfl, rfl⟩
      go_wp2_with fail
      refine (rr13_w A' _).mono ?_
      rintro e w2 ⟨rfl, rfl⟩
      go_wp2_with fail
      refine (rr22_w A' _).mono ?_
      rintro e w2 ⟨rfl, rfl⟩
      go_wp2_with fail
      refine ⟨?_, ?measure⟩
      case roundEnd =>
        refine ⟨n + 1, _, _, _, _, _, _, _, _, by omega, by go_num, rfl, rfl, rfl, rfl, rfl, rfl, rfl, rfl, ⟨?_⟩, HR, ⟨pw_below_drewN HB.out _⟩⟩
        rw [HSR.out, HS.out]
        rfl
      case measure => simp [intOf]; omega
    · obtain rfl : n = 64 := by omega
      go_wp2
      exact HQ.out _ _ _ _ _ _ _ _ _ _ _ _ _ _ _ _ _ _ _ _ _ _ _ _ _ _ _ _ _ _ _ _ _ _ _ _ _ _ _ _ _ _ _ _ _ _ _ _ _ _ _ _ _ _ _ _ _ _ _ _ _ _ _ _ _ _ _ _ _ _ _ _ _ _ wr HS.out HR.out HB.out
def addW (l v : List Int) : Nat → List Int
  | 0 => l
  | k + 1 => (addW l v k).set k (((addW l v k).getD k 0 + v.getD k 0) % 4294967296)
theorem addW_len (l v : List Int) (k : Nat) : (addW l v k).length = l.length := by
  induction k with
  | zero => rfl
  | succ k ih => rw [addW, List.length_set, ih]
theorem addW_succ (l v : List Int) (k : Nat) : addW l v (k + 1) = (addW l v k).set k (((addW l v k).getD k 0 + v.getD k 0) % 4294967296) := rfl

theorem agg_index155 (V : List Int) (n : Nat) (hn : n < 8) (hV : V.length = 8) (w : World) : (Instr.index 155 (.agg (V.map (Value.int .u32)).toArray) (.int .i64 (n : Int))).run Tryd.prog w = .ok (.int .u32 (V.getD n 0)) w := by
  have hn8 : (n : Int) < 8 := by omega
  simp [Instr.index, run_underlying Tryd.underlying155, asIntOf]
  have hn' : n < V.length := by omega
  rw [if_pos hn]
  simp [part, isAgg, run_underlying Tryd.underlying148, hn']

/-- The state after one block. -/
def procF (l : List Int) (s : ByteArray) : List Int := addW l (rnds (expW (firstW s 16) 48) l 64) 8

noncomputable def L5 : Code := ((Tryd.f172.body).bind (loopAt 29)).getD .skip
set_option maxHeartbeats 8000000 in
set_option maxRecDepth 100000 in
theorem loop5_w (Q : Exit → Act → World → Prop) (B b : Nat) (l V : List Int) (w0 w : World) (hl : l.length = 8) (hV : V.length = 8) (HR : UArr 156 b l w) (HB : Below B w0 w) (hBb : B ≤ b) {x1 x2 x3 x4 x5 x6 x7 x8 x9 x10 x11 x12 x13 x14 x15 x16 x17 x18 x19 x20 x21 x22 x23 x24 x25 x26 x27 x28 x29 x30 x31 x32 x33 x34 x35 x36 x37 x38 x39 x40 x41 x42 x43 x44 x45 x46 x47 x48 x49 x50 x51 x52 x53 x54 x55 x56 x57 x58 x59 x60 x61 x62 x63 x64 x65 x66 x67 x68 x69 x70 x71 x72 x73 x74 x75 x76 x77 x78 x79 x80 x81 x82 x83 x84 x85 x86 x87 x88 x89 x90 x91 x92 x93 x94 x95 x96 x97 x98 x99 x100 x101 x102 x103 x104 x105 x106 x107 x108 x109 x110 x111 x112 x113 x114 x115 x116 x117 x118 x119 x120 x121 x122 x123 x124 x125 x126 x127 x128 x129 x130 x131 x132 x133 x134 x135 x136 x137 x138 x139 x140 x141 x142 x143 x144 x145 x146 x147 x148 x149 x150 x151 x152 x153 x154 x155 x156 x157 x158 x159 x160 x161 x162 x163 x164 x165 x166 x167 x168 x169 x170 x171 x172 x173 x174 x175 x176 x177 x178 x179 x180 x181 x182 x183 x184 x185 x186 x187 x188 x189 x190 x191 x192 x193 x194 x197 x198 x199 x200 x201 x202 x203 x204 x205 x206 x207 x208 x209 : Value}
    (hQ : ∀ (y23 y24 y198 y199 y200 y201 y202 y203 y204 y205 y206 y207 y208 y209 : Value) (w' : World), UArr 156 b (addW l V 8) w' → Below B w0 w' → Q (.exit 8) ⟨List.toArray ((.pointer (some ⟨b, 0, none⟩)) :: x1 :: x2 :: x3 :: x4 :: x5 :: x6 :: x7 :: x8 :: x9 :: x10 :: x11 :: x12 :: x13 :: x14 :: x15 :: x16 :: x17 :: x18 :: x19 :: x20 :: x21 :: x22 :: y23 :: y24 :: x25 :: x26 :: x27 :: x28 :: x29 :: x30 :: x31 :: x32 :: x33 :: x34 :: x35 :: x36 :: x37 :: x38 :: x39 :: x40 :: x41 :: x42 :: x43 :: x44 :: x45 :: x46 :: x47 :: x48 :: x49 :: x50 :: x51 :: x52 :: x53 :: x54 :: x55 :: x56 :: x57 :: x58 :: x59 :: x60 :: x61 :: x62 :: x63 :: x64 :: x65 :: x66 :: x67 :: x68 :: x69 :: x70 :: x71 :: x72 :: x73 :: x74 :: x75 :: x76 :: x77 :: x78 :: x79 :: x80 :: x81 :: x82 :: x83 :: x84 :: x85 :: x86 :: x87 :: x88 :: x89 :: x90 :: x91 :: x92 :: x93 :: x94 :: x95 :: x96 :: x97 :: x98 :: x99 :: x100 :: x101 :: x102 :: x103 :: x104 :: x105 :: x106 :: x107 :: x108 :: x109 :: x110 :: x111 :: x112 :: x113 :: x114 :: x115 :: x116 :: x117 :: x118 :: x119 :: x120 :: x121 :: x122 :: x123 :: x124 :: x125 :: x126 :: x127 :: x128 :: x129 :: x130 :: x131 :: x132 :: x133 :: x134 :: x135 :: x136 :: x137 :: x138 :: x139 :: x140 :: x141 :: x142 :: x143 :: x144 :: x145 :: x146 :: x147 :: x148 :: x149 :: x150 :: x151 :: x152 :: x153 :: x154 :: x155 :: x156 :: x157 :: x158 :: x159 :: x160 :: x161 :: x162 :: x163 :: x164 :: x165 :: x166 :: x167 :: x168 :: x169 :: x170 :: x171 :: x172 :: x173 :: x174 :: x175 :: x176 :: x177 :: x178 :: x179 :: x180 :: x181 :: x182 :: x183 :: x184 :: x185 :: x186 :: x187 :: x188 :: x189 :: x190 :: x191 :: x192 :: x193 :: x194 :: (.agg (V.map (Value.int .u32)).toArray) :: (.int .i64 8) :: (.bool false) :: y198 :: y199 :: y200 :: y201 :: y202 :: y203 :: y204 :: y205 :: y206 :: y207 :: y208 :: y209 :: []), []⟩ w') :
    L5.wp Tryd.prog Q ⟨List.toArray ((.pointer (some ⟨b, 0, none⟩)) :: x1 :: x2 :: x3 :: x4 :: x5 :: x6 :: x7 :: x8 :: x9 :: x10 :: x11 :: x12 :: x13 :: x14 :: x15 :: x16 :: x17 :: x18 :: x19 :: x20 :: x21 :: x22 :: x23 :: x24 :: x25 :: x26 :: x27 :: x28 :: x29 :: x30 :: x31 :: x32 :: x33 :: x34 :: x35 :: x36 :: x37 :: x38 :: x39 :: x40 :: x41 :: x42 :: x43 :: x44 :: x45 :: x46 :: x47 :: x48 :: x49 :: x50 :: x51 :: x52 :: x53 :: x54 :: x55 :: x56 :: x57 :: x58 :: x59 :: x60 :: x61 :: x62 :: x63 :: x64 :: x65 :: x66 :: x67 :: x68 :: x69 :: x70 :: x71 :: x72 :: x73 :: x74 :: x75 :: x76 :: x77 :: x78 :: x79 :: x80 :: x81 :: x82 :: x83 :: x84 :: x85 :: x86 :: x87 :: x88 :: x89 :: x90 :: x91 :: x92 :: x93 :: x94 :: x95 :: x96 :: x97 :: x98 :: x99 :: x100 :: x101 :: x102 :: x103 :: x104 :: x105 :: x106 :: x107 :: x108 :: x109 :: x110 :: x111 :: x112 :: x113 :: x114 :: x115 :: x116 :: x117 :: x118 :: x119 :: x120 :: x121 :: x122 :: x123 :: x124 :: x125 :: x126 :: x127 :: x128 :: x129 :: x130 :: x131 :: x132 :: x133 :: x134 :: x135 :: x136 :: x137 :: x138 :: x139 :: x140 :: x141 :: x142 :: x143 :: x144 :: x145 :: x146 :: x147 :: x148 :: x149 :: x150 :: x151 :: x152 :: x153 :: x154 :: x155 :: x156 :: x157 :: x158 :: x159 :: x160 :: x161 :: x162 :: x163 :: x164 :: x165 :: x166 :: x167 :: x168 :: x169 :: x170 :: x171 :: x172 :: x173 :: x174 :: x175 :: x176 :: x177 :: x178 :: x179 :: x180 :: x181 :: x182 :: x183 :: x184 :: x185 :: x186 :: x187 :: x188 :: x189 :: x190 :: x191 :: x192 :: x193 :: x194 :: (.agg (V.map (Value.int .u32)).toArray) :: (.int .i64 0) :: x197 :: x198 :: x199 :: x200 :: x201 :: x202 :: x203 :: x204 :: x205 :: x206 :: x207 :: x208 :: x209 :: []), []⟩ w := by
  have HRW := Aside0.mk HR
  have HBW := Aside0.mk HB
  have HQ := Aside0.mk hQ
  clear HR HB hQ
  unfold L5
  conv => arg 2; whnf
  go_loopw [196] (fun i wr => ∃ n : Nat, n ≤ 8 ∧ i = .int .i64 (n : Int) ∧ Aside0 (UArr 156 b (addW l V n) wr) ∧ Aside0 (Below B w0 wr)) (fun i _ => 8 - (intOf i).toNat)
  case atStart => exact ⟨0, Nat.zero_le _, rfl, HRW, HBW⟩
  case round =>
    clear HRW HBW
    obtain ⟨n, hn, rfl, HR, HB⟩ := hrel
    by_cases hlt : n < 8
    · obtain ⟨hx, hxf⟩ := HR.out.getD n (by rw [addW_len]; omega)
      have HS := Aside0.mk (addW_succ l V n)
      generalize (addW l V n).getD n 0 = X at hx HS
      have hix : ∀ w, (Instr.index 155 (.agg (V.map (Value.int .u32)).toArray) (.int .i64 n)).run Tryd.prog w = .ok (.int .u32 (V.getD n 0)) w := agg_index155 V n (by omega) hV
      generalize V.getD n 0 = Y at hix HS
      go_wp2_with fail
      go_region
      go_wp2_with fail
      refine ⟨⟨n + 1, by omega, by go_num, ⟨by rw [HS.out]; exact HR.out.put n _⟩, ⟨(HB.out.setCell (p := ⟨b, n, none⟩) hBb _).drew⟩⟩, ?_⟩
      simp [intOf]
      omega
    · obtain rfl : n = 8 := by omega
      go_wp2
      exact HQ.out _ _ _ _ _ _ _ _ _ _ _ _ _ _ wr HR.out HB.out
set_option maxHeartbeats 8000000 in
set_option maxRecDepth 100000 in
theorem process_w (b B0 : Nat) (l : List Int) (s : ByteArray) (w : World) (hG : GOk 1 w) (hs : s.size = 64) (hl : l.length = 8) (hU : UArr 156 b l w) (hB : B0 ≤ b) :
    Calls Tryd.prog 172 #[.pointer (some ⟨b, 0, none⟩), .string s] w fun e w' => e = .returned (.tuple #[]) ∧ UArr 156 b (procF l s) w' ∧ Below B0 w w' := by
  go_enter Tryd.func172, Tryd.ntmps172
  go_wp2_with fail
  have hbw : b < w.heap.size := hU.lt
  go_loopw [25] (fun i wr => ∃ k : Nat, k ≤ 16 ∧ i = .int .i64 k ∧ Aside0 (UArr 167 w.heap.size (firstW s k) wr) ∧ Aside0 (Below w.heap.size w wr)) (fun i _ => 16 - (intOf i).toNat)
  case atStart =>
    refine ⟨0, Nat.zero_le _, rfl, ⟨?_⟩, ⟨?_⟩⟩
    · show (w.heap.push _)[w.heap.size]? = _
      rw [Array.getElem?_push_size]
      rfl
    · exact (Below.refl _ w).alloc (Nat.le_refl _) _
  case round =>
    obtain ⟨k, hk, rfl, HR, HB⟩ := hrel
    by_cases hlt : k < 16
    · go_wp2_with fail
      go_loopw [28] (fun i wr => ∃ j : Nat, j ≤ 4 ∧ i = .int .i64 j ∧ Aside0 (UArr 167 w.heap.size (firstJ s k j) wr) ∧ Aside0 (Below w.heap.size w wr)) (fun i _ => 4 - (intOf i).toNat)
      case atStart => exact ⟨0, Nat.zero_le _, rfl, ⟨by rw [firstJ_zero]; exact HR.out; exact hlt⟩, HB⟩
      case round =>
        obtain ⟨j, hj, rfl, HR2, HB2⟩ := hrel
        by_cases hlt2 : j < 4
        · have hc := HR2.out.cell k (by rw [firstJ_len s k j hk]; omega)
          rw [firstJ_get s k j hlt] at hc
          obtain ⟨hc, hfz⟩ := hc
          have hi0 : 0 ≤ 4 * (k : Int) + (j : Int) := by omega
          have hi1 : 4 * (k : Int) + (j : Int) < 64 := by omega
          have hi2 : 4 * (k : Int) + (j : Int) < (s.size : Int) := by omega
          have hi3 := And.intro hi0 hi1
          have hk64 : (k : Int) < 64 := by omega
          go_wp2_with fail
          go_region
          go_wp2
          go_roundw
          case rel =>
            refine ⟨j + 1, by omega, by go_num, ⟨?_⟩, ⟨(HB2.out.setCell (p := ⟨w.heap.size, k, none⟩) (Nat.le_refl _) _).drew⟩⟩
            rw [firstJ_succ, getD_at s _ (by omega)]
            exact HR2.out.put k _
          case measure => simp [intOf]; omega
        · obtain rfl : j = 4 := by omega
          go_wp2
          go_roundw
          case rel =>
            refine ⟨k + 1, by omega, by go_num, ⟨?_⟩, HB2⟩
            rw [← firstJ_four s k hlt]
            exact HR2.out
          case measure => simp [intOf]; omega
    · obtain rfl : k = 16 := by omega
      go_wp2_with fail
      have hW : (firstW s 16).length = 64 := firstW_len s 16 (Nat.le_refl _)
      generalize hWs : firstW s 16 = W0 at HR hW
      go_loopw [7] (fun i wr => ∃ n : Nat, 16 ≤ n ∧ n ≤ 64 ∧ i = .int .i64 (n : Int) ∧ Aside0 (UArr 167 w.heap.size (expW W0 (n - 16)) wr) ∧ Aside0 (Below w.heap.size w wr)) (fun i _ => 64 - (intOf i).toNat)
      case atStart => exact ⟨16, Nat.le_refl _, by omega, rfl, ⟨HR.out⟩, HB⟩
      case round =>
        clear HR HB
        obtain ⟨n, hn1, hn2, rfl, HR, HB⟩ := hrel
        have hL : (expW W0 (n - 16)).length = 64 := by rw [expW_len]; exact hW
        by_cases hlt : n < 64
        · obtain ⟨hx, hxf⟩ := HR.out.getD (n - 15) (by omega)
          obtain ⟨hy, hyf⟩ := HR.out.getD (n - 2) (by omega)
          obtain ⟨hz, hzf⟩ := HR.out.getD (n - 16) (by omega)
          obtain ⟨hu, huf⟩ := HR.out.getD (n - 7) (by omega)
          obtain ⟨hv, hvf⟩ := HR.out.getD n (by omega)
          obtain ⟨NV, hNV⟩ : ∃ v, v = nextW (expW W0 (n - 16)) n := ⟨_, rfl⟩
          have HNV := Aside0.mk hNV
          rw [nextW] at hNV
          have HV := Aside0.mk hNV
          clear hNV
          generalize (expW W0 (n - 16)).getD (n - 15) 0 = X at hx HV
          generalize (expW W0 (n - 16)).getD (n - 2) 0 = Y at hy HV
          generalize (expW W0 (n - 16)).getD (n - 16) 0 = Z at hz HV
          generalize (expW W0 (n - 16)).getD (n - 7) 0 = U at hu HV
          generalize (expW W0 (n - 16)).getD n 0 = V at hv
          go_wp2_with fail
          go_region
          go_wp2_with fail
          refine (rr7_w X _).mono ?_
          rintro e w2 ⟨rfl, rfl⟩
          go_wp2_with fail
          refine (rr18_w X _).mono ?_
          rintro e w2 ⟨rfl, rfl⟩
          go_wp2_with fail
          refine (rr17_w Y _).mono ?_
          rintro e w2 ⟨rfl, rfl⟩
          go_wp2_with fail
          refine (rr19_w Y _).mono ?_
          rintro e w2 ⟨rfl, rfl⟩
          go_wp2_with fail
          go_region
          go_wp2
          refine ⟨?_, ?measure⟩
          iterate 48 apply Exists.intro
          refine ⟨?rel, rfl⟩
          case rel =>
            refine ⟨n + 1, by omega, by omega, by go_num, ⟨?_⟩, ⟨((HB.out.drew).setCell (p := ⟨w.heap.size, n, none⟩) (Nat.le_refl _) _).drew⟩⟩
            have h1 := HR.out.put n (NV % 4294967296)
            rw [show n + 1 - 16 = (n - 16) + 1 by omega, expW, show 16 + (n - 16) = n by omega]
            rw [HV.out] at h1
            rw [← HNV.out, HV.out]
            exact h1
          case measure => simp [intOf]; omega
        · obtain rfl : n = 64 := by omega
          generalize hEx : expW W0 (64 - 16) = WX at HR hL
          have hB2 := HB.out
          have hU2 := hU.below hB2
          have HU2 := Aside0.mk hU2
          have c0 := hU2.cell 0 (by omega)
          have c1 := hU2.cell 1 (by omega)
          have c2 := hU2.cell 2 (by omega)
          have c3 := hU2.cell 3 (by omega)
          have c4 := hU2.cell 4 (by omega)
          have c5 := hU2.cell 5 (by omega)
          have c6 := hU2.cell 6 (by omega)
          have c7 := hU2.cell 7 (by omega)
          obtain ⟨l0, l1, l2, l3, l4, l5, l6, l7, rfl⟩ := eight l hl
          simp only [List.getElem_cons_zero, List.getElem_cons_succ] at c0 c1 c2 c3 c4 c5 c6 c7
          clear hB2 hU2
          go_wp2_with fail
          go_region
          go_wp2_with fail
          go_region
          go_wp2_with fail
          clear c0 c1 c2 c3 c4 c5 c6 c7
          have HRW := HR
          have HT := Aside0.mk (fun (i : Nat) (hi : i < 64) => (hG.dig (Nat.le_refl _)).cell g_dig i hi)
          clear HRW
          have h2s := World.block_lt_of_cell? w _ (HT.out 0 (by omega))
          refine loop4_w _ w.heap.size WX l0 l1 l2 l3 l4 l5 l6 l7 w wr.drew.drew hL HR.out HB.out.drew.drew HT.out h2s ?_
          have HU3 := hU.below HB.out.drew.drew
          intro A B C D E F G H y20 y21 y22 y124  y125  y126  y127  y128  y129  y130  y131  y132  y133  y134  y135  y136  y137  y138  y139  y140  y141  y142  y143  y144  y145  y146  y147  y148  y149  y150  y151  y152  y153  y154  y155  y156  y157  y158  y159  y160  y161  y162  y163  y164  y165  y166  y167  y168  y169  y170  y171  y172  y173  y174  y175  y176  y177  y178  y179  y180  y181  y182  y183  y184  y185  y186 w3 hR4 hW4 hB4
          have HRR := Aside0.mk hR4
          have HU4 := Aside0.mk (hU.below hB4)
          have HB4 := Aside0.mk hB4
          clear HT h2s hR4 hW4 hB4 HU3 HR HB HU2
          go_wp2_with fail
          refine loop5_w _ B0 b [l0, l1, l2, l3, l4, l5, l6, l7] [A, B, C, D, E, F, G, H] w w3 rfl rfl HU4.out (HB4.out.mono (by omega)) hB ?_
          intro y23 y24 y198 y199 y200 y201 y202 y203 y204 y205 y206 y207 y208 y209 w5 hR5 hB5
          have hP : procF [l0, l1, l2, l3, l4, l5, l6, l7] s = addW [l0, l1, l2, l3, l4, l5, l6, l7] [A, B, C, D, E, F, G, H] 8 := by
            rw [procF, hWs, show 48 = 64 - 16 from rfl, hEx, HRR.out]
          rw [← hP] at hR5
          have HR5 := Aside0.mk hR5
          have HB5 := Aside0.mk hB5
          clear hR5 hB5 HRR HU4 HB4 hP hU
          go_wp2
          go_end0
          exact ⟨rfl, HR5.out, HB5.out⟩
end Go.Proofs.YtadnefnofbnheaaDoor.Pr
