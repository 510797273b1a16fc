/- Part 11 of the proof: HText, QMissiveref01Same. -/
import Derived.Test.YtadnefnofbnheaaDoorTT7
import Derived.Test.YtadnefnofbnheaaDoorTT1
import Derived.Test.YtadnefnofbnheaaDoorTT5
import Derived.LoopTactic
import Derived.Laws.IdiomStrings
import Derived.Test.YtadnefnofbnheaaDoorTT2
/- Lower and Upper, of the program and of the reference, and Unlines: the bytes of a string one by one. -/
namespace Go.Proofs.YtadnefnofbnheaaDoor.Pr
open Go.RowKit Go.Proofs.YtadnefnofbnheaaDoorW.PrintWords Go.Proofs.YtadnefnofbnheaaDoorW.PrintLast Go.Proofs.YtadnefnofbnheaaDoorW.PrintMore

def lowC (c : UInt8) : UInt8 := if 65 ≤ c.toNat ∧ c.toNat ≤ 90 then c + 32 else c
def upC (c : UInt8) : UInt8 := if 97 ≤ c.toNat ∧ c.toNat ≤ 122 then c - 32 else c
def lowB (s : ByteArray) : ByteArray := ⟨(s.data.toList.map lowC).toArray⟩
def upB (s : ByteArray) : ByteArray := ⟨(s.data.toList.map upC).toArray⟩

/-- Block b (from block B on) is a row of bytes that begins with l, and these may be written. -/
def BRow (B b : Nat) (l : List UInt8) (w : World) : Prop :=
  B ≤ b ∧ ∃ cs fz, w.heap[b]? = some (.cells cs 5 fz) ∧ (∀ j, j < l.length → w.frozen? ⟨b, j, none⟩ = false) ∧ ∀ j (h : j < l.length), cs[j]? = some (.int .u8 (l[j].toNat : Int))

theorem BRow.cell {B b : Nat} {l : List UInt8} {w : World} (h : BRow B b l w) (j : Nat) (hj : j < l.length) : w.cell? ⟨b, j, none⟩ = some (.int .u8 (l[j].toNat : Int)) ∧ w.frozen? ⟨b, j, none⟩ = false := by
  obtain ⟨_, cs, fz, hb, hf, hc⟩ := h
  exact ⟨by rw [Lib.cell_of_heap hb]; exact hc j hj, hf j hj⟩

theorem BRow.put {B b : Nat} {l : List UInt8} {w : World} (h : BRow B b l w) (i : Nat) (c : UInt8) : BRow B b (l.set i c) (w.setCell ⟨b, i, none⟩ (.int .u8 (c.toNat : Int))) := by
  obtain ⟨hB, cs, fz, hb, hf, hc⟩ := h
  have hb2 : (w.setCell ⟨b, i, none⟩ (.int .u8 (c.toNat : Int))).heap[b]? = some (.cells (cs.setIfInBounds i (.int .u8 (c.toNat : Int))) 5 fz) := by
    simp [World.setCell, Array.getElem?_modify, hb]
  refine ⟨hB, _, _, hb2, fun j hj => ?_, fun j hj => ?_⟩
  · rw [World.frozen?_setCell]
    exact hf j (by simpa using hj)
  · have hj' : j < l.length := by simpa using hj
    rw [Array.getElem?_setIfInBounds]
    have hlt := (Array.getElem?_eq_some_iff.1 (hc j hj')).1
    by_cases hij : i = j
    · subst hij
      rw [if_pos rfl, if_pos hlt]
      simp
    · rw [if_neg hij, hc j hj']
      simp [hij]

theorem BRow.below {B b : Nat} {l : List UInt8} {w w' : World} (h : BRow B b l w) (hb : Below w.heap.size w w') : BRow B b l w' := by
  obtain ⟨hB, cs, fz, hbk, hf, hc⟩ := h
  have hlt := (Array.getElem?_eq_some_iff.1 hbk).1
  exact ⟨hB, cs, fz, (hb.block b hlt).trans hbk, fun j hj => by rw [hb.frozen (p := ⟨b, j, none⟩) hlt]; exact hf j hj, hc⟩

/-- '[]byte(s)'. -/
theorem BRow.of_string (w : World) (s : ByteArray) (cap : Nat) :
    BRow w.heap.size w.heap.size s.data.toList (w.drew.alloc (.cells (bytesRow s cap) 5 ((bytesRow s cap).size, (bytesRow s cap).size + 1))) := by
  have hh : (w.drew.alloc (.cells (bytesRow s cap) 5 ((bytesRow s cap).size, (bytesRow s cap).size + 1))).heap[w.heap.size]? = some (.cells (bytesRow s cap) 5 ((bytesRow s cap).size, (bytesRow s cap).size + 1)) := by
    show (w.heap.push _)[w.heap.size]? = _
    simp
  refine ⟨Nat.le_refl _, _, _, hh, fun j hj => ?_, fun j hj => ?_⟩
  · have : j < (bytesRow s cap).size := by
      rw [Array.length_toList] at hj
      have h1 : (bytesRow s cap).size = s.data.size + (cap - s.size) := by simp [bytesRow]
      omega
    unfold World.frozen?
    simp only [hh]
    simp
    omega
  · rw [Array.length_toList] at hj
    have hj2 : j < (s.data.map fun b => Value.int .u8 (b.toNat : Int)).size := by simpa using hj
    unfold bytesRow
    rw [Array.getElem?_append_left hj2]
    simp
    exact ⟨_, Array.getElem?_eq_getElem hj, rfl⟩

/-- 'string(b)'. -/
theorem BRow.string {B b : Nat} {l : List UInt8} {w : World} (h : BRow B b l w) (cap : Nat) :
    (convert 98 9 (.slice (some ⟨b, 0, none⟩) l.length cap)).run Tryd.prog w = .ok (.string ⟨l.toArray⟩) w :=
  run_convert_bytes_back w _ _ _ ⟨b, 0, none⟩ cap l Tryd.underlying98 Tryd.underlying5 Tryd.underlying9 (fun j hj => by
    rw [show ((⟨b, 0, none⟩ : Addr).add j) = ⟨b, j, none⟩ by simp [Addr.add]; omega]
    exact (h.cell j hj).1)

theorem BRow.of_own {base n : Nat} {w : World} {v : Value} {l : List UInt8} {b : Nat} (h : w.ownsRow base 5 1 v n (l.map fun c => .int .u8 (c.toNat : Int))) (hn : l.length = n) (hb : v.ownBlock = some b) :
    BRow base b l w ∧ ∃ cap, v = .slice (some ⟨b, 0, none⟩) n cap := by
  obtain ⟨h1, h2⟩ := h
  rcases h2 with ⟨rfl, _⟩ | ⟨g, cap, cur, rfl, hg, hh, r⟩
  · simp [Value.ownBlock] at hb
  · obtain rfl : g = b := by simpa [Value.ownBlock] using hb
    obtain ⟨h3, h4, h5, h6⟩ := r
    refine ⟨⟨hg, cur, _, hh, fun j _ => Lib.frozen_of_heap hh j, fun j hj => ?_⟩, cap, rfl⟩
    have h7 := congrArg (fun x : List Value => x[j]?) h6
    simp only [Nat.mul_one] at h7
    rw [List.getElem?_take_of_lt (by omega)] at h7
    simpa [hj] using h7


theorem lower_w (c : UInt8) (w : World) : Calls Tryd.prog 105 #[.int .u8 (c.toNat : Int)] w fun e w' => e = .returned (.int .u8 ((lowC c).toNat : Int)) ∧ w' = w := by
  have hc := c.toNat_lt
  have H : (((lowC c).toNat : Nat) : Int) = if 65 ≤ (c.toNat : Int) ∧ (c.toNat : Int) ≤ 90 then ((c.toNat : Int) + 32) else (c.toNat : Int) := by
    unfold lowC
    by_cases h : 65 ≤ c.toNat ∧ c.toNat ≤ 90
    · rw [if_pos h, if_pos (by omega), UInt8.toNat_add]
      simp
      omega
    · rw [if_neg h, if_neg (by omega)]
  rw [H]
  clear H
  generalize (c.toNat : Int) = a at *
  by_cases h1 : 65 ≤ a
  · by_cases h2 : a ≤ 90
    · rw [if_pos ⟨h1, h2⟩]
      go_enter Tryd.func105, Tryd.ntmps105
      go_wp2
      go_ret
      exact ⟨rfl, rfl⟩
    · rw [if_neg (fun h => h2 h.2)]
      have h3 : 90 < a := by omega
      go_enter Tryd.func105, Tryd.ntmps105
      go_wp2
      go_ret
      exact ⟨rfl, rfl⟩
  · rw [if_neg (fun h => h1 h.1)]
    have h3 : a < 65 := by omega
    go_enter Tryd.func105, Tryd.ntmps105
    go_wp2
    go_ret
    exact ⟨rfl, rfl⟩

theorem upper_w (c : UInt8) (w : World) : Calls Tryd.prog 106 #[.int .u8 (c.toNat : Int)] w fun e w' => e = .returned (.int .u8 ((upC c).toNat : Int)) ∧ w' = w := by
  have hc := c.toNat_lt
  have H : (((upC c).toNat : Nat) : Int) = if 97 ≤ (c.toNat : Int) ∧ (c.toNat : Int) ≤ 122 then ((c.toNat : Int) - 32) else (c.toNat : Int) := by
    unfold upC
    by_cases h : 97 ≤ c.toNat ∧ c.toNat ≤ 122
    · rw [if_pos h, if_pos (by omega), UInt8.toNat_sub]
      simp
      omega
    · rw [if_neg h, if_neg (by omega)]
  rw [H]
  clear H
  generalize (c.toNat : Int) = a at *
  by_cases h1 : 97 ≤ a
  · by_cases h2 : a ≤ 122
    · rw [if_pos ⟨h1, h2⟩]
      go_enter Tryd.func106, Tryd.ntmps106
      go_wp2
      go_ret
      exact ⟨rfl, rfl⟩
    · rw [if_neg (fun h => h2 h.2)]
      have h3 : 122 < a := by omega
      go_enter Tryd.func106, Tryd.ntmps106
      go_wp2
      go_ret
      exact ⟨rfl, rfl⟩
  · rw [if_neg (fun h => h1 h.1)]
    have h3 : a < 97 := by omega
    go_enter Tryd.func106, Tryd.ntmps106
    go_wp2
    go_ret
    exact ⟨rfl, rfl⟩

theorem lower_r (c : UInt8) (w : World) : Calls Tryd.prog 107 #[.int .u8 (c.toNat : Int)] w fun e w' => e = .returned (.int .u8 ((lowC c).toNat : Int)) ∧ w' = w := by
  have hc := c.toNat_lt
  have H : (((lowC c).toNat : Nat) : Int) = if 65 ≤ (c.toNat : Int) ∧ (c.toNat : Int) ≤ 90 then ((c.toNat : Int) + 32) else (c.toNat : Int) := by
    unfold lowC
    by_cases h : 65 ≤ c.toNat ∧ c.toNat ≤ 90
    · rw [if_pos h, if_pos (by omega), UInt8.toNat_add]
      simp
      omega
    · rw [if_neg h, if_neg (by omega)]
  rw [H]
  clear H
  generalize (c.toNat : Int) = a at *
  by_cases h1 : 65 ≤ a
  · by_cases h2 : a ≤ 90
    · rw [if_pos ⟨h1, h2⟩]
      go_enter Tryd.func107, Tryd.ntmps107
      go_wp2
      go_ret
      exact ⟨rfl, rfl⟩
    · rw [if_neg (fun h => h2 h.2)]
      have h3 : 90 < a := by omega
      go_enter Tryd.func107, Tryd.ntmps107
      go_wp2
      go_ret
      exact ⟨rfl, rfl⟩
  · rw [if_neg (fun h => h1 h.1)]
    have h3 : a < 65 := by omega
    go_enter Tryd.func107, Tryd.ntmps107
    go_wp2
    go_ret
    exact ⟨rfl, rfl⟩

/-- What a loop over the bytes has come to behind k rounds. -/
def upTo (g : UInt8 → UInt8) (l : List UInt8) (k : Nat) : List UInt8 := (l.take k).map g ++ l.drop k
theorem upTo_len (g : UInt8 → UInt8) (l : List UInt8) (k : Nat) : (upTo g l k).length = l.length := by simp [upTo]; omega
theorem upTo_zero (g : UInt8 → UInt8) (l : List UInt8) : upTo g l 0 = l := by simp [upTo]
theorem upTo_all (g : UInt8 → UInt8) (l : List UInt8) : upTo g l l.length = l.map g := by simp [upTo]
theorem upTo_get (g : UInt8 → UInt8) (l : List UInt8) (k : Nat) (h : k < l.length) : (upTo g l k)[k]'(by rw [upTo_len]; exact h) = l[k] := by
  simp only [upTo]
  rw [List.getElem_append_right (by simp; omega)]
  simp
  congr 1
  omega
theorem upTo_succ (g : UInt8 → UInt8) (l : List UInt8) (k : Nat) (h : k < l.length) : (upTo g l k).set k (g l[k]) = upTo g l (k + 1) := by
  simp only [upTo]
  rw [List.set_append_right _ _ (by simp; omega), List.drop_eq_getElem_cons h, List.take_succ_eq_append_getElem h, List.map_append]
  have : k - ((l.take k).map g).length = 0 := by simp; omega
  rw [this]
  simp
  rw [List.drop_eq_getElem_cons h]
  rfl
theorem upTo_same (g : UInt8 → UInt8) (l : List UInt8) (k : Nat) (h : k < l.length) (hg : g l[k] = l[k]) : upTo g l (k + 1) = upTo g l k := by
  rw [← upTo_succ g l k h, hg]
  apply List.ext_getElem
  · simp
  · intro i h1 h2
    rw [List.getElem_set]
    split
    · rename_i hik
      subst hik
      exact (upTo_get g l k h).symm
    · rfl
theorem upTo_row {g : UInt8 → UInt8} {l : List UInt8} {B b k : Nat} {w : World} (h : BRow B b (upTo g l k) w) (hk : k < l.length) :
    w.cell? ⟨b, k, none⟩ = some (.int .u8 (l[k].toNat : Int)) ∧ w.frozen? ⟨b, k, none⟩ = false := by
  have := h.cell k (by rw [upTo_len]; exact hk)
  rw [upTo_get g l k hk] at this
  exact this

def mapTo (g : UInt8 → UInt8) (l : List UInt8) (k : Nat) : List UInt8 := (l.take k).map g ++ List.replicate (l.length - k) 0
theorem mapTo_len (g : UInt8 → UInt8) (l : List UInt8) (k : Nat) (h : k ≤ l.length) : (mapTo g l k).length = l.length := by simp [mapTo]; omega
theorem mapTo_zero (g : UInt8 → UInt8) (l : List UInt8) : mapTo g l 0 = List.replicate l.length 0 := by simp [mapTo]
theorem mapTo_all (g : UInt8 → UInt8) (l : List UInt8) : mapTo g l l.length = l.map g := by simp [mapTo]
theorem mapTo_succ (g : UInt8 → UInt8) (l : List UInt8) (k : Nat) (h : k < l.length) : (mapTo g l k).set k (g l[k]) = mapTo g l (k + 1) := by
  simp only [mapTo]
  rw [List.set_append_right _ _ (by simp; omega), List.take_succ_eq_append_getElem h, List.map_append]
  have : k - ((l.take k).map g).length = 0 := by simp; omega
  rw [this, show l.length - k = (l.length - (k + 1)) + 1 by omega, List.replicate_succ]
  simp

theorem at_of (s : ByteArray) (k : Nat) (h : k < s.size) : s.data.toList[k]'(by rw [ba_len]; exact h) = s[k] := by
  simp
  rfl

set_option maxHeartbeats 4000000 in
set_option maxRecDepth 100000 in
theorem mapped_lower (s : ByteArray) (w : World) (hs : s.size ≤ 140737488355328) :
    Calls Tryd.prog 104 #[.string s, .func (.func 105) #[] #[]] w fun e w' => e = .returned (.string ⟨(s.data.toList.map lowC).toArray⟩) ∧ Below w.heap.size w w' := by
  have hi5 : (Tryd.prog.info? 5).map (fun i => (i.zero, i.size, i.bytes)) = some (some (.int .u8 0), 1, 1) := by kernel_rfl
  go_enter Tryd.func104, Tryd.ntmps104
  go_wp2_with ((with_reducible refine gate_dst (N := 9) rfl ?_); refine Kd.R_make (Kd.int .u8) (w0 := w) w.heap.size 5 rfl (N := 9) rfl 98 _ _ rfl (s.size : Int) rfl rfl Tryd.underlying98 (.int .u8 0) 1 hi5 rfl (by decide) (by omega) 0 (ok := fun _ => True) (okp := fun _ => True) rfl (fun _ hk => hk) trivial (by omega) (by simp; omega) (Below.refl _ _) (Nat.le_refl _) ?_; intro v1 w1 HO hb1 hg1 hat1; obtain ⟨b, hvb, hbw⟩ := hat1; have hown := Kd.own_of_R HO; obtain ⟨hrow, cap, rfl⟩ := BRow.of_own (l := List.replicate s.size 0) (n := s.size) (b := b) (by simpa [encs] using hown) (by simp) hvb; have HROW := Aside0.mk hrow; clear HO hown hrow hvb)
  go_loopw [12] (fun i wr => ∃ k : Nat, k ≤ s.size ∧ i = .int .i64 k ∧ Aside0 (BRow w.heap.size b (mapTo lowC s.data.toList k) wr) ∧ Aside0 (Below w.heap.size w wr)) (fun i _ => s.size - (intOf i).toNat)
  case atStart => exact ⟨0, Nat.zero_le _, rfl, ⟨by rw [mapTo_zero, ba_len]; exact HROW.out⟩, ⟨hb1⟩⟩
  case round =>
    clear HROW hb1 hg1
    obtain ⟨k, hk, rfl, HR, HB⟩ := hrel
    by_cases hlt : k < s.size
    · have hlt' : k < s.data.toList.length := by rw [ba_len]; exact hlt
      obtain ⟨hc, hfz⟩ := HR.out.cell k (by rw [mapTo_len _ _ _ (by omega)]; exact hlt')
      generalize (mapTo lowC s.data.toList k)[k]'_ = old at hc
      go_wp2_with fail
      refine (lower_w s[k] _).mono ?_
      rintro e w2 ⟨rfl, rfl⟩
      go_wp2_with fail
      go_roundw
      case rel =>
        refine ⟨k + 1, by omega, by go_num, ⟨?_⟩, ⟨HB.out.setCell (p := ⟨b, k, none⟩) hbw _⟩⟩
        rw [← mapTo_succ lowC _ k hlt', at_of s k hlt]
        exact HR.out.put k (lowC s[k])
      case measure => simp [intOf]; omega
    · obtain rfl : k = s.size := by omega
      have hrow := HR.out
      rw [← ba_len, mapTo_all] at hrow
      have hcv := hrow.string cap
      rw [List.length_map, ba_len] at hcv
      go_wp2
      go_ret
      exact ⟨rfl, HB.out⟩

set_option maxHeartbeats 4000000 in
set_option maxRecDepth 100000 in
theorem mapped_upper (s : ByteArray) (w : World) (hs : s.size ≤ 140737488355328) :
    Calls Tryd.prog 104 #[.string s, .func (.func 106) #[] #[]] w fun e w' => e = .returned (.string ⟨(s.data.toList.map upC).toArray⟩) ∧ Below w.heap.size w w' := by
  have hi5 : (Tryd.prog.info? 5).map (fun i => (i.zero, i.size, i.bytes)) = some (some (.int .u8 0), 1, 1) := by kernel_rfl
  go_enter Tryd.func104, Tryd.ntmps104
  go_wp2_with ((with_reducible refine gate_dst (N := 9) rfl ?_); refine Kd.R_make (Kd.int .u8) (w0 := w) w.heap.size 5 rfl (N := 9) rfl 98 _ _ rfl (s.size : Int) rfl rfl Tryd.underlying98 (.int .u8 0) 1 hi5 rfl (by decide) (by omega) 0 (ok := fun _ => True) (okp := fun _ => True) rfl (fun _ hk => hk) trivial (by omega) (by simp; omega) (Below.refl _ _) (Nat.le_refl _) ?_; intro v1 w1 HO hb1 hg1 hat1; obtain ⟨b, hvb, hbw⟩ := hat1; have hown := Kd.own_of_R HO; obtain ⟨hrow, cap, rfl⟩ := BRow.of_own (l := List.replicate s.size 0) (n := s.size) (b := b) (by simpa [encs] using hown) (by simp) hvb; have HROW := Aside0.mk hrow; clear HO hown hrow hvb)
  go_loopw [12] (fun i wr => ∃ k : Nat, k ≤ s.size ∧ i = .int .i64 k ∧ Aside0 (BRow w.heap.size b (mapTo upC s.data.toList k) wr) ∧ Aside0 (Below w.heap.size w wr)) (fun i _ => s.size - (intOf i).toNat)
  case atStart => exact ⟨0, Nat.zero_le _, rfl, ⟨by rw [mapTo_zero, ba_len]; exact HROW.out⟩, ⟨hb1⟩⟩
  case round =>
    clear HROW hb1 hg1
    obtain ⟨k, hk, rfl, HR, HB⟩ := hrel
    by_cases hlt : k < s.size
    · have hlt' : k < s.data.toList.length := by rw [ba_len]; exact hlt
      obtain ⟨hc, hfz⟩ := HR.out.cell k (by rw [mapTo_len _ _ _ (by omega)]; exact hlt')
      generalize (mapTo upC s.data.toList k)[k]'_ = old at hc
      go_wp2_with fail
      refine (upper_w s[k] _).mono ?_
      rintro e w2 ⟨rfl, rfl⟩
      go_wp2_with fail
      go_roundw
      case rel =>
        refine ⟨k + 1, by omega, by go_num, ⟨?_⟩, ⟨HB.out.setCell (p := ⟨b, k, none⟩) hbw _⟩⟩
        rw [← mapTo_succ upC _ k hlt', at_of s k hlt]
        exact HR.out.put k (upC s[k])
      case measure => simp [intOf]; omega
    · obtain rfl : k = s.size := by omega
      have hrow := HR.out
      rw [← ba_len, mapTo_all] at hrow
      have hcv := hrow.string cap
      rw [List.length_map, ba_len] at hcv
      go_wp2
      go_ret
      exact ⟨rfl, HB.out⟩

def text_Lower.f (a0 : ByteArray) : Option ByteArray := if a0.size ≤ 140737488355328 then some (lowB a0) else none
def text_Upper.f (a0 : ByteArray) : Option ByteArray := if a0.size ≤ 140737488355328 then some (upB a0) else none
theorem text_Lower.calls (a0 : ByteArray) (r : ByteArray) (w : World) (_hG : GOk 0 w) (h : text_Lower.f a0 = some r) :
    Calls Tryd.prog 43 #[.string a0] w fun e w' => e = .returned (.string r) ∧ Below w.heap.size w w' := by
  unfold text_Lower.f at h
  split at h
  case isFalse => cases h
  rename_i hs
  obtain rfl := Option.some.inj h
  go_enter Tryd.func43, Tryd.ntmps43
  go_wp2_with fail
  refine (mapped_lower a0 w hs).mono ?_
  rintro e w1 ⟨rfl, hb⟩
  go_wp2_with fail
  go_ret
  exact ⟨rfl, hb⟩
theorem text_Upper.calls (a0 : ByteArray) (r : ByteArray) (w : World) (_hG : GOk 0 w) (h : text_Upper.f a0 = some r) :
    Calls Tryd.prog 44 #[.string a0] w fun e w' => e = .returned (.string r) ∧ Below w.heap.size w w' := by
  unfold text_Upper.f at h
  split at h
  case isFalse => cases h
  rename_i hs
  obtain rfl := Option.some.inj h
  go_enter Tryd.func44, Tryd.ntmps44
  go_wp2_with fail
  refine (mapped_upper a0 w hs).mono ?_
  rintro e w1 ⟨rfl, hb⟩
  go_wp2_with fail
  go_ret
  exact ⟨rfl, hb⟩

def missiveref01_Lower.f (a0 : ByteArray) : Option ByteArray := if a0.size ≤ 140737488355328 then some (lowB a0) else none
def missiveref01_Upper.f (a0 : ByteArray) : Option ByteArray := if a0.size ≤ 140737488355328 then some (upB a0) else none

set_option maxHeartbeats 4000000 in
set_option maxRecDepth 100000 in
theorem missiveref01_Lower.calls (a0 : ByteArray) (r : ByteArray) (w : World) (_hG : GOk 0 w) (h : missiveref01_Lower.f a0 = some r) :
    Calls Tryd.prog 46 #[.string a0] w fun e w' => e = .returned (.string r) ∧ Below w.heap.size w w' := by
  unfold missiveref01_Lower.f at h
  split at h
  case isFalse => cases h
  rename_i hs
  obtain rfl := Option.some.inj h
  clear h
  have hcv0 := run_bytes_of_string (P := Tryd.prog) w _ _ _ a0 Tryd.underlying9 Tryd.underlying98 Tryd.underlying5
  have hrow0 := BRow.of_string w a0 (grownCap w a0.size 0 5)
  have hb0 : Below w.heap.size w (w.drew.alloc (.cells (bytesRow a0 (grownCap w a0.size 0 5)) 5 ((bytesRow a0 (grownCap w a0.size 0 5)).size, (bytesRow a0 (grownCap w a0.size 0 5)).size + 1))) := ((Below.refl _ w).drew).alloc (Nat.le_refl _) _
  generalize (w.drew.alloc (.cells (bytesRow a0 (grownCap w a0.size 0 5)) 5 ((bytesRow a0 (grownCap w a0.size 0 5)).size, (bytesRow a0 (grownCap w a0.size 0 5)).size + 1))) = w1 at hcv0 hrow0 hb0
  have HROW := Aside0.mk hrow0
  have HB0 := Aside0.mk hb0
  clear hrow0 hb0
  generalize grownCap w a0.size 0 5 = cap at hcv0
  go_enter Tryd.func46, Tryd.ntmps46
  go_wp2_with fail
  go_loopw [4] (fun i wr => ∃ k : Nat, k ≤ a0.size ∧ i = .int .i64 k ∧ Aside0 (BRow w.heap.size w.heap.size (upTo lowC a0.data.toList k) wr) ∧ Aside0 (Below w.heap.size w wr)) (fun i _ => a0.size - (intOf i).toNat)
  case atStart => exact ⟨0, Nat.zero_le _, rfl, ⟨by rw [upTo_zero]; exact HROW.out⟩, HB0⟩
  case round =>
    clear HROW HB0 hcv0
    obtain ⟨k, hk, rfl, HR, HB⟩ := hrel
    by_cases hlt : k < a0.size
    · have hlt' : k < a0.data.toList.length := by rw [ba_len]; exact hlt
      obtain ⟨hc, hfz⟩ := upTo_row HR.out hlt'
      generalize hx : a0.data.toList[k] = x at hc
      go_wp2_with fail
      refine (lower_r x _).mono ?_
      rintro e w2 ⟨rfl, rfl⟩
      go_wp2_with fail
      go_roundw
      case rel =>
        refine ⟨k + 1, by omega, by go_num, ⟨?_⟩, ⟨HB.out.setCell (p := ⟨w.heap.size, k, none⟩) (Nat.le_refl _) _⟩⟩
        rw [← upTo_succ lowC _ k hlt', hx]
        exact HR.out.put k (lowC x)
      case measure => simp [intOf]; omega
    · obtain rfl : k = a0.size := by omega
      have hrow := HR.out
      rw [← ba_len, upTo_all] at hrow
      have hcv := hrow.string cap
      rw [List.length_map, ba_len] at hcv
      go_wp2
      go_ret
      exact ⟨rfl, HB.out⟩

set_option maxHeartbeats 4000000 in
set_option maxRecDepth 100000 in
theorem missiveref01_Upper.calls (a0 : ByteArray) (r : ByteArray) (w : World) (_hG : GOk 0 w) (h : missiveref01_Upper.f a0 = some r) :
    Calls Tryd.prog 47 #[.string a0] w fun e w' => e = .returned (.string r) ∧ Below w.heap.size w w' := by
  unfold missiveref01_Upper.f at h
  split at h
  case isFalse => cases h
  rename_i hs
  obtain rfl := Option.some.inj h
  clear h
  have hcv0 := run_bytes_of_string (P := Tryd.prog) w _ _ _ a0 Tryd.underlying9 Tryd.underlying98 Tryd.underlying5
  have hrow0 := BRow.of_string w a0 (grownCap w a0.size 0 5)
  have hb0 : Below w.heap.size w (w.drew.alloc (.cells (bytesRow a0 (grownCap w a0.size 0 5)) 5 ((bytesRow a0 (grownCap w a0.size 0 5)).size, (bytesRow a0 (grownCap w a0.size 0 5)).size + 1))) := ((Below.refl _ w).drew).alloc (Nat.le_refl _) _
  generalize (w.drew.alloc (.cells (bytesRow a0 (grownCap w a0.size 0 5)) 5 ((bytesRow a0 (grownCap w a0.size 0 5)).size, (bytesRow a0 (grownCap w a0.size 0 5)).size + 1))) = w1 at hcv0 hrow0 hb0
  have HROW := Aside0.mk hrow0
  have HB0 := Aside0.mk hb0
  clear hrow0 hb0
  generalize grownCap w a0.size 0 5 = cap at hcv0
  go_enter Tryd.func47, Tryd.ntmps47
  go_wp2_with fail
  go_loopw [4] (fun i wr => ∃ k : Nat, k ≤ a0.size ∧ i = .int .i64 k ∧ Aside0 (BRow w.heap.size w.heap.size (upTo upC a0.data.toList k) wr) ∧ Aside0 (Below w.heap.size w wr)) (fun i _ => a0.size - (intOf i).toNat)
  case atStart => exact ⟨0, Nat.zero_le _, rfl, ⟨by rw [upTo_zero]; exact HROW.out⟩, HB0⟩
  case round =>
    clear HROW HB0 hcv0
    obtain ⟨k, hk, rfl, HR, HB⟩ := hrel
    by_cases hlt : k < a0.size
    · have hlt' : k < a0.data.toList.length := by rw [ba_len]; exact hlt
      obtain ⟨hc, hfz⟩ := upTo_row HR.out hlt'
      have hsame := upTo_same upC a0.data.toList k hlt'
      have hsucc := upTo_succ upC a0.data.toList k hlt'
      have HS := Aside0.mk (And.intro hsame hsucc)
      clear hsame hsucc
      generalize hx : a0.data.toList[k] = x at hc HS
      have hx8 := x.toNat_lt
      by_cases h1 : 97 ≤ x.toNat
      · by_cases h2 : x.toNat ≤ 122
        · have hu : ((upC x).toNat : Int) = (x.toNat : Int) - 32 := by
            unfold upC
            rw [if_pos ⟨h1, h2⟩, UInt8.toNat_sub]
            simp
            omega
          have HU := Aside0.mk hu
          clear hu
          have h1' : 97 ≤ (x.toNat : Int) := by omega
          have h2' : (x.toNat : Int) ≤ 122 := by omega
          go_wp2_with fail
          go_roundw
          case rel =>
            refine ⟨k + 1, by omega, by go_num, ⟨?_⟩, ⟨HB.out.setCell (p := ⟨w.heap.size, k, none⟩) (Nat.le_refl _) _⟩⟩
            rw [← HS.out.2, ← HU.out]
            exact HR.out.put k (upC x)
          case measure => simp [intOf]; omega
        · have h2' : 122 < (x.toNat : Int) := by omega
          have h1' : 97 ≤ (x.toNat : Int) := by omega
          go_wp2_with fail
          go_roundw
          case rel => exact ⟨k + 1, by omega, by go_num, ⟨by rw [HS.out.1 (by unfold upC; rw [if_neg (by omega)])]; exact HR.out⟩, HB⟩
          case measure => simp [intOf]; omega
      · have h1' : (x.toNat : Int) < 97 := by omega
        go_wp2_with fail
        go_roundw
        case rel => exact ⟨k + 1, by omega, by go_num, ⟨by rw [HS.out.1 (by unfold upC; rw [if_neg (by omega)])]; exact HR.out⟩, HB⟩
        case measure => simp [intOf]; omega
    · obtain rfl : k = a0.size := by omega
      have hrow := HR.out
      rw [← ba_len, upTo_all] at hrow
      have hcv := hrow.string cap
      rw [List.length_map, ba_len] at hcv
      go_wp2
      go_ret
      exact ⟨rfl, HB.out⟩

/-! ### Unlines -/
def unl (l : List ByteArray) : List UInt8 := l.flatMap fun s => s.data.toList ++ [10]
theorem unl_snoc (l : List ByteArray) (k : Nat) (hk : k < l.length) : unl (l.take (k + 1)) = unl (l.take k) ++ ((rdOf ByteArray.empty l k).data.toList ++ [10]) := by
  rw [List.take_succ_eq_append_getElem hk, unl, unl, List.flatMap_append]
  simp [rdOf, List.getD, hk]
theorem unl_take (l : List ByteArray) (k : Nat) : (unl (l.take k)).length ≤ (unl l).length := by
  have : unl l = unl (l.take k) ++ unl (l.drop k) := by
    rw [unl, unl, unl, ← List.flatMap_append, List.take_append_drop]
  rw [this]; simp

def text_Unlines.f (l0 : List ByteArray) : Option ByteArray := if (unl l0).length ≤ 100000000000000 then some ⟨(unl l0).toArray⟩ else none

set_option maxHeartbeats 4000000 in
set_option maxRecDepth 100000 in
theorem text_Unlines.calls (A0 : Option Addr) (c0 : Nat) (l0 : List ByteArray) (r : ByteArray) (w : World) (hr0 : Kd.C Kd.string w A0 l0.length l0) (_hc0 : l0.length ≤ c0) (_hG : GOk 0 w) (h : text_Unlines.f l0 = some r) :
    Calls Tryd.prog 54 #[.slice A0 l0.length c0] w fun e w' => e = .returned (.string r) ∧ Below w.heap.size w w' := by
  unfold text_Unlines.f at h
  split at h
  case isFalse => cases h
  rename_i hl
  obtain rfl := Option.some.inj h
  clear h
  have HL := Aside0.mk hl
  clear hl
  have hb0 : Below w.heap.size w (w.alloc (.cells #[.pointer none, .slice none 0 0] 101)) := (Below.refl _ _).alloc (Nat.le_refl _) _
  have HB0 := Bld.fresh w.heap.size w (Nat.le_refl _)
  have hll : l0.length ≤ (unl l0).length := by
    clear HL hr0 _hc0
    induction l0 with
    | nil => simp
    | cons x l ih => simp [unl] at ih ⊢; omega
  have hll2 := Nat.le_trans hll HL.out
  clear hll
  go_enter Tryd.func54, Tryd.ntmps54
  go_wp2_with fail
  go_loopw [8] (fun i wr => ∃ k : Nat, k ≤ l0.length ∧ i = .int .i64 k ∧ Aside0 (Bld w.heap.size w.heap.size (unl (l0.take k)) wr) ∧ Aside0 (Below w.heap.size w wr)) (fun i _ => l0.length - (intOf i).toNat)
  case atStart => exact ⟨0, Nat.zero_le _, rfl, ⟨by simpa [unl] using HB0⟩, ⟨hb0⟩⟩
  case round =>
    clear HB0 hb0
    obtain ⟨k, hk, rfl, HB, hb⟩ := hrel
    have hs := hb.out.size
    have ht := unl_take l0 k
    have ht1 := unl_take l0 (k + 1)
    have hl := HL.out
    by_cases hlt : k < l0.length
    · obtain ⟨ad, rfl, hcell⟩ := (Kd.reads_of_C (d := ByteArray.empty) (Kd.C_below hr0 hb.out)).at_ (k : Int) (by omega) (by omega)
      rw [Int.toNat_natCast] at hcell
      have Hsn := Aside0.mk (unl_snoc l0 k hlt)
      rw [Hsn.out] at ht1
      generalize rdOf ByteArray.empty l0 (k : Int) = x at *
      have hxs : (unl (l0.take k)).length + (x.size + 1) ≤ 100000000000000 := by
        rw [List.length_append, List.length_append, ba_len] at ht1
        simp at ht1
        omega
      have HXS := Aside0.mk hxs
      clear hxs ht ht1 hl
      go_wp2_with fail
      refine (bld_WriteString _ _ _ x _ HB.out (by have := HXS.out; omega) hs).mono ?_
      rintro e w4 ⟨rfl, HB4, hb4, -⟩
      have hb4' := hb.out.trans hb4
      have hs4 := hb4'.size
      go_wp2_with fail
      refine (bld_WriteByte _ _ _ 10 _ HB4 (by have := HXS.out; rw [List.length_append, ba_len]; omega) hs4).mono ?_
      rintro e w5 ⟨rfl, HB5, hb5, -⟩
      have hb5' := hb4'.trans hb5
      clear HB4 hb4 hb4' HB hb hcell hb5 hs4 hs
      go_wp2_with fail
      go_roundw
      case rel => exact ⟨k + 1, by omega, by go_num, ⟨by rw [Hsn.out, ← List.append_assoc]; exact HB5⟩, ⟨hb5'⟩⟩
      case measure => simp [intOf]; omega
    · obtain rfl : k = l0.length := by omega
      rw [List.take_length] at HB
      have HB := HB.out
      have hb := hb.out
      go_wp2_with fail
      refine (bld_String _ _ _ _ HB hs).mono ?_
      rintro e w7 ⟨rfl, hb7⟩
      go_wp2_with fail
      go_ret
      exact ⟨rfl, hb.trans hb7⟩

end Go.Proofs.YtadnefnofbnheaaDoor.Pr

-- Out of the translation, by this claim's own program over the kit's print.
namespace Go.Proofs.YtadnefnofbnheaaDoor.Pr
open Go.RowKit Go.Proofs.YtadnefnofbnheaaDoorW.PrintWords Go.Proofs.YtadnefnofbnheaaDoorW.PrintLast Go.Proofs.YtadnefnofbnheaaDoorW.PrintMore
attribute [local go_sem] max2_int min2_int max_two min_two max_three min_three max_four min_four   -- for this text's walks alone
set_option linter.unusedVariables false
set_option linter.unusedSimpArgs false

/-! ### missiveref01_Same: function 49 -/
def missiveref01_Same.f (a0 : ByteArray) (a1 : ByteArray) : Option (Bool) := (missiveref01_Lower.f a0).bind fun t261 => ((missiveref01_Lower.f a1).bind fun t262 => (some (t261.toList == t262.toList)))
set_option maxHeartbeats 8000000 in
set_option maxRecDepth 100000 in
theorem missiveref01_Same.calls (a0 : ByteArray) (a1 : ByteArray) (r : Bool) (w : World) (hG : GOk 0 w) (h : missiveref01_Same.f a0 a1 = some r) :
    Calls Tryd.prog 49 #[.string a0, .string a1] w fun e w' => e = .returned (.bool r) ∧ Below w.heap.size w w' := by
  have HB := Aside0.mk (Below.refl w.heap.size w)
  have H : ((missiveref01_Lower.f a0).bind fun t261 => ((missiveref01_Lower.f a1).bind fun t262 => (some (t261.toList == t262.toList)))) = some r := h
  clear h
  replace H := Option.bind_eq_some_iff.mp H
  obtain ⟨t261, A30, H⟩ := H
  replace H : ((missiveref01_Lower.f a1).bind fun t262 => (some (t261.toList == t262.toList))) = some r := H
  have A3 := Aside0.mk A30
  clear A30
  replace H := Option.bind_eq_some_iff.mp H
  obtain ⟨t262, A40, H⟩ := H
  replace H : (some (t261.toList == t262.toList)) = some r := H
  have A4 := Aside0.mk A40
  clear A40
  obtain rfl := Option.some.inj H
  go_enter Tryd.func49, Tryd.ntmps49
  go_wp2_with (first | ((with_reducible refine gate_callee (f := 46) rfl ?_); refine goesL_ (some 6) rfl rfl Tryd.func46 (by kernel_rfl) rfl #[.string a0] rfl (by (try simp only [List.map_toArray, List.map_cons, List.map_nil]); first | done | rfl | (simp only [List.length_drop, List.length_take]; rfl)) ?_; (with_reducible refine (missiveref01_Lower.calls a0 t261 _ ?side1 A3.out).mono ?_); (case side1 => exact GOk.below hG (by decide) (by repeat (first | (with_reducible first | exact HB.out | apply below_alloc | apply pw_below_drewN | apply below_drew1) | exact HB.out))); rintro e w5 ⟨rfl, hb⟩; refine ⟨_, rfl, ?_⟩; have n0_ := Aside0.mk (below_step (by repeat (first | (with_reducible first | exact HB.out | apply below_alloc | apply pw_below_drewN | apply below_drew1) | exact HB.out)) hb); clear HB; have HB := n0_; clear n0_; (try clear hb); (try clear hb2); (try clear hk); (try clear hi)) | ((with_reducible refine gate_callee (f := 46) rfl ?_); refine goesL_ (some 8) rfl rfl Tryd.func46 (by kernel_rfl) rfl #[.string a1] rfl (by (try simp only [List.map_toArray, List.map_cons, List.map_nil]); first | done | rfl | (simp only [List.length_drop, List.length_take]; rfl)) ?_; (with_reducible refine (missiveref01_Lower.calls a1 t262 _ ?side1 A4.out).mono ?_); (case side1 => exact GOk.below hG (by decide) (by repeat (first | (with_reducible first | exact HB.out | apply below_alloc | apply pw_below_drewN | apply below_drew1) | exact HB.out))); rintro e w6 ⟨rfl, hb⟩; refine ⟨_, rfl, ?_⟩; have n0_ := Aside0.mk (below_step (by repeat (first | (with_reducible first | exact HB.out | apply below_alloc | apply pw_below_drewN | apply below_drew1) | exact HB.out)) hb); clear HB; have HB := n0_; clear n0_; (try clear hb); (try clear hb2); (try clear hk); (try clear hi)))
  go_ret
  exact ⟨by first | rfl | (simp [errW_none, errW_some] <;> rfl) | (simp [*, errW_none, errW_some] <;> rfl), by repeat (first | (with_reducible first | exact HB.out | apply below_alloc | apply pw_below_drewN | apply below_drew1) | exact HB.out)⟩

end Go.Proofs.YtadnefnofbnheaaDoor.Pr
