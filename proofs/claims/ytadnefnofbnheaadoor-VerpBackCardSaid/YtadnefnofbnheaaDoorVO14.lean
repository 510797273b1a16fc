/- Part 14 of the proof: HDigPad, HDigMac. -/
import Derived.Test.YtadnefnofbnheaaDoorVO11
import Derived.Lib.BufferWrite
import Derived.Laws.CopyOwn
import Derived.Test.YtadnefnofbnheaaDoorVO1
/- The padded key of the digest: digest.padded. -/
namespace Go.Proofs.YtadnefnofbnheaaDoor.Pr
open Go.RowKit Go.Proofs.YtadnefnofbnheaaDoorW.PrintWords Go.Proofs.YtadnefnofbnheaaDoorW.PrintLast Go.Proofs.YtadnefnofbnheaaDoorW.PrintMore

/-- Block b is an array (of type t) of the bytes l. -/
def BArr (t b : Nat) (l : List UInt8) (w : World) : Prop := w.heap[b]? = some (.cells (Lib.byteCells l).toArray t (0, 0))
theorem BArr.cell {t b : Nat} {l : List UInt8} {w : World} (h : BArr t b l w) (j : Nat) (hj : j < l.length) : w.cell? ⟨b, j, none⟩ = some (.int .u8 (l[j].toNat : Int)) ∧ w.frozen? ⟨b, j, none⟩ = false := by
  refine ⟨?_, Lib.frozen_of_heap h j⟩
  rw [Lib.cell_of_heap h]
  simp [hj, Lib.byteCells]
theorem BArr.put {t b : Nat} {l : List UInt8} {w : World} (h : BArr t b l w) (i : Nat) (x : UInt8) : BArr t b (l.set i x) (w.setCell ⟨b, i, none⟩ (.int .u8 (x.toNat : Int))) := by
  have h' : w.heap[b]? = some (.cells (Lib.byteCells l).toArray t (0, 0)) := h
  show (w.setCell ⟨b, i, none⟩ (.int .u8 (x.toNat : Int))).heap[b]? = some (.cells (Lib.byteCells (l.set i x)).toArray t (0, 0))
  simp [World.setCell, Array.getElem?_modify, h', List.map_set, Lib.byteCells]
theorem BArr.string {t b : Nat} {l : List UInt8} {w : World} (h : BArr t b l w) (cap : Nat) :
    (convert 98 9 (.slice (some ⟨b, 0, none⟩) l.length cap)).run Tryd.prog w = .ok (.string ⟨l.toArray⟩) w :=
  run_convert_bytes_back w _ _ _ ⟨b, 0, none⟩ cap l Tryd.underlying98 Tryd.underlying5 Tryd.underlying9 (fun j hj => by
    rw [show ((⟨b, 0, none⟩ : Addr).add j) = ⟨b, j, none⟩ by simp [Addr.add]; omega]
    exact (h.cell j hj).1)

def padB (s : ByteArray) (x : UInt8) : List UInt8 := (s.data.toList ++ List.replicate (64 - s.size) 0).map (· ^^^ x)

set_option maxHeartbeats 8000000 in
set_option maxRecDepth 100000 in
theorem padded_w (s : ByteArray) (x : UInt8) (w : World) (hs : s.size ≤ 64) :
    Calls Tryd.prog 154 #[.string s, .int .u8 (x.toNat : Int)] w fun e w' => e = .returned (.string ⟨(padB s x).toArray⟩) ∧ Below w.heap.size w w' := by
  have h0 : (w.alloc (.cells #[.int .u8 0, .int .u8 0, .int .u8 0, .int .u8 0, .int .u8 0, .int .u8 0, .int .u8 0, .int .u8 0, .int .u8 0, .int .u8 0, .int .u8 0, .int .u8 0, .int .u8 0, .int .u8 0, .int .u8 0, .int .u8 0, .int .u8 0, .int .u8 0, .int .u8 0, .int .u8 0, .int .u8 0, .int .u8 0, .int .u8 0, .int .u8 0, .int .u8 0, .int .u8 0, .int .u8 0, .int .u8 0, .int .u8 0, .int .u8 0, .int .u8 0, .int .u8 0, .int .u8 0, .int .u8 0, .int .u8 0, .int .u8 0, .int .u8 0, .int .u8 0, .int .u8 0, .int .u8 0, .int .u8 0, .int .u8 0, .int .u8 0, .int .u8 0, .int .u8 0, .int .u8 0, .int .u8 0, .int .u8 0, .int .u8 0, .int .u8 0, .int .u8 0, .int .u8 0, .int .u8 0, .int .u8 0, .int .u8 0, .int .u8 0, .int .u8 0, .int .u8 0, .int .u8 0, .int .u8 0, .int .u8 0, .int .u8 0, .int .u8 0, .int .u8 0] 159)).heap[w.heap.size]? = some (.cells #[.int .u8 0, .int .u8 0, .int .u8 0, .int .u8 0, .int .u8 0, .int .u8 0, .int .u8 0, .int .u8 0, .int .u8 0, .int .u8 0, .int .u8 0, .int .u8 0, .int .u8 0, .int .u8 0, .int .u8 0, .int .u8 0, .int .u8 0, .int .u8 0, .int .u8 0, .int .u8 0, .int .u8 0, .int .u8 0, .int .u8 0, .int .u8 0, .int .u8 0, .int .u8 0, .int .u8 0, .int .u8 0, .int .u8 0, .int .u8 0, .int .u8 0, .int .u8 0, .int .u8 0, .int .u8 0, .int .u8 0, .int .u8 0, .int .u8 0, .int .u8 0, .int .u8 0, .int .u8 0, .int .u8 0, .int .u8 0, .int .u8 0, .int .u8 0, .int .u8 0, .int .u8 0, .int .u8 0, .int .u8 0, .int .u8 0, .int .u8 0, .int .u8 0, .int .u8 0, .int .u8 0, .int .u8 0, .int .u8 0, .int .u8 0, .int .u8 0, .int .u8 0, .int .u8 0, .int .u8 0, .int .u8 0, .int .u8 0, .int .u8 0, .int .u8 0] 159 (0, 0)) := by
    show (w.heap.push _)[w.heap.size]? = _
    rw [Array.getElem?_push_size]
  have hcp := Lib.run_copy_row_string (P := Tryd.prog) (w.alloc (.cells #[.int .u8 0, .int .u8 0, .int .u8 0, .int .u8 0, .int .u8 0, .int .u8 0, .int .u8 0, .int .u8 0, .int .u8 0, .int .u8 0, .int .u8 0, .int .u8 0, .int .u8 0, .int .u8 0, .int .u8 0, .int .u8 0, .int .u8 0, .int .u8 0, .int .u8 0, .int .u8 0, .int .u8 0, .int .u8 0, .int .u8 0, .int .u8 0, .int .u8 0, .int .u8 0, .int .u8 0, .int .u8 0, .int .u8 0, .int .u8 0, .int .u8 0, .int .u8 0, .int .u8 0, .int .u8 0, .int .u8 0, .int .u8 0, .int .u8 0, .int .u8 0, .int .u8 0, .int .u8 0, .int .u8 0, .int .u8 0, .int .u8 0, .int .u8 0, .int .u8 0, .int .u8 0, .int .u8 0, .int .u8 0, .int .u8 0, .int .u8 0, .int .u8 0, .int .u8 0, .int .u8 0, .int .u8 0, .int .u8 0, .int .u8 0, .int .u8 0, .int .u8 0, .int .u8 0, .int .u8 0, .int .u8 0, .int .u8 0, .int .u8 0, .int .u8 0] 159)) 98 9 3 5 w.heap.size 0 64 64 s _ 159 Tryd.underlying98 (by kernel_rfl) h0 (by omega) (by simp; omega)
  have hb0 : Below w.heap.size w (w.alloc (.cells #[.int .u8 0, .int .u8 0, .int .u8 0, .int .u8 0, .int .u8 0, .int .u8 0, .int .u8 0, .int .u8 0, .int .u8 0, .int .u8 0, .int .u8 0, .int .u8 0, .int .u8 0, .int .u8 0, .int .u8 0, .int .u8 0, .int .u8 0, .int .u8 0, .int .u8 0, .int .u8 0, .int .u8 0, .int .u8 0, .int .u8 0, .int .u8 0, .int .u8 0, .int .u8 0, .int .u8 0, .int .u8 0, .int .u8 0, .int .u8 0, .int .u8 0, .int .u8 0, .int .u8 0, .int .u8 0, .int .u8 0, .int .u8 0, .int .u8 0, .int .u8 0, .int .u8 0, .int .u8 0, .int .u8 0, .int .u8 0, .int .u8 0, .int .u8 0, .int .u8 0, .int .u8 0, .int .u8 0, .int .u8 0, .int .u8 0, .int .u8 0, .int .u8 0, .int .u8 0, .int .u8 0, .int .u8 0, .int .u8 0, .int .u8 0, .int .u8 0, .int .u8 0, .int .u8 0, .int .u8 0, .int .u8 0, .int .u8 0, .int .u8 0, .int .u8 0] 159)) := (Below.refl _ w).alloc (Nat.le_refl _) _
  obtain ⟨w2, hw2⟩ : ∃ w2, w2 = (w.alloc (.cells #[.int .u8 0, .int .u8 0, .int .u8 0, .int .u8 0, .int .u8 0, .int .u8 0, .int .u8 0, .int .u8 0, .int .u8 0, .int .u8 0, .int .u8 0, .int .u8 0, .int .u8 0, .int .u8 0, .int .u8 0, .int .u8 0, .int .u8 0, .int .u8 0, .int .u8 0, .int .u8 0, .int .u8 0, .int .u8 0, .int .u8 0, .int .u8 0, .int .u8 0, .int .u8 0, .int .u8 0, .int .u8 0, .int .u8 0, .int .u8 0, .int .u8 0, .int .u8 0, .int .u8 0, .int .u8 0, .int .u8 0, .int .u8 0, .int .u8 0, .int .u8 0, .int .u8 0, .int .u8 0, .int .u8 0, .int .u8 0, .int .u8 0, .int .u8 0, .int .u8 0, .int .u8 0, .int .u8 0, .int .u8 0, .int .u8 0, .int .u8 0, .int .u8 0, .int .u8 0, .int .u8 0, .int .u8 0, .int .u8 0, .int .u8 0, .int .u8 0, .int .u8 0, .int .u8 0, .int .u8 0, .int .u8 0, .int .u8 0, .int .u8 0, .int .u8 0] 159)).setRow w.heap.size (List.take 0 (#[.int .u8 0, .int .u8 0, .int .u8 0, .int .u8 0, .int .u8 0, .int .u8 0, .int .u8 0, .int .u8 0, .int .u8 0, .int .u8 0, .int .u8 0, .int .u8 0, .int .u8 0, .int .u8 0, .int .u8 0, .int .u8 0, .int .u8 0, .int .u8 0, .int .u8 0, .int .u8 0, .int .u8 0, .int .u8 0, .int .u8 0, .int .u8 0, .int .u8 0, .int .u8 0, .int .u8 0, .int .u8 0, .int .u8 0, .int .u8 0, .int .u8 0, .int .u8 0, .int .u8 0, .int .u8 0, .int .u8 0, .int .u8 0, .int .u8 0, .int .u8 0, .int .u8 0, .int .u8 0, .int .u8 0, .int .u8 0, .int .u8 0, .int .u8 0, .int .u8 0, .int .u8 0, .int .u8 0, .int .u8 0, .int .u8 0, .int .u8 0, .int .u8 0, .int .u8 0, .int .u8 0, .int .u8 0, .int .u8 0, .int .u8 0, .int .u8 0, .int .u8 0, .int .u8 0, .int .u8 0, .int .u8 0, .int .u8 0, .int .u8 0, .int .u8 0] : Array Value).toList ++ Lib.byteCells s.data.toList ++ List.drop (0 + s.size) (#[.int .u8 0, .int .u8 0, .int .u8 0, .int .u8 0, .int .u8 0, .int .u8 0, .int .u8 0, .int .u8 0, .int .u8 0, .int .u8 0, .int .u8 0, .int .u8 0, .int .u8 0, .int .u8 0, .int .u8 0, .int .u8 0, .int .u8 0, .int .u8 0, .int .u8 0, .int .u8 0, .int .u8 0, .int .u8 0, .int .u8 0, .int .u8 0, .int .u8 0, .int .u8 0, .int .u8 0, .int .u8 0, .int .u8 0, .int .u8 0, .int .u8 0, .int .u8 0, .int .u8 0, .int .u8 0, .int .u8 0, .int .u8 0, .int .u8 0, .int .u8 0, .int .u8 0, .int .u8 0, .int .u8 0, .int .u8 0, .int .u8 0, .int .u8 0, .int .u8 0, .int .u8 0, .int .u8 0, .int .u8 0, .int .u8 0, .int .u8 0, .int .u8 0, .int .u8 0, .int .u8 0, .int .u8 0, .int .u8 0, .int .u8 0, .int .u8 0, .int .u8 0, .int .u8 0, .int .u8 0, .int .u8 0, .int .u8 0, .int .u8 0, .int .u8 0] : Array Value).toList).toArray := ⟨_, rfl⟩
  rw [← hw2] at hcp
  have HA : Aside0 (BArr 159 w.heap.size (s.data.toList ++ List.replicate (64 - s.size) 0) w2) := ⟨by
    subst hw2
    have h1 := setRow_heap _ _ _ (List.take 0 (#[.int .u8 0, .int .u8 0, .int .u8 0, .int .u8 0, .int .u8 0, .int .u8 0, .int .u8 0, .int .u8 0, .int .u8 0, .int .u8 0, .int .u8 0, .int .u8 0, .int .u8 0, .int .u8 0, .int .u8 0, .int .u8 0, .int .u8 0, .int .u8 0, .int .u8 0, .int .u8 0, .int .u8 0, .int .u8 0, .int .u8 0, .int .u8 0, .int .u8 0, .int .u8 0, .int .u8 0, .int .u8 0, .int .u8 0, .int .u8 0, .int .u8 0, .int .u8 0, .int .u8 0, .int .u8 0, .int .u8 0, .int .u8 0, .int .u8 0, .int .u8 0, .int .u8 0, .int .u8 0, .int .u8 0, .int .u8 0, .int .u8 0, .int .u8 0, .int .u8 0, .int .u8 0, .int .u8 0, .int .u8 0, .int .u8 0, .int .u8 0, .int .u8 0, .int .u8 0, .int .u8 0, .int .u8 0, .int .u8 0, .int .u8 0, .int .u8 0, .int .u8 0, .int .u8 0, .int .u8 0, .int .u8 0, .int .u8 0, .int .u8 0, .int .u8 0] : Array Value).toList ++ Lib.byteCells s.data.toList ++ List.drop (0 + s.size) (#[.int .u8 0, .int .u8 0, .int .u8 0, .int .u8 0, .int .u8 0, .int .u8 0, .int .u8 0, .int .u8 0, .int .u8 0, .int .u8 0, .int .u8 0, .int .u8 0, .int .u8 0, .int .u8 0, .int .u8 0, .int .u8 0, .int .u8 0, .int .u8 0, .int .u8 0, .int .u8 0, .int .u8 0, .int .u8 0, .int .u8 0, .int .u8 0, .int .u8 0, .int .u8 0, .int .u8 0, .int .u8 0, .int .u8 0, .int .u8 0, .int .u8 0, .int .u8 0, .int .u8 0, .int .u8 0, .int .u8 0, .int .u8 0, .int .u8 0, .int .u8 0, .int .u8 0, .int .u8 0, .int .u8 0, .int .u8 0, .int .u8 0, .int .u8 0, .int .u8 0, .int .u8 0, .int .u8 0, .int .u8 0, .int .u8 0, .int .u8 0, .int .u8 0, .int .u8 0, .int .u8 0, .int .u8 0, .int .u8 0, .int .u8 0, .int .u8 0, .int .u8 0, .int .u8 0, .int .u8 0, .int .u8 0, .int .u8 0, .int .u8 0, .int .u8 0] : Array Value).toList).toArray _ _ h0
    unfold BArr
    rw [h1]
    congr 3
    have hz : (#[.int .u8 0, .int .u8 0, .int .u8 0, .int .u8 0, .int .u8 0, .int .u8 0, .int .u8 0, .int .u8 0, .int .u8 0, .int .u8 0, .int .u8 0, .int .u8 0, .int .u8 0, .int .u8 0, .int .u8 0, .int .u8 0, .int .u8 0, .int .u8 0, .int .u8 0, .int .u8 0, .int .u8 0, .int .u8 0, .int .u8 0, .int .u8 0, .int .u8 0, .int .u8 0, .int .u8 0, .int .u8 0, .int .u8 0, .int .u8 0, .int .u8 0, .int .u8 0, .int .u8 0, .int .u8 0, .int .u8 0, .int .u8 0, .int .u8 0, .int .u8 0, .int .u8 0, .int .u8 0, .int .u8 0, .int .u8 0, .int .u8 0, .int .u8 0, .int .u8 0, .int .u8 0, .int .u8 0, .int .u8 0, .int .u8 0, .int .u8 0, .int .u8 0, .int .u8 0, .int .u8 0, .int .u8 0, .int .u8 0, .int .u8 0, .int .u8 0, .int .u8 0, .int .u8 0, .int .u8 0, .int .u8 0, .int .u8 0, .int .u8 0, .int .u8 0] : Array Value).toList = List.replicate 64 (Value.int .u8 0) := rfl
    rw [hz, List.take_zero, List.nil_append, List.drop_replicate, Nat.zero_add]
    simp [Lib.byteCells]⟩
  have HB0 : Aside0 (Below w.heap.size w w2) := ⟨by
    subst hw2
    exact below_setRow hb0 (Nat.le_refl _) _⟩
  clear hw2 h0 hb0
  have hlen : (s.data.toList ++ List.replicate (64 - s.size) 0).length = 64 := by rw [List.length_append, ba_len]; simp; omega
  have hres : padB s x = (s.data.toList ++ List.replicate (64 - s.size) 0).map (· ^^^ x) := rfl
  rw [hres]
  clear hres
  generalize (s.data.toList ++ List.replicate (64 - s.size) 0) = l at HA hlen
  go_enter Tryd.func154, Tryd.ntmps154
  go_wp2_with fail
  go_loopw [10] (fun i wr => ∃ k : Nat, k ≤ 64 ∧ i = .int .i64 k ∧ Aside0 (BArr 159 w.heap.size (upTo (· ^^^ x) l k) wr) ∧ Aside0 (Below w.heap.size w wr)) (fun i _ => 64 - (intOf i).toNat)
  case atStart => exact ⟨0, Nat.zero_le _, rfl, ⟨by rw [upTo_zero]; exact HA.out⟩, HB0⟩
  case round =>
    clear HA HB0 hcp
    obtain ⟨k, hk, rfl, HR, HB⟩ := hrel
    by_cases hlt : k < 64
    · have hlt' : k < l.length := by omega
      obtain ⟨hc, hfz⟩ := HR.out.cell k (by rw [upTo_len]; exact hlt')
      rw [upTo_get _ l k hlt'] at hc
      have hsucc := upTo_succ (· ^^^ x) l k hlt'
      have HS := Aside0.mk hsucc
      clear hsucc
      generalize hy : l[k] = y at hc HS
      have hk64 : (k : Int) < 64 := by omega
      have hx8 := x.toNat_lt
      have hy8 := y.toNat_lt
      go_wp2_with fail
      go_roundw
      case rel =>
        refine ⟨k + 1, by omega, by go_num, ⟨?_⟩, ⟨?_⟩⟩
        · rw [← HS.out, u8_xor_nat _ _ (by omega) (by omega), ← UInt8.toNat_xor]
          exact HR.out.put k (y ^^^ x)
        · exact HB.out.setCell (p := ⟨w.heap.size, k, none⟩) (Nat.le_refl _) _
      case measure => simp [intOf]; omega
    · obtain rfl : k = 64 := by omega
      have hrow := HR.out
      rw [← hlen, upTo_all] at hrow
      have hcv := hrow.string 64
      rw [List.length_map, hlen] at hcv
      go_wp2
      go_ret
      exact ⟨rfl, HB.out⟩
end Go.Proofs.YtadnefnofbnheaaDoor.Pr

/- The digest and the message authentication code: digest.Sum, digest.Mac. -/
namespace Go.Proofs.YtadnefnofbnheaaDoor.Pr
open Go.RowKit Go.Proofs.YtadnefnofbnheaaDoorW.PrintWords Go.Proofs.YtadnefnofbnheaaDoorW.PrintLast Go.Proofs.YtadnefnofbnheaaDoorW.PrintMore

/-- Block k of a text. -/
def blk (l : List UInt8) (k : Nat) : ByteArray := ⟨((l.drop (64 * k)).take 64).toArray⟩
/-- The state after k blocks. -/
def shaK (l : List UInt8) : Nat → List Int
  | 0 => sha0
  | k + 1 => procF (shaK l k) (blk l k)
theorem procF_len (l : List Int) (s : ByteArray) : (procF l s).length = l.length := by rw [procF, addW_len]
theorem shaK_len (l : List UInt8) (k : Nat) : (shaK l k).length = 8 := by
  induction k with
  | zero => rfl
  | succ k ih => rw [shaK, procF_len, ih]
theorem blk_size (l : List UInt8) (k : Nat) (h : 64 * k + 64 ≤ l.length) : (blk l k).size = 64 := by
  rw [blk, sz_mk]
  simp
  omega
theorem ext_take (l : List UInt8) (n : Nat) : (⟨l.toArray⟩ : ByteArray).extract 0 n = ⟨(l.take n).toArray⟩ := by
  apply ByteArray.ext
  rw [ByteArray.data_extract]
  simp
theorem ext_drop (l : List UInt8) (n : Nat) (m : Nat) (h : l.length ≤ m) : (⟨l.toArray⟩ : ByteArray).extract n m = ⟨(l.drop n).toArray⟩ := by
  apply ByteArray.ext
  rw [ByteArray.data_extract]
  simp
  exact List.take_of_length_le (by simp; omega)
def strLen : Value → Nat
  | .string s => s.size
  | _ => 0
def ints (l : List UInt8) : List Int := l.map fun c => (c.toNat : Int)
theorem ba_len' (s : ByteArray) : s.data.size = s.size := rfl
theorem R_open {e : Nat} {w : World} {base : Nat} {ok : Nat → Prop} {v : Value} {xs : List Int} (h : Kd.R (Kd.int .u8) e w base ok v xs) : ∃ A c, v = .slice A xs.length c := by
  have h1 := Kd.own_of_R h
  rcases h1.2 with ⟨rfl, h0⟩ | ⟨g, cap, cur, rfl, _⟩
  · exact ⟨_, _, by rw [h0]⟩
  · exact ⟨_, _, rfl⟩
def sliceLen : Value → Nat
  | .slice _ n _ => n
  | _ => 0
def padZ (n : Nat) : Nat := (119 - n % 64) % 64
def lenB (n k : Nat) : List UInt8 := (List.range k).map fun i => UInt8.ofNat ((8 * n) / 2 ^ (56 - 8 * i))
def tailB (s : ByteArray) : List UInt8 := s.data.toList.drop (64 * (s.size / 64)) ++ [128] ++ List.replicate (padZ s.size) 0 ++ lenB s.size 8
def padL (s : ByteArray) : List UInt8 := s.data.toList ++ [128] ++ List.replicate (padZ s.size) 0 ++ lenB s.size 8

theorem lenB_succ (n i : Nat) : ints (lenB n (i + 1)) = ints (lenB n i) ++ [8 * (n : Int) / 2 ^ (56 - 8 * i) % 256] := by
  rw [ints, ints, lenB, lenB, List.range_succ, List.map_append, List.map_append]
  congr 1
theorem strOfNums_ints (l : List UInt8) : strOfNums (ints l) = ⟨l.toArray⟩ := by
  rw [strOfNums, ints, List.map_map]
  have h : ((fun n : Int => UInt8.ofNat n.toNat) ∘ fun c : UInt8 => (c.toNat : Int)) = id := by funext c; simp
  rw [h, List.map_id]
def outB (V : List Int) : Nat → List Int
  | 0 => []
  | i + 1 => outB V i ++ [V.getD i 0 / 16777216 % 256, V.getD i 0 / 65536 % 256, V.getD i 0 / 256 % 256, V.getD i 0 % 256]
theorem outB_succ (V : List Int) (i : Nat) : outB V (i + 1) = outB V i ++ [V.getD i 0 / 16777216 % 256, V.getD i 0 / 65536 % 256, V.getD i 0 / 256 % 256, V.getD i 0 % 256] := rfl
theorem outB_len (V : List Int) (i : Nat) : (outB V i).length = 4 * i := by
  induction i with
  | zero => rfl
  | succ i ih => rw [outB_succ, List.length_append, ih]; rfl
/-- The digest. -/
def sumB (s : ByteArray) : ByteArray := strOfNums (outB (shaK (padL s) ((padL s).length / 64)) 8)
theorem agg_index156 (V : List Int) (n : Nat) (hn : n < 8) (hV : V.length = 8) (w : World) : (Instr.index 156 (.agg (V.map (Value.int .u32)).toArray) (.int .i64 (n : Int))).run Tryd.prog w = .ok (.int .u32 (V.getD n 0)) w := by
  have hn8 : (n : Int) < 8 := by omega
  simp [Instr.index, run_underlying Tryd.underlying156, asIntOf]
  have hn' : n < V.length := by omega
  rw [if_pos hn]
  simp [part, isAgg, run_underlying Tryd.underlying148, hn']
theorem padL_drop (s : ByteArray) : (padL s).drop (64 * (s.size / 64)) = tailB s := by
  rw [padL, tailB, List.append_assoc, List.append_assoc, List.drop_append_of_le_length (by rw [ba_len]; omega), ← List.append_assoc, ← List.append_assoc]
theorem padL_len64 (s : ByteArray) : (padL s).length % 64 = 0 ∧ 64 * (s.size / 64) ≤ (padL s).length := by
  rw [padL]
  simp [lenB]
  unfold padZ
  omega
set_option maxHeartbeats 8000000 in
set_option maxRecDepth 100000 in
theorem sum_w (s : ByteArray) (w : World) (hG : GOk 1 w) (hs : s.size ≤ 4294967296) :
    Calls Tryd.prog 153 #[.string s] w fun e w' => e = .returned (.string (sumB s)) ∧ Below w.heap.size w w' := by
  have hsum : sumB s = strOfNums (outB (shaK (padL s) ((padL s).length / 64)) 8) := rfl
  rw [hsum]
  clear hsum
  go_enter Tryd.func153, Tryd.ntmps153
  go_wp2_with fail
  refine (digest_begin.calls _).mono ?_
  rintro e w1 ⟨rfl, hb1⟩
  have HB1 := Aside0.mk hb1
  have hsz := hb1.size
  clear hb1
  have hlen8 : sha0.length = 8 := rfl
  have h0 : (w1.alloc (.cells #[.int .u32 0, .int .u32 0, .int .u32 0, .int .u32 0, .int .u32 0, .int .u32 0, .int .u32 0, .int .u32 0] 156)).heap[w1.heap.size]? = some (.cells #[.int .u32 0, .int .u32 0, .int .u32 0, .int .u32 0, .int .u32 0, .int .u32 0, .int .u32 0, .int .u32 0] 156 (0, 0)) := by
    show (w1.heap.push _)[w1.heap.size]? = _
    rw [Array.getElem?_push_size]
  have hst := run_storeCells_at Tryd.prog w1.heap.size 0 156 (sha0.map (Value.int .u32)) 0 _ _ h0 (by simp [hlen8]) (by intro v hv; obtain ⟨x, _, rfl⟩ := List.mem_map.1 hv; rfl)
  obtain ⟨w2, hw2⟩ : ∃ w2, w2 = (w1.alloc (.cells #[.int .u32 0, .int .u32 0, .int .u32 0, .int .u32 0, .int .u32 0, .int .u32 0, .int .u32 0, .int .u32 0] 156)).setRow w1.heap.size (List.take (0 + 0) (#[.int .u32 0, .int .u32 0, .int .u32 0, .int .u32 0, .int .u32 0, .int .u32 0, .int .u32 0, .int .u32 0] : Array Value).toList ++ sha0.map (Value.int .u32) ++ List.drop (0 + 0 + (sha0.map (Value.int .u32)).length) (#[.int .u32 0, .int .u32 0, .int .u32 0, .int .u32 0, .int .u32 0, .int .u32 0, .int .u32 0, .int .u32 0] : Array Value).toList).toArray := ⟨_, rfl⟩
  rw [← hw2] at hst
  have HU : Aside0 (UArr 156 w1.heap.size sha0 w2) := ⟨by
    subst hw2
    exact setRow_heap _ _ _ _ _ _ h0⟩
  have HB2 : Aside0 (Below w.heap.size w w2) := ⟨by
    subst hw2
    exact below_setRow (HB1.out.alloc hsz _) hsz _⟩
  clear hw2 h0 HB1
  go_wp2_with fail
  clear hst
  have hbw := hsz
  clear hsz
  generalize w1.heap.size = b at HU hbw ⊢
  go_loopw [4] (fun v wr => ∃ k : Nat, 64 * k ≤ s.size ∧ v = .string ⟨(s.data.toList.drop (64 * k)).toArray⟩ ∧ Aside0 (UArr 156 b (shaK (padL s) k) wr) ∧ Aside0 (Below w.heap.size w wr)) (fun v _ => strLen v)
  case atStart =>
    refine ⟨0, Nat.zero_le _, ?_, HU, HB2⟩
    rw [Nat.mul_zero, List.drop_zero, ba_eta]
  case round =>
    clear HU HB2
    obtain ⟨k, hk, rfl, HR, HB⟩ := hrel
    obtain ⟨X, hX⟩ : ∃ X : ByteArray, X = ⟨(s.data.toList.drop (64 * k)).toArray⟩ := ⟨_, rfl⟩
    have hXs : X.size = s.size - 64 * k := by rw [hX, sz_mk, List.length_drop, ba_len]
    rw [← hX]
    by_cases hlt : 64 ≤ X.size
    · have hblk : X.extract 0 64 = blk (padL s) k := by
        have h64 : (s.data.toList.drop (64 * k)).length ≥ 64 := by rw [List.length_drop, ba_len]; omega
        rw [hX, ext_take, blk, padL, List.append_assoc, List.append_assoc, List.drop_append_of_le_length (by rw [ba_len]; exact hk), List.take_append_of_le_length h64]
      have hrest : X.extract 64 X.size = ⟨(s.data.toList.drop (64 * (k + 1))).toArray⟩ := by
        rw [hX, sz_mk, ext_drop _ _ _ (Nat.le_refl _), List.drop_drop]
        rfl
      have hlt2 : (64 : Int) ≤ X.size := by omega
      have HRR := Aside0.mk hrest
      have HBK := Aside0.mk hblk
      have hle : 64 * k + 64 ≤ s.size := by omega
      have hmeas : strLen (.string (X.extract 64 X.size)) < strLen (.string X) := by
        rw [hrest]
        simp only [strLen, sz_mk, List.length_drop, ba_len, hXs]
        omega
      have HM := Aside0.mk hmeas
      clear hX hblk hrest hXs hmeas
      go_wp2_with fail
      rw [HBK.out]
      refine (process_w b w.heap.size _ _ wr (hG.below (Nat.le_refl _) HB.out) (blk_size _ _ (by rw [padL]; simp; omega)) (shaK_len _ _) HR.out hbw).mono ?_
      rintro e w3 ⟨rfl, hU3, hB3⟩
      have HU3 := Aside0.mk hU3
      have HB3 := Aside0.mk (HB.out.trans hB3)
      clear hU3 hB3 HR HB
      go_wp2_with fail
      go_roundw
      case rel => exact ⟨k + 1, by omega, by rw [HRR.out], HU3, HB3⟩
      case measure => exact HM.out
    · rename World => W0
      obtain rfl : k = s.size / 64 := by omega
      have hbd : Below w.heap.size w W0 := HB.out
      have hXl : X.size < 64 := by omega
      have hXt : bytesOf X = ints (s.data.toList.drop (64 * (s.size / 64))) := by rw [hX]; rfl
      have HXT := Aside0.mk hXt
      clear hX hXs hXt hbd
      have HXL : Aside0 ((ints (s.data.toList.drop (64 * (s.size / 64)))).length < 64) := ⟨by rw [← HXT.out, bytesOf_length]; exact hXl⟩
      have HBT : Aside0 (Below W0.heap.size W0 W0) := ⟨Below.refl _ _⟩
      go_wp2_with (first | ((with_reducible refine gate_dst (N := 22) rfl ?_); refine Kd.R_makec (Kd.int .u8) (w0 := W0) W0.heap.size 5 rfl (N := 22) rfl 98 _ _ rfl 128 rfl rfl Tryd.underlying98 (.int .u8 0) 1 info5 (by decide) (ok := fun _ => True) trivial (by omega) (by omega) (Below.refl _ _) (Nat.le_refl _) ?_; intro v1 w4 ho hb hg hnew; clear HBT; have HO := Aside0.mk ho; have HBT := Aside0.mk hb; clear ho hb hg hnew) | ((with_reducible refine gate_builtin (b := .append) (xs := #[.tmp 23, .tmp 24]) rfl ?_); at_builtin; refine print_append_str (w0 := W0) W0.heap.size rfl (.tmp 23) _ 98 9 5 rfl Tryd.underlying98 Tryd.underlying9 info5 v1 [] X rfl rfl (Kd.own_of_R HO.out) HBT.out HBT.out.size (by simp; omega) ?_; intro v2 w5 ho0 hb hg; have ho : Kd.R (Kd.int .u8) 5 w5 W0.heap.size (fun _ => True) v2 (bytesOf X) := Kd.R_of_own (h1 := fun _ => rfl) (ok := fun _ => True) ho0 (fun _ _ => trivial); rw [HXT.out] at ho; clear HO HBT; have HO := Aside0.mk ho; have HBT := Aside0.mk hb; clear ho ho0 hb hg) | ((with_reducible refine gate_builtin (b := .append) (xs := #[.tmp 26, .tmp 27]) rfl ?_); at_builtin; refine Kd.R_append (Kd.int .u8) (w0 := W0) W0.heap.size rfl (.tmp 26) (.tmp 27) 98 5 (.int .u8 0) 1 rfl Tryd.underlying98 info5 rfl (by decide) (by omega) v2 _ 128 [.int .u8 128] (fun _ => True) (fun _ => False) rfl rfl rfl (fun _ hk => hk.elim) (fun _ _ => trivial) HO.out HBT.out HBT.out.size (by have := HXL.out; omega) ?_; intro v3 w6 ho hb hg hat; clear HO HBT; have HO := Aside0.mk ho; have HBT := Aside0.mk hb; clear ho hb hg hat))
      have hr : (ints (s.data.toList.drop (64 * (s.size / 64)))).length = s.size % 64 := by rw [ints, List.length_map, List.length_drop, ba_len]; omega
      generalize hT : ints (s.data.toList.drop (64 * (s.size / 64))) = T at HO hr HXL
      obtain ⟨A3, c3, hv3⟩ := R_open HO.out
      go_loopw [5] (fun v wx => ∃ (j : Nat) (A : Option Addr) (c : Nat), j ≤ padZ s.size ∧ v = .slice A (s.size % 64 + 1 + j) c ∧ Aside0 (Kd.R (Kd.int .u8) 5 wx W0.heap.size (fun _ => True) v (T ++ [128] ++ List.replicate j 0)) ∧ Aside0 (Below W0.heap.size W0 wx)) (fun v _ => 200 - sliceLen v)
      case atStart => exact ⟨0, A3, c3, Nat.zero_le _, by rw [hv3, List.length_append, hr]; rfl, ⟨by rw [List.replicate_zero, List.append_nil]; exact HO.out⟩, HBT⟩
      case round =>
        clear HO HBT hv3
        obtain ⟨j, A, c, hj, rfl, HO, HBT⟩ := hrel
        have hp63 : padZ s.size < 64 := Nat.mod_lt _ (by decide)
        by_cases hlt2 : j < padZ s.size
        · have hm : (s.size % 64 + 1 + j) % 64 ≠ 56 := by have := hlt2; unfold padZ at this; omega
          have hl126 : (T ++ [128] ++ List.replicate j 0).length < 1000 := by rw [List.length_append, List.length_append, hr]; simp; omega
          have HL := Aside0.mk hl126
          obtain ⟨N, hN⟩ : ∃ N, N = s.size % 64 + 1 + j := ⟨_, rfl⟩
          rw [← hN] at hm HO
          rw [← hN]
          have HN := Aside0.mk hN
          have hm2 : ((N : Int) % 64 = 56) = False := by simp; omega
          clear hN hl126
          have hm3 : ((N : Int) % 64 != 56) = true := by simp; omega
          go_wp2_with ((with_reducible refine gate_builtin (b := .append) (xs := #[.tmp 33, .tmp 34]) rfl ?_); at_builtin; refine Kd.R_append (Kd.int .u8) (w0 := W0) W0.heap.size rfl (.tmp 33) (.tmp 34) 98 5 (.int .u8 0) 1 rfl Tryd.underlying98 info5 rfl (by decide) (by omega) _ _ 0 [.int .u8 0] (fun _ => True) (fun _ => False) rfl rfl rfl (fun _ hk => hk.elim) (fun _ _ => trivial) HO.out HBT.out HBT.out.size (by have := HL.out; omega) ?_; intro v4 w7 ho hb hg hat; clear HO HBT; have HO := Aside0.mk ho; have HBT := Aside0.mk hb; clear ho hb hg hat)
          obtain ⟨A4, c4, hv4⟩ := R_open HO.out
          have hv4' : v4 = .slice A4 (s.size % 64 + 1 + (j + 1)) c4 := by rw [hv4]; congr 1; simp [hr]; omega
          go_roundw
          case rel => exact ⟨j + 1, A4, c4, by omega, hv4', ⟨by rw [List.replicate_succ', ← List.append_assoc]; exact HO.out⟩, HBT⟩
          case measure =>
            have h1 := HN.out
            show 200 - sliceLen v4 < 200 - sliceLen (.slice A N c)
            rw [hv4']
            simp only [sliceLen]
            omega
        · obtain rfl : j = padZ s.size := by omega
          have hm : (s.size % 64 + 1 + padZ s.size) % 64 = 56 := by unfold padZ; omega
          obtain ⟨N, hN⟩ : ∃ N, N = s.size % 64 + 1 + padZ s.size := ⟨_, rfl⟩
          rw [← hN] at hm HO
          rw [← hN]
          have HN := Aside0.mk hN
          have hm2 : ((N : Int) % 64 = 56) = True := by simp; omega
          have hm3 : ((N : Int) % 64 != 56) = false := by simp; omega
          have hTN : (T ++ [128] ++ List.replicate (padZ s.size) 0).length = N := by rw [hN]; simp [hr]; omega
          generalize hT2 : T ++ [128] ++ List.replicate (padZ s.size) 0 = T2 at HO hTN
          have HTN := Aside0.mk hTN
          clear hN hTN
          go_wp2_with fail
          clear hm2 hm3
          go_loopw [5, 7] (fun v x wx => ∃ (i : Nat) (A : Option Addr) (c : Nat), i ≤ 8 ∧ x = .int .i64 (56 - 8 * (i : Int)) ∧ v = .slice A (N + i) c ∧ Aside0 (Kd.R (Kd.int .u8) 5 wx W0.heap.size (fun _ => True) v (T2 ++ ints (lenB s.size i))) ∧ Aside0 (Below W0.heap.size W0 wx)) (fun v _ _ => 200 - sliceLen v)
          case atStart => exact ⟨0, A, c, Nat.zero_le _, rfl, rfl, ⟨by show Kd.R _ _ _ _ _ _ (T2 ++ []); rw [List.append_nil]; exact HO.out⟩, HBT⟩
          case round =>
            clear HO HBT
            obtain ⟨i, A, c, hi, rfl, rfl, HO, HBT⟩ := hrel
            have HL : Aside0 ((T2 ++ ints (lenB s.size i)).length < 1000 ∧ (T2 ++ ints (lenB s.size i)).length = N + i) := ⟨by rw [List.length_append, HTN.out]; simp [ints, lenB]; have := HN.out; omega⟩
            by_cases hlt3 : i < 8
            · have h56 : (0 : Int) ≤ 56 - 8 * (i : Int) := by omega
              go_wp2_with ((with_reducible refine gate_builtin (b := .append) (xs := #[.tmp 44, .tmp 49]) rfl ?_); at_builtin; refine Kd.R_append (Kd.int .u8) (w0 := W0) W0.heap.size rfl (.tmp 44) (.tmp 49) 98 5 (.int .u8 0) 1 rfl Tryd.underlying98 info5 rfl (by decide) (by omega) _ _ _ [.int .u8 (8 * (s.size : Int) / 2 ^ (56 - 8 * i) % 256)] (fun _ => True) (fun _ => False) rfl rfl rfl (fun _ hk => hk.elim) (fun _ _ => trivial) HO.out HBT.out HBT.out.size (by have := HL.out; omega) ?_; intro v4 w7 ho hb hg hat; clear HO HBT; rw [List.append_assoc, ← lenB_succ] at ho; have HO := Aside0.mk ho; have HBT := Aside0.mk hb; clear ho hb hg hat)
              obtain ⟨A4, c4, hv4⟩ := R_open HO.out
              have hv4' : v4 = .slice A4 (N + (i + 1)) c4 := by rw [hv4, List.length_append, HTN.out]; simp [ints, lenB]
              go_roundw
              case rel => exact ⟨i + 1, A4, c4, by omega, by go_num, hv4', HO, HBT⟩
              case measure =>
                have h1 := HN.out
                show 200 - sliceLen v4 < 200 - sliceLen (.slice A (N + i) c)
                rw [hv4']
                simp only [sliceLen]
                omega
            · obtain rfl : i = 8 := by omega
              have hcv := own_string (P := Tryd.prog) Tryd.underlying98 Tryd.underlying5 Tryd.underlying9 (Kd.own_of_R HO.out)
              have hpl : T2 ++ ints (lenB s.size 8) = ints ((padL s).drop (64 * (s.size / 64))) := by
                rw [← hT2, ← hT, padL_drop, tailB]
                simp [ints]
              rw [hpl, strOfNums_ints] at hcv
              have HR2 := Aside0.mk (HR.out.below HBT.out)
              have HB2 := Aside0.mk (HB.out.trans (HBT.out.mono HB.out.size))
              clear HO HBT HB HR hpl
              have h56 : ¬ (0 : Int) ≤ 56 - 8 * ((8 : Nat) : Int) := by decide
              have hpl64 := padL_len64 s
              obtain ⟨L, hLL⟩ : ∃ L, L = padL s := ⟨_, rfl⟩
              rw [← hLL] at hcv HR2 hpl64
              have HLL := Aside0.mk hLL
              clear hLL
              go_wp2_with fail
              clear hcv
              go_loopw [8] (fun v wx => ∃ m : Nat, s.size / 64 ≤ m ∧ 64 * m ≤ L.length ∧ v = .string ⟨(L.drop (64 * m)).toArray⟩ ∧ Aside0 (UArr 156 b (shaK L m) wx) ∧ Aside0 (Below w.heap.size w wx)) (fun v _ => strLen v)
              case atStart => exact ⟨s.size / 64, Nat.le_refl _, by omega, rfl, HR2, HB2⟩
              case round =>
                clear HR2 HB2
                obtain ⟨m, hm1, hm2, rfl, HR, HB⟩ := hrel
                obtain ⟨Y, hY⟩ : ∃ Y : ByteArray, Y = ⟨(L.drop (64 * m)).toArray⟩ := ⟨_, rfl⟩
                have hYs : Y.size = L.length - 64 * m := by rw [hY, sz_mk, List.length_drop]
                rw [← hY]
                by_cases hlt4 : 64 * m < L.length
                · have hle : 64 * m + 64 ≤ L.length := by omega
                  have hblk : Y.extract 0 64 = blk L m := by rw [hY, ext_take, blk]
                  have hrest : Y.extract 64 Y.size = ⟨(L.drop (64 * (m + 1))).toArray⟩ := by
                    rw [hY, sz_mk, ext_drop _ _ _ (Nat.le_refl _), List.drop_drop]
                    rfl
                  have hmeas : strLen (.string (Y.extract 64 Y.size)) < strLen (.string Y) := by
                    rw [hrest]
                    simp only [strLen, sz_mk, List.length_drop, hYs]
                    omega
                  have hY64 : (64 : Int) ≤ Y.size := by omega
                  have hYne : Y.toList.isEmpty = false := by
                    rw [ba_toList, List.isEmpty_eq_false_iff]
                    intro h
                    have h2 := ba_len Y
                    rw [h] at h2
                    simp at h2
                    omega
                  have HM := Aside0.mk hmeas
                  have HRR := Aside0.mk hrest
                  have HBK := Aside0.mk hblk
                  clear hY hblk hrest hYs hmeas
                  go_wp2_with fail
                  rw [HBK.out]
                  refine (process_w b w.heap.size _ _ wr (hG.below (Nat.le_refl _) HB.out) (blk_size _ _ hle) (shaK_len _ _) HR.out hbw).mono ?_
                  rintro e w3 ⟨rfl, hU3, hB3⟩
                  have HU3 := Aside0.mk hU3
                  have HB3 := Aside0.mk (HB.out.trans hB3)
                  clear hU3 hB3 HR HB
                  go_wp2_with fail
                  go_roundw
                  case rel => exact ⟨m + 1, by omega, by omega, by rw [HRR.out], HU3, HB3⟩
                  case measure => exact HM.out
                · obtain rfl : m = L.length / 64 := by omega
                  have hYe : Y = ⟨#[]⟩ := by
                    rw [hY, List.drop_of_length_le (by omega)]
                  subst hYe
                  clear hY hYs
                  rename World => WZ
                  obtain ⟨V, hV⟩ : ∃ V, V = shaK L (L.length / 64) := ⟨_, rfl⟩
                  have hVl : V.length = 8 := by rw [hV, shaK_len]
                  rw [← hV] at HR
                  have HV := Aside0.mk hV
                  clear hV
                  obtain ⟨l0, l1, l2, l3, l4, l5, l6, l7, rfl⟩ := eight V hVl
                  have HBT : Aside0 (Below WZ.heap.size WZ WZ) := ⟨Below.refl _ _⟩
                  have hc8 := fun w' (hb : Below WZ.heap.size WZ w') => (HR.out.below hb)
                  have HC := Aside0.mk hc8
                  clear hc8
                  go_wp2_with ((with_reducible refine gate_dst (N := 60) rfl ?_); refine Kd.R_makec (Kd.int .u8) (w0 := WZ) WZ.heap.size 5 rfl (N := 60) rfl 98 _ _ rfl 32 rfl rfl Tryd.underlying98 (.int .u8 0) 1 info5 (by decide) (ok := fun _ => True) trivial (by omega) (by omega) (Below.refl _ _) (Nat.le_refl _) ?_; intro v1 w4 ho hb hg hnew; clear HBT; have HO := Aside0.mk ho; have HBT := Aside0.mk hb; have hUx := HC.out _ hb; have c0 := hUx.cell 0 (by simp); have c1 := hUx.cell 1 (by simp); have c2 := hUx.cell 2 (by simp); have c3 := hUx.cell 3 (by simp); have c4 := hUx.cell 4 (by simp); have c5 := hUx.cell 5 (by simp); have c6 := hUx.cell 6 (by simp); have c7 := hUx.cell 7 (by simp); simp only [List.getElem_cons_zero, List.getElem_cons_succ] at c0 c1 c2 c3 c4 c5 c6 c7; clear ho hb hg hnew hUx)
                  clear c0 c1 c2 c3 c4 c5 c6 c7 HR
                  go_loopw [9, 62] (fun v x wx => ∃ i : Nat, i ≤ 8 ∧ x = .int .i64 (i : Int) ∧ Aside0 (wx.ownsRow WZ.heap.size 5 1 v (4 * i) (nums .u8 (outB [l0, l1, l2, l3, l4, l5, l6, l7] i))) ∧ Aside0 (Below WZ.heap.size WZ wx)) (fun _ x _ => 8 - (intOf x).toNat)
                  case atStart => exact ⟨0, Nat.zero_le _, rfl, ⟨Kd.own_of_R HO.out⟩, HBT⟩
                  case round =>
                    clear HO HBT
                    obtain ⟨i, hi, rfl, HO, HBT⟩ := hrel
                    by_cases hlt5 : i < 8
                    · have hix : ∀ w, (Instr.index 156 (.agg #[.int .u32 l0, .int .u32 l1, .int .u32 l2, .int .u32 l3, .int .u32 l4, .int .u32 l5, .int .u32 l6, .int .u32 l7]) (.int .i64 i)).run Tryd.prog w = .ok (.int .u32 ([l0, l1, l2, l3, l4, l5, l6, l7].getD i 0)) w := agg_index156 [l0, l1, l2, l3, l4, l5, l6, l7] i hlt5 rfl
                      have HS := Aside0.mk (outB_succ [l0, l1, l2, l3, l4, l5, l6, l7] i)
                      generalize [l0, l1, l2, l3, l4, l5, l6, l7].getD i 0 = Z at hix HS
                      obtain ⟨i0, hi0, hz0, hz1, hz2⟩ := info_parts bld_infoByte
                      have HI0 := Aside0.mk hi0
                      have HZ0 := Aside0.mk hz0
                      have HZ1 := Aside0.mk hz1
                      have HZ2 := Aside0.mk hz2
                      clear hi0 hz0 hz1 hz2
                      go_wp2_with ((with_reducible refine gate_builtin (b := .append) (xs := #[.tmp 65, .tmp 77]) rfl ?_); at_builtin; refine wpList_append_own _ rfl _ _ 98 rfl WZ.heap.size 5 i0 (.int .u8 0) 1 1 Tryd.underlying98 HI0.out HZ0.out HZ1.out HZ2.out rfl (by decide) _ _ _ rfl (HO.out.alloc _) ⟨wr.heap.size, 0, none⟩ 4 4 [.int .u8 (Z / 16777216 % 256), .int .u8 (Z / 65536 % 256), .int .u8 (Z / 256 % 256), .int .u8 (Z % 256)] rfl rfl (World.news_of_block (cs := #[.int .u8 (Z / 16777216 % 256), .int .u8 (Z / 65536 % 256), .int .u8 (Z / 256 % 256), .int .u8 (Z % 256)]) (t := 5) (fr := (0, 0)) (heap_alloc_new wr _)) (by intro u hu; simp at hu; rcases hu with rfl | rfl | rfl | rfl <;> rfl) (by unfold maxLen; omega) (by omega) (by have := HBT.out.size; simp; omega) ?_; intro v5 w8 hown hg _; have hb5 := (HBT.out.alloc HBT.out.size _).grown hg (by have := HBT.out.size; simp; omega) (own_base HO.out); clear HO HBT; have HO := Aside0.mk hown; have HBT := Aside0.mk hb5; clear hown hg hb5)
                      go_roundw
                      case rel => exact ⟨i + 1, by omega, by go_num, ⟨by rw [HS.out, nums_append]; exact HO.out⟩, HBT⟩
                      case measure => simp [intOf]; omega
                    · obtain rfl : i = 8 := by omega
                      have hcv := own_string (P := Tryd.prog) Tryd.underlying98 Tryd.underlying5 Tryd.underlying9 HO.out
                      go_wp2
                      go_ret
                      refine ⟨?_, HB.out.trans (HBT.out.mono HB.out.size)⟩
                      rw [HV.out, HLL.out]
                      rfl

theorem outB_byte (V : List Int) (i : Nat) : ∀ x ∈ outB V i, 0 ≤ x ∧ x < 256 := by
  induction i with
  | zero => intro x hx; simp [outB] at hx
  | succ i ih =>
    intro x hx
    rw [outB_succ, List.mem_append] at hx
    rcases hx with hx | hx
    · exact ih x hx
    · simp at hx
      omega
theorem sumB_size (s : ByteArray) : (sumB s).size = 32 := by
  rw [sumB, strOfNums, sz_mk, List.length_map, outB_len]

def macK (k : ByteArray) : ByteArray := if 64 < k.size then sumB k else k
theorem macK_size (k : ByteArray) : (macK k).size ≤ 64 := by
  unfold macK
  split
  · rw [sumB_size]; decide
  · omega
theorem padB_len (s : ByteArray) (x : UInt8) (h : s.size ≤ 64) : (padB s x).length = 64 := by
  rw [padB, List.length_map, List.length_append, ba_len, List.length_replicate]
  omega
def macB (k s : ByteArray) : ByteArray := sumB (⟨(padB (macK k) 92).toArray⟩ ++ sumB (⟨(padB (macK k) 54).toArray⟩ ++ s))
def digest_Mac.f (a0 a1 : ByteArray) : Option ByteArray := if a0.size ≤ 4294967296 ∧ a1.size ≤ 4294967232 then some (macB a0 a1) else none

set_option maxHeartbeats 8000000 in
set_option maxRecDepth 100000 in
theorem digest_Mac.calls (a0 a1 : ByteArray) (r : ByteArray) (w : World) (hG : GOk 1 w) (h : digest_Mac.f a0 a1 = some r) :
    Calls Tryd.prog 123 #[.string a0, .string a1] w fun e w' => e = .returned (.string r) ∧ Below w.heap.size w w' := by
  unfold digest_Mac.f at h
  split at h
  case isFalse => cases h
  rename_i hs
  obtain rfl := Option.some.inj h
  clear h
  have hK : macB a0 a1 = sumB (⟨(padB (macK a0) 92).toArray⟩ ++ sumB (⟨(padB (macK a0) 54).toArray⟩ ++ a1)) := rfl
  have hMs := macK_size a0
  have hP : (⟨(padB (macK a0) 92).toArray⟩ : ByteArray).size = 64 ∧ (⟨(padB (macK a0) 54).toArray⟩ : ByteArray).size = 64 := by
    rw [sz_mk, sz_mk, padB_len _ _ hMs, padB_len _ _ hMs]
    exact ⟨rfl, rfl⟩
  obtain ⟨hs0, hs1⟩ := hs
  by_cases h64 : 64 < a0.size
  · have hm : macK a0 = sumB a0 := by rw [macK, if_pos h64]
    rw [hm] at hMs hK hP
    have HK := Aside0.mk hK
    have HP := Aside0.mk hP
    clear hm hK hP
    have h64i : (64 : Int) < a0.size := by omega
    go_enter Tryd.func123, Tryd.ntmps123
    go_wp2_with fail
    refine (sum_w a0 w hG hs0).mono ?_
    rintro e w1 ⟨rfl, hb1⟩
    have HB1 := Aside0.mk hb1
    clear hb1
    go_wp2_with fail
    refine (padded_w (sumB a0) 92 w1 hMs).mono ?_
    rintro e w2 ⟨rfl, hb2⟩
    have HB2 := Aside0.mk (HB1.out.trans (hb2.mono HB1.out.size))
    clear hb2 HB1
    generalize hP : (⟨(padB (sumB a0) 92).toArray⟩ : ByteArray) = P92 at HK HP ⊢
    have hP64 := HP.out.1
    clear hP
    go_wp2_with fail
    refine (padded_w (sumB a0) 54 w2 hMs).mono ?_
    rintro e w3 ⟨rfl, hb3⟩
    have HB3 := Aside0.mk (HB2.out.trans (hb3.mono HB2.out.size))
    clear hb3 HB2
    generalize hQ : (⟨(padB (sumB a0) 54).toArray⟩ : ByteArray) = P54 at HK HP ⊢
    have hP54 := HP.out.2
    clear hQ
    have hz1 : ¬ 9223372036854775807 < P54.size + a1.size := by omega
    go_wp2_with fail
    refine (sum_w (P54 ++ a1) w3 (hG.below (Nat.le_refl _) HB3.out) (by rw [ByteArray.size_append]; omega)).mono ?_
    rintro e w4 ⟨rfl, hb4⟩
    have HB4 := Aside0.mk (HB3.out.trans (hb4.mono HB3.out.size))
    have hs1 := sumB_size (P54 ++ a1)
    clear hb4 HB3 hz1
    generalize sumB (P54 ++ a1) = D at HK hs1 ⊢
    have hz2 : ¬ 9223372036854775807 < P92.size + D.size := by omega
    go_wp2_with fail
    refine (sum_w (P92 ++ D) w4 (hG.below (Nat.le_refl _) HB4.out) (by rw [ByteArray.size_append]; omega)).mono ?_
    rintro e w5 ⟨rfl, hb5⟩
    have HB5 := Aside0.mk (HB4.out.trans (hb5.mono HB4.out.size))
    clear hb5 HB4
    go_wp2_with fail
    go_ret
    exact ⟨by rw [HK.out]; rfl, HB5.out⟩
  · have hm : macK a0 = a0 := by rw [macK, if_neg h64]
    rw [hm] at hMs hK hP
    have HK := Aside0.mk hK
    have HP := Aside0.mk hP
    clear hm hK hP
    have h64i : ¬ (64 : Int) < a0.size := by omega
    have HB1 : Aside0 (Below w.heap.size w w) := ⟨Below.refl _ _⟩
    go_enter Tryd.func123, Tryd.ntmps123
    go_wp2_with fail
    refine (padded_w a0 92 w hMs).mono ?_
    rintro e w2 ⟨rfl, hb2⟩
    have HB2 := Aside0.mk (HB1.out.trans (hb2.mono HB1.out.size))
    clear hb2 HB1
    generalize hP : (⟨(padB a0 92).toArray⟩ : ByteArray) = P92 at HK HP ⊢
    have hP64 := HP.out.1
    clear hP
    go_wp2_with fail
    refine (padded_w a0 54 w2 hMs).mono ?_
    rintro e w3 ⟨rfl, hb3⟩
    have HB3 := Aside0.mk (HB2.out.trans (hb3.mono HB2.out.size))
    clear hb3 HB2
    generalize hQ : (⟨(padB a0 54).toArray⟩ : ByteArray) = P54 at HK HP ⊢
    have hP54 := HP.out.2
    clear hQ
    have hz1 : ¬ 9223372036854775807 < P54.size + a1.size := by omega
    go_wp2_with fail
    refine (sum_w (P54 ++ a1) w3 (hG.below (Nat.le_refl _) HB3.out) (by rw [ByteArray.size_append]; omega)).mono ?_
    rintro e w4 ⟨rfl, hb4⟩
    have HB4 := Aside0.mk (HB3.out.trans (hb4.mono HB3.out.size))
    have hs1 := sumB_size (P54 ++ a1)
    clear hb4 HB3 hz1
    generalize sumB (P54 ++ a1) = D at HK hs1 ⊢
    have hz2 : ¬ 9223372036854775807 < P92.size + D.size := by omega
    go_wp2_with fail
    refine (sum_w (P92 ++ D) w4 (hG.below (Nat.le_refl _) HB4.out) (by rw [ByteArray.size_append]; omega)).mono ?_
    rintro e w5 ⟨rfl, hb5⟩
    have HB5 := Aside0.mk (HB4.out.trans (hb5.mono HB4.out.size))
    clear hb5 HB4
    go_wp2_with fail
    go_ret
    exact ⟨by rw [HK.out]; rfl, HB5.out⟩
end Go.Proofs.YtadnefnofbnheaaDoor.Pr
