/- Part 2 of the proof: HPlain. -/
import Derived.Lib.ItoaLen
import Derived.Lib.Strings
import Derived.Laws.Strings
/- Plain lemmas on strings as lists of bytes. -/
namespace Go.Proofs.YtadnefnofbnheaaDoor.Pr

theorem sz_mk (l : List UInt8) : (⟨l.toArray⟩ : ByteArray).size = l.length := by show l.toArray.size = _; simp
theorem ba_append (a b : List UInt8) : (⟨a.toArray⟩ : ByteArray) ++ (⟨b.toArray⟩ : ByteArray) = ⟨(a ++ b).toArray⟩ := by
  apply ByteArray.ext
  rw [ByteArray.data_append]
  simp
theorem ba_eta (s : ByteArray) : (⟨s.data.toList.toArray⟩ : ByteArray) = s := by
  apply ByteArray.ext
  simp
theorem ba_len (s : ByteArray) : s.data.toList.length = s.size := by rw [Array.length_toList]; rfl
theorem ba_append_list (a b : ByteArray) : (a ++ b).data.toList = a.data.toList ++ b.data.toList := by
  rw [ByteArray.data_append]; simp
theorem ba_of_list {s : ByteArray} {l : List UInt8} (h : s.data.toList = l) : s = ⟨l.toArray⟩ := by rw [← h, ba_eta]
theorem ba_inj {a b : ByteArray} (h : a.data.toList = b.data.toList) : a = b := by rw [← ba_eta a, ← ba_eta b, h]

theorem ba_toList (s : ByteArray) : s.toList = s.data.toList := ByteArray.toList_eq s
theorem ba_extract (s : ByteArray) (i j : Nat) (_hj : j ≤ s.size) : (s.extract i j).data.toList = (s.data.toList.take j).drop i := by
  rw [ByteArray.data_extract]
  simp [List.extract_eq_take_drop, List.drop_take]
theorem ba_drop (s : ByteArray) (i : Nat) : s.extract i s.size = ⟨(s.data.toList.drop i).toArray⟩ := by
  apply ba_inj
  rw [ba_extract s i s.size (Nat.le_refl _), ← ba_len, List.take_length]
theorem ba_take (s : ByteArray) (j : Nat) (hj : j ≤ s.size) : s.extract 0 j = ⟨(s.data.toList.take j).toArray⟩ := by
  apply ba_inj
  rw [ba_extract s 0 j hj, List.drop_zero]

end Go.Proofs.YtadnefnofbnheaaDoor.Pr
