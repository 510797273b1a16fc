/- Part 9 of the proof: HPB32, HPUnb. -/
import Derived.Test.YtadnefnofbnheaaDoorVO8
import Derived.Test.YtadnefnofbnheaaDoorVO2
import Derived.Laws.BitsAllLaws
/- Base32 and back: what the program's two functions compute. -/
namespace Go.Proofs.YtadnefnofbnheaaDoor.Pr
open Go.RowKit Go.Proofs.YtadnefnofbnheaaDoorW.PrintWords Go.Proofs.YtadnefnofbnheaaDoorW.PrintLast Go.Proofs.YtadnefnofbnheaaDoorW.PrintMore

/-- q digits of x to a base, the first one first. -/
def gd (B : Nat) (f : Nat → Int) : Nat → Nat → List Int
  | 0, _ => []
  | q + 1, x => f (x / B ^ q % B) :: gd B f q x
theorem gd_len (B : Nat) (f : Nat → Int) (q x : Nat) : (gd B f q x).length = q := by
  induction q with
  | zero => rfl
  | succ q ih => rw [gd, List.length_cons, ih]
theorem gd_add (B : Nat) (f : Nat → Int) (a b x : Nat) : gd B f (a + b) x = gd B f a (x / B ^ b) ++ gd B f b x := by
  induction a with
  | zero => rw [Nat.zero_add]; rfl
  | succ a ih =>
    rw [show a + 1 + b = (a + b) + 1 by omega, gd, gd, ih, List.cons_append, Nat.div_div_eq_div_mul, ← Nat.pow_add, Nat.add_comm b a]

def abc : ByteArray := ⟨#[97, 98, 99, 100, 101, 102, 103, 104, 105, 106, 107, 108, 109, 110, 111, 112, 113, 114, 115, 116, 117, 118, 119, 120, 121, 122, 50, 51, 52, 53, 54, 55]⟩
def dg (v : Nat) : Int := bt abc (v : Int)

def valN : List UInt8 → Nat := List.foldl (fun a c => 256 * a + c.toNat) 0
theorem valN_snoc (l : List UInt8) (c : UInt8) : valN (l ++ [c]) = 256 * valN l + c.toNat := by simp [valN]

theorem or_low (x b n : Nat) (h : b < 2 ^ n) : (x * 2 ^ n) ||| b = x * 2 ^ n + b := by
  rw [← Nat.shiftLeft_eq, Nat.shiftLeft_add_eq_or_of_lt h]
theorem feed8 (M b : Nat) (hb : b < 256) : Go.bits .or .u32 ((((M % 4294967296 : Nat) : Int) * 256) % 4294967296) ((b : Int) % 4294967296) = (((256 * M + b) % 4294967296 : Nat) : Int) := by
  have h1 : (((M % 4294967296 : Nat) : Int) * 256) % 4294967296 = ((M % 16777216 * 2 ^ 8 : Nat) : Int) := by omega
  have h2 : ((b : Int) % 4294967296) = (b : Int) := by omega
  rw [h1, h2, u32_or_nat _ _ (by omega) (by omega), or_low _ _ _ (by omega)]
  omega
theorem feed5 (M b : Nat) (hb : b < 32) : Go.bits .or .u32 ((((M % 4294967296 : Nat) : Int) * 32) % 4294967296) ((b : Int) % 4294967296) = (((32 * M + b) % 4294967296 : Nat) : Int) := by
  have h1 : (((M % 4294967296 : Nat) : Int) * 32) % 4294967296 = ((M % 134217728 * 2 ^ 5 : Nat) : Int) := by omega
  have h2 : ((b : Int) % 4294967296) = (b : Int) := by omega
  rw [h1, h2, u32_or_nat _ _ (by omega) (by omega), or_low _ _ _ (by omega)]
  omega
theorem and31 (x : Nat) (hx : x < 4294967296) : Go.bits .and .u32 (x : Int) 31 = ((x % 32 : Nat) : Int) := by
  have h := u32_and_nat x 31 hx (by omega)
  rw [show (31 : Int) = ((31 : Nat) : Int) from rfl, h, show (31 : Nat) = 2 ^ 5 - 1 from rfl, Nat.and_two_pow_sub_one_eq_mod]
theorem shr_nat (M n : Nat) (hn : n ≤ 32) : shr .u32 ((M : Nat) : Int) (n : Int) = ((M / 2 ^ n : Nat) : Int) := by
  unfold shr
  rw [show min (n : Int).toNat IntKind.u32.bits = n by simp [IntKind.bits]; omega]
  simp
theorem shl_nat (M n : Nat) (hn : n ≤ 32) : shl .u32 ((M : Nat) : Int) (n : Int) = ((M * 2 ^ n % 4294967296 : Nat) : Int) := by
  unfold shl
  rw [show min (n : Int).toNat IntKind.u32.bits = n by simp [IntKind.bits]; omega, IntKind.wrap_u32']
  simp
/-- A window of a number's lowest 32 bits. -/
theorem window (M n w : Nat) (h : n + w ≤ 32) : (M % 4294967296) / 2 ^ n % 2 ^ w = M / 2 ^ n % 2 ^ w := by
  rw [show (4294967296 : Nat) = 2 ^ n * 2 ^ (32 - n) by rw [← Nat.pow_add, show n + (32 - n) = 32 by omega], Nat.mod_mul_right_div_self, Nat.mod_mod_of_dvd]
  exact Nat.pow_dvd_pow 2 (by omega)
theorem w64_suc (i : Nat) (h : i ≤ 140737488355328) : wrap64 ((i : Int) + 1) = ((i + 1 : Nat) : Int) := by unfold wrap64; omega
theorem w64_of (n : Nat) (h : n < 9223372036854775808) : wrap64 (n : Int) = (n : Int) := by unfold wrap64; omega

theorem b32_l1 (s : ByteArray) (M r : Nat) (x14 x15 : Int) (hr : r < 5) (k : Nat) : ∀ (q : Nat) (out : List Int), 5 * q + r ≤ 32 → out.length + q < 140737488355328 →
    digest_Base32.l1 (k + q + 1) s out ((M % 4294967296 : Nat) : Int) ((5 * q + r : Nat) : Int) x14 x15 = digest_Base32.l0 k s (out ++ gd 32 dg q (M / 2 ^ r)) ((M % 4294967296 : Nat) : Int) (r : Int) x14 (wrap64 (x15 + 1))
  | 0, out, _, _ => by
    rw [digest_Base32.l1, if_neg (by omega)]
    simp [gd]
  | q + 1, out, h1, h2 => by
    have hw : wrap64 (((5 * (q + 1) + r : Nat) : Int) - 5) = ((5 * q + r : Nat) : Int) := by
      rw [show (((5 * (q + 1) + r : Nat) : Int) - 5) = ((5 * q + r : Nat) : Int) by omega]
      exact w64_of _ (by omega)
    have hv : Go.bits .and .u32 (shr .u32 ((M % 4294967296 : Nat) : Int) ((5 * q + r : Nat) : Int)) 31 = ((M / 2 ^ r / 32 ^ q % 32 : Nat) : Int) := by
      rw [shr_nat _ _ (by omega), and31 _ (Nat.lt_of_le_of_lt (Nat.div_le_self _ _) (Nat.mod_lt _ (by decide)))]
      have hwd := window M (5 * q + r) 5 (by omega)
      rw [show (2 : Nat) ^ 5 = 32 from rfl] at hwd
      rw [hwd, Nat.div_div_eq_div_mul, show (32 : Nat) ^ q = 2 ^ (5 * q) by rw [Nat.pow_mul], ← Nat.pow_add, Nat.add_comm r]
    have hlt : M / 2 ^ r / 32 ^ q % 32 < 32 := Nat.mod_lt _ (by decide)
    have ih := b32_l1 s M r x14 x15 hr k q (out ++ [dg (M / 2 ^ r / 32 ^ q % 32)]) (by omega) (by simp; omega)
    rw [show k + (q + 1) + 1 = (k + q + 1) + 1 by omega, digest_Base32.l1, if_pos (by omega), hw, hv, if_pos (by omega), if_pos (by omega), if_pos (by omega), if_pos (by omega)]
    show digest_Base32.l1 (k + q + 1) s (out ++ [dg (M / 2 ^ r / 32 ^ q % 32)]) _ _ _ _ = _
    rw [ih, gd, List.append_assoc]
    rfl

/-- Base32. -/
def b32 (l : List UInt8) : ByteArray := strOfNums (gd 32 dg ((8 * l.length + 4) / 5) (valN l * 2 ^ (5 * ((8 * l.length + 4) / 5) - 8 * l.length)))

set_option maxHeartbeats 1000000 in
theorem b32_l0 (s : ByteArray) (hs : s.size ≤ 1000000000) : ∀ (j i r : Nat) (out : List Int) (k : Nat), s.size - i = j → i ≤ s.size → r < 5 → 8 * i = 5 * out.length + r →
    out = gd 32 dg out.length (valN (s.data.toList.take i) / 2 ^ r) → 5 * j + 5 ≤ k →
    digest_Base32.l0 k s out ((valN (s.data.toList.take i) % 4294967296 : Nat) : Int) (r : Int) (s.size : Int) (i : Int) = some (b32 s.data.toList)
  | 0, i, r, out, k, hj, hi, hr, h8, hout, hk => by
    obtain ⟨k, rfl⟩ : ∃ k', k = k' + 1 := ⟨k - 1, by omega⟩
    obtain rfl : i = s.size := by omega
    have hall : s.data.toList.take s.size = s.data.toList := by rw [← ba_len, List.take_length]
    rw [hall] at hout ⊢
    rw [digest_Base32.l0, if_neg (by omega), b32, ba_len]
    generalize hM : valN s.data.toList = M at hout ⊢
    by_cases h0 : r = 0
    · subst h0
      have hQ : (8 * s.size + 4) / 5 = out.length := by omega
      rw [if_neg (by omega), hQ, show 5 * out.length - 8 * s.size = 0 by omega]
      rw [Nat.pow_zero, Nat.div_one] at hout
      rw [Nat.pow_zero, Nat.mul_one, ← hout]
    · have hQ : (8 * s.size + 4) / 5 = out.length + 1 := by omega
      have hw : wrap64 (5 - (r : Int)) = ((5 - r : Nat) : Int) := by
        rw [show (5 - (r : Int)) = ((5 - r : Nat) : Int) by omega]
        exact w64_of _ (by omega)
      have hv : Go.bits .and .u32 (shl .u32 ((M % 4294967296 : Nat) : Int) ((5 - r : Nat) : Int)) 31 = ((M * 2 ^ (5 - r) % 32 : Nat) : Int) := by
        rw [shl_nat _ _ (by omega), and31 _ (Nat.mod_lt _ (by decide)), Nat.mod_mod_of_dvd _ (by decide)]
        congr 1
        rw [Nat.mul_mod, Nat.mod_mod_of_dvd _ (by decide), ← Nat.mul_mod]
      have hlt : M * 2 ^ (5 - r) % 32 < 32 := Nat.mod_lt _ (by decide)
      rw [if_pos (by omega), hw, hv, if_pos (by omega), if_pos (by omega), if_pos (by omega), if_pos (by omega), hQ, show 5 * (out.length + 1) - 8 * s.size = 5 - r by omega, gd_add]
      have hd : M * 2 ^ (5 - r) / 32 ^ 1 = M / 2 ^ r := by
        rw [Nat.pow_one, show (32 : Nat) = 2 ^ (5 - r) * 2 ^ r by rw [← Nat.pow_add, show 5 - r + r = 5 by omega], Nat.mul_comm M, Nat.mul_div_mul_left _ _ (Nat.two_pow_pos _)]
      rw [hd, ← hout]
      simp only [gd, Nat.pow_zero, Nat.div_one]
      rfl
  | j + 1, i, r, out, k, hj, hi, hr, h8, hout, hk => by
    have hlt : i < s.size := by omega
    obtain ⟨q, r', hq⟩ : ∃ q r', r + 8 = 5 * q + r' ∧ r' < 5 ∧ q ≤ 2 := ⟨(r + 8) / 5, (r + 8) % 5, by omega, by omega, by omega⟩
    obtain ⟨hq1, hq2, hq3⟩ := hq
    obtain ⟨k', rfl⟩ : ∃ k', k = (k' + q + 1) + 1 := ⟨k - q - 2, by omega⟩
    have hlt' : i < s.data.toList.length := by rw [ba_len]; exact hlt
    have htk : s.data.toList.take (i + 1) = s.data.toList.take i ++ [s.data.toList[i]] := List.take_succ_eq_append_getElem hlt'
    have hbt : bt s (i : Int) = ((s.data.toList[i]).toNat : Int) := by
      unfold bt
      rw [dif_pos (by simpa using hlt)]
      rfl
    have hc := (s.data.toList[i]).toNat_lt
    have hN : valN (s.data.toList.take (i + 1)) = 256 * valN (s.data.toList.take i) + (s.data.toList[i]).toNat := by rw [htk, valN_snoc]
    have hw : Aside0 (wrap64 ((r : Int) + 8) = ((5 * q + r' : Nat) : Int)) := ⟨by
      rw [show ((r : Int) + 8) = ((5 * q + r' : Nat) : Int) by omega]
      exact w64_of _ (by omega)⟩
    have hw1 : Aside0 (wrap64 ((i : Int) + 1) = ((i + 1 : Nat) : Int)) := ⟨w64_suc i (by omega)⟩
    have hfd0 := feed8 (valN (s.data.toList.take i)) (s.data.toList[i]).toNat (by omega)
    rw [← hN] at hfd0
    have hfd := Aside0.mk hfd0
    clear hfd0
    rw [digest_Base32.l0, if_pos (by omega), if_pos (by omega), if_pos (by omega), hbt, hfd.out, hw.out]
    rw [b32_l1 s _ r' _ _ hq2 k' q out (by omega) (by omega), hw1.out]
    refine b32_l0 s hs j (i + 1) r' _ k' (by omega) (by omega) hq2 ?_ ?_ (by omega)
    · rw [List.length_append, gd_len]; omega
    · rw [List.length_append, gd_len, gd_add]
      have e1 : valN (s.data.toList.take (i + 1)) / 2 ^ r' / 32 ^ q = valN (s.data.toList.take i) / 2 ^ r := by
        rw [show (32 : Nat) ^ q = 2 ^ (5 * q) by rw [Nat.pow_mul], Nat.div_div_eq_div_mul, ← Nat.pow_add, show r' + 5 * q = 8 + r by omega, Nat.pow_add, ← Nat.div_div_eq_div_mul, hN]
        rw [show (256 * valN (s.data.toList.take i) + (s.data.toList[i]).toNat) / 2 ^ 8 = valN (s.data.toList.take i) by omega]
      rw [e1, ← hout]
theorem b32_ev (s : ByteArray) (hs : s.size ≤ 1000000000) (k : Nat) (hk : 5 * s.size + 5 ≤ k) : digest_Base32.f k s = some (b32 s.data.toList) := by
  have hw : wrap64 (wrap64 (wrap64 ((s.size : Int) / 5) * 8) + 8) = ((s.size / 5 * 8 + 8 : Nat) : Int) := by
    rw [show (s.size : Int) / 5 = ((s.size / 5 : Nat) : Int) by omega, w64_of _ (by omega), show ((s.size / 5 : Nat) : Int) * 8 = ((s.size / 5 * 8 : Nat) : Int) by omega, w64_of _ (by omega), show ((s.size / 5 * 8 : Nat) : Int) + 8 = ((s.size / 5 * 8 + 8 : Nat) : Int) by omega, w64_of _ (by omega)]
  unfold digest_Base32.f
  rw [hw, if_pos (by omega), if_pos (by omega)]
  exact b32_l0 s hs s.size 0 0 [] k (by omega) (by omega) (by omega) rfl (by simp [gd]) (by omega)
end Go.Proofs.YtadnefnofbnheaaDoor.Pr

/- Base32 back: what digest.Unbase32 computes; that it gives back what was written. -/
namespace Go.Proofs.YtadnefnofbnheaaDoor.Pr
open Go.RowKit Go.Proofs.YtadnefnofbnheaaDoorW.PrintWords Go.Proofs.YtadnefnofbnheaaDoorW.PrintLast Go.Proofs.YtadnefnofbnheaaDoorW.PrintMore

def idx (c : UInt8) : Int := Lib.indexByte abc.data.toList c
theorem indexByte_range : ∀ (l : List UInt8) (c : UInt8), -1 ≤ Lib.indexByte l c ∧ Lib.indexByte l c < l.length
  | [], c => by simp [Lib.indexByte]
  | b :: l, c => by
    have ih := indexByte_range l c
    unfold Lib.indexByte
    split
    · first | (simp; done) | (simp; omega)
    · split
      · first | (simp; done) | (simp; omega)
      · rename_i h
        simp at h
        simp
        omega
theorem idx_range (c : UInt8) : -1 ≤ idx c ∧ idx c < 32 := indexByte_range abc.data.toList c
def vals : List UInt8 → Option (List Nat)
  | [] => some []
  | c :: r => if idx c < 0 then none else (vals r).map fun vs => (idx c).toNat :: vs
def val32 (V : Nat) (vs : List Nat) : Nat := vs.foldl (fun a v => 32 * a + v) V
def by8 (v : Nat) : Int := (v : Int)
def finU (s : ByteArray) (out : List Int) : Option (ByteArray × Bool) := if (b32 (strOfNums out).data.toList).toList = s.toList then some (strOfNums out, true) else some ((⟨#[]⟩ : ByteArray), false)
def unbR (s : ByteArray) (V : Nat) : Option (List Nat) → Option (ByteArray × Bool)
  | none => some ((⟨#[]⟩ : ByteArray), false)
  | some vs => finU s (gd 256 by8 (5 * s.size / 8) (val32 V vs / 2 ^ (5 * s.size - 8 * (5 * s.size / 8))))
theorem strOfNums_size (l : List Int) : (strOfNums l).size = l.length := by rw [strOfNums, sz_mk, List.length_map]

set_option maxHeartbeats 1000000 in
theorem unb_l0 (s : ByteArray) (hs : s.size ≤ 1000000000) : ∀ (j i r V : Nat) (out : List Int) (k : Nat), s.size - i = j → i ≤ s.size → r < 8 → 5 * i = 8 * out.length + r →
    out = gd 256 by8 out.length (V / 2 ^ r) → j + 5 * s.size + 10 ≤ k →
    digest_Unbase32.l0 k s out ((V % 4294967296 : Nat) : Int) (r : Int) (s.size : Int) (i : Int) = unbR s V (vals (s.data.toList.drop i))
  | 0, i, r, V, out, k, hj, hi, hr, h8, hout, hk => by
    obtain ⟨k, rfl⟩ : ∃ k', k = k' + 1 := ⟨k - 1, by omega⟩
    obtain rfl : i = s.size := by omega
    have hnil : s.data.toList.drop s.size = [] := by rw [← ba_len, List.drop_length]
    have hm : 5 * s.size / 8 = out.length := by omega
    rw [digest_Unbase32.l0, if_neg (by omega), hnil, vals, unbR, hm, show 5 * s.size - 8 * out.length = r by omega, val32, List.foldl_nil, ← hout]
    rw [b32_ev (strOfNums out) (by rw [strOfNums_size]; omega) k (by rw [strOfNums_size]; omega), Option.bind_some]
    rfl
  | j + 1, i, r, V, out, k, hj, hi, hr, h8, hout, hk => by
    have hlt : i < s.size := by omega
    obtain ⟨k, rfl⟩ : ∃ k', k = k' + 1 := ⟨k - 1, by omega⟩
    have hlt' : i < s.data.toList.length := by rw [ba_len]; exact hlt
    have hdr : s.data.toList.drop i = s.data.toList[i] :: s.data.toList.drop (i + 1) := List.drop_eq_getElem_cons hlt'
    have hbt : bt s (i : Int) = ((s.data.toList[i]).toNat : Int) := by
      unfold bt
      rw [dif_pos (by simpa using hlt)]
      rfl
    generalize s.data.toList[i] = c at hdr hbt
    have hix : strings_IndexByte.f (⟨#[97, 98, 99, 100, 101, 102, 103, 104, 105, 106, 107, 108, 109, 110, 111, 112, 113, 114, 115, 116, 117, 118, 119, 120, 121, 122, 50, 51, 52, 53, 54, 55]⟩ : ByteArray) ((c.toNat : Int)) = some (idx c) := by
      unfold strings_IndexByte.f
      rw [show ((c.toNat : Int)).toNat.toUInt8 = c by simp]
      rfl
    have c1 : (i : Int) < (s.size : Int) := by omega
    have c2 : (0 : Int) ≤ (i : Int) := by omega
    rw [digest_Unbase32.l0, if_pos c1, if_pos c2, if_pos c1, hbt, hix, Option.bind_some, hdr, vals]
    have hrg := idx_range c
    by_cases hneg : idx c < 0
    · rw [if_pos hneg, if_pos hneg]
      rfl
    · rw [if_neg hneg, if_neg hneg]
      obtain ⟨v, hv⟩ : ∃ v : Nat, idx c = (v : Int) := ⟨(idx c).toNat, by omega⟩
      have hv32 : v < 32 := by omega
      rw [hv]
      have hfd := Aside0.mk (feed5 V v hv32)
      have hw : Aside0 (wrap64 ((r : Int) + 5) = ((r + 5 : Nat) : Int)) := ⟨by rw [show ((r : Int) + 5) = ((r + 5 : Nat) : Int) by omega]; exact w64_of _ (by omega)⟩
      have hw1 : Aside0 (wrap64 ((i : Int) + 1) = ((i + 1 : Nat) : Int)) := ⟨w64_suc i (by omega)⟩
      have hval : ∀ o, unbR s (32 * V + v) o = unbR s V (o.map fun vs => ((v : Int)).toNat :: vs) := by
        intro o
        cases o with
        | none => rfl
        | some vs => simp [unbR, val32]
      rw [hfd.out, hw.out, hw1.out, ← hval]
      by_cases h8' : 8 ≤ r + 5
      · have hw2 : Aside0 (wrap64 (((r + 5 : Nat) : Int) - 8) = ((r + 5 - 8 : Nat) : Int)) := ⟨by rw [show (((r + 5 : Nat) : Int) - 8) = ((r + 5 - 8 : Nat) : Int) by omega]; exact w64_of _ (by omega)⟩
        have c3 : ((r + 5 : Nat) : Int) ≥ 8 := by omega
        have c4 : (0 : Int) ≤ ((r + 5 - 8 : Nat) : Int) := by omega
        have c5 : out.length < 140737488355328 := by omega
        have hsh : Aside0 (shr .u32 (((32 * V + v) % 4294967296 : Nat) : Int) ((r + 5 - 8 : Nat) : Int) % 256 = by8 ((32 * V + v) / 2 ^ (r + 5 - 8) % 256)) := ⟨by
          rw [shr_nat _ _ (by omega)]
          have hwd := window (32 * V + v) (r + 5 - 8) 8 (by omega)
          rw [show (2 : Nat) ^ 8 = 256 from rfl] at hwd
          rw [by8, ← hwd]
          exact (Int.natCast_emod _ _).symm⟩
        rw [if_pos c3, hw2.out, if_pos c4, if_pos c5, hsh.out]
        refine unb_l0 s hs j (i + 1) (r + 5 - 8) (32 * V + v) _ k (by omega) (by omega) (by omega) (by rw [List.length_append]; simp; omega) ?_ (by omega)
        rw [List.length_append]
        show _ = gd 256 by8 (out.length + 1) _
        rw [gd_add, Nat.pow_one]
        have e1 : (32 * V + v) / 2 ^ (r + 5 - 8) / 256 = V / 2 ^ r := by
          rw [show (256 : Nat) = 2 ^ 8 from rfl, Nat.div_div_eq_div_mul, ← Nat.pow_add, show r + 5 - 8 + 8 = 5 + r by omega, Nat.pow_add, ← Nat.div_div_eq_div_mul, show (32 * V + v) / 2 ^ 5 = V by omega]
        rw [e1, ← hout]
        simp only [gd, Nat.pow_zero, Nat.div_one]
      · have c3 : ¬ ((r + 5 : Nat) : Int) ≥ 8 := by omega
        rw [if_neg c3]
        refine unb_l0 s hs j (i + 1) (r + 5) (32 * V + v) _ k (by omega) (by omega) (by omega) (by omega) ?_ (by omega)
        have e1 : (32 * V + v) / 2 ^ (r + 5) = V / 2 ^ r := by
          rw [Nat.add_comm r 5, Nat.pow_add, ← Nat.div_div_eq_div_mul, show (32 * V + v) / 2 ^ 5 = V by omega]
        rw [e1]
        exact hout
theorem unb_ev (s : ByteArray) (hs : s.size ≤ 1000000000) (k : Nat) (hk : 6 * s.size + 10 ≤ k) : digest_Unbase32.f k s = unbR s 0 (vals s.data.toList) := by
  have hw : wrap64 (wrap64 (wrap64 ((s.size : Int) / 8) * 5) + 5) = ((s.size / 8 * 5 + 5 : Nat) : Int) := by
    rw [show (s.size : Int) / 8 = ((s.size / 8 : Nat) : Int) by omega, w64_of _ (by omega), show ((s.size / 8 : Nat) : Int) * 5 = ((s.size / 8 * 5 : Nat) : Int) by omega, w64_of _ (by omega), show ((s.size / 8 * 5 : Nat) : Int) + 5 = ((s.size / 8 * 5 + 5 : Nat) : Int) by omega, w64_of _ (by omega)]
  unfold digest_Unbase32.f
  rw [hw, if_pos (by omega), if_pos (by omega)]
  exact unb_l0 s hs s.size 0 0 0 [] k (by omega) (by omega) (by omega) (by simp) (by simp [gd]) (by omega)
/-- It always answers; what it accepts was written so. -/
theorem unbR_total (s : ByteArray) (V : Nat) (o : Option (List Nat)) : ∃ r ok, unbR s V o = some (r, ok) ∧ r.size ≤ s.size ∧ (ok = true → (b32 r.data.toList).toList = s.toList) := by
  cases o with
  | none => exact ⟨_, _, rfl, by show 0 ≤ _; omega, by simp⟩
  | some vs =>
    rw [unbR, finU]
    split
    · rename_i h
      exact ⟨_, _, rfl, by rw [strOfNums_size, gd_len]; omega, fun _ => h⟩
    · exact ⟨_, _, rfl, by show 0 ≤ _; omega, by simp⟩

/-! ### what was written is read again -/
def gn (B : Nat) : Nat → Nat → List Nat
  | 0, _ => []
  | q + 1, x => (x / B ^ q % B) :: gn B q x
theorem idx_digit : ∀ d, d < 32 → idx (UInt8.ofNat (dg d).toNat) = (d : Int) := by decide
theorem vals_digits (q x : Nat) : vals ((gd 32 dg q x).map fun n => UInt8.ofNat n.toNat) = some (gn 32 q x) := by
  induction q with
  | zero => rfl
  | succ q ih =>
    have hlt : x / 32 ^ q % 32 < 32 := Nat.mod_lt _ (by decide)
    rw [gd, List.map_cons, vals, idx_digit _ hlt, if_neg (by omega), ih, gn, Option.map_some, Int.toNat_natCast]
theorem val32_digits (q : Nat) : ∀ (V x : Nat), val32 V (gn 32 q x) = V * 32 ^ q + x % 32 ^ q := by
  induction q with
  | zero => intro V x; simp [val32, gn, Nat.mod_one]
  | succ q ih =>
    intro V x
    have h1 := ih (32 * V + x / 32 ^ q % 32) x
    rw [gn]
    show val32 (32 * V + x / 32 ^ q % 32) (gn 32 q x) = _
    rw [h1, Nat.pow_succ, Nat.mod_mul, Nat.add_mul, Nat.mul_comm 32 V, Nat.mul_assoc V, Nat.mul_comm 32 (32 ^ q), Nat.mul_comm (x / 32 ^ q % 32)]
    omega
theorem snoc_ind {P : List UInt8 → Prop} (h0 : P []) (h1 : ∀ l c, P l → P (l ++ [c])) (l : List UInt8) : P l := by
  have h : ∀ l : List UInt8, P l.reverse := by
    intro l
    induction l with
    | nil => exact h0
    | cons c l ih => rw [List.reverse_cons]; exact h1 _ _ ih
  simpa using h l.reverse
theorem valN_lt (l : List UInt8) : valN l < 2 ^ (8 * l.length) := by
  refine snoc_ind (P := fun l => valN l < 2 ^ (8 * l.length)) ?_ ?_ l
  · simp [valN]
  · intro l c ih
    have hc := c.toNat_lt
    rw [valN_snoc, List.length_append, show 8 * (l.length + [c].length) = 8 * l.length + 8 by simp; omega, Nat.pow_add]
    omega
theorem gd_bytes (l : List UInt8) : gd 256 by8 l.length (valN l) = l.map fun c => (c.toNat : Int) := by
  refine snoc_ind (P := fun l => gd 256 by8 l.length (valN l) = l.map fun c => (c.toNat : Int)) ?_ ?_ l
  · rfl
  · intro l c ih
    have hc := c.toNat_lt
    rw [valN_snoc, List.length_append, List.length_singleton, gd_add, Nat.pow_one, show (256 * valN l + c.toNat) / 256 = valN l by omega, ih, List.map_append]
    congr 1
    simp only [gd, Nat.pow_zero, Nat.div_one, List.map_cons, List.map_nil, by8]
    rw [show (256 * valN l + c.toNat) % 256 = c.toNat by omega]
theorem strOf_map (l : List UInt8) : strOfNums (l.map fun c => (c.toNat : Int)) = ⟨l.toArray⟩ := by
  rw [strOfNums, List.map_map]
  have h : ((fun n : Int => UInt8.ofNat n.toNat) ∘ fun c : UInt8 => (c.toNat : Int)) = id := by funext c; simp
  rw [h, List.map_id]
theorem unb_b32 (l : List UInt8) : unbR (b32 l) 0 (vals (b32 l).data.toList) = some (⟨l.toArray⟩, true) := by
  have hsz : (b32 l).size = (8 * l.length + 4) / 5 := by rw [b32, strOfNums_size, gd_len]
  have hdat : (b32 l).data.toList = (gd 32 dg ((8 * l.length + 4) / 5) (valN l * 2 ^ (5 * ((8 * l.length + 4) / 5) - 8 * l.length))).map fun n => UInt8.ofNat n.toNat := by
    rw [b32, strOfNums]
  obtain ⟨Q, hQ⟩ : ∃ Q, Q = (8 * l.length + 4) / 5 := ⟨_, rfl⟩
  have hM : valN l * 2 ^ (5 * Q - 8 * l.length) < 32 ^ Q := by
    have h1 := valN_lt l
    have h2 : (32 : Nat) ^ Q = 2 ^ (8 * l.length) * 2 ^ (5 * Q - 8 * l.length) := by
      rw [← Nat.pow_add, show 8 * l.length + (5 * Q - 8 * l.length) = 5 * Q by omega, Nat.pow_mul]
    rw [h2]
    exact Nat.mul_lt_mul_of_pos_right h1 (Nat.two_pow_pos _)
  rw [hdat, vals_digits, unbR, hsz, ← hQ, val32_digits, Nat.zero_mul, Nat.zero_add, Nat.mod_eq_of_lt hM]
  have hm : 5 * Q / 8 = l.length := by omega
  rw [hm, Nat.mul_div_cancel _ (Nat.two_pow_pos _), gd_bytes, finU, strOf_map, if_pos rfl]
end Go.Proofs.YtadnefnofbnheaaDoor.Pr
