/- Part 3 of the proof: HG. -/
import Derived.Test.YtadnefnofbnheaaDoorProg
import Derived.Below
import Derived.KernelRfl
import Derived.Lib.LaidTab
import Derived.Lib.SmallJoins
import Derived.Lib.ItoaMem
/- What the package-level tables hold, as the walks of this claim need it; it stays true while only new memory is written. -/
namespace Go.Proofs.YtadnefnofbnheaaDoor.Pr
open Go.RowKit

/-- The words that are added in the steps of the digest. -/
def shaTab : List Int := [1116352408, 1899447441, 3049323471, 3921009573, 961987163, 1508970993, 2453635748, 2870763221, 3624381080, 310598401, 607225278, 1426881987, 1925078388, 2162078206, 2614888103, 3248222580, 3835390401, 4022224774, 264347078, 604807628, 770255983, 1249150122, 1555081692, 1996064986, 2554220882, 2821834349, 2952996808, 3210313671, 3336571891, 3584528711, 113926993, 338241895, 666307205, 773529912, 1294757372, 1396182291, 1695183700, 1986661051, 2177026350, 2456956037, 2730485921, 2820302411, 3259730800, 3345764771, 3516065817, 3600352804, 4094571909, 275423344, 430227734, 506948616, 659060556, 883997877, 958139571, 1322822218, 1537002063, 1747873779, 1955562222, 2024104815, 2227730452, 2361852424, 2428436474, 2756734187, 3204031479, 3329325298]

/-- The words of the kinds of local parts. -/
def kindWords : List (List UInt8) := [[], [98, 111, 117, 110, 99, 101, 115], [118, 111, 116, 101], [99, 111, 110, 102, 105, 114, 109]]

/-- n = 0: the decimal table and the search's variable; 1: the digest's constants too; 2: the words of the kinds too. -/
structure GOk (n : Nat) (w : World) : Prop where
  pow10 : Lib.TabIs Tryd.prog w "internal/strconv.uint64pow10" .u64 Lib.pow10Tab
  maxl : ∃ m, w.cell? ⟨1, 0, none⟩ = some (.int .i64 m)
  dig : 1 ≤ n → Lib.TabIs Tryd.prog w "missive/digest.constants" .u32 shaTab
  wds : 2 ≤ n → ∀ i, i < 4 → w.cell? ⟨0, i, none⟩ = some (.string ⟨(kindWords.getD i []).toArray⟩)

theorem g_pow10 : Tryd.prog.globalNamed "internal/strconv.uint64pow10" = some 3 := by kernel_rfl
theorem g_dig : Tryd.prog.globalNamed "missive/digest.constants" = some 2 := by kernel_rfl

theorem GOk.below {n m : Nat} {w w' : World} (h : GOk n w) (hm : m ≤ n) (hb : Below w.heap.size w w') : GOk m w' where
  pow10 := Joins.tab_stays g_pow10 h.pow10 hb (Nat.le_refl _)
  maxl := by
    obtain ⟨x, hx⟩ := h.maxl
    exact ⟨x, (hb.cell (World.block_lt_of_cell? w _ hx)).trans hx⟩
  dig := fun h1 => Joins.tab_stays g_dig (h.dig (Nat.le_trans h1 hm)) hb (Nat.le_refl _)
  wds := fun h2 i hi => by
    have hx := h.wds (Nat.le_trans h2 hm) i hi
    exact (hb.cell (World.block_lt_of_cell? w _ hx)).trans hx

theorem GOk.mono {n m : Nat} {w : World} (h : GOk n w) (hm : m ≤ n) : GOk m w := h.below hm (Below.refl _ _)

end Go.Proofs.YtadnefnofbnheaaDoor.Pr
