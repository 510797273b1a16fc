/- Part 4 of the proof: HLaid, HLaid2. -/
import Derived.Test.YtadnefnofbnheaaDoorCards
import Derived.Test.YtadnefnofbnheaaDoorTie
import Derived.Test.YtadnefnofbnheaaDoorVO3
import Derived.WalkKit
import Derived.ProofKit
import Derived.OpenShut
import Derived.SizedLaws
import Derived.Shelf.Vars
import Derived.Deep.DeepHandedRow
import Derived.LaidMore
import Derived.LaidOnce
import Derived.Lib.LaidTab
import Derived.SliceStrings
import Derived.WideKeyArgs
import Derived.Test.YtadnefnofbnheaaDoorWWords
/- What a row's condition on the package-level variables gives: the worlds that the walks ask for. -/
namespace Go.Proofs.YtadnefnofbnheaaDoor.Pr
open Go.ChangeShapes Go.WideShapes Go.ChangeAt Go.RowKit

theorem laid_tab {laid : List (String × DataW Unit)} {W : World} {name : String} {k : IntKind} {zs : List Int} {g : Nat} {t e : TypeId} {n : Nat}
    (hg : Tryd.prog.globalNamed name = some g) (hty : (Tryd.prog.globals[g]?).map (·.type) = some t) (ht : Tryd.prog.underlying t = some (.array n e)) (he : Tryd.prog.underlying e = some (.int k)) (hce : Tryd.prog.cellsOf e = 1) (hct : Tryd.prog.cellsOf t = n)
    (h : laidMetH Tryd.prog laid W) (hf : (laid.filter fun x => x.1 == name) = [(name, Lib.tabData k zs)]) : Lib.TabIs Tryd.prog W name k zs := by
  have h1 := h.filter fun x => x.1 == name
  rw [hf] at h1
  have h2 : laidMet Tryd.prog [(name, Lib.tabData k zs)] W := h1
  exact Lib.tabIs_of_head (rest := []) hg hty ht he hce hct h2

theorem maxl_of {W : World} (h : W.ShapedOpen Tryd.prog) : ∃ m, W.cell? ⟨1, 0, none⟩ = some (.int .i64 m) :=
  cell_of_shapedOpen_int (zero := #[.int .i64 0]) (t := 3) h (of_decide_eq_true (by kernel_rfl)) (by kernel_rfl) rfl (by kernel_rfl) (by kernel_rfl) Tryd.underlying3

theorem pow10_of {laid : List (String × DataW Unit)} {W : World} (h : laidMetH Tryd.prog laid W)
    (hf : (laid.filter fun x => x.1 == "internal/strconv.uint64pow10") = [("internal/strconv.uint64pow10", Lib.tabData .u64 Lib.pow10Tab)]) : Lib.TabIs Tryd.prog W "internal/strconv.uint64pow10" .u64 Lib.pow10Tab :=
  laid_tab g_pow10 (t := 177) (e := 79) (n := 20) (by kernel_rfl) Tryd.underlying177 Tryd.underlying79 (by kernel_rfl) (by kernel_rfl) h hf

theorem g0_of {laid : List (String × DataW Unit)} {W : World} (h : laidMetH Tryd.prog laid W) (hs : W.ShapedOpen Tryd.prog)
    (hf : (laid.filter fun x => x.1 == "internal/strconv.uint64pow10") = [("internal/strconv.uint64pow10", Lib.tabData .u64 Lib.pow10Tab)]) : GOk 0 W :=
  ⟨pow10_of h hf, maxl_of hs, fun h => by omega, fun h => by omega⟩

theorem lit_i64 {n : Int} (h : (Lit.int .i64 n).wf = true) : -9223372036854775808 ≤ n ∧ n ≤ 9223372036854775807 := by
  simp only [Lit.wf, Bool.and_eq_true, decide_eq_true_eq] at h
  have := h.1; have := h.2
  simp [IntKind.signed, IntKind.bits, IntKind.min, IntKind.max] at *
  omega
theorem lit_u8 {n : Int} (h : (Lit.int .u8 n).wf = true) : 0 ≤ n ∧ n ≤ 255 := by
  simp only [Lit.wf, Bool.and_eq_true, decide_eq_true_eq] at h
  have := h.1; have := h.2
  simp [IntKind.signed, IntKind.bits, IntKind.min, IntKind.max] at *
  omega

/-- What a call leaves that writes to new memory alone, where the results reach no memory. -/
theorem post_of_below {H : Type} {enc : TypeId × Value → H} {P : Program} {f : Func} {s : ChangeSpec} {apart fresh handsOn again : Bool} {W W' : World} {args : Array Value} {v : Value} {ds gs : List (DataW H)} {before pa pv : List MemPlace}
    (hb : Below W.heap.size W W')
    (hW : DataW.Whole enc P f.params.toList s.vars apart W args.toList ds gs before)
    (hres : ∀ (b : Nat) (sp : Nat → Bool) (hd : Bool), DataW.TrodAll enc P W' b sp hd f.resultTypes.toList (v.resultList f.resultTypes.size) (s.fn H (ds ++ gs)).results [])
    (hargs : ∀ sp : Nat → Bool, (∀ p ∈ before, sp p.block = true) → DataW.TrodAll enc P W' 0 sp true f.params.toList args.toList (s.fn H (ds ++ gs)).args pa)
    (hvars : ∀ sp : Nat → Bool, (∀ p ∈ before, sp p.block = true) → DataW.TrodVars enc P W' sp s.vars (s.fn H (ds ++ gs)).vars pv)
    (hps : before = pa ++ pv)
    (hok : ∀ (j : Nat) (t : TypeId) (r : Value), f.resultTypes[j]? = some t → (v.resultList f.resultTypes.size)[j]? = some r → Value.okWide P W' .any 0 t r) :
    s.post enc P f apart fresh handsOn again W args v W' := by
  have hold : ∀ p ∈ before, (fun b => decide (b < W.heap.size)) p.block = true := fun p hp => by simpa using hW.lt p hp
  have hlt := hW.lt
  refine ⟨ds, gs, before, [], pa, pv, hW, hres _ _ _, hargs _ hold, hvars _ hold, hb.frame _, fun _ => ?_⟩
  obtain ⟨_, _, _, _, _, hz, hn⟩ := hW
  refine ⟨hok, _, _, ([] ++ pa) ++ pv, ⟨[] ++ pa, pv, trodAll_append (hargs _ (fun _ _ => rfl)) (hres _ _ _), hvars _ (fun _ _ => rfl), rfl, ?_, ?_⟩, ?_⟩
  · intro b off hp
    have hp' : MemPlace.cell b off ∈ before := by rw [hps]; simpa using hp
    rw [hb.frozen (p := ⟨b, off, none⟩) (hlt _ hp')]
    exact hz b off hp'
  · intro ha
    have := hn ha
    rw [hps] at this
    simpa using this
  · intro p hp _
    rw [hps]
    simpa using hp

theorem laidOut_ : laidOutB Tryd.prog = true := by kernel_rfl

/-- The arguments read as they did, where only new memory has been written. -/
theorem trodAll_stay {H : Type} {enc : TypeId × Value → H} {W W' : World} (hb : Below W.heap.size W W') : ∀ {ts : List TypeId} {vs : List Value} {ds : List (DataW H)} {ps : List MemPlace}, (∀ t ∈ ts, Tryd.prog.readableRec t = true ∧ t < Tryd.prog.types.size) →
    DataW.TrodAll enc Tryd.prog W 0 (fun _ => true) true ts vs ds ps → (∀ x ∈ ps, x.block < W.heap.size) → ∀ sp : Nat → Bool, (∀ x ∈ ps, sp x.block = true) → DataW.TrodAll enc Tryd.prog W' 0 sp true ts vs ds ps
  | [], [], [], _, _, h, _, _, _ => h
  | _ :: _, _ :: _, _ :: _, _, hT, ⟨p, q, h1, h2, e⟩, hlt, sp, hs =>
    ⟨p, q, WideElems.Trod_stays laidOut_ (hT _ (List.mem_cons.2 (Or.inl rfl))).1 (hT _ (List.mem_cons.2 (Or.inl rfl))).2 h1 (fun x hx => hb.same (hlt x (by rw [e]; exact List.mem_append_left _ hx))) (fun x hx => hs x (by rw [e]; exact List.mem_append_left _ hx)),
      trodAll_stay hb (fun t ht => hT t (List.mem_cons.2 (Or.inr ht))) h2 (fun x hx => hlt x (by rw [e]; exact List.mem_append_right _ hx)) sp (fun x hx => hs x (by rw [e]; exact List.mem_append_right _ hx)), e⟩

set_option maxRecDepth 100000 in
open Go.Proofs.YtadnefnofbnheaaDoorW.PrintWords in
/-- A slice of strings among the arguments. -/
theorem open_strs {H : Type} {enc : TypeId × Value → H} {W : World} {b : Nat} {t : TypeId} (ht : Tryd.prog.underlying t = some (.slice 9)) {v : Value} {d : DataW H} {ps : List MemPlace} (hval : Value.okWide Tryd.prog W .any b t v)
    (h : DataW.Trod enc Tryd.prog W 0 (fun _ => true) true t v d ps) : ∃ (A : Option Addr) (c : Nat) (l : List ByteArray), v = .slice A l.length c ∧ l.length ≤ c ∧ Kd.C Kd.string W A l.length l ∧ ((d = .nil ∧ l = []) ∨ ∃ rest, d = .slice (strs l) rest) := by
  obtain ⟨a0, len, cap, rfl⟩ := okWide_slice ht hval
  obtain ⟨fuel, hf⟩ := h
  have hc9 : Tryd.prog.cellsOf 9 = 1 := by kernel_rfl
  rcases open_strings ht Tryd.underlying9 hc9 hf with ⟨hcs, hx⟩ | ⟨a, len', cap', ss, hcs, _, hl, hm, hz, hx, hcell, hsz⟩
  · simp [Value.cells] at hcs
    obtain ⟨rfl, rfl, rfl⟩ := hcs
    simp only [Prod.mk.injEq] at hx
    exact ⟨none, 0, [], rfl, Nat.le_refl _, ⟨rfl, by simp, fun h => absurd h (by simp)⟩, .inl ⟨hx.1, rfl⟩⟩
  · simp [Value.cells] at hcs
    obtain ⟨rfl, rfl, rfl⟩ := hcs
    simp only [Prod.mk.injEq] at hx
    rw [if_pos rfl] at hz
    have hlen : (ss.take len).length = len := by rw [List.length_take]; omega
    refine ⟨some a, cap, ss.take len, by rw [hlen], by omega, ?_, .inr ⟨_, hx.1⟩⟩
    refine Kd.C_of_reads (d := ByteArray.empty) ⟨rfl, by unfold maxLen at hm; omega, fun _ => ⟨a, rfl, fun j hj => ?_⟩⟩
    rw [hlen] at hj
    rw [hcell j (by omega)]
    simp [List.getElem?_take_of_lt hj]

theorem bulk_strs {H : Type} (l : List ByteArray) : (l.map fun s => s.size + 1).sum = Rows.uptoBulkAll (strs l : List (DataW H)) := by
  induction l with
  | nil => rfl
  | cons s l ih =>
    simp only [List.map_cons, List.sum_cons, ih]
    show s.size + 1 + _ = s.data.toList.length + 1 + _
    rw [Array.length_toList]
    rfl

end Go.Proofs.YtadnefnofbnheaaDoor.Pr

/- What a row's condition gives where the digest's constants and the words of the kinds are read too. -/
namespace Go.Proofs.YtadnefnofbnheaaDoor.Pr
open Go.ChangeShapes Go.WideShapes Go.ChangeAt Go.RowKit

theorem cells_of_words {H : Type} {enc : TypeId × Value → H} {P : Program} {w : World} {base : Nat} {sp : Nat → Bool} {held : Bool} {fuel : Nat} {t e : TypeId} {n : Nat} {cs : List Value} {zs : List (List UInt8)} {p : List MemPlace}
    (ht : P.underlying t = some (.array n e)) (he : P.underlying e = some .string) (hce : P.cellsOf e = 1) (hct : P.cellsOf t = n)
    (h : DataW.trod enc P w base sp held fuel t cs = some (.agg (zs.map fun z => .lit (.string z)), p)) : cs = zs.map fun z => Value.string ⟨z.toArray⟩ := by
  cases fuel with
  | zero => simp [DataW.trod] at h
  | succ fuel =>
    simp only [DataW.trod, ht, hce, hct, Nat.mul_one] at h
    split at h
    · rename_i hl
      obtain ⟨xs, hm, hx⟩ := Option.map_eq_some_iff.1 h
      have hxs : xs.map (·.1) = zs.map fun z => (DataW.lit (.string z) : DataW H) := by
        have := congrArg Prod.fst hx
        simpa using this
      have hxl : xs.length = n := by simpa using Lib.mapM_length hm
      have hzl : zs.length = n := by
        have := congrArg List.length hxs
        simp at this
        omega
      apply List.ext_getElem?
      intro i
      by_cases hi : i < n
      · obtain ⟨b, hb, hf⟩ := Lib.mapM_at hm i i (by simp [hi])
        obtain ⟨z, hc, rfl, _⟩ := DataW.trod_string he hf
        have h1 : cs[i]? = some (.string z) := by
          have := congrArg (·[0]?) hc
          simpa [List.getElem?_take, List.getElem?_drop] using this
        have h2 : (xs.map (·.1))[i]? = some (DataW.lit (.string z.data.toList) : DataW H) := by simp [hb]
        rw [hxs] at h2
        simp only [List.getElem?_map, Option.map_eq_some_iff, DataW.lit.injEq, Lit.string.injEq] at h2
        obtain ⟨z', hz', rfl⟩ := h2
        simp [h1, hz']
      · rw [List.getElem?_eq_none (by omega), List.getElem?_eq_none (by simp; omega)]
    · cases h

theorem g_wds : Tryd.prog.globalNamed "missive/verp.words" = some 0 := by kernel_rfl
theorem wds_of {laid : List (String × DataW Unit)} {W : World} (h : laidMetH Tryd.prog laid W)
    (hf : (laid.filter fun x => x.1 == "missive/verp.words") = [("missive/verp.words", .agg (kindWords.map fun z => .lit (.string z)))]) :
    ∀ i, i < 4 → W.cell? ⟨0, i, none⟩ = some (.string ⟨(kindWords.getD i []).toArray⟩) := by
  have h1 := h.filter fun x => x.1 == "missive/verp.words"
  rw [hf] at h1
  have h2 : laidMet Tryd.prog [("missive/verp.words", .agg (kindWords.map fun z => .lit (.string z)))] W := h1
  obtain ⟨ps, ⟨g', t', cs, fuel, p, q, hg', ht', hvar, hd, _, _⟩, _⟩ := h2
  obtain rfl := Option.some.inj (g_wds.symm.trans hg')
  have hty : (Tryd.prog.globals[0]?).map (·.type) = some 88 := by kernel_rfl
  obtain rfl := Option.some.inj (hty.symm.trans ht')
  have hc := cells_of_words Tryd.underlying88 Tryd.underlying9 (by kernel_rfl) (by kernel_rfl) hd
  intro i hi
  have h3 := World.var?_cell g_wds hvar i
  rw [h3]
  have h4 : cs.toList = kindWords.map fun z => Value.string ⟨z.toArray⟩ := hc
  have hk : i < kindWords.length := hi
  rw [← Array.getElem?_toList, h4]
  simp [hk]
theorem g2_of {laid : List (String × DataW Unit)} {W : World} (h : laidMetH Tryd.prog laid W) (hs : W.ShapedOpen Tryd.prog)
    (hf : (laid.filter fun x => x.1 == "internal/strconv.uint64pow10") = [("internal/strconv.uint64pow10", Lib.tabData .u64 Lib.pow10Tab)])
    (hf1 : (laid.filter fun x => x.1 == "missive/digest.constants") = [("missive/digest.constants", Lib.tabData .u32 shaTab)])
    (hf2 : (laid.filter fun x => x.1 == "missive/verp.words") = [("missive/verp.words", .agg (kindWords.map fun z => .lit (.string z)))]) : GOk 2 W :=
  ⟨pow10_of h hf, maxl_of hs, fun _ => laid_tab g_dig (t := 167) (e := 148) (n := 64) (by kernel_rfl) Tryd.underlying167 Tryd.underlying148 (by kernel_rfl) (by kernel_rfl) h hf1, fun _ => wds_of h hf2⟩
end Go.Proofs.YtadnefnofbnheaaDoor.Pr
