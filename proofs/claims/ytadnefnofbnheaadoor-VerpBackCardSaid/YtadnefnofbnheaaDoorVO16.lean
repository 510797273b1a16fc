/- Part 16 of the proof: HPVerp, HPVerp2, HPVerp3, HVerpLaw. -/
import Derived.Test.YtadnefnofbnheaaDoorVO9
import Derived.Test.YtadnefnofbnheaaDoorVO13
import Derived.Test.YtadnefnofbnheaaDoorVO15
/- Addresses that say what they are for, as plain functions: verp.read, verp.compose, verp.Parse. -/
namespace Go.Proofs.YtadnefnofbnheaaDoor.Pr
open Go.RowKit Go.Proofs.YtadnefnofbnheaaDoorW.PrintWords Go.Proofs.YtadnefnofbnheaaDoorW.PrintLast Go.Proofs.YtadnefnofbnheaaDoorW.PrintMore

def numOf (l : List UInt8) (b : Bool) : Int × ByteArray × Bool := match numR maxI 59 l with | some (n, r) => ((n : Int), ⟨r.toArray⟩, b) | none => (0, ⟨#[]⟩, true)
def textOf (l : List UInt8) (b : Bool) : ByteArray × ByteArray × Bool := match textR l with | some (t, r) => (⟨t.toArray⟩, ⟨r.toArray⟩, b) | none => (⟨#[]⟩, ⟨#[]⟩, true)
def doneOf (s : ByteArray) (b : Bool) : Bool := if b = true then false else (s.toList == ([] : List UInt8))
theorem done_eq (s : ByteArray) (b : Bool) : (wire_Reader_Done.f s b).map (·.1) = some (doneOf s b) := by
  unfold wire_Reader_Done.f doneOf
  split <;> rfl
def readJ1 (kind n : Int) (u s : ByteArray) (b : Bool) : Int × ByteArray × Bool :=
  if kind = 1 then (n, u, doneOf s b) else ((n, (textOf s.data.toList b).1, doneOf (textOf s.data.toList b).2.1 (textOf s.data.toList b).2.2))
def readB (kind : Int) (s : ByteArray) : Int × ByteArray × Bool :=
  if s.size < 5 then (0, ⟨#[]⟩, false)
  else if kind = 3 then readJ1 kind 0 ⟨#[]⟩ (s.extract 0 (s.size - 5)) false
  else readJ1 kind (numOf (s.extract 0 (s.size - 5)).data.toList false).1 ⟨#[]⟩ (numOf (s.extract 0 (s.size - 5)).data.toList false).2.1 (numOf (s.extract 0 (s.size - 5)).data.toList false).2.2
def readR (kind : Int) (s : ByteArray) : Int × ByteArray × Bool :=
  match unbR s 0 (vals s.data.toList) with
  | some (b, true) => readB kind b
  | _ => (0, ⟨#[]⟩, false)

theorem hd_len (c : UInt8) (l r : List UInt8) (h : hd c l = some r) : r.length ≤ l.length := by
  rw [hd_iff] at h
  rw [h]
  simp
theorem numOf_facts (l : List UInt8) (b : Bool) : 0 ≤ (numOf l b).1 ∧ (numOf l b).1 ≤ 9223372036854775807 ∧ (numOf l b).2.1.size ≤ l.length := by
  unfold numOf
  split
  · rename_i n r h
    rw [numR_iff maxI (by unfold maxI; omega) 59 (by decide)] at h
    obtain ⟨h1, h2⟩ := h
    unfold maxI at h2
    refine ⟨by simp, by simp; omega, ?_⟩
    rw [sz_mk, h1]
    simp
    omega
  · exact ⟨by simp, by simp, by show 0 ≤ _; omega⟩
theorem textOf_facts (l : List UInt8) (b : Bool) : (textOf l b).1.size ≤ l.length := by
  unfold textOf
  split
  · rename_i t r h
    rw [textR_iff] at h
    rw [sz_mk, h.1]
    simp [encTextL]
    omega
  · show 0 ≤ _; omega

theorem readJ1_ev (kind n : Int) (u s : ByteArray) (b : Bool) (hs : s.size ≤ 1000000) : Ev (fun k => verp_read.j1 k kind n u s b) (readJ1 kind n u s b) := by
  refine Ev.step (f := fun k => if kind = 1 then ((wire_Reader_Done.f s b).bind fun bt654 => (some (n, u, bt654.1))) else ((wire_Reader_Text.f k s b).bind fun bt657 => ((wire_Reader_Done.f bt657.2.1 bt657.2.2).bind fun bt660 => (some (n, bt657.1, bt660.1))))) (fun k => by rw [verp_read.j1]) ?_
  have hdone : ∀ (s : ByteArray) (b : Bool) (x : ByteArray), ((wire_Reader_Done.f s b).bind fun bt654 => (some (n, x, bt654.1))) = some (n, x, doneOf s b) := by
    intro s b x
    unfold wire_Reader_Done.f doneOf
    split <;> rfl
  unfold readJ1
  by_cases h1 : kind = 1
  · simp only [if_pos h1, hdone]
    exact Ev.now _
  · simp only [if_neg h1, hdone]
    refine Ev.bind (a := textOf s.data.toList b) ?_ (Ev.now _)
    exact text_ev s b (by omega)
theorem read_ev (kind : Int) (s : ByteArray) (hs : s.size ≤ 1000000) : Ev (fun k => verp_read.f k kind s) (readR kind s) := by
  obtain ⟨b, ok, hb, hbs, _⟩ := unbR_total s 0 (vals s.data.toList)
  have hub : Ev (fun k => digest_Unbase32.f k s) (b, ok) := ⟨6 * s.size + 10, fun k hk => by show digest_Unbase32.f k s = _; rw [unb_ev s (by omega) k hk]; exact hb⟩
  unfold verp_read.f readR
  rw [hb]
  refine Ev.bind (a := (b, ok)) hub ?_
  cases ok with
  | false =>
    simp only [if_neg (show ¬ (false = true) by decide)]
    exact Ev.step (f := fun _ => some (0, (⟨#[]⟩ : ByteArray), false)) (fun k => by rw [verp_read.j0, if_pos rfl]) (Ev.now _)
  | true =>
    simp only [if_true]
    unfold readB
    by_cases h5 : b.size < 5
    · have hd : decide ((b.size : Int) < 5) = true := by simp; omega
      rw [if_pos h5]
      exact Ev.step (f := fun _ => some (0, (⟨#[]⟩ : ByteArray), false)) (fun k => by rw [verp_read.j0, hd, if_pos rfl]) (Ev.now _)
    · have hd : decide ((b.size : Int) < 5) = false := by simp; omega
      have hw : wrap64 ((b.size : Int) - 5) = ((b.size - 5 : Nat) : Int) := by
        rw [show ((b.size : Int) - 5) = ((b.size - 5 : Nat) : Int) by omega]
        exact w64_of _ (by omega)
      have c1 : (0 : Int) ≤ ((b.size - 5 : Nat) : Int) := by omega
      have c2 : ((b.size - 5 : Nat) : Int) ≤ (b.size : Int) := by omega
      have hxs : (b.extract 0 (b.size - 5)).size ≤ 1000000 := by rw [ByteArray.size_extract]; omega
      rw [if_neg h5]
      refine Ev.step (f := fun k => if kind = 3 then verp_read.j1 k kind 0 ⟨#[]⟩ (b.extract 0 (b.size - 5)) false else ((wire_Reader_Num.f k (b.extract 0 (b.size - 5)) false).bind fun t => verp_read.j1 k kind t.1 ⟨#[]⟩ t.2.1 t.2.2)) (fun k => by
        rw [verp_read.j0, hd, if_neg (by decide), hw, if_pos c1, if_pos c2, wire_Open.f, Option.bind_some, Int.toNat_natCast]) ?_
      by_cases h3 : kind = 3
      · simp only [if_pos h3]
        exact readJ1_ev _ _ _ _ _ hxs
      · simp only [if_neg h3]
        have hf := numOf_facts (b.extract 0 (b.size - 5)).data.toList false
        rw [ba_len] at hf
        refine Ev.bind (a := numOf (b.extract 0 (b.size - 5)).data.toList false) (num_ev _ _ (by omega)) ?_
        exact readJ1_ev _ _ _ _ _ (by omega)
theorem read_facts (kind : Int) (s : ByteArray) : 0 ≤ (readR kind s).1 ∧ (readR kind s).1 ≤ 9223372036854775807 ∧ (readR kind s).2.1.size ≤ s.size ∧ (kind = 1 → (readR kind s).2.1 = ⟨#[]⟩) ∧ (kind = 3 → (readR kind s).1 = 0) := by
  obtain ⟨b, ok, hb, hbs, _⟩ := unbR_total s 0 (vals s.data.toList)
  unfold readR
  rw [hb]
  have hz : (⟨#[]⟩ : ByteArray).size = 0 := rfl
  cases ok with
  | false => exact ⟨by simp, by simp, by show 0 ≤ _; omega, fun _ => rfl, fun _ => rfl⟩
  | true =>
    show _ ∧ _
    simp only
    unfold readB
    have hx : (b.extract 0 (b.size - 5)).size ≤ b.size := by rw [ByteArray.size_extract]; omega
    split
    · exact ⟨by simp, by simp, by show 0 ≤ _; omega, fun _ => rfl, fun _ => rfl⟩
    · split
      · rename_i h3
        have ht := textOf_facts (b.extract 0 (b.size - 5)).data.toList false
        rw [ba_len] at ht
        unfold readJ1
        rw [if_neg (by omega)]
        exact ⟨by simp, by simp, by simp only; omega, by omega, fun _ => rfl⟩
      · rename_i h3
        have hf := numOf_facts (b.extract 0 (b.size - 5)).data.toList false
        rw [ba_len] at hf
        unfold readJ1
        split
        · exact ⟨hf.1, hf.2.1, by show 0 ≤ _; omega, fun _ => rfl, fun h => absurd h h3⟩
        · rename_i h1
          have ht := textOf_facts (numOf (b.extract 0 (b.size - 5)).data.toList false).2.1.data.toList (numOf (b.extract 0 (b.size - 5)).data.toList false).2.2
          rw [ba_len] at ht
          exact ⟨hf.1, hf.2.1, by simp only; omega, fun h => absurd h h1, fun h => absurd h h3⟩
end Go.Proofs.YtadnefnofbnheaaDoor.Pr

/- Addresses that say what they are for: what verp.compose and verp.Parse answer; that Parse gives back what was written. -/
namespace Go.Proofs.YtadnefnofbnheaaDoor.Pr
open Go.RowKit Go.Proofs.YtadnefnofbnheaaDoorW.PrintWords Go.Proofs.YtadnefnofbnheaaDoorW.PrintLast Go.Proofs.YtadnefnofbnheaaDoorW.PrintMore

def contL (kind n : Int) (u : ByteArray) : List UInt8 := if kind = 1 then encInt n else if kind = 2 then encInt n ++ encText u else encText u
def macL (secret : ByteArray) (kind n : Int) (u : ByteArray) : ByteArray := (macB secret (⟨(encText (kindW kind.toNat)).toArray⟩ ++ ⟨(contL kind n u).toArray⟩)).extract 0 5
def restB (secret : ByteArray) (kind n : Int) (u : ByteArray) : ByteArray := b32 (contL kind n u ++ (macL secret kind n u).data.toList)
def compB (secret : ByteArray) (kind n : Int) (u : ByteArray) : ByteArray := kindW kind.toNat ++ ⟨#[43]⟩ ++ restB secret kind n u
theorem macL_size (secret : ByteArray) (kind n : Int) (u : ByteArray) : (macL secret kind n u).size = 5 := by
  rw [macL, ByteArray.size_extract, macB_size]
  rfl
theorem b32_size (l : List UInt8) : (b32 l).size = (8 * l.length + 4) / 5 := by rw [b32, strOfNums_size, gd_len]
theorem encText_len (u : ByteArray) (hu : u.size ≤ 1000000) : (encText u).length ≤ u.size + 24 := by
  have hl := Lib.itoa_length_le u.size (by omega) (by omega)
  unfold encText
  simp
  omega
theorem contL_len (kind n : Int) (u : ByteArray) (h0 : 0 ≤ n) (h1 : n ≤ 9223372036854775807) (hu : u.size ≤ 1000000) : (contL kind n u).length ≤ u.size + 46 := by
  have ht := encText_len u hu
  have hn := encInt_len n (by omega) h1
  unfold contL
  split
  · omega
  · split
    · rw [List.length_append]; omega
    · omega

structure KOk (kind n : Int) (u : ByteArray) : Prop where
  k : kind = 1 ∨ kind = 2 ∨ kind = 3
  n0 : 0 ≤ n
  n1 : n ≤ 9223372036854775807
  us : u.size ≤ 100000

theorem cont_eq (kind n : Int) (u : ByteArray) (h : KOk kind n u) : verp_content.f kind n u = some ⟨(contL kind n u).toArray⟩ := by
  have hn : wire_Num.f n = some ⟨(encInt n).toArray⟩ := by
    unfold wire_Num.f
    rw [if_neg (by have := h.n0; omega), wire_Int_some n (by have := h.n0; omega) h.n1]
    rfl
  have ht : wire_Text.f u = some ⟨(encText u).toArray⟩ := wire_Text_some u (by have := h.us; omega)
  have l1 := encInt_len n (by have := h.n0; omega) h.n1
  have l2 := encText_len u (by have := h.us; omega)
  have hus := h.us
  unfold verp_content.f contL
  rcases h.k with rfl | rfl | rfl
  · rw [if_pos rfl, if_pos rfl, hn]
  · rw [if_neg (by decide), if_pos rfl, if_neg (by decide), if_pos rfl, hn, ht, Option.bind_some, Option.bind_some, sz_mk, sz_mk, if_pos (by omega), ba_append]
  · rw [if_neg (by decide), if_neg (by decide), if_pos rfl, if_neg (by decide), if_neg (by decide), ht]
theorem comp_ev (secret : ByteArray) (kind n : Int) (u : ByteArray) (hs : secret.size ≤ 1000000) (h : KOk kind n u) : ∀ k, 2000000 ≤ k → verp_compose.f k secret kind n u = some (compB secret kind n u) := by
  intro k hk
  have hkw := kindW_size kind.toNat
  have hus := h.us
  have hc := contL_len kind n u h.n0 h.n1 (by omega)
  have hw := encText_len (kindW kind.toNat) (by omega)
  have hm := macL_size secret kind n u
  have hlen : (contL kind n u ++ (macL secret kind n u).data.toList).length ≤ 200000 := by rw [List.length_append, ba_len]; omega
  have hb := b32_size (contL kind n u ++ (macL secret kind n u).data.toList)
  unfold verp_compose.f
  rw [cont_eq kind n u h, Option.bind_some, wire_Text_some _ (by omega), Option.bind_some, sz_mk, sz_mk, if_pos (by omega), digest_Mac.f, if_pos ⟨by omega, by rw [ByteArray.size_append, sz_mk, sz_mk]; omega⟩, Option.bind_some]
  have e1 : (⟨(contL kind n u).toArray⟩ : ByteArray) ++ (macB secret (⟨(encText (kindW kind.toNat)).toArray⟩ ++ ⟨(contL kind n u).toArray⟩)).extract 0 5 = ⟨(contL kind n u ++ (macL secret kind n u).data.toList).toArray⟩ := by
    rw [← ba_append, ba_eta, macL]
  rw [e1, b32_ev _ (by rw [sz_mk]; omega) k (by rw [sz_mk]; omega), Option.bind_some]
  show (if (b32 (contL kind n u ++ (macL secret kind n u).data.toList)).size ≤ 100000000 then _ else _) = _
  rw [if_pos (by omega)]
  rfl

/-- What Parse answers. -/
def pB (secret low : ByteArray) : Nat → Int × Int × ByteArray × Bool
  | 0 => (0, 0, ⟨#[]⟩, false)
  | q + 1 =>
    if Lib.hasPrefix low.data.toList (kindW (3 - q) ++ ⟨#[43]⟩).data.toList = true then
      let t := readR ((3 - q : Nat) : Int) ⟨(Lib.trimPrefix low.data.toList (kindW (3 - q) ++ ⟨#[43]⟩).data.toList).toArray⟩
      if t.2.2 = true then
        if (compB secret ((3 - q : Nat) : Int) t.1 t.2.1).toList = low.toList then (((3 - q : Nat) : Int), t.1, t.2.1, true) else pB secret low q
      else pB secret low q
    else pB secret low q
theorem trim_len (s p : List UInt8) : (Lib.trimPrefix s p).length ≤ s.length := by
  unfold Lib.trimPrefix
  split
  · rw [List.length_drop]; omega
  · omega
theorem read_ok (q : Nat) (hq : q ≤ 2) (x : ByteArray) (hx : x.size ≤ 100000) : KOk ((3 - q : Nat) : Int) (readR ((3 - q : Nat) : Int) x).1 (readR ((3 - q : Nat) : Int) x).2.1 := by
  obtain ⟨h1, h2, h3, _, _⟩ := read_facts ((3 - q : Nat) : Int) x
  exact ⟨by omega, h1, h2, by omega⟩
theorem pf_ev (secret low : ByteArray) (hs : secret.size ≤ 1000000) (hl : low.size ≤ 100000) : ∀ q, q ≤ 3 → Ev (fun k => verp_pf k secret low q) (pB secret low q)
  | 0, _ => Ev.now _
  | q + 1, hq => by
    have ih := pf_ev secret low hs hl q (by omega)
    have hx : (⟨(Lib.trimPrefix low.data.toList (kindW (3 - q) ++ ⟨#[43]⟩).data.toList).toArray⟩ : ByteArray).size ≤ 100000 := by
      rw [sz_mk]
      have := trim_len low.data.toList (kindW (3 - q) ++ ⟨#[43]⟩).data.toList
      rw [ba_len] at this
      omega
    unfold verp_pf pB
    generalize (⟨(Lib.trimPrefix low.data.toList (kindW (3 - q) ++ ⟨#[43]⟩).data.toList).toArray⟩ : ByteArray) = x at hx ⊢
    by_cases hp : Lib.hasPrefix low.data.toList (kindW (3 - q) ++ ⟨#[43]⟩).data.toList = true
    · simp only [if_pos hp]
      refine Ev.bind (a := readR ((3 - q : Nat) : Int) x) (read_ev _ x (by omega)) ?_
      have hk := read_ok q (by omega) x hx
      generalize readR ((3 - q : Nat) : Int) x = t at hk ⊢
      by_cases ht : t.2.2 = true
      · simp only [if_pos ht]
        refine Ev.bind (a := compB secret ((3 - q : Nat) : Int) t.1 t.2.1) ⟨2000000, comp_ev secret _ _ _ hs hk⟩ ?_
        by_cases hc : (compB secret ((3 - q : Nat) : Int) t.1 t.2.1).toList = low.toList
        · simp only [if_pos hc]
          exact Ev.now _
        · simp only [if_neg hc]
          exact ih
      · simp only [if_neg ht]
        exact ih
    · simp only [if_neg hp]
      exact ih
def parseB (secret loc : ByteArray) : Int × Int × ByteArray × Bool := pB secret (lowB loc) 3
theorem lowB_size (s : ByteArray) : (lowB s).size = s.size := by rw [lowB, sz_mk, List.length_map, ba_len]
theorem parse_ev (secret loc : ByteArray) (hs : secret.size ≤ 1000000) (hl : loc.size ≤ 100000) : Ev (fun k => verp_Parse.f k secret loc) (parseB secret loc) := by
  unfold verp_Parse.f
  have h : text_Lower.f loc = some (lowB loc) := by
    unfold text_Lower.f
    rw [if_pos (by omega)]
  rw [h]
  exact pf_ev secret (lowB loc) hs (by rw [lowB_size]; exact hl) 3 (Nat.le_refl _)
/-- What Parse accepts is what was written for what it answers. -/
theorem pB_facts (secret low : ByteArray) (hl : low.size ≤ 100000) : ∀ q, q ≤ 3 →
    (pB secret low q).2.2.2 = false ∧ pB secret low q = (0, 0, ⟨#[]⟩, false) ∨
    (pB secret low q).2.2.2 = true ∧ KOk (pB secret low q).1 (pB secret low q).2.1 (pB secret low q).2.2.1 ∧ ((pB secret low q).1 = 1 → (pB secret low q).2.2.1 = ⟨#[]⟩) ∧ ((pB secret low q).1 = 3 → (pB secret low q).2.1 = 0) ∧
      (compB secret (pB secret low q).1 (pB secret low q).2.1 (pB secret low q).2.2.1).toList = low.toList
  | 0, _ => .inl ⟨rfl, rfl⟩
  | q + 1, hq => by
    have ih := pB_facts secret low hl q (by omega)
    have hx : (⟨(Lib.trimPrefix low.data.toList (kindW (3 - q) ++ ⟨#[43]⟩).data.toList).toArray⟩ : ByteArray).size ≤ 100000 := by
      rw [sz_mk]
      have := trim_len low.data.toList (kindW (3 - q) ++ ⟨#[43]⟩).data.toList
      rw [ba_len] at this
      omega
    unfold pB
    generalize (⟨(Lib.trimPrefix low.data.toList (kindW (3 - q) ++ ⟨#[43]⟩).data.toList).toArray⟩ : ByteArray) = x at hx ⊢
    by_cases hp : Lib.hasPrefix low.data.toList (kindW (3 - q) ++ ⟨#[43]⟩).data.toList = true
    · simp only [if_pos hp]
      have hk := read_ok q (by omega) x hx
      obtain ⟨_, _, _, hf1, hf3⟩ := read_facts ((3 - q : Nat) : Int) x
      generalize readR ((3 - q : Nat) : Int) x = t at hk hf1 hf3 ⊢
      by_cases ht : t.2.2 = true
      · simp only [if_pos ht]
        by_cases hc : (compB secret ((3 - q : Nat) : Int) t.1 t.2.1).toList = low.toList
        · simp only [if_pos hc]
          exact .inr ⟨trivial, hk, hf1, hf3, hc⟩
        · simp only [if_neg hc]
          exact ih
      · simp only [if_neg ht]
        exact ih
    · simp only [if_neg hp]
      exact ih
end Go.Proofs.YtadnefnofbnheaaDoor.Pr

/- Addresses that say what they are for: Parse gives back what was written; the examples of the documentation. -/
namespace Go.Proofs.YtadnefnofbnheaaDoor.Pr
open Go.RowKit Go.Proofs.YtadnefnofbnheaaDoorW.PrintWords Go.Proofs.YtadnefnofbnheaaDoorW.PrintLast Go.Proofs.YtadnefnofbnheaaDoorW.PrintMore

theorem itoa_nat (n : Int) (h : 0 ≤ n) : Lib.itoa n = Lib.decDigits n.toNat := by rw [Lib.itoa, if_neg (by omega)]
theorem numOf_enc (n : Int) (h0 : 0 ≤ n) (h1 : n ≤ 9223372036854775807) (r : List UInt8) (b : Bool) : numOf (encInt n ++ r) b = (n, ⟨r.toArray⟩, b) := by
  have h : numR maxI 59 (encInt n ++ r) = some (n.toNat, r) := by
    rw [numR_iff maxI (by unfold maxI; omega) 59 (by decide)]
    refine ⟨?_, by unfold maxI; omega⟩
    unfold encInt
    rw [itoa_nat n h0]
    simp
  unfold numOf
  rw [h]
  show ((n.toNat : Int), (⟨r.toArray⟩ : ByteArray), b) = _
  rw [Int.toNat_of_nonneg h0]
theorem textOf_enc (u : ByteArray) (h : u.size ≤ 1000000) (b : Bool) : textOf (encText u) b = (u, ⟨#[]⟩, b) := by
  have h1 : textR (encText u) = some (u.data.toList, []) := by
    rw [textR_iff]
    refine ⟨by rw [List.append_nil, encText_eq], by rw [ba_len]; unfold maxI; omega⟩
  unfold textOf
  rw [h1]
theorem read_back (secret : ByteArray) (kind n : Int) (u : ByteArray) (h : KOk kind n u) (hu : kind = 1 → u = ⟨#[]⟩) (hn : kind = 3 → n = 0) :
    readR kind (restB secret kind n u) = (n, u, true) := by
  have hm := macL_size secret kind n u
  have hus := h.us
  unfold readR restB
  rw [unb_b32]
  show readB kind ⟨(contL kind n u ++ (macL secret kind n u).data.toList).toArray⟩ = _
  have hsz : (⟨(contL kind n u ++ (macL secret kind n u).data.toList).toArray⟩ : ByteArray).size = (contL kind n u).length + 5 := by rw [sz_mk, List.length_append, ba_len, hm]
  have hex : (⟨(contL kind n u ++ (macL secret kind n u).data.toList).toArray⟩ : ByteArray).extract 0 ((contL kind n u).length + 5 - 5) = ⟨(contL kind n u).toArray⟩ := by
    rw [show (contL kind n u).length + 5 - 5 = (contL kind n u).length by omega, ext_take, List.take_left']
    rfl
  unfold readB
  rw [hsz, if_neg (by omega), hex]
  have hd : doneOf ⟨#[]⟩ false = true := by rw [doneOf, if_neg (by decide), ba_toList]; rfl
  rcases h.k with rfl | rfl | rfl
  · rw [if_neg (by decide), hu rfl]
    show readJ1 1 (numOf (encInt n) false).1 ⟨#[]⟩ (numOf (encInt n) false).2.1 (numOf (encInt n) false).2.2 = _
    have e := numOf_enc n h.n0 h.n1 [] false
    rw [List.append_nil] at e
    rw [e, readJ1, if_pos rfl]
    exact congrArg _ (congrArg _ hd)
  · rw [if_neg (by decide)]
    show readJ1 2 (numOf (encInt n ++ encText u) false).1 ⟨#[]⟩ (numOf (encInt n ++ encText u) false).2.1 (numOf (encInt n ++ encText u) false).2.2 = _
    have e := numOf_enc n h.n0 h.n1 (encText u) false
    rw [e, readJ1, if_neg (by decide)]
    show (n, (textOf (encText u) false).1, doneOf (textOf (encText u) false).2.1 (textOf (encText u) false).2.2) = _
    rw [textOf_enc u (by omega)]
    exact congrArg _ (congrArg _ hd)
  · rw [if_pos rfl, readJ1, if_neg (by decide), hn rfl]
    show ((0 : Int), (textOf (encText u) false).1, doneOf (textOf (encText u) false).2.1 (textOf (encText u) false).2.2) = _
    rw [textOf_enc u (by omega)]
    exact congrArg _ (congrArg _ hd)

def kw (k : Nat) : List UInt8 := (kindW k ++ ⟨#[43]⟩).data.toList
theorem kw_def (k : Nat) : (kindW k ++ ⟨#[43]⟩).data.toList = kw k := rfl
theorem kw_pre (k : Nat) (r : List UInt8) : Lib.hasPrefix (kw k ++ r) (kw k) = true := by
  unfold Lib.hasPrefix
  rw [List.isPrefixOf_iff_prefix]
  exact List.prefix_append _ _
theorem kw_trim (k : Nat) (r : List UInt8) : Lib.trimPrefix (kw k ++ r) (kw k) = r := by
  unfold Lib.trimPrefix
  rw [if_pos (kw_pre k r), List.drop_left']
  rfl
theorem kw1 : kw 1 = [98, 111, 117, 110, 99, 101, 115, 43] := by decide
theorem kw2 : kw 2 = [118, 111, 116, 101, 43] := by decide
theorem kw3 : kw 3 = [99, 111, 110, 102, 105, 114, 109, 43] := by decide
theorem kw_21 (r : List UInt8) : Lib.hasPrefix (kw 2 ++ r) (kw 1) = false := by rw [kw1, kw2]; rfl
theorem kw_31 (r : List UInt8) : Lib.hasPrefix (kw 3 ++ r) (kw 1) = false := by rw [kw1, kw3]; rfl
theorem kw_32 (r : List UInt8) : Lib.hasPrefix (kw 3 ++ r) (kw 2) = false := by rw [kw3, kw2]; rfl
theorem kw_23 (r : List UInt8) : Lib.hasPrefix (kw 2 ++ r) (kw 3) = false := by rw [kw3, kw2]; rfl
theorem comp_list (secret : ByteArray) (kind n : Int) (u : ByteArray) : (compB secret kind n u).data.toList = kw kind.toNat ++ (restB secret kind n u).data.toList := by
  rw [compB, ba_append_list, kw]
theorem pB_back (secret : ByteArray) (kind n : Int) (u : ByteArray) (h : KOk kind n u) (hu : kind = 1 → u = ⟨#[]⟩) (hn : kind = 3 → n = 0) :
    pB secret (compB secret kind n u) 3 = (kind, n, u, true) := by
  have hr := read_back secret kind n u h hu hn
  have hl := comp_list secret kind n u
  have step : ∀ q, kind = ((3 - q : Nat) : Int) → pB secret (compB secret kind n u) (q + 1) = (kind, n, u, true) := by
    intro q hq
    have hkq : kind.toNat = 3 - q := by omega
    rw [pB, hl, hkq]
    simp only [kw_def, kw_pre, kw_trim, ba_eta, ← hq, hr, if_true]
  have skip : ∀ q, Lib.hasPrefix (compB secret kind n u).data.toList (kw (3 - q)) = false → pB secret (compB secret kind n u) (q + 1) = pB secret (compB secret kind n u) q := by
    intro q hq
    rw [pB]
    show (if Lib.hasPrefix (compB secret kind n u).data.toList (kw (3 - q)) = true then _ else _) = _
    rw [hq, if_neg (by decide)]
  rcases h.k with hk | hk | hk
  · exact step 2 hk
  · rw [skip 2 (by rw [hl, hk]; exact kw_21 _)]
    exact step 1 hk
  · rw [skip 2 (by rw [hl, hk]; exact kw_31 _), skip 1 (by rw [hl, hk]; exact kw_32 _)]
    exact step 0 hk

/-! ### small letters -/
theorem gd_all {P : UInt8 → Prop} (h : ∀ d, d < 32 → P (UInt8.ofNat (dg d).toNat)) (q x : Nat) : ∀ c ∈ (gd 32 dg q x).map (fun n => UInt8.ofNat n.toNat), P c := by
  induction q with
  | zero => intro c hc; simp [gd] at hc
  | succ q ih =>
    intro c hc
    rw [gd, List.map_cons, List.mem_cons] at hc
    rcases hc with rfl | hc
    · exact h _ (Nat.mod_lt _ (by decide))
    · exact ih c hc
theorem b32_all {P : UInt8 → Prop} (h : ∀ d, d < 32 → P (UInt8.ofNat (dg d).toNat)) (l : List UInt8) : ∀ c ∈ (b32 l).data.toList, P c := by
  have e : (b32 l).data.toList = (gd 32 dg ((8 * l.length + 4) / 5) (valN l * 2 ^ (5 * ((8 * l.length + 4) / 5) - 8 * l.length))).map fun n => UInt8.ofNat n.toNat := by
    rw [b32, strOfNums]
  rw [e]
  exact gd_all h _ _
theorem dg_low : ∀ d, d < 32 → lowC (UInt8.ofNat (dg d).toNat) = UInt8.ofNat (dg d).toNat := by decide
theorem kw_low (k : Nat) (h : k = 1 ∨ k = 2 ∨ k = 3) : ∀ c ∈ kw k, lowC c = c := by
  rcases h with rfl | rfl | rfl
  · rw [kw1]; decide
  · rw [kw2]; decide
  · rw [kw3]; decide
theorem lowB_same (s : ByteArray) (h : ∀ c ∈ s.data.toList, lowC c = c) : lowB s = s := by
  rw [lowB, List.map_congr_left h, List.map_id', ba_eta]
theorem comp_low (secret : ByteArray) (kind n : Int) (u : ByteArray) (h : KOk kind n u) : lowB (compB secret kind n u) = compB secret kind n u := by
  refine lowB_same _ ?_
  intro c hc
  rw [comp_list, List.mem_append] at hc
  rcases hc with hc | hc
  · exact kw_low _ (by rcases h.k with rfl | rfl | rfl <;> simp) c hc
  · exact b32_all (P := fun c => lowC c = c) dg_low _ c hc
theorem parse_back (secret : ByteArray) (kind n : Int) (u : ByteArray) (h : KOk kind n u) (hu : kind = 1 → u = ⟨#[]⟩) (hn : kind = 3 → n = 0) :
    parseB secret (compB secret kind n u) = (kind, n, u, true) := by
  rw [parseB, comp_low secret kind n u h, pB_back secret kind n u h hu hn]
theorem comp_size (secret : ByteArray) (kind n : Int) (u : ByteArray) (h : KOk kind n u) (hu : u.size ≤ 50000) : (compB secret kind n u).size ≤ 100000 := by
  have h1 := contL_len kind n u h.n0 h.n1 (by omega)
  have h2 := macL_size secret kind n u
  have h3 := kindW_size kind.toNat
  have h4 : (⟨#[43]⟩ : ByteArray).size = 1 := rfl
  rw [compB, ByteArray.size_append, ByteArray.size_append, restB, b32_size, List.length_append, ba_len]
  omega
theorem read_short (kind : Int) (s : ByteArray) (h : s.size < 5) : readR kind s = (0, ⟨#[]⟩, false) := by
  obtain ⟨b, ok, hb, hbs, _⟩ := unbR_total s 0 (vals s.data.toList)
  unfold readR
  rw [hb]
  cases ok with
  | false => rfl
  | true =>
    show readB kind b = _
    rw [readB, if_pos (by omega)]

theorem bounce_ev (secret : ByteArray) (n : Int) (hs : secret.size ≤ 1000000) (h0 : 0 ≤ n) (h1 : n ≤ 9223372036854775807) : Ev (fun k => verp_Bounce.f k secret n) (compB secret 1 n ⟨#[]⟩) := by
  unfold verp_Bounce.f
  have hm : mx n 0 = n := by unfold mx; split <;> omega
  rw [hm]
  exact Ev.bind (a := compB secret 1 n ⟨#[]⟩) ⟨2000000, comp_ev secret 1 n ⟨#[]⟩ hs ⟨.inl rfl, h0, h1, by show 0 ≤ _; omega⟩⟩ (Ev.now _)
theorem small_ev : Ev (fun k => missivelaw38_small.f k) true := by
  unfold missivelaw38_small.f
  have hk : KOk 1 7 ⟨#[]⟩ := ⟨.inl rfl, by decide, by decide, by show 0 ≤ _; omega⟩
  have h1 := bounce_ev ⟨#[107]⟩ 7 (by show 1 ≤ _; omega) (by decide) (by decide)
  refine Ev.bind h1 ?_
  have h2 := parse_ev ⟨#[107]⟩ (compB ⟨#[107]⟩ 1 7 ⟨#[]⟩) (by show 1 ≤ _; omega) (comp_size _ _ _ _ hk (by show 0 ≤ _; omega))
  rw [parse_back _ _ _ _ hk (fun _ => rfl) (fun h => absurd h (by decide))] at h2
  refine Ev.bind h2 ?_
  have h3 := parse_ev ⟨#[107]⟩ ⟨#[118, 111, 116, 101, 43, 97, 98, 99]⟩ (by show 1 ≤ _; omega) (by show 8 ≤ _; omega)
  have h4 : parseB ⟨#[107]⟩ ⟨#[118, 111, 116, 101, 43, 97, 98, 99]⟩ = (0, 0, ⟨#[]⟩, false) := by
    have hlow : lowB ⟨#[118, 111, 116, 101, 43, 97, 98, 99]⟩ = ⟨#[118, 111, 116, 101, 43, 97, 98, 99]⟩ := lowB_same _ (by decide)
    have hlist : (⟨#[118, 111, 116, 101, 43, 97, 98, 99]⟩ : ByteArray).data.toList = kw 2 ++ [97, 98, 99] := by rw [kw2]; rfl
    rw [parseB, hlow, pB, hlist]
    show (if Lib.hasPrefix (kw 2 ++ [97, 98, 99]) (kw 1) = true then _ else _) = _
    rw [kw_21, if_neg (by decide), pB, hlist]
    have hrs := read_short ((3 - 1 : Nat) : Int) ⟨([97, 98, 99] : List UInt8).toArray⟩ (by rw [sz_mk]; decide)
    have hk2 : (kindW (3 - 1) ++ ⟨#[43]⟩).data.toList = kw 2 := rfl
    simp only [hk2, kw_pre, kw_trim, if_true, hrs]
    rw [if_neg (by decide), pB, hlist]
    show (if Lib.hasPrefix (kw 2 ++ [97, 98, 99]) (kw 3) = true then _ else _) = _
    rw [kw_23, if_neg (by decide)]
    rfl
  rw [h4] at h3
  refine Ev.bind h3 ?_
  have he : (⟨#[]⟩ : ByteArray).toList = [] := by rw [ba_toList]
  simp only [if_true, he, if_neg (show ¬ (false = true) by decide)]
  exact Ev.now _
end Go.Proofs.YtadnefnofbnheaaDoor.Pr

/- VerpOnly: what Parse accepts is what was written. -/
namespace Go.Proofs.YtadnefnofbnheaaDoor.Pr
open Go.RowKit Go.Proofs.YtadnefnofbnheaaDoorW.PrintWords Go.Proofs.YtadnefnofbnheaaDoorW.PrintLast Go.Proofs.YtadnefnofbnheaaDoorW.PrintMore

theorem write_ev (secret : ByteArray) (kind n : Int) (u : ByteArray) (hs : secret.size ≤ 1000000) (h : KOk kind n u) (hu : kind = 1 → u = ⟨#[]⟩) (hn : kind = 3 → n = 0) :
    Ev (fun k => missivelaw38_write.f k secret kind n u) (compB secret kind n u) := by
  have hm : mx n 0 = n := by have := h.n0; unfold mx; split <;> omega
  have hc := comp_ev secret kind n u hs h
  have he : Ev (fun k => verp_compose.f k secret kind n u) (compB secret kind n u) := ⟨2000000, hc⟩
  unfold missivelaw38_write.f verp_Bounce.f verp_Vote.f verp_Confirm.f
  rcases h.k with rfl | rfl | rfl
  · rw [hu rfl] at he ⊢
    rw [hm]
    simp only [if_true]
    exact Ev.bind (Ev.bind he (Ev.now _)) (Ev.now _)
  · rw [hm]
    simp only [if_neg (show ¬ ((2 : Int) = 1) by decide), if_true]
    exact Ev.bind (Ev.bind he (Ev.now _)) (Ev.now _)
  · rw [hn rfl] at he ⊢
    simp only [if_neg (show ¬ ((3 : Int) = 1) by decide), if_neg (show ¬ ((3 : Int) = 2) by decide)]
    exact Ev.bind (Ev.bind he (Ev.now _)) (Ev.now _)
theorem low_eq (s : ByteArray) (hs : s.size ≤ 100000) : text_Lower.f s = some (lowB s) := by
  unfold text_Lower.f
  rw [if_pos (by omega)]
theorem verpOnly_holds (secret loc : ByteArray) : Ev (fun k => missivelaw38_VerpOnly.f k secret loc) true := by
  unfold missivelaw38_VerpOnly.f
  refine Ev.bind small_ev ?_
  have big : Ev (fun k => missivelaw38_VerpOnly.j0 k secret loc true true) true :=
    Ev.step (f := fun _ => some true) (fun k => by rw [missivelaw38_VerpOnly.j0, if_pos rfl]) (Ev.now _)
  by_cases hs : (secret.size : Int) > 300
  · simp only [if_pos hs]
    exact big
  · simp only [if_neg hs]
    by_cases hl : (loc.size : Int) > 300
    · rw [show decide ((loc.size : Int) > 300) = true by simpa using hl]
      exact big
    · rw [show decide ((loc.size : Int) > 300) = false by simpa using hl]
      have hsz : secret.size ≤ 1000000 := by omega
      have hlz : loc.size ≤ 100000 := by omega
      have hp := parse_ev secret loc hsz hlz
      have hf := pB_facts secret (lowB loc) (by rw [lowB_size]; exact hlz) 3 (Nat.le_refl _)
      change _ ∨ _ at hf
      rw [← parseB] at hf
      generalize parseB secret loc = p at hp hf
      obtain ⟨kind, n, u, ok⟩ := p
      refine Ev.step (f := fun k => _) (fun k => by rw [missivelaw38_VerpOnly.j0, if_neg (by decide)]) ?_
      refine Ev.bind hp ?_
      have he : (⟨#[]⟩ : ByteArray).toList = [] := by rw [ba_toList]
      rcases hf with ⟨h1, h2⟩ | ⟨h1, hk, hu, hn, hc⟩
      · simp only [Prod.mk.injEq] at h1 h2
        obtain ⟨rfl, rfl, rfl, rfl⟩ := h2
        simp only [if_neg (show ¬ (false = true) by decide), if_true, he]
        exact Ev.now _
      · simp only at h1 hk hu hn hc
        subst h1
        have hw := write_ev secret kind n u hsz hk hu hn
        have hlow : Ev (fun _ : Nat => text_Lower.f loc) (lowB loc) := ⟨0, fun _ _ => low_eq loc hlz⟩
        have hend : Ev (fun k => (missivelaw38_write.f k secret kind n u).bind fun t => (text_Lower.f loc).bind fun t2 => some (t.toList == t2.toList)) true := by
          refine Ev.bind hw ?_
          refine Ev.bind hlow ?_
          rw [hc]
          simp only [BEq.rfl]
          exact Ev.now _
        have k1 : kind ≥ 1 := by rcases hk.k with rfl | rfl | rfl <;> decide
        have k3 : kind ≤ 3 := by rcases hk.k with rfl | rfl | rfl <;> decide
        simp only [if_true, if_pos k1, if_pos k3, if_pos (show n ≥ 0 from hk.n0)]
        by_cases e1 : kind = 1
        · have hue : u.toList = [] := by rw [hu e1]; exact he
          have e3 : ¬ kind = 3 := by omega
          simp only [if_pos e1, hue, if_true, if_neg e3]
          exact hend
        · simp only [if_neg e1]
          by_cases e3 : kind = 3
          · simp only [if_pos e3, if_pos (hn e3)]
            exact hend
          · simp only [if_neg e3]
            exact hend
end Go.Proofs.YtadnefnofbnheaaDoor.Pr
