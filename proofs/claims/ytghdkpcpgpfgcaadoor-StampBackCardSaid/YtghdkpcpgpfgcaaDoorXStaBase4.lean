import Derived.Test.YtghdkpcpgpfgcaaDoorXStaBase
import Derived.Test.YtghdkpcpgpfgcaaDoorXStaBase2
import Derived.Laws.RangeString
namespace Go.Proofs.YtghdkpcpgpfgcaaDoor.XSta
open Go.RowKit Go.Proofs.YtghdkpcpgpfgcaaDoorW.PrintWords Go.Proofs.YtghdkpcpgpfgcaaDoorW.PrintLast Go.Proofs.YtghdkpcpgpfgcaaDoorW.PrintMore
open Go.Lib
/-- A byte that stands in a field. -/
def okF (b : UInt8) : Bool := decide (b.toNat < 128) && (b != 32) && (b != 9)
def chk (b : UInt8) (m : Bool) : Bool := if m then b == 32 else okF b
def chks : List UInt8 → List Bool → Bool
  | [], [] => true
  | b :: l, m :: ms => chk b m && chks l ms
  | _, _ => false
def spansM (mask : List Bool) : Nat → Nat → Option Nat → List (Nat × Nat) → List (Nat × Nat) × Option Nat
  | 0, _, st, acc => (acc, st)
  | f + 1, pos, st, acc =>
    if pos < mask.length then
      (if mask.getD pos false then
        (match st with
         | some a => spansM mask f (pos + 1) none (acc ++ [(a, pos)])
         | none => spansM mask f (pos + 1) none acc)
       else
        (match st with
         | some a => spansM mask f (pos + 1) (some a) acc
         | none => spansM mask f (pos + 1) (some pos) acc))
    else (acc, st)
theorem chks_len : ∀ (l : List UInt8) (ms : List Bool), chks l ms = true → ms.length = l.length
  | [], [], _ => rfl
  | b :: l, m :: ms, h => by
    have h : (chk b m && chks l ms) = true := h
    have := chks_len l ms (Bool.and_eq_true_iff.1 h).2
    rw [List.length_cons, List.length_cons, this]
  | [], _ :: _, h => by cases h
  | _ :: _, [], h => by cases h
theorem chks_at : ∀ (l : List UInt8) (ms : List Bool), chks l ms = true → ∀ i b, l[i]? = some b → chk b (ms.getD i false) = true
  | [], [], _, i, b, hb => by simp at hb
  | c :: l, m :: ms, h, i, b, hb => by
    have h : (chk c m && chks l ms) = true := h
    cases i with
    | zero =>
      obtain rfl : c = b := Option.some.inj hb
      exact (Bool.and_eq_true_iff.1 h).1
    | succ i => exact chks_at l ms (Bool.and_eq_true_iff.1 h).2 i b hb
  | [], _ :: _, h, _, _, _ => by cases h
  | _ :: _, [], h, _, _, _ => by cases h
theorem chk_at {b : UInt8} {m : Bool} (h : chk b m = true) : b.toNat < 128 ∧ stamp_fields.blank b.toNat = m := by
  unfold chk at h
  cases m with
  | true =>
    obtain rfl : b = 32 := by simpa using h
    exact ⟨by decide, rfl⟩
  | false =>
    have h : okF b = true := h
    unfold okF at h
    simp only [Bool.and_eq_true, decide_eq_true_eq, bne_iff_ne] at h
    obtain ⟨⟨h1, h2⟩, h3⟩ := h
    refine ⟨h1, ?_⟩
    unfold stamp_fields.blank
    rw [Bool.or_eq_false_iff]
    exact ⟨beq_eq_false_iff_ne.mpr fun e => h2 (UInt8.toNat_inj.1 e), beq_eq_false_iff_ne.mpr fun e => h3 (UInt8.toNat_inj.1 e)⟩
theorem spans_eq (l : List UInt8) (ms : List Bool) (h : chks l ms = true) : ∀ (f pos : Nat) (st : Option Nat) (acc : List (Nat × Nat)),
    spansFromP stamp_fields.blank ⟨l.toArray⟩ f pos st acc = spansM ms f pos st acc
  | 0, _, _, _ => rfl
  | f + 1, pos, st, acc => by
    have hl : (⟨l.toArray⟩ : ByteArray).size = ms.length := by rw [chks_len l ms h]; rfl
    unfold spansFromP spansM
    rw [hl]
    by_cases hp : pos < ms.length
    · rw [if_pos hp, if_pos hp]
      have hpl : pos < l.length := by rw [← chks_len l ms h]; exact hp
      have hps : pos < (⟨l.toArray⟩ : ByteArray).size := by rw [hl]; exact hp
      have hb := chk_at (chks_at l ms h pos l[pos] (List.getElem?_eq_getElem hpl))
      have hg : (⟨l.toArray⟩ : ByteArray)[pos]'hps = l[pos] := rfl
      rw [decode_ascii ⟨l.toArray⟩ pos hps (by rw [hg]; exact hb.1), hg]
      dsimp only
      rw [hb.2]
      split <;> cases st <;> exact spans_eq l ms h f _ _ _
    · rw [if_neg hp, if_neg hp]
theorem fields_eq (l : List UInt8) (ms : List Bool) (h : chks l ms = true) (r : List ByteArray) (hr : (closeSpans ⟨l.toArray⟩ (spansM ms ms.length 0 none [])).map (fun x => (⟨l.toArray⟩ : ByteArray).extract x.1 x.2) = r)
    (h1 : l.length ≤ 4294967296) (h2 : r.length ≤ 9223372036854775807) : stamp_fields.f ⟨l.toArray⟩ = some r := by
  have hl : (⟨l.toArray⟩ : ByteArray).size = ms.length := by rw [chks_len l ms h]; rfl
  have e : goFieldsP stamp_fields.blank ⟨l.toArray⟩ = r := by
    unfold goFieldsP spansOfP
    rw [spans_eq l ms h, hl]
    exact hr
  unfold stamp_fields.f
  rw [e, if_pos ⟨h1, h2⟩]
/-- The two that a digit's pair gives: no colon, no blank. -/
theorem okB_okF {b : UInt8} (h : okB b = true) : okF b = true := by
  unfold okB at h
  unfold okF
  simp only [Bool.and_eq_true] at h ⊢
  exact h.1
theorem okB_colon {b : UInt8} (h : okB b = true) : (b == 58) = false := by
  unfold okB at h
  simp only [Bool.and_eq_true, bne_iff_ne] at h
  exact beq_eq_false_iff_ne.mpr h.2
theorem idx_first {a b : UInt8} (l : List UInt8) (ha : okB a = true) (hb : okB b = true) : indexByte (a :: b :: 58 :: l) 58 = 2 := by
  have h1 := okB_colon ha
  have h2 := okB_colon hb
  have h3 : indexByte (58 :: l) 58 = 0 := rfl
  have h4 : indexByte (b :: 58 :: l) 58 = 1 := by rw [indexByte, h2, h3]; rfl
  rw [indexByte, h1, h4]
  rfl
theorem idx_none {a b : UInt8} (ha : okB a = true) (hb : okB b = true) : indexByte [a, b] 58 = -1 := by
  rw [indexByte, okB_colon ha, indexByte, okB_colon hb]
  rfl
theorem w23 : wrap64 (2 + 1) = 3 := by rw [w64 (by decide) (by decide)]; rfl
theorem cut8 {a b c d e f : UInt8} (ha : okB a = true) (hb : okB b = true) : text_Cut.f ⟨#[a, b, 58, c, d, 58, e, f]⟩ 58 = some (⟨#[a, b]⟩, ⟨#[c, d, 58, e, f]⟩, true) := by
  have hi : strings_IndexByte.f ⟨#[a, b, 58, c, d, 58, e, f]⟩ 58 = some 2 := congrArg some (idx_first [c, d, 58, e, f] ha hb)
  have hs : (((⟨#[a, b, 58, c, d, 58, e, f]⟩ : ByteArray).size : Nat) : Int) = 8 := rfl
  rw [text_Cut.f, hi, Option.bind_some, w23, hs, if_neg (by decide), if_pos (by decide), if_pos (by decide), if_pos (by decide), if_pos (by decide)]
  rfl
theorem cut5 {a b c d : UInt8} (ha : okB a = true) (hb : okB b = true) : text_Cut.f ⟨#[a, b, 58, c, d]⟩ 58 = some (⟨#[a, b]⟩, ⟨#[c, d]⟩, true) := by
  have hi : strings_IndexByte.f ⟨#[a, b, 58, c, d]⟩ 58 = some 2 := congrArg some (idx_first [c, d] ha hb)
  have hs : (((⟨#[a, b, 58, c, d]⟩ : ByteArray).size : Nat) : Int) = 5 := rfl
  rw [text_Cut.f, hi, Option.bind_some, w23, hs, if_neg (by decide), if_pos (by decide), if_pos (by decide), if_pos (by decide), if_pos (by decide)]
  rfl
theorem cut_none {a b : UInt8} (ha : okB a = true) (hb : okB b = true) : text_Cut.f ⟨#[a, b]⟩ 58 = some (⟨#[a, b]⟩, ⟨#[]⟩, false) := by
  have hi : strings_IndexByte.f ⟨#[a, b]⟩ 58 = some (-1) := congrArg some (idx_none ha hb)
  rw [text_Cut.f, hi, Option.bind_some, if_pos (by decide)]
theorem split_clock {a b c d e f : UInt8} (ha : okB a = true) (hb : okB b = true) (hc : okB c = true) (hd : okB d = true) (he : okB e = true) (hf : okB f = true) (k : Nat) (hk : 3 ≤ k) :
    text_Split.f k ⟨#[a, b, 58, c, d, 58, e, f]⟩ 58 = some [⟨#[a, b]⟩, ⟨#[c, d]⟩, ⟨#[e, f]⟩] := by
  obtain ⟨k, rfl⟩ : ∃ j, k = j + 1 + 1 + 1 := ⟨k - 3, by omega⟩
  rw [text_Split.f, text_Split.l0, cut8 ha hb, Option.bind_some]
  dsimp only
  rw [if_pos (by decide), Option.bind_some, if_pos rfl, text_Split.l0, cut5 hc hd, Option.bind_some]
  dsimp only
  rw [if_pos (by simp), Option.bind_some, if_pos rfl, text_Split.l0, cut_none he hf, Option.bind_some]
  dsimp only
  rw [if_pos (by simp), Option.bind_some, if_neg (by decide)]
  rfl
theorem dg2 (n : Nat) (hn : n < 100) : okB (dg (n / 10)) = true ∧ okB (dg (n % 10)) = true := ⟨dg_ok _ (by omega), dg_ok _ (by omega)⟩
theorem two_up (n : Nat) (hn : n < 100) : ∀ k, 10 ≤ k → stamp_digits.f k (two n) 2 2 = some (n : Int) := up (fun k => stamp_digits.mono _ _ _ k) (two_get n hn)
theorem two_up1 (n : Nat) (hn : n < 100) : ∀ k, 10 ≤ k → stamp_digits.f k (two n) 1 2 = some (n : Int) := up (fun k => stamp_digits.mono _ _ _ k) (two_get1 n hn)
theorem four_up (n : Nat) (hn : n < 230) : ∀ k, 10 ≤ k → stamp_digits.f k (four (1970 + n)) 4 4 = some ((1970 + n : Nat) : Int) := up (fun k => stamp_digits.mono _ _ _ k) (four_get n hn)
theorem mo_up (n : Nat) (hn : n < 12) : ∀ k, 10 ≤ k → stamp_index.f k moN ⟨#[mo0 n, mo1 n, mo2 n]⟩ = some (n : Int) := up (fun k => stamp_index.mono _ _ k) (mo_get n hn)
theorem wd_up (n : Nat) (hn : n < 7) : ∀ k, 10 ≤ k → stamp_index.f k wdN ⟨#[wd0 n, wd1 n, wd2 n]⟩ = some (n : Int) := up (fun k => stamp_index.mono _ _ k) (wd_get n hn)
theorem gmt_up : ∀ k, 20 ≤ k → stamp_zone.f k ⟨#[71, 77, 84]⟩ = some (0, 0) := fun k hk => up (fun k => stamp_zone.mono _ k) zone_gmt k (by omega)
theorem zone_up (m : Nat) (hm : m < 1440) : ∀ k, 20 ≤ k → stamp_zone.f k (zoneS m) = some (((60 * m : Nat) : Int), 0) := up (fun k => stamp_zone.mono _ k) (zone_get m hm)
def clockS (h m s : Nat) : ByteArray := ⟨#[dg (h / 10), dg (h % 10), 58, dg (m / 10), dg (m % 10), 58, dg (s / 10), dg (s % 10)]⟩
theorem clock_get (h m s : Nat) (hh : h < 100) (hm : m < 100) (hs : s < 100) (k : Nat) (hk : 20 ≤ k) : stamp_parseClock.f k (clockS h m s) = some ((h : Int), (m : Int), (s : Int), true) := by
  obtain ⟨k, rfl⟩ : ∃ j, k = j + 1 := ⟨k - 1, by omega⟩
  have e := split_clock (dg2 h hh).1 (dg2 h hh).2 (dg2 m hm).1 (dg2 m hm).2 (dg2 s hs).1 (dg2 s hs).2 (k + 1) (by omega)
  have e1 := two_up h hh k (by omega)
  have e2 := two_up m hm k (by omega)
  have e3 := two_up s hs k (by omega)
  unfold clockS
  rw [stamp_parseClock.f, e, Option.bind_some, if_neg (by simp), stamp_parseClock.j0, if_pos (by simp), if_pos (by simp)]
  refine (show Option.bind (stamp_digits.f k (two h) 2 2) _ = _ from ?_)
  rw [e1, Option.bind_some, if_pos (by simp)]
  refine (show Option.bind (stamp_digits.f k (two m) 2 2) _ = _ from ?_)
  rw [e2, Option.bind_some, if_pos (by simp)]
  refine (show Option.bind (stamp_digits.f k (two s) 2 2) _ = _ from ?_)
  rw [e3, Option.bind_some, if_pos (by omega), if_pos (by omega), show decide ((s : Int) ≥ 0) = true from decide_eq_true (by omega)]
end Go.Proofs.YtghdkpcpgpfgcaaDoor.XSta
