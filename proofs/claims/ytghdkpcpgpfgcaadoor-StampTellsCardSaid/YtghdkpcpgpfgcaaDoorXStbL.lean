/- Texts of this work in one: the plain law. -/
import Derived.Test.YtghdkpcpgpfgcaaDoorXStbM2a
import Derived.Test.YtghdkpcpgpfgcaaDoorXStbM0a
import Derived.Test.YtghdkpcpgpfgcaaDoorXStbM0b
import Derived.Laws.RangeString
import Derived.Test.YtghdkpcpgpfgcaaDoorXStbx44
import Derived.Test.YtghdkpcpgpfgcaaDoorXStbx18
import Derived.Test.YtghdkpcpgpfgcaaDoorXStbx47
import Derived.Test.YtghdkpcpgpfgcaaDoorXStbx21
import Derived.Test.YtghdkpcpgpfgcaaDoorXStbx25
import Derived.Test.YtghdkpcpgpfgcaaDoorXStbx49
import Derived.Test.YtghdkpcpgpfgcaaDoorXStbx53
namespace Go.Proofs.YtghdkpcpgpfgcaaDoor.XStb
open Go.RowKit Go.Proofs.YtghdkpcpgpfgcaaDoorW.PrintWords Go.Proofs.YtghdkpcpgpfgcaaDoorW.PrintLast Go.Proofs.YtghdkpcpgpfgcaaDoorW.PrintMore
theorem up {α : Type} {F : Nat → Option α} (hm : ∀ k, LeO (F k) (F (k + 1))) {K : Nat} {r : α} (h : F K = some r) : ∀ k, K ≤ k → F k = some r := by
  intro k hk
  obtain ⟨j, rfl⟩ := Nat.exists_eq_add_of_le hk
  induction j with
  | zero => exact h
  | succ j ih => exact hm _ _ (ih (by omega))
theorem w64 {n : Int} (h1 : -9223372036854775808 ≤ n) (h2 : n ≤ 9223372036854775807) : wrap64 n = n := by unfold wrap64; omega
/-- Days in years from 1970 on. -/
def yrs : Nat → Int
  | 0 => 0
  | n + 1 => yrs n + 365 + (if stamp_Days.leap ((1970 + n : Nat) : Int) = true then 1 else 0)
/-- Days in months. -/
def mon (y : Int) : Nat → Int
  | 0 => 0
  | j + 1 => mon y j + stamp_Days.days y ((1 + j : Nat) : Int)
theorem yrs_bd : ∀ n : Nat, 365 * (n : Int) ≤ yrs n ∧ yrs n ≤ 366 * (n : Int)
  | 0 => ⟨by decide, by decide⟩
  | n + 1 => by
    obtain ⟨h1, h2⟩ := yrs_bd n
    unfold yrs
    split <;> omega
theorem days_ne (a : Nat) (ha : a < 230) (b : Nat) (hb : b < 12) : stamp_Days.days ((1970 + a : Nat) : Int) ((1 + b : Nat) : Int) = if b = 1 ∧ stamp_Days.leap ((1970 + a : Nat) : Int) = true then 29 else stamp_Days.tab.getD b 0 := by
  unfold stamp_Days.days
  rw [if_neg (by omega), show (((1 + b : Nat) : Int) - 1).toNat = b by omega]
  by_cases h : b = 1
  · subst h
    by_cases hl : stamp_Days.leap ((1970 + a : Nat) : Int) = true
    · rw [if_pos ⟨rfl, hl⟩, if_pos ⟨rfl, hl⟩]
    · rw [if_neg (fun h' => hl h'.2), if_neg (fun h' => hl h'.2)]
  · rw [if_neg (fun h' => h (by omega)), if_neg (fun h' => h h'.1)]
theorem tab_bd : ∀ b : Nat, b < 12 → 28 ≤ stamp_Days.tab.getD b 0 ∧ stamp_Days.tab.getD b 0 ≤ 31 := by decide +kernel
theorem days_bd (a : Nat) (ha : a < 230) (b : Nat) (hb : b < 12) : 28 ≤ stamp_Days.days ((1970 + a : Nat) : Int) ((1 + b : Nat) : Int) ∧ stamp_Days.days ((1970 + a : Nat) : Int) ((1 + b : Nat) : Int) ≤ 31 := by
  rw [days_ne a ha b hb]
  have := tab_bd b hb
  split <;> omega
theorem mon_12 (a : Nat) (ha : a < 230) : mon ((1970 + a : Nat) : Int) 12 = 365 + (if stamp_Days.leap ((1970 + a : Nat) : Int) = true then 1 else 0) := by
  simp only [mon]
  rw [days_ne a ha 0 (by omega), days_ne a ha 1 (by omega), days_ne a ha 2 (by omega), days_ne a ha 3 (by omega), days_ne a ha 4 (by omega), days_ne a ha 5 (by omega), days_ne a ha 6 (by omega), days_ne a ha 7 (by omega), days_ne a ha 8 (by omega), days_ne a ha 9 (by omega), days_ne a ha 10 (by omega), days_ne a ha 11 (by omega)]
  by_cases hl : stamp_Days.leap ((1970 + a : Nat) : Int) = true
  · simp only [hl, stamp_Days.tab]; decide
  · simp only [hl, stamp_Days.tab]; decide
theorem mon_succ (y : Int) (b : Nat) : mon y (b + 1) = mon y b + stamp_Days.days y ((1 + b : Nat) : Int) := rfl
theorem mon_bd (a : Nat) (ha : a < 230) (b : Nat) (hb : b ≤ 12) : 0 ≤ mon ((1970 + a : Nat) : Int) b ∧ mon ((1970 + a : Nat) : Int) b ≤ 31 * (b : Int) := by
  induction b with
  | zero =>
    have h : mon ((1970 + a : Nat) : Int) 0 = 0 := rfl
    rw [h]
    omega
  | succ b ih =>
    obtain ⟨h1, h2⟩ := ih (by omega)
    obtain ⟨h3, h4⟩ := days_bd a ha b (by omega)
    rw [mon_succ]
    generalize mon ((1970 + a : Nat) : Int) b = x at *
    generalize stamp_Days.days ((1970 + a : Nat) : Int) ((1 + b : Nat) : Int) = z at *
    omega
theorem days_f (y m : Int) : stamp_Days.f y m = some (stamp_Days.days y m) := rfl
theorem before_l1 (y : Int) (hd : ∀ c : Nat, c < 12 → 28 ≤ stamp_Days.days y ((1 + c : Nat) : Int) ∧ stamp_Days.days y ((1 + c : Nat) : Int) ≤ 31) (hmb : ∀ c : Nat, c ≤ 12 → 0 ≤ mon y c ∧ mon y c ≤ 31 * (c : Int))
    (b : Nat) (hb : b < 12) (Y : Int) (hY : 0 ≤ Y ∧ Y ≤ 1000000) (j : Nat) : ∀ k, j ≤ b →
    stamp_before.l1 (k + j + 1) y ((1 + b : Nat) : Int) (Y + mon y (b - j)) ((1 + (b - j) : Nat) : Int) = some (Y + mon y b) := by
  induction j with
  | zero =>
    intro k _
    rw [Nat.add_zero, Nat.sub_zero, stamp_before.l1, if_neg (by omega)]
  | succ j ih =>
    intro k hj
    have h := ih k (by omega)
    obtain ⟨c, hc⟩ : ∃ c, c = b - (j + 1) := ⟨_, rfl⟩
    rw [show b - j = c + 1 by omega, mon_succ] at h
    rw [← hc]
    have hm := hmb c (by omega)
    have hd := hd c (by omega)
    rw [show k + (j + 1) + 1 = (k + j + 1) + 1 by omega, stamp_before.l1, if_pos (by omega), days_f, Option.bind_some]
    rw [w64 (by omega) (by omega), w64 (by omega) (by omega), Int.add_assoc, ← h]
    congr 1
theorem leap_f2 (y : Int) : stamp_leap.f y = some (stamp_Days.leap y) := stamp_Days.leap_f y
theorem before_l0 (a : Nat) (ha : a ≤ 230) (x0 x1 : Int) (hx : x0 = 1970 + (a : Int)) (j : Nat) : ∀ k, j ≤ a →
    stamp_before.l0 (k + j + 1) x0 x1 (yrs (a - j)) ((1970 + (a - j) : Nat) : Int) = stamp_before.l1 k x0 x1 (yrs a) 1 := by
  induction j with
  | zero =>
    intro k _
    rw [Nat.add_zero, Nat.sub_zero, stamp_before.l0, if_neg (by omega)]
  | succ j ih =>
    intro k hj
    have h := ih k (by omega)
    obtain ⟨c, hc⟩ : ∃ c, c = a - (j + 1) := ⟨_, rfl⟩
    rw [show a - j = c + 1 by omega, yrs] at h
    rw [← hc]
    have hm := yrs_bd c
    rw [show k + (j + 1) + 1 = (k + j + 1) + 1 by omega, stamp_before.l0, if_pos (by omega), leap_f2, Option.bind_some, ← h]
    generalize hz : ((1970 + c : Nat) : Int) = z
    have hz2 : ((1970 + (c + 1) : Nat) : Int) = z + 1 := by omega
    rw [hz2]
    by_cases hl : stamp_Days.leap z = true
    · rw [if_pos hl, if_pos hl, w64 (n := yrs c + 365) (by omega) (by omega), w64 (by omega) (by omega), w64 (by omega) (by omega)]
    · rw [if_neg hl, if_neg hl, w64 (n := yrs c + 365) (by omega) (by omega), w64 (by omega) (by omega), Int.add_zero]
theorem before_eq (a : Nat) (ha : a < 230) (b : Nat) (hb : b < 12) : ∀ k, 300 ≤ k → stamp_before.f k ((1970 + a : Nat) : Int) ((1 + b : Nat) : Int) = some (yrs a + mon ((1970 + a : Nat) : Int) b) := by
  intro k hk
  obtain ⟨q, rfl⟩ : ∃ q, k = (q + b + 1) + a + 1 := ⟨k - (b + 1 + a + 1), by omega⟩
  have hy := yrs_bd a
  have hd := days_bd a ha
  have hm := mon_bd a ha
  generalize hz : ((1970 + a : Nat) : Int) = z at *
  have h0 := before_l0 a (by omega) z ((1 + b : Nat) : Int) (by omega) a (q + b + 1) (Nat.le_refl _)
  have h1 := before_l1 z hd hm b hb (yrs a) ⟨by omega, by omega⟩ b q (Nat.le_refl _)
  rw [Nat.sub_self] at h0 h1
  have e0 : yrs 0 = 0 := rfl
  have e1 : mon z 0 = 0 := rfl
  have e2 : ((1970 + 0 : Nat) : Int) = 1970 := rfl
  have e3 : ((1 + 0 : Nat) : Int) = 1 := rfl
  rw [e0, e2] at h0
  rw [e1, e3, Int.add_zero] at h1
  rw [stamp_before.f, h0, h1]
theorem bef_last : stamp_before.f 400 2200 1 = some 84006 := by kernel_rfl
theorem yrs_last : yrs 230 = 84006 := by
  have h := before_l0 230 (Nat.le_refl _) 2200 1 rfl 230 169 (Nat.le_refl _)
  have hl : stamp_before.f 400 2200 1 = some (yrs 230) := by
    have e0 : yrs 0 = 0 := rfl
    have e2 : ((1970 + 0 : Nat) : Int) = 1970 := rfl
    rw [Nat.sub_self, e0, e2] at h
    rw [stamp_before.f, h, stamp_before.l1, if_neg (by decide)]
  rw [bef_last] at hl
  exact (Option.some.inj hl).symm
theorem before_2200 : ∀ k, 400 ≤ k → stamp_before.f k 2200 1 = some 84006 := up (fun k => stamp_before.mono _ _ k) bef_last
end Go.Proofs.YtghdkpcpgpfgcaaDoor.XStb
namespace Go.Proofs.YtghdkpcpgpfgcaaDoor.XStb
open Go.RowKit Go.Proofs.YtghdkpcpgpfgcaaDoorW.PrintWords Go.Proofs.YtghdkpcpgpfgcaaDoorW.PrintLast Go.Proofs.YtghdkpcpgpfgcaaDoorW.PrintMore
open Go.Lib
theorem bt_mid {s : ByteArray} {p r : List UInt8} {c : UInt8} (h : s.data.toList = p ++ c :: r) : bt s (p.length : Int) = (c.toNat : Int) ∧ (p.length : Int) < (s.size : Int) := by
  have hl : s.data.toList.length = s.size := by rw [Array.length_toList]; rfl
  have h1 : p.length < s.size := by rw [← hl, h, List.length_append, List.length_cons]; omega
  refine ⟨?_, by omega⟩
  have h2 : (p.length : Int).toNat = p.length := rfl
  rw [← bt_at s (p.length : Int) (by rw [h2]; exact h1)]
  have h3 : s.data.toList[p.length]'(by rw [hl]; exact h1) = c := by simp [h]
  have h4 : s[(p.length : Int).toNat]'(by rw [h2]; exact h1) = s.data.toList[p.length]'(by rw [hl]; exact h1) := rfl
  rw [h4, h3]
theorem bt_end {s : ByteArray} {p : List UInt8} (h : s.data.toList = p ++ []) : (s.size : Int) = (p.length : Int) := by
  have hl : s.data.toList.length = s.size := by rw [Array.length_toList]; rfl
  rw [← hl, h, List.append_nil]
theorem len_size (s : ByteArray) : s.data.toList.length = s.size := by rw [Array.length_toList]; rfl
def isDg (c : UInt8) : Bool := decide (48 ≤ c.toNat) && decide (c.toNat ≤ 57)
theorem isDg_set (c : UInt8) : ([48, 49, 50, 51, 52, 53, 54, 55, 56, 57] : List UInt8).contains c = isDg c := by
  have h : ∀ n : Nat, n < 256 → ([48, 49, 50, 51, 52, 53, 54, 55, 56, 57] : List UInt8).contains (UInt8.ofNat n) = isDg (UInt8.ofNat n) := by decide +kernel
  have := h c.toNat c.toNat_lt
  rwa [UInt8.ofNat_toNat] at this
theorem drop_nil {p : UInt8 → Bool} : ∀ l : List UInt8, (l.dropWhile p = [] ↔ l.all p = true)
  | [] => by simp
  | a :: l => by
    rw [List.dropWhile_cons, List.all_cons]
    cases h : p a with
    | true => simpa using drop_nil l
    | false => simp
theorem drop_head {p : UInt8 → Bool} : ∀ (l : List UInt8) (x : UInt8) (t : List UInt8), l.dropWhile p = x :: t → p x = false
  | [], x, t, h => by simp at h
  | a :: l, x, t, h => by
    rw [List.dropWhile_cons] at h
    cases ha : p a with
    | true => rw [ha, if_pos rfl] at h; exact drop_head l x t h
    | false =>
      rw [ha, if_neg (by decide)] at h
      injection h with h1 h2
      rw [← h1]; exact ha
theorem trim_nil (l cs : List UInt8) : trimS l cs = [] ↔ l.all (cs.contains ·) = true := by
  unfold trimS trimLeftS trimRightS
  rw [drop_nil]
  cases h : l.reverse.dropWhile (cs.contains ·) with
  | nil =>
    have := (drop_nil l.reverse).1 h
    rw [List.all_reverse] at this
    simp only [List.reverse_nil, List.all_nil, true_iff]
    exact this
  | cons x t =>
    have h1 := drop_head _ _ _ h
    have h2 : ¬ l.all (cs.contains ·) = true := fun h3 => by
      rw [← List.all_reverse] at h3
      rw [(drop_nil l.reverse).2 h3] at h
      cases h
    rw [List.all_reverse, List.all_cons, h1, Bool.false_and]
    constructor
    · intro h; cases h
    · intro h; exact absurd h h2
theorem trim_digits (s : ByteArray) (hs : s.size ≤ 1000) : ∃ t, strings_Trim.f s ⟨#[48, 49, 50, 51, 52, 53, 54, 55, 56, 57]⟩ = some t ∧ (t.toList != ([] : List UInt8)) = !(s.data.toList.all isDg) := by
  refine ⟨⟨(trimS s.data.toList [48, 49, 50, 51, 52, 53, 54, 55, 56, 57]).toArray⟩, ?_, ?_⟩
  · rw [strings_Trim.f, if_pos ⟨by decide, by omega, by decide⟩]
  · rw [ByteArray.toList_eq]
    have e : s.data.toList.all (([48, 49, 50, 51, 52, 53, 54, 55, 56, 57] : List UInt8).contains ·) = s.data.toList.all isDg := by
      congr 1
      funext c
      exact isDg_set c
    have ht := trim_nil s.data.toList [48, 49, 50, 51, 52, 53, 54, 55, 56, 57]
    rw [e] at ht
    cases hd : s.data.toList.all isDg with
    | true => rw [ht.2 hd]; rfl
    | false =>
      rw [Bool.not_false, bne_iff_ne]
      intro h
      rw [ht.1 h] at hd
      cases hd
/-- The number that digits are. -/
def val : List UInt8 → Int → Int
  | [], a => a
  | c :: l, a => val l (10 * a + ((c.toNat : Int) - 48))
def bnd : Nat → Int
  | 0 => 9999
  | 1 => 999
  | 2 => 99
  | 3 => 9
  | _ => 0
theorem bnd_step (n : Nat) (a : Int) (hn : n < 4) (h0 : 0 ≤ a) (h : a ≤ bnd (n + 1)) (c : Nat) (h1 : 48 ≤ c) (h2 : c ≤ 57) : 0 ≤ 10 * a + ((c : Int) - 48) ∧ 10 * a + ((c : Int) - 48) ≤ bnd n ∧ bnd n ≤ 9999 := by
  rcases (show n = 0 ∨ n = 1 ∨ n = 2 ∨ n = 3 by omega) with rfl | rfl | rfl | rfl <;> simp only [bnd] at * <;> omega
theorem isDg_bd {c : UInt8} (h : isDg c = true) : 48 ≤ c.toNat ∧ c.toNat ≤ 57 := by
  unfold isDg at h
  simpa using h
theorem dig_l0 (s : ByteArray) (hs4 : s.size ≤ 4) : ∀ (r p : List UInt8) (a : Int) (k : Nat), s.data.toList = p ++ r → r.all isDg = true → 0 ≤ a → a ≤ bnd r.length →
    stamp_digits.l0 (k + r.length + 1) s a (s.size : Int) (p.length : Int) = some (val r a)
  | [], p, a, k, h, _, _, _ => by
    have e := bt_end h
    rw [List.length_nil, Nat.add_zero, stamp_digits.l0, if_neg (by omega)]
    rfl
  | c :: r, p, a, k, h, hd, h0, hb => by
    obtain ⟨hc, hlt⟩ := bt_mid h
    have hln : p.length + (r.length + 1) = s.size := by
      have := len_size s
      have h' := congrArg List.length h
      rw [List.length_append, List.length_cons] at h'
      omega
    rw [List.all_cons, Bool.and_eq_true] at hd
    obtain ⟨c1, c2⟩ := isDg_bd hd.1
    rw [List.length_cons] at hb
    obtain ⟨b1, b2, b3⟩ := bnd_step r.length a (by omega) h0 hb c.toNat c1 c2
    have ih := dig_l0 s hs4 r (p ++ [c]) (10 * a + ((c.toNat : Int) - 48)) k (by rw [h, List.append_assoc]; rfl) hd.2 b1 b2
    have e1 : Aside0 (wrap64 ((wrap64 (10 * a)) + (((c.toNat : Int) - 48) % 256)) = 10 * a + ((c.toNat : Int) - 48)) := ⟨by rw [w64 (n := 10 * a) (by omega) (by omega), w64 (by omega) (by omega)]; omega⟩
    have e2 : Aside0 (wrap64 ((p.length : Int) + 1) = (((p ++ [c]).length : Nat) : Int)) := ⟨by rw [w64 (by omega) (by omega), List.length_append]; rfl⟩
    rw [List.length_cons, show k + (r.length + 1) + 1 = (k + r.length + 1) + 1 by omega, stamp_digits.l0, if_pos hlt, if_pos (by omega), if_pos hlt, hc, e1.out, e2.out, ih]
    rfl
theorem digits_spec (s : ByteArray) (hs : s.size ≤ 1000) (lo hi : Int) (hhi : hi ≤ 4) (k : Nat) (hk : 10 ≤ k) :
    stamp_digits.f k s lo hi = some (if lo ≤ (s.size : Int) ∧ (s.size : Int) ≤ hi ∧ s.data.toList.all isDg = true then val s.data.toList 0 else -1) := by
  obtain ⟨k, rfl⟩ : ∃ j, k = j + 1 := ⟨k - 1, by omega⟩
  by_cases c1 : (s.size : Int) < lo
  · rw [stamp_digits.f, if_pos c1, stamp_digits.j0, if_pos rfl, if_neg (by omega)]
  by_cases c2 : (s.size : Int) > hi
  · rw [stamp_digits.f, if_neg c1, if_pos c2, stamp_digits.j0, if_pos rfl, if_neg (by omega)]
  obtain ⟨t, ht, hb⟩ := trim_digits s hs
  rw [stamp_digits.f, if_neg c1, if_neg c2, ht, Option.bind_some, hb, stamp_digits.j0]
  have hl := len_size s
  cases hd : s.data.toList.all isDg with
  | false => rw [Bool.not_false, if_pos rfl, if_neg (fun h => by cases h.2.2)]
  | true =>
    rw [Bool.not_true, if_neg (by decide), if_pos ⟨by omega, by omega, rfl⟩]
    obtain ⟨q, hq⟩ : ∃ q, k = q + s.data.toList.length + 1 := ⟨k - (s.data.toList.length + 1), by omega⟩
    rw [hq]
    refine dig_l0 s (by omega) s.data.toList [] 0 q rfl hd (Int.le_refl 0) ?_
    rw [hl]
    have hs4 : s.size ≤ 4 := by omega
    rcases (show s.size = 0 ∨ s.size = 1 ∨ s.size = 2 ∨ s.size = 3 ∨ s.size = 4 by omega) with h | h | h | h | h <;> rw [h] <;> decide
theorem digs (s : ByteArray) : ∀ (r p : List UInt8) (k : Nat), s.size ≤ 1000 → s.data.toList = p ++ r → newsreelref01_Digits.l0 (k + 2 * r.length + 1) s (p.length : Int) = some (if r.all isDg = true then decide ((s.size : Int) > 0) else false)
  | [], p, k, _, h => by
    have e := bt_end h
    rw [List.length_nil, newsreelref01_Digits.l0, if_neg (by omega)]
    rfl
  | c :: r, p, k, hs, h => by
    obtain ⟨hc, hlt⟩ := bt_mid h
    have ih := digs s r (p ++ [c]) k hs (by rw [h, List.append_assoc]; rfl)
    have e2 : Aside0 (wrap64 ((p.length : Int) + 1) = (((p ++ [c]).length : Nat) : Int)) := ⟨by rw [w64 (by omega) (by omega), List.length_append]; rfl⟩
    rw [List.length_cons, show k + 2 * (r.length + 1) + 1 = (k + 2 * r.length + 1) + 1 + 1 by omega, newsreelref01_Digits.l0, if_pos hlt, if_pos (by omega), hc, List.all_cons]
    by_cases d1 : (c.toNat : Int) < 48
    · have hn : isDg c = false := by unfold isDg; rw [decide_eq_false (by omega), Bool.false_and]
      rw [if_pos d1, newsreelref01_Digits.j1, if_pos rfl, hn, Bool.false_and, if_neg (by decide)]
    · by_cases d2 : (c.toNat : Int) > 57
      · have hn : isDg c = false := by unfold isDg; rw [show decide (c.toNat ≤ 57) = false from decide_eq_false (by omega), Bool.and_false]
        rw [if_neg d1, show decide ((c.toNat : Int) > 57) = true from decide_eq_true d2, newsreelref01_Digits.j1, if_pos rfl, hn, Bool.false_and, if_neg (by decide)]
      · have hn : isDg c = true := by unfold isDg; rw [decide_eq_true (by omega), decide_eq_true (by omega)]; rfl
        rw [if_neg d1, show decide ((c.toNat : Int) > 57) = false from decide_eq_false d2, newsreelref01_Digits.j1, if_neg (by decide), e2.out, ih, hn, Bool.true_and]
theorem num_l0 (s : ByteArray) (hs4 : s.size ≤ 4) : ∀ (r p : List UInt8) (a : Int) (k : Nat), s.data.toList = p ++ r → r.all isDg = true → 0 ≤ a → a ≤ bnd r.length →
    newsreelref17_Number.l0 (k + r.length + 1) s (s.size : Int) a (p.length : Int) = some (val r a)
  | [], p, a, k, h, _, _, _ => by
    have e := bt_end h
    rw [List.length_nil, Nat.add_zero, newsreelref17_Number.l0, if_neg (by omega)]
    rfl
  | c :: r, p, a, k, h, hd, h0, hb => by
    obtain ⟨hc, hlt⟩ := bt_mid h
    have hln : p.length + (r.length + 1) = s.size := by
      have := len_size s
      have h' := congrArg List.length h
      rw [List.length_append, List.length_cons] at h'
      omega
    rw [List.all_cons, Bool.and_eq_true] at hd
    obtain ⟨c1, c2⟩ := isDg_bd hd.1
    rw [List.length_cons] at hb
    obtain ⟨b1, b2, b3⟩ := bnd_step r.length a (by omega) h0 hb c.toNat c1 c2
    have ih := num_l0 s hs4 r (p ++ [c]) (10 * a + ((c.toNat : Int) - 48)) k (by rw [h, List.append_assoc]; rfl) hd.2 b1 b2
    have e1 : Aside0 (wrap64 ((wrap64 ((wrap64 (10 * a)) + (wrap64 (c.toNat : Int)))) - 48) = 10 * a + ((c.toNat : Int) - 48)) := ⟨by rw [w64 (n := 10 * a) (by omega) (by omega), w64 (n := (c.toNat : Int)) (by omega) (by omega), w64 (n := 10 * a + (c.toNat : Int)) (by omega) (by omega), w64 (by omega) (by omega)]; omega⟩
    have e2 : Aside0 (wrap64 ((p.length : Int) + 1) = (((p ++ [c]).length : Nat) : Int)) := ⟨by rw [w64 (by omega) (by omega), List.length_append]; rfl⟩
    rw [List.length_cons, show k + (r.length + 1) + 1 = (k + r.length + 1) + 1 by omega, newsreelref17_Number.l0, if_pos hlt, if_pos (by omega), if_pos hlt, hc, e1.out, e2.out, ih]
    rfl
theorem number_spec (s : ByteArray) (n : Int) (hn : 1 ≤ n ∧ n ≤ 4) (k : Nat) (hk : 20 ≤ k) :
    newsreelref17_Number.f k s n = some (if (s.size : Int) = n ∧ s.data.toList.all isDg = true then val s.data.toList 0 else -1) := by
  have hl := len_size s
  obtain ⟨k, rfl⟩ : ∃ j, k = j + 1 := ⟨k - 1, by omega⟩
  by_cases c : (s.size : Int) = n
  · obtain ⟨q, hq⟩ : ∃ q, k + 1 = q + 2 * s.data.toList.length + 1 := ⟨k + 1 - (2 * s.data.toList.length + 1), by omega⟩
    obtain ⟨q2, hq2⟩ : ∃ q, k = q + s.data.toList.length + 1 := ⟨k - (s.data.toList.length + 1), by omega⟩
    have hD : newsreelref01_Digits.f (k + 1) s = some (if s.data.toList.all isDg = true then decide ((s.size : Int) > 0) else false) := by
      rw [newsreelref01_Digits.f, hq]
      exact digs s s.data.toList [] q (by omega) rfl
    rw [newsreelref17_Number.f, if_pos c, hD, Option.bind_some, newsreelref17_Number.j0]
    cases hd : s.data.toList.all isDg with
    | false => rw [if_neg (show ¬ (false = true) by decide), Bool.not_false, if_pos rfl, if_neg (fun h => by cases h.2)]
    | true =>
      rw [if_pos rfl, show decide ((s.size : Int) > 0) = true from decide_eq_true (by omega), Bool.not_true, if_neg (by decide), if_pos ⟨c, rfl⟩, ← c, hq2]
      refine num_l0 s (by omega) s.data.toList [] 0 q2 rfl hd (Int.le_refl 0) ?_
      rw [hl]
      rcases (show s.size = 1 ∨ s.size = 2 ∨ s.size = 3 ∨ s.size = 4 by omega) with h | h | h | h <;> rw [h] <;> decide
  · rw [newsreelref17_Number.f, if_neg c, newsreelref17_Number.j0, if_pos rfl, if_neg (fun h => c h.1)]
theorem small_ref (c : UInt8) : (if (65 : Int) ≤ (c.toNat : Int) ∧ (c.toNat : Int) ≤ 90 then ((c.toNat : Int) + 32) % 256 else (c.toNat : Int)) = ((text_Lower.small c).toNat : Int) := by
  have h : ∀ n : Nat, n < 256 → (if (65 : Int) ≤ ((UInt8.ofNat n).toNat : Int) ∧ ((UInt8.ofNat n).toNat : Int) ≤ 90 then (((UInt8.ofNat n).toNat : Int) + 32) % 256 else ((UInt8.ofNat n).toNat : Int)) = ((text_Lower.small (UInt8.ofNat n)).toNat : Int) := by decide +kernel
  have := h c.toNat c.toNat_lt
  rwa [UInt8.ofNat_toNat] at this
def numsOf (l : List UInt8) : List Int := l.map fun c => (c.toNat : Int)
theorem strOfNums_of (l : List UInt8) : strOfNums (numsOf l) = ⟨l.toArray⟩ := by
  unfold strOfNums numsOf
  apply ByteArray.ext
  simp only [List.map_map]
  rw [show ((fun n : Int => UInt8.ofNat n.toNat) ∘ fun c : UInt8 => (c.toNat : Int)) = id from funext fun c => UInt8.ofNat_toNat, List.map_id]
theorem lower_l0 (s : ByteArray) (hs : s.size ≤ 1000) : ∀ (r p : List UInt8) (k : Nat), s.data.toList = p ++ r →
    newsreelref02_Lower.l0 (k + 2 * r.length + 1) s (numsOf (p.map text_Lower.small)) (p.length : Int) = some ⟨((p ++ r).map text_Lower.small).toArray⟩
  | [], p, k, h => by
    have e := bt_end h
    rw [List.length_nil, newsreelref02_Lower.l0, if_neg (by omega), strOfNums_of, List.append_nil]
  | c :: r, p, k, h => by
    obtain ⟨hc, hlt⟩ := bt_mid h
    have hpl : p.length < 1000 := by omega
    have ih := lower_l0 s hs r (p ++ [c]) k (by rw [h, List.append_assoc]; rfl)
    have e2 : Aside0 (wrap64 ((p.length : Int) + 1) = (((p ++ [c]).length : Nat) : Int)) := ⟨by rw [w64 (by omega) (by omega), List.length_append]; rfl⟩
    have hlen : (numsOf (p.map text_Lower.small)).length < 140737488355328 := by
      unfold numsOf
      rw [List.length_map, List.length_map]
      omega
    have hap : ∀ x : Int, x = ((text_Lower.small c).toNat : Int) → numsOf (p.map text_Lower.small) ++ [x] = numsOf ((p ++ [c]).map text_Lower.small) := by
      intro x hx
      subst hx
      simp [numsOf]
    have hsm := small_ref c
    rw [List.append_assoc] at ih
    rw [List.length_cons, show k + 2 * (r.length + 1) + 1 = (k + 2 * r.length + 1) + 1 + 1 by omega, newsreelref02_Lower.l0, if_pos hlt, if_pos (by omega), hc]
    by_cases d1 : (c.toNat : Int) ≥ 65
    · by_cases d2 : (c.toNat : Int) ≤ 90
      · rw [if_pos ⟨d1, d2⟩] at hsm
        rw [if_pos d1, decide_eq_true d2, newsreelref02_Lower.j1, if_pos rfl, if_pos hlen, hap _ hsm, e2.out, ih]
        rfl
      · rw [if_neg (fun h => d2 h.2)] at hsm
        rw [if_pos d1, decide_eq_false d2, newsreelref02_Lower.j1, if_neg (by decide), if_pos hlen, hap _ hsm, e2.out, ih]
        rfl
    · rw [if_neg (fun h => d1 h.1)] at hsm
      rw [if_neg d1, newsreelref02_Lower.j1, if_neg (by decide), if_pos hlen, hap _ hsm, e2.out, ih]
      rfl
def lowL (s : ByteArray) : List UInt8 := s.data.toList.map text_Lower.small
theorem lower_ref (s : ByteArray) (hs : s.size ≤ 1000) (k : Nat) (hk : 2 * s.size + 1 ≤ k) : newsreelref02_Lower.f k s = some ⟨(lowL s).toArray⟩ := by
  have hl := len_size s
  obtain ⟨q, rfl⟩ : ∃ q, k = q + 2 * s.data.toList.length + 1 := ⟨k - (2 * s.data.toList.length + 1), by omega⟩
  exact lower_l0 s hs s.data.toList [] q rfl
theorem lower_own (s : ByteArray) (hs : s.size ≤ 1000) : text_Lower.f s = some ⟨(lowL s).toArray⟩ := by
  rw [text_Lower.f, if_pos (by omega)]
  rfl
/-- The place of a text among texts, from a number on. -/
def place (x : List UInt8) : List (List UInt8) → Nat → Int
  | [], _ => -1
  | y :: l, i => if y = x then (i : Int) else place x l (i + 1)
theorem place_l0 (s : ByteArray) (hs : s.size ≤ 1000) (L : List ByteArray) (hL : L.length ≤ 100) : ∀ (r p : List ByteArray) (k : Nat), L = p ++ r → 2 * s.size + 1 ≤ k →
    newsreelref17_place.l0 (k + r.length + 1) s L (p.length : Int) = some (place (lowL s) (r.map fun b => b.data.toList) p.length)
  | [], p, k, h, hk => by
    have e : L.length = p.length := by rw [h, List.append_nil]
    rw [List.length_nil, newsreelref17_place.l0, if_neg (by omega)]
    rfl
  | b :: r, p, k, h, hk => by
    have hlt : p.length < L.length := by rw [h, List.length_append, List.length_cons]; omega
    have hrd : rdOf ByteArray.empty L (p.length : Int) = b := by
      unfold rdOf
      rw [show ((p.length : Int)).toNat = p.length from rfl, h]
      simp
    have ih := place_l0 s hs L hL r (p ++ [b]) k (by rw [h, List.append_assoc]; rfl) hk
    have e2 : Aside0 (wrap64 ((p.length : Int) + 1) = (((p ++ [b]).length : Nat) : Int)) := ⟨by rw [w64 (by omega) (by omega), List.length_append]; rfl⟩
    rw [List.length_cons, show k + (r.length + 1) + 1 = (k + r.length + 1) + 1 by omega, newsreelref17_place.l0, if_pos (by omega), if_pos (by omega), hrd, lower_ref s hs _ (by omega), Option.bind_some, ByteArray.toList_eq, ByteArray.toList_eq, List.map_cons, place]
    show (if b.data.toList = lowL s then _ else _) = _
    by_cases hb : b.data.toList = lowL s
    · rw [if_pos hb, if_pos hb]
    · rw [if_neg hb, if_neg hb, e2.out, ih, List.length_append]
      rfl
abbrev Tri := UInt8 × UInt8 × UInt8
def triL (t : Tri) : List UInt8 := [t.1, t.2.1, t.2.2]
def flat : List Tri → List UInt8
  | [] => []
  | t :: l => t.1 :: t.2.1 :: t.2.2 :: 32 :: flat l
theorem place_bd (x : List UInt8) : ∀ (l : List (List UInt8)) (i : Nat), place x l i = -1 ∨ (i : Int) ≤ place x l i
  | [], i => Or.inl rfl
  | y :: l, i => by
    unfold place
    split
    · exact Or.inr (Int.le_refl _)
    · rcases place_bd x l (i + 1) with h | h
      · exact Or.inl h
      · exact Or.inr (by omega)
theorem idx_flat (a b c : UInt8) (ha : a ≠ 32) (hb : b ≠ 32) (hc : c ≠ 32) : ∀ (l : List Tri) (i : Nat),
    Lib.index (flat l) [a, b, c, 32] = if place [a, b, c] (l.map triL) i = -1 then -1 else 4 * (place [a, b, c] (l.map triL) i - (i : Int))
  | [], i => rfl
  | t :: l, i => by
    have ih := idx_flat a b c ha hb hc l (i + 1)
    obtain ⟨y0, y1, y2⟩ := t
    have nb (u v : UInt8) (h : u ≠ v) : (u == v) = false := beq_eq_false_iff_ne.mpr h
    have e3 : Lib.index (32 :: flat l) [a, b, c, 32] = if Lib.index (flat l) [a, b, c, 32] == -1 then -1 else Lib.index (flat l) [a, b, c, 32] + 1 := by
      rw [Lib.index, List.isPrefixOf, nb a 32 ha, Bool.false_and, if_neg (by decide)]
    have e2 : Lib.index (y2 :: 32 :: flat l) [a, b, c, 32] = if Lib.index (32 :: flat l) [a, b, c, 32] == -1 then -1 else Lib.index (32 :: flat l) [a, b, c, 32] + 1 := by
      rw [Lib.index, List.isPrefixOf, List.isPrefixOf, nb b 32 hb, Bool.false_and, Bool.and_false, if_neg (by decide)]
    have e1 : Lib.index (y1 :: y2 :: 32 :: flat l) [a, b, c, 32] = if Lib.index (y2 :: 32 :: flat l) [a, b, c, 32] == -1 then -1 else Lib.index (y2 :: 32 :: flat l) [a, b, c, 32] + 1 := by
      rw [Lib.index, List.isPrefixOf, List.isPrefixOf, List.isPrefixOf, nb c 32 hc, Bool.false_and, Bool.and_false, Bool.and_false, if_neg (by decide)]
    have e0 : Lib.index (y0 :: y1 :: y2 :: 32 :: flat l) [a, b, c, 32] = if [y0, y1, y2] = [a, b, c] then 0 else (if Lib.index (y1 :: y2 :: 32 :: flat l) [a, b, c, 32] == -1 then -1 else Lib.index (y1 :: y2 :: 32 :: flat l) [a, b, c, 32] + 1) := by
      have hp : (List.isPrefixOf [a, b, c, 32] (y0 :: y1 :: y2 :: 32 :: flat l) = true) ↔ [y0, y1, y2] = [a, b, c] := by
        simp [List.isPrefixOf]
        constructor
        · rintro ⟨rfl, rfl, rfl⟩; exact ⟨rfl, rfl, rfl⟩
        · rintro ⟨rfl, rfl, rfl⟩; exact ⟨rfl, rfl, rfl⟩
      rw [Lib.index]
      by_cases hq : [y0, y1, y2] = [a, b, c]
      · rw [if_pos (hp.2 hq), if_pos hq]
      · rw [if_neg (fun h => hq (hp.1 h)), if_neg hq]
    show Lib.index (y0 :: y1 :: y2 :: 32 :: flat l) [a, b, c, 32] = _
    rw [e0, List.map_cons, place]
    show _ = if (if [y0, y1, y2] = [a, b, c] then (i : Int) else place [a, b, c] (l.map triL) (i + 1)) = -1 then -1 else 4 * ((if [y0, y1, y2] = [a, b, c] then (i : Int) else place [a, b, c] (l.map triL) (i + 1)) - (i : Int))
    by_cases hq : [y0, y1, y2] = [a, b, c]
    · rw [if_pos hq, if_pos hq, if_neg (by omega)]
      omega
    · rw [if_neg hq, if_neg hq, e1, e2, e3, ih]
      rcases place_bd [a, b, c] (l.map triL) (i + 1) with h | h
      · rw [h]
        rfl
      · generalize place [a, b, c] (l.map triL) (i + 1) = q at *
        have n0 : ¬ q = -1 := by omega
        have nq (z : Int) (hz : 0 ≤ z) : ¬ ((z == -1) = true) := by rw [beq_iff_eq]; omega
        rw [if_neg n0, if_neg n0, if_neg (nq (4 * (q - ((i + 1 : Nat) : Int))) (by omega)), if_neg (nq (4 * (q - ((i + 1 : Nat) : Int)) + 1) (by omega)), if_neg (nq (4 * (q - ((i + 1 : Nat) : Int)) + 1 + 1) (by omega)), if_neg (nq (4 * (q - ((i + 1 : Nat) : Int)) + 1 + 1 + 1) (by omega))]
        omega
theorem place_none (x : List UInt8) : ∀ (l : List (List UInt8)) (i : Nat), (∀ y ∈ l, y ≠ x) → place x l i = -1
  | [], i, _ => rfl
  | y :: l, i, h => by
    rw [place, if_neg (h y (.head _)), place_none x l (i + 1) (fun z hz => h z (.tail _ hz))]
def moT : List Tri := [(106, 97, 110), (102, 101, 98), (109, 97, 114), (97, 112, 114), (109, 97, 121), (106, 117, 110), (106, 117, 108), (97, 117, 103), (115, 101, 112), (111, 99, 116), (110, 111, 118), (100, 101, 99)]
def wdT : List Tri := [(116, 104, 117), (102, 114, 105), (115, 97, 116), (115, 117, 110), (109, 111, 110), (116, 117, 101), (119, 101, 100)]
theorem low_space (c : UInt8) : text_Lower.small c = 32 ↔ c = 32 := by
  have h : ∀ n : Nat, n < 256 → (text_Lower.small (UInt8.ofNat n) = 32 ↔ UInt8.ofNat n = 32) := by decide +kernel
  have := h c.toNat c.toNat_lt
  rwa [UInt8.ofNat_toNat] at this
theorem index_one : ∀ l : List UInt8, (0 ≤ Lib.index l [32]) ↔ 32 ∈ l
  | [] => by decide
  | b :: l => by
    have ih := index_one l
    have hge := Lib.index_ge l [32]
    rw [Lib.index, List.mem_cons]
    by_cases hb : (32 : UInt8) = b
    · subst hb
      rw [if_pos (show List.isPrefixOf [32] ((32 : UInt8) :: l) = true by simp [List.isPrefixOf])]
      exact ⟨fun _ => Or.inl rfl, fun _ => Int.le_refl 0⟩
    · have hp : List.isPrefixOf [32] (b :: l) = false := by
        rw [List.isPrefixOf, beq_eq_false_iff_ne.mpr hb, Bool.false_and]
      rw [hp, if_neg (by decide)]
      by_cases h1 : Lib.index l [32] = -1
      · rw [h1] at ih ⊢
        constructor
        · intro h; exact absurd h (by decide)
        · rintro (h | h)
          · exact absurd h hb
          · exact absurd (ih.2 h) (by decide)
      · rw [if_neg (by rw [beq_iff_eq]; exact h1)]
        constructor
        · intro _; exact Or.inr (ih.1 (by omega))
        · intro _; omega
theorem index_spec (T : List Tri) (names : ByteArray) (hT : names.data.toList = flat T) (hT2 : T.length ≤ 20) (hT3 : ∀ t ∈ T, (32 : UInt8) ∉ triL t) (s : ByteArray) (hs : s.size ≤ 1000) (k : Nat) (hk : 3 ≤ k) :
    stamp_index.f k names s = some (place (lowL s) (T.map triL) 0) := by
  obtain ⟨k, rfl⟩ : ∃ j, k = j + 1 + 1 := ⟨k - 2, by omega⟩
  have hl := len_size s
  have hll : (lowL s).length = s.size := by rw [lowL, List.length_map, hl]
  have hsz : names.size = 4 * T.length := by
    rw [← len_size names, hT]
    clear hT hT2 hT3
    induction T with
    | nil => rfl
    | cons t T ih => simp only [flat, List.length_cons, ih]; omega
  by_cases c3 : (s.size : Int) = 3
  · have hct : strings_Contains.f s ⟨#[32]⟩ = some (Lib.contains s.data.toList [32]) := by rw [strings_Contains.f, if_pos (by omega)]
    rw [stamp_index.f, if_pos c3, hct, Option.bind_some, stamp_index.j0]
    by_cases hc : 32 ∈ s.data.toList
    · have h1 : Lib.contains s.data.toList [32] = true := decide_eq_true ((index_one _).2 hc)
      rw [h1, if_pos rfl, place_none]
      intro y hy e
      obtain ⟨t, ht, rfl⟩ := List.mem_map.1 hy
      refine hT3 t ht ?_
      rw [e]
      exact List.mem_map.2 ⟨32, hc, rfl⟩
    · have h1 : Lib.contains s.data.toList [32] = false := decide_eq_false (fun h => hc ((index_one _).1 h))
      have hlow : (32 : UInt8) ∉ lowL s := by
        intro h
        obtain ⟨c, hcm, e⟩ := List.mem_map.1 h
        rw [(low_space c).1 e] at hcm
        exact hc hcm
      have h3 : (lowL s).length = 3 := by omega
      obtain ⟨a, b, c, habc⟩ : ∃ a b c, lowL s = [a, b, c] := by
        match hx : lowL s, h3 with
        | [a, b, c], _ => exact ⟨a, b, c, rfl⟩
      rw [habc] at hlow
      have ha : a ≠ 32 := fun e => hlow (by rw [e]; exact .head _)
      have hb : b ≠ 32 := fun e => hlow (by rw [e]; exact .tail _ (.head _))
      have hcc : c ≠ 32 := fun e => hlow (by rw [e]; exact .tail _ (.tail _ (.head _)))
      have hix := idx_flat a b c ha hb hcc T 0
      have happ : (⟨(lowL s).toArray⟩ : ByteArray) ++ (⟨#[32]⟩ : ByteArray) = ⟨#[a, b, c, 32]⟩ := by rw [habc]; rfl
      have hsi : strings_Index.f names ⟨#[a, b, c, 32]⟩ = some (Lib.index (flat T) [a, b, c, 32]) := by rw [strings_Index.f, if_pos (by omega), hT]
      have hz : (⟨(lowL s).toArray⟩ : ByteArray).size = 3 := by rw [habc]; rfl
      rw [h1, if_neg (by decide), lower_own s hs, Option.bind_some, if_pos (by rw [hz]; decide), happ, hsi, Option.bind_some, hix, habc]
      rcases place_bd [a, b, c] (T.map triL) 0 with h | h
      · rw [h, if_pos rfl, if_pos (by decide), stamp_index.j1, if_pos rfl]
      · have hub : place [a, b, c] (T.map triL) 0 ≤ 100 := by
          have key : ∀ (l : List (List UInt8)) (i : Nat), place [a, b, c] l i ≤ (i : Int) + l.length := by
            intro l
            induction l with
            | nil => intro i; unfold place; omega
            | cons y l ih =>
              intro i
              unfold place
              split
              · omega
              · have := ih (i + 1)
                rw [List.length_cons]
                omega
          have := key (T.map triL) 0
          rw [List.length_map] at this
          omega
        generalize place [a, b, c] (T.map triL) 0 = q at *
        have w : Aside0 (wrap64 (Int.tdiv (4 * (q - ((0 : Nat) : Int))) 4) = q) := ⟨by
          have : Int.tdiv (4 * (q - ((0 : Nat) : Int))) 4 = q := by
            rw [show 4 * (q - ((0 : Nat) : Int)) = 4 * q by omega, Int.mul_tdiv_cancel_left _ (by decide)]
          rw [this, w64 (by omega) (by omega)]⟩
        have m : Int.tmod (4 * (q - ((0 : Nat) : Int))) 4 = 0 := by rw [show 4 * (q - ((0 : Nat) : Int)) = 4 * q by omega, Int.mul_tmod_right]
        rw [if_neg (by omega), if_neg (by omega), m, show ((0 : Int) != 0) = false from rfl, stamp_index.j1, if_neg (by decide), w.out]
  · rw [stamp_index.f, if_neg c3, stamp_index.j0, if_pos rfl, place_none]
    intro y hy e
    obtain ⟨t, ht, rfl⟩ := List.mem_map.1 hy
    have := congrArg List.length e
    rw [hll] at this
    simp only [triL, List.length_cons, List.length_nil] at this
    omega
end Go.Proofs.YtghdkpcpgpfgcaaDoor.XStb
namespace Go.Proofs.YtghdkpcpgpfgcaaDoor.XStb
open Go.RowKit Go.Proofs.YtghdkpcpgpfgcaaDoorW.PrintWords Go.Proofs.YtghdkpcpgpfgcaaDoorW.PrintLast Go.Proofs.YtghdkpcpgpfgcaaDoorW.PrintMore
/-- A digit, as a byte. -/
def dg (n : Nat) : UInt8 := UInt8.ofNat (48 + n)
def two (n : Nat) : ByteArray := ⟨#[dg (n / 10), dg (n % 10)]⟩
def four (n : Nat) : ByteArray := ⟨#[dg (n / 1000), dg (n / 100 % 10), dg (n / 10 % 10), dg (n % 10)]⟩
def okB (b : UInt8) : Bool := decide (b.toNat < 128) && (b != 32) && (b != 9) && (b != 58)
def wdN : ByteArray := ⟨#[116, 104, 117, 32, 102, 114, 105, 32, 115, 97, 116, 32, 115, 117, 110, 32, 109, 111, 110, 32, 116, 117, 101, 32, 119, 101, 100, 32]⟩
def moN : ByteArray := ⟨#[106, 97, 110, 32, 102, 101, 98, 32, 109, 97, 114, 32, 97, 112, 114, 32, 109, 97, 121, 32, 106, 117, 110, 32, 106, 117, 108, 32, 97, 117, 103, 32, 115, 101, 112, 32, 111, 99, 116, 32, 110, 111, 118, 32, 100, 101, 99, 32]⟩
def wd0 (i : Nat) : UInt8 := [84, 70, 83, 83, 77, 84, 87].getD i 0
def wd1 (i : Nat) : UInt8 := [104, 114, 97, 117, 111, 117, 101].getD i 0
def wd2 (i : Nat) : UInt8 := [117, 105, 116, 110, 110, 101, 100].getD i 0
def mo0 (i : Nat) : UInt8 := [74, 70, 77, 65, 77, 74, 74, 65, 83, 79, 78, 68].getD i 0
def mo1 (i : Nat) : UInt8 := [97, 101, 97, 112, 97, 117, 117, 117, 101, 99, 111, 101].getD i 0
def mo2 (i : Nat) : UInt8 := [110, 98, 114, 114, 121, 110, 108, 103, 112, 116, 118, 99].getD i 0
theorem two_put : ∀ n : Nat, n < 100 → stamp_two.f (n : Int) = some (two n) := by decide +kernel
theorem two_get : ∀ n < 100, stamp_digits.f 10 (two n) 2 2 = some (n : Int) := by decide +kernel
theorem two_get1 : ∀ n < 100, stamp_digits.f 10 (two n) 1 2 = some (n : Int) := by decide +kernel
theorem four_put : ∀ n < 230, num_Put.f ((1970 + n : Nat) : Int) = some (four (1970 + n)) := by decide +kernel
theorem four_get : ∀ n < 230, stamp_digits.f 10 (four (1970 + n)) 4 4 = some ((1970 + n : Nat) : Int) := by decide +kernel
theorem wd_put : ∀ i : Nat, i < 7 → stamp_name.f wdN (i : Int) = some ⟨#[wd0 i, wd1 i, wd2 i]⟩ := by decide +kernel
theorem wd_get : ∀ i < 7, stamp_index.f 10 wdN ⟨#[wd0 i, wd1 i, wd2 i]⟩ = some (i : Int) := by decide +kernel
theorem wd_cut : ∀ i < 7, strings_CutSuffix.f ⟨#[wd0 i, wd1 i, wd2 i, 44]⟩ ⟨#[44]⟩ = some (⟨#[wd0 i, wd1 i, wd2 i]⟩, true) := by decide +kernel
theorem mo_put : ∀ i : Nat, i < 12 → stamp_name.f moN (i : Int) = some ⟨#[mo0 i, mo1 i, mo2 i]⟩ := by decide +kernel
theorem mo_get : ∀ i < 12, stamp_index.f 10 moN ⟨#[mo0 i, mo1 i, mo2 i]⟩ = some (i : Int) := by decide +kernel
theorem dg_ok : ∀ n < 10, okB (dg n) = true := by decide +kernel
theorem wd_ok : ∀ i < 7, (okB (wd0 i) && okB (wd1 i) && okB (wd2 i)) = true := by decide +kernel
theorem mo_ok : ∀ i < 12, (okB (mo0 i) && okB (mo1 i) && okB (mo2 i)) = true := by decide +kernel
theorem wd_next : ∀ i < 7, ¬ (wd0 i = wd0 ((i + 1) % 7) ∧ wd1 i = wd1 ((i + 1) % 7) ∧ wd2 i = wd2 ((i + 1) % 7)) := by decide +kernel
def zoneS (m : Nat) : ByteArray := ⟨#[43, dg (m / 60 / 10), dg (m / 60 % 10), dg (m % 60 / 10), dg (m % 60 % 10)]⟩
theorem zone_gmt : stamp_zone.f 12 ⟨#[71, 77, 84]⟩ = some (0, 0) := by decide +kernel
theorem zone_get : ∀ m < 1440, stamp_zone.f 20 (zoneS m) = some (((60 * m : Nat) : Int), 0) := by decide +kernel
end Go.Proofs.YtghdkpcpgpfgcaaDoor.XStb
namespace Go.Proofs.YtghdkpcpgpfgcaaDoor.XStb
open Go.RowKit Go.Proofs.YtghdkpcpgpfgcaaDoorW.PrintWords Go.Proofs.YtghdkpcpgpfgcaaDoorW.PrintLast Go.Proofs.YtghdkpcpgpfgcaaDoorW.PrintMore
open Go.Lib
/-- A byte that stands in a field. -/
def okF (b : UInt8) : Bool := decide (b.toNat < 128) && (b != 32) && (b != 9)
def chk (b : UInt8) (m : Bool) : Bool := if m then b == 32 else okF b
def chks : List UInt8 → List Bool → Bool
  | [], [] => true
  | b :: l, m :: ms => chk b m && chks l ms
  | _, _ => false
def spansM (mask : List Bool) : Nat → Nat → Option Nat → List (Nat × Nat) → List (Nat × Nat) × Option Nat
  | 0, _, st, acc => (acc, st)
  | f + 1, pos, st, acc =>
    if pos < mask.length then
      (if mask.getD pos false then
        (match st with
         | some a => spansM mask f (pos + 1) none (acc ++ [(a, pos)])
         | none => spansM mask f (pos + 1) none acc)
       else
        (match st with
         | some a => spansM mask f (pos + 1) (some a) acc
         | none => spansM mask f (pos + 1) (some pos) acc))
    else (acc, st)
theorem chks_len : ∀ (l : List UInt8) (ms : List Bool), chks l ms = true → ms.length = l.length
  | [], [], _ => rfl
  | b :: l, m :: ms, h => by
    have h : (chk b m && chks l ms) = true := h
    have := chks_len l ms (Bool.and_eq_true_iff.1 h).2
    rw [List.length_cons, List.length_cons, this]
  | [], _ :: _, h => by cases h
  | _ :: _, [], h => by cases h
theorem chks_at : ∀ (l : List UInt8) (ms : List Bool), chks l ms = true → ∀ i b, l[i]? = some b → chk b (ms.getD i false) = true
  | [], [], _, i, b, hb => by simp at hb
  | c :: l, m :: ms, h, i, b, hb => by
    have h : (chk c m && chks l ms) = true := h
    cases i with
    | zero =>
      obtain rfl : c = b := Option.some.inj hb
      exact (Bool.and_eq_true_iff.1 h).1
    | succ i => exact chks_at l ms (Bool.and_eq_true_iff.1 h).2 i b hb
  | [], _ :: _, h, _, _, _ => by cases h
  | _ :: _, [], h, _, _, _ => by cases h
theorem chk_at {b : UInt8} {m : Bool} (h : chk b m = true) : b.toNat < 128 ∧ stamp_fields.blank b.toNat = m := by
  unfold chk at h
  cases m with
  | true =>
    obtain rfl : b = 32 := by simpa using h
    exact ⟨by decide, rfl⟩
  | false =>
    have h : okF b = true := h
    unfold okF at h
    simp only [Bool.and_eq_true, decide_eq_true_eq, bne_iff_ne] at h
    obtain ⟨⟨h1, h2⟩, h3⟩ := h
    refine ⟨h1, ?_⟩
    unfold stamp_fields.blank
    rw [Bool.or_eq_false_iff]
    exact ⟨beq_eq_false_iff_ne.mpr fun e => h2 (UInt8.toNat_inj.1 e), beq_eq_false_iff_ne.mpr fun e => h3 (UInt8.toNat_inj.1 e)⟩
theorem spans_eq (l : List UInt8) (ms : List Bool) (h : chks l ms = true) : ∀ (f pos : Nat) (st : Option Nat) (acc : List (Nat × Nat)),
    spansFromP stamp_fields.blank ⟨l.toArray⟩ f pos st acc = spansM ms f pos st acc
  | 0, _, _, _ => rfl
  | f + 1, pos, st, acc => by
    have hl : (⟨l.toArray⟩ : ByteArray).size = ms.length := by rw [chks_len l ms h]; rfl
    unfold spansFromP spansM
    rw [hl]
    by_cases hp : pos < ms.length
    · rw [if_pos hp, if_pos hp]
      have hpl : pos < l.length := by rw [← chks_len l ms h]; exact hp
      have hps : pos < (⟨l.toArray⟩ : ByteArray).size := by rw [hl]; exact hp
      have hb := chk_at (chks_at l ms h pos l[pos] (List.getElem?_eq_getElem hpl))
      have hg : (⟨l.toArray⟩ : ByteArray)[pos]'hps = l[pos] := rfl
      rw [decode_ascii ⟨l.toArray⟩ pos hps (by rw [hg]; exact hb.1), hg]
      dsimp only
      rw [hb.2]
      split <;> cases st <;> exact spans_eq l ms h f _ _ _
    · rw [if_neg hp, if_neg hp]
theorem fields_eq (l : List UInt8) (ms : List Bool) (h : chks l ms = true) (r : List ByteArray) (hr : (closeSpans ⟨l.toArray⟩ (spansM ms ms.length 0 none [])).map (fun x => (⟨l.toArray⟩ : ByteArray).extract x.1 x.2) = r)
    (h1 : l.length ≤ 4294967296) (h2 : r.length ≤ 9223372036854775807) : stamp_fields.f ⟨l.toArray⟩ = some r := by
  have hl : (⟨l.toArray⟩ : ByteArray).size = ms.length := by rw [chks_len l ms h]; rfl
  have e : goFieldsP stamp_fields.blank ⟨l.toArray⟩ = r := by
    unfold goFieldsP spansOfP
    rw [spans_eq l ms h, hl]
    exact hr
  unfold stamp_fields.f
  rw [e, if_pos ⟨h1, h2⟩]
/-- The two that a digit's pair gives: no colon, no blank. -/
theorem okB_okF {b : UInt8} (h : okB b = true) : okF b = true := by
  unfold okB at h
  unfold okF
  simp only [Bool.and_eq_true] at h ⊢
  exact h.1
theorem okB_colon {b : UInt8} (h : okB b = true) : (b == 58) = false := by
  unfold okB at h
  simp only [Bool.and_eq_true, bne_iff_ne] at h
  exact beq_eq_false_iff_ne.mpr h.2
theorem idx_first {a b : UInt8} (l : List UInt8) (ha : okB a = true) (hb : okB b = true) : indexByte (a :: b :: 58 :: l) 58 = 2 := by
  have h1 := okB_colon ha
  have h2 := okB_colon hb
  have h3 : indexByte (58 :: l) 58 = 0 := rfl
  have h4 : indexByte (b :: 58 :: l) 58 = 1 := by rw [indexByte, h2, h3]; rfl
  rw [indexByte, h1, h4]
  rfl
theorem idx_none {a b : UInt8} (ha : okB a = true) (hb : okB b = true) : indexByte [a, b] 58 = -1 := by
  rw [indexByte, okB_colon ha, indexByte, okB_colon hb]
  rfl
theorem w23 : wrap64 (2 + 1) = 3 := by rw [w64 (by decide) (by decide)]; rfl
theorem cut8 {a b c d e f : UInt8} (ha : okB a = true) (hb : okB b = true) : text_Cut.f ⟨#[a, b, 58, c, d, 58, e, f]⟩ 58 = some (⟨#[a, b]⟩, ⟨#[c, d, 58, e, f]⟩, true) := by
  have hi : strings_IndexByte.f ⟨#[a, b, 58, c, d, 58, e, f]⟩ 58 = some 2 := congrArg some (idx_first [c, d, 58, e, f] ha hb)
  have hs : (((⟨#[a, b, 58, c, d, 58, e, f]⟩ : ByteArray).size : Nat) : Int) = 8 := rfl
  rw [text_Cut.f, hi, Option.bind_some, w23, hs, if_neg (by decide), if_pos (by decide), if_pos (by decide), if_pos (by decide), if_pos (by decide)]
  rfl
theorem cut5 {a b c d : UInt8} (ha : okB a = true) (hb : okB b = true) : text_Cut.f ⟨#[a, b, 58, c, d]⟩ 58 = some (⟨#[a, b]⟩, ⟨#[c, d]⟩, true) := by
  have hi : strings_IndexByte.f ⟨#[a, b, 58, c, d]⟩ 58 = some 2 := congrArg some (idx_first [c, d] ha hb)
  have hs : (((⟨#[a, b, 58, c, d]⟩ : ByteArray).size : Nat) : Int) = 5 := rfl
  rw [text_Cut.f, hi, Option.bind_some, w23, hs, if_neg (by decide), if_pos (by decide), if_pos (by decide), if_pos (by decide), if_pos (by decide)]
  rfl
theorem cut_none {a b : UInt8} (ha : okB a = true) (hb : okB b = true) : text_Cut.f ⟨#[a, b]⟩ 58 = some (⟨#[a, b]⟩, ⟨#[]⟩, false) := by
  have hi : strings_IndexByte.f ⟨#[a, b]⟩ 58 = some (-1) := congrArg some (idx_none ha hb)
  rw [text_Cut.f, hi, Option.bind_some, if_pos (by decide)]
theorem split_clock {a b c d e f : UInt8} (ha : okB a = true) (hb : okB b = true) (hc : okB c = true) (hd : okB d = true) (he : okB e = true) (hf : okB f = true) (k : Nat) (hk : 3 ≤ k) :
    text_Split.f k ⟨#[a, b, 58, c, d, 58, e, f]⟩ 58 = some [⟨#[a, b]⟩, ⟨#[c, d]⟩, ⟨#[e, f]⟩] := by
  obtain ⟨k, rfl⟩ : ∃ j, k = j + 1 + 1 + 1 := ⟨k - 3, by omega⟩
  rw [text_Split.f, text_Split.l0, cut8 ha hb, Option.bind_some]
  dsimp only
  rw [if_pos (by decide), Option.bind_some, if_pos rfl, text_Split.l0, cut5 hc hd, Option.bind_some]
  dsimp only
  rw [if_pos (by simp), Option.bind_some, if_pos rfl, text_Split.l0, cut_none he hf, Option.bind_some]
  dsimp only
  rw [if_pos (by simp), Option.bind_some, if_neg (by decide)]
  rfl
theorem dg2 (n : Nat) (hn : n < 100) : okB (dg (n / 10)) = true ∧ okB (dg (n % 10)) = true := ⟨dg_ok _ (by omega), dg_ok _ (by omega)⟩
theorem two_up (n : Nat) (hn : n < 100) : ∀ k, 10 ≤ k → stamp_digits.f k (two n) 2 2 = some (n : Int) := up (fun k => stamp_digits.mono _ _ _ k) (two_get n hn)
theorem two_up1 (n : Nat) (hn : n < 100) : ∀ k, 10 ≤ k → stamp_digits.f k (two n) 1 2 = some (n : Int) := up (fun k => stamp_digits.mono _ _ _ k) (two_get1 n hn)
theorem four_up (n : Nat) (hn : n < 230) : ∀ k, 10 ≤ k → stamp_digits.f k (four (1970 + n)) 4 4 = some ((1970 + n : Nat) : Int) := up (fun k => stamp_digits.mono _ _ _ k) (four_get n hn)
theorem mo_up (n : Nat) (hn : n < 12) : ∀ k, 10 ≤ k → stamp_index.f k moN ⟨#[mo0 n, mo1 n, mo2 n]⟩ = some (n : Int) := up (fun k => stamp_index.mono _ _ k) (mo_get n hn)
theorem wd_up (n : Nat) (hn : n < 7) : ∀ k, 10 ≤ k → stamp_index.f k wdN ⟨#[wd0 n, wd1 n, wd2 n]⟩ = some (n : Int) := up (fun k => stamp_index.mono _ _ k) (wd_get n hn)
theorem gmt_up : ∀ k, 20 ≤ k → stamp_zone.f k ⟨#[71, 77, 84]⟩ = some (0, 0) := fun k hk => up (fun k => stamp_zone.mono _ k) zone_gmt k (by omega)
theorem zone_up (m : Nat) (hm : m < 1440) : ∀ k, 20 ≤ k → stamp_zone.f k (zoneS m) = some (((60 * m : Nat) : Int), 0) := up (fun k => stamp_zone.mono _ k) (zone_get m hm)
def clockS (h m s : Nat) : ByteArray := ⟨#[dg (h / 10), dg (h % 10), 58, dg (m / 10), dg (m % 10), 58, dg (s / 10), dg (s % 10)]⟩
theorem clock_get (h m s : Nat) (hh : h < 100) (hm : m < 100) (hs : s < 100) (k : Nat) (hk : 20 ≤ k) : stamp_parseClock.f k (clockS h m s) = some ((h : Int), (m : Int), (s : Int), true) := by
  obtain ⟨k, rfl⟩ : ∃ j, k = j + 1 := ⟨k - 1, by omega⟩
  have e := split_clock (dg2 h hh).1 (dg2 h hh).2 (dg2 m hm).1 (dg2 m hm).2 (dg2 s hs).1 (dg2 s hs).2 (k + 1) (by omega)
  have e1 := two_up h hh k (by omega)
  have e2 := two_up m hm k (by omega)
  have e3 := two_up s hs k (by omega)
  unfold clockS
  rw [stamp_parseClock.f, e, Option.bind_some, if_neg (by simp), stamp_parseClock.j0, if_pos (by simp), if_pos (by simp)]
  refine (show Option.bind (stamp_digits.f k (two h) 2 2) _ = _ from ?_)
  rw [e1, Option.bind_some, if_pos (by simp)]
  refine (show Option.bind (stamp_digits.f k (two m) 2 2) _ = _ from ?_)
  rw [e2, Option.bind_some, if_pos (by simp)]
  refine (show Option.bind (stamp_digits.f k (two s) 2 2) _ = _ from ?_)
  rw [e3, Option.bind_some, if_pos (by omega), if_pos (by omega), show decide ((s : Int) ≥ 0) = true from decide_eq_true (by omega)]
/-- A rune that is no ASCII: its bytes are none, and lie in the text. -/
theorem decode_bytes (s : ByteArray) (i : Nat) (hi : i < s.size) (h0 : 128 ≤ (s.get! i).toNat) : ∀ j, j < (Utf8.decode s i).2 → i + j < s.size ∧ 128 ≤ (s.get! (i + j)).toNat := by
  have key : ∀ k, (decide (i + k < s.size) && (s.get! (i + k)).toNat / 64 == 2) = true → i + k < s.size ∧ 128 ≤ (s.get! (i + k)).toNat := by
    intro k h
    rw [Bool.and_eq_true, decide_eq_true_eq, beq_iff_eq] at h
    exact ⟨h.1, by omega⟩
  have z : i + 0 < s.size ∧ 128 ≤ (s.get! (i + 0)).toNat := ⟨hi, h0⟩
  intro j hj
  unfold Utf8.decode at hj
  simp only at hj
  rw [if_neg (by show ¬ (s.get! (i + 0)).toNat < 128; have := z.2; omega)] at hj
  split at hj
  · rename_i c
    rw [Bool.and_eq_true] at c
    split at hj
    · rcases (show j = 0 ∨ j = 1 by simp only at hj; omega) with rfl | rfl
      · exact z
      · exact key 1 c.2
    · obtain rfl : j = 0 := by simp only at hj; omega
      exact z
  · split at hj
    · rename_i c
      rw [Bool.and_eq_true, Bool.and_eq_true] at c
      split at hj
      · rcases (show j = 0 ∨ j = 1 ∨ j = 2 by simp only at hj; omega) with rfl | rfl | rfl
        · exact z
        · exact key 1 c.1.2
        · exact key 2 c.2
      · obtain rfl : j = 0 := by simp only at hj; omega
        exact z
    · split at hj
      · rename_i c
        rw [Bool.and_eq_true, Bool.and_eq_true, Bool.and_eq_true] at c
        split at hj
        · rcases (show j = 0 ∨ j = 1 ∨ j = 2 ∨ j = 3 by simp only at hj; omega) with rfl | rfl | rfl | rfl
          · exact z
          · exact key 1 c.1.1.2
          · exact key 2 c.1.2
          · exact key 3 c.2
        · obtain rfl : j = 0 := by simp only at hj; omega
          exact z
      · obtain rfl : j = 0 := by simp only at hj; omega
        exact z
def blB (c : UInt8) : Bool := c == 32 || c == 9
theorem sM_some (mask : List Bool) (f pos a : Nat) (acc : List (Nat × Nat)) : spansM mask (f + 1) pos (some a) acc = if pos < mask.length then (if mask.getD pos false = true then spansM mask f (pos + 1) none (acc ++ [(a, pos)]) else spansM mask f (pos + 1) (some a) acc) else (acc, some a) := rfl
theorem sM_none (mask : List Bool) (f pos : Nat) (acc : List (Nat × Nat)) : spansM mask (f + 1) pos none acc = if pos < mask.length then (if mask.getD pos false = true then spansM mask f (pos + 1) none acc else spansM mask f (pos + 1) (some pos) acc) else (acc, none) := rfl
theorem sP_some (p : Nat → Bool) (s : ByteArray) (f pos a : Nat) (acc : List (Nat × Nat)) : spansFromP p s (f + 1) pos (some a) acc = if pos < s.size then (if p (Utf8.decode s pos).1 = true then spansFromP p s f (pos + (Utf8.decode s pos).2) none (acc ++ [(a, pos)]) else spansFromP p s f (pos + (Utf8.decode s pos).2) (some a) acc) else (acc, some a) := rfl
theorem sP_none (p : Nat → Bool) (s : ByteArray) (f pos : Nat) (acc : List (Nat × Nat)) : spansFromP p s (f + 1) pos none acc = if pos < s.size then (if p (Utf8.decode s pos).1 = true then spansFromP p s f (pos + (Utf8.decode s pos).2) none acc else spansFromP p s f (pos + (Utf8.decode s pos).2) (some pos) acc) else (acc, none) := rfl
theorem skipM (mask : List Bool) (a : Nat) (acc : List (Nat × Nat)) : ∀ n f pos, (∀ j, j < n → pos + j < mask.length ∧ mask.getD (pos + j) false = false) →
    spansM mask (f + n) pos (some a) acc = spansM mask f (pos + n) (some a) acc
  | 0, f, pos, _ => rfl
  | n + 1, f, pos, h => by
    have h0 := h 0 (by omega)
    rw [Nat.add_zero] at h0
    rw [show f + (n + 1) = (f + n) + 1 by omega, sM_some, if_pos h0.1, h0.2, if_neg (by decide), skipM mask a acc n f (pos + 1) (fun j hj => by
      have := h (j + 1) (by omega)
      rw [show pos + 1 + j = pos + (j + 1) by omega]
      exact this), show pos + 1 + n = pos + (n + 1) by omega]
theorem blank_hi (n : Nat) (h : 128 ≤ n) : stamp_fields.blank n = false := by
  unfold stamp_fields.blank
  rw [Bool.or_eq_false_iff]
  exact ⟨beq_eq_false_iff_ne.mpr (by omega), beq_eq_false_iff_ne.mpr (by omega)⟩
theorem blank_lo (c : UInt8) : stamp_fields.blank c.toNat = blB c := by
  unfold stamp_fields.blank blB
  have h : ∀ d : UInt8, (c.toNat == d.toNat) = (c == d) := fun d => by
    by_cases e : c = d
    · rw [e, beq_self_eq_true, beq_self_eq_true]
    · rw [beq_eq_false_iff_ne.mpr (fun h => e (UInt8.toNat_inj.1 h)), beq_eq_false_iff_ne.mpr e]
  rw [← h 32, ← h 9]
  rfl
theorem spans_bytes (l : List UInt8) : ∀ (m f g pos : Nat) (st : Option Nat) (acc : List (Nat × Nat)), l.length - pos ≤ m → l.length - pos ≤ f → l.length - pos ≤ g →
    spansFromP stamp_fields.blank ⟨l.toArray⟩ f pos st acc = spansM (l.map blB) g pos st acc := by
  have hl : (⟨l.toArray⟩ : ByteArray).size = l.length := rfl
  have hml : (l.map blB).length = l.length := List.length_map ..
  intro m
  induction m with
  | zero =>
    intro f g pos st acc h1 h2 h3
    have e1 : ¬ pos < (⟨l.toArray⟩ : ByteArray).size := by rw [hl]; omega
    rw [spansFromP_end _ _ _ _ _ _ e1]
    cases g with
    | zero => rfl
    | succ g => cases st <;> first | rw [sM_some, if_neg (by rw [hml]; omega)] | rw [sM_none, if_neg (by rw [hml]; omega)]
  | succ m ih =>
    intro f g pos st acc h1 h2 h3
    by_cases hp : pos < l.length
    · obtain ⟨f, rfl⟩ : ∃ j, f = j + 1 := ⟨f - 1, by omega⟩
      have hps : pos < (⟨l.toArray⟩ : ByteArray).size := by rw [hl]; exact hp
      have hg : (⟨l.toArray⟩ : ByteArray)[pos]'hps = l[pos] := rfl
      have hm : (l.map blB).getD pos false = blB l[pos] := by
        rw [List.getD_eq_getElem?_getD, List.getElem?_map, List.getElem?_eq_getElem hp]; rfl
      by_cases ha : l[pos].toNat < 128
      · obtain ⟨g, rfl⟩ : ∃ j, g = j + 1 := ⟨g - 1, by omega⟩
        have hdc := decode_ascii ⟨l.toArray⟩ pos hps (by rw [hg]; exact ha)
        rw [hg] at hdc
        have hpm : pos < (l.map blB).length := by rw [hml]; exact hp
        cases st with
        | some a =>
          rw [sP_some, if_pos hps, sM_some, if_pos hpm, hdc, hm]
          dsimp only
          rw [blank_lo]
          split <;> exact ih f g (pos + 1) _ _ (by omega) (by omega) (by omega)
        | none =>
          rw [sP_none, if_pos hps, sM_none, if_pos hpm, hdc, hm]
          dsimp only
          rw [blank_lo]
          split <;> exact ih f g (pos + 1) _ _ (by omega) (by omega) (by omega)
      · have hgt : ∀ q (hq : q < l.length), (⟨l.toArray⟩ : ByteArray).get! q = l[q] := by
          intro q hq
          show (l.toArray)[q]! = _
          rw [getElem!_pos l.toArray q (by simpa using hq)]
          simp
        have h128 : 128 ≤ ((⟨l.toArray⟩ : ByteArray).get! pos).toNat := by rw [hgt pos hp]; omega
        have hd := decode_bytes ⟨l.toArray⟩ pos hps h128
        have hh := decode_high ⟨l.toArray⟩ pos hps (by rw [hg]; omega)
        obtain ⟨n, hn⟩ : ∃ n, (Utf8.decode ⟨l.toArray⟩ pos).2 = n := ⟨_, rfl⟩
        rw [hn] at hd hh
        have hlast := (hd (n - 1) (by omega)).1
        rw [hl] at hlast
        have hmask : ∀ j, j < n → pos + j < (l.map blB).length ∧ (l.map blB).getD (pos + j) false = false := by
          intro j hj
          obtain ⟨x1, x2⟩ := hd j hj
          rw [hl] at x1
          rw [hgt _ x1] at x2
          refine ⟨by rw [hml]; exact x1, ?_⟩
          rw [List.getD_eq_getElem?_getD, List.getElem?_map, List.getElem?_eq_getElem x1]
          show blB l[pos + j] = false
          rw [← blank_lo, blank_hi _ x2]
        obtain ⟨g, rfl⟩ : ∃ j, g = j + n := ⟨g - n, by omega⟩
        cases st with
        | some a =>
          rw [sP_some, if_pos hps, blank_hi _ hh.1, if_neg (by decide), hn, skipM (l.map blB) a acc n g pos hmask]
          exact ih f g (pos + n) _ _ (by omega) (by omega) (by omega)
        | none =>
          rw [sP_none, if_pos hps, blank_hi _ hh.1, if_neg (by decide), hn]
          have hk : spansM (l.map blB) (g + n) pos none acc = spansM (l.map blB) (g + n) pos (some pos) acc := by
            obtain ⟨n, rfl⟩ : ∃ j, n = j + 1 := ⟨n - 1, by omega⟩
            have h0 := hmask 0 (by omega)
            rw [Nat.add_zero] at h0
            rw [show g + (n + 1) = (g + n) + 1 by omega, sM_none, sM_some, if_pos h0.1, if_pos h0.1, h0.2, if_neg (by decide), if_neg (by decide)]
          rw [hk, skipM (l.map blB) pos acc n g pos hmask]
          exact ih f g (pos + n) _ _ (by omega) (by omega) (by omega)
    · have e1 : ¬ pos < (⟨l.toArray⟩ : ByteArray).size := by rw [hl]; exact hp
      rw [spansFromP_end _ _ _ _ _ _ e1]
      cases g with
      | zero => rfl
      | succ g => cases st <;> first | rw [sM_some, if_neg (by rw [hml]; exact hp)] | rw [sM_none, if_neg (by rw [hml]; exact hp)]
/-- What stands between blanks, byte by byte. -/
def fl : List UInt8 → List UInt8 → List (List UInt8)
  | [], cur => if cur = [] then [] else [cur]
  | c :: r, cur => if blB c = true then (if cur = [] then fl r [] else cur :: fl r []) else fl r (cur ++ [c])
def mkB (l : List UInt8) : ByteArray := ⟨l.toArray⟩
def curOf (p : List UInt8) : Option Nat → List UInt8
  | some a => p.drop a
  | none => []
theorem ext_bytes (l : List UInt8) (a b : Nat) : (⟨l.toArray⟩ : ByteArray).extract a b = mkB ((l.take b).drop a) := by
  apply ByteArray.ext
  rw [ByteArray.data_extract]
  apply Array.ext'
  rw [Array.toList_extract]
  simp [mkB, List.drop_take]
theorem spans_fl (l : List UInt8) : ∀ (r p : List UInt8) (st : Option Nat) (acc : List (Nat × Nat)), l = p ++ r → (∀ a, st = some a → a < p.length) →
    (closeSpans ⟨l.toArray⟩ (spansM (l.map blB) r.length p.length st acc)).map (fun x => (⟨l.toArray⟩ : ByteArray).extract x.1 x.2) = acc.map (fun x => (⟨l.toArray⟩ : ByteArray).extract x.1 x.2) ++ (fl r (curOf p st)).map mkB
  | [], p, st, acc, h, hst => by
    rw [List.append_nil] at h
    subst h
    cases st with
    | none => simp [spansM, closeSpans, fl, curOf]
    | some a =>
      have ha := hst a rfl
      have hne : l.drop a ≠ [] := by
        intro e
        have := congrArg List.length e
        rw [List.length_drop, List.length_nil] at this
        omega
      show (List.map _ (acc ++ [(a, _)])) = _
      rw [List.map_append, List.map_singleton]
      show _ ++ [(⟨l.toArray⟩ : ByteArray).extract a l.length] = _
      rw [ext_bytes, List.take_length]
      show _ = _ ++ List.map mkB (if l.drop a = [] then [] else [l.drop a])
      rw [if_neg hne]
      rfl
  | c :: r, p, st, acc, h, hst => by
    have hlen : p.length < (l.map blB).length := by rw [List.length_map, h, List.length_append, List.length_cons]; omega
    have hm : (l.map blB).getD p.length false = blB c := by
      rw [List.getD_eq_getElem?_getD, List.getElem?_map, h, List.getElem?_append_right (Nat.le_refl _), Nat.sub_self]
      rfl
    have hp1 : (p ++ [c]).length = p.length + 1 := by rw [List.length_append, List.length_singleton]
    have hl : l = (p ++ [c]) ++ r := by rw [h, List.append_assoc]; rfl
    rw [List.length_cons]
    cases st with
    | none =>
      rw [sM_none, if_pos hlen, hm, ← hp1]
      by_cases hb : blB c = true
      · rw [if_pos hb, spans_fl l r (p ++ [c]) none acc hl (fun a e => by cases e), fl, if_pos hb]
        rfl
      · have e := spans_fl l r (p ++ [c]) (some p.length) acc hl (fun a e => by injection e with e; subst e; rw [hp1]; omega)
        rw [if_neg hb, e, fl, if_neg hb]
        have : curOf (p ++ [c]) (some p.length) = curOf p none ++ [c] := by simp [curOf]
        rw [this]
    | some a =>
      have ha := hst a rfl
      rw [sM_some, if_pos hlen, hm, ← hp1]
      by_cases hb : blB c = true
      · rw [if_pos hb, spans_fl l r (p ++ [c]) none (acc ++ [(a, p.length)]) hl (fun a e => by cases e), fl, if_pos hb]
        have hne : curOf p (some a) ≠ [] := by
          intro e
          have := congrArg List.length e
          simp only [curOf, List.length_drop, List.length_nil] at this
          omega
        rw [if_neg hne, List.map_append, List.map_singleton, ext_bytes, List.append_assoc]
        have : (l.take p.length).drop a = curOf p (some a) := by rw [h, List.take_left]; rfl
        rw [this]
        rfl
      · have e := spans_fl l r (p ++ [c]) (some a) acc hl (fun b e => by injection e with e; subst e; rw [hp1]; omega)
        rw [if_neg hb, e, fl, if_neg hb]
        have : curOf (p ++ [c]) (some a) = curOf p (some a) ++ [c] := by
          simp only [curOf]
          rw [List.drop_append_of_le_length (by omega)]
        rw [this]
theorem fl_len : ∀ (r cur : List UInt8), (fl r cur).length ≤ r.length + 1
  | [], cur => by unfold fl; split <;> simp
  | c :: r, cur => by
    unfold fl
    split
    · split
      · have := fl_len r []; simp only [List.length_cons]; omega
      · have := fl_len r []; simp only [List.length_cons]; omega
    · have := fl_len r (cur ++ [c]); simp only [List.length_cons]; omega
theorem fields_spec (l : List UInt8) (hl : l.length ≤ 1000) : stamp_fields.f (mkB l) = some ((fl l []).map mkB) := by
  have e : goFieldsP stamp_fields.blank (mkB l) = (fl l []).map mkB := by
    unfold goFieldsP spansOfP
    show ((closeSpans ⟨l.toArray⟩ (spansFromP stamp_fields.blank ⟨l.toArray⟩ l.length 0 none [])).map _) = _
    rw [spans_bytes l l.length l.length l.length 0 none [] (by omega) (by omega) (by omega)]
    exact spans_fl l l [] none [] rfl (fun a e => by cases e)
  unfold stamp_fields.f
  have hn := fl_len l []
  rw [e, if_pos ⟨by show l.length ≤ 4294967296; omega, by rw [List.length_map]; omega⟩]
theorem ref_l0 (l : List UInt8) (hl : l.length ≤ 1000) : ∀ (r p cur : List UInt8) (acc : List ByteArray) (k : Nat), l = p ++ r → acc.length ≤ p.length → cur.length ≤ p.length →
    newsreelref17_Fields.l0 (k + 2 * r.length + 1) (mkB l) acc (mkB cur) (p.length : Int) = some (acc ++ (fl r cur).map mkB)
  | [], p, cur, acc, k, h, h1, h2 => by
    have e := bt_end (s := mkB l) (p := p) h
    have hp : p.length = l.length := by rw [h, List.append_nil]
    rw [List.length_nil, newsreelref17_Fields.l0, if_neg (by omega), ByteArray.toList_eq, fl]
    show (if cur = [] then _ else _) = _
    by_cases hc : cur = []
    · rw [if_pos hc, if_pos hc, List.map_nil, List.append_nil]
    · rw [if_neg hc, if_neg hc, if_pos (by omega)]
      rfl
  | c :: r, p, cur, acc, k, h, h1, h2 => by
    obtain ⟨hc, hlt⟩ := bt_mid (s := mkB l) (p := p) h
    have hpl : p.length < l.length := by rw [h, List.length_append, List.length_cons]; omega
    have hl2 : l = (p ++ [c]) ++ r := by rw [h, List.append_assoc]; rfl
    have hp1 : (p ++ [c]).length = p.length + 1 := by rw [List.length_append, List.length_singleton]
    have e2 : Aside0 (wrap64 ((p.length : Int) + 1) = (((p ++ [c]).length : Nat) : Int)) := ⟨by rw [w64 (by omega) (by omega), hp1]; rfl⟩
    have hif : (if (c.toNat : Int) = 32 then (newsreelref17_Fields.j1 (k + 2 * r.length + 1 + 1) (mkB l) acc (mkB cur) (p.length : Int) false) else (newsreelref17_Fields.j1 (k + 2 * r.length + 1 + 1) (mkB l) acc (mkB cur) (p.length : Int) ((c.toNat : Int) != 9))) = newsreelref17_Fields.j1 (k + 2 * r.length + 1 + 1) (mkB l) acc (mkB cur) (p.length : Int) (!blB c) := by
      unfold blB
      by_cases d1 : (c.toNat : Int) = 32
      · obtain rfl : c = 32 := UInt8.toNat_inj.1 (by show c.toNat = 32; omega)
        rw [if_pos d1]
        rfl
      · have n1 : (c == 32) = false := beq_eq_false_iff_ne.mpr (fun e => d1 (by rw [e]; rfl))
        rw [if_neg d1, n1, Bool.false_or]
        by_cases d2 : (c.toNat : Int) = 9
        · obtain rfl : c = 9 := UInt8.toNat_inj.1 (by show c.toNat = 9; omega)
          rfl
        · have n2 : (c == 9) = false := beq_eq_false_iff_ne.mpr (fun e => d2 (by rw [e]; rfl))
          rw [n2, bne_iff_ne.mpr d2]
          rfl
    rw [List.length_cons, show k + 2 * (r.length + 1) + 1 = (k + 2 * r.length + 1) + 1 + 1 by omega, newsreelref17_Fields.l0, if_pos hlt, if_pos (by omega), hc, hif, newsreelref17_Fields.j1, fl]
    cases hb : blB c with
    | true =>
      rw [Bool.not_true, if_neg (by decide), ByteArray.toList_eq]
      show (if cur = [] then _ else _) = _
      by_cases hcur : cur = []
      · rw [if_pos hcur, if_pos rfl, if_pos hcur, e2.out, hcur]
        exact ref_l0 l hl r (p ++ [c]) [] acc k hl2 (by omega) (by rw [List.length_nil]; omega)
      · rw [if_neg hcur, if_pos rfl, if_neg hcur, if_pos (by omega), e2.out]
        have := ref_l0 l hl r (p ++ [c]) [] (acc ++ [mkB cur]) k hl2 (by rw [List.length_append, List.length_singleton]; omega) (by rw [List.length_nil]; omega)
        refine this.trans ?_
        rw [List.append_assoc]
        rfl
    | false =>
      have hx : (mkB l).extract (p.length : Int).toNat ((((p ++ [c]).length : Nat) : Int)).toNat = mkB [c] := by
        show (⟨l.toArray⟩ : ByteArray).extract p.length (p ++ [c]).length = _
        rw [ext_bytes]
        conv => lhs; rw [hl2]
        rw [List.take_left, List.drop_left]
      have happ : mkB cur ++ mkB [c] = mkB (cur ++ [c]) := by
        apply ByteArray.ext
        rw [ByteArray.data_append]
        simp [mkB]
      rw [Bool.not_false, if_pos rfl, e2.out, if_pos (by omega), if_pos (by omega), if_pos (by show (((p ++ [c]).length : Nat) : Int) ≤ (l.length : Int); omega), hx, happ, if_pos (by show cur.length + 1 ≤ 9223372036854775807; omega), if_neg (by decide)]
      exact ref_l0 l hl r (p ++ [c]) (cur ++ [c]) acc k hl2 (by omega) (by rw [List.length_append, List.length_singleton]; omega)
theorem ref_fields (l : List UInt8) (hl : l.length ≤ 1000) (k : Nat) (hk : 2 * l.length + 1 ≤ k) : newsreelref17_Fields.f k (mkB l) = some ((fl l []).map mkB) := by
  obtain ⟨q, rfl⟩ : ∃ q, k = q + 2 * l.length + 1 := ⟨k - (2 * l.length + 1), by omega⟩
  exact ref_l0 l hl l [] [] [] q rfl (Nat.le_refl _) (Nat.le_refl _)
def zRel (by_ e byM : Int) (may ok : Bool) : Prop := (ok = false ∧ e = 2) ∨ (ok = true ∧ may = false ∧ e = 3) ∨ (ok = true ∧ may = true ∧ e = 0 ∧ by_ = 60 * byM ∧ -2000 ≤ byM ∧ byM ≤ 2000)
theorem own_named (l : List UInt8) (hl : l.length ≤ 1000) (x : List UInt8) (hx : lowL (mkB l) = x) (n : Int) (k : Nat)
    (h : (if x = [103, 109, 116] then (stamp_named.j0 k (mkB x) (x == [103, 109, 116])) else (if x = [117, 116] then (stamp_named.j0 k (mkB x) (x == [117, 116])) else (if x = [117, 116, 99] then (stamp_named.j0 k (mkB x) (x == [117, 116, 99])) else (stamp_named.j0 k (mkB x) (x == [122]))))) = some n) : stamp_named.f k (mkB l) = some n := by
  have hlow := lower_own (mkB l) (show l.length ≤ 1000 from hl)
  rw [hx] at hlow
  rw [stamp_named.f, hlow, Option.bind_some, ByteArray.toList_eq]
  exact h
theorem ref_low (l : List UInt8) (hl : l.length ≤ 100) (x : List UInt8) (hx : lowL (mkB l) = x) (r : Int × Bool × Bool) (k : Nat) (hk : 300 ≤ k)
    (h : (if x = [103, 109, 116] then (newsreelref17_zone.j0 k (mkB l) (mkB x) true) else (if x = [117, 116] then (newsreelref17_zone.j0 k (mkB l) (mkB x) true) else (if x = [117, 116, 99] then (newsreelref17_zone.j0 k (mkB l) (mkB x) true) else (newsreelref17_zone.j0 k (mkB l) (mkB x) (x == [122]))))) = some r) : newsreelref17_zone.f k (mkB l) = some r := by
  have hlow := lower_ref (mkB l) (show l.length ≤ 1000 by omega) k (show 2 * l.length + 1 ≤ k by omega)
  rw [hx] at hlow
  rw [newsreelref17_zone.f, hlow, Option.bind_some, ByteArray.toList_eq]
  exact h
/-- The zones of names. -/
def zN : List (List UInt8 × Int) := [([103, 109, 116], 0), ([117, 116], 0), ([117, 116, 99], 0), ([122], 0), ([101, 100, 116], 4), ([101, 115, 116], 5), ([99, 100, 116], 5), ([99, 115, 116], 6), ([109, 100, 116], 6), ([109, 115, 116], 7), ([112, 100, 116], 7), ([112, 115, 116], 8)]
theorem zo0 : (if ([103, 109, 116] : List UInt8) = [103, 109, 116] then (stamp_named.j0 10 (mkB [103, 109, 116]) ([103, 109, 116] == [103, 109, 116])) else (if ([103, 109, 116] : List UInt8) = [117, 116] then (stamp_named.j0 10 (mkB [103, 109, 116]) ([103, 109, 116] == [117, 116])) else (if ([103, 109, 116] : List UInt8) = [117, 116, 99] then (stamp_named.j0 10 (mkB [103, 109, 116]) ([103, 109, 116] == [117, 116, 99])) else (stamp_named.j0 10 (mkB [103, 109, 116]) ([103, 109, 116] == [122]))))) = some 0 := by kernel_rfl
theorem zr0 (L : ByteArray) : (if ([103, 109, 116] : List UInt8) = [103, 109, 116] then (newsreelref17_zone.j0 300 L (mkB [103, 109, 116]) true) else (if ([103, 109, 116] : List UInt8) = [117, 116] then (newsreelref17_zone.j0 300 L (mkB [103, 109, 116]) true) else (if ([103, 109, 116] : List UInt8) = [117, 116, 99] then (newsreelref17_zone.j0 300 L (mkB [103, 109, 116]) true) else (newsreelref17_zone.j0 300 L (mkB [103, 109, 116]) ([103, 109, 116] == [122]))))) = some (0, true, true) := by kernel_rfl
theorem zo1 : (if ([117, 116] : List UInt8) = [103, 109, 116] then (stamp_named.j0 10 (mkB [117, 116]) ([117, 116] == [103, 109, 116])) else (if ([117, 116] : List UInt8) = [117, 116] then (stamp_named.j0 10 (mkB [117, 116]) ([117, 116] == [117, 116])) else (if ([117, 116] : List UInt8) = [117, 116, 99] then (stamp_named.j0 10 (mkB [117, 116]) ([117, 116] == [117, 116, 99])) else (stamp_named.j0 10 (mkB [117, 116]) ([117, 116] == [122]))))) = some 0 := by kernel_rfl
theorem zr1 (L : ByteArray) : (if ([117, 116] : List UInt8) = [103, 109, 116] then (newsreelref17_zone.j0 300 L (mkB [117, 116]) true) else (if ([117, 116] : List UInt8) = [117, 116] then (newsreelref17_zone.j0 300 L (mkB [117, 116]) true) else (if ([117, 116] : List UInt8) = [117, 116, 99] then (newsreelref17_zone.j0 300 L (mkB [117, 116]) true) else (newsreelref17_zone.j0 300 L (mkB [117, 116]) ([117, 116] == [122]))))) = some (0, true, true) := by kernel_rfl
theorem zo2 : (if ([117, 116, 99] : List UInt8) = [103, 109, 116] then (stamp_named.j0 10 (mkB [117, 116, 99]) ([117, 116, 99] == [103, 109, 116])) else (if ([117, 116, 99] : List UInt8) = [117, 116] then (stamp_named.j0 10 (mkB [117, 116, 99]) ([117, 116, 99] == [117, 116])) else (if ([117, 116, 99] : List UInt8) = [117, 116, 99] then (stamp_named.j0 10 (mkB [117, 116, 99]) ([117, 116, 99] == [117, 116, 99])) else (stamp_named.j0 10 (mkB [117, 116, 99]) ([117, 116, 99] == [122]))))) = some 0 := by kernel_rfl
theorem zr2 (L : ByteArray) : (if ([117, 116, 99] : List UInt8) = [103, 109, 116] then (newsreelref17_zone.j0 300 L (mkB [117, 116, 99]) true) else (if ([117, 116, 99] : List UInt8) = [117, 116] then (newsreelref17_zone.j0 300 L (mkB [117, 116, 99]) true) else (if ([117, 116, 99] : List UInt8) = [117, 116, 99] then (newsreelref17_zone.j0 300 L (mkB [117, 116, 99]) true) else (newsreelref17_zone.j0 300 L (mkB [117, 116, 99]) ([117, 116, 99] == [122]))))) = some (0, true, true) := by kernel_rfl
theorem zo3 : (if ([122] : List UInt8) = [103, 109, 116] then (stamp_named.j0 10 (mkB [122]) ([122] == [103, 109, 116])) else (if ([122] : List UInt8) = [117, 116] then (stamp_named.j0 10 (mkB [122]) ([122] == [117, 116])) else (if ([122] : List UInt8) = [117, 116, 99] then (stamp_named.j0 10 (mkB [122]) ([122] == [117, 116, 99])) else (stamp_named.j0 10 (mkB [122]) ([122] == [122]))))) = some 0 := by kernel_rfl
theorem zr3 (L : ByteArray) : (if ([122] : List UInt8) = [103, 109, 116] then (newsreelref17_zone.j0 300 L (mkB [122]) true) else (if ([122] : List UInt8) = [117, 116] then (newsreelref17_zone.j0 300 L (mkB [122]) true) else (if ([122] : List UInt8) = [117, 116, 99] then (newsreelref17_zone.j0 300 L (mkB [122]) true) else (newsreelref17_zone.j0 300 L (mkB [122]) ([122] == [122]))))) = some (0, true, true) := by kernel_rfl
theorem zo4 : (if ([101, 100, 116] : List UInt8) = [103, 109, 116] then (stamp_named.j0 10 (mkB [101, 100, 116]) ([101, 100, 116] == [103, 109, 116])) else (if ([101, 100, 116] : List UInt8) = [117, 116] then (stamp_named.j0 10 (mkB [101, 100, 116]) ([101, 100, 116] == [117, 116])) else (if ([101, 100, 116] : List UInt8) = [117, 116, 99] then (stamp_named.j0 10 (mkB [101, 100, 116]) ([101, 100, 116] == [117, 116, 99])) else (stamp_named.j0 10 (mkB [101, 100, 116]) ([101, 100, 116] == [122]))))) = some 4 := by kernel_rfl
theorem zr4 (L : ByteArray) : (if ([101, 100, 116] : List UInt8) = [103, 109, 116] then (newsreelref17_zone.j0 300 L (mkB [101, 100, 116]) true) else (if ([101, 100, 116] : List UInt8) = [117, 116] then (newsreelref17_zone.j0 300 L (mkB [101, 100, 116]) true) else (if ([101, 100, 116] : List UInt8) = [117, 116, 99] then (newsreelref17_zone.j0 300 L (mkB [101, 100, 116]) true) else (newsreelref17_zone.j0 300 L (mkB [101, 100, 116]) ([101, 100, 116] == [122]))))) = some (-240, true, true) := by kernel_rfl
theorem zo5 : (if ([101, 115, 116] : List UInt8) = [103, 109, 116] then (stamp_named.j0 10 (mkB [101, 115, 116]) ([101, 115, 116] == [103, 109, 116])) else (if ([101, 115, 116] : List UInt8) = [117, 116] then (stamp_named.j0 10 (mkB [101, 115, 116]) ([101, 115, 116] == [117, 116])) else (if ([101, 115, 116] : List UInt8) = [117, 116, 99] then (stamp_named.j0 10 (mkB [101, 115, 116]) ([101, 115, 116] == [117, 116, 99])) else (stamp_named.j0 10 (mkB [101, 115, 116]) ([101, 115, 116] == [122]))))) = some 5 := by kernel_rfl
theorem zr5 (L : ByteArray) : (if ([101, 115, 116] : List UInt8) = [103, 109, 116] then (newsreelref17_zone.j0 300 L (mkB [101, 115, 116]) true) else (if ([101, 115, 116] : List UInt8) = [117, 116] then (newsreelref17_zone.j0 300 L (mkB [101, 115, 116]) true) else (if ([101, 115, 116] : List UInt8) = [117, 116, 99] then (newsreelref17_zone.j0 300 L (mkB [101, 115, 116]) true) else (newsreelref17_zone.j0 300 L (mkB [101, 115, 116]) ([101, 115, 116] == [122]))))) = some (-300, true, true) := by kernel_rfl
theorem zo6 : (if ([99, 100, 116] : List UInt8) = [103, 109, 116] then (stamp_named.j0 10 (mkB [99, 100, 116]) ([99, 100, 116] == [103, 109, 116])) else (if ([99, 100, 116] : List UInt8) = [117, 116] then (stamp_named.j0 10 (mkB [99, 100, 116]) ([99, 100, 116] == [117, 116])) else (if ([99, 100, 116] : List UInt8) = [117, 116, 99] then (stamp_named.j0 10 (mkB [99, 100, 116]) ([99, 100, 116] == [117, 116, 99])) else (stamp_named.j0 10 (mkB [99, 100, 116]) ([99, 100, 116] == [122]))))) = some 5 := by kernel_rfl
theorem zr6 (L : ByteArray) : (if ([99, 100, 116] : List UInt8) = [103, 109, 116] then (newsreelref17_zone.j0 300 L (mkB [99, 100, 116]) true) else (if ([99, 100, 116] : List UInt8) = [117, 116] then (newsreelref17_zone.j0 300 L (mkB [99, 100, 116]) true) else (if ([99, 100, 116] : List UInt8) = [117, 116, 99] then (newsreelref17_zone.j0 300 L (mkB [99, 100, 116]) true) else (newsreelref17_zone.j0 300 L (mkB [99, 100, 116]) ([99, 100, 116] == [122]))))) = some (-300, true, true) := by kernel_rfl
theorem zo7 : (if ([99, 115, 116] : List UInt8) = [103, 109, 116] then (stamp_named.j0 10 (mkB [99, 115, 116]) ([99, 115, 116] == [103, 109, 116])) else (if ([99, 115, 116] : List UInt8) = [117, 116] then (stamp_named.j0 10 (mkB [99, 115, 116]) ([99, 115, 116] == [117, 116])) else (if ([99, 115, 116] : List UInt8) = [117, 116, 99] then (stamp_named.j0 10 (mkB [99, 115, 116]) ([99, 115, 116] == [117, 116, 99])) else (stamp_named.j0 10 (mkB [99, 115, 116]) ([99, 115, 116] == [122]))))) = some 6 := by kernel_rfl
theorem zr7 (L : ByteArray) : (if ([99, 115, 116] : List UInt8) = [103, 109, 116] then (newsreelref17_zone.j0 300 L (mkB [99, 115, 116]) true) else (if ([99, 115, 116] : List UInt8) = [117, 116] then (newsreelref17_zone.j0 300 L (mkB [99, 115, 116]) true) else (if ([99, 115, 116] : List UInt8) = [117, 116, 99] then (newsreelref17_zone.j0 300 L (mkB [99, 115, 116]) true) else (newsreelref17_zone.j0 300 L (mkB [99, 115, 116]) ([99, 115, 116] == [122]))))) = some (-360, true, true) := by kernel_rfl
theorem zo8 : (if ([109, 100, 116] : List UInt8) = [103, 109, 116] then (stamp_named.j0 10 (mkB [109, 100, 116]) ([109, 100, 116] == [103, 109, 116])) else (if ([109, 100, 116] : List UInt8) = [117, 116] then (stamp_named.j0 10 (mkB [109, 100, 116]) ([109, 100, 116] == [117, 116])) else (if ([109, 100, 116] : List UInt8) = [117, 116, 99] then (stamp_named.j0 10 (mkB [109, 100, 116]) ([109, 100, 116] == [117, 116, 99])) else (stamp_named.j0 10 (mkB [109, 100, 116]) ([109, 100, 116] == [122]))))) = some 6 := by kernel_rfl
theorem zr8 (L : ByteArray) : (if ([109, 100, 116] : List UInt8) = [103, 109, 116] then (newsreelref17_zone.j0 300 L (mkB [109, 100, 116]) true) else (if ([109, 100, 116] : List UInt8) = [117, 116] then (newsreelref17_zone.j0 300 L (mkB [109, 100, 116]) true) else (if ([109, 100, 116] : List UInt8) = [117, 116, 99] then (newsreelref17_zone.j0 300 L (mkB [109, 100, 116]) true) else (newsreelref17_zone.j0 300 L (mkB [109, 100, 116]) ([109, 100, 116] == [122]))))) = some (-360, true, true) := by kernel_rfl
theorem zo9 : (if ([109, 115, 116] : List UInt8) = [103, 109, 116] then (stamp_named.j0 10 (mkB [109, 115, 116]) ([109, 115, 116] == [103, 109, 116])) else (if ([109, 115, 116] : List UInt8) = [117, 116] then (stamp_named.j0 10 (mkB [109, 115, 116]) ([109, 115, 116] == [117, 116])) else (if ([109, 115, 116] : List UInt8) = [117, 116, 99] then (stamp_named.j0 10 (mkB [109, 115, 116]) ([109, 115, 116] == [117, 116, 99])) else (stamp_named.j0 10 (mkB [109, 115, 116]) ([109, 115, 116] == [122]))))) = some 7 := by kernel_rfl
theorem zr9 (L : ByteArray) : (if ([109, 115, 116] : List UInt8) = [103, 109, 116] then (newsreelref17_zone.j0 300 L (mkB [109, 115, 116]) true) else (if ([109, 115, 116] : List UInt8) = [117, 116] then (newsreelref17_zone.j0 300 L (mkB [109, 115, 116]) true) else (if ([109, 115, 116] : List UInt8) = [117, 116, 99] then (newsreelref17_zone.j0 300 L (mkB [109, 115, 116]) true) else (newsreelref17_zone.j0 300 L (mkB [109, 115, 116]) ([109, 115, 116] == [122]))))) = some (-420, true, true) := by kernel_rfl
theorem zo10 : (if ([112, 100, 116] : List UInt8) = [103, 109, 116] then (stamp_named.j0 10 (mkB [112, 100, 116]) ([112, 100, 116] == [103, 109, 116])) else (if ([112, 100, 116] : List UInt8) = [117, 116] then (stamp_named.j0 10 (mkB [112, 100, 116]) ([112, 100, 116] == [117, 116])) else (if ([112, 100, 116] : List UInt8) = [117, 116, 99] then (stamp_named.j0 10 (mkB [112, 100, 116]) ([112, 100, 116] == [117, 116, 99])) else (stamp_named.j0 10 (mkB [112, 100, 116]) ([112, 100, 116] == [122]))))) = some 7 := by kernel_rfl
theorem zr10 (L : ByteArray) : (if ([112, 100, 116] : List UInt8) = [103, 109, 116] then (newsreelref17_zone.j0 300 L (mkB [112, 100, 116]) true) else (if ([112, 100, 116] : List UInt8) = [117, 116] then (newsreelref17_zone.j0 300 L (mkB [112, 100, 116]) true) else (if ([112, 100, 116] : List UInt8) = [117, 116, 99] then (newsreelref17_zone.j0 300 L (mkB [112, 100, 116]) true) else (newsreelref17_zone.j0 300 L (mkB [112, 100, 116]) ([112, 100, 116] == [122]))))) = some (-420, true, true) := by kernel_rfl
theorem zo11 : (if ([112, 115, 116] : List UInt8) = [103, 109, 116] then (stamp_named.j0 10 (mkB [112, 115, 116]) ([112, 115, 116] == [103, 109, 116])) else (if ([112, 115, 116] : List UInt8) = [117, 116] then (stamp_named.j0 10 (mkB [112, 115, 116]) ([112, 115, 116] == [117, 116])) else (if ([112, 115, 116] : List UInt8) = [117, 116, 99] then (stamp_named.j0 10 (mkB [112, 115, 116]) ([112, 115, 116] == [117, 116, 99])) else (stamp_named.j0 10 (mkB [112, 115, 116]) ([112, 115, 116] == [122]))))) = some 8 := by kernel_rfl
theorem zr11 (L : ByteArray) : (if ([112, 115, 116] : List UInt8) = [103, 109, 116] then (newsreelref17_zone.j0 300 L (mkB [112, 115, 116]) true) else (if ([112, 115, 116] : List UInt8) = [117, 116] then (newsreelref17_zone.j0 300 L (mkB [112, 115, 116]) true) else (if ([112, 115, 116] : List UInt8) = [117, 116, 99] then (newsreelref17_zone.j0 300 L (mkB [112, 115, 116]) true) else (newsreelref17_zone.j0 300 L (mkB [112, 115, 116]) ([112, 115, 116] == [122]))))) = some (-480, true, true) := by kernel_rfl
theorem zone_named (l : List UInt8) (hl : l.length ≤ 100) (x : List UInt8) (n : Int) (hm : (x, n) ∈ zN) (hx : lowL (mkB l) = x) (k : Nat) (hk : 300 ≤ k) :
    stamp_zone.f k (mkB l) = some (-3600 * n, 0) ∧ newsreelref17_zone.f k (mkB l) = some (-60 * n, true, true) := by
  simp only [zN, List.mem_cons, Prod.mk.injEq, List.not_mem_nil, or_false] at hm
  have own : ∀ m : Int, 0 ≤ m → m ≤ 8 → stamp_named.f 10 (mkB l) = some m → stamp_zone.f k (mkB l) = some (-3600 * m, 0) := by
    intro m h0 h8 h
    have h := up (F := fun k => stamp_named.f k (mkB l)) (fun k => stamp_named.mono _ k) h k (by omega)
    have h : stamp_named.f k (mkB l) = some m := h
    rw [stamp_zone.f, h, Option.bind_some, if_pos h0, w64 (by omega) (by omega)]
  have ref : ∀ r, newsreelref17_zone.f 300 (mkB l) = some r → newsreelref17_zone.f k (mkB l) = some r := fun r h => up (F := fun k => newsreelref17_zone.f k (mkB l)) (fun k => newsreelref17_zone.mono _ k) h k hk
  rcases hm with ⟨rfl, rfl⟩ | ⟨rfl, rfl⟩ | ⟨rfl, rfl⟩ | ⟨rfl, rfl⟩ | ⟨rfl, rfl⟩ | ⟨rfl, rfl⟩ | ⟨rfl, rfl⟩ | ⟨rfl, rfl⟩ | ⟨rfl, rfl⟩ | ⟨rfl, rfl⟩ | ⟨rfl, rfl⟩ | ⟨rfl, rfl⟩
  · exact ⟨own 0 (by decide) (by decide) (own_named l (by omega) _ hx _ 10 zo0), ref _ (ref_low l hl _ hx _ 300 (Nat.le_refl _) (zr0 _))⟩
  · exact ⟨own 0 (by decide) (by decide) (own_named l (by omega) _ hx _ 10 zo1), ref _ (ref_low l hl _ hx _ 300 (Nat.le_refl _) (zr1 _))⟩
  · exact ⟨own 0 (by decide) (by decide) (own_named l (by omega) _ hx _ 10 zo2), ref _ (ref_low l hl _ hx _ 300 (Nat.le_refl _) (zr2 _))⟩
  · exact ⟨own 0 (by decide) (by decide) (own_named l (by omega) _ hx _ 10 zo3), ref _ (ref_low l hl _ hx _ 300 (Nat.le_refl _) (zr3 _))⟩
  · exact ⟨own 4 (by decide) (by decide) (own_named l (by omega) _ hx _ 10 zo4), ref _ (ref_low l hl _ hx _ 300 (Nat.le_refl _) (zr4 _))⟩
  · exact ⟨own 5 (by decide) (by decide) (own_named l (by omega) _ hx _ 10 zo5), ref _ (ref_low l hl _ hx _ 300 (Nat.le_refl _) (zr5 _))⟩
  · exact ⟨own 5 (by decide) (by decide) (own_named l (by omega) _ hx _ 10 zo6), ref _ (ref_low l hl _ hx _ 300 (Nat.le_refl _) (zr6 _))⟩
  · exact ⟨own 6 (by decide) (by decide) (own_named l (by omega) _ hx _ 10 zo7), ref _ (ref_low l hl _ hx _ 300 (Nat.le_refl _) (zr7 _))⟩
  · exact ⟨own 6 (by decide) (by decide) (own_named l (by omega) _ hx _ 10 zo8), ref _ (ref_low l hl _ hx _ 300 (Nat.le_refl _) (zr8 _))⟩
  · exact ⟨own 7 (by decide) (by decide) (own_named l (by omega) _ hx _ 10 zo9), ref _ (ref_low l hl _ hx _ 300 (Nat.le_refl _) (zr9 _))⟩
  · exact ⟨own 7 (by decide) (by decide) (own_named l (by omega) _ hx _ 10 zo10), ref _ (ref_low l hl _ hx _ 300 (Nat.le_refl _) (zr10 _))⟩
  · exact ⟨own 8 (by decide) (by decide) (own_named l (by omega) _ hx _ 10 zo11), ref _ (ref_low l hl _ hx _ 300 (Nat.le_refl _) (zr11 _))⟩
theorem mk_toList (x : List UInt8) : (mkB x).toList = x := ByteArray.toList_eq _
theorem named_none (l : List UInt8) (hl : l.length ≤ 100) (hx : ∀ n, (lowL (mkB l), n) ∉ zN) (k : Nat) (hk : 10 ≤ k) : stamp_named.f k (mkB l) = some (-1) := by
  refine up (F := fun k => stamp_named.f k (mkB l)) (fun k => stamp_named.mono _ k) (K := 10) ?_ k hk
  generalize hq : lowL (mkB l) = x at hx
  have m : ∀ y n, (y, n) ∈ zN → x ≠ y := fun y n h e => hx n (by rw [e]; exact h)
  have nb : ∀ y n, (y, n) ∈ zN → (x == y) = false := fun y n h => beq_eq_false_iff_ne.mpr (m y n h)
  refine own_named l (by omega) x hq (-1) 10 ?_
  rw [if_neg (m _ 0 (by simp [zN])), if_neg (m _ 0 (by simp [zN])), if_neg (m _ 0 (by simp [zN])), nb [122] 0 (by simp [zN]), stamp_named.j0, if_neg (by decide), mk_toList,
    if_neg (m _ 4 (by simp [zN])), if_neg (m _ 5 (by simp [zN])), nb [99, 100, 116] 5 (by simp [zN]), stamp_named.j1, if_neg (by decide), mk_toList,
    if_neg (m _ 6 (by simp [zN])), nb [109, 100, 116] 6 (by simp [zN]), stamp_named.j2, if_neg (by decide), mk_toList,
    if_neg (m _ 7 (by simp [zN])), nb [112, 100, 116] 7 (by simp [zN]), stamp_named.j3, if_neg (by decide), mk_toList, if_neg (m _ 8 (by simp [zN]))]
theorem zone_l0 (x0 : ByteArray) (x : List UInt8) (L : List ByteArray) (H : List Int) (hL : L.length ≤ 100) : ∀ (r p : List ByteArray) (k : Nat), L = p ++ r → (∀ b ∈ r, b.data.toList ≠ x) →
    newsreelref17_zone.l0 (k + r.length + 1) x0 (mkB x) L H (p.length : Int) = newsreelref17_zone.l0 (k + 1) x0 (mkB x) L H (L.length : Int)
  | [], p, k, h, _ => by rw [List.length_nil, h, List.append_nil]
  | b :: r, p, k, h, hn => by
    have hlt : p.length < L.length := by rw [h, List.length_append, List.length_cons]; omega
    have hrd : rdOf ByteArray.empty L (p.length : Int) = b := by
      unfold rdOf
      rw [show ((p.length : Int)).toNat = p.length from rfl, h]
      simp
    have ih := zone_l0 x0 x L H hL r (p ++ [b]) k (by rw [h, List.append_assoc]; rfl) (fun c hc => hn c (.tail _ hc))
    have e2 : Aside0 (wrap64 ((p.length : Int) + 1) = (((p ++ [b]).length : Nat) : Int)) := ⟨by rw [w64 (by omega) (by omega), List.length_append]; rfl⟩
    rw [List.length_cons, show k + (r.length + 1) + 1 = (k + r.length + 1) + 1 by omega, newsreelref17_zone.l0, if_pos (by omega), if_pos (by omega), hrd, mk_toList, ByteArray.toList_eq, if_neg (hn b (.head _)), e2.out, ih]
def zL : List ByteArray := [⟨#[101, 100, 116]⟩, ⟨#[101, 115, 116]⟩, ⟨#[99, 100, 116]⟩, ⟨#[99, 115, 116]⟩, ⟨#[109, 100, 116]⟩, ⟨#[109, 115, 116]⟩, ⟨#[112, 100, 116]⟩, ⟨#[112, 115, 116]⟩]
theorem ref_none (l : List UInt8) (hl : l.length ≤ 100) (hx : ∀ n, (lowL (mkB l), n) ∉ zN) (k : Nat) (hk : 400 ≤ k) : ∃ q, 200 ≤ q ∧ newsreelref17_zone.f k (mkB l) = newsreelref17_zone.l0 (q + 1) (mkB l) (mkB (lowL (mkB l))) zL [4, 5, 5, 6, 6, 7, 7, 8] 8 := by
  obtain ⟨k, rfl⟩ : ∃ j, k = j + 8 + 1 + 1 := ⟨k - 10, by omega⟩
  refine ⟨k, by omega, ?_⟩
  have hlow := lower_ref (mkB l) (show l.length ≤ 1000 by omega) (k + 8 + 1 + 1) (show 2 * l.length + 1 ≤ k + 8 + 1 + 1 by omega)
  generalize lowL (mkB l) = x at *
  have m : ∀ y n, (y, n) ∈ zN → x ≠ y := fun y n h e => hx n (by rw [e]; exact h)
  have nb : ∀ y n, (y, n) ∈ zN → (x == y) = false := fun y n h => beq_eq_false_iff_ne.mpr (m y n h)
  have hz := zone_l0 (mkB l) x zL [4, 5, 5, 6, 6, 7, 7, 8] (by decide) zL [] k rfl (by
    intro b hb e
    simp only [zL, List.mem_cons, List.not_mem_nil, or_false] at hb
    rcases hb with rfl | rfl | rfl | rfl | rfl | rfl | rfl | rfl
    · exact m [101, 100, 116] 4 (by simp [zN]) e.symm
    · exact m [101, 115, 116] 5 (by simp [zN]) e.symm
    · exact m [99, 100, 116] 5 (by simp [zN]) e.symm
    · exact m [99, 115, 116] 6 (by simp [zN]) e.symm
    · exact m [109, 100, 116] 6 (by simp [zN]) e.symm
    · exact m [109, 115, 116] 7 (by simp [zN]) e.symm
    · exact m [112, 100, 116] 7 (by simp [zN]) e.symm
    · exact m [112, 115, 116] 8 (by simp [zN]) e.symm)
  rw [newsreelref17_zone.f, hlow, Option.bind_some, ByteArray.toList_eq]
  refine (if_neg (m [103, 109, 116] 0 (by simp [zN]))).trans ((if_neg (m [117, 116] 0 (by simp [zN]))).trans ((if_neg (m [117, 116, 99] 0 (by simp [zN]))).trans ?_))
  show newsreelref17_zone.j0 (k + 8 + 1 + 1) (mkB l) (mkB x) (x == [122]) = _
  rw [nb [122] 0 (by simp [zN]), newsreelref17_zone.j0, if_neg (by decide)]
  exact hz
theorem val2 (a b : UInt8) (ha : isDg a = true) (hb : isDg b = true) : 0 ≤ val [a, b] 0 ∧ val [a, b] 0 ≤ 99 := by
  have h1 := isDg_bd ha
  have h2 := isDg_bd hb
  simp only [val]
  omega
theorem val_pos : ∀ (l : List UInt8) (x : Int), l.all isDg = true → 0 ≤ x → 0 ≤ val l x
  | [], x, _, hx => hx
  | c :: l, x, h, hx => by
    rw [List.all_cons, Bool.and_eq_true] at h
    have := isDg_bd h.1
    exact val_pos l _ h.2 (by omega)
theorem dig2 (a b : UInt8) (k : Nat) (hk : 20 ≤ k) : stamp_digits.f k (mkB [a, b]) 2 2 = some (if (isDg a && isDg b) = true then val [a, b] 0 else -1) ∧ newsreelref17_Number.f k (mkB [a, b]) 2 = some (if (isDg a && isDg b) = true then val [a, b] 0 else -1) := by
  have e : ([a, b] : List UInt8).all isDg = (isDg a && isDg b) := by simp
  refine ⟨?_, ?_⟩
  · rw [digits_spec (mkB [a, b]) (show 2 ≤ 1000 by decide) 2 2 (by decide) k (by omega)]
    congr 1
    show (if (2 : Int) ≤ 2 ∧ (2 : Int) ≤ 2 ∧ ([a, b] : List UInt8).all isDg = true then val [a, b] 0 else -1) = _
    rw [e]
    by_cases h : (isDg a && isDg b) = true
    · rw [if_pos h, if_pos ⟨Int.le_refl _, Int.le_refl _, h⟩]
    · rw [if_neg h, if_neg (fun h' => h h'.2.2)]
  · rw [number_spec (mkB [a, b]) 2 (by decide) k hk]
    congr 1
    show (if (2 : Int) = 2 ∧ ([a, b] : List UInt8).all isDg = true then val [a, b] 0 else -1) = _
    rw [e]
    by_cases h : (isDg a && isDg b) = true
    · rw [if_pos h, if_pos ⟨rfl, h⟩]
    · rw [if_neg h, if_neg (fun h' => h h'.2)]
theorem num4 (a b c d : UInt8) (k : Nat) (hk : 20 ≤ k) : ∃ t, newsreelref17_Number.f k (mkB [a, b, c, d]) 4 = some t ∧ (t < 0 ↔ ¬ ((isDg a && isDg b) = true ∧ (isDg c && isDg d) = true)) := by
  have e : ([a, b, c, d] : List UInt8).all isDg = ((isDg a && isDg b) && (isDg c && isDg d)) := by simp [Bool.and_assoc]
  refine ⟨_, number_spec (mkB [a, b, c, d]) 4 (by decide) k hk, ?_⟩
  show (if (4 : Int) = 4 ∧ ([a, b, c, d] : List UInt8).all isDg = true then val [a, b, c, d] 0 else -1) < 0 ↔ _
  by_cases h : ([a, b, c, d] : List UInt8).all isDg = true
  · rw [if_pos ⟨rfl, h⟩]
    have := val_pos _ 0 h (Int.le_refl _)
    rw [e, Bool.and_eq_true] at h
    constructor
    · intro h'; omega
    · intro h'; exact absurd h h'
  · rw [if_neg (fun h' => h h'.2)]
    rw [e, Bool.and_eq_true] at h
    exact ⟨fun _ => h, fun _ => by decide⟩
theorem zone_rest (l : List UInt8) (hl : l.length ≤ 100) (hx : ∀ n, (lowL (mkB l), n) ∉ zN) (k : Nat) (hk : 500 ≤ k) :
    ∃ b e bm may ok, stamp_zone.f k (mkB l) = some (b, e) ∧ newsreelref17_zone.f k (mkB l) = some (bm, may, ok) ∧ zRel b e bm may ok := by
  have hn := named_none l hl hx k (by omega)
  obtain ⟨q, hq, hr⟩ := ref_none l hl hx k (by omega)
  obtain ⟨q, rfl⟩ : ∃ j, q = j + 1 := ⟨q - 1, by omega⟩
  obtain ⟨k, rfl⟩ : ∃ j, k = j + 1 + 1 + 1 := ⟨k - 3, by omega⟩
  have h8 : ¬ ((8 : Int) < (zL.length : Int)) := by decide
  rw [newsreelref17_zone.l0, if_neg h8] at hr
  generalize lowL (mkB l) = x at hr
  have bad : ∀ (o : Option (Int × Int)) (r : Option (Int × Bool × Bool)), o = some (0, 2) → r = some (0, false, false) → ∃ b e bm may ok, o = some (b, e) ∧ r = some (bm, may, ok) ∧ zRel b e bm may ok :=
    fun o r h1 h2 => ⟨0, 2, 0, false, false, h1, h2, Or.inl ⟨rfl, rfl⟩⟩
  by_cases h5 : ((mkB l).size : Int) = 5
  · obtain ⟨s0, a, b, c, d, rfl⟩ : ∃ s0 a b c d, l = [s0, a, b, c, d] := by
      have h5' : l.length = 5 := by have : ((mkB l).size : Int) = (l.length : Int) := rfl; omega
      match l, h5' with
      | [s0, a, b, c, d], _ => exact ⟨s0, a, b, c, d, rfl⟩
    have hb0 : bt (mkB [s0, a, b, c, d]) 0 = (s0.toNat : Int) := rfl
    have hp0 : (0 : Int) < ((mkB [s0, a, b, c, d]).size : Int) := show (0 : Int) < ((5 : Nat) : Int) by decide
    have x13 : (mkB [s0, a, b, c, d]).extract 1 3 = mkB [a, b] := by show (⟨([s0, a, b, c, d] : List UInt8).toArray⟩ : ByteArray).extract 1 3 = _; rw [ext_bytes]; rfl
    have x35 : (mkB [s0, a, b, c, d]).extract 3 (mkB [s0, a, b, c, d]).size = mkB [c, d] := by show (⟨([s0, a, b, c, d] : List UInt8).toArray⟩ : ByteArray).extract 3 5 = _; rw [ext_bytes]; rfl
    have x15 : (mkB [s0, a, b, c, d]).extract 1 (mkB [s0, a, b, c, d]).size = mkB [a, b, c, d] := by show (⟨([s0, a, b, c, d] : List UInt8).toArray⟩ : ByteArray).extract 1 5 = _; rw [ext_bytes]; rfl
    rw [if_pos h5, if_pos hp0, hb0, x15] at hr
    rw [stamp_zone.f, hn, Option.bind_some, if_neg (by decide), if_pos h5, if_pos hp0, hb0]
    have i3 : (3 : Int) ≤ ((mkB [s0, a, b, c, d]).size : Int) := show (3 : Int) ≤ ((5 : Nat) : Int) by decide
    have i1 : (1 : Int) ≤ ((mkB [s0, a, b, c, d]).size : Int) := show (1 : Int) ≤ ((5 : Nat) : Int) by decide
    by_cases hs : (s0.toNat : Int) = 43 ∨ (s0.toNat : Int) = 45
    · obtain ⟨t, ht, hneg⟩ := num4 a b c d (q + 1) (by omega)
      have hr' : newsreelref17_zone.f (k + 1 + 1 + 1) (mkB [s0, a, b, c, d]) = newsreelref17_zone.j2 (q + 1) (mkB [s0, a, b, c, d]) (decide (t < 0)) := by
        by_cases h43 : (s0.toNat : Int) = 43
        · rw [if_pos h43, if_pos i1, ht, Option.bind_some] at hr
          exact hr
        · rw [if_neg h43, if_pos (hs.resolve_left h43), if_pos i1, ht, Option.bind_some] at hr
          exact hr
      have ho' : (if (s0.toNat : Int) = 43 then stamp_zone.j0 (k + 1 + 1 + 1) (mkB [s0, a, b, c, d]) false else stamp_zone.j0 (k + 1 + 1 + 1) (mkB [s0, a, b, c, d]) ((s0.toNat : Int) != 45)) = stamp_zone.j0 (k + 1 + 1 + 1) (mkB [s0, a, b, c, d]) false := by
        by_cases h43 : (s0.toNat : Int) = 43
        · rw [if_pos h43]
        · rw [if_neg h43, bne_eq_false_iff_eq.mpr (hs.resolve_left h43)]
      rw [ho', stamp_zone.j0, if_neg (by decide), if_pos (by decide), if_pos i3, x13, x35, (dig2 a b (k + 1 + 1) (by omega)).1, Option.bind_some, (dig2 c d (k + 1 + 1) (by omega)).1, Option.bind_some]
      by_cases hA : (isDg a && isDg b) = true
      · by_cases hC : (isDg c && isDg d) = true
        · have hA' := Bool.and_eq_true_iff.1 hA
          have hC' := Bool.and_eq_true_iff.1 hC
          have v1 := val2 a b hA'.1 hA'.2
          have v2 := val2 c d hC'.1 hC'.2
          have htn : ¬ t < 0 := fun h => hneg.1 h ⟨hA, hC⟩
          rw [decide_eq_false htn, newsreelref17_zone.j2, if_neg (by decide), if_pos (by decide), if_pos i3, x13, x35, (dig2 a b q (by omega)).2, Option.bind_some, (dig2 c d q (by omega)).2, Option.bind_some, if_pos hp0, hb0, if_pos hA, if_pos hC] at hr'
          rw [if_pos hA, if_pos hC]
          generalize val [a, b] 0 = hh at *
          generalize val [c, d] 0 = mm at *
          have w1 : Aside0 (wrap64 ((wrap64 (3600 * hh)) + (wrap64 (60 * mm))) = 3600 * hh + 60 * mm) := ⟨by rw [w64 (n := 3600 * hh) (by omega) (by omega), w64 (n := 60 * mm) (by omega) (by omega), w64 (by omega) (by omega)]⟩
          have w2 : Aside0 (wrap64 (-(3600 * hh + 60 * mm)) = -(3600 * hh + 60 * mm)) := ⟨w64 (by omega) (by omega)⟩
          have w3 : Aside0 (wrap64 ((wrap64 ((-60) * hh)) - mm) = (-60) * hh - mm) := ⟨by rw [w64 (n := (-60) * hh) (by omega) (by omega), w64 (by omega) (by omega)]⟩
          have w4 : Aside0 (wrap64 ((wrap64 (60 * hh)) + mm) = 60 * hh + mm) := ⟨by rw [w64 (n := 60 * hh) (by omega) (by omega), w64 (by omega) (by omega)]⟩
          rw [if_neg (by omega), show decide (mm < 0) = false from decide_eq_false (by omega), stamp_zone.j1, if_neg (by decide)]
          rw [w3.out, w4.out] at hr'
          by_cases h23 : hh > 23
          · rw [if_pos h23, stamp_zone.j2, if_pos rfl]
            rw [if_neg (show ¬ hh ≤ 23 by omega), if_neg (show ¬ hh ≤ 23 by omega)] at hr'
            by_cases h45 : (s0.toNat : Int) = 45
            · rw [if_pos h45] at hr'
              exact ⟨_, _, _, _, _, rfl, hr', Or.inr (Or.inl ⟨rfl, rfl, rfl⟩)⟩
            · rw [if_neg h45] at hr'
              exact ⟨_, _, _, _, _, rfl, hr', Or.inr (Or.inl ⟨rfl, rfl, rfl⟩)⟩
          · rw [if_neg h23, stamp_zone.j2]
            rw [if_pos (show hh ≤ 23 by omega), if_pos (show hh ≤ 23 by omega)] at hr'
            by_cases h59 : mm > 59
            · rw [decide_eq_true h59, if_pos rfl]
              rw [show decide (mm ≤ 59) = false from decide_eq_false (by omega)] at hr'
              by_cases h45 : (s0.toNat : Int) = 45
              · rw [if_pos h45] at hr'
                exact ⟨_, _, _, _, _, rfl, hr', Or.inr (Or.inl ⟨rfl, rfl, rfl⟩)⟩
              · rw [if_neg h45] at hr'
                exact ⟨_, _, _, _, _, rfl, hr', Or.inr (Or.inl ⟨rfl, rfl, rfl⟩)⟩
            · rw [decide_eq_false h59, if_neg (by decide), if_pos hp0, hb0, w1.out, w2.out]
              rw [show decide (mm ≤ 59) = true from decide_eq_true (by omega)] at hr'
              by_cases h45 : (s0.toNat : Int) = 45
              · rw [if_pos h45] at hr' ⊢
                exact ⟨_, _, _, _, _, rfl, hr', Or.inr (Or.inr ⟨rfl, rfl, rfl, by omega, by omega, by omega⟩)⟩
              · rw [if_neg h45] at hr' ⊢
                exact ⟨_, _, _, _, _, rfl, hr', Or.inr (Or.inr ⟨rfl, rfl, rfl, by omega, by omega, by omega⟩)⟩
        · have htn : t < 0 := hneg.2 (fun h => hC h.2)
          rw [decide_eq_true htn, newsreelref17_zone.j2, if_pos rfl] at hr'
          have hA' := Bool.and_eq_true_iff.1 hA
          have v1 := val2 a b hA'.1 hA'.2
          rw [if_pos hA, if_neg hC, if_neg (by omega), show decide ((-1 : Int) < 0) = true from rfl, stamp_zone.j1, if_pos rfl]
          exact bad _ _ rfl hr'
      · have htn : t < 0 := hneg.2 (fun h => hA h.1)
        rw [decide_eq_true htn, newsreelref17_zone.j2, if_pos rfl] at hr'
        rw [if_neg hA, if_pos (by decide), stamp_zone.j1, if_pos rfl]
        exact bad _ _ rfl hr'
    · have h43 : ¬ (s0.toNat : Int) = 43 := fun h => hs (Or.inl h)
      have h45 : ¬ (s0.toNat : Int) = 45 := fun h => hs (Or.inr h)
      rw [if_neg h43, if_neg h45, newsreelref17_zone.j2, if_pos rfl] at hr
      rw [if_neg h43, bne_iff_ne.mpr h45, stamp_zone.j0, if_pos rfl]
      exact bad _ _ rfl hr
  · rw [if_neg h5, newsreelref17_zone.j2, if_pos rfl] at hr
    rw [stamp_zone.f, hn, Option.bind_some, if_neg (by decide), if_neg h5, stamp_zone.j0, if_pos rfl]
    exact bad _ _ rfl hr
theorem zone_both (l : List UInt8) (hl : l.length ≤ 100) (k : Nat) (hk : 500 ≤ k) : ∃ b e bm may ok, stamp_zone.f k (mkB l) = some (b, e) ∧ newsreelref17_zone.f k (mkB l) = some (bm, may, ok) ∧ zRel b e bm may ok := by
  by_cases h : ∃ n, (lowL (mkB l), n) ∈ zN
  · obtain ⟨n, hn⟩ := h
    obtain ⟨h1, h2⟩ := zone_named l hl _ n hn rfl k (by omega)
    have hb : 0 ≤ n ∧ n ≤ 8 := by
      simp only [zN, List.mem_cons, Prod.mk.injEq, List.not_mem_nil, or_false] at hn
      omega
    exact ⟨_, _, _, _, _, h1, h2, Or.inr (Or.inr ⟨rfl, rfl, rfl, by omega, by omega, by omega⟩)⟩
  · exact zone_rest l hl (fun n hn => h ⟨n, hn⟩) k hk
/-- What stands between colons. -/
def sp : List UInt8 → List UInt8 → List (List UInt8)
  | [], cur => [cur]
  | c :: r, cur => if c = 58 then cur :: sp r [] else sp r (cur ++ [c])
theorem sp_ref (l : List UInt8) (hl : l.length ≤ 1000) : ∀ (r p : List UInt8) (a : Nat) (acc : List ByteArray) (k : Nat), l = p ++ r → a ≤ p.length → acc.length ≤ p.length →
    newsreelref02_Split.l0 (k + r.length + 1) (mkB l) 58 acc (a : Int) (p.length : Int) = some (acc ++ (sp r (p.drop a)).map mkB)
  | [], p, a, acc, k, h, ha, h1 => by
    have e := bt_end (s := mkB l) (p := p) h
    have hp : p = l := by rw [h, List.append_nil]
    have hp0 : p.length ≤ 1000 := by rw [hp]; exact hl
    rw [List.length_nil, newsreelref02_Split.l0, if_neg (by omega), if_pos (by omega), if_pos (by omega), if_pos (by omega), sp]
    have hx : (mkB l).extract ((a : Int)).toNat (mkB l).size = mkB (p.drop a) := by
      show (⟨l.toArray⟩ : ByteArray).extract a l.length = _
      rw [ext_bytes, List.take_length, hp]
    rw [hx]
    rfl
  | c :: r, p, a, acc, k, h, ha, h1 => by
    obtain ⟨hc, hlt⟩ := bt_mid (s := mkB l) (p := p) h
    have hpl : p.length < l.length := by rw [h, List.length_append, List.length_cons]; omega
    have hl2 : l = (p ++ [c]) ++ r := by rw [h, List.append_assoc]; rfl
    have hp1 : (p ++ [c]).length = p.length + 1 := by rw [List.length_append, List.length_singleton]
    have e2 : Aside0 (wrap64 ((p.length : Int) + 1) = (((p ++ [c]).length : Nat) : Int)) := ⟨by rw [w64 (by omega) (by omega), hp1]; rfl⟩
    have hx : (mkB l).extract ((a : Int)).toNat ((p.length : Int)).toNat = mkB (p.drop a) := by
      show (⟨l.toArray⟩ : ByteArray).extract a p.length = _
      rw [ext_bytes, h, List.take_left]
    rw [List.length_cons, show k + (r.length + 1) + 1 = (k + r.length + 1) + 1 by omega, newsreelref02_Split.l0, if_pos hlt, if_pos (by omega), hc, sp, e2.out]
    by_cases hb : c = 58
    · have hbi : (c.toNat : Int) = 58 := by rw [hb]; rfl
      rw [if_pos hbi, if_pos hb, if_pos (by omega), if_pos (by omega), if_pos (by omega), if_pos (by omega), hx]
      have := sp_ref l hl r (p ++ [c]) (p ++ [c]).length (acc ++ [mkB (p.drop a)]) k hl2 (Nat.le_refl _) (by rw [List.length_append, List.length_singleton]; omega)
      refine this.trans ?_
      rw [List.drop_length, List.append_assoc]
      rfl
    · have hbi : ¬ (c.toNat : Int) = 58 := fun e => hb (UInt8.toNat_inj.1 (by show c.toNat = 58; omega))
      rw [if_neg hbi, if_neg hb]
      have := sp_ref l hl r (p ++ [c]) a acc k hl2 (by omega) (by omega)
      refine this.trans ?_
      rw [List.drop_append_of_le_length ha]
theorem split_ref (l : List UInt8) (hl : l.length ≤ 1000) (k : Nat) (hk : l.length + 1 ≤ k) : newsreelref02_Split.f k (mkB l) 58 = some ((sp l []).map mkB) := by
  obtain ⟨q, rfl⟩ : ∃ q, k = q + l.length + 1 := ⟨k - (l.length + 1), by omega⟩
  exact sp_ref l hl l [] 0 [] q rfl (Nat.le_refl _) (Nat.le_refl _)
theorem idxB : ∀ (l cur : List UInt8), (indexByte l 58 = -1 ∧ sp l cur = [cur ++ l]) ∨ (∃ i : Nat, indexByte l 58 = (i : Int) ∧ i < l.length ∧ sp l cur = (cur ++ l.take i) :: sp (l.drop (i + 1)) [])
  | [], cur => Or.inl ⟨rfl, by rw [sp, List.append_nil]⟩
  | c :: r, cur => by
    rw [indexByte, sp]
    by_cases hc : c = 58
    · right
      refine ⟨0, by rw [if_pos (beq_iff_eq.mpr hc)]; rfl, by simp, ?_⟩
      rw [if_pos hc, List.take_zero, List.append_nil]
      rfl
    · rw [if_neg (by rw [beq_iff_eq]; exact hc), if_neg hc]
      rcases idxB r (cur ++ [c]) with ⟨h1, h2⟩ | ⟨i, h1, h2, h3⟩
      · left
        refine ⟨by rw [h1]; rfl, ?_⟩
        rw [h2, List.append_assoc]
        rfl
      · right
        refine ⟨i + 1, ?_, by rw [List.length_cons]; omega, ?_⟩
        · rw [h1, if_neg (by rw [beq_iff_eq]; omega)]
          rfl
        · rw [h3, List.append_assoc]
          rfl
theorem sp_own : ∀ (n : Nat) (l : List UInt8) (acc : List ByteArray) (k : Nat), l.length ≤ n → l.length ≤ 1000 → acc.length + l.length ≤ 2000 → text_Split.l0 (k + n + 1) (mkB l) 58 acc = some (acc ++ (sp l []).map mkB) := by
  intro n
  induction n with
  | zero =>
    intro l acc k h _ _
    obtain rfl : l = [] := List.length_eq_zero_iff.1 (by omega)
    have hc : text_Cut.f (mkB []) 58 = some (mkB [], ⟨#[]⟩, false) := by
      have hi : strings_IndexByte.f (mkB []) 58 = some (-1) := rfl
      rw [text_Cut.f, hi, Option.bind_some, if_pos (by decide)]
    rw [text_Split.l0, hc, Option.bind_some]
    dsimp only
    rw [if_pos (by omega), Option.bind_some, if_neg (by decide)]
    rfl
  | succ n ih =>
    intro l acc k h hl ha
    rcases idxB l [] with ⟨h1, h2⟩ | ⟨i, h1, h2, h3⟩
    · have hi : strings_IndexByte.f (mkB l) 58 = some (-1) := congrArg some h1
      have hc : text_Cut.f (mkB l) 58 = some (mkB l, ⟨#[]⟩, false) := by
        rw [text_Cut.f, hi, Option.bind_some, if_pos (by decide)]
      rw [text_Split.l0, hc, Option.bind_some]
      dsimp only
      rw [if_pos (by omega), Option.bind_some, if_neg (by decide), h2]
      rfl
    · have hi : strings_IndexByte.f (mkB l) 58 = some (i : Int) := congrArg some h1
      have e2 : Aside0 (wrap64 ((i : Int) + 1) = ((i + 1 : Nat) : Int)) := ⟨by rw [w64 (by omega) (by omega)]; omega⟩
      have hx1 : (mkB l).extract 0 ((i : Int)).toNat = mkB (l.take i) := by
        show (⟨l.toArray⟩ : ByteArray).extract 0 i = _
        rw [ext_bytes, List.drop_zero]
      have hx2 : (mkB l).extract (((i + 1 : Nat) : Int)).toNat (mkB l).size = mkB (l.drop (i + 1)) := by
        show (⟨l.toArray⟩ : ByteArray).extract (i + 1) l.length = _
        rw [ext_bytes, List.take_length]
      have hsz : ((mkB l).size : Int) = (l.length : Int) := rfl
      have hc : text_Cut.f (mkB l) 58 = some (mkB (l.take i), mkB (l.drop (i + 1)), true) := by
        rw [text_Cut.f, hi, Option.bind_some, if_neg (by omega), if_pos (by omega), e2.out, hsz, if_pos (by omega), if_pos (by omega), if_pos (by omega), hx1, hx2]
      have hd : (l.drop (i + 1)).length ≤ n := by rw [List.length_drop]; omega
      have IH := ih (l.drop (i + 1)) (acc ++ [mkB (l.take i)]) k hd (by rw [List.length_drop]; omega) (by rw [List.length_append, List.length_singleton, List.length_drop]; omega)
      rw [show k + (n + 1) + 1 = (k + n + 1) + 1 by omega, text_Split.l0, hc, Option.bind_some]
      dsimp only
      rw [if_pos (by omega), Option.bind_some, if_pos rfl, IH, h3, List.append_assoc]
      rfl
theorem split_own (l : List UInt8) (hl : l.length ≤ 1000) (k : Nat) (hk : l.length + 1 ≤ k) : text_Split.f k (mkB l) 58 = some ((sp l []).map mkB) := by
  obtain ⟨q, rfl⟩ : ∃ q, k = q + l.length + 1 := ⟨k - (l.length + 1), by omega⟩
  exact sp_own l.length l [] q (Nat.le_refl _) hl (by rw [List.length_nil]; omega)
end Go.Proofs.YtghdkpcpgpfgcaaDoor.XStb
namespace Go.Proofs.YtghdkpcpgpfgcaaDoor.XStb
open Go.RowKit Go.Proofs.YtghdkpcpgpfgcaaDoorW.PrintWords Go.Proofs.YtghdkpcpgpfgcaaDoorW.PrintLast Go.Proofs.YtghdkpcpgpfgcaaDoorW.PrintMore
theorem leap_ref (y : Int) (k : Nat) : (if (Int.tmod y 4) = 0 then (if (Int.tmod y 100) = 0 then (newsreelref17_Days.j1 (k + 1) ((Int.tmod y 400) == 0)) else (newsreelref17_Days.j1 (k + 1) true)) else (newsreelref17_Days.j1 (k + 1) false)) = some (if stamp_Days.leap y = true then 29 else 28) := by
  unfold stamp_Days.leap
  by_cases h1 : Int.tmod y 4 = 0
  · rw [if_pos h1, beq_iff_eq.mpr h1, Bool.true_and]
    by_cases h2 : Int.tmod y 100 = 0
    · rw [if_pos h2, bne_eq_false_iff_eq.mpr h2, Bool.false_or, newsreelref17_Days.j1]
      split <;> rfl
    · rw [if_neg h2, bne_iff_ne.mpr h2, Bool.true_or, newsreelref17_Days.j1, if_pos rfl, if_pos rfl]
  · rw [if_neg h1, beq_eq_false_iff_ne.mpr h1, Bool.false_and, newsreelref17_Days.j1, if_neg (by decide), if_neg (by decide)]
theorem days_ref (y m : Int) (k : Nat) (hk : 3 ≤ k) : newsreelref17_Days.f k y m = some (stamp_Days.days y m) := by
  obtain ⟨k, rfl⟩ : ∃ j, k = j + 1 + 1 + 1 := ⟨k - 3, by omega⟩
  unfold stamp_Days.days
  by_cases c1 : y < 1970
  · rw [newsreelref17_Days.f, if_pos c1, newsreelref17_Days.j0, if_pos rfl, if_pos (Or.inl c1)]
  by_cases c2 : y > 2199
  · rw [newsreelref17_Days.f, if_neg c1, if_pos c2, newsreelref17_Days.j0, if_pos rfl, if_pos (Or.inr (Or.inl c2))]
  by_cases c3 : m < 1
  · rw [newsreelref17_Days.f, if_neg c1, if_neg c2, if_pos c3, newsreelref17_Days.j0, if_pos rfl, if_pos (Or.inr (Or.inr (Or.inl c3)))]
  by_cases c4 : m > 12
  · rw [newsreelref17_Days.f, if_neg c1, if_neg c2, if_neg c3, newsreelref17_Days.j0, show decide (m > 12) = true from decide_eq_true c4, if_pos rfl, if_pos (Or.inr (Or.inr (Or.inr c4)))]
  rw [newsreelref17_Days.f, if_neg c1, if_neg c2, if_neg c3, newsreelref17_Days.j0, show decide (m > 12) = false from decide_eq_false c4, if_neg (by decide), if_neg (show ¬ (y < 1970 ∨ y > 2199 ∨ m < 1 ∨ m > 12) by omega)]
  by_cases e2 : m = 2
  · subst e2
    rw [if_pos rfl, leap_ref]
    by_cases hl : stamp_Days.leap y = true
    · rw [if_pos hl, if_pos ⟨rfl, hl⟩]
    · rw [if_neg hl, if_neg (show ¬ ((2 : Int) = 2 ∧ stamp_Days.leap y = true) from fun h => hl h.2)]
      rfl
  rw [if_neg e2, if_neg (show ¬ (m = 2 ∧ stamp_Days.leap y = true) from fun h => e2 h.1)]
  have hm : m = 1 ∨ m = 3 ∨ m = 4 ∨ m = 5 ∨ m = 6 ∨ m = 7 ∨ m = 8 ∨ m = 9 ∨ m = 10 ∨ m = 11 ∨ m = 12 := by omega
  clear c1 c2 c3 c4 e2
  rcases hm with rfl | rfl | rfl | rfl | rfl | rfl | rfl | rfl | rfl | rfl | rfl <;> rfl
theorem names_t : newsreelref17_names.f true = some [⟨#[116, 104, 117]⟩, ⟨#[102, 114, 105]⟩, ⟨#[115, 97, 116]⟩, ⟨#[115, 117, 110]⟩, ⟨#[109, 111, 110]⟩, ⟨#[116, 117, 101]⟩, ⟨#[119, 101, 100]⟩] := rfl
def wdL : List ByteArray := [⟨#[116, 104, 117]⟩, ⟨#[102, 114, 105]⟩, ⟨#[115, 97, 116]⟩, ⟨#[115, 117, 110]⟩, ⟨#[109, 111, 110]⟩, ⟨#[116, 117, 101]⟩, ⟨#[119, 101, 100]⟩]
def moL : List ByteArray := [⟨#[106, 97, 110]⟩, ⟨#[102, 101, 98]⟩, ⟨#[109, 97, 114]⟩, ⟨#[97, 112, 114]⟩, ⟨#[109, 97, 121]⟩, ⟨#[106, 117, 110]⟩, ⟨#[106, 117, 108]⟩, ⟨#[97, 117, 103]⟩, ⟨#[115, 101, 112]⟩, ⟨#[111, 99, 116]⟩, ⟨#[110, 111, 118]⟩, ⟨#[100, 101, 99]⟩]
theorem names_f : newsreelref17_names.f false = some moL := rfl
theorem names_t2 : newsreelref17_names.f true = some wdL := rfl
end Go.Proofs.YtghdkpcpgpfgcaaDoor.XStb
namespace Go.Proofs.YtghdkpcpgpfgcaaDoor.XStb
open Go.RowKit Go.Proofs.YtghdkpcpgpfgcaaDoorW.PrintWords Go.Proofs.YtghdkpcpgpfgcaaDoorW.PrintLast Go.Proofs.YtghdkpcpgpfgcaaDoorW.PrintMore
open Go.Lib
theorem place_moL (s : ByteArray) (hs : s.size ≤ 100) (k : Nat) (hk : 400 ≤ k) : newsreelref17_place.f k false s = some (place (lowL s) (moT.map triL) 0) := by
  obtain ⟨q, rfl⟩ : ∃ q, k = q + moL.length + 1 := ⟨k - (moL.length + 1), by have : moL.length = 12 := rfl; omega⟩
  have : moL.length = 12 := rfl
  rw [newsreelref17_place.f, names_f, Option.bind_some]
  exact place_l0 s (by omega) moL (by decide) moL [] q rfl (by omega)
theorem place_wdL (s : ByteArray) (hs : s.size ≤ 100) (k : Nat) (hk : 400 ≤ k) : newsreelref17_place.f k true s = some (place (lowL s) (wdT.map triL) 0) := by
  obtain ⟨q, rfl⟩ : ∃ q, k = q + wdL.length + 1 := ⟨k - (wdL.length + 1), by have : wdL.length = 7 := rfl; omega⟩
  have : wdL.length = 7 := rfl
  rw [newsreelref17_place.f, names_t2, Option.bind_some]
  exact place_l0 s (by omega) wdL (by decide) wdL [] q rfl (by omega)
theorem index_mo (s : ByteArray) (hs : s.size ≤ 100) (k : Nat) (hk : 3 ≤ k) : stamp_index.f k moN s = some (place (lowL s) (moT.map triL) 0) :=
  index_spec moT moN rfl (by decide) (by decide) s (by omega) k hk
theorem index_wd (s : ByteArray) (hs : s.size ≤ 100) (k : Nat) (hk : 3 ≤ k) : stamp_index.f k wdN s = some (place (lowL s) (wdT.map triL) 0) :=
  index_spec wdT wdN rfl (by decide) (by decide) s (by omega) k hk
/-- A number of so many digits, or -1. -/
def numN (l : List UInt8) (n : Nat) : Int := if l.length = n ∧ l.all isDg = true then val l 0 else -1
theorem number_n (l : List UInt8) (n : Nat) (hn : 1 ≤ n ∧ n ≤ 4) (k : Nat) (hk : 20 ≤ k) : newsreelref17_Number.f k (mkB l) (n : Int) = some (numN l n) := by
  rw [number_spec (mkB l) (n : Int) (by omega) k hk]
  congr 1
  show (if (l.length : Int) = (n : Int) ∧ l.all isDg = true then val l 0 else -1) = _
  unfold numN
  by_cases h : l.length = n ∧ l.all isDg = true
  · rw [if_pos h, if_pos ⟨by omega, h.2⟩]
  · rw [if_neg h, if_neg (fun h' => h ⟨by omega, h'.2⟩)]
theorem digits_n (l : List UInt8) (hl : l.length ≤ 1000) (n : Nat) (hn : n ≤ 4) (k : Nat) (hk : 10 ≤ k) : stamp_digits.f k (mkB l) (n : Int) (n : Int) = some (numN l n) := by
  rw [digits_spec (mkB l) hl (n : Int) (n : Int) (by omega) k hk]
  congr 1
  show (if (n : Int) ≤ (l.length : Int) ∧ (l.length : Int) ≤ (n : Int) ∧ l.all isDg = true then val l 0 else -1) = _
  unfold numN
  by_cases h : l.length = n ∧ l.all isDg = true
  · rw [if_pos h, if_pos ⟨by omega, by omega, h.2⟩]
  · rw [if_neg h, if_neg (fun h' => h ⟨by omega, h'.2.2⟩)]
theorem digits_12 (l : List UInt8) (hl : l.length ≤ 1000) (k : Nat) (hk : 10 ≤ k) : stamp_digits.f k (mkB l) 1 2 = some (if l.length = 1 then numN l 1 else numN l 2) := by
  rw [digits_spec (mkB l) hl 1 2 (by decide) k hk]
  congr 1
  show (if (1 : Int) ≤ (l.length : Int) ∧ (l.length : Int) ≤ 2 ∧ l.all isDg = true then val l 0 else -1) = _
  unfold numN
  by_cases h1 : l.length = 1
  · rw [if_pos h1]
    by_cases h : l.all isDg = true
    · rw [if_pos ⟨by omega, by omega, h⟩, if_pos ⟨h1, h⟩]
    · rw [if_neg (fun h' => h h'.2.2), if_neg (fun h' => h h'.2)]
  · rw [if_neg h1]
    by_cases h2 : l.length = 2
    · by_cases h : l.all isDg = true
      · rw [if_pos ⟨by omega, by omega, h⟩, if_pos ⟨h2, h⟩]
      · rw [if_neg (fun h' => h h'.2.2), if_neg (fun h' => h h'.2)]
    · rw [if_neg (fun h' => by omega), if_neg (fun h' => h2 h'.1)]
theorem numN2 (l : List UInt8) : numN l 2 = -1 ∨ (0 ≤ numN l 2 ∧ numN l 2 ≤ 99 ∧ l.length = 2) := by
  unfold numN
  by_cases h : l.length = 2 ∧ l.all isDg = true
  · right
    rw [if_pos h]
    obtain ⟨h2, hd⟩ := h
    match l, h2, hd with
    | [a, b], _, hd =>
      simp only [List.all_cons, List.all_nil, Bool.and_true, Bool.and_eq_true] at hd
      have := val2 a b hd.1 hd.2
      exact ⟨this.1, this.2, rfl⟩
  · left
    rw [if_neg h]
/-- The year of a field. -/
def yearOf (l : List UInt8) : Int := if l.length = 2 then (if numN l 2 ≥ 0 then (if numN l 2 < 70 then 2000 + numN l 2 else 1900 + numN l 2) else numN l 2) else numN l 4
theorem year_ref (l : List UInt8) (k : Nat) (hk : 20 ≤ k) : newsreelref17_year.f k (mkB l) = some (yearOf l) := by
  have h2 := number_n l 2 (by decide) k hk
  have h4 := number_n l 4 (by decide) k hk
  have hb := numN2 l
  have h2 : newsreelref17_Number.f k (mkB l) 2 = some (numN l 2) := h2
  have h4 : newsreelref17_Number.f k (mkB l) 4 = some (numN l 4) := h4
  rw [newsreelref17_year.f, h2, Option.bind_some, h4, Option.bind_some]
  unfold yearOf
  rcases hb with hb | ⟨b1, b2, b3⟩
  · rw [hb, if_neg (by decide), if_neg (by decide)]
    by_cases hl : l.length = 2
    · rw [if_pos hl]
      have : numN l 4 = -1 := by unfold numN; rw [if_neg (fun h => by omega)]
      rw [this]
      rfl
    · rw [if_neg hl]
  · rw [if_pos b3]
    generalize numN l 2 = q at *
    by_cases h70 : q ≥ 70
    · rw [if_pos h70, if_pos b1, if_neg (show ¬ q < 70 by omega), w64 (by omega) (by omega)]
    · rw [if_neg h70, if_pos b1, if_pos b1, if_pos (show q < 70 by omega), w64 (by omega) (by omega)]
theorem pl0 (k : Nat) (x : Bool) (L0 L1 L2 L3 L4 L5 z : Int) (m : Bool) : newsreelref17_parse.l0 (k + 1) x 0 L0 L1 L2 L3 L4 L5 z m = newsreelref17_parse.l0 k (x && decide (L0 ≥ 0)) 1 L0 L1 L2 L3 L4 L5 z m := by
  have w : wrap64 ((0 : Int) + 1) = 1 := by rw [w64 (by decide) (by decide)]; rfl
  rw [newsreelref17_parse.l0, if_pos (by decide), w]
  cases x with
  | false => rw [if_neg (by decide), Bool.false_and]
  | true => rw [if_pos rfl, Bool.true_and, if_pos rfl]
theorem pl1 (k : Nat) (x : Bool) (L0 L1 L2 L3 L4 L5 z : Int) (m : Bool) : newsreelref17_parse.l0 (k + 1) x 1 L0 L1 L2 L3 L4 L5 z m = newsreelref17_parse.l0 k (x && decide (L1 ≥ 0)) 2 L0 L1 L2 L3 L4 L5 z m := by
  have w : wrap64 ((1 : Int) + 1) = 2 := by rw [w64 (by decide) (by decide)]; rfl
  rw [newsreelref17_parse.l0, if_pos (by decide), w]
  cases x with
  | false => rw [if_neg (by decide), Bool.false_and]
  | true => rw [if_pos rfl, Bool.true_and, if_neg (by decide), if_pos rfl]
theorem pl2 (k : Nat) (x : Bool) (L0 L1 L2 L3 L4 L5 z : Int) (m : Bool) : newsreelref17_parse.l0 (k + 1) x 2 L0 L1 L2 L3 L4 L5 z m = newsreelref17_parse.l0 k (x && decide (L2 ≥ 0)) 3 L0 L1 L2 L3 L4 L5 z m := by
  have w : wrap64 ((2 : Int) + 1) = 3 := by rw [w64 (by decide) (by decide)]; rfl
  rw [newsreelref17_parse.l0, if_pos (by decide), w]
  cases x with
  | false => rw [if_neg (by decide), Bool.false_and]
  | true => rw [if_pos rfl, Bool.true_and, if_neg (by decide), if_neg (by decide), if_pos rfl]
theorem pl3 (k : Nat) (x : Bool) (L0 L1 L2 L3 L4 L5 z : Int) (m : Bool) : newsreelref17_parse.l0 (k + 1) x 3 L0 L1 L2 L3 L4 L5 z m = newsreelref17_parse.l0 k (x && decide (L3 ≥ 0)) 4 L0 L1 L2 L3 L4 L5 z m := by
  have w : wrap64 ((3 : Int) + 1) = 4 := by rw [w64 (by decide) (by decide)]; rfl
  rw [newsreelref17_parse.l0, if_pos (by decide), w]
  cases x with
  | false => rw [if_neg (by decide), Bool.false_and]
  | true => rw [if_pos rfl, Bool.true_and, if_neg (by decide), if_neg (by decide), if_neg (by decide), if_pos rfl]
theorem pl4 (k : Nat) (x : Bool) (L0 L1 L2 L3 L4 L5 z : Int) (m : Bool) : newsreelref17_parse.l0 (k + 1) x 4 L0 L1 L2 L3 L4 L5 z m = newsreelref17_parse.l0 k (x && decide (L4 ≥ 0)) 5 L0 L1 L2 L3 L4 L5 z m := by
  have w : wrap64 ((4 : Int) + 1) = 5 := by rw [w64 (by decide) (by decide)]; rfl
  rw [newsreelref17_parse.l0, if_pos (by decide), w]
  cases x with
  | false => rw [if_neg (by decide), Bool.false_and]
  | true => rw [if_pos rfl, Bool.true_and, if_neg (by decide), if_neg (by decide), if_neg (by decide), if_neg (by decide), if_pos rfl]
theorem pl5 (k : Nat) (x : Bool) (L0 L1 L2 L3 L4 L5 z : Int) (m : Bool) : newsreelref17_parse.l0 (k + 1) x 5 L0 L1 L2 L3 L4 L5 z m = newsreelref17_parse.l0 k (x && decide (L5 ≥ 0)) 6 L0 L1 L2 L3 L4 L5 z m := by
  have w : wrap64 ((5 : Int) + 1) = 6 := by rw [w64 (by decide) (by decide)]; rfl
  rw [newsreelref17_parse.l0, if_pos (by decide), w]
  cases x with
  | false => rw [if_neg (by decide), Bool.false_and]
  | true => rw [if_pos rfl, Bool.true_and, if_neg (by decide), if_neg (by decide), if_neg (by decide), if_neg (by decide), if_neg (by decide), if_pos rfl]
theorem parse_l0 (k : Nat) (x : Bool) (L0 L1 L2 L3 L4 L5 z : Int) (m : Bool) : newsreelref17_parse.l0 (k + 7) x 0 L0 L1 L2 L3 L4 L5 z m = some (L0, L1, L2, L3, L4, L5, z, m, (x && decide (L0 ≥ 0) && decide (L1 ≥ 0) && decide (L2 ≥ 0) && decide (L3 ≥ 0) && decide (L4 ≥ 0) && decide (L5 ≥ 0)) && decide (L1 > 0)) := by
  rw [show k + 7 = k + 1 + 1 + 1 + 1 + 1 + 1 + 1 from rfl, pl0, pl1, pl2, pl3, pl4, pl5, newsreelref17_parse.l0, if_neg (by decide)]
  generalize (x && decide (L0 ≥ 0) && decide (L1 ≥ 0) && decide (L2 ≥ 0) && decide (L3 ≥ 0) && decide (L4 ≥ 0) && decide (L5 ≥ 0)) = y
  cases y with
  | false => rw [if_neg (by decide), Bool.false_and]
  | true => rw [if_pos rfl, Bool.true_and]
theorem sp_len : ∀ (r cur : List UInt8), ∀ y ∈ sp r cur, y.length ≤ r.length + cur.length
  | [], cur, y, hy => by
    rw [sp, List.mem_singleton] at hy
    subst hy
    omega
  | c :: r, cur, y, hy => by
    rw [sp] at hy
    rw [List.length_cons]
    by_cases hc : c = 58
    · rw [if_pos hc] at hy
      rcases List.mem_cons.1 hy with h | h
      · subst h; omega
      · have := sp_len r [] y h
        rw [List.length_nil] at this
        omega
    · rw [if_neg hc] at hy
      have := sp_len r (cur ++ [c]) y hy
      rw [List.length_append, List.length_singleton] at this
      omega
theorem sp_cnt : ∀ (r cur : List UInt8), (sp r cur).length ≤ r.length + 1
  | [], cur => by rw [sp]; simp
  | c :: r, cur => by
    rw [sp]
    split
    · have := sp_cnt r []; simp only [List.length_cons]; omega
    · have := sp_cnt r (cur ++ [c]); simp only [List.length_cons]; omega
def clkOf (l : List (List UInt8)) : Int × Int × Int × Bool :=
  match l with
  | [a, b] => (numN a 2, numN b 2, 0, decide (numN a 2 ≥ 0) && decide (numN b 2 ≥ 0))
  | [a, b, c] => (numN a 2, numN b 2, numN c 2, decide (numN a 2 ≥ 0) && decide (numN b 2 ≥ 0) && decide (numN c 2 ≥ 0))
  | _ => (0, 0, 0, false)
theorem clk_j0 (a b c : List UInt8) (ha : a.length ≤ 1000) (hb : b.length ≤ 1000) (hc : c.length ≤ 1000) (k : Nat) (hk : 10 ≤ k) : stamp_parseClock.j0 (k + 1) [mkB a, mkB b, mkB c] = some (numN a 2, numN b 2, numN c 2, decide (numN a 2 ≥ 0) && decide (numN b 2 ≥ 0) && decide (numN c 2 ≥ 0)) := by
  have e1 : stamp_digits.f k (mkB a) 2 2 = some (numN a 2) := digits_n a ha 2 (by decide) k hk
  have e2 : stamp_digits.f k (mkB b) 2 2 = some (numN b 2) := digits_n b hb 2 (by decide) k hk
  have e3 : stamp_digits.f k (mkB c) 2 2 = some (numN c 2) := digits_n c hc 2 (by decide) k hk
  rw [stamp_parseClock.j0, if_pos (by simp), if_pos (by simp)]
  refine (show Option.bind (stamp_digits.f k (mkB a) 2 2) _ = _ from ?_)
  rw [e1, Option.bind_some, if_pos (by simp)]
  refine (show Option.bind (stamp_digits.f k (mkB b) 2 2) _ = _ from ?_)
  rw [e2, Option.bind_some, if_pos (by simp)]
  refine (show Option.bind (stamp_digits.f k (mkB c) 2 2) _ = _ from ?_)
  rw [e3, Option.bind_some]
  by_cases h1 : numN a 2 ≥ 0
  · rw [if_pos h1, decide_eq_true h1, Bool.true_and]
    by_cases h2 : numN b 2 ≥ 0
    · rw [if_pos h2, decide_eq_true h2, Bool.true_and]
    · rw [if_neg h2, decide_eq_false h2, Bool.false_and]
  · rw [if_neg h1, decide_eq_false h1, Bool.false_and, Bool.false_and]
theorem clk_bad (L : List ByteArray) (h : L.length ≠ 3) (k : Nat) : stamp_parseClock.j0 (k + 1) L = some (0, 0, 0, false) := by
  rw [stamp_parseClock.j0, if_neg (by omega)]
theorem clock_own (l : List UInt8) (hl : l.length ≤ 100) (k : Nat) (hk : 200 ≤ k) : stamp_parseClock.f k (mkB l) = some (clkOf (sp l [])) := by
  obtain ⟨k, rfl⟩ : ∃ j, k = j + 1 := ⟨k - 1, by omega⟩
  have hs := split_own l (by omega) (k + 1) (by omega)
  have hy : ∀ y ∈ sp l [], y.length ≤ 1000 := fun y h => by
    have := sp_len l [] y h
    rw [List.length_nil] at this
    omega
  rw [stamp_parseClock.f, hs, Option.bind_some]
  match hsp : sp l [], hy with
  | [], _ => rw [if_neg (by simp), clk_bad _ (by simp)]; rfl
  | [a], _ => rw [if_neg (by simp), clk_bad _ (by simp)]; rfl
  | [a, b], hy =>
    rw [if_pos (by simp), if_pos (by simp)]
    have h0 : numN [48, 48] 2 = 0 := by decide
    have := clk_j0 a b [48, 48] (hy a (.head _)) (hy b (.tail _ (.head _))) (by decide) k (by omega)
    refine this.trans ?_
    rw [h0]
    show some _ = some (numN a 2, numN b 2, 0, _)
    rw [show decide ((0 : Int) ≥ 0) = true from rfl, Bool.and_true]
  | [a, b, c], hy =>
    rw [if_neg (by simp)]
    exact clk_j0 a b c (hy a (.head _)) (hy b (.tail _ (.head _))) (hy c (.tail _ (.tail _ (.head _)))) k (by omega)
  | a :: b :: c :: d :: r, _ =>
    rw [if_neg (by simp only [List.length_map, List.length_cons]; omega), clk_bad _ (by simp)]
    rfl
def dayOf (l : List UInt8) : Int := if l.length = 1 then numN l 1 else numN l 2
def monOf (l : List UInt8) : Int := place (lowL (mkB l)) (moT.map triL) 0 + 1
def okD (f0 f1 f2 : List UInt8) : Bool := decide (dayOf f0 ≥ 0) && decide (monOf f1 > 0) && decide (yearOf f2 ≥ 0)
theorem place_le (x : List UInt8) : ∀ (l : List (List UInt8)) (i : Nat), place x l i ≤ (i : Int) + l.length
  | [], i => by unfold place; omega
  | y :: l, i => by
    unfold place
    split
    · omega
    · have := place_le x l (i + 1)
      rw [List.length_cons]
      omega
theorem mon_bd2 (l : List UInt8) : 0 ≤ monOf l ∧ monOf l ≤ 13 := by
  unfold monOf
  have h1 := place_le (lowL (mkB l)) (moT.map triL) 0
  have h2 := place_bd (lowL (mkB l)) (moT.map triL) 0
  have h3 : (moT.map triL).length = 12 := rfl
  rw [h3] at h1
  omega
theorem date_j0 (d m y : Int) (k : Nat) : stamp_parseDate.j0 (k + 1) d m y = some (d, m, y, decide (d ≥ 0) && decide (m > 0) && decide (y ≥ 0)) := by
  rw [stamp_parseDate.j0]
  by_cases h1 : d ≥ 0
  · rw [if_pos h1, decide_eq_true h1, Bool.true_and]
    by_cases h2 : m > 0
    · rw [if_pos h2, decide_eq_true h2, Bool.true_and]
    · rw [if_neg h2, decide_eq_false h2, Bool.false_and]
  · rw [if_neg h1, decide_eq_false h1, Bool.false_and, Bool.false_and]
theorem date_own (f0 f1 f2 f3 f4 : List UInt8) (h0 : f0.length ≤ 100) (h1 : f1.length ≤ 100) (h2 : f2.length ≤ 100) (k : Nat) (hk : 20 ≤ k) :
    stamp_parseDate.f k [mkB f0, mkB f1, mkB f2, mkB f3, mkB f4] = some (dayOf f0, monOf f1, yearOf f2, okD f0 f1 f2) := by
  obtain ⟨k, rfl⟩ : ∃ j, k = j + 1 := ⟨k - 1, by omega⟩
  have e0 := digits_12 f0 (by omega) (k + 1) (by omega)
  have e1 := index_mo (mkB f1) (show f1.length ≤ 100 from h1) (k + 1) (by omega)
  have e2 : stamp_digits.f (k + 1) (mkB f2) 4 4 = some (numN f2 4) := digits_n f2 (by omega) 4 (by decide) (k + 1) (by omega)
  have e3 : stamp_digits.f (k + 1) (mkB f2) 2 2 = some (numN f2 2) := digits_n f2 (by omega) 2 (by decide) (k + 1) (by omega)
  have hm := mon_bd2 f1
  have w : Aside0 (wrap64 (place (lowL (mkB f1)) (moT.map triL) 0 + 1) = monOf f1) := ⟨by
    have h : place (lowL (mkB f1)) (moT.map triL) 0 + 1 = monOf f1 := rfl
    rw [h, w64 (by omega) (by omega)]⟩
  rw [stamp_parseDate.f, if_pos (by simp)]
  refine (show Option.bind (stamp_digits.f (k + 1) (mkB f0) 1 2) _ = _ from ?_)
  rw [e0, Option.bind_some, if_pos (by simp)]
  refine (show Option.bind (stamp_index.f (k + 1) moN (mkB f1)) _ = _ from ?_)
  rw [e1, Option.bind_some, if_pos (by simp), w.out]
  refine (show Option.bind (stamp_digits.f (k + 1) (mkB f2) 4 4) _ = _ from ?_)
  rw [e2, Option.bind_some]
  show (if (f2.length : Int) = 2 then _ else _) = _
  unfold okD dayOf yearOf
  by_cases hl : f2.length = 2
  · rw [if_pos (show (f2.length : Int) = 2 by omega), if_pos hl]
    refine (show Option.bind (stamp_digits.f (k + 1) (mkB f2) 2 2) _ = _ from ?_)
    rw [e3, Option.bind_some]
    rcases numN2 f2 with hb | ⟨b1, b2, _⟩
    · rw [hb, if_neg (by decide), date_j0]
      rfl
    · generalize numN f2 2 = q at *
      have w1 : Aside0 (wrap64 (q + 1900) = q + 1900) := ⟨w64 (by omega) (by omega)⟩
      have w2 : Aside0 (wrap64 (q + 1900 + 100) = 2000 + q) := ⟨by rw [w64 (by omega) (by omega)]; omega⟩
      rw [if_pos b1, if_pos b1, w1.out, w2.out]
      by_cases h70 : q < 70
      · rw [if_pos (show q + 1900 < 1970 by omega), if_pos h70, date_j0]
      · rw [if_neg (show ¬ q + 1900 < 1970 by omega), if_neg h70, date_j0, Int.add_comm]
  · rw [if_neg (show ¬ (f2.length : Int) = 2 by omega), if_neg hl, date_j0]
abbrev P9 := Int × Int × Int × Int × Int × Int × Int × Bool × Bool
def bad9 : P9 := (0, 0, 0, 0, 0, 0, 0, false, false)
def fin9 (y m d a b c z : Int) (may ok : Bool) : P9 := (y, m, d, a, b, c, z, may, (ok && decide (y ≥ 0) && decide (m ≥ 0) && decide (d ≥ 0) && decide (a ≥ 0) && decide (b ≥ 0) && decide (c ≥ 0)) && decide (m > 0))
def out9 (y m d : Int) (t : List (List UInt8)) (z : Int) (may ok : Bool) : P9 :=
  match t with
  | [a, b] => fin9 y m d (numN a 2) (numN b 2) 0 z may ok
  | [a, b, c] => fin9 y m d (numN a 2) (numN b 2) (numN c 2) z may ok
  | _ => bad9
theorem parse_j4 (k : Nat) (x : Bool) (L0 L1 L2 L3 L4 L5 z : Int) (m : Bool) (hk : 8 ≤ k) : newsreelref17_parse.j4 k x L0 L1 L2 L3 L4 L5 z m = some (fin9 L0 L1 L2 L3 L4 L5 z m x) := by
  obtain ⟨q, rfl⟩ : ∃ q, k = q + 7 + 1 := ⟨k - 8, by omega⟩
  rw [newsreelref17_parse.j4, parse_l0]
  rfl
theorem parse_j3 (k : Nat) (hk : 500 ≤ k) (f0 f1 f2 f3 f4 : List UInt8) (h1 : f1.length ≤ 100) (z d : Int) (may ok : Bool) (t : List (List UInt8)) (ht : t.length = 2 ∨ t.length = 3) (mm : Int) (hm : wrap64 (place (lowL (mkB f1)) (moT.map triL) 0 + 1) = mm) :
    newsreelref17_parse.j3 k [mkB f0, mkB f1, mkB f2, mkB f3, mkB f4] z may ok d (t.map mkB) false = some (out9 (yearOf f2) mm d t z may ok) := by
  obtain ⟨k, rfl⟩ : ∃ j, k = j + 1 := ⟨k - 1, by omega⟩
  have ey := year_ref f2 k (by omega)
  have em := place_moL (mkB f1) (show f1.length ≤ 100 from h1) k (by omega)
  have num : ∀ l : List UInt8, newsreelref17_Number.f k (mkB l) 2 = some (numN l 2) := fun l => number_n l 2 (by decide) k (by omega)
  rw [newsreelref17_parse.j3, if_neg (by decide), if_pos (by simp)]
  refine (show Option.bind (newsreelref17_year.f k (mkB f2)) _ = _ from ?_)
  rw [ey, Option.bind_some, if_pos (by simp)]
  refine (show Option.bind (newsreelref17_place.f k false (mkB f1)) _ = _ from ?_)
  rw [em, Option.bind_some, hm]
  match t, ht with
  | [a, b], _ =>
    rw [if_pos (by simp)]
    refine (show Option.bind (newsreelref17_Number.f k (mkB a) 2) _ = _ from ?_)
    rw [num, Option.bind_some, if_pos (by simp)]
    refine (show Option.bind (newsreelref17_Number.f k (mkB b) 2) _ = _ from ?_)
    rw [num, Option.bind_some, if_neg (by simp), parse_j4 _ _ _ _ _ _ _ _ _ _ (by omega)]
    rfl
  | [a, b, c], _ =>
    rw [if_pos (by simp)]
    refine (show Option.bind (newsreelref17_Number.f k (mkB a) 2) _ = _ from ?_)
    rw [num, Option.bind_some, if_pos (by simp)]
    refine (show Option.bind (newsreelref17_Number.f k (mkB b) 2) _ = _ from ?_)
    rw [num, Option.bind_some, if_pos (by simp), if_pos (by simp)]
    refine (show Option.bind (newsreelref17_Number.f k (mkB c) 2) _ = _ from ?_)
    rw [num, Option.bind_some, parse_j4 _ _ _ _ _ _ _ _ _ _ (by omega)]
    rfl
theorem out9_bad (y m d : Int) (t : List (List UInt8)) (z : Int) (may ok : Bool) (h2 : t.length ≠ 2) (h3 : t.length ≠ 3) : out9 y m d t z may ok = bad9 := by
  match t, h2, h3 with
  | [], _, _ => rfl
  | [_], _, _ => rfl
  | [_, _], h, _ => exact absurd rfl h
  | [_, _, _], _, h => exact absurd rfl h
  | _ :: _ :: _ :: _ :: _, _, _ => rfl
theorem parse_five (k : Nat) (hk : 700 ≤ k) (f0 f1 f2 f3 f4 : List UInt8) (h1 : f1.length ≤ 100) (h3 : f3.length ≤ 100) (z : Int) (may ok : Bool) (hz : ∀ k, 500 ≤ k → newsreelref17_zone.f k (mkB f4) = some (z, may, ok)) (mm : Int) (hm : wrap64 (place (lowL (mkB f1)) (moT.map triL) 0 + 1) = mm) :
    newsreelref17_parse.j1 k [mkB f0, mkB f1, mkB f2, mkB f3, mkB f4] = some (out9 (yearOf f2) mm (dayOf f0) (sp f3 []) z may ok) := by
  obtain ⟨k, rfl⟩ : ∃ j, k = j + 1 + 1 := ⟨k - 2, by omega⟩
  have ez := hz (k + 1) (by omega)
  have n2 : newsreelref17_Number.f (k + 1) (mkB f0) 2 = some (numN f0 2) := number_n f0 2 (by decide) (k + 1) (by omega)
  have n1 : newsreelref17_Number.f (k + 1) (mkB f0) 1 = some (numN f0 1) := number_n f0 1 (by decide) (k + 1) (by omega)
  have es := split_ref f3 (by omega) k (by omega)
  have hj2 : ∀ d : Int, newsreelref17_parse.j2 (k + 1) [mkB f0, mkB f1, mkB f2, mkB f3, mkB f4] z may ok d = some (out9 (yearOf f2) mm d (sp f3 []) z may ok) := by
    intro d
    rw [newsreelref17_parse.j2, if_pos (by simp)]
    refine (show Option.bind (newsreelref02_Split.f k (mkB f3) 58) _ = _ from ?_)
    rw [es, Option.bind_some]
    have hln : ((((sp f3 []).map mkB).length : Nat) : Int) = (((sp f3 []).length : Nat) : Int) := by rw [List.length_map]
    rw [hln]
    by_cases c2 : (sp f3 []).length = 2
    · rw [if_pos (by omega)]
      exact parse_j3 k (by omega) f0 f1 f2 f3 f4 h1 z d may ok (sp f3 []) (Or.inl c2) mm hm
    · rw [if_neg (by omega)]
      by_cases c3 : (sp f3 []).length = 3
      · rw [show ((((sp f3 []).length : Nat) : Int) != 3) = false from bne_eq_false_iff_eq.mpr (by omega)]
        exact parse_j3 k (by omega) f0 f1 f2 f3 f4 h1 z d may ok (sp f3 []) (Or.inr c3) mm hm
      · rw [show ((((sp f3 []).length : Nat) : Int) != 3) = true from bne_iff_ne.mpr (by omega), out9_bad _ _ _ _ _ _ _ c2 c3]
        obtain ⟨q, rfl⟩ : ∃ j, k = j + 1 := ⟨k - 1, by omega⟩
        rw [newsreelref17_parse.j3, if_pos rfl]
        rfl
  rw [newsreelref17_parse.j1, if_pos (by simp), if_pos (by simp)]
  refine (show Option.bind (newsreelref17_zone.f (k + 1) (mkB f4)) _ = _ from ?_)
  rw [ez, Option.bind_some, if_pos (by simp)]
  refine (show Option.bind (newsreelref17_Number.f (k + 1) (mkB f0) 2) _ = _ from ?_)
  rw [n2, Option.bind_some]
  show (if (f0.length : Int) = 1 then (Option.bind (newsreelref17_Number.f (k + 1) (mkB f0) 1) _) else _) = _
  unfold dayOf
  by_cases c1 : f0.length = 1
  · rw [if_pos (show (f0.length : Int) = 1 by omega), if_pos c1, n1, Option.bind_some]
    exact hj2 _
  · rw [if_neg (show ¬ (f0.length : Int) = 1 by omega), if_neg c1]
    exact hj2 _
end Go.Proofs.YtghdkpcpgpfgcaaDoor.XStb
namespace Go.Proofs.YtghdkpcpgpfgcaaDoor.XStb
open Go.RowKit Go.Proofs.YtghdkpcpgpfgcaaDoorW.PrintWords Go.Proofs.YtghdkpcpgpfgcaaDoorW.PrintLast Go.Proofs.YtghdkpcpgpfgcaaDoorW.PrintMore
theorem gone_months (y x0 x1 : Int) (hy : 0 ≤ y ∧ y ≤ 5000) (n : Nat) (hn : n ≤ 12)
    (hd : ∀ c : Nat, c < 12 → 28 ≤ stamp_Days.days y ((1 + c : Nat) : Int) ∧ stamp_Days.days y ((1 + c : Nat) : Int) ≤ 31) (hmb : ∀ c : Nat, c ≤ 12 → 0 ≤ mon y c ∧ mon y c ≤ 31 * (c : Int))
    (hgo : ∀ c : Nat, c < n → y < x0 ∨ ((1 + c : Nat) : Int) < x1) (hstop : n = 12 ∨ (¬ y < x0 ∧ ¬ ((1 + n : Nat) : Int) < x1))
    (V : Int) (hV : 0 ≤ V ∧ V ≤ 1000000) (K : Nat) (hK : 3 ≤ K) (j : Nat) : j ≤ n →
    newsreelref17_Gone.l1 (K + 2 * j + 2) x0 x1 (V + mon y (n - j)) y ((1 + (n - j) : Nat) : Int) = newsreelref17_Gone.l0 K x0 x1 (V + mon y n) (y + 1) := by
  have hw : Aside0 (wrap64 (y + 1) = y + 1) := ⟨w64 (by omega) (by omega)⟩
  induction j with
  | zero =>
    intro _
    rw [Nat.mul_zero, Nat.add_zero, Nat.sub_zero, newsreelref17_Gone.l1]
    by_cases h12 : ((1 + n : Nat) : Int) ≤ 12
    · rcases hstop with h | ⟨h1, h2⟩
      · omega
      · rw [if_pos h12, if_neg h1, decide_eq_false h2, newsreelref17_Gone.j2, if_neg (by decide), hw.out]
    · rw [if_neg h12, newsreelref17_Gone.j2, if_neg (by decide), hw.out]
  | succ j ih =>
    intro hj
    have h := ih (by omega)
    obtain ⟨c, hc⟩ : ∃ c, c = n - (j + 1) := ⟨_, rfl⟩
    rw [show n - j = c + 1 by omega, mon_succ] at h
    rw [← hc]
    have hm := hmb c (by omega)
    have hd := hd c (by omega)
    have hg := hgo c (by omega)
    have h12 : ((1 + c : Nat) : Int) ≤ 12 := by omega
    have hj2 : (if y < x0 then newsreelref17_Gone.j2 (K + 2 * j + 2 + 1) x0 x1 (V + mon y c) y ((1 + c : Nat) : Int) true else newsreelref17_Gone.j2 (K + 2 * j + 2 + 1) x0 x1 (V + mon y c) y ((1 + c : Nat) : Int) (decide (((1 + c : Nat) : Int) < x1))) = newsreelref17_Gone.j2 (K + 2 * j + 2 + 1) x0 x1 (V + mon y c) y ((1 + c : Nat) : Int) true := by
      by_cases hy0 : y < x0
      · rw [if_pos hy0]
      · rw [if_neg hy0, decide_eq_true (hg.resolve_left hy0)]
    rw [show K + 2 * (j + 1) + 2 = (K + 2 * j + 2 + 1) + 1 by omega, newsreelref17_Gone.l1, if_pos h12, hj2, newsreelref17_Gone.j2, if_pos rfl, days_ref _ _ _ (by omega), Option.bind_some]
    generalize stamp_Days.days y ((1 + c : Nat) : Int) = z at *
    generalize mon y c = M at *
    rw [w64 (by omega) (by omega), w64 (by omega) (by omega), Int.add_assoc, ← h]
    congr 1
theorem gone_years (a : Nat) (ha : a < 230) (b : Nat) (hb : b < 12) (d : Int) (hd : 1 ≤ d ∧ d ≤ 31) (K : Nat) (hK : 3 ≤ K) (j : Nat) : j ≤ a →
    newsreelref17_Gone.l0 (K + 27 * j + 28) ((1970 + a : Nat) : Int) ((1 + b : Nat) : Int) (yrs (a - j) + (d - 1)) ((1970 + (a - j) : Nat) : Int) = some (yrs a + mon ((1970 + a : Nat) : Int) b + (d - 1)) := by
  induction j with
  | zero =>
    intro _
    have hy := yrs_bd a
    have hdb := days_bd a ha
    have hmb := mon_bd a ha
    have hgo : ∀ c : Nat, c < b → ((1970 + a : Nat) : Int) < ((1970 + a : Nat) : Int) ∨ ((1 + c : Nat) : Int) < ((1 + b : Nat) : Int) := fun c hc => Or.inr (by omega)
    have e1 : ((1970 + (a - 0) : Nat) : Int) = ((1970 + a : Nat) : Int) := rfl
    rw [e1, Nat.sub_zero, Nat.mul_zero, Nat.add_zero]
    have hlt : ¬ ((1970 + a : Nat) : Int) + 1 ≤ ((1970 + a : Nat) : Int) := by omega
    have hy5 : 0 ≤ ((1970 + a : Nat) : Int) ∧ ((1970 + a : Nat) : Int) ≤ 5000 := by omega
    generalize ((1970 + a : Nat) : Int) = z at *
    have h := gone_months z z ((1 + b : Nat) : Int) hy5 b (by omega) hdb hmb hgo (Or.inr ⟨Int.lt_irrefl _, Int.lt_irrefl _⟩) (yrs a + (d - 1)) ⟨by omega, by omega⟩ (K + 25 - 2 * b) (by omega) b (Nat.le_refl _)
    have e0 : mon z 0 = 0 := rfl
    rw [Nat.sub_self, e0, Int.add_zero] at h
    have e2 : ((1 + 0 : Nat) : Int) = 1 := rfl
    rw [e2] at h
    rw [show K + 28 = (K + 25 - 2 * b + 2 * b + 2) + 1 by omega, newsreelref17_Gone.l0, if_pos (Int.le_refl _), h]
    obtain ⟨q, hq⟩ : ∃ q, K + 25 - 2 * b = q + 1 := ⟨K + 24 - 2 * b, by omega⟩
    rw [hq, newsreelref17_Gone.l0, if_neg hlt, Int.add_right_comm]
  | succ j ih =>
    intro hj
    have h := ih (by omega)
    obtain ⟨c, hc⟩ : ∃ c, c = a - (j + 1) := ⟨_, rfl⟩
    rw [show a - j = c + 1 by omega] at h
    rw [← hc]
    have hca : c < 230 := by omega
    have hy := yrs_bd c
    have hdb := days_bd c hca
    have hmb := mon_bd c hca
    have h12 := mon_12 c hca
    have ey : yrs (c + 1) = yrs c + mon ((1970 + c : Nat) : Int) 12 := by rw [h12, yrs, Int.add_assoc]
    have hlt : ((1970 + c : Nat) : Int) < ((1970 + a : Nat) : Int) := by omega
    have hgo : ∀ q : Nat, q < 12 → ((1970 + c : Nat) : Int) < ((1970 + a : Nat) : Int) ∨ ((1 + q : Nat) : Int) < ((1 + b : Nat) : Int) := fun q _ => Or.inl hlt
    have e3 : ((1970 + (c + 1) : Nat) : Int) = ((1970 + c : Nat) : Int) + 1 := by omega
    rw [e3, ey] at h
    have hy5 : 0 ≤ ((1970 + c : Nat) : Int) ∧ ((1970 + c : Nat) : Int) ≤ 5000 := by omega
    clear h12 ey e3
    have hz : ((1970 + a : Nat) : Int) = ((1970 + a : Nat) : Int) := rfl
    generalize ((1970 + c : Nat) : Int) = z at *
    have hle : z ≤ ((1970 + a : Nat) : Int) := Int.le_of_lt hlt
    have hm := gone_months z ((1970 + a : Nat) : Int) ((1 + b : Nat) : Int) hy5 12 (Nat.le_refl _) hdb hmb hgo (Or.inl rfl) (yrs c + (d - 1)) ⟨by omega, by omega⟩ (K + 27 * j + 28) (by omega) 12 (Nat.le_refl _)
    have e0 : mon z 0 = 0 := rfl
    have e2 : ((1 + 0 : Nat) : Int) = 1 := rfl
    rw [Nat.sub_self, e0, Int.add_zero, e2] at hm
    rw [show K + 27 * (j + 1) + 28 = (K + 27 * j + 28 + 2 * 12 + 2) + 1 by omega, newsreelref17_Gone.l0, if_pos hle, hm, ← h, Int.add_right_comm]
theorem gone_eq (a : Nat) (ha : a < 230) (b : Nat) (hb : b < 12) (d : Int) (hd : 1 ≤ d ∧ d ≤ 31) (k : Nat) (hk : 7000 ≤ k) :
    newsreelref17_Gone.f k ((1970 + a : Nat) : Int) ((1 + b : Nat) : Int) d = some (yrs a + mon ((1970 + a : Nat) : Int) b + (d - 1)) := by
  obtain ⟨q, rfl⟩ : ∃ q, k = (q + 3) + 27 * a + 28 := ⟨k - (3 + 27 * a + 28), by omega⟩
  have h := gone_years a ha b hb d hd (q + 3) (by omega) a (Nat.le_refl _)
  have e0 : yrs 0 = 0 := rfl
  have e2 : ((1970 + 0 : Nat) : Int) = 1970 := rfl
  rw [Nat.sub_self, e0, e2, Int.zero_add] at h
  rw [newsreelref17_Gone.f, w64 (by omega) (by omega)]
  exact h
end Go.Proofs.YtghdkpcpgpfgcaaDoor.XStb
namespace Go.Proofs.YtghdkpcpgpfgcaaDoor.XStb
open Go.RowKit Go.Proofs.YtghdkpcpgpfgcaaDoorW.PrintWords Go.Proofs.YtghdkpcpgpfgcaaDoorW.PrintLast Go.Proofs.YtghdkpcpgpfgcaaDoorW.PrintMore
open Go.Lib
def refC (k : Nat) : P9 → Option (Int × Int)
  | (y, m, d, a, b, c, z, may, ok) => if ok = true then (if may = true then (if d < 1 then (newsreelref17_Get.j0 k true y m d a b c z may y m d a b c) else ((newsreelref17_Days.f k y m).bind fun t => (if d > t then (newsreelref17_Get.j0 k true y m d a b c z may y m d a b c) else (if a > 23 then (newsreelref17_Get.j0 k true y m d a b c z may y m d a b c) else (if b > 59 then (newsreelref17_Get.j0 k true y m d a b c z may y m d a b c) else (newsreelref17_Get.j0 k (decide (c > 59)) y m d a b c z may y m d a b c)))))) else (newsreelref17_Get.j0 k true y m d a b c z may y m d a b c)) else (some (0, 2))
theorem refC_eq (k : Nat) (y m d a b c z : Int) (may ok : Bool) : refC k (y, m, d, a, b, c, z, may, ok) = if ok = true then (if may = true then (if d < 1 then (newsreelref17_Get.j0 k true y m d a b c z may y m d a b c) else ((newsreelref17_Days.f k y m).bind fun t => (if d > t then (newsreelref17_Get.j0 k true y m d a b c z may y m d a b c) else (if a > 23 then (newsreelref17_Get.j0 k true y m d a b c z may y m d a b c) else (if b > 59 then (newsreelref17_Get.j0 k true y m d a b c z may y m d a b c) else (newsreelref17_Get.j0 k (decide (c > 59)) y m d a b c z may y m d a b c)))))) else (newsreelref17_Get.j0 k true y m d a b c z may y m d a b c)) else (some (0, 2)) := rfl
theorem get_ref (k : Nat) (s : ByteArray) : newsreelref17_Get.f k s = (newsreelref17_parse.f k s).bind (refC k) := rfl
theorem days_in (y m d : Int) (h1 : ¬ d < 1) (h2 : ¬ d > stamp_Days.days y m) : 1970 ≤ y ∧ y ≤ 2199 ∧ 1 ≤ m ∧ m ≤ 12 := by
  unfold stamp_Days.days at h2
  by_cases h : y < 1970 ∨ y > 2199 ∨ m < 1 ∨ m > 12
  · rw [if_pos h] at h2
    omega
  · clear h2
    omega
theorem core0 (k q : Nat) (hk : 8000 ≤ k) (hq : 8000 ≤ q) (y m d a b c bm : Int) (hbm : -2000 ≤ bm ∧ bm ≤ 2000) : ∃ r, stamp_Get.j2 k (60 * bm) 0 false d m y a b c = some r ∧ refC q (y, m, d, a, b, c, bm, true, true) = some r := by
  obtain ⟨k, rfl⟩ : ∃ j, k = j + 1 + 1 := ⟨k - 2, by omega⟩
  obtain ⟨q, rfl⟩ : ∃ j, q = j + 1 := ⟨q - 1, by omega⟩
  have T3 : stamp_Get.j3 (k + 1) (60 * bm) true d m y a b c = some (0, 3) := by rw [stamp_Get.j3, if_pos rfl]
  have R3 : newsreelref17_Get.j0 (q + 1) true y m d a b c bm true y m d a b c = some (0, 3) := by rw [newsreelref17_Get.j0, if_pos rfl]
  rw [stamp_Get.j2, if_neg (by decide), if_pos rfl, refC_eq, if_pos rfl, if_pos rfl, days_f, days_ref y m (q + 1) (by omega), Option.bind_some, Option.bind_some, T3, R3]
  by_cases c1 : d < 1
  · rw [if_pos c1, if_pos c1]; exact ⟨_, rfl, rfl⟩
  rw [if_neg c1, if_neg c1]
  by_cases c2 : d > stamp_Days.days y m
  · rw [if_pos c2, if_pos c2]; exact ⟨_, rfl, rfl⟩
  rw [if_neg c2, if_neg c2]
  by_cases c3 : a > 23
  · rw [if_pos c3, if_pos c3]; exact ⟨_, rfl, rfl⟩
  rw [if_neg c3, if_neg c3]
  by_cases c4 : b > 59
  · rw [if_pos c4, if_pos c4]; exact ⟨_, rfl, rfl⟩
  rw [if_neg c4, if_neg c4]
  by_cases c5 : c > 59
  · rw [decide_eq_true c5, T3, R3]; exact ⟨_, rfl, rfl⟩
  have hr := days_in y m d c1 c2
  obtain ⟨a', ha', ha⟩ : ∃ n : Nat, y = ((1970 + n : Nat) : Int) ∧ n < 230 := ⟨(y - 1970).toNat, by clear c2; omega, by clear c2; omega⟩
  obtain ⟨b', hb', hb⟩ : ∃ n : Nat, m = ((1 + n : Nat) : Int) ∧ n < 12 := ⟨(m - 1).toNat, by clear c2; omega, by clear c2; omega⟩
  clear T3 R3 hr
  subst ha'
  subst hb'
  have hd31 : 1 ≤ d ∧ d ≤ 31 := by
    have := (days_bd a' ha b' hb).2
    generalize stamp_Days.days ((1970 + a' : Nat) : Int) ((1 + b' : Nat) : Int) = D at *
    omega
  clear c2
  have e1 := before_eq a' ha b' hb k (by omega)
  have e2 := gone_eq a' ha b' hb d hd31 (q) (by omega)
  have y1 := yrs_bd a'
  have m1 := mon_bd a' ha b' (by omega)
  rw [decide_eq_false c5, stamp_Get.j3, newsreelref17_Get.j0, if_neg (by decide), if_neg (by decide), e1, e2, Option.bind_some, Option.bind_some]
  clear e1 e2
  generalize yrs a' = Y at *
  generalize mon ((1970 + a' : Nat) : Int) b' = M at *
  have w1 : Aside0 (wrap64 (wrap64 (Y + M + d) - 1) = Y + M + (d - 1)) := ⟨by rw [w64 (n := Y + M + d) (by omega) (by omega), w64 (by omega) (by omega)]; omega⟩
  have w2 : Aside0 (wrap64 (60 * bm) = 60 * bm) := ⟨w64 (by omega) (by omega)⟩
  rw [w1.out, w2.out]
  exact ⟨_, rfl, rfl⟩
theorem ref_bad (q : Nat) : refC q bad9 = some (0, 2) := rfl
theorem refC_no (q : Nat) (y m d a b c z : Int) (may : Bool) : refC q (y, m, d, a, b, c, z, may, false) = some (0, 2) := rfl
theorem own_bad (k : Nat) (z e d m y a b c : Int) : stamp_Get.j2 (k + 1) z e true d m y a b c = some (0, 2) := by rw [stamp_Get.j2, if_pos rfl]
/-- What both say of a day and a clock that are numbers. -/
theorem fin_get (k q : Nat) (hk : 8000 ≤ k) (hq : 8000 ≤ q) (y m d a b c z e bm : Int) (may ok : Bool) (hz : zRel z e bm may ok) :
    ∃ r, (if (decide (d ≥ 0) && decide (m > 0) && decide (y ≥ 0)) = true then (if (decide (a ≥ 0) && decide (b ≥ 0) && decide (c ≥ 0)) = true then (stamp_Get.j2 k z e (e == 2) d m y a b c) else (stamp_Get.j2 k z e true d m y a b c)) else (stamp_Get.j2 k z e true d m y a b c)) = some r ∧ refC q (fin9 y m d a b c bm may ok) = some r := by
  have hO : stamp_Get.j2 k z e true d m y a b c = some (0, 2) := by
    obtain ⟨k, rfl⟩ : ∃ j, k = j + 1 := ⟨k - 1, by omega⟩
    exact own_bad ..
  rw [hO]
  unfold fin9
  by_cases h1 : (decide (d ≥ 0) && decide (m > 0) && decide (y ≥ 0)) = true
  · rw [if_pos h1]
    simp only [Bool.and_eq_true, decide_eq_true_eq] at h1
    by_cases h2 : (decide (a ≥ 0) && decide (b ≥ 0) && decide (c ≥ 0)) = true
    · rw [if_pos h2]
      simp only [Bool.and_eq_true, decide_eq_true_eq] at h2
      have hv : ((ok && decide (y ≥ 0) && decide (m ≥ 0) && decide (d ≥ 0) && decide (a ≥ 0) && decide (b ≥ 0) && decide (c ≥ 0)) && decide (m > 0)) = ok := by
        rw [decide_eq_true h1.2, decide_eq_true (show m ≥ 0 by omega), decide_eq_true h1.1.1, decide_eq_true h2.1.1, decide_eq_true h2.1.2, decide_eq_true h2.2, decide_eq_true h1.1.2]
        simp only [Bool.and_true]
      rw [hv]
      rcases hz with ⟨rfl, rfl⟩ | ⟨rfl, rfl, rfl⟩ | ⟨rfl, rfl, rfl, rfl, hb⟩
      · exact ⟨_, hO, refC_no ..⟩
      · obtain ⟨k, rfl⟩ : ∃ j, k = j + 1 + 1 := ⟨k - 2, by omega⟩
        obtain ⟨q, rfl⟩ : ∃ j, q = j + 1 := ⟨q - 1, by omega⟩
        refine ⟨(0, 3), ?_, ?_⟩
        · rw [show ((3 : Int) == 2) = false from rfl, stamp_Get.j2, if_neg (by decide), if_neg (by decide), stamp_Get.j3, if_pos rfl]
        · rw [refC_eq, if_pos rfl, if_neg (by decide), newsreelref17_Get.j0, if_pos rfl]
      · exact core0 k q hk hq y m d a b c bm hb
    · rw [if_neg h2]
      have hv : ((ok && decide (y ≥ 0) && decide (m ≥ 0) && decide (d ≥ 0) && decide (a ≥ 0) && decide (b ≥ 0) && decide (c ≥ 0)) && decide (m > 0)) = false := by
        apply Bool.eq_false_iff.mpr
        intro h
        simp only [Bool.and_eq_true, decide_eq_true_eq] at h h2
        exact h2 ⟨⟨h.1.1.1.2, h.1.1.2⟩, h.1.2⟩
      rw [hv]
      exact ⟨_, rfl, refC_no ..⟩
  · rw [if_neg h1]
    have hv : ((ok && decide (y ≥ 0) && decide (m ≥ 0) && decide (d ≥ 0) && decide (a ≥ 0) && decide (b ≥ 0) && decide (c ≥ 0)) && decide (m > 0)) = false := by
      apply Bool.eq_false_iff.mpr
      intro h
      simp only [Bool.and_eq_true, decide_eq_true_eq] at h h1
      exact h1 ⟨⟨h.1.1.1.1.2, h.2⟩, h.1.1.1.1.1.1.2⟩
    rw [hv]
    exact ⟨_, rfl, refC_no ..⟩
theorem get_five (k q : Nat) (hk : 8100 ≤ k) (hq : 8100 ≤ q) (f0 f1 f2 f3 f4 : List UInt8) (h0 : f0.length ≤ 100) (h1 : f1.length ≤ 100) (h2 : f2.length ≤ 100) (h3 : f3.length ≤ 100) (h4 : f4.length ≤ 100) :
    ∃ t r, newsreelref17_parse.j1 k [mkB f0, mkB f1, mkB f2, mkB f3, mkB f4] = some t ∧ stamp_Get.j1 k [mkB f0, mkB f1, mkB f2, mkB f3, mkB f4] = some r ∧ refC q t = some r := by
  obtain ⟨z, e, bm, may, ok, z1, z2, hz⟩ := zone_both f4 h4 500 (Nat.le_refl _)
  have z1 := up (fun k => stamp_zone.mono _ k) z1
  have z2 := up (fun k => newsreelref17_zone.mono _ k) z2
  have hmm : wrap64 (place (lowL (mkB f1)) (moT.map triL) 0 + 1) = monOf f1 := by
    have hm := mon_bd2 f1
    have h : place (lowL (mkB f1)) (moT.map triL) 0 + 1 = monOf f1 := rfl
    rw [h, w64 (by omega) (by omega)]
  have P := parse_five k (by omega) f0 f1 f2 f3 f4 h1 h3 bm may ok z2 (monOf f1) hmm
  obtain ⟨k, rfl⟩ : ∃ j, k = j + 1 := ⟨k - 1, by omega⟩
  have D := date_own f0 f1 f2 f3 f4 h0 h1 h2 k (by omega)
  have C := clock_own f3 h3 k (by omega)
  have Z := z1 k (by omega)
  have key : ∃ r, stamp_Get.j1 (k + 1) [mkB f0, mkB f1, mkB f2, mkB f3, mkB f4] = some r ∧ refC q (out9 (yearOf f2) (monOf f1) (dayOf f0) (sp f3 []) bm may ok) = some r := by
    rw [stamp_Get.j1, if_pos (by simp), D, Option.bind_some, if_pos (by simp)]
    refine (show ∃ r, Option.bind (stamp_parseClock.f k (mkB f3)) _ = some r ∧ _ from ?_)
    rw [C, Option.bind_some, if_pos (by simp)]
    refine (show ∃ r, Option.bind (stamp_zone.f k (mkB f4)) _ = some r ∧ _ from ?_)
    rw [Z, Option.bind_some]
    clear P D C Z z1 z2 hmm
    unfold okD
    generalize sp f3 [] = T
    have bad : ∀ T : List (List UInt8), clkOf T = (0, 0, 0, false) → out9 (yearOf f2) (monOf f1) (dayOf f0) T bm may ok = bad9 → ∃ r, (if (decide (dayOf f0 ≥ 0) && decide (monOf f1 > 0) && decide (yearOf f2 ≥ 0)) = true then (if (clkOf T).2.2.2 = true then (stamp_Get.j2 k z e (e == 2) (dayOf f0) (monOf f1) (yearOf f2) (clkOf T).1 (clkOf T).2.1 (clkOf T).2.2.1) else (stamp_Get.j2 k z e true (dayOf f0) (monOf f1) (yearOf f2) (clkOf T).1 (clkOf T).2.1 (clkOf T).2.2.1)) else (stamp_Get.j2 k z e true (dayOf f0) (monOf f1) (yearOf f2) (clkOf T).1 (clkOf T).2.1 (clkOf T).2.2.1)) = some r ∧ refC q (out9 (yearOf f2) (monOf f1) (dayOf f0) T bm may ok) = some r := by
      intro T e1 e2
      obtain ⟨k, rfl⟩ : ∃ j, k = j + 1 := ⟨k - 1, by omega⟩
      rw [e1, e2]
      refine ⟨(0, 2), ?_, ref_bad q⟩
      rw [if_neg (show ¬ (false = true) by decide), own_bad]
      exact ite_self _
    match T with
    | [] => exact bad [] rfl rfl
    | [_] => exact bad [_] rfl rfl
    | [a, b] =>
      have h := fin_get k q (by omega) (by omega) (yearOf f2) (monOf f1) (dayOf f0) (numN a 2) (numN b 2) 0 z e bm may ok hz
      rw [show decide ((0 : Int) ≥ 0) = true from rfl, Bool.and_true] at h
      exact h
    | [a, b, c] => exact fin_get k q (by omega) (by omega) (yearOf f2) (monOf f1) (dayOf f0) (numN a 2) (numN b 2) (numN c 2) z e bm may ok hz
    | _ :: _ :: _ :: _ :: _ => exact bad (_ :: _ :: _ :: _ :: _) rfl rfl
  obtain ⟨r, r1, r2⟩ := key
  exact ⟨_, r, P, r1, r2⟩
theorem fl_mem : ∀ (r cur : List UInt8), ∀ y ∈ fl r cur, y ≠ [] ∧ y.length ≤ r.length + cur.length
  | [], cur, y, hy => by
    rw [fl] at hy
    by_cases hc : cur = []
    · rw [if_pos hc] at hy; exact absurd hy List.not_mem_nil
    · rw [if_neg hc, List.mem_singleton] at hy
      subst hy
      exact ⟨hc, by omega⟩
  | c :: r, cur, y, hy => by
    rw [fl] at hy
    rw [List.length_cons]
    have down : y ∈ fl r [] → y ≠ [] ∧ y.length ≤ r.length + 1 + cur.length := fun h => by
      have := fl_mem r [] y h
      rw [List.length_nil] at this
      exact ⟨this.1, by omega⟩
    by_cases hb : blB c = true
    · rw [if_pos hb] at hy
      by_cases hc : cur = []
      · rw [if_pos hc] at hy; exact down hy
      · rw [if_neg hc] at hy
        rcases List.mem_cons.1 hy with h | h
        · subst h; exact ⟨hc, by omega⟩
        · exact down h
    · rw [if_neg hb] at hy
      have := fl_mem r (cur ++ [c]) y hy
      rw [List.length_append, List.length_singleton] at this
      exact ⟨this.1, by omega⟩
theorem cut_suf (p : List UInt8) (c : UInt8) (h : p.length ≤ 1000) : strings_CutSuffix.f (mkB (p ++ [c])) ⟨#[44]⟩ = some (if c = 44 then (mkB p, true) else (mkB (p ++ [c]), false)) := by
  have hs : ((mkB (p ++ [c])).size : Int) = (p.length : Int) + 1 := by
    show (((p ++ [c]).length : Nat) : Int) = _
    rw [List.length_append, List.length_singleton]; rfl
  have h1 : ((⟨#[44]⟩ : ByteArray).size : Int) = 1 := rfl
  have w : wrap64 ((p.length : Int) + 1 - 1) = (p.length : Int) := by rw [w64 (by omega) (by omega)]; omega
  have hl : (mkB (p ++ [c])).size = (p ++ [c]).length := rfl
  have x1 : (mkB (p ++ [c])).extract (p.length : Int).toNat (mkB (p ++ [c])).size = mkB [c] := by
    show (⟨(p ++ [c]).toArray⟩ : ByteArray).extract p.length (p ++ [c]).length = _
    rw [ext_bytes, List.take_length, List.drop_left]
  have x2 : (mkB (p ++ [c])).extract 0 (p.length : Int).toNat = mkB p := by
    show (⟨(p ++ [c]).toArray⟩ : ByteArray).extract 0 p.length = _
    rw [ext_bytes, List.take_left, List.drop_zero]
  have e : (mkB [c]).toList = [c] := mk_toList [c]
  have e44 : (⟨#[44]⟩ : ByteArray).toList = [44] := mk_toList [44]
  unfold strings_CutSuffix.f stringslite_CutSuffix.f stringslite_HasSuffix.f
  rw [hs, h1, w, if_pos (by omega), if_pos (by omega), if_pos (by omega), x1, e, e44, Option.bind_some]
  by_cases hc : c = 44
  · subst hc
    rw [if_pos (by decide), if_pos (by omega), if_pos (by omega), x2, if_pos rfl]
    rfl
  · rw [if_neg (show ¬ (([c] : List UInt8) == [44]) = true from fun h => hc (by
      have := eq_of_beq h
      injection this)), if_neg hc]
    rfl
theorem own_other (k : Nat) (L : List ByteArray) (h : L.length ≠ 5) : stamp_Get.j1 (k + 1) L = some (0, 2) := by
  rw [stamp_Get.j1, if_neg (by omega)]
theorem ref_other (k : Nat) (L : List ByteArray) (h : L.length ≠ 5) : newsreelref17_parse.j1 (k + 1) L = some bad9 := by
  rw [newsreelref17_parse.j1, if_neg (by omega)]
  rfl
theorem get_same (l : List UInt8) (hl : l.length ≤ 100) : ∃ r, stamp_Get.f 9000 (mkB l) = some r ∧ newsreelref17_Get.f 9000 (mkB l) = some r := by
  have F := fields_spec l (by omega)
  have R := ref_fields l (by omega) 9000 (by omega)
  have M := fl_mem l []
  rw [List.length_nil, Nat.add_zero] at M
  have M : ∀ y ∈ fl l [], y ≠ [] ∧ y.length ≤ 100 := fun y hy => ⟨(M y hy).1, Nat.le_trans (M y hy).2 hl⟩
  rw [get_ref, stamp_Get.f, newsreelref17_parse.f, F, R, Option.bind_some, Option.bind_some]
  clear F R
  generalize fl l [] = T at M
  by_cases h6 : T.length = 6
  · match T, h6, M with
    | [f0, f1, f2, f3, f4, f5], _, M =>
      obtain ⟨p, c, rfl⟩ : ∃ p c, f0 = p ++ [c] := by
        have h := (M f0 (.head _)).1
        exact ⟨f0.dropLast, f0.getLast h, (List.dropLast_concat_getLast h).symm⟩
      have hp : (p ++ [c]).length ≤ 100 := (M _ (.head _)).2
      rw [List.length_append, List.length_singleton] at hp
      have C := cut_suf p c (by omega)
      have B := (bt_mid (s := mkB (p ++ [c])) (p := p) (r := []) (c := c) rfl).1
      have hs : ((mkB (p ++ [c])).size : Int) = (p.length : Int) + 1 := by
        show (((p ++ [c]).length : Nat) : Int) = _
        rw [List.length_append, List.length_singleton]; rfl
      have w : wrap64 ((p.length : Int) + 1 - 1) = (p.length : Int) := by rw [w64 (by omega) (by omega)]; omega
      have x2 : (mkB (p ++ [c])).extract 0 (p.length : Int).toNat = mkB p := by
        show (⟨(p ++ [c]).toArray⟩ : ByteArray).extract 0 p.length = _
        rw [ext_bytes, List.take_left, List.drop_zero]
      have badO : stamp_Get.j0 9000 [mkB (p ++ [c]), mkB f1, mkB f2, mkB f3, mkB f4, mkB f5] true = some (0, 2) := by rw [stamp_Get.j0, if_pos rfl]
      have badR : newsreelref17_parse.j0 9000 [mkB (p ++ [c]), mkB f1, mkB f2, mkB f3, mkB f4, mkB f5] true = some bad9 := by rw [newsreelref17_parse.j0, if_pos rfl]; rfl
      rw [if_pos (show (([p ++ [c], f1, f2, f3, f4, f5].map mkB).length : Int) = 6 from rfl), if_pos (show (0 : Int) < (([p ++ [c], f1, f2, f3, f4, f5].map mkB).length : Int) from (by decide : (0 : Int) < 6))]
      rw [if_pos (show (([p ++ [c], f1, f2, f3, f4, f5].map mkB).length : Int) = 6 from rfl), if_pos (show (0 : Int) < (([p ++ [c], f1, f2, f3, f4, f5].map mkB).length : Int) from (by decide : (0 : Int) < 6))]
      rw [show rdOf ByteArray.empty ([p ++ [c], f1, f2, f3, f4, f5].map mkB) 0 = mkB (p ++ [c]) from rfl, C, hs, w, B, x2, Option.bind_some]
      rw [show [p ++ [c], f1, f2, f3, f4, f5].map mkB = [mkB (p ++ [c]), mkB f1, mkB f2, mkB f3, mkB f4, mkB f5] from rfl]
      by_cases hc : c = 44
      · have hcn : (c.toNat : Int) = 44 := by rw [hc]; rfl
        have I := index_wd (mkB p) (show p.length ≤ 100 by omega) 9000 (by decide)
        have P := place_wdL (mkB p) (show p.length ≤ 100 by omega) 9000 (by decide)
        rw [if_pos hc, if_pos (show (mkB p, true).2 = true from rfl), if_pos (show (0 : Int) ≤ (p.length : Int) by omega), if_pos (show (p.length : Int) < (p.length : Int) + 1 by omega), if_pos hcn, if_pos (show (p.length : Int) ≤ (p.length : Int) + 1 by omega), P, Option.bind_some]
        refine (show ∃ r, Option.bind (stamp_index.f 9000 wdN (mkB p)) _ = some r ∧ _ from ?_)
        rw [I, Option.bind_some]
        by_cases hw : place (lowL (mkB p)) (wdT.map triL) 0 < 0
        · rw [decide_eq_true hw, badO, badR]
          exact ⟨(0, 2), rfl, ref_bad 9000⟩
        · rw [decide_eq_false hw]
          obtain ⟨t, r, g1, g2, g3⟩ := get_five 8999 9000 (by decide) (by decide) f1 f2 f3 f4 f5 (M f1 (.tail _ (.head _))).2 (M f2 (.tail _ (.tail _ (.head _)))).2 (M f3 (.tail _ (.tail _ (.tail _ (.head _))))).2 (M f4 (.tail _ (.tail _ (.tail _ (.tail _ (.head _)))))).2 (M f5 (.tail _ (.tail _ (.tail _ (.tail _ (.tail _ (.head _))))))).2
          have o1 : stamp_Get.j0 9000 [mkB (p ++ [c]), mkB f1, mkB f2, mkB f3, mkB f4, mkB f5] false = some r := by
            rw [stamp_Get.j0, if_neg (by decide), if_pos (show (1 : Int) ≤ (([mkB (p ++ [c]), mkB f1, mkB f2, mkB f3, mkB f4, mkB f5] : List ByteArray).length : Int) from (by decide : (1 : Int) ≤ 6))]
            exact g2
          have o2 : newsreelref17_parse.j0 9000 [mkB (p ++ [c]), mkB f1, mkB f2, mkB f3, mkB f4, mkB f5] false = some t := by
            rw [newsreelref17_parse.j0, if_neg (by decide), if_pos (show (1 : Int) ≤ (([mkB (p ++ [c]), mkB f1, mkB f2, mkB f3, mkB f4, mkB f5] : List ByteArray).length : Int) from (by decide : (1 : Int) ≤ 6))]
            exact g1
          rw [o1, o2]
          exact ⟨r, rfl, g3⟩
      · have hcn : ¬ (c.toNat : Int) = 44 := fun h => hc (UInt8.toNat_inj.1 (by show c.toNat = 44; omega))
        rw [if_neg hc, if_neg (show ¬ (mkB (p ++ [c]), false).2 = true from Bool.false_ne_true), if_pos (show (0 : Int) ≤ (p.length : Int) by omega), if_pos (show (p.length : Int) < (p.length : Int) + 1 by omega), if_neg hcn, badO, badR]
        exact ⟨(0, 2), rfl, ref_bad 9000⟩
  · have hn : ¬ ((T.map mkB).length : Int) = 6 := by rw [List.length_map]; omega
    rw [if_neg hn, if_neg hn]
    by_cases h5 : T.length = 5
    · match T, h5, M with
      | [f0, f1, f2, f3, f4], _, M =>
        obtain ⟨t, r, g1, g2, g3⟩ := get_five 9000 9000 (by decide) (by decide) f0 f1 f2 f3 f4 (M f0 (.head _)).2 (M f1 (.tail _ (.head _))).2 (M f2 (.tail _ (.tail _ (.head _)))).2 (M f3 (.tail _ (.tail _ (.tail _ (.head _))))).2 (M f4 (.tail _ (.tail _ (.tail _ (.tail _ (.head _)))))).2
        refine ⟨r, g2, ?_⟩
        rw [show [f0, f1, f2, f3, f4].map mkB = [mkB f0, mkB f1, mkB f2, mkB f3, mkB f4] from rfl, g1]
        exact g3
    · have hm : (T.map mkB).length ≠ 5 := by rw [List.length_map]; exact h5
      rw [own_other 8999 _ hm, ref_other 8999 _ hm]
      exact ⟨(0, 2), rfl, ref_bad 9000⟩
end Go.Proofs.YtghdkpcpgpfgcaaDoor.XStb
namespace Go.Proofs.YtghdkpcpgpfgcaaDoor.XStb
open Go.RowKit Go.Proofs.YtghdkpcpgpfgcaaDoorW.PrintWords Go.Proofs.YtghdkpcpgpfgcaaDoorW.PrintLast Go.Proofs.YtghdkpcpgpfgcaaDoorW.PrintMore
theorem bindAt {α β : Type} {x : Option α} {a : α} {f : α → Option β} {r : Option β} (h : x = some a) (hf : f a = r) : x.bind f = r := by rw [h]; exact hf
theorem iteLe {α : Type} {n m : Nat} {x y r : Option α} (h : Nat.ble n m = true) (hx : x = r) : (if n ≤ m then x else y) = r := by rw [if_pos (Nat.le_of_ble_eq_true h)]; exact hx
/-- A stamp's bytes. -/
def stampS (i d b y h m s : Nat) : ByteArray := ⟨#[wd0 i, wd1 i, wd2 i, 44, 32, dg (d / 10), dg (d % 10), 32, mo0 b, mo1 b, mo2 b, 32, dg (y / 1000), dg (y / 100 % 10), dg (y / 10 % 10), dg (y % 10), 32, dg (h / 10), dg (h % 10), 58, dg (m / 10), dg (m % 10), 58, dg (s / 10), dg (s % 10), 32, 71, 77, 84]⟩
theorem put_fin (k : Nat) (x4 x5 d b a : Nat) (hd : d < 100) (hb : b < 12) (ha : a < 230) (h5 : x5 < 86400) (_h4 : x4 < 1000000) (hdd : (d : Int) ≤ stamp_Days.days ((1970 + a : Nat) : Int) ((1 + b : Nat) : Int)) :
    stamp_Put.l0 (k + 1) (x4 : Int) (x5 : Int) (d : Int) ((1 + b : Nat) : Int) ((1970 + a : Nat) : Int) = some (stampS (x4 % 7) d b (1970 + a) (x5 / 3600) (x5 / 60 % 60) (x5 % 60), 0) := by
  have e1 : Int.tmod (x4 : Int) 7 = ((x4 % 7 : Nat) : Int) := rfl
  have e2 : wrap64 (((1 + b : Nat) : Int) - 1) = (b : Int) := by rw [w64 (by omega) (by omega)]; omega
  have e3 : wrap64 (Int.tdiv (x5 : Int) 3600) = ((x5 / 3600 : Nat) : Int) := by
    have : Int.tdiv (x5 : Int) 3600 = ((x5 / 3600 : Nat) : Int) := rfl
    rw [this, w64 (by omega) (by omega)]
  have e4 : Int.tmod (wrap64 (Int.tdiv (x5 : Int) 60)) 60 = ((x5 / 60 % 60 : Nat) : Int) := by
    have : Int.tdiv (x5 : Int) 60 = ((x5 / 60 : Nat) : Int) := rfl
    rw [this, w64 (by omega) (by omega)]
    rfl
  have e5 : Int.tmod (x5 : Int) 60 = ((x5 % 60 : Nat) : Int) := rfl
  have hy := four_put a ha
  rw [stamp_Put.l0, days_f, Option.bind_some, if_neg (by omega), e1, e2, e3, e4, e5]
  clear e1 e2 e3 e4 e5 hdd
  generalize ((1970 + a : Nat) : Int) = ya at *
  generalize 1970 + a = yn at *
  refine bindAt (wd_put (x4 % 7) (by omega)) ?_
  refine iteLe rfl ?_
  refine bindAt (two_put d hd) ?_
  refine iteLe rfl ?_
  refine iteLe rfl ?_
  refine bindAt (mo_put b hb) ?_
  refine iteLe rfl ?_
  refine iteLe rfl ?_
  refine bindAt hy ?_
  refine iteLe rfl ?_
  refine iteLe rfl ?_
  refine bindAt (two_put (x5 / 3600) (by omega)) ?_
  refine iteLe rfl ?_
  refine iteLe rfl ?_
  refine bindAt (two_put (x5 / 60 % 60) (by omega)) ?_
  refine iteLe rfl ?_
  refine iteLe rfl ?_
  refine bindAt (two_put (x5 % 60) (by omega)) ?_
  refine iteLe rfl ?_
  refine iteLe rfl ?_
  rfl
theorem put_loop (D x4 x5 : Nat) (hD : D < 84006) (h5 : x5 < 86400) (h4 : x4 < 1000000) : ∀ (r a b d : Nat), a < 230 → b < 12 → 1 ≤ d → yrs a + mon ((1970 + a : Nat) : Int) b + (d : Int) - 1 = (D : Int) → 2760 ≤ r + (12 * a + b) →
    ∃ a' b' d' : Nat, a' < 230 ∧ b' < 12 ∧ 1 ≤ d' ∧ (d' : Int) ≤ stamp_Days.days ((1970 + a' : Nat) : Int) ((1 + b' : Nat) : Int) ∧ yrs a' + mon ((1970 + a' : Nat) : Int) b' + (d' : Int) - 1 = (D : Int) ∧
      ∀ k, r ≤ k → stamp_Put.l0 (k + 1) (x4 : Int) (x5 : Int) (d : Int) ((1 + b : Nat) : Int) ((1970 + a : Nat) : Int) = some (stampS (x4 % 7) d' b' (1970 + a') (x5 / 3600) (x5 / 60 % 60) (x5 % 60), 0) := by
  intro r
  induction r with
  | zero =>
    intro a b d ha hb hd he hr
    clear he
    omega
  | succ r ih =>
    intro a b d ha hb hd he hr
    have hbd := days_bd a ha b hb
    have hm := mon_bd a ha b (Nat.le_of_lt hb)
    have hy := yrs_bd a
    have hs := mon_succ ((1970 + a : Nat) : Int) b
    have IH := Aside0.mk ih
    have HE := Aside0.mk he
    have HF := Aside0.mk (fun (hd : d < 100) hle k => put_fin k x4 x5 d b a hd hb ha h5 h4 hle)
    have HA := Aside0.mk (days_f ((1970 + a : Nat) : Int) ((1 + b : Nat) : Int))
    have H12 := Aside0.mk (mon_12 a ha)
    clear ih
    obtain ⟨Z, hZ⟩ : ∃ Z, Z = stamp_Days.days ((1970 + a : Nat) : Int) ((1 + b : Nat) : Int) := ⟨_, rfl⟩
    obtain ⟨M, hM⟩ : ∃ M, M = mon ((1970 + a : Nat) : Int) b := ⟨_, rfl⟩
    obtain ⟨Y, hY⟩ : ∃ Y, Y = yrs a := ⟨_, rfl⟩
    rw [← hZ] at hbd hs
    rw [← hM] at hs hm he
    rw [← hY] at hy he
    have HZ := Aside0.mk hZ
    have HM := Aside0.mk hM
    have HY := Aside0.mk hY
    have HS := Aside0.mk hs
    clear hZ hM hY hs
    by_cases hle : (d : Int) ≤ Z
    · exact ⟨a, b, d, ha, hb, hd, by rw [← HZ.out]; exact hle, HE.out, fun k _ => HF.out (by omega) (by rw [← HZ.out]; exact hle) k⟩
    · obtain ⟨z, rfl⟩ : ∃ z : Nat, Z = (z : Int) := ⟨Z.toNat, by omega⟩
      have hzd : z < d := by omega
      have HW : Aside0 (wrap64 ((d : Int) - (z : Int)) = ((d - z : Nat) : Int)) := ⟨by rw [w64 (by omega) (by omega)]; omega⟩
      have hgt : (d : Int) > (z : Int) := by omega
      have hk : 1 ≤ d - z := by omega
      have HY2 : Aside0 (wrap64 (((1970 + a : Nat) : Int) + 1) = ((1970 + (a + 1) : Nat) : Int)) := ⟨by rw [w64 (by omega) (by omega)]; omega⟩
      have HM2 : Aside0 (wrap64 (((1 + b : Nat) : Int) + 1) = ((1 + (b + 1) : Nat) : Int)) := ⟨by rw [w64 (by omega) (by omega)]; omega⟩
      by_cases hb11 : b = 11
      · subst hb11
        have hr1 : 2760 ≤ r + (12 * (a + 1) + 0) := by omega
        have hyr : Y + M + (z : Int) + ((d - z : Nat) : Int) - 1 = (D : Int) := by omega
        have ey : yrs (a + 1) = Y + M + (z : Int) := by
          have h1 := H12.out
          have h2 : mon ((1970 + a : Nat) : Int) 12 = M + (z : Int) := HS.out
          rw [yrs, ← HY.out, Int.add_assoc, ← h1, h2, Int.add_assoc]
        have EY := Aside0.mk ey
        clear ey
        have ha1 : a + 1 < 230 := by
          rcases Nat.lt_or_ge (a + 1) 230 with h | h
          · exact h
          · have hae : a + 1 = 230 := by omega
            have e2 := EY.out
            rw [hae, yrs_last] at e2
            omega
        have em : yrs (a + 1) + mon ((1970 + (a + 1) : Nat) : Int) 0 + ((d - z : Nat) : Int) - 1 = (D : Int) := by
          rw [EY.out, show mon ((1970 + (a + 1) : Nat) : Int) 0 = 0 from rfl, Int.add_zero]
          exact hyr
        obtain ⟨a', b', d', q1, q2, q3, q4, q5, q6⟩ := IH.out (a + 1) 0 (d - z) ha1 (by decide) hk em hr1
        refine ⟨a', b', d', q1, q2, q3, q4, q5, fun k hk => ?_⟩
        clear q4 q5 em
        obtain ⟨k, rfl⟩ : ∃ j, k = j + 1 := ⟨k - 1, by omega⟩
        have w1 : ((1 + (11 + 1) : Nat) : Int) = 13 := rfl
        have hk2 : r ≤ k := by omega
        rw [stamp_Put.l0, HA.out, ← HZ.out, Option.bind_some, if_pos hgt, Option.bind_some, HM2.out, w1, if_pos (by decide), HY2.out, HW.out]
        exact q6 k hk2
      · have hr1 : 2760 ≤ r + (12 * a + (b + 1)) := by omega
        have hb1 : b + 1 < 12 := by omega
        have em : yrs a + mon ((1970 + a : Nat) : Int) (b + 1) + ((d - z : Nat) : Int) - 1 = (D : Int) := by
          rw [HS.out, ← HY.out]
          omega
        have hn12 : ¬ (((1 + (b + 1) : Nat) : Int) > 12) := by omega
        obtain ⟨a', b', d', q1, q2, q3, q4, q5, q6⟩ := IH.out a (b + 1) (d - z) ha hb1 hk em hr1
        refine ⟨a', b', d', q1, q2, q3, q4, q5, fun k hk => ?_⟩
        clear q4 q5 em
        obtain ⟨k, rfl⟩ : ∃ j, k = j + 1 := ⟨k - 1, by omega⟩
        have hk2 : r ≤ k := by omega
        rw [stamp_Put.l0, HA.out, ← HZ.out, Option.bind_some, if_pos hgt, Option.bind_some, HM2.out, if_neg hn12, HW.out]
        exact q6 k hk2
theorem put_eq (n : Nat) (hn : n < 7258118400) : ∃ a b d : Nat, a < 230 ∧ b < 12 ∧ 1 ≤ d ∧ (d : Int) ≤ stamp_Days.days ((1970 + a : Nat) : Int) ((1 + b : Nat) : Int) ∧ yrs a + mon ((1970 + a : Nat) : Int) b + (d : Int) - 1 = ((n / 86400 : Nat) : Int) ∧
    ∀ k, 3000 ≤ k → stamp_Put.f k (n : Int) = some (stampS (n / 86400 % 7) d b (1970 + a) (n % 86400 / 3600) (n % 86400 / 60 % 60) (n % 86400 % 60), 0) := by
  have e1 : Int.tdiv (n : Int) 86400 = ((n / 86400 : Nat) : Int) := rfl
  have e2 : Int.tmod (n : Int) 86400 = ((n % 86400 : Nat) : Int) := rfl
  have w1 : wrap64 ((n / 86400 : Nat) : Int) = ((n / 86400 : Nat) : Int) := w64 (by omega) (by omega)
  have w2 : wrap64 (1 + ((n / 86400 : Nat) : Int)) = ((n / 86400 + 1 : Nat) : Int) := by rw [w64 (by omega) (by omega)]; omega
  have dd : decide ((n : Int) ≥ 7258118400) = false := decide_eq_false (by omega)
  have nn : ¬ ((n : Int) < 0) := by omega
  have w3 : wrap64 (86400 * 84006) = 7258118400 := by rw [w64 (by decide) (by decide)]; rfl
  obtain ⟨a, b, d, q1, q2, q3, q4, q5, q6⟩ := put_loop (n / 86400) (n / 86400) (n % 86400) (by omega) (by omega) (by omega) 2760 0 0 (n / 86400 + 1) (by omega) (by omega) (by omega) (by
    have e1 : mon ((1970 + 0 : Nat) : Int) 0 = 0 := rfl
    have e2 : yrs 0 = 0 := rfl
    rw [e1, e2]; omega) (by omega)
  refine ⟨a, b, d, q1, q2, q3, q4, q5, fun k hk => ?_⟩
  clear q4 q5
  have hk2 : 400 ≤ k - 2 + 2 := by clear w1 w2 w3 dd e1 e2; omega
  have hk3 : 2760 ≤ k - 2 := by clear w1 w2 w3 dd e1 e2; omega
  obtain ⟨k, rfl⟩ : ∃ j, k = j + 2 := ⟨k - 2, by clear w1 w2 w3 dd e1 e2; omega⟩
  rw [stamp_Put.f, if_neg nn, before_2200 (k + 2) hk2, Option.bind_some, w3, dd, stamp_Put.j0, if_neg (by decide), e1, e2, w1, w2]
  exact q6 k (by clear w1 w2 w3 dd e1 e2; omega)
theorem two_ref : ∀ n : Nat, n < 100 → newsreelref17_two.f 10 (n : Int) = some (two n) := by decide +kernel
theorem four_ref : ∀ n < 230, newsreelref01_Put.f 20 ((1970 + n : Nat) : Int) = some (four (1970 + n)) := by decide +kernel
theorem great_wd : ∀ i : Nat, i < 7 → newsreelref17_great.f (rdOf ByteArray.empty wdL (i : Int)) = some ⟨#[wd0 i, wd1 i, wd2 i]⟩ := by decide +kernel
theorem great_mo : ∀ i : Nat, i < 12 → newsreelref17_great.f (rdOf ByteArray.empty moL (i : Int)) = some ⟨#[mo0 i, mo1 i, mo2 i]⟩ := by decide +kernel
theorem two_rup (n : Nat) (hn : n < 100) : ∀ k, 10 ≤ k → newsreelref17_two.f k (n : Int) = some (two n) := up (fun k => newsreelref17_two.mono _ k) (two_ref n hn)
theorem four_rup (n : Nat) (hn : n < 230) : ∀ k, 20 ≤ k → newsreelref01_Put.f k ((1970 + n : Nat) : Int) = some (four (1970 + n)) := up (fun k => newsreelref01_Put.mono _ k) (four_ref n hn)
theorem ref_fin (k n x4 x5 d b a : Nat) (_hn4 : x4 = n / 86400) (hn5 : x5 = n % 86400) (_hn : n < 7258118400) (hd1 : 1 ≤ d) (hd : d < 100) (hb : b < 12) (ha : a < 230) (hdd : (d : Int) ≤ stamp_Days.days ((1970 + a : Nat) : Int) ((1 + b : Nat) : Int)) :
    newsreelref17_Put.l0 (k + 30) (n : Int) ((d - 1 : Nat) : Int) ⟨#[wd0 (x4 % 7), wd1 (x4 % 7), wd2 (x4 % 7)]⟩ ((1970 + a : Nat) : Int) ((1 + b : Nat) : Int) = some (stampS (x4 % 7) d b (1970 + a) (x5 / 3600) (x5 / 60 % 60) (x5 % 60), 0) := by
  have hlt : ¬ (((d - 1 : Nat) : Int) ≥ stamp_Days.days ((1970 + a : Nat) : Int) ((1 + b : Nat) : Int)) := by
    generalize stamp_Days.days ((1970 + a : Nat) : Int) ((1 + b : Nat) : Int) = z at *
    omega
  clear hdd
  have e0 : Aside0 (wrap64 (((d - 1 : Nat) : Int) + 1) = (d : Int)) := ⟨by clear hlt; rw [w64 (by omega) (by omega)]; omega⟩
  have e2 : Aside0 (wrap64 (((1 + b : Nat) : Int) - 1) = (b : Int)) := ⟨by clear hlt; rw [w64 (by omega) (by omega)]; omega⟩
  have e3 : Aside0 (wrap64 (Int.tdiv (Int.tmod (n : Int) 86400) 3600) = ((x5 / 3600 : Nat) : Int)) := ⟨by
    clear hlt
    have : Int.tdiv (Int.tmod (n : Int) 86400) 3600 = ((n % 86400 / 3600 : Nat) : Int) := rfl
    rw [this, ← hn5, w64 (by omega) (by omega)]⟩
  have e4 : Aside0 (wrap64 (Int.tdiv (Int.tmod (n : Int) 3600) 60) = ((x5 / 60 % 60 : Nat) : Int)) := ⟨by
    clear hlt
    have : Int.tdiv (Int.tmod (n : Int) 3600) 60 = ((n % 3600 / 60 : Nat) : Int) := rfl
    rw [this, w64 (by omega) (by omega)]
    omega⟩
  have e5 : Aside0 (Int.tmod (n : Int) 60 = ((x5 % 60 : Nat) : Int)) := ⟨by
    clear hlt
    have : Int.tmod (n : Int) 60 = ((n % 60 : Nat) : Int) := rfl
    rw [this]
    omega⟩
  have hy := four_rup a ha (k + 29) (by clear hlt; omega)
  have t1 := two_rup d hd (k + 29) (by clear hlt; omega)
  have t2 := two_rup (x5 / 3600) (by clear hlt; omega) (k + 29) (by clear hlt; omega)
  have t3 := two_rup (x5 / 60 % 60) (by clear hlt; omega) (k + 29) (by clear hlt; omega)
  have t4 := two_rup (x5 % 60) (by clear hlt; omega) (k + 29) (by clear hlt; omega)
  have gm := great_mo b hb
  have hb0 : (0 : Int) ≤ (b : Int) := by clear hlt; omega
  have hb1 : (b : Int) < (moL.length : Int) := by clear hlt; show (b : Int) < 12; omega
  rw [show k + 30 = k + 29 + 1 from rfl, newsreelref17_Put.l0, days_ref _ _ _ (by clear hlt; omega), Option.bind_some, if_neg hlt, e0.out, e2.out, e3.out, e4.out, e5.out]
  clear hlt e0 e2 e3 e4 e5
  generalize ((1970 + a : Nat) : Int) = ya at *
  generalize 1970 + a = yn at *
  refine iteLe rfl ?_
  refine bindAt t1 ?_
  refine iteLe rfl ?_
  refine iteLe rfl ?_
  refine bindAt names_f ?_
  refine (if_pos hb0).trans ((if_pos hb1).trans ?_)
  refine bindAt gm ?_
  refine iteLe rfl ?_
  refine iteLe rfl ?_
  refine bindAt hy ?_
  refine iteLe rfl ?_
  refine iteLe rfl ?_
  refine bindAt t2 ?_
  refine iteLe rfl ?_
  refine iteLe rfl ?_
  refine bindAt t3 ?_
  refine iteLe rfl ?_
  refine iteLe rfl ?_
  refine bindAt t4 ?_
  refine iteLe rfl ?_
  refine iteLe rfl ?_
  rfl
theorem put_both (D x4 x5 n : Nat) (hn4 : x4 = n / 86400) (hn5 : x5 = n % 86400) (hn : n < 7258118400) (hD : D < 84006) (h5 : x5 < 86400) (h4 : x4 < 1000000) : ∀ (r a b d : Nat), a < 230 → b < 12 → 1 ≤ d → yrs a + mon ((1970 + a : Nat) : Int) b + (d : Int) - 1 = (D : Int) → 2760 ≤ r + (12 * a + b) →
    ∃ a' b' d' : Nat, a' < 230 ∧ b' < 12 ∧ 1 ≤ d' ∧ (d' : Int) ≤ stamp_Days.days ((1970 + a' : Nat) : Int) ((1 + b' : Nat) : Int) ∧ yrs a' + mon ((1970 + a' : Nat) : Int) b' + (d' : Int) - 1 = (D : Int) ∧
      ∀ k, r ≤ k → stamp_Put.l0 (k + 1) (x4 : Int) (x5 : Int) (d : Int) ((1 + b : Nat) : Int) ((1970 + a : Nat) : Int) = some (stampS (x4 % 7) d' b' (1970 + a') (x5 / 3600) (x5 / 60 % 60) (x5 % 60), 0) ∧
      newsreelref17_Put.l0 (k + 30) (n : Int) ((d - 1 : Nat) : Int) ⟨#[wd0 (x4 % 7), wd1 (x4 % 7), wd2 (x4 % 7)]⟩ ((1970 + a : Nat) : Int) ((1 + b : Nat) : Int) = some (stampS (x4 % 7) d' b' (1970 + a') (x5 / 3600) (x5 / 60 % 60) (x5 % 60), 0) := by
  intro r
  induction r with
  | zero =>
    intro a b d ha hb hd he hr
    clear he
    omega
  | succ r ih =>
    intro a b d ha hb hd he hr
    have hbd := days_bd a ha b hb
    have hm := mon_bd a ha b (Nat.le_of_lt hb)
    have hy := yrs_bd a
    have hs := mon_succ ((1970 + a : Nat) : Int) b
    have IH := Aside0.mk ih
    have HE := Aside0.mk he
    have HF := Aside0.mk (fun (hd : d < 100) hle k => put_fin k x4 x5 d b a hd hb ha h5 h4 hle)
    have HR := Aside0.mk (fun (hd1 : 1 ≤ d) (hd : d < 100) hle k => ref_fin k n x4 x5 d b a hn4 hn5 hn hd1 hd hb ha hle)
    have HD := Aside0.mk (fun k => days_ref ((1970 + a : Nat) : Int) ((1 + b : Nat) : Int) (k + 29) (by omega))
    have HA := Aside0.mk (days_f ((1970 + a : Nat) : Int) ((1 + b : Nat) : Int))
    have H12 := Aside0.mk (mon_12 a ha)
    clear ih
    obtain ⟨Z, hZ⟩ : ∃ Z, Z = stamp_Days.days ((1970 + a : Nat) : Int) ((1 + b : Nat) : Int) := ⟨_, rfl⟩
    obtain ⟨M, hM⟩ : ∃ M, M = mon ((1970 + a : Nat) : Int) b := ⟨_, rfl⟩
    obtain ⟨Y, hY⟩ : ∃ Y, Y = yrs a := ⟨_, rfl⟩
    rw [← hZ] at hbd hs
    rw [← hM] at hs hm he
    rw [← hY] at hy he
    have HZ := Aside0.mk hZ
    have HM := Aside0.mk hM
    have HY := Aside0.mk hY
    have HS := Aside0.mk hs
    clear hZ hM hY hs
    by_cases hle : (d : Int) ≤ Z
    · exact ⟨a, b, d, ha, hb, hd, by rw [← HZ.out]; exact hle, HE.out, fun k _ => ⟨HF.out (by omega) (by rw [← HZ.out]; exact hle) k, HR.out hd (by omega) (by rw [← HZ.out]; exact hle) k⟩⟩
    · obtain ⟨z, rfl⟩ : ∃ z : Nat, Z = (z : Int) := ⟨Z.toNat, by omega⟩
      have hzd : z < d := by omega
      have HW : Aside0 (wrap64 ((d : Int) - (z : Int)) = ((d - z : Nat) : Int)) := ⟨by rw [w64 (by omega) (by omega)]; omega⟩
      have hgt : (d : Int) > (z : Int) := by omega
      have hk : 1 ≤ d - z := by omega
      have HW3 : Aside0 (wrap64 (((d - 1 : Nat) : Int) - (z : Int)) = ((d - z - 1 : Nat) : Int)) := ⟨by rw [w64 (by omega) (by omega)]; omega⟩
      have hge : ((d - 1 : Nat) : Int) ≥ (z : Int) := by omega
      have HY2 : Aside0 (wrap64 (((1970 + a : Nat) : Int) + 1) = ((1970 + (a + 1) : Nat) : Int)) := ⟨by rw [w64 (by omega) (by omega)]; omega⟩
      have HM2 : Aside0 (wrap64 (((1 + b : Nat) : Int) + 1) = ((1 + (b + 1) : Nat) : Int)) := ⟨by rw [w64 (by omega) (by omega)]; omega⟩
      by_cases hb11 : b = 11
      · subst hb11
        have hr1 : 2760 ≤ r + (12 * (a + 1) + 0) := by omega
        have hyr : Y + M + (z : Int) + ((d - z : Nat) : Int) - 1 = (D : Int) := by omega
        have ey : yrs (a + 1) = Y + M + (z : Int) := by
          have h1 := H12.out
          have h2 : mon ((1970 + a : Nat) : Int) 12 = M + (z : Int) := HS.out
          rw [yrs, ← HY.out, Int.add_assoc, ← h1, h2, Int.add_assoc]
        have EY := Aside0.mk ey
        clear ey
        have ha1 : a + 1 < 230 := by
          rcases Nat.lt_or_ge (a + 1) 230 with h | h
          · exact h
          · have hae : a + 1 = 230 := by omega
            have e2 := EY.out
            rw [hae, yrs_last] at e2
            omega
        have em : yrs (a + 1) + mon ((1970 + (a + 1) : Nat) : Int) 0 + ((d - z : Nat) : Int) - 1 = (D : Int) := by
          rw [EY.out, show mon ((1970 + (a + 1) : Nat) : Int) 0 = 0 from rfl, Int.add_zero]
          exact hyr
        obtain ⟨a', b', d', q1, q2, q3, q4, q5, q6⟩ := IH.out (a + 1) 0 (d - z) ha1 (by decide) hk em hr1
        refine ⟨a', b', d', q1, q2, q3, q4, q5, fun k hk => ?_⟩
        clear q4 q5 em
        obtain ⟨k, rfl⟩ : ∃ j, k = j + 1 := ⟨k - 1, by omega⟩
        have w1 : ((1 + (11 + 1) : Nat) : Int) = 13 := rfl
        have hk2 : r ≤ k := by omega
        refine ⟨?_, ?_⟩
        · rw [stamp_Put.l0, HA.out, ← HZ.out, Option.bind_some, if_pos hgt, Option.bind_some, HM2.out, w1, if_pos (by decide), HY2.out, HW.out]
          exact (q6 k hk2).1
        · rw [show k + 1 + 30 = k + 30 + 1 by omega, newsreelref17_Put.l0, show k + 30 = k + 1 + 29 by omega, HD.out, ← HZ.out, Option.bind_some, if_pos hge, Option.bind_some, HM2.out, w1, if_pos (by decide), HY2.out, HW3.out]
          exact (q6 k hk2).2
      · have hr1 : 2760 ≤ r + (12 * a + (b + 1)) := by omega
        have hb1 : b + 1 < 12 := by omega
        have em : yrs a + mon ((1970 + a : Nat) : Int) (b + 1) + ((d - z : Nat) : Int) - 1 = (D : Int) := by
          rw [HS.out, ← HY.out]
          omega
        have hn12 : ¬ (((1 + (b + 1) : Nat) : Int) > 12) := by omega
        obtain ⟨a', b', d', q1, q2, q3, q4, q5, q6⟩ := IH.out a (b + 1) (d - z) ha hb1 hk em hr1
        refine ⟨a', b', d', q1, q2, q3, q4, q5, fun k hk => ?_⟩
        clear q4 q5 em
        obtain ⟨k, rfl⟩ : ∃ j, k = j + 1 := ⟨k - 1, by omega⟩
        have hk2 : r ≤ k := by omega
        refine ⟨?_, ?_⟩
        · rw [stamp_Put.l0, HA.out, ← HZ.out, Option.bind_some, if_pos hgt, Option.bind_some, HM2.out, if_neg hn12, HW.out]
          exact (q6 k hk2).1
        · rw [show k + 1 + 30 = k + 30 + 1 by omega, newsreelref17_Put.l0, show k + 30 = k + 1 + 29 by omega, HD.out, ← HZ.out, Option.bind_some, if_pos hge, Option.bind_some, HM2.out, if_neg hn12, HW3.out]
          exact (q6 k hk2).2
theorem put_two (n : Nat) (hn : n < 7258118400) : ∃ r : ByteArray, ∀ k, 3100 ≤ k → stamp_Put.f k (n : Int) = some (r, 0) ∧ newsreelref17_Put.f k (n : Int) = some (r, 0) := by
  have e1 : Int.tdiv (n : Int) 86400 = ((n / 86400 : Nat) : Int) := rfl
  have e2 : Int.tmod (n : Int) 86400 = ((n % 86400 : Nat) : Int) := rfl
  have W1 : Aside0 (wrap64 ((n / 86400 : Nat) : Int) = ((n / 86400 : Nat) : Int)) := ⟨w64 (by omega) (by omega)⟩
  have W2 : Aside0 (wrap64 (1 + ((n / 86400 : Nat) : Int)) = ((n / 86400 + 1 : Nat) : Int)) := ⟨by rw [w64 (by omega) (by omega)]; omega⟩
  have W3 : Aside0 (wrap64 (86400 * 84006) = 7258118400) := ⟨by rw [w64 (by decide) (by decide)]; rfl⟩
  have dd : decide ((n : Int) ≥ 7258118400) = false := decide_eq_false (by omega)
  have nn : ¬ ((n : Int) < 0) := by omega
  have h7 : n / 86400 % 7 < 7 := Nat.mod_lt _ (by decide)
  have g := great_wd (n / 86400 % 7) h7
  have e3 : Int.tmod ((n / 86400 : Nat) : Int) 7 = ((n / 86400 % 7 : Nat) : Int) := rfl
  have c0 : (0 : Int) ≤ ((n / 86400 % 7 : Nat) : Int) := Int.natCast_nonneg _
  have c1 : ((n / 86400 % 7 : Nat) : Int) < (wdL.length : Int) := by show ((n / 86400 % 7 : Nat) : Int) < 7; omega
  obtain ⟨a, b, d, q1, q2, q3, q4, q5, q6⟩ := put_both (n / 86400) (n / 86400) (n % 86400) n rfl rfl hn (by omega) (by omega) (by omega) 2760 0 0 (n / 86400 + 1) (by omega) (by omega) (by omega) (by
    have e1 : mon ((1970 + 0 : Nat) : Int) 0 = 0 := rfl
    have e2 : yrs 0 = 0 := rfl
    rw [e1, e2]; omega) (by omega)
  refine ⟨stampS (n / 86400 % 7) d b (1970 + a) (n % 86400 / 3600) (n % 86400 / 60 % 60) (n % 86400 % 60), fun k hk => ?_⟩
  clear q4 q5
  refine ⟨?_, ?_⟩
  · have hk2 : 400 ≤ k := by clear e1 e2 e3 dd; omega
    obtain ⟨k, rfl⟩ : ∃ j, k = j + 2 := ⟨k - 2, by clear e1 e2 e3 dd; omega⟩
    rw [stamp_Put.f, if_neg nn, before_2200 (k + 2) hk2, Option.bind_some, W3.out, dd, stamp_Put.j0, if_neg (by decide), e1, e2, W1.out, W2.out]
    exact (q6 k (by clear e1 e2 e3 dd; omega)).1
  · obtain ⟨k, rfl⟩ : ∃ j, k = j + 30 + 1 := ⟨k - 31, by clear e1 e2 e3 dd; omega⟩
    rw [newsreelref17_Put.f, if_neg nn, dd, newsreelref17_Put.j0, if_neg (by decide), names_t2, Option.bind_some, e1, W1.out, e3, if_pos c0, if_pos c1, g, Option.bind_some]
    exact (q6 k (by clear e1 e2 e3 dd; omega)).2
theorem put_out (n : Int) (h : n < 0 ∨ 7258118400 ≤ n) : ∀ k, 3100 ≤ k → stamp_Put.f k n = some (⟨#[]⟩, 3) ∧ newsreelref17_Put.f k n = some (⟨#[]⟩, 3) := by
  intro k hk
  have W3 : Aside0 (wrap64 (86400 * 84006) = 7258118400) := ⟨by rw [w64 (by decide) (by decide)]; rfl⟩
  have hk2 : 400 ≤ k := by omega
  by_cases hn : n < 0
  · obtain ⟨k, rfl⟩ : ∃ j, k = j + 1 := ⟨k - 1, by omega⟩
    exact ⟨by rw [stamp_Put.f, if_pos hn, stamp_Put.j0, if_pos rfl], by rw [newsreelref17_Put.f, if_pos hn, newsreelref17_Put.j0, if_pos rfl]⟩
  · have hd : decide (n ≥ 7258118400) = true := decide_eq_true (by omega)
    obtain ⟨k, rfl⟩ : ∃ j, k = j + 1 := ⟨k - 1, by clear hd; omega⟩
    exact ⟨by rw [stamp_Put.f, if_neg hn, before_2200 (k + 1) hk2, Option.bind_some, W3.out, hd, stamp_Put.j0, if_pos rfl], by rw [newsreelref17_Put.f, if_neg hn, hd, newsreelref17_Put.j0, if_pos rfl]⟩
end Go.Proofs.YtghdkpcpgpfgcaaDoor.XStb
