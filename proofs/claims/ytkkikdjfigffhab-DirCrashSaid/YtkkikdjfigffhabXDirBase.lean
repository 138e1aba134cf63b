/- Directories: the functions of layer 10 and the reference's, told by lists; for both of its laws. -/
import Derived.Test.YtkkikdjfigffhabXDirx19
import Derived.Test.YtkkikdjfigffhabXDirx23
import Derived.Test.YtkkikdjfigffhabXDirx33
namespace Go.Proofs.Ytkkikdjfigffhab.XDir
open Go.RowKit Go.Proofs.YtkkikdjfigffhabW.PrintWords Go.Proofs.YtkkikdjfigffhabW.PrintLast Go.Proofs.YtkkikdjfigffhabW.PrintMore
set_option linter.unusedVariables false

theorem wrap_in {i : Int} (h0 : -9223372036854775808 ≤ i) (h : i < 9223372036854775808) : wrap64 i = i := by
  unfold wrap64; omega
theorem inc {i : Nat} (h : i < 9223372036854775807) : wrap64 ((i : Int) + 1) = ((i + 1 : Nat) : Int) := by
  rw [wrap_in (by omega) (by omega)]; omega
theorem dec {i : Nat} (h : i < 9223372036854775807) (h0 : 0 < i) : wrap64 ((i : Int) - 1) = ((i - 1 : Nat) : Int) := by
  rw [wrap_in (by omega) (by omega)]; omega
theorem rdE {l : List S77} {i : Nat} (h : i < l.length) : rd_T77 l (i : Int) = l[i] := by
  unfold rd_T77
  rw [Int.toNat_natCast, List.getD_eq_getElem?_getD, List.getElem?_eq_getElem h]
  rfl
theorem rdO {l : List S69} {i : Nat} (h : i < l.length) : rd_T69 l (i : Int) = l[i] := by
  unfold rd_T69
  rw [Int.toNat_natCast, List.getD_eq_getElem?_getD, List.getElem?_eq_getElem h]
  rfl

/-! ### the order of names -/
theorem cmp_spec : ∀ a b : List UInt8, (Lib.compareBytes a b < 0 ↔ Op.bytesLess a b = true) ∧ (Lib.compareBytes a b = 0 ↔ a = b)
  | [], [] => by simp [Lib.compareBytes, Op.bytesLess]
  | [], _ :: _ => by simp [Lib.compareBytes, Op.bytesLess]
  | _ :: _, [] => by simp [Lib.compareBytes, Op.bytesLess]
  | a :: x, b :: y => by
    obtain ⟨h1, h2⟩ := cmp_spec x y
    by_cases c1 : a < b
    · have hne : a ≠ b := fun e => by rw [e] at c1; exact absurd c1 (UInt8.lt_irrefl _)
      simp [Lib.compareBytes, Op.bytesLess, c1, hne]
    · by_cases c2 : b < a
      · have hne : a ≠ b := fun e => by rw [e] at c2; exact absurd c2 (UInt8.lt_irrefl _)
        simp [Lib.compareBytes, Op.bytesLess, c1, c2, hne]
      · have e : a = b := by
          rw [UInt8.lt_iff_toNat_lt] at c1 c2
          exact UInt8.toNat_inj.1 (by omega)
        subst e
        simp [Lib.compareBytes, Op.bytesLess, c1, h1, h2]
def ltN (a b : ByteArray) : Bool := Op.bytesLess a.toList b.toList
theorem place_c (n : ByteArray) (x : S77) : (dir_place.c n x < 0 ↔ ltN x.f0 n = true) ∧ (dir_place.c n x = 0 ↔ x.f0.toList = n.toList) := by
  unfold dir_place.c ltN
  rw [ByteArray.toList_eq, ByteArray.toList_eq]
  exact cmp_spec _ _

/-! ### entries put in, taken out -/
def insS (x : S77) : List S77 → List S77
  | [] => [x]
  | y :: r => if ltN y.f0 x.f0 = true then y :: insS x r else if y.f0.toList = x.f0.toList then x :: r else x :: y :: r
def refIns (x : S77) : List S77 → List S77
  | [] => [x]
  | y :: r => if ltN x.f0 y.f0 = true then x :: y :: r else y :: refIns x r
def rm (l : List S77) (n : ByteArray) : List S77 := l.filter fun y => decide (y.f0.toList ≠ n.toList)
def has (l : List S77) (n : ByteArray) : Bool := l.any fun y => decide (y.f0.toList = n.toList)
def Srt (l : List S77) : Prop := l.Pairwise fun x y => ltN x.f0 y.f0 = true
theorem at_nil (n : ByteArray) : dir_place.at [] n = 0 := rfl
theorem at_lt {y : S77} {n : ByteArray} (h : ltN y.f0 n = true) (r : List S77) : dir_place.at (y :: r) n = dir_place.at r n + 1 := by
  unfold dir_place.at
  rw [List.takeWhile_cons, if_pos (decide_eq_true ((place_c n y).1.2 h)), List.length_cons]
theorem at_ge {y : S77} {n : ByteArray} (h : ltN y.f0 n = false) (r : List S77) : dir_place.at (y :: r) n = 0 := by
  unfold dir_place.at
  rw [List.takeWhile_cons_of_neg (by rw [decide_eq_true_iff, (place_c n y).1, h]; exact Bool.false_ne_true)]
  rfl
theorem is_lt {y : S77} {n : ByteArray} (h : ltN y.f0 n = true) (r : List S77) : dir_place.is (y :: r) n = dir_place.is r n := by
  unfold dir_place.is
  rw [at_lt h, List.getElem?_cons_succ]
theorem is_ge {y : S77} {n : ByteArray} (h : ltN y.f0 n = false) (r : List S77) : dir_place.is (y :: r) n = decide (y.f0.toList = n.toList) := by
  unfold dir_place.is
  rw [at_ge h, List.getElem?_cons_zero]
  exact decide_eq_decide.2 (place_c n y).2
theorem place_ins (x : S77) : ∀ l : List S77, (if dir_place.is l x.f0 = true then l.set (dir_place.at l x.f0) x else l.take (dir_place.at l x.f0) ++ x :: l.drop (dir_place.at l x.f0)) = insS x l
  | [] => rfl
  | y :: r => by
    unfold insS
    cases h : ltN y.f0 x.f0 with
    | true =>
      rw [if_pos rfl, is_lt h, at_lt h, ← place_ins x r, List.set_cons_succ, List.take_succ_cons, List.drop_succ_cons]
      split <;> rfl
    | false =>
      rw [if_neg Bool.false_ne_true, is_ge h, at_ge h]
      by_cases e : y.f0.toList = x.f0.toList
      · rw [decide_eq_true e, if_pos rfl, if_pos e]
        rfl
      · rw [decide_eq_false e, if_neg Bool.false_ne_true, if_neg e]
        rfl
theorem with_law (l : List S77) (n : ByteArray) (v : Int) (hok : dir_place.ok l n = true) : dir_with.f l n v = some (insS ⟨n, v⟩ l) := by
  unfold dir_with.f dir_place.f
  rw [if_pos hok, Option.bind_some]
  simp only [Int.toNat_natCast]
  rw [← place_ins ⟨n, v⟩ l]
  split <;> rfl
theorem srt_tail {y : S77} {r : List S77} (h : Srt (y :: r)) : (∀ z ∈ r, ltN y.f0 z.f0 = true) ∧ Srt r := List.pairwise_cons.1 h
theorem above {y : S77} {r : List S77} {n : ByteArray} (h : Srt (y :: r)) (hy : ltN y.f0 n = false) : ∀ z ∈ r, z.f0.toList ≠ n.toList ∧ ltN n z.f0 = true := by
  intro z hz
  have h1 := (srt_tail h).1 z hz
  by_cases e : y.f0.toList = n.toList
  · have h2 : ltN n z.f0 = true := by unfold ltN at h1 ⊢; rw [← e]; exact h1
    exact ⟨fun e2 => bl_ne h2 e2.symm, h2⟩
  · have h2 : ltN n z.f0 = true := bl_trans _ _ _ (bl_tri _ _ hy e) h1
    exact ⟨fun e2 => bl_ne h2 e2.symm, h2⟩
theorem rm_none {l : List S77} {n : ByteArray} (h : ∀ z ∈ l, z.f0.toList ≠ n.toList) : rm l n = l := by
  unfold rm
  rw [List.filter_eq_self]
  intro z hz
  exact decide_eq_true (h z hz)
theorem has_none {l : List S77} {n : ByteArray} (h : ∀ z ∈ l, z.f0.toList ≠ n.toList) : has l n = false := by
  unfold has
  rw [List.any_eq_false]
  intro z hz
  simpa using h z hz
theorem is_has (n : ByteArray) : ∀ {l : List S77}, Srt l → dir_place.is l n = has l n
  | [], _ => rfl
  | y :: r, h => by
    cases hy : ltN y.f0 n with
    | true =>
      rw [is_lt hy, is_has n (srt_tail h).2]
      unfold has
      rw [List.any_cons, decide_eq_false (bl_ne hy), Bool.false_or]
    | false =>
      rw [is_ge hy]
      have h1 := has_none (fun z hz => (above h hy z hz).1)
      unfold has at h1 ⊢
      rw [List.any_cons, h1, Bool.or_false]
theorem at_len (l : List S77) (n : ByteArray) : dir_place.at l n ≤ l.length := List.IsPrefix.length_le (List.takeWhile_prefix _)
theorem is_len {l : List S77} {n : ByteArray} (h : dir_place.is l n = true) : dir_place.at l n < l.length := by
  unfold dir_place.is at h
  by_cases hlt : dir_place.at l n < l.length
  · exact hlt
  · rw [List.getElem?_eq_none (by omega)] at h
    cases h
theorem place_rm (n : ByteArray) : ∀ {l : List S77}, Srt l → dir_place.is l n = true → l.eraseIdx (dir_place.at l n) = rm l n
  | [], _, h => by cases h
  | y :: r, hs, h => by
    cases hy : ltN y.f0 n with
    | true =>
      rw [is_lt hy] at h
      rw [at_lt hy, List.eraseIdx_cons_succ, place_rm n (srt_tail hs).2 h]
      unfold rm
      rw [List.filter_cons, if_pos (decide_eq_true (bl_ne hy))]
    | false =>
      rw [is_ge hy, decide_eq_true_iff] at h
      rw [at_ge hy, List.eraseIdx_cons_zero]
      have h1 := rm_none (fun z hz => (above hs hy z hz).1)
      unfold rm at h1 ⊢
      rw [List.filter_cons_of_neg (by simpa using h), h1]
theorem place_idx (n : ByteArray) : ∀ {l : List S77}, Srt l → l.findIdx? (fun y => decide (y.f0.toList = n.toList)) = if dir_place.is l n = true then some (dir_place.at l n) else none
  | [], _ => rfl
  | y :: r, hs => by
    cases hy : ltN y.f0 n with
    | true =>
      rw [is_lt hy, at_lt hy, List.findIdx?_cons, decide_eq_false (bl_ne hy), if_neg Bool.false_ne_true, place_idx n (srt_tail hs).2]
      split <;> rfl
    | false =>
      rw [is_ge hy, at_ge hy, List.findIdx?_cons]
      by_cases e : y.f0.toList = n.toList
      · rw [decide_eq_true e]
        rfl
      · rw [decide_eq_false e]
        have h1 : r.findIdx? (fun y => decide (y.f0.toList = n.toList)) = none := by
          rw [List.findIdx?_eq_none_iff]
          intro z hz
          exact decide_eq_false (above hs hy z hz).1
        rw [h1]
        rfl
theorem ins_ref (x : S77) : ∀ {l : List S77}, Srt l → insS x l = refIns x (rm l x.f0)
  | [], _ => rfl
  | y :: r, hs => by
    unfold insS
    cases hy : ltN y.f0 x.f0 with
    | true =>
      have h1 : rm (y :: r) x.f0 = y :: rm r x.f0 := by
        unfold rm
        rw [List.filter_cons, if_pos (decide_eq_true (bl_ne hy))]
      have h2 : ltN x.f0 y.f0 = false := bl_asymm hy
      rw [if_pos rfl, h1, refIns, h2, if_neg Bool.false_ne_true, ins_ref x (srt_tail hs).2]
    | false =>
      rw [if_neg Bool.false_ne_true]
      have ha := above hs hy
      have hr := rm_none (fun z hz => (ha z hz).1)
      by_cases e : y.f0.toList = x.f0.toList
      · have h1 : rm (y :: r) x.f0 = r := by
          unfold rm at hr ⊢
          rw [List.filter_cons_of_neg (by simpa using e), hr]
        rw [if_pos e, h1]
        cases r with
        | nil => rfl
        | cons z t => rw [refIns, (ha z List.mem_cons_self).2, if_pos rfl]
      · have h1 : rm (y :: r) x.f0 = y :: r := by
          unfold rm at hr ⊢
          rw [List.filter_cons, if_pos (decide_eq_true e), hr]
        rw [if_neg e, h1, refIns, show ltN x.f0 y.f0 = true from bl_tri _ _ hy e, if_pos rfl]
theorem mem_ins {x z : S77} : ∀ {l : List S77}, z ∈ insS x l → z = x ∨ z ∈ l
  | [], h => by
    rw [insS, List.mem_singleton] at h
    exact .inl h
  | y :: r, h => by
    unfold insS at h
    split at h
    · rcases List.mem_cons.1 h with h | h
      · exact .inr (by rw [h]; exact List.mem_cons_self)
      · rcases mem_ins h with h | h
        · exact .inl h
        · exact .inr (List.mem_cons_of_mem _ h)
    · split at h
      · rcases List.mem_cons.1 h with h | h
        · exact .inl h
        · exact .inr (List.mem_cons_of_mem _ h)
      · rcases List.mem_cons.1 h with h | h
        · exact .inl h
        · exact .inr h
theorem srt_ins (x : S77) : ∀ {l : List S77}, Srt l → Srt (insS x l)
  | [], _ => List.pairwise_singleton _ _
  | y :: r, hs => by
    unfold insS
    obtain ⟨h1, h2⟩ := srt_tail hs
    cases hy : ltN y.f0 x.f0 with
    | true =>
      rw [if_pos rfl]
      refine List.pairwise_cons.2 ⟨fun z hz => ?_, srt_ins x h2⟩
      rcases mem_ins hz with h | h
      · rw [h]; exact hy
      · exact h1 z h
    | false =>
      rw [if_neg Bool.false_ne_true]
      have ha := above hs hy
      by_cases e : y.f0.toList = x.f0.toList
      · rw [if_pos e]
        exact List.pairwise_cons.2 ⟨fun z hz => (ha z hz).2, h2⟩
      · rw [if_neg e]
        refine List.pairwise_cons.2 ⟨fun z hz => ?_, hs⟩
        rcases List.mem_cons.1 hz with h | h
        · rw [h]; exact bl_tri _ _ hy e
        · exact (ha z h).2
theorem srt_rm {l : List S77} (n : ByteArray) (h : Srt l) : Srt (rm l n) := h.filter _
theorem len_ins (x : S77) : ∀ l : List S77, (insS x l).length ≤ l.length + 1
  | [] => by simp [insS]
  | y :: r => by
    have := len_ins x r
    unfold insS
    split
    · simp only [List.length_cons]; omega
    · split
      · simp only [List.length_cons]; omega
      · simp only [List.length_cons]; omega
theorem len_rm (l : List S77) (n : ByteArray) : (rm l n).length ≤ l.length := List.length_filter_le _ _
theorem len_rm_lt {l : List S77} {n : ByteArray} (h : has l n = true) : (rm l n).length < l.length := by
  unfold has at h
  obtain ⟨y, hy, e⟩ := List.any_eq_true.1 h
  unfold rm
  rw [List.length_filter_lt_length_iff_exists]
  exact ⟨y, hy, by simpa using e⟩
theorem ok_law {l : List S77} (h : Srt l) (hl : l.length < 1000000) (n : ByteArray) : dir_place.ok l n = true := by
  unfold dir_place.ok
  rw [Bool.and_eq_true]
  refine ⟨decide_eq_true hl, decide_eq_true (h.imp fun {x y} hxy hy => ?_)⟩
  rw [(place_c n y).1] at hy
  rw [(place_c n x).1]
  exact bl_trans _ _ _ hxy hy
theorem place_law {l : List S77} (h : Srt l) (hl : l.length < 1000000) (n : ByteArray) : dir_place.f l n = some ((dir_place.at l n : Int), has l n) := by
  unfold dir_place.f
  rw [if_pos (ok_law h hl n), is_has n h]
theorem without_law {l : List S77} (h : Srt l) (hl : l.length < 1000000) {n : ByteArray} (hh : has l n = true) : dir_without.f l (dir_place.at l n : Int) = some (rm l n) := by
  rw [← is_has n h] at hh
  have := is_len hh
  unfold dir_without.f
  rw [if_pos ⟨hl, by omega, by omega⟩, Int.toNat_natCast, place_rm n h hh]

/-! ### the reference's -/
theorem with_loop (l : List S77) (hl : l.length ≤ 1000) (n : ByteArray) (v : Int) : ∀ (d k i : Nat) (acc : List S77) (put : Bool), i + d = l.length → d < k → acc.length ≤ 2 * i →
    newsreelref10_With.l0 k l acc put (i : Int) n v = some (acc ++ if put = true then l.drop i else refIns ⟨n, v⟩ (l.drop i)) := by
  intro d
  induction d with
  | zero =>
    intro k i acc put hi hk ha
    obtain ⟨k, rfl⟩ : ∃ m, k = m + 1 := ⟨k - 1, by omega⟩
    simp only [newsreelref10_With.l0]
    rw [if_neg (by omega), List.drop_of_length_le (by omega)]
    cases put with
    | true => rw [if_pos rfl, if_pos rfl, List.append_nil]
    | false => rw [if_neg Bool.false_ne_true, if_neg Bool.false_ne_true, if_pos (by omega)]; rfl
  | succ d ih =>
    intro k i acc put hi hk ha
    obtain ⟨k, rfl⟩ : ∃ m, k = m + 1 := ⟨k - 1, by omega⟩
    have hlt : i < l.length := by omega
    simp only [newsreelref10_With.l0]
    rw [if_pos (show (i : Int) < (l.length : Int) by omega), List.drop_eq_getElem_cons hlt]
    have hacc : acc.length < 5864062014805 := by omega
    cases put with
    | true =>
      rw [if_pos rfl, if_pos rfl, if_pos (show 0 ≤ (i : Int) by omega), if_pos hacc, rdE hlt, inc (by omega), ih k (i + 1) _ true (by omega) (by omega) (by rw [List.length_append]; simp; omega), if_pos rfl, List.append_assoc]
      rfl
    | false =>
      rw [if_neg Bool.false_ne_true, if_neg Bool.false_ne_true, if_pos (show 0 ≤ (i : Int) by omega), rdE hlt, inc (by omega)]
      rw [refIns]
      by_cases c : Op.bytesLess n.toList (l[i]).f0.toList = true
      · rw [if_pos c, if_pos hacc, Option.bind_some, if_pos (show ltN n (l[i]).f0 = true from c)]
        rw [if_pos (show (acc ++ [(⟨n, v⟩ : S77)]).length < 5864062014805 by rw [List.length_append]; simp; omega)]
        rw [ih k (i + 1) _ true (by omega) (by omega) (by simp; omega), if_pos rfl, List.append_assoc, List.append_assoc]
        rfl
      · rw [if_neg c, if_pos hacc, if_neg (show ¬ ltN n (l[i]).f0 = true from c)]
        rw [ih k (i + 1) _ false (by omega) (by omega) (by rw [List.length_append]; simp; omega), if_neg Bool.false_ne_true, List.append_assoc]
        rfl
theorem ref_with (k : Nat) (l : List S77) (hl : l.length ≤ 1000) (hk : 1000 < k) (n : ByteArray) (v : Int) : newsreelref10_With.f k l n v = some (refIns ⟨n, v⟩ l) := by
  have h := with_loop l hl n v l.length k 0 [] false (by omega) (by omega) (by simp)
  rw [if_neg Bool.false_ne_true, List.nil_append, List.drop_zero] at h
  exact h
theorem without_loop (l : List S77) (hl : l.length ≤ 1000) (n : ByteArray) : ∀ (d k i : Nat) (acc : List S77), i + d = l.length → d < k → acc.length ≤ i →
    newsreelref10_Without.l0 k l n acc (i : Int) = some (acc ++ rm (l.drop i) n) := by
  intro d
  induction d with
  | zero =>
    intro k i acc hi hk ha
    obtain ⟨k, rfl⟩ : ∃ m, k = m + 1 := ⟨k - 1, by omega⟩
    simp only [newsreelref10_Without.l0]
    rw [if_neg (by omega), List.drop_of_length_le (by omega)]
    exact congrArg some (List.append_nil _).symm
  | succ d ih =>
    intro k i acc hi hk ha
    obtain ⟨k, rfl⟩ : ∃ m, k = m + 1 := ⟨k - 1, by omega⟩
    have hlt : i < l.length := by omega
    simp only [newsreelref10_Without.l0]
    rw [if_pos (show (i : Int) < (l.length : Int) by omega), if_pos (show 0 ≤ (i : Int) by omega), rdE hlt, inc (by omega), List.drop_eq_getElem_cons hlt]
    by_cases c : (l[i]).f0.toList = n.toList
    · rw [if_pos c, ih k (i + 1) acc (by omega) (by omega) (by omega)]
      unfold rm
      rw [List.filter_cons_of_neg (by simpa using c)]
    · rw [if_neg c, if_pos (by omega : acc.length < 5864062014805), ih k (i + 1) _ (by omega) (by omega) (by rw [List.length_append]; simp; omega)]
      unfold rm
      rw [List.filter_cons, if_pos (decide_eq_true c), List.append_assoc]
      rfl
theorem ref_without (k : Nat) (l : List S77) (hl : l.length ≤ 1000) (hk : 1000 < k) (n : ByteArray) : newsreelref10_Without.f k l n = some (rm l n) :=
  without_loop l hl n l.length k 0 [] (by omega) (by omega) (by simp)
def atF (l : List S77) (n : ByteArray) (i : Nat) : Int := match (l.drop i).findIdx? (fun y => decide (y.f0.toList = n.toList)) with | some j => ((i + j : Nat) : Int) | none => -1
theorem at_loop (l : List S77) (hl : l.length ≤ 1000) (n : ByteArray) : ∀ (d k i : Nat), i + d = l.length → d < k → newsreelref10_At.l0 k l n (i : Int) = some (atF l n i) := by
  intro d
  induction d with
  | zero =>
    intro k i hi hk
    obtain ⟨k, rfl⟩ : ∃ m, k = m + 1 := ⟨k - 1, by omega⟩
    simp only [newsreelref10_At.l0]
    rw [if_neg (by omega)]
    unfold atF
    rw [List.drop_of_length_le (by omega)]
    rfl
  | succ d ih =>
    intro k i hi hk
    obtain ⟨k, rfl⟩ : ∃ m, k = m + 1 := ⟨k - 1, by omega⟩
    have hlt : i < l.length := by omega
    simp only [newsreelref10_At.l0]
    rw [if_pos (show (i : Int) < (l.length : Int) by omega), if_pos (show 0 ≤ (i : Int) by omega), rdE hlt, inc (by omega)]
    unfold atF
    rw [List.drop_eq_getElem_cons hlt, List.findIdx?_cons]
    by_cases c : (l[i]).f0.toList = n.toList
    · rw [if_pos c, decide_eq_true c]
      rfl
    · rw [if_neg c, decide_eq_false c, ih k (i + 1) (by omega) (by omega)]
      unfold atF
      rw [if_neg Bool.false_ne_true]
      cases (l.drop (i + 1)).findIdx? (fun y => decide (y.f0.toList = n.toList)) with
      | none => rfl
      | some j =>
        show some (((i + 1 + j : Nat) : Int)) = some ((i + (j + 1) : Nat) : Int)
        rw [show i + 1 + j = i + (j + 1) by omega]
theorem ref_at (k : Nat) (l : List S77) (hl : l.length ≤ 1000) (hk : 1000 < k) (n : ByteArray) : newsreelref10_At.f k l n = some (atF l n 0) := at_loop l hl n l.length k 0 (by omega) (by omega)
theorem atF_srt {l : List S77} (h : Srt l) (n : ByteArray) : atF l n 0 = if has l n = true then (dir_place.at l n : Int) else -1 := by
  unfold atF
  rw [List.drop_zero, place_idx n h, is_has n h]
  split
  · rename_i j e
    split at e
    · rename_i hh
      injection e with e
      rw [if_pos hh, ← e, Nat.zero_add]
    · cases e
  · rename_i e
    split at e
    · cases e
    · rename_i hh
      rw [if_neg hh]

/-! ### names -/
def okB (v : Int) : Bool := decide (97 ≤ v ∧ v ≤ 122) || decide (48 ≤ v ∧ v ≤ 57) || decide (v = 46)
def nameOk (s : ByteArray) : Bool := (List.range' 0 s.size).all (fun j => okB (bt s (j : Int))) && decide (1 ≤ s.size ∧ s.size ≤ 24)
theorem dname_loop (s : ByteArray) (hs : s.size ≤ maxLen) : ∀ (d k i : Nat), i + d = s.size → d < k → dir_Name.l0 k s (s.size : Int) (i : Int) = some ((List.range' i d).all (fun j => okB (bt s (j : Int))) && decide (1 ≤ s.size ∧ s.size ≤ 24)) := by
  have hs' : s.size ≤ 9223372036854775807 := hs
  intro d
  induction d with
  | zero =>
    intro k i hi hk
    obtain ⟨k, rfl⟩ : ∃ m, k = m + 1 := ⟨k - 1, by omega⟩
    simp only [dir_Name.l0]
    rw [if_neg (by omega)]
    by_cases h0 : s.toList = []
    · rw [if_pos h0]
      have : s.size = 0 := by
        rw [ByteArray.toList_eq] at h0
        have := congrArg List.length h0
        simpa using this
      rw [decide_eq_false (by omega), Bool.and_false]
    · rw [if_neg h0]
      have : s.size ≠ 0 := fun e => h0 (by
        rw [ByteArray.toList_eq]
        apply List.eq_nil_of_length_eq_zero
        simpa using e)
      rw [show (List.range' i 0).all (fun j => okB (bt s (j : Int))) = true from rfl, Bool.true_and]
      exact congrArg some (decide_eq_decide.2 ⟨fun h => ⟨by omega, by omega⟩, fun h => by omega⟩)
  | succ d ih =>
    intro k i hi hk
    obtain ⟨k, rfl⟩ : ∃ m, k = m + 1 := ⟨k - 1, by omega⟩
    simp only [dir_Name.l0]
    rw [if_pos (show (i : Int) < (s.size : Int) by omega), if_pos (show 0 ≤ (i : Int) by omega), if_pos (show (i : Int) < (s.size : Int) by omega), inc (by omega), ih k (i + 1) (by omega) (by omega), List.range'_succ, List.all_cons]
    generalize (List.range' (i + 1) d).all (fun j => okB (bt s (j : Int))) = q
    generalize decide (1 ≤ s.size ∧ s.size ≤ 24) = q2
    generalize bt s (i : Int) = v
    unfold okB
    by_cases c1 : v < 97
    · rw [if_pos c1]
      by_cases c2 : v < 48
      · rw [if_pos c2]
        by_cases c3 : v = 46
        · subst c3; simp
        · rw [if_neg c3, decide_eq_false (by omega), decide_eq_false (by omega), decide_eq_false c3]; simp
      · rw [if_neg c2]
        by_cases c4 : v > 57
        · rw [if_pos c4, if_neg (by omega), decide_eq_false (by omega), decide_eq_false (by omega), decide_eq_false (by omega)]; simp
        · rw [if_neg c4, decide_eq_false (by omega), decide_eq_true (by omega)]; simp
    · rw [if_neg c1]
      by_cases c2 : v > 122
      · rw [if_pos c2, if_neg (by omega), if_pos (by omega), if_neg (by omega), decide_eq_false (by omega), decide_eq_false (by omega), decide_eq_false (by omega)]; simp
      · rw [if_neg c2, decide_eq_true (by omega)]; simp
theorem dname (k : Nat) (s : ByteArray) (hs : s.size ≤ maxLen) (hk : s.size < k) : dir_Name.f k s = some (nameOk s) := dname_loop s hs s.size k 0 (by omega) hk
theorem rname_loop (s : ByteArray) (hs : s.size ≤ maxLen) : ∀ (d k i : Nat), i + d = s.size → d < k → newsreelref10_Name.l0 k s (i : Int) = some ((List.range' i d).all (fun j => okB (bt s (j : Int))) && decide (1 ≤ s.size ∧ s.size ≤ 24)) := by
  have hs' : s.size ≤ 9223372036854775807 := hs
  intro d
  induction d with
  | zero =>
    intro k i hi hk
    obtain ⟨k, rfl⟩ : ∃ m, k = m + 1 := ⟨k - 1, by omega⟩
    simp only [newsreelref10_Name.l0]
    rw [if_neg (by omega), show (List.range' i 0).all (fun j => okB (bt s (j : Int))) = true from rfl, Bool.true_and]
    by_cases h0 : (s.size : Int) ≥ 1
    · rw [if_pos h0]
      exact congrArg some (decide_eq_decide.2 ⟨fun h => ⟨by omega, by omega⟩, fun h => by omega⟩)
    · rw [if_neg h0, decide_eq_false (by omega)]
  | succ d ih =>
    intro k i hi hk
    obtain ⟨k, rfl⟩ : ∃ m, k = m + 1 := ⟨k - 1, by omega⟩
    simp only [newsreelref10_Name.l0]
    rw [if_pos (show (i : Int) < (s.size : Int) by omega), if_pos (show 0 ≤ (i : Int) by omega), inc (by omega), ih k (i + 1) (by omega) (by omega), List.range'_succ, List.all_cons]
    generalize (List.range' (i + 1) d).all (fun j => okB (bt s (j : Int))) = q
    generalize decide (1 ≤ s.size ∧ s.size ≤ 24) = q2
    generalize bt s (i : Int) = v
    unfold okB
    by_cases c0 : v = 46
    · subst c0; simp
    · by_cases c1 : v ≥ 97
      · rw [if_pos c1]
        by_cases c2 : v ≤ 122
        · rw [if_pos c2, decide_eq_true (by omega)]; simp
        · rw [if_neg c2, if_pos (by omega), if_neg (by omega), if_neg c0, decide_eq_false (by omega), decide_eq_false (by omega), decide_eq_false c0]; simp
      · rw [if_neg c1]
        by_cases c2 : v ≥ 48
        · rw [if_pos c2]
          by_cases c3 : v ≤ 57
          · rw [if_pos c3, decide_eq_false (by omega), decide_eq_true (by omega)]; simp
          · rw [if_neg c3, if_neg c0, decide_eq_false (by omega), decide_eq_false (by omega), decide_eq_false c0]; simp
        · rw [if_neg c2, if_neg c0, decide_eq_false (by omega), decide_eq_false (by omega), decide_eq_false c0]; simp
theorem rname (k : Nat) (s : ByteArray) (hs : s.size ≤ maxLen) (hk : s.size < k) : newsreelref10_Name.f k s = some (nameOk s) := rname_loop s hs s.size k 0 (by omega) hk

/-! ### what is done -/
def nodeOf (l : List S77) (n : ByteArray) : Int := (rd_T77 l (dir_place.at l n : Int)).f1
def specDone (l : List S77) (op : S69) : List S77 × Int :=
  if op.f0 = 1 then (if nameOk op.f1 = true then (if has l op.f1 = true then ([], 6) else if 100 ≤ l.length then ([], 7) else (insS ⟨op.f1, op.f3⟩ l, 0)) else ([], 1))
  else if op.f0 = 2 then (if has l op.f1 = true then (if nameOk op.f2 = true ∧ op.f2.toList ≠ op.f1.toList then (insS ⟨op.f2, nodeOf l op.f1⟩ (rm l op.f1), 0) else ([], 1)) else ([], 5))
  else if op.f0 = 3 then (if has l op.f1 = true then (rm l op.f1, 0) else ([], 5)) else ([], 16)
def Fit (k : Nat) (op : S69) : Prop := (op.f1.size ≤ maxLen ∧ op.f2.size ≤ maxLen) ∧ op.f1.size + 10 < k ∧ op.f2.size + 10 < k
theorem Fit.le {k k' : Nat} {op : S69} (h : Fit k op) (hk : k ≤ k') : Fit k' op := ⟨h.1, by have := h.2.1; omega, by have := h.2.2; omega⟩
theorem ddone (k : Nat) (l : List S77) (op : S69) (hs : Srt l) (hl : l.length ≤ 500) (hf : Fit k op) : dir_done.f k l op.f0 op.f1 op.f2 op.f3 = some (specDone l op) := by
  obtain ⟨⟨h1, h2⟩, hk1, hk2⟩ := hf
  have hl' : l.length < 1000000 := by omega
  unfold dir_done.f specDone
  rw [place_law hs hl', Option.bind_some]
  dsimp only
  by_cases c1 : op.f0 = 1
  · rw [if_pos c1, if_pos c1]
    unfold dir_link.f
    rw [dname k op.f1 h1 (by omega), Option.bind_some]
    by_cases cn : nameOk op.f1 = true
    · rw [if_pos cn, if_pos cn, place_law hs hl', Option.bind_some]
      dsimp only
      by_cases ch : has l op.f1 = true
      · rw [if_pos ch, if_pos ch]
        rfl
      · rw [if_neg ch, if_neg ch]
        by_cases cl : (l.length : Int) ≥ 100
        · rw [if_pos cl, if_pos (by omega)]
          rfl
        · rw [if_neg cl, if_neg (by omega), with_law l _ _ (ok_law hs hl' _)]
          rfl
    · rw [if_neg cn, if_neg cn]
      rfl
  · rw [if_neg c1, if_neg c1]
    by_cases c2 : op.f0 = 2
    · rw [if_pos c2, if_pos c2]
      by_cases ch : has l op.f1 = true
      · rw [if_pos ch, if_pos ch, dname k op.f2 h2 (by omega), Option.bind_some]
        have hat : dir_place.at l op.f1 < l.length := is_len (by rw [is_has _ hs]; exact ch)
        have hj : ∀ b : Bool, dir_done.j0 k l (dir_place.at l op.f1 : Int) b op.f0 op.f1 op.f2 op.f3 = if b = true then some ([], 1) else some (insS ⟨op.f2, nodeOf l op.f1⟩ (rm l op.f1), 0) := by
          intro b
          obtain ⟨k, rfl⟩ : ∃ m, k = m + 1 := ⟨k - 1, by omega⟩
          simp only [dir_done.j0]
          cases b with
          | true => rw [if_pos rfl, if_pos rfl]
          | false =>
            rw [if_neg Bool.false_ne_true, if_neg Bool.false_ne_true, without_law hs hl' ch, Option.bind_some, if_pos (by omega), if_pos (by omega), with_law _ _ _ (ok_law (srt_rm _ hs) (by have := len_rm l op.f1; omega) _)]
            rfl
        by_cases cn : nameOk op.f2 = true
        · rw [if_pos cn, hj]
          by_cases ce : op.f2.toList = op.f1.toList
          · rw [if_pos (beq_iff_eq.mpr ce), if_neg (fun h => h.2 ce)]
          · rw [if_neg (fun h => ce (beq_iff_eq.mp h)), if_pos ⟨cn, ce⟩]
        · rw [if_neg cn, hj, if_pos rfl, if_neg (fun h => cn h.1)]
      · rw [if_neg ch, if_neg ch]
    · rw [if_neg c2, if_neg c2]
      by_cases c3 : op.f0 = 3
      · rw [if_pos c3, if_pos c3]
        by_cases ch : has l op.f1 = true
        · rw [if_pos ch, if_pos ch, without_law hs hl' ch]
          rfl
        · rw [if_neg ch, if_neg ch]
      · rw [if_neg c3, if_neg c3]
theorem has_false {l : List S77} {n : ByteArray} (h : ¬ has l n = true) : ∀ z ∈ l, z.f0.toList ≠ n.toList := by
  intro z hz e
  refine h ?_
  unfold has
  rw [List.any_eq_true]
  exact ⟨z, hz, decide_eq_true e⟩
theorem rdone (k : Nat) (l : List S77) (op : S69) (hs : Srt l) (hl : l.length ≤ 500) (hk : 2000 < k) (hf : Fit k op) : newsreelref10_Done.f k l op.f0 op.f1 op.f2 op.f3 = some (specDone l op) := by
  obtain ⟨⟨h1, h2⟩, hk1, hk2⟩ := hf
  have hmv : insS ⟨op.f2, nodeOf l op.f1⟩ (rm l op.f1) = refIns ⟨op.f2, nodeOf l op.f1⟩ (rm (rm l op.f1) op.f2) := ins_ref (⟨op.f2, nodeOf l op.f1⟩ : S77) (srt_rm op.f1 hs)
  have hr1 := len_rm l op.f1
  have hr2 := len_rm (rm l op.f1) op.f2
  unfold newsreelref10_Done.f specDone
  rw [ref_at k l (by omega) (by omega), Option.bind_some, atF_srt hs]
  have hj : ∀ b : Bool, (b = true ↔ op.f0 < 1 ∨ op.f0 > 3) → newsreelref10_Done.j0 k l (if has l op.f1 = true then (dir_place.at l op.f1 : Int) else -1) b op.f0 op.f1 op.f2 op.f3 = some (specDone l op) := by
    intro b hb
    unfold specDone
    obtain ⟨k, rfl⟩ : ∃ m, k = m + 1 := ⟨k - 1, by omega⟩
    simp only [newsreelref10_Done.j0]
    cases b with
    | true =>
      rcases hb.1 rfl with h | h
      · rw [if_pos rfl, if_neg (by omega), if_neg (by omega), if_neg (by omega)]
      · rw [if_pos rfl, if_neg (by omega), if_neg (by omega), if_neg (by omega)]
    | false =>
      have hb2 : ¬ (op.f0 < 1 ∨ op.f0 > 3) := fun h => by have := hb.2 h; cases this
      rw [if_neg Bool.false_ne_true]
      by_cases c1 : op.f0 = 1
      · rw [if_pos c1, if_pos c1, rname k op.f1 h1 (by omega), Option.bind_some]
        by_cases cn : nameOk op.f1 = true
        · rw [if_pos cn, if_pos cn]
          by_cases ch : has l op.f1 = true
          · rw [if_pos ch, if_pos ch, if_pos (by omega)]
          · rw [if_neg ch, if_neg ch, if_neg (by decide)]
            by_cases cl : (l.length : Int) ≥ 100
            · rw [if_pos cl, if_pos (by omega)]
            · have e := ins_ref (⟨op.f1, op.f3⟩ : S77) hs
              rw [rm_none (has_false ch)] at e
              rw [if_neg cl, if_neg (by omega), ref_with k l (by omega) (by omega), e]
              rfl
        · rw [if_neg cn, if_neg cn]
      · rw [if_neg c1, if_neg c1]
        by_cases ch : has l op.f1 = true
        · have hat : dir_place.at l op.f1 < l.length := is_len (by rw [is_has _ hs]; exact ch)
          rw [if_pos ch, if_neg (by omega)]
          by_cases c3 : op.f0 = 3
          · rw [if_pos c3, if_neg (by omega), if_pos c3, if_pos ch, ref_without k l (by omega) (by omega)]
            rfl
          · have c2 : op.f0 = 2 := by omega
            rw [if_neg c3, if_pos c2, if_pos ch, rname k op.f2 h2 (by omega), Option.bind_some]
            have hj1 : ∀ b : Bool, newsreelref10_Done.j1 k l (dir_place.at l op.f1 : Int) b op.f0 op.f1 op.f2 op.f3 = if b = true then some ([], 1) else some (insS ⟨op.f2, nodeOf l op.f1⟩ (rm l op.f1), 0) := by
              intro b
              obtain ⟨k, rfl⟩ : ∃ m, k = m + 1 := ⟨k - 1, by omega⟩
              simp only [newsreelref10_Done.j1]
              cases b with
              | true => rw [if_pos rfl, if_pos rfl]
              | false =>
                rw [if_neg Bool.false_ne_true, if_neg Bool.false_ne_true, ref_without k l (by omega) (by omega), Option.bind_some, ref_without k _ (by omega) (by omega), Option.bind_some, if_pos (by omega), if_pos (by omega), ref_with k _ (by omega) (by omega), hmv]
                rfl
            by_cases cn : nameOk op.f2 = true
            · rw [if_pos cn, hj1]
              by_cases ce : op.f2.toList = op.f1.toList
              · rw [if_pos (beq_iff_eq.mpr ce), if_neg (fun h => h.2 ce)]
              · rw [if_neg (fun h => ce (beq_iff_eq.mp h)), if_pos ⟨cn, ce⟩]
            · rw [if_neg cn, hj1, if_pos rfl, if_neg (fun h => cn h.1)]
        · rw [if_neg ch, if_pos (by decide)]
          by_cases c2 : op.f0 = 2
          · rw [if_pos c2, if_neg ch]
          · rw [if_neg c2, if_pos (by omega), if_neg ch]
  by_cases c0 : op.f0 < 1
  · rw [if_pos c0]
    exact hj true ⟨fun _ => .inl c0, fun _ => rfl⟩
  · rw [if_neg c0]
    exact hj _ ⟨fun h => .inr (of_decide_eq_true h), fun h => decide_eq_true (by omega)⟩
theorem done_good {l : List S77} (op : S69) (hs : Srt l) (hl : l.length ≤ 100) : Srt (specDone l op).1 ∧ (specDone l op).1.length ≤ 100 := by
  have hnil : Srt ([] : List S77) := List.Pairwise.nil
  unfold specDone
  repeat' split
  all_goals first
    | exact ⟨hnil, by simp⟩
    | (refine ⟨srt_ins _ hs, ?_⟩; have := len_ins (⟨op.f1, op.f3⟩ : S77) l; dsimp only; omega)
    | (refine ⟨srt_ins _ (srt_rm _ hs), ?_⟩; have h1 := len_ins (⟨op.f2, nodeOf l op.f1⟩ : S77) (rm l op.f1); have h2 := len_rm_lt (l := l) (n := op.f1) (by assumption); dsimp only; omega)
    | (refine ⟨srt_rm _ hs, ?_⟩; have h2 := len_rm l op.f1; dsimp only; omega)
def specAll : List S77 → List S69 → List S77 × Bool
  | l, [] => (l, true)
  | l, op :: r => if (specDone l op).2 = 0 then specAll (specDone l op).1 r else ([], false)
theorem all_good : ∀ (r : List S69) {l : List S77}, Srt l → l.length ≤ 100 → Srt (specAll l r).1 ∧ (specAll l r).1.length ≤ 100
  | [], _, hs, hl => ⟨hs, hl⟩
  | op :: r, l, hs, hl => by
    unfold specAll
    split
    · exact all_good r (done_good op hs hl).1 (done_good op hs hl).2
    · exact ⟨List.Pairwise.nil, by simp⟩
theorem dall_loop (ops : List S69) (ho : ops.length ≤ 1000) (M : Nat) (hM : ∀ op ∈ ops, Fit M op) : ∀ (d k i : Nat) (l : List S77), i + d = ops.length → d + M < k → Srt l → l.length ≤ 100 → dir_all.l0 k l ops (ops.length : Int) (i : Int) = some (specAll l (ops.drop i)) := by
  intro d
  induction d with
  | zero =>
    intro k i l hi hk hs hl
    obtain ⟨k, rfl⟩ : ∃ m, k = m + 1 := ⟨k - 1, by omega⟩
    simp only [dir_all.l0]
    rw [if_neg (by omega), List.drop_of_length_le (by omega)]
    rfl
  | succ d ih =>
    intro k i l hi hk hs hl
    obtain ⟨k, rfl⟩ : ∃ m, k = m + 1 := ⟨k - 1, by omega⟩
    have hlt : i < ops.length := by omega
    simp only [dir_all.l0]
    rw [if_pos (show (i : Int) < (ops.length : Int) by omega), if_pos (show 0 ≤ (i : Int) by omega), if_pos (show (i : Int) < (ops.length : Int) by omega), rdO hlt, inc (by omega), ddone k l ops[i] hs (by omega) ((hM _ (List.getElem_mem hlt)).le (by omega)), Option.bind_some, List.drop_eq_getElem_cons hlt, specAll]
    by_cases c : (specDone l ops[i]).2 = 0
    · rw [if_pos c, if_pos c, ih k (i + 1) _ (by omega) (by omega) (done_good _ hs hl).1 (done_good _ hs hl).2]
    · rw [if_neg c, if_neg c]
theorem rall_loop (ops : List S69) (ho : ops.length ≤ 1000) (M : Nat) (hM : ∀ op ∈ ops, Fit M op) : ∀ (d k i : Nat) (l : List S77), i + d = ops.length → d + M + 3000 < k → Srt l → l.length ≤ 100 → newsreelref10_All.l0 k l ops (i : Int) = some (specAll l (ops.drop i)) := by
  intro d
  induction d with
  | zero =>
    intro k i l hi hk hs hl
    obtain ⟨k, rfl⟩ : ∃ m, k = m + 1 := ⟨k - 1, by omega⟩
    simp only [newsreelref10_All.l0]
    rw [if_neg (by omega), List.drop_of_length_le (by omega)]
    rfl
  | succ d ih =>
    intro k i l hi hk hs hl
    obtain ⟨k, rfl⟩ : ∃ m, k = m + 1 := ⟨k - 1, by omega⟩
    have hlt : i < ops.length := by omega
    simp only [newsreelref10_All.l0]
    rw [if_pos (show (i : Int) < (ops.length : Int) by omega), if_pos (show 0 ≤ (i : Int) by omega), rdO hlt, inc (by omega), rdone k l ops[i] hs (by omega) (by omega) ((hM _ (List.getElem_mem hlt)).le (by omega)), Option.bind_some, List.drop_eq_getElem_cons hlt, specAll]
    by_cases c : (specDone l ops[i]).2 = 0
    · rw [if_pos c, if_pos c, ih k (i + 1) _ (by omega) (by omega) (done_good _ hs hl).1 (done_good _ hs hl).2]
    · rw [if_neg c, if_neg c]

/-! ### may they be -/
def mayF (l : List S77) (i d : Nat) : Bool := (List.range' i d).all fun j => nameOk (rd_T77 l (j : Int)).f0 && (decide (j = 0) || ltN (rd_T77 l ((j - 1 : Nat) : Int)).f0 (rd_T77 l (j : Int)).f0)
theorem mayF_succ (l : List S77) (i d : Nat) : mayF l i (d + 1) = ((nameOk (rd_T77 l (i : Int)).f0 && (decide (i = 0) || ltN (rd_T77 l ((i - 1 : Nat) : Int)).f0 (rd_T77 l (i : Int)).f0)) && mayF l (i + 1) d) := by
  unfold mayF
  rw [List.range'_succ, List.all_cons]
def mayB (l : List S77) : Bool := mayF l 0 l.length && decide (l.length ≤ 100)
def Named (M : Nat) (l : List S77) : Prop := ∀ x ∈ l, x.f0.size ≤ maxLen ∧ x.f0.size < M
theorem dmay_loop (l : List S77) (hl : l.length ≤ 1000) (M : Nat) (hM : Named M l) : ∀ (d k i : Nat), i + d = l.length → d + M < k → dir_may.l0 k l l (l.length : Int) (i : Int) = some (mayF l i d && decide (l.length ≤ 100)) := by
  intro d
  induction d with
  | zero =>
    intro k i hi hk
    obtain ⟨k, rfl⟩ : ∃ m, k = m + 1 := ⟨k - 1, by omega⟩
    simp only [dir_may.l0]
    rw [if_neg (by omega)]
    show _ = some (true && _)
    rw [Bool.true_and]
    exact congrArg some (decide_eq_decide.2 ⟨fun h => by omega, fun h => by omega⟩)
  | succ d ih =>
    intro k i hi hk
    obtain ⟨k, rfl⟩ : ∃ m, k = m + 1 := ⟨k - 1, by omega⟩
    have hlt : i < l.length := by omega
    have hm := hM _ (List.getElem_mem hlt)
    simp only [dir_may.l0]
    rw [if_pos (show (i : Int) < (l.length : Int) by omega), if_pos (show 0 ≤ (i : Int) by omega), if_pos (show (i : Int) < (l.length : Int) by omega), mayF_succ, rdE hlt, dname k _ hm.1 (by omega), Option.bind_some, inc (by omega)]
    by_cases cn : nameOk (l[i]).f0 = true
    · rw [if_pos cn, cn, Bool.true_and]
      by_cases c0 : i = 0
      · subst c0
        rw [if_neg (by omega), ih k 1 (by omega) (by omega), decide_eq_true rfl, Bool.true_or, Bool.true_and]
      · rw [if_pos (by omega), dec (by omega) (by omega), if_pos (by omega), if_pos (by omega), decide_eq_false c0, Bool.false_or]
        by_cases cl : ltN (rd_T77 l ((i - 1 : Nat) : Int)).f0 (l[i]).f0 = true
        · rw [if_pos (show Op.bytesLess _ _ = true from cl), ih k (i + 1) (by omega) (by omega), cl, Bool.true_and]
        · rw [if_neg (show ¬ Op.bytesLess _ _ = true from cl), Bool.eq_false_iff.2 cl, Bool.false_and, Bool.false_and]
    · rw [if_neg cn, Bool.eq_false_iff.2 cn, Bool.false_and, Bool.false_and, Bool.false_and]
theorem dmay (k : Nat) (l : List S77) (hl : l.length ≤ 1000) (M : Nat) (hM : Named M l) (hk : M + 1000 < k) : dir_may.f k l = some (mayB l) := dmay_loop l hl M hM l.length k 0 (by omega) (by omega)
theorem may_srt {l : List S77} (h : mayB l = true) : Srt l ∧ l.length ≤ 100 := by
  unfold mayB at h
  rw [Bool.and_eq_true] at h
  refine ⟨?_, of_decide_eq_true h.2⟩
  have h1 : ∀ j (hj : j + 1 < l.length), ltN (l[j]).f0 (l[j + 1]).f0 = true := by
    intro j hj
    have h2 := List.all_eq_true.1 h.1 (j + 1) (List.mem_range'_1.2 ⟨by omega, by omega⟩)
    rw [Bool.and_eq_true, decide_eq_false (by omega), Bool.false_or, show j + 1 - 1 = j by omega, rdE (show j < l.length by omega), rdE hj] at h2
    exact h2.2
  refine List.pairwise_iff_getElem.2 fun i j hi hj hij => ?_
  obtain ⟨d, rfl⟩ : ∃ d, j = i + 1 + d := ⟨j - (i + 1), by omega⟩
  clear hij
  induction d with
  | zero => exact h1 i hj
  | succ d ih => exact bl_trans _ _ _ (ih (by omega)) (h1 (i + 1 + d) hj)

/-! ### the same -/
def eqx (x y : S77) : Bool := (x.f0.toList == y.f0.toList) && (x.f1 == y.f1)
def eqL : List S77 → List S77 → Bool
  | [], [] => true
  | x :: a, y :: b => eqx x y && eqL a b
  | _, _ => false
theorem eqL_len : ∀ {a b : List S77}, eqL a b = true → a.length = b.length
  | [], [], _ => rfl
  | _ :: a, _ :: b, h => by
    unfold eqL at h
    rw [Bool.and_eq_true] at h
    rw [List.length_cons, List.length_cons, eqL_len h.2]
  | [], _ :: _, h => by cases h
  | _ :: _, [], h => by cases h
theorem eqL_refl : ∀ a : List S77, eqL a a = true
  | [] => rfl
  | x :: a => by
    unfold eqL eqx
    rw [eqL_refl a]
    simp
theorem eqL_eq : ∀ {a b : List S77}, eqL a b = true → a = b
  | [], [], _ => rfl
  | x :: a, y :: b, h => by
    unfold eqL eqx at h
    rw [Bool.and_eq_true, Bool.and_eq_true, beq_iff_eq, beq_iff_eq] at h
    obtain ⟨⟨h1, h2⟩, h3⟩ := h
    rw [eqL_eq h3]
    obtain ⟨x0, x1⟩ := x
    obtain ⟨y0, y1⟩ := y
    rw [ByteArray.toList_eq, ByteArray.toList_eq] at h1
    have h4 : x0 = y0 := by
      cases x0 with | mk dx => cases y0 with | mk dy =>
      have h5 : dx.toList = dy.toList := h1
      rw [Array.toList_inj.1 h5]
    simp only at h2
    rw [h4, h2]
  | [], _ :: _, h => by cases h
  | _ :: _, [], h => by cases h
theorem ne_test (x y : S77) : ((!((x.f0.toList) == (y.f0.toList)) || (!((x.f1) == (y.f1)))) = true) ↔ ¬ eqx x y = true := by
  unfold eqx
  cases (x.f0.toList == y.f0.toList) <;> cases (x.f1 == y.f1) <;> simp
theorem deq_loop (a b : List S77) (hl : a.length ≤ 1000) (he : a.length = b.length) : ∀ (d k i : Nat), i + d = a.length → d < k → api_Entry_98.l0 k a b (a.length : Int) (i : Int) = some (eqL (a.drop i) (b.drop i)) := by
  intro d
  induction d with
  | zero =>
    intro k i hi hk
    obtain ⟨k, rfl⟩ : ∃ m, k = m + 1 := ⟨k - 1, by omega⟩
    simp only [api_Entry_98.l0]
    rw [if_neg (by omega), List.drop_of_length_le (by omega), List.drop_of_length_le (by omega)]
    rfl
  | succ d ih =>
    intro k i hi hk
    obtain ⟨k, rfl⟩ : ∃ m, k = m + 1 := ⟨k - 1, by omega⟩
    have hlt : i < a.length := by omega
    have hlb : i < b.length := by omega
    simp only [api_Entry_98.l0]
    rw [if_pos (show (i : Int) < (a.length : Int) by omega), if_pos (show 0 ≤ (i : Int) by omega), if_pos (show (i : Int) < (a.length : Int) by omega), if_pos (show (i : Int) < (b.length : Int) by omega), rdE hlt, rdE hlb, inc (by omega), List.drop_eq_getElem_cons hlt, List.drop_eq_getElem_cons hlb, eqL]
    by_cases c : eqx a[i] b[i] = true
    · rw [if_neg (fun h => (ne_test _ _).1 h c), ih k (i + 1) (by omega) (by omega), c, Bool.true_and]
    · rw [if_pos ((ne_test _ _).2 c), Bool.eq_false_iff.2 c, Bool.false_and]
theorem eqL_ne {a b : List S77} (h : a.length ≠ b.length) : eqL a b = false := by
  cases e : eqL a b with
  | false => rfl
  | true => exact absurd (eqL_len e) h
theorem deq (k : Nat) (a b : List S77) (hl : a.length ≤ 1000) (hk : 1000 < k) : api_Entry_98.f k a b = some (eqL a b) := by
  unfold api_Entry_98.f
  by_cases c : (a.length : Int) = (b.length : Int)
  · rw [if_pos c]
    exact deq_loop a b hl (by omega) a.length k 0 (by omega) (by omega)
  · rw [if_neg c, eqL_ne (by omega)]
theorem req_loop (a b : List S77) (hl : a.length ≤ 1000) (he : a.length = b.length) : ∀ (d k i : Nat), i + d = a.length → d < k → newsreelref10_Entries.l0 k a b (i : Int) = some (eqL (a.drop i) (b.drop i)) := by
  intro d
  induction d with
  | zero =>
    intro k i hi hk
    obtain ⟨k, rfl⟩ : ∃ m, k = m + 1 := ⟨k - 1, by omega⟩
    simp only [newsreelref10_Entries.l0]
    rw [if_neg (by omega), List.drop_of_length_le (by omega), List.drop_of_length_le (by omega)]
    rfl
  | succ d ih =>
    intro k i hi hk
    obtain ⟨k, rfl⟩ : ∃ m, k = m + 1 := ⟨k - 1, by omega⟩
    have hlt : i < a.length := by omega
    have hlb : i < b.length := by omega
    simp only [newsreelref10_Entries.l0]
    rw [if_pos (show (i : Int) < (a.length : Int) by omega), if_pos (show 0 ≤ (i : Int) by omega), if_pos (show (i : Int) < (b.length : Int) by omega), rdE hlt, rdE hlb, inc (by omega), List.drop_eq_getElem_cons hlt, List.drop_eq_getElem_cons hlb, eqL]
    by_cases c : eqx a[i] b[i] = true
    · rw [if_neg (fun h => (ne_test _ _).1 h c), ih k (i + 1) (by omega) (by omega), c, Bool.true_and]
    · rw [if_pos ((ne_test _ _).2 c), Bool.eq_false_iff.2 c, Bool.false_and]
theorem req (k : Nat) (a b : List S77) (hl : a.length ≤ 1000) (hk : 1000 < k) : newsreelref10_Entries.f k a b = some (eqL a b) := by
  unfold newsreelref10_Entries.f
  by_cases c : (a.length : Int) = (b.length : Int)
  · rw [if_pos c]
    exact req_loop a b hl (by omega) a.length k 0 (by omega) (by omega)
  · rw [if_neg c, eqL_ne (by omega)]

/-! ### is a directory right -/
def specRight (now sure : List S77) (pend : List S69) : Bool := mayB sure && ((specAll sure pend).2 && eqL (specAll sure pend).1 now)
theorem dall (k : Nat) (l : List S77) (ops : List S69) (ho : ops.length ≤ 1000) (M : Nat) (hM : ∀ op ∈ ops, Fit M op) (hk : M + 1000 < k) (hs : Srt l) (hl : l.length ≤ 100) : dir_all.f k l ops = some (specAll l ops) :=
  dall_loop ops ho M hM ops.length k 0 l (by omega) (by omega) hs hl
theorem rall (k : Nat) (l : List S77) (ops : List S69) (ho : ops.length ≤ 1000) (M : Nat) (hM : ∀ op ∈ ops, Fit M op) (hk : M + 4000 < k) (hs : Srt l) (hl : l.length ≤ 100) : newsreelref10_All.f k l ops = some (specAll l ops) :=
  rall_loop ops ho M hM ops.length k 0 l (by omega) (by omega) hs hl
theorem dright (k : Nat) (now sure : List S77) (pend : List S69) (hsu : sure.length ≤ 1000) (hp : pend.length ≤ 1000) (M : Nat) (hM : Named M sure) (hF : ∀ op ∈ pend, Fit M op) (hk : M + 5000 < k) : dir_Right.f k now sure pend = some (specRight now sure pend) := by
  unfold dir_Right.f specRight
  rw [dmay k sure hsu M hM (by omega), Option.bind_some]
  by_cases c : mayB sure = true
  · obtain ⟨hs, hl⟩ := may_srt c
    rw [if_pos c, c, Bool.true_and, dall k sure pend hp M hF (by omega) hs hl, Option.bind_some]
    by_cases c2 : (specAll sure pend).2 = true
    · rw [if_pos c2, c2, Bool.true_and, deq k _ _ (by have := (all_good pend hs hl).2; omega) (by omega)]
      rfl
    · rw [if_neg c2, Bool.eq_false_iff.2 c2, Bool.false_and]
  · rw [if_neg c, Bool.eq_false_iff.2 c, Bool.false_and]
theorem rright_loop (now sure : List S77) (pend : List S69) (hsu : sure.length ≤ 1000) (hp : pend.length ≤ 1000) (M : Nat) (hM : Named M sure) (hF : ∀ op ∈ pend, Fit M op) : ∀ (d k i : Nat), i + d = sure.length → (mayF sure i d = true → mayF sure 0 sure.length = true) → d + M + 5000 < k →
    newsreelref10_Right.l0 k (i : Int) now sure pend = some ((mayF sure i d && decide (sure.length ≤ 100)) && ((specAll sure pend).2 && eqL (specAll sure pend).1 now)) := by
  intro d
  induction d with
  | zero =>
    intro k i hi hm hk
    obtain ⟨k, rfl⟩ : ∃ m, k = m + 1 := ⟨k - 1, by omega⟩
    simp only [newsreelref10_Right.l0]
    rw [if_neg (by omega), show mayF sure i 0 = true from rfl, Bool.true_and]
    by_cases c : (sure.length : Int) > 100
    · rw [if_pos c, decide_eq_false (by omega), Bool.false_and]
    · have hb : mayB sure = true := by
        unfold mayB
        rw [hm rfl, decide_eq_true (by omega)]
        rfl
      obtain ⟨hs, hl⟩ := may_srt hb
      rw [if_neg c, decide_eq_true (by omega), Bool.true_and, rall k sure pend hp M hF (by omega) hs hl, Option.bind_some]
      by_cases c2 : (specAll sure pend).2 = true
      · rw [if_pos c2, c2, Bool.true_and, req k _ _ (by have := (all_good pend hs hl).2; omega) (by omega)]
        rfl
      · rw [if_neg c2, Bool.eq_false_iff.2 c2, Bool.false_and]
  | succ d ih =>
    intro k i hi hm hk
    obtain ⟨k, rfl⟩ : ∃ m, k = m + 1 := ⟨k - 1, by omega⟩
    have hlt : i < sure.length := by omega
    have hmm := hM _ (List.getElem_mem hlt)
    rw [mayF_succ, rdE hlt] at hm ⊢
    simp only [newsreelref10_Right.l0]
    rw [if_pos (show (i : Int) < (sure.length : Int) by omega), if_pos (show 0 ≤ (i : Int) by omega), rdE hlt, rname k _ hmm.1 (by omega), Option.bind_some, inc (by omega)]
    by_cases cn : nameOk (sure[i]).f0 = true
    · rw [cn, Bool.true_and] at hm
      rw [if_pos cn, cn, Bool.true_and]
      by_cases c0 : i = 0
      · subst c0
        rw [decide_eq_true rfl, Bool.true_or, Bool.true_and] at hm
        rw [if_neg (by omega), ih k 1 (by omega) hm (by omega), decide_eq_true rfl, Bool.true_or, Bool.true_and]
      · rw [decide_eq_false c0, Bool.false_or] at hm
        rw [if_pos (by omega), dec (by omega) (by omega), if_pos (by omega), if_pos (by omega), decide_eq_false c0, Bool.false_or]
        by_cases cl : ltN (rd_T77 sure ((i - 1 : Nat) : Int)).f0 (sure[i]).f0 = true
        · rw [cl, Bool.true_and] at hm
          rw [if_pos (show Op.bytesLess _ _ = true from cl), ih k (i + 1) (by omega) hm (by omega), cl, Bool.true_and]
        · rw [if_neg (show ¬ Op.bytesLess _ _ = true from cl), Bool.eq_false_iff.2 cl, Bool.false_and, Bool.false_and, Bool.false_and]
    · rw [if_neg cn, Bool.eq_false_iff.2 cn, Bool.false_and, Bool.false_and, Bool.false_and, Bool.false_and]
theorem rright (k : Nat) (now sure : List S77) (pend : List S69) (hsu : sure.length ≤ 1000) (hp : pend.length ≤ 1000) (M : Nat) (hM : Named M sure) (hF : ∀ op ∈ pend, Fit M op) (hk : M + 7000 < k) : newsreelref10_Right.f k now sure pend = some (specRight now sure pend) :=
  rright_loop now sure pend hsu hp M hM hF sure.length k 0 (by omega) (fun h => h) (by omega)
theorem right_spec {now sure : List S77} {pend : List S69} (h : specRight now sure pend = true) : Srt sure ∧ sure.length ≤ 100 ∧ specAll sure pend = (now, true) ∧ Srt now ∧ now.length ≤ 100 := by
  unfold specRight at h
  rw [Bool.and_eq_true, Bool.and_eq_true] at h
  obtain ⟨h1, h2, h3⟩ := h
  obtain ⟨hs, hl⟩ := may_srt h1
  have e := eqL_eq h3
  have hg := all_good pend hs hl
  rw [e] at hg
  exact ⟨hs, hl, Prod.ext e h2, hg.1, hg.2⟩
end Go.Proofs.Ytkkikdjfigffhab.XDir
