/- What is next, and when: the functions of layer 43 and the reference's, told by lists; for both of its laws. -/
import Derived.Test.YtkkikdjfigffhaaXPitx4
import Derived.Test.YtkkikdjfigffhaaXPitx7
import Derived.Test.YtkkikdjfigffhaaXPitx9
import Derived.Test.YtkkikdjfigffhaaXPitx10
import Derived.Test.YtkkikdjfigffhaaXPitx11
namespace Go.Proofs.Ytkkikdjfigffhaa.XPit
open Go.RowKit Go.Proofs.YtkkikdjfigffhaaW.PrintWords Go.Proofs.YtkkikdjfigffhaaW.PrintLast Go.Proofs.YtkkikdjfigffhaaW.PrintMore

theorem wrap_in {i : Int} (h0 : -9223372036854775808 ≤ i) (h : i < 9223372036854775808) : wrap64 i = i := by
  unfold wrap64; omega
theorem inc {i : Nat} (h : i < 1000000) : wrap64 ((i : Int) + 1) = ((i + 1 : Nat) : Int) := by
  rw [wrap_in (by omega) (by omega)]; omega
theorem rd66 {l : List S66} {i : Nat} (h : i < l.length) : rd_T66 l (i : Int) = l[i] := by
  unfold rd_T66
  rw [Int.toNat_natCast, List.getD_eq_getElem?_getD, List.getElem?_eq_getElem h]
  rfl
theorem rd68 {l : List S68} {i : Nat} (h : i < l.length) : rd_T68 l (i : Int) = l[i] := by
  unfold rd_T68
  rw [Int.toNat_natCast, List.getD_eq_getElem?_getD, List.getElem?_eq_getElem h]
  rfl
theorem rdI {l : List Int} {i : Nat} (h : i < l.length) : rd l (i : Int) = l[i] := by
  unfold rd
  rw [Int.toNat_natCast, List.getD_eq_getElem?_getD, List.getElem?_eq_getElem h]
  rfl

/-! ### light -/
theorem short_some (a b : Int) (c d : ByteArray) (e : Int) : ∃ r, newsreelref14_Short.f a c d b e = some r := by
  unfold newsreelref14_Short.f
  split
  · exact ⟨_, rfl⟩
  · exact ⟨_, rfl⟩
theorem shortEp_some (x : S68) : ∃ r, newsreelref14_ShortEp.f x.f0 x.f1 x.f2 x.f3 x.f4 x.f5 x.f6 x.f7 x.f8 x.f9 x.f10 x.f11 x.f12 x.f13 x.f14 x.f15 x.f16 x.f17 x.f18 x.f19 = some r := by
  unfold newsreelref14_ShortEp.f
  repeat' split
  all_goals exact ⟨_, rfl⟩
theorem light_l1 (a b c d : Int) (l4 : List S66) (l5 : List S68) (h5 : l5.length ≤ 34) : ∀ (n k i : Nat), i + n = l5.length → n < k → ∃ r, newsreelref15_Light.l1 k (i : Int) a b c d l4 l5 = some r := by
  intro n
  induction n with
  | zero =>
    intro k i hi hk
    obtain ⟨k, rfl⟩ : ∃ m, k = m + 1 := ⟨k - 1, by omega⟩
    simp only [newsreelref15_Light.l1]
    rw [if_neg (by omega)]
    exact ⟨_, rfl⟩
  | succ n ih =>
    intro k i hi hk
    obtain ⟨k, rfl⟩ : ∃ m, k = m + 1 := ⟨k - 1, by omega⟩
    obtain ⟨r, hr⟩ := shortEp_some (rd_T68 l5 (i : Int))
    obtain ⟨q, hq⟩ := ih k (i + 1) (by omega) (by omega)
    simp only [newsreelref15_Light.l1]
    rw [if_pos (show (i : Int) < (l5.length : Int) by omega), if_pos (show 0 ≤ (i : Int) by omega), hr, Option.bind_some, inc (by omega), hq]
    cases r
    · exact ⟨_, rfl⟩
    · exact ⟨_, rfl⟩
theorem light_l0 (a b c d : Int) (l4 : List S66) (l5 : List S68) (h4 : l4.length ≤ 6) (h5 : l5.length ≤ 34) : ∀ (n k i : Nat), i + n = l4.length → n + 40 < k → ∃ r, newsreelref15_Light.l0 k (i : Int) a b c d l4 l5 = some r := by
  intro n
  induction n with
  | zero =>
    intro k i hi hk
    obtain ⟨k, rfl⟩ : ∃ m, k = m + 1 := ⟨k - 1, by omega⟩
    simp only [newsreelref15_Light.l0]
    rw [if_neg (by omega)]
    exact light_l1 a b c d l4 l5 h5 l5.length k 0 (by omega) (by omega)
  | succ n ih =>
    intro k i hi hk
    obtain ⟨k, rfl⟩ : ∃ m, k = m + 1 := ⟨k - 1, by omega⟩
    obtain ⟨r, hr⟩ := short_some (rd_T66 l4 (i : Int)).f0 (rd_T66 l4 (i : Int)).f3 (rd_T66 l4 (i : Int)).f1 (rd_T66 l4 (i : Int)).f2 (rd_T66 l4 (i : Int)).f4
    obtain ⟨q, hq⟩ := ih k (i + 1) (by omega) (by omega)
    simp only [newsreelref15_Light.l0]
    rw [if_pos (show (i : Int) < (l4.length : Int) by omega), if_pos (show 0 ≤ (i : Int) by omega), hr, Option.bind_some, inc (by omega), hq]
    cases r
    · exact ⟨_, rfl⟩
    · exact ⟨_, rfl⟩
theorem light_law (k : Nat) (hk : 100 ≤ k) (a b c d : Int) (l4 : List S66) (l5 : List S68) : ∃ r, newsreelref15_Light.f k a b c d l4 l5 = some r ∧ (r = true → l4.length ≤ 6 ∧ l5.length ≤ 34) := by
  obtain ⟨k, rfl⟩ : ∃ m, k = m + 1 := ⟨k - 1, by omega⟩
  unfold newsreelref15_Light.f
  by_cases h4 : (l4.length : Int) > 6
  · rw [if_pos h4]
    exact ⟨false, rfl, fun h => by cases h⟩
  · rw [if_neg h4]
    by_cases h5 : (l5.length : Int) > 34
    · rw [decide_eq_true h5]
      exact ⟨false, rfl, fun h => by cases h⟩
    · rw [decide_eq_false h5]
      obtain ⟨r, hr⟩ := light_l0 a b c d l4 l5 (by omega) (by omega) l4.length k 0 (by omega) (by omega)
      exact ⟨r, hr, fun _ => ⟨by omega, by omega⟩⟩

/-! ### the feed that is due -/
def lessF (x y : S66) : Prop := x.f3 < y.f3 ∨ x.f3 = y.f3 ∧ x.f0 < y.f0
def fstep (now : Int) (p : S66 × Bool) (x : S66) : S66 × Bool :=
  if x.f3 > now then p else if p.2 = true then (if x.f3 < p.1.f3 then (x, true) else if x.f3 = p.1.f3 then (if x.f0 < p.1.f0 then (x, true) else p) else p) else (x, true)
theorem feed_loop (l : List S66) (hl : l.length ≤ 6) (now : Int) : ∀ (d k i : Nat) (p : S66 × Bool), i + d = l.length → d < k →
    pick_feed.l0 k now p.2 l (l.length : Int) (i : Int) p.1.f0 p.1.f1 p.1.f2 p.1.f3 p.1.f4 = some (((l.drop i).foldl (fstep now) p).1.f0, ((l.drop i).foldl (fstep now) p).1.f1, ((l.drop i).foldl (fstep now) p).1.f2, ((l.drop i).foldl (fstep now) p).1.f3, ((l.drop i).foldl (fstep now) p).1.f4, ((l.drop i).foldl (fstep now) p).2) := by
  intro d
  induction d with
  | zero =>
    intro k i p hi hk
    obtain ⟨k, rfl⟩ : ∃ m, k = m + 1 := ⟨k - 1, by omega⟩
    simp only [pick_feed.l0]
    rw [if_neg (by omega), List.drop_of_length_le (by omega)]
    rfl
  | succ d ih =>
    intro k i p hi hk
    obtain ⟨k, rfl⟩ : ∃ m, k = m + 1 := ⟨k - 1, by omega⟩
    have hlt : i < l.length := by omega
    rw [List.drop_eq_getElem_cons hlt, List.foldl_cons]
    simp only [pick_feed.l0]
    rw [if_pos (show (i : Int) < (l.length : Int) by omega), if_pos (show 0 ≤ (i : Int) by omega), if_pos (show (i : Int) < (l.length : Int) by omega), inc (by omega), rd66 hlt]
    obtain ⟨b, s⟩ := p
    have h1 := ih k (i + 1) (b, s) (by omega) (by omega)
    have h2 := ih k (i + 1) (l[i], true) (by omega) (by omega)
    simp only at h1 h2 ⊢
    by_cases c1 : (l[i]).f3 > now
    · rw [if_pos c1, show fstep now (b, s) l[i] = (b, s) by unfold fstep; rw [if_pos c1]]
      exact h1
    · rw [if_neg c1]
      cases s with
      | false =>
        rw [if_neg (by simp), show fstep now (b, false) l[i] = (l[i], true) by unfold fstep; rw [if_neg c1, if_neg (by simp)]]
        exact h2
      | true =>
        rw [if_pos rfl]
        by_cases c2 : (l[i]).f3 < b.f3
        · rw [if_pos c2, show fstep now (b, true) l[i] = (l[i], true) by unfold fstep; rw [if_neg c1, if_pos rfl, if_pos c2]]
          exact h2
        · rw [if_neg c2]
          by_cases c3 : (l[i]).f3 = b.f3
          · rw [if_pos c3]
            by_cases c4 : (l[i]).f0 < b.f0
            · rw [if_pos c4, show fstep now (b, true) l[i] = (l[i], true) by unfold fstep; rw [if_neg c1, if_pos rfl, if_neg c2, if_pos c3, if_pos c4]]
              exact h2
            · rw [if_neg c4, show fstep now (b, true) l[i] = (b, true) by unfold fstep; rw [if_neg c1, if_pos rfl, if_neg c2, if_pos c3, if_neg c4]]
              exact h1
          · rw [if_neg c3, show fstep now (b, true) l[i] = (b, true) by unfold fstep; rw [if_neg c1, if_pos rfl, if_neg c2, if_neg c3]]
            exact h1
def InvF (now : Int) (seen : List S66) (p : S66 × Bool) : Prop :=
  (p.2 = false ∧ ∀ x ∈ seen, now < x.f3) ∨ (p.2 = true ∧ p.1 ∈ seen ∧ p.1.f3 ≤ now ∧ ∀ x ∈ seen, x.f3 ≤ now → ¬ lessF x p.1)
theorem invF_step (now : Int) (seen : List S66) (p : S66 × Bool) (x : S66) (h : InvF now seen p) : InvF now (seen ++ [x]) (fstep now p x) := by
  unfold fstep
  by_cases c1 : x.f3 > now
  · rw [if_pos c1]
    rcases h with ⟨h1, h2⟩ | ⟨h1, h2, h3, h4⟩
    · refine Or.inl ⟨h1, fun y hy => ?_⟩
      rcases List.mem_append.1 hy with hy | hy
      · exact h2 y hy
      · rw [List.mem_singleton.1 hy]; omega
    · refine Or.inr ⟨h1, List.mem_append_left _ h2, h3, fun y hy hd => ?_⟩
      rcases List.mem_append.1 hy with hy | hy
      · exact h4 y hy hd
      · rw [List.mem_singleton.1 hy] at hd; omega
  · rw [if_neg c1]
    have hnew : (∀ y ∈ seen, y.f3 ≤ now → ¬ lessF y x) → InvF now (seen ++ [x]) (x, true) := by
      intro hh
      refine Or.inr ⟨rfl, List.mem_append_right _ (List.mem_singleton.2 rfl), by show x.f3 ≤ now; omega, fun y hy hd => ?_⟩
      rcases List.mem_append.1 hy with hy | hy
      · exact hh y hy hd
      · rw [List.mem_singleton.1 hy]
        show ¬ lessF x x
        unfold lessF
        omega
    rcases h with ⟨h1, h2⟩ | ⟨h1, h2, h3, h4⟩
    · rw [if_neg (by rw [h1]; simp)]
      exact hnew fun y hy hd => by have := h2 y hy; omega
    · rw [if_pos h1]
      have hold : ¬ lessF x p.1 → InvF now (seen ++ [x]) p := by
        intro hh
        refine Or.inr ⟨h1, List.mem_append_left _ h2, h3, fun y hy hd => ?_⟩
        rcases List.mem_append.1 hy with hy | hy
        · exact h4 y hy hd
        · rw [List.mem_singleton.1 hy]; exact hh
      have htr : lessF x p.1 → InvF now (seen ++ [x]) (x, true) := by
        intro hh
        refine hnew fun y hy hd hl => ?_
        have h5 := h4 y hy hd
        unfold lessF at h5 hh hl
        omega
      by_cases c2 : x.f3 < p.1.f3
      · rw [if_pos c2]; exact htr (Or.inl c2)
      · rw [if_neg c2]
        by_cases c3 : x.f3 = p.1.f3
        · rw [if_pos c3]
          by_cases c4 : x.f0 < p.1.f0
          · rw [if_pos c4]; exact htr (Or.inr ⟨c3, c4⟩)
          · rw [if_neg c4]; exact hold (by unfold lessF; omega)
        · rw [if_neg c3]; exact hold (by unfold lessF; omega)
theorem invF_fold (now : Int) : ∀ (l seen : List S66) (p : S66 × Bool), InvF now seen p → InvF now (seen ++ l) (l.foldl (fstep now) p)
  | [], seen, p, h => by rw [List.append_nil]; exact h
  | x :: l, seen, p, h => by
    have := invF_fold now l (seen ++ [x]) (fstep now p x) (invF_step now seen p x h)
    rw [List.append_assoc] at this
    exact this
theorem invF_all (now : Int) (l : List S66) : InvF now l (l.foldl (fstep now) (z66, false)) :=
  invF_fold now l [] (z66, false) (Or.inl ⟨rfl, fun _ h => by cases h⟩)

/-! ### the episode that is due -/
def waitsP (x : S68) : Prop := x.f7 = 1 ∨ x.f7 = 2
instance (x : S68) : Decidable (waitsP x) := inferInstanceAs (Decidable (x.f7 = 1 ∨ x.f7 = 2))
def dueE (now : Int) (x : S68) : Prop := waitsP x ∧ x.f12 ≤ now
instance (now : Int) (x : S68) : Decidable (dueE now x) := inferInstanceAs (Decidable (waitsP x ∧ x.f12 ≤ now))
theorem waits_law (x : S68) : pick_waits.f x.f0 x.f1 x.f2 x.f3 x.f4 x.f5 x.f6 x.f7 x.f8 x.f9 x.f10 x.f11 x.f12 x.f13 x.f14 x.f15 x.f16 x.f17 x.f18 x.f19 = some (decide (waitsP x)) := by
  unfold pick_waits.f
  by_cases h : x.f7 = 1
  · rw [if_pos h, decide_eq_true (show waitsP x from Or.inl h)]
  · rw [if_neg h]
    by_cases h2 : x.f7 = 2
    · rw [decide_eq_true (show waitsP x from Or.inr h2), h2]; rfl
    · rw [decide_eq_false (show ¬ waitsP x from fun hh => hh.elim h h2), beq_eq_false_iff_ne.2 h2]
theorem refWaits_law (x : S68) : newsreelref43_Waits.f x.f0 x.f1 x.f2 x.f3 x.f4 x.f5 x.f6 x.f7 x.f8 x.f9 x.f10 x.f11 x.f12 x.f13 x.f14 x.f15 x.f16 x.f17 x.f18 x.f19 = some (decide (waitsP x)) := by
  unfold newsreelref43_Waits.f
  by_cases h : x.f7 = 1
  · rw [if_pos h, decide_eq_true (show waitsP x from Or.inl h)]
  · rw [if_neg h]
    by_cases h2 : x.f7 = 2
    · rw [decide_eq_true (show waitsP x from Or.inr h2), h2]; rfl
    · rw [decide_eq_false (show ¬ waitsP x from fun hh => hh.elim h h2), beq_eq_false_iff_ne.2 h2]
def estep (now : Int) (p : Int × Bool) (x : S68) : Int × Bool :=
  if dueE now x then (if p.2 = true then (if x.f0 < p.1 then (x.f0, true) else p) else (x.f0, true)) else p
theorem eps_loop (l : List S68) (hl : l.length ≤ 34) (now : Int) : ∀ (d k i : Nat) (p : Int × Bool), i + d = l.length → d < k →
    pick_Of.l0 k now p.1 p.2 l (l.length : Int) (i : Int) = some (if ((l.drop i).foldl (estep now) p).2 = true then (2, ((l.drop i).foldl (estep now) p).1, true) else (0, 0, false)) := by
  intro d
  induction d with
  | zero =>
    intro k i p hi hk
    obtain ⟨k, rfl⟩ : ∃ m, k = m + 1 := ⟨k - 1, by omega⟩
    simp only [pick_Of.l0]
    rw [if_neg (by omega), List.drop_of_length_le (by omega)]
    obtain ⟨b, s⟩ := p
    cases s
    · rfl
    · rfl
  | succ d ih =>
    intro k i p hi hk
    obtain ⟨k, rfl⟩ : ∃ m, k = m + 1 := ⟨k - 1, by omega⟩
    have hlt : i < l.length := by omega
    rw [List.drop_eq_getElem_cons hlt, List.foldl_cons]
    simp only [pick_Of.l0]
    rw [if_pos (show (i : Int) < (l.length : Int) by omega), if_pos (show 0 ≤ (i : Int) by omega), if_pos (show (i : Int) < (l.length : Int) by omega), inc (by omega), rd68 hlt, waits_law, Option.bind_some]
    obtain ⟨b, s⟩ := p
    have h1 := ih k (i + 1) (b, s) (by omega) (by omega)
    have h2 := ih k (i + 1) ((l[i]).f0, true) (by omega) (by omega)
    simp only at h1 h2 ⊢
    by_cases c1 : waitsP l[i]
    · rw [if_pos (decide_eq_true c1)]
      by_cases c2 : (l[i]).f12 ≤ now
      · rw [if_pos c2]
        cases s with
        | false =>
          rw [if_neg (by simp), show estep now (b, false) l[i] = ((l[i]).f0, true) by unfold estep; rw [if_pos ⟨c1, c2⟩, if_neg (by simp)]]
          exact h2
        | true =>
          rw [if_pos rfl]
          by_cases c3 : (l[i]).f0 < b
          · rw [if_pos c3, show estep now (b, true) l[i] = ((l[i]).f0, true) by unfold estep; rw [if_pos ⟨c1, c2⟩, if_pos rfl, if_pos c3]]
            exact h2
          · rw [if_neg c3, show estep now (b, true) l[i] = (b, true) by unfold estep; rw [if_pos ⟨c1, c2⟩, if_pos rfl, if_neg c3]]
            exact h1
      · rw [if_neg c2, show estep now (b, s) l[i] = (b, s) by unfold estep; rw [if_neg (fun h => c2 h.2)]]
        exact h1
    · rw [if_neg (by simpa using c1), show estep now (b, s) l[i] = (b, s) by unfold estep; rw [if_neg (fun h => c1 h.1)]]
      exact h1
def InvE (now : Int) (seen : List S68) (p : Int × Bool) : Prop :=
  (p.2 = false ∧ ∀ x ∈ seen, ¬ dueE now x) ∨ (p.2 = true ∧ (∃ x ∈ seen, dueE now x ∧ x.f0 = p.1) ∧ ∀ x ∈ seen, dueE now x → p.1 ≤ x.f0)
theorem invE_step (now : Int) (seen : List S68) (p : Int × Bool) (x : S68) (h : InvE now seen p) : InvE now (seen ++ [x]) (estep now p x) := by
  unfold estep
  by_cases c1 : dueE now x
  · rw [if_pos c1]
    have hnew : (∀ y ∈ seen, dueE now y → x.f0 ≤ y.f0) → InvE now (seen ++ [x]) (x.f0, true) := by
      intro hh
      refine Or.inr ⟨rfl, ⟨x, List.mem_append_right _ (List.mem_singleton.2 rfl), c1, rfl⟩, fun y hy hd => ?_⟩
      rcases List.mem_append.1 hy with hy | hy
      · exact hh y hy hd
      · rw [List.mem_singleton.1 hy]; exact Int.le_refl _
    rcases h with ⟨h1, h2⟩ | ⟨h1, ⟨y, hy, hy1, hy2⟩, h4⟩
    · rw [if_neg (by rw [h1]; simp)]
      exact hnew fun y hy hd => absurd hd (h2 y hy)
    · rw [if_pos h1]
      by_cases c2 : x.f0 < p.1
      · rw [if_pos c2]
        exact hnew fun z hz hd => by have := h4 z hz hd; omega
      · rw [if_neg c2]
        refine Or.inr ⟨h1, ⟨y, List.mem_append_left _ hy, hy1, hy2⟩, fun z hz hd => ?_⟩
        rcases List.mem_append.1 hz with hz | hz
        · exact h4 z hz hd
        · rw [List.mem_singleton.1 hz]; omega
  · rw [if_neg c1]
    rcases h with ⟨h1, h2⟩ | ⟨h1, ⟨y, hy, hy1, hy2⟩, h4⟩
    · refine Or.inl ⟨h1, fun y hy => ?_⟩
      rcases List.mem_append.1 hy with hy | hy
      · exact h2 y hy
      · rw [List.mem_singleton.1 hy]; exact c1
    · refine Or.inr ⟨h1, ⟨y, List.mem_append_left _ hy, hy1, hy2⟩, fun z hz hd => ?_⟩
      rcases List.mem_append.1 hz with hz | hz
      · exact h4 z hz hd
      · rw [List.mem_singleton.1 hz] at hd; exact absurd hd c1
theorem invE_fold (now : Int) : ∀ (l seen : List S68) (p : Int × Bool), InvE now seen p → InvE now (seen ++ l) (l.foldl (estep now) p)
  | [], seen, p, h => by rw [List.append_nil]; exact h
  | x :: l, seen, p, h => by
    have := invE_fold now l (seen ++ [x]) (estep now p x) (invE_step now seen p x h)
    rw [List.append_assoc] at this
    exact this
theorem invE_all (now : Int) (l : List S68) : InvE now l (l.foldl (estep now) (0, false)) :=
  invE_fold now l [] (0, false) (Or.inl ⟨rfl, fun _ h => by cases h⟩)

/-! ### what is next -/
/-- What is next: told by what there is. -/
def OfSpec (now : Int) (l4 : List S66) (l5 : List S68) (r : Int × Int × Bool) : Prop :=
  (∃ b ∈ l4, b.f3 ≤ now ∧ (∀ x ∈ l4, x.f3 ≤ now → ¬ lessF x b) ∧ r = (1, b.f0, true)) ∨
  ((∀ x ∈ l4, now < x.f3) ∧ (∃ x ∈ l5, dueE now x ∧ (∀ y ∈ l5, dueE now y → x.f0 ≤ y.f0) ∧ r = (2, x.f0, true))) ∨
  ((∀ x ∈ l4, now < x.f3) ∧ (∀ y ∈ l5, ¬ dueE now y) ∧ r = (0, 0, false))
theorem ofspec_one {now : Int} {l4 : List S66} {l5 : List S68} {r s : Int × Int × Bool} (h : OfSpec now l4 l5 r) (g : OfSpec now l4 l5 s) : r = s := by
  rcases h with ⟨b, hb, hd, hm, rfl⟩ | ⟨hn, x, hx, hd, hm, rfl⟩ | ⟨hn, hx, rfl⟩
  · rcases g with ⟨c, hc, hd2, hm2, rfl⟩ | ⟨hn, _⟩ | ⟨hn, _⟩
    · have h1 := hm c hc hd2
      have h2 := hm2 b hb hd
      unfold lessF at h1 h2
      rw [show b.f0 = c.f0 by omega]
    · have := hn b hb; omega
    · have := hn b hb; omega
  · rcases g with ⟨c, hc, hd2, _⟩ | ⟨_, y, hy, hd2, hm2, rfl⟩ | ⟨_, hn2, _⟩
    · have := hn c hc; omega
    · have h1 := hm y hy hd2
      have h2 := hm2 x hx hd
      rw [show x.f0 = y.f0 by omega]
    · exact absurd hd (hn2 x hx)
  · rcases g with ⟨c, hc, hd2, _⟩ | ⟨_, y, hy, hd2, _⟩ | ⟨_, _, rfl⟩
    · have := hn c hc; omega
    · exact absurd hd2 (hx y hy)
    · rfl
theorem of_law (k : Nat) (hk : 100 ≤ k) (a b c d now : Int) (l4 : List S66) (l5 : List S68) (h4 : l4.length ≤ 6) (h5 : l5.length ≤ 34) : ∃ r, pick_Of.f k a b c d l4 l5 now = some r ∧ OfSpec now l4 l5 r := by
  have e1 := feed_loop l4 h4 now l4.length k 0 (z66, false) (by omega) (by omega)
  have e2 := eps_loop l5 h5 now l5.length k 0 (0, false) (by omega) (by omega)
  rw [List.drop_zero] at e1 e2
  have i1 := invF_all now l4
  have i2 := invE_all now l5
  have e1' : pick_feed.f k a b c d l4 l5 now = _ := e1
  unfold pick_Of.f
  rw [e1', Option.bind_some]
  generalize l4.foldl (fstep now) (z66, false) = p at i1
  obtain ⟨p, s⟩ := p
  rcases i1 with ⟨h1, h2⟩ | ⟨h1, h2, h3, h6⟩
  · have h1 : s = false := h1
    subst h1
    rw [if_neg Bool.false_ne_true]
    refine ⟨_, e2, ?_⟩
    generalize l5.foldl (estep now) (0, false) = q at i2
    obtain ⟨q, t⟩ := q
    rcases i2 with ⟨h3, h6⟩ | ⟨h3, ⟨x, hx, hx1, hx2⟩, h6⟩
    · have h3 : t = false := h3
      subst h3
      exact Or.inr (Or.inr ⟨h2, h6, rfl⟩)
    · have h3 : t = true := h3
      subst h3
      have hx2 : x.f0 = q := hx2
      subst hx2
      exact Or.inr (Or.inl ⟨h2, x, hx, hx1, h6, rfl⟩)
  · have h1 : s = true := h1
    subst h1
    exact ⟨_, rfl, Or.inl ⟨p, h2, h3, h6, rfl⟩⟩

/-! ### the reference's -/
def times (l4 : List S66) (l5 : List S68) : List Int := l4.map (fun x => x.f3) ++ (l5.filter fun x => decide (waitsP x)).map (fun x => x.f12)
def whenV (l : List Int) : Int × Bool := l.foldl pick_When.tk (0, false)
theorem te_fold : ∀ (l : List S68) (p : Int × Bool), l.foldl pick_When.te p = ((l.filter fun x => decide (waitsP x)).map (fun x => x.f12)).foldl pick_When.tk p
  | [], _ => rfl
  | x :: l, p => by
    rw [List.foldl_cons, te_fold l, List.filter_cons]
    unfold pick_When.te
    by_cases h : waitsP x
    · rw [if_pos (show x.f7 = 1 ∨ x.f7 = 2 from h), if_pos (decide_eq_true h), List.map_cons, List.foldl_cons]
    · rw [if_neg (show ¬ (x.f7 = 1 ∨ x.f7 = 2) from h), if_neg (by simpa using h)]
theorem when_law (a b c d : Int) (l4 : List S66) (l5 : List S68) : pick_When.f a b c d l4 l5 = some (whenV (times l4 l5)) := by
  unfold pick_When.f pick_When.all whenV times
  rw [List.foldl_append, te_fold, List.foldl_map (f := fun x : S66 => x.f3)]
theorem tk_mn (a n : Int) : pick_When.tk (a, true) n = (mn a n, true) := by
  unfold pick_When.tk mn
  by_cases h : n < a
  · rw [if_pos (Or.inr h), if_pos h]
  · rw [if_neg (fun hh => hh.elim (fun h => by cases h) h), if_neg h]
theorem tk_fold : ∀ (l : List Int) (a : Int), l.foldl pick_When.tk (a, true) = (l.foldl mn a, true)
  | [], _ => rfl
  | x :: l, a => by rw [List.foldl_cons, tk_mn, tk_fold l]; rfl
theorem whenV_cons (x : Int) (l : List Int) : whenV (x :: l) = ((x :: l).foldl mn x, true) := by
  unfold whenV
  rw [List.foldl_cons, List.foldl_cons, show pick_When.tk (0, false) x = (x, true) by unfold pick_When.tk; rw [if_pos (Or.inl rfl)], show mn x x = x by unfold mn; rw [if_neg (by omega)], tk_fold]
theorem mn_least : ∀ (l : List Int) (a : Int), (l.foldl mn a = a ∨ l.foldl mn a ∈ l) ∧ l.foldl mn a ≤ a ∧ ∀ x ∈ l, l.foldl mn a ≤ x
  | [], a => ⟨Or.inl rfl, Int.le_refl _, fun _ h => by cases h⟩
  | x :: l, a => by
    obtain ⟨h1, h2, h3⟩ := mn_least l (mn a x)
    rw [List.foldl_cons]
    have h4 : mn a x = a ∨ mn a x = x := by unfold mn; split <;> simp
    have h5 : mn a x ≤ a ∧ mn a x ≤ x := by unfold mn; split <;> omega
    refine ⟨?_, by omega, fun y hy => ?_⟩
    · rcases h1 with h | h
      · rcases h4 with g | g
        · exact Or.inl (by rw [h, g])
        · exact Or.inr (by rw [h, g]; exact List.mem_cons_self)
      · exact Or.inr (List.mem_cons_of_mem _ h)
    · rcases List.mem_cons.1 hy with e | hy
      · rw [e]; omega
      · exact h3 y hy
theorem whenV_spec (l : List Int) (now : Int) : ((whenV l).2 = true ∧ (whenV l).1 ≤ now) ↔ ∃ t ∈ l, t ≤ now := by
  cases l with
  | nil => exact ⟨fun h => (by cases h.1), fun ⟨_, h, _⟩ => (by cases h)⟩
  | cons x l =>
    rw [whenV_cons]
    obtain ⟨h1, h2, h3⟩ := mn_least (x :: l) x
    constructor
    · intro h
      have h : (x :: l).foldl mn x ≤ now := h.2
      rcases h1 with e | e
      · exact ⟨x, List.mem_cons_self, by omega⟩
      · exact ⟨_, e, h⟩
    · rintro ⟨t, ht, hn⟩
      exact ⟨rfl, by have := h3 t ht; show (x :: l).foldl mn x ≤ now; omega⟩
theorem times_due (l4 : List S66) (l5 : List S68) (now : Int) : (∃ t ∈ times l4 l5, t ≤ now) ↔ (∃ x ∈ l4, x.f3 ≤ now) ∨ ∃ x ∈ l5, dueE now x := by
  unfold times
  constructor
  · rintro ⟨t, ht, hn⟩
    rcases List.mem_append.1 ht with h | h
    · obtain ⟨x, hx, rfl⟩ := List.mem_map.1 h
      exact Or.inl ⟨x, hx, hn⟩
    · obtain ⟨x, hx, rfl⟩ := List.mem_map.1 h
      obtain ⟨hx, hw⟩ := List.mem_filter.1 hx
      exact Or.inr ⟨x, hx, of_decide_eq_true hw, hn⟩
  · rintro (⟨x, hx, hn⟩ | ⟨x, hx, hw, hn⟩)
    · exact ⟨x.f3, List.mem_append_left _ (List.mem_map.2 ⟨x, hx, rfl⟩), hn⟩
    · exact ⟨x.f12, List.mem_append_right _ (List.mem_map.2 ⟨x, List.mem_filter.2 ⟨hx, decide_eq_true hw⟩, rfl⟩), hn⟩
theorem awake_300 : newsreellaw43_awake.f 300 = some true := by kernel_rfl
theorem awake_true {k : Nat} (h : 300 ≤ k) : newsreellaw43_awake.f k = some true := at_rounds newsreellaw43_awake.mono h awake_300
end Go.Proofs.Ytkkikdjfigffhaa.XPit
