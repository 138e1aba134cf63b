/- Something is to be done just from when it is told on; what is told is there, and is to be done; and no feed is due, if it is an episode: for every state and time. -/
import Derived.Test.YtkkikdjfigffhaaXPitTellPickWhen
import Derived.Test.YtkkikdjfigffhaaXPitBaseW
namespace Go.Proofs.Ytkkikdjfigffhaa.XPit
open Go.RowKit Go.Proofs.YtkkikdjfigffhaaW.PrintWords Go.Proofs.YtkkikdjfigffhaaW.PrintLast Go.Proofs.YtkkikdjfigffhaaW.PrintMore

theorem when_l1_true (a b c d now kind id : Int) (l4 : List S66) (l5 : List S68) (h5 : l5.length ≤ 34) : ∀ (n k i : Nat) (fl : Bool), i + n = l5.length → n + 300 < k →
    (fl = true ∨ kind = 2 ∧ ∃ x ∈ l5.drop i, x.f0 = id ∧ dueE now x) → newsreellaw43_PickWhen.l1 k now fl (i : Int) a b c d l4 l5 kind id = some true := by
  intro n
  induction n with
  | zero =>
    intro k i fl hi hk hh
    obtain ⟨k, rfl⟩ : ∃ m, k = m + 1 := ⟨k - 1, by omega⟩
    rw [List.drop_of_length_le (by omega)] at hh
    have hfl : fl = true := by
      rcases hh with h | ⟨_, x, hx, _⟩
      · exact h
      · cases hx
    subst hfl
    simp only [newsreellaw43_PickWhen.l1]
    rw [if_neg (by omega), if_pos trivial, awake_true (by omega)]
    rfl
  | succ n ih =>
    intro k i fl hi hk hh
    obtain ⟨k, rfl⟩ : ∃ m, k = m + 1 := ⟨k - 1, by omega⟩
    have hlt : i < l5.length := by omega
    simp only [newsreellaw43_PickWhen.l1]
    rw [if_pos (show (i : Int) < (l5.length : Int) by omega), if_pos (show 0 ≤ (i : Int) by omega), inc (by omega), rd68 hlt]
    cases fl with
    | true =>
      rw [if_pos rfl]
      exact ih k (i + 1) true (by omega) (by omega) (Or.inl rfl)
    | false =>
      rw [if_neg Bool.false_ne_true]
      rw [List.drop_eq_getElem_cons hlt] at hh
      obtain ⟨hk2, x, hx, hx0, hxd⟩ : kind = 2 ∧ ∃ x ∈ l5[i] :: l5.drop (i + 1), x.f0 = id ∧ dueE now x := by
        rcases hh with h | h
        · cases h
        · exact h
      rw [if_pos hk2]
      have hnext : ∀ fl, (l5[i] ≠ x ∨ fl = true) → newsreellaw43_PickWhen.l1 k now fl ((i + 1 : Nat) : Int) a b c d l4 l5 kind id = some true := by
        intro fl hf
        refine ih k (i + 1) fl (by omega) (by omega) ?_
        rcases hf with h | h
        · rcases List.mem_cons.1 hx with e | hx
          · exact absurd e.symm h
          · exact Or.inr ⟨hk2, x, hx, hx0, hxd⟩
        · exact Or.inl h
      by_cases he : l5[i] = x
      · rw [he, if_pos hx0, refWaits_law, Option.bind_some, if_pos (decide_eq_true hxd.1), decide_eq_true hxd.2]
        exact hnext true (Or.inr rfl)
      · by_cases c1 : (l5[i]).f0 = id
        · rw [if_pos c1, refWaits_law, Option.bind_some]
          by_cases c2 : waitsP l5[i]
          · rw [if_pos (decide_eq_true c2)]
            exact hnext _ (Or.inl he)
          · rw [if_neg (by simpa using c2)]
            exact hnext _ (Or.inl he)
        · rw [if_neg c1]
          exact hnext _ (Or.inl he)
theorem when_l0_two (a b c d now id : Int) (l4 : List S66) (l5 : List S68) (h4 : l4.length ≤ 6) (h5 : l5.length ≤ 34) (hn : ∀ x ∈ l4, now < x.f3) (hx : ∃ x ∈ l5, x.f0 = id ∧ dueE now x) : ∀ (n k i : Nat), i + n = l4.length → n + 400 < k →
    newsreellaw43_PickWhen.l0 k now false (i : Int) a b c d l4 l5 2 id = some true := by
  intro n
  induction n with
  | zero =>
    intro k i hi hk
    obtain ⟨k, rfl⟩ : ∃ m, k = m + 1 := ⟨k - 1, by omega⟩
    simp only [newsreellaw43_PickWhen.l0]
    rw [if_neg (by omega)]
    exact when_l1_true a b c d now 2 id l4 l5 h5 l5.length k 0 false (by omega) (by omega) (Or.inr ⟨rfl, by rw [List.drop_zero]; exact hx⟩)
  | succ n ih =>
    intro k i hi hk
    obtain ⟨k, rfl⟩ : ∃ m, k = m + 1 := ⟨k - 1, by omega⟩
    have hlt : i < l4.length := by omega
    have h1 := hn l4[i] (List.getElem_mem hlt)
    simp only [newsreellaw43_PickWhen.l0]
    rw [if_pos (show (i : Int) < (l4.length : Int) by omega), if_pos trivial, if_pos (show 0 ≤ (i : Int) by omega), rd66 hlt, if_neg (by omega), if_neg Bool.false_ne_true, if_neg (by decide), inc (by omega)]
    exact ih k (i + 1) (by omega) (by omega)
theorem when_l0_one (a b c d now id : Int) (l4 : List S66) (l5 : List S68) (h4 : l4.length ≤ 6) (h5 : l5.length ≤ 34) : ∀ (n k i : Nat) (fl : Bool), i + n = l4.length → n + 400 < k → (fl = true ∨ ∃ x ∈ l4.drop i, x.f0 = id ∧ x.f3 ≤ now) →
    newsreellaw43_PickWhen.l0 k now fl (i : Int) a b c d l4 l5 1 id = some true := by
  intro n
  induction n with
  | zero =>
    intro k i fl hi hk hh
    obtain ⟨k, rfl⟩ : ∃ m, k = m + 1 := ⟨k - 1, by omega⟩
    rw [List.drop_of_length_le (by omega)] at hh
    have hfl : fl = true := by
      rcases hh with h | ⟨x, hx, _⟩
      · exact h
      · cases hx
    subst hfl
    simp only [newsreellaw43_PickWhen.l0]
    rw [if_neg (by omega)]
    exact when_l1_true a b c d now 1 id l4 l5 h5 l5.length k 0 true (by omega) (by omega) (Or.inl rfl)
  | succ n ih =>
    intro k i fl hi hk hh
    obtain ⟨k, rfl⟩ : ∃ m, k = m + 1 := ⟨k - 1, by omega⟩
    have hlt : i < l4.length := by omega
    simp only [newsreellaw43_PickWhen.l0]
    rw [if_pos (show (i : Int) < (l4.length : Int) by omega), if_neg (by decide), inc (by omega)]
    cases fl with
    | true =>
      rw [if_pos rfl]
      exact ih k (i + 1) true (by omega) (by omega) (Or.inl rfl)
    | false =>
      rw [if_neg Bool.false_ne_true, if_pos trivial, if_pos (show 0 ≤ (i : Int) by omega), rd66 hlt]
      rw [List.drop_eq_getElem_cons hlt] at hh
      obtain ⟨x, hx, hx0, hxd⟩ : ∃ x ∈ l4[i] :: l4.drop (i + 1), x.f0 = id ∧ x.f3 ≤ now := by
        rcases hh with h | h
        · cases h
        · exact h
      have hnext : ∀ fl, (l4[i] ≠ x ∨ fl = true) → newsreellaw43_PickWhen.l0 k now fl ((i + 1 : Nat) : Int) a b c d l4 l5 1 id = some true := by
        intro fl hf
        refine ih k (i + 1) fl (by omega) (by omega) ?_
        rcases hf with h | h
        · rcases List.mem_cons.1 hx with e | hx
          · exact absurd e.symm h
          · exact Or.inr ⟨x, hx, hx0, hxd⟩
        · exact Or.inl h
      by_cases he : l4[i] = x
      · rw [he, if_pos hx0, decide_eq_true hxd]
        exact hnext true (Or.inr rfl)
      · by_cases c1 : (l4[i]).f0 = id
        · rw [if_pos c1]
          exact hnext _ (Or.inl he)
        · rw [if_neg c1]
          exact hnext _ (Or.inl he)
theorem spec_due {now : Int} {l4 : List S66} {l5 : List S68} {r : Int × Int × Bool} (h : OfSpec now l4 l5 r) : r.2.2 = true ↔ (∃ x ∈ l4, x.f3 ≤ now) ∨ ∃ x ∈ l5, dueE now x := by
  rcases h with ⟨b, hb, hd, _, rfl⟩ | ⟨_, x, hx, hd, _, rfl⟩ | ⟨hn, hx, rfl⟩
  · exact ⟨fun _ => Or.inl ⟨b, hb, hd⟩, fun _ => rfl⟩
  · exact ⟨fun _ => Or.inr ⟨x, hx, hd⟩, fun _ => rfl⟩
  · refine ⟨fun h => (by cases h), fun h => ?_⟩
    rcases h with ⟨x, hx2, hd⟩ | ⟨x, hx2, hd⟩
    · have := hn x hx2; omega
    · exact absurd hd (hx x hx2)
theorem PickWhen_pure : newsreellaw43_PickWhen.Pure := by
  intro y0 y1 _ _
  obtain ⟨a, b, c, d, l4, l5⟩ := y0
  obtain ⟨K, hK⟩ : ∃ K : Nat, K = 5000 := ⟨_, rfl⟩
  refine ⟨K + 1, ?_⟩
  show newsreellaw43_PickWhen.f (K + 1) a b c d l4 l5 y1 = some true
  unfold newsreellaw43_PickWhen.f
  obtain ⟨t, ht, hl⟩ := light_law (K + 1) (by omega) a b c d l4 l5
  rw [ht, Option.bind_some]
  cases t with
  | false =>
    rw [if_neg Bool.false_ne_true, awake_true (by omega)]
    rfl
  | true =>
    obtain ⟨h4, h5⟩ := hl rfl
    obtain ⟨r, hr, hs⟩ := of_law (K + 1) (by omega) a b c d y1 l4 l5 h4 h5
    have hd := spec_due hs
    rw [← times_due, ← whenV_spec] at hd
    rw [if_pos rfl, hr, Option.bind_some, when_law, Option.bind_some]
    generalize whenV (times l4 l5) = v at hd
    obtain ⟨n, may⟩ := v
    obtain ⟨kind, id, ok⟩ := r
    simp only at hd ⊢
    have hj : newsreellaw43_PickWhen.j0 (K + 1) y1 ok false a b c d l4 l5 kind id = some true := by
      simp only [newsreellaw43_PickWhen.j0]
      rw [if_neg Bool.false_ne_true]
      rcases hs with ⟨x, hx, hxd, _, e⟩ | ⟨hn, x, hx, hxd, _, e⟩ | ⟨_, _, e⟩
      · injection e with e1 e2
        injection e2 with e2 e3
        subst e1 e2 e3
        rw [if_pos rfl]
        exact when_l0_one a b c d y1 x.f0 l4 l5 h4 h5 l4.length K 0 false (by omega) (by omega) (Or.inr ⟨x, by rw [List.drop_zero]; exact hx, rfl, hxd⟩)
      · injection e with e1 e2
        injection e2 with e2 e3
        subst e1 e2 e3
        rw [if_pos rfl]
        exact when_l0_two a b c d y1 x.f0 l4 l5 h4 h5 hn ⟨x, hx, rfl, hxd⟩ l4.length K 0 (by omega) (by omega)
      · injection e with e1 e2
        injection e2 with e2 e3
        subst e1 e2 e3
        rw [if_neg Bool.false_ne_true, if_pos (by rfl), awake_true (by omega)]
        rfl
    cases may with
    | true =>
      rw [if_pos rfl]
      have he : (ok != decide (n ≤ y1)) = false := by
        cases ok with
        | true => rw [decide_eq_true (hd.1 rfl).2]; rfl
        | false =>
          rw [decide_eq_false (fun h => by have := hd.2 ⟨rfl, h⟩; cases this)]
          rfl
      rw [he]
      exact hj
    | false =>
      rw [if_neg Bool.false_ne_true]
      have he : ok = false := by
        cases ok with
        | true => exact absurd (hd.1 rfl).1 Bool.false_ne_true
        | false => rfl
      subst he
      exact hj
end Go.Proofs.Ytkkikdjfigffhaa.XPit
