/- The delay is never less after more tries, lies between one and eight, and what comes later is above now, for every input. -/
import Derived.Test.YtkkikdjfigffhaaXBacTellBackoffGrows
import Derived.OpenShut
namespace Go.Proofs.Ytkkikdjfigffhaa.XBac
open Go.RowKit Go.Proofs.YtkkikdjfigffhaaW.PrintWords Go.Proofs.YtkkikdjfigffhaaW.PrintLast Go.Proofs.YtkkikdjfigffhaaW.PrintMore

def backV (a : Int) : Int := if a < 2 then 1 else if a = 2 then 2 else if a = 3 then 4 else 8

theorem back_five (k : Nat) (a : Int) : backoff_Back.f (k + 5) a = some (backV a) := by
  have e1 : wrap64 (1 * 2) = 2 := by unfold wrap64; omega
  have e2 : wrap64 (2 * 2) = 4 := by unfold wrap64; omega
  have e3 : wrap64 (4 * 2) = 8 := by unfold wrap64; omega
  have f1 : wrap64 (1 + 1) = 2 := by unfold wrap64; omega
  have f2 : wrap64 (2 + 1) = 3 := by unfold wrap64; omega
  have f3 : wrap64 (3 + 1) = 4 := by unfold wrap64; omega
  unfold backoff_Back.f backV
  simp only [backoff_Back.l0, e1, e2, e3, f1, f2, f3]
  by_cases h1 : a < 2
  · rw [if_neg (by omega), if_pos h1]
  · rw [if_pos (by omega), if_neg h1]
    by_cases h2 : a = 2
    · subst h2; rfl
    · rw [if_neg h2]
      by_cases h3 : a = 3
      · subst h3; rfl
      · rw [if_neg h3, if_pos (by omega), if_pos (by omega), if_pos (by omega), if_pos (by omega), if_pos (by omega)]
        split <;> rfl

theorem backV_bounds (a : Int) : 1 ≤ backV a ∧ backV a ≤ 8 := by
  unfold backV
  repeat' split
  all_goals omega

theorem backV_mono {a b : Int} (h : a ≤ b) : backV a ≤ backV b := by
  unfold backV
  repeat' split
  all_goals omega

def laterV (n a : Int) : Int := let m := if n < 0 then 0 else n
  if m > 1099511627776 - backV a then 1099511627776 else m + backV a

theorem clamp_v (a b c : Int) : num_Clamp.f a b c = some (if a < b then b else if a > c then c else a) := by
  unfold num_Clamp.f
  repeat' split
  all_goals rfl

theorem wrap_in {a : Int} (h0 : -9223372036854775808 ≤ a) (h1 : a < 9223372036854775808) : wrap64 a = a := by
  unfold wrap64; omega

theorem later_five (k : Nat) (n a : Int) : backoff_Later.f (k + 5) n a = some (laterV n a) := by
  have hb := backV_bounds a
  unfold backoff_Later.f laterV
  rw [clamp_v]; simp only [Option.bind_some, back_five]
  generalize backV a = b at *
  have hw : wrap64 ((if n < 0 then 0 else if n > 1099511627776 then 1099511627776 else n) + b) = (if n < 0 then 0 else if n > 1099511627776 then 1099511627776 else n) + b := by
    apply wrap_in <;> (repeat' split) <;> omega
  rw [hw, clamp_v]; simp only [Option.bind_some]
  congr 1
  repeat' split
  all_goals omega

theorem awake_five (k : Nat) : newsreellaw39_awake.f (k + 5) = some true := by
  unfold newsreellaw39_awake.f
  rw [later_five, back_five, back_five]
  rfl

theorem j1_true (k : Nat) (n a b c : Int) : newsreellaw39_BackoffGrows.j1 (k + 6) n a b c true = some true := by
  show newsreellaw39_BackoffGrows.j1 ((k + 5) + 1) n a b c true = some true
  simp only [newsreellaw39_BackoffGrows.j1]
  rw [if_pos trivial, awake_five]
  rfl

theorem laterV_bounds (n a : Int) (h0 : 0 ≤ n) (h1 : n < 1099511627776) : n < laterV n a ∧ laterV n a ≤ 1099511627776 := by
  have hb := backV_bounds a
  unfold laterV
  simp only
  repeat' split
  all_goals omega

theorem laterV_mono (n : Int) {a b : Int} (h : a ≤ b) : laterV n a ≤ laterV n b := by
  have hm := backV_mono h
  unfold laterV
  simp only
  repeat' split
  all_goals omega

theorem j1_false (k : Nat) (n a b c : Int) (h0 : 0 ≤ n) (h1 : n < 1099511627776) (hbc : b ≤ c) : newsreellaw39_BackoffGrows.j1 (k + 6) n a b c false = some true := by
  show newsreellaw39_BackoffGrows.j1 ((k + 5) + 1) n a b c false = some true
  have ha := laterV_bounds n a h0 h1
  simp only [newsreellaw39_BackoffGrows.j1, later_five, Option.bind_some]
  rw [if_neg (by simp), if_pos ha.1, if_pos ha.2, if_pos (laterV_mono n hbc), awake_five]
  rfl

theorem j0_false (n a b c : Int) (hbc : b ≤ c) : newsreellaw39_BackoffGrows.j0 7 n a b c false = some true := by
  show newsreellaw39_BackoffGrows.j0 (6 + 1) n a b c false = some true
  simp only [newsreellaw39_BackoffGrows.j0]
  rw [if_neg (by simp)]
  by_cases h0 : n < 0
  · rw [if_pos h0, j1_true 0]
  · rw [if_neg h0]
    by_cases h1 : n ≥ 1099511627776
    · rw [decide_eq_true h1, j1_true 0]
    · rw [decide_eq_false h1, j1_false 0 _ _ _ _ (by omega) (by omega) hbc]

theorem BackoffGrows_pure : newsreellaw39_BackoffGrows.Pure := by
  intro n a b _ _ _
  have hab : mn a b ≤ mx a b := by unfold mn mx; split <;> split <;> omega
  have hm := backV_mono hab
  have hB := backV_bounds a
  refine ⟨7, ?_⟩
  unfold newsreellaw39_BackoffGrows.f
  simp only [back_five 2, Option.bind_some]
  rw [if_neg (by omega), if_neg (by omega), decide_eq_false (by omega), j0_false _ _ _ _ hab]

end Go.Proofs.Ytkkikdjfigffhaa.XBac
