/- The delay of the program is the document's, behind any number of tries and at any time, for every input. -/
import Derived.Test.YtkkikdjfigffhaaPBackoffTellsx1
import Derived.OpenShut
namespace Go.Proofs.Ytkkikdjfigffhaa.Pure
open Go.RowKit Go.Proofs.Ytkkikdjfigffhaa.PBackoffTells Go.Proofs.YtkkikdjfigffhaaW.PrintWords Go.Proofs.YtkkikdjfigffhaaW.PrintLast

def backV (a : Int) : Int := if a < 2 then 1 else if a = 2 then 2 else if a = 3 then 4 else 8

theorem back_five (a : Int) : backoff_Back.f 5 a = some (backV a) := by
  have e1 : wrap64 (1 * 2) = 2 := by unfold wrap64; omega
  have e2 : wrap64 (2 * 2) = 4 := by unfold wrap64; omega
  have e3 : wrap64 (4 * 2) = 8 := by unfold wrap64; omega
  have f1 : wrap64 (1 + 1) = 2 := by unfold wrap64; omega
  have f2 : wrap64 (2 + 1) = 3 := by unfold wrap64; omega
  have f3 : wrap64 (3 + 1) = 4 := by unfold wrap64; omega
  unfold backoff_Back.f backV
  simp only [backoff_Back.l0, e1, e2, e3, f1, f2, f3]
  by_cases h1 : a < 2
  · rw [if_neg (by omega), if_pos h1]
  · rw [if_pos (by omega), if_neg h1]
    by_cases h2 : a = 2
    · subst h2; simp
    · rw [if_neg h2]
      by_cases h3 : a = 3
      · subst h3; simp
      · rw [if_neg h3, if_pos (by omega), if_pos (by omega), if_pos (by omega), if_pos (by omega), if_pos (by omega)]
        split <;> rfl

theorem ref_back (a : Int) : newsreelref39_Back.f a = some (backV a) := by
  unfold newsreelref39_Back.f backV
  repeat' split
  all_goals first | rfl | omega

theorem backV_bounds (a : Int) : 1 ≤ backV a ∧ backV a ≤ 8 := by
  unfold backV
  repeat' split
  all_goals omega

def laterV (n a : Int) : Int := let m := if n < 0 then 0 else n
  if m > 1099511627776 - backV a then 1099511627776 else m + backV a

theorem clamp_v (a b c : Int) : num_Clamp.f a b c = some (if a < b then b else if a > c then c else a) := by
  unfold num_Clamp.f
  repeat' split
  all_goals rfl

theorem wrap_in {a : Int} (h0 : -9223372036854775808 ≤ a) (h1 : a < 9223372036854775808) : wrap64 a = a := by
  unfold wrap64; omega

theorem later_five (n a : Int) : backoff_Later.f 5 n a = some (laterV n a) := by
  have hb := backV_bounds a
  unfold backoff_Later.f laterV
  rw [clamp_v]; simp only [Option.bind_some, back_five]
  generalize backV a = b at *
  have hw : wrap64 ((if n < 0 then 0 else if n > 1099511627776 then 1099511627776 else n) + b) = (if n < 0 then 0 else if n > 1099511627776 then 1099511627776 else n) + b := by
    apply wrap_in <;> (repeat' split) <;> omega
  rw [hw, clamp_v]; simp only [Option.bind_some]
  congr 1
  repeat' split
  all_goals omega

theorem ref_later (n a : Int) (h1 : n < 9223372036854775808) : newsreelref39_Later.f 5 n a = some (laterV n a) := by
  have hb := backV_bounds a
  unfold newsreelref39_Later.f laterV
  simp only [newsreelref39_Later.j0, ref_back, Option.bind_some]
  generalize backV a = b at *
  rw [wrap_in (a := 1099511627776 - b) (by omega) (by omega)]
  by_cases h : n < 0
  · simp only [if_pos h]
    rw [if_neg (by omega), if_neg (by omega), wrap_in (by omega) (by omega)]
  · simp only [if_neg h]
    by_cases h2 : n > 1099511627776 - b
    · rw [if_pos h2, if_pos h2]
    · rw [if_neg h2, if_neg h2, wrap_in (by omega) (by omega)]

theorem awake_five : newsreellaw39_awake.f 5 = some true := by
  unfold newsreellaw39_awake.f
  rw [later_five, back_five, back_five]
  rfl

theorem BackoffTells : newsreellaw39_BackoffTells.Pure := by
  intro n a hn ha
  have hn' : n < 9223372036854775808 := by have := bounds_i64 hn; omega
  refine ⟨5, ?_⟩
  unfold newsreellaw39_BackoffTells.f
  simp only [back_five, ref_back, later_five, ref_later n a hn', awake_five, Option.bind_some, if_true]

end Go.Proofs.Ytkkikdjfigffhaa.Pure
