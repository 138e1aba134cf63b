/- What is to be done next, and when, is what the reference says: for every state and time. -/
import Derived.Test.YtkkikdjfigffhaaXPitTellPickTells
import Derived.Test.YtkkikdjfigffhaaXPitBase
namespace Go.Proofs.Ytkkikdjfigffhaa.XPit
open Go.RowKit Go.Proofs.YtkkikdjfigffhaaW.PrintWords Go.Proofs.YtkkikdjfigffhaaW.PrintLast Go.Proofs.YtkkikdjfigffhaaW.PrintMore

theorem PickTells_pure : newsreellaw43_PickTells.Pure := by
  intro y0 y1 _ _
  obtain ⟨a, b, c, d, l4, l5⟩ := y0
  obtain ⟨K, hK⟩ : ∃ K : Nat, K = 5000 := ⟨_, rfl⟩
  refine ⟨K, ?_⟩
  show newsreellaw43_PickTells.f K a b c d l4 l5 y1 = some true
  unfold newsreellaw43_PickTells.f
  obtain ⟨t, ht, hl⟩ := light_law K (by omega) a b c d l4 l5
  rw [ht, Option.bind_some]
  cases t with
  | false =>
    rw [if_neg Bool.false_ne_true, awake_true (by omega)]
    rfl
  | true =>
    obtain ⟨h4, h5⟩ := hl rfl
    obtain ⟨r, hr, hs⟩ := of_law K (by omega) a b c d y1 l4 l5 h4 h5
    obtain ⟨q, hq, hs2⟩ := ref_of_law K (by omega) a b c d y1 l4 l5 h4 h5
    obtain rfl := ofspec_one hs hs2
    rw [if_pos rfl, hr, Option.bind_some, hq, Option.bind_some, when_law, Option.bind_some, ref_when_law K (by omega) a b c d l4 l5 h4 h5, Option.bind_some, if_pos (by simp), if_pos (by simp), if_pos rfl, if_pos (by simp), awake_true (by omega)]
    rfl
end Go.Proofs.Ytkkikdjfigffhaa.XPit
