/- The frame of any record, the record that any bytes begin with, and the records that they begin with, are the reference's: for every input. -/
import Derived.Test.YtkkikdjfigffhabXFraTellFrameTells
import Derived.Test.YtkkikdjfigffhabXFraBase
namespace Go.Proofs.Ytkkikdjfigffhab.XFra
open Go.RowKit Go.Proofs.YtkkikdjfigffhabW.PrintWords Go.Proofs.YtkkikdjfigffhabW.PrintLast Go.Proofs.YtkkikdjfigffhabW.PrintMore

theorem FrameTells_pure : newsreellaw12_FrameTells.Pure := by
  intro b c h0 h1
  have hb : Bytes b := fun x hx => by have := bounds_u8 (h0.2 x hx); omega
  have hc : Bytes c := fun x hx => by have := bounds_u8 (h1.2 x hx); omega
  obtain ⟨K, hK⟩ : ∃ K : Nat, K = 50000 := ⟨_, rfl⟩
  refine ⟨K + 1, ?_⟩
  have hj : newsreellaw12_FrameTells.j0 (K + 1) b c true = some true := by
    simp only [newsreellaw12_FrameTells.j0]
    rw [if_pos trivial, awake_true (by omega)]
    rfl
  unfold newsreellaw12_FrameTells.f
  by_cases hl : (b.length : Int) > 300
  · rw [if_pos hl]
    exact hj
  · rw [if_neg hl]
    by_cases hl2 : (c.length : Int) > 600
    · rw [decide_eq_true hl2]
      exact hj
    · rw [decide_eq_false hl2]
      simp only [newsreellaw12_FrameTells.j0]
      obtain ⟨r, hr1, hr2, hr3⟩ := scan_both c hc (by omega) c.length K K [] 0 0 (by omega) (by omega) (by omega) (by show 0 ≤ 0; omega) (by omega) (by omega)
      have e1 : frame_Scan.f K c = some r := hr1
      have e2 : newsreelref12_Scan.f K c = some r := hr2
      rw [if_neg Bool.false_ne_true, put_f b hb, Option.bind_some, ref_put b hb (by omega) K (by omega), Option.bind_some, take_f c hc (by omega), Option.bind_some, ref_take c hc (by omega) K (by omega), Option.bind_some, e1, Option.bind_some, e2, Option.bind_some]
      unfold newsreelref01_Bytes.f
      rw [beq_self_eq_true, Option.bind_some, if_pos rfl, if_pos rfl, beq_self_eq_true, Option.bind_some, if_pos rfl, if_pos rfl, if_pos rfl, lists_same r.1 (by omega) K (by omega), Option.bind_some, if_pos rfl, if_pos rfl, awake_true (by omega)]
      rfl

end Go.Proofs.Ytkkikdjfigffhab.XFra
