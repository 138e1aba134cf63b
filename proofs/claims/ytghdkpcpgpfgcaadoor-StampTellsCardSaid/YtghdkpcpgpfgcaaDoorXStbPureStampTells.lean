/- WHAT IS PROVED: of any text of up to 100 bytes both say the same time or the same error, of any number both say the same stamp or the same error, and both say how many days any month has; a longer text leaves the plain example. -/
import Derived.Test.YtghdkpcpgpfgcaaDoorXStbTellStampTells
import Derived.Test.YtghdkpcpgpfgcaaDoorXStbL
namespace Go.Proofs.YtghdkpcpgpfgcaaDoor.XStb
open Go.RowKit Go.Proofs.YtghdkpcpgpfgcaaDoorW.PrintWords Go.Proofs.YtghdkpcpgpfgcaaDoorW.PrintLast Go.Proofs.YtghdkpcpgpfgcaaDoorW.PrintMore
theorem awake_at : newsreellaw17_awake.f 1000 = some true := by kernel_rfl
theorem StampTells_pure : newsreellaw17_StampTells.Pure := by
  intro y0 y1 y2 _ _ _
  refine ⟨9000, ?_⟩
  have A : newsreellaw17_awake.f 9000 = some true := up (fun k => newsreellaw17_awake.mono k) awake_at 9000 (by decide)
  rw [newsreellaw17_StampTells.f]
  by_cases h : (y0.size : Int) > 100
  · rw [if_pos h, A]
    rfl
  · rw [if_neg h]
    have hl : y0.data.toList.length ≤ 100 := by rw [len_size]; omega
    obtain ⟨r, g1, g2⟩ := get_same y0.data.toList hl
    have e : mkB y0.data.toList = y0 := by cases y0; simp [mkB]
    rw [e] at g1 g2
    obtain ⟨p, q1, q2⟩ : ∃ p, stamp_Put.f 9000 y1 = some p ∧ newsreelref17_Put.f 9000 y1 = some p := by
      by_cases hn : 0 ≤ y1 ∧ y1 < 7258118400
      · obtain ⟨n, rfl⟩ : ∃ n : Nat, y1 = (n : Int) := ⟨y1.toNat, by omega⟩
        obtain ⟨r, hr⟩ := put_two n (by omega)
        exact ⟨_, (hr 9000 (by decide)).1, (hr 9000 (by decide)).2⟩
      · have := put_out y1 (by omega) 9000 (by decide)
        exact ⟨_, this.1, this.2⟩
    rw [g1, g2, q1, q2, Option.bind_some, Option.bind_some, Option.bind_some, Option.bind_some, if_pos rfl, if_pos rfl, if_pos rfl, if_pos rfl, days_f, days_ref _ _ 9000 (by decide), Option.bind_some, Option.bind_some, if_pos rfl, A]
    rfl
end Go.Proofs.YtghdkpcpgpfgcaaDoor.XStb
