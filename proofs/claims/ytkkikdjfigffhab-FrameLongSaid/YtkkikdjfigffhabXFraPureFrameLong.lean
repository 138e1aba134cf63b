/- A record may have 32768 bytes and no more: for every input. -/
import Derived.Test.YtkkikdjfigffhabXFraTellFrameLong
import Derived.Test.YtkkikdjfigffhabXFraBase
namespace Go.Proofs.Ytkkikdjfigffhab.XFra
open Go.RowKit Go.Proofs.YtkkikdjfigffhabW.PrintWords Go.Proofs.YtkkikdjfigffhabW.PrintLast Go.Proofs.YtkkikdjfigffhabW.PrintMore

theorem FrameLong_pure : newsreellaw12_FrameLong.Pure := by
  intro a h0
  have ha := bounds_u8 h0
  refine ⟨30, ?_⟩
  unfold newsreellaw12_FrameLong.f
  have e0 : wrap64 (Int.tmod a 9) = a % 9 := by rw [Int.tmod_eq_emod_of_nonneg (by omega), wrap_in (by omega) (by omega)]
  obtain ⟨n, hn⟩ : ∃ n : Nat, (n : Int) = 32764 + a % 9 := ⟨(32764 + a % 9).toNat, by omega⟩
  have e1 : wrap64 (32764 + a % 9) = (n : Int) := by rw [wrap_in (by omega) (by omega)]; omega
  have hz : Bytes (List.replicate n 0) := fun x hx => by rw [List.eq_of_mem_replicate hx]; omega
  have hzl : (List.replicate n (0 : Int)).length = n := List.length_replicate
  rw [e0, e1, if_pos (by omega), Int.toNat_natCast, if_pos (show n ≤ 281474976710656 by omega), put_f _ hz, Option.bind_some]
  generalize List.replicate n (0 : Int) = z at hz hzl
  by_cases hb : (n : Int) > 32768
  · have hv : putV z = ([], 4) := by unfold putV; rw [if_pos (by omega)]
    rw [hv, if_pos hb, awake_true (by omega)]
    rfl
  · have ht : takeV (frameOf z) = (z, 8 + (z.length : Int), 0) := by
      have := take_frame z [] hz (by omega)
      rwa [List.append_nil] at this
    have e2 : wrap64 ((n : Int) + 8) = (n : Int) + 8 := wrap_in (by omega) (by omega)
    have hv : putV z = (frameOf z, 0) := by unfold putV; rw [if_neg (by omega)]
    rw [hv, if_neg hb]
    show ((frame_Take.f (frameOf z)).bind _) = _
    rw [take_f _ (frame_bytes z hz) (by rw [frame_len]; omega), Option.bind_some, ht, e2, if_pos rfl, if_pos (show ((frameOf z).length : Int) = (n : Int) + 8 by rw [frame_len]; omega), if_pos (show (z.length : Int) = (n : Int) by omega), if_pos (show 8 + (z.length : Int) = (n : Int) + 8 by omega), if_pos rfl, awake_true (by omega)]
    rfl

end Go.Proofs.Ytkkikdjfigffhab.XFra
