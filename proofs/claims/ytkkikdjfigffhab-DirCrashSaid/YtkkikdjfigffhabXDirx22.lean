-- By a program of this work (xprint.py) over the translation; Lean checks it.
import Derived.Test.YtkkikdjfigffhabXDirx0
namespace Go.Proofs.Ytkkikdjfigffhab.XDir
open Go.RowKit Go.Proofs.YtkkikdjfigffhabW.PrintWords Go.Proofs.YtkkikdjfigffhabW.PrintLast Go.Proofs.YtkkikdjfigffhabW.PrintMore
attribute [local go_sem] max2_int min2_int max_two min_two max_three min_three max_four min_four   -- for this text's walks alone
set_option linter.unusedVariables false
set_option linter.unusedSimpArgs false

/-! ### api_Entry_94: function 94 -/
set_option maxHeartbeats 8000000 in
set_option maxRecDepth 100000 in
theorem api_Entry_94.calls {f : FuncId} {fn : Func} (caps : Array Value) (hf : Try.prog.funcs[f]? = some fn) (hname : (fn.name == "runtime.NumGoroutine") = false) (hb : fn.body.isSome = true) (p : S77 → Bool)
  (A0 : Option Addr) (c0 : Nat) (l0 : List S77) (w : World) (hr0 : Kd.C k77 w A0 l0.length l0) (hc0 : l0.length ≤ c0)
  (hcall : ∀ (W : World) (x : S77) (cs : List Value), x ∈ l0 → Below w.heap.size w W → k77.K W x cs → Calls Try.prog f (#[.agg cs.toArray] ++ caps) W fun e w' => e = .returned (.bool (p x)) ∧ Below W.heap.size W w') :
  Calls Try.prog 94 #[.slice A0 l0.length c0, .func (.func f) #[] caps] w fun e w' => e = .returned (.int .i64 (findI p l0)) ∧ Below w.heap.size w w' := by
 have HR := mkA hr0
 have HL := hr0.2.1
 have HF := mkA hcall
 have HX := mkA hf
 have HY := mkA hname
 have HZ := mkA hb
 have HB0 := mkA (Below.refl w.heap.size w)
 clear hr0 hcall hf hname hb
 go_enter Try.func94, Try.ntmps94
 go_wp2
 go_loopw [8] (fun v8 wr => ∃ x8 : Int, v8 = .int .i64 x8 ∧ Aside0 (0 ≤ x8 ∧ x8 ≤ (l0.length : Int) ∧ ∀ j (hj : j < l0.length), (j : Int) < x8 → p l0[j] = false) ∧ Aside0 (Below w.heap.size w wr)) (fun v8 _ => l0.length - (intOf v8).toNat)
 case atStart => exact ⟨0, rfl, ⟨Int.le_refl _, by omega, fun j _ h => by omega⟩, HB0⟩
 case round =>
  obtain ⟨x8, rfl, HP, HB⟩ := hrel
  obtain ⟨h0, h1, hp⟩ := HP.out
  have HPP := mkA hp
  clear HP hp
  by_cases hlt : x8 < (l0.length : Int)
  ·obtain ⟨ad, e, hx0, hx1⟩ := at_T77 HR.out x8 h0 hlt
   cases e
   have HK := mkA (k77_mk w (rd_T77 l0 x8))
   skip
   replace hx0 := (cb HB.out hx0).trans hx0
   replace hx1 := (cb HB.out hx1).trans hx1
   have hget : (rd_T77 l0 x8) = l0[x8.toNat]'(by omega) := by
    unfold rd_T77
    rw [List.getD_eq_getElem?_getD, List.getElem?_eq_getElem (by omega)]
    rfl
   have HG := mkA hget
   have HM := mkA (show (rd_T77 l0 x8) ∈ l0 by rw [hget]; exact List.getElem_mem _)
   clear hget
   have hlt0 : decide (x8 < (l0.length : Int)) = true := decide_eq_true hlt
   have HLT := mkA hlt
   by_cases hq : p (rd_T77 l0 x8) = true
   ·have HQ := mkA hq
    clear hq
    go_wp2_with ((with_reducible refine gate_dst (N := 16) rfl ?_); (refine goesV_ (some 16) rfl rfl (.tmp 11) caps #[.agg #[.string (rd_T77 l0 x8).f0, .int .i64 (rd_T77 l0 x8).f1]] rfl rfl ?ha HX.out HY.out HZ.out ?_); (case ha => (try simp only [List.map_toArray, List.map_cons, List.map_nil]); rfl); refine (HF.out _ _ _ HM.out HB.out (Kd.K_below _ HB.out HK.out)).mono ?_; rintro e w' ⟨rfl, hb'⟩; refine ⟨_, rfl, ?_⟩; rw [HQ.out]; have HB' := mkA (below_step HB.out hb'); clear hb')
    go_ret
    exact ⟨by rw [findI_at (i := x8.toNat) (by have := HLT.out; omega) (fun j hj hlt2 => HPP.out j hj (by omega)) (by rw [← HG.out]; exact HQ.out), Int.toNat_of_nonneg h0]; rfl, HB'.out⟩
   ·have hq' : p (rd_T77 l0 x8) = false := by simpa using hq
    have HQ := mkA hq'
    clear hq hq'
    go_wp2_with ((with_reducible refine gate_dst (N := 16) rfl ?_); (refine goesV_ (some 16) rfl rfl (.tmp 11) caps #[.agg #[.string (rd_T77 l0 x8).f0, .int .i64 (rd_T77 l0 x8).f1]] rfl rfl ?ha HX.out HY.out HZ.out ?_); (case ha => (try simp only [List.map_toArray, List.map_cons, List.map_nil]); rfl); refine (HF.out _ _ _ HM.out HB.out (Kd.K_below _ HB.out HK.out)).mono ?_; rintro e w' ⟨rfl, hb'⟩; refine ⟨_, rfl, ?_⟩; rw [HQ.out]; have HB' := mkA (below_step HB.out hb'); clear hb')
    go_roundw
    case rel => exact ⟨x8 + 1, by first | rfl | (simp; done), ⟨by omega, by have := HLT.out; omega, fun j hj hlt2 => by
      rcases Int.lt_or_eq_of_le (Int.lt_add_one_iff.1 hlt2) with h | h
      ·exact HPP.out j hj h
      ·have e : x8.toNat = j := by omega
       subst e
       rw [← HG.out]
       exact HQ.out⟩, HB'⟩
    case measure => have := HLT.out; simp [intOf]; omega
  ·have hlt0 : decide (x8 < (l0.length : Int)) = false := decide_eq_false hlt
   have HLT := mkA hlt
   clear hlt
   go_wp2
   go_ret
   exact ⟨by rw [findI_none (fun j hj => HPP.out j hj (by have := HLT.out; omega))]; rfl, HB.out⟩

-- NOT PRINTED: function 95 (dir_Find_1)

end Go.Proofs.Ytkkikdjfigffhab.XDir
