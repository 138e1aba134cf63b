-- By a program of this work (xprint.py) over the translation; Lean checks it.
import Derived.Test.YtcpojadlnpnbaaaXRetx0
namespace Go.Proofs.Ytcpojadlnpnbaaa.XRet
open Go.RowKit Go.Proofs.YtcpojadlnpnbaaaW.PrintWords Go.Proofs.YtcpojadlnpnbaaaW.PrintLast Go.Proofs.YtcpojadlnpnbaaaW.PrintMore
attribute [local go_sem] max2_int min2_int max_two min_two max_three min_three max_four min_four   -- for this text's walks alone
set_option linter.unusedVariables false
set_option linter.unusedSimpArgs false

/-! ### api_Ep_30: function 30 -/
set_option maxHeartbeats 2000000 in
set_option maxRecDepth 100000 in
theorem api_Ep_30.calls {f : FuncId} {fn : Func} (caps : Array Value) (hf : Try.prog.funcs[f]? = some fn) (hname : (fn.name == "runtime.NumGoroutine") = false) (hb : fn.body.isSome = true) (p : S29 → Bool)
  (A0 : Option Addr) (c0 : Nat) (l0 : List S29) (w : World) (hr0 : Kd.C k29 w A0 l0.length l0) (hc0 : l0.length ≤ c0)
  (hcall : ∀ (W : World) (x : S29) (cs : List Value), x ∈ l0 → Below w.heap.size w W → k29.K W x cs → Calls Try.prog f (#[.agg cs.toArray] ++ caps) W fun e w' => e = .returned (.bool (p x)) ∧ Below W.heap.size W w') :
  Calls Try.prog 30 #[.slice A0 l0.length c0, .func (.func f) #[] caps] w fun e w' => e = .returned (.int .i64 (findI p l0)) ∧ Below w.heap.size w w' := by
 have HR := mkA hr0
 have HL := hr0.2.1
 have HF := mkA hcall
 have HX := mkA hf
 have HY := mkA hname
 have HZ := mkA hb
 have HB0 := mkA (Below.refl w.heap.size w)
 clear hr0 hcall hf hname hb
 go_enter Try.func30, Try.ntmps30
 go_wp2
 go_loopw [8] (fun v8 wr => ∃ x8 : Int, v8 = .int .i64 x8 ∧ Aside0 (0 ≤ x8 ∧ x8 ≤ (l0.length : Int) ∧ ∀ j (hj : j < l0.length), (j : Int) < x8 → p l0[j] = false) ∧ Aside0 (Below w.heap.size w wr)) (fun v8 _ => l0.length - (intOf v8).toNat)
 case atStart => exact ⟨0, rfl, ⟨Int.le_refl _, by omega, fun j _ h => by omega⟩, HB0⟩
 case round =>
  obtain ⟨x8, rfl, HP, HB⟩ := hrel
  obtain ⟨h0, h1, hp⟩ := HP.out
  have HPP := mkA hp
  clear HP hp
  by_cases hlt : x8 < (l0.length : Int)
  ·obtain ⟨ad, e, hx0, hx1, hx2, hx3, hx4, hx5, hx6, hx7, hx8, hx9, hx10, hx11, hx12, hx13, hx14, hx15, hx16, hx17, hx18, hx19⟩ := at_T29 HR.out x8 h0 hlt
   cases e
   have HK := mkA (k29_mk w (rd_T29 l0 x8))
   skip
   replace hx0 := hs_ HB.out hx0
   replace hx1 := hs_ HB.out hx1
   replace hx2 := hs_ HB.out hx2
   replace hx3 := hs_ HB.out hx3
   replace hx4 := hs_ HB.out hx4
   replace hx5 := hs_ HB.out hx5
   replace hx6 := hs_ HB.out hx6
   replace hx7 := hs_ HB.out hx7
   replace hx8 := hs_ HB.out hx8
   replace hx9 := hs_ HB.out hx9
   replace hx10 := hs_ HB.out hx10
   replace hx11 := hs_ HB.out hx11
   replace hx12 := hs_ HB.out hx12
   replace hx13 := hs_ HB.out hx13
   replace hx14 := hs_ HB.out hx14
   replace hx15 := hs_ HB.out hx15
   replace hx16 := hs_ HB.out hx16
   replace hx17 := hs_ HB.out hx17
   replace hx18 := hs_ HB.out hx18
   replace hx19 := hs_ HB.out hx19
   have hget : (rd_T29 l0 x8) = l0[x8.toNat]'(by omega) := by
    unfold rd_T29
    rw [List.getD_eq_getElem?_getD, List.getElem?_eq_getElem (by omega)]
    rfl
   have HG := mkA hget
   have HM := mkA (show (rd_T29 l0 x8) ∈ l0 by rw [hget]; exact List.getElem_mem _)
   clear hget
   have hlt0 : decide (x8 < (l0.length : Int)) = true := decide_eq_true hlt
   have HLT := mkA hlt
   by_cases hq : p (rd_T29 l0 x8) = true
   ·have HQ := mkA hq
    clear hq
    go_wp2_with (first | ((with_reducible refine gate_load (t := 29) rfl ?_); refine load_at2 (t := 29) ?hg ?ho (c0 := _) (cs := [_, _, _, _, _, _, _, _, _, _, _, _, _, _, _, _, _, _, _]) Try.underlying29 rfl (by kernel_rfl) hx0 ⟨hx1, hx2, hx3, hx4, hx5, hx6, hx7, hx8, hx9, hx10, hx11, hx12, hx13, hx14, hx15, hx16, hx17, hx18, hx19, trivial⟩ ?_; (case hg => rfl); (case ho => refine ⟨_, rfl, ?_⟩; first | (with_reducible rfl) | (go_simp; done))) | ((with_reducible refine gate_dst (N := 16) rfl ?_); (refine goesV_ (some 16) rfl rfl (.tmp 11) caps #[.agg #[.int .i64 (rd_T29 l0 x8).f0, .int .i64 (rd_T29 l0 x8).f1, .string (rd_T29 l0 x8).f2, .string (rd_T29 l0 x8).f3, .string (rd_T29 l0 x8).f4, .int .i64 (rd_T29 l0 x8).f5, .int .i64 (rd_T29 l0 x8).f6, .int .i64 (rd_T29 l0 x8).f7, .int .i64 (rd_T29 l0 x8).f8, .bool (rd_T29 l0 x8).f9, .int .i64 (rd_T29 l0 x8).f10, .int .i64 (rd_T29 l0 x8).f11, .int .i64 (rd_T29 l0 x8).f12, .string (rd_T29 l0 x8).f13, .int .i64 (rd_T29 l0 x8).f14, .int .i64 (rd_T29 l0 x8).f15, .string (rd_T29 l0 x8).f16, .int .i64 (rd_T29 l0 x8).f17, .int .i64 (rd_T29 l0 x8).f18, .string (rd_T29 l0 x8).f19]] rfl rfl ?ha HX.out HY.out HZ.out ?_); (case ha => (try simp only [List.map_toArray, List.map_cons, List.map_nil]); rfl); refine (HF.out _ _ _ HM.out HB.out (Kd.K_below _ HB.out HK.out)).mono ?_; rintro e w' ⟨rfl, hb'⟩; refine ⟨_, rfl, ?_⟩; rw [HQ.out]; have HB' := mkA (below_step HB.out hb'); clear hb'))
    go_ret
    exact ⟨by rw [findI_at (i := x8.toNat) (by have := HLT.out; omega) (fun j hj hlt2 => HPP.out j hj (by omega)) (by rw [← HG.out]; exact HQ.out), Int.toNat_of_nonneg h0]; rfl, HB'.out⟩
   ·have hq' : p (rd_T29 l0 x8) = false := by simpa using hq
    have HQ := mkA hq'
    clear hq hq'
    go_wp2_with (first | ((with_reducible refine gate_load (t := 29) rfl ?_); refine load_at2 (t := 29) ?hg ?ho (c0 := _) (cs := [_, _, _, _, _, _, _, _, _, _, _, _, _, _, _, _, _, _, _]) Try.underlying29 rfl (by kernel_rfl) hx0 ⟨hx1, hx2, hx3, hx4, hx5, hx6, hx7, hx8, hx9, hx10, hx11, hx12, hx13, hx14, hx15, hx16, hx17, hx18, hx19, trivial⟩ ?_; (case hg => rfl); (case ho => refine ⟨_, rfl, ?_⟩; first | (with_reducible rfl) | (go_simp; done))) | ((with_reducible refine gate_dst (N := 16) rfl ?_); (refine goesV_ (some 16) rfl rfl (.tmp 11) caps #[.agg #[.int .i64 (rd_T29 l0 x8).f0, .int .i64 (rd_T29 l0 x8).f1, .string (rd_T29 l0 x8).f2, .string (rd_T29 l0 x8).f3, .string (rd_T29 l0 x8).f4, .int .i64 (rd_T29 l0 x8).f5, .int .i64 (rd_T29 l0 x8).f6, .int .i64 (rd_T29 l0 x8).f7, .int .i64 (rd_T29 l0 x8).f8, .bool (rd_T29 l0 x8).f9, .int .i64 (rd_T29 l0 x8).f10, .int .i64 (rd_T29 l0 x8).f11, .int .i64 (rd_T29 l0 x8).f12, .string (rd_T29 l0 x8).f13, .int .i64 (rd_T29 l0 x8).f14, .int .i64 (rd_T29 l0 x8).f15, .string (rd_T29 l0 x8).f16, .int .i64 (rd_T29 l0 x8).f17, .int .i64 (rd_T29 l0 x8).f18, .string (rd_T29 l0 x8).f19]] rfl rfl ?ha HX.out HY.out HZ.out ?_); (case ha => (try simp only [List.map_toArray, List.map_cons, List.map_nil]); rfl); refine (HF.out _ _ _ HM.out HB.out (Kd.K_below _ HB.out HK.out)).mono ?_; rintro e w' ⟨rfl, hb'⟩; refine ⟨_, rfl, ?_⟩; rw [HQ.out]; have HB' := mkA (below_step HB.out hb'); clear hb'))
    go_roundw
    case rel => exact ⟨x8 + 1, by first | rfl | (simp; done), ⟨by omega, by have := HLT.out; omega, fun j hj hlt2 => by
      rcases Int.lt_or_eq_of_le (Int.lt_add_one_iff.1 hlt2) with h | h
      ·exact HPP.out j hj h
      ·have e : x8.toNat = j := by omega
       subst e
       rw [← HG.out]
       exact HQ.out⟩, HB'⟩
    case measure => have := HLT.out; simp [intOf]; omega
  ·have hlt0 : decide (x8 < (l0.length : Int)) = false := decide_eq_false hlt
   have HLT := mkA hlt
   clear hlt
   go_wp2
   go_ret
   exact ⟨by rw [findI_none (fun j hj => HPP.out j hj (by have := HLT.out; omega))]; rfl, HB.out⟩

-- NOT PRINTED: function 31 (change_Find_1)

end Go.Proofs.Ytcpojadlnpnbaaa.XRet
