/- RetainOldest: the law answers true whatever comes in, and each argument reads behind the call as it read before. -/
import Derived.Test.YtcpojadlnpnbaaaRows
import Derived.Test.YtcpojadlnpnbaaaXRetPureRetainOldest
import Derived.WalkKit
import Derived.ProofKit
import Derived.OpenShut
import Derived.ShutString
import Derived.ChangeOld
import Derived.Below
import Derived.SizedLaws
namespace Go.Proofs.Ytcpojadlnpnbaaa.retainOldest
open Go.ChangeShapes Go.WideShapes Go.ChangeAt Go.RowKit
open Go.ChangeMaps (open_string shut_string)
open Go.Proofs.YtcpojadlnpnbaaaW.PrintWords Go.Proofs.Ytcpojadlnpnbaaa.XRet
set_option linter.unusedVariables false
theorem own : ownKnob Try.prog.godebug = none := by kernel_rfl
theorem laidOut : laidOutB Try.prog = true := by kernel_rfl
set_option maxRecDepth 100000 in
set_option maxHeartbeats 4000000 in
theorem lifted (os : Os) (started : os.Started) (H : Type) (enc : TypeId × Value → H) :
    ReturnsInHanded {} Try.checked os 4 .any (Rows.retainOldestSpec.pre6 enc Try.prog Try.f4 Rows.retainOldestRow.domain false) (Rows.retainOldestSpec.post enc Try.prog Try.f4 false true false false) := by
  refine returnsInHanded_of_change_sized (C := Try.checked) own started (by kernel_rfl) Try.func4
    (ChangeSpec.witness6 (enc := enc) (C := Try.checked) false ⟨#[], #[.agg #[.int .i64 0, .int .i64 0, .int .i64 0, .int .i64 0, .slice none 0 0, .slice none 0 0], .int .i64 0], []⟩ 8 (by kernel_rfl) (by kernel_rfl) (by kernel_rfl) (by kernel_rfl)) ?_
  intro W base args ds gs before hval0 hW hcnd hsz0 _
  have hval : ∀ (j : Nat) t v, Try.f4.params[j]? = some t → args[j]? = some v → Value.okWide Try.prog W .any base t v := hval0
  have hW' := hW
  obtain ⟨p, q, hA0, hV, rfl, hfz, hnd⟩ := hW
  have hA : DataW.TrodAll enc Try.prog W 0 (fun _ => true) true Try.f4.params.toList args.toList ds p := hA0
  rw [Try.params4] at hA hval
  obtain ⟨v0, vs0, d0, ds0, p0, q0, hargs, rfl, rfl, h0, r0⟩ := trodAll_cons hA
  obtain ⟨v1, vs1, d1, ds1, p1, q1, rfl, rfl, rfl, h1, r1⟩ := trodAll_cons r0
  obtain ⟨rfl, rfl, rfl⟩ := trodAll_nil r1
  obtain rfl : args = #[v0, v1] := by cases args; simp_all
  obtain ⟨rfl, rfl⟩ := trodVars_none hV
  have t0 := h0
  have lt0 : ∀ x ∈ p0, x.block < W.heap.size := by obtain ⟨m, hm⟩ := t0; exact DataW.trod_lt m _ _ _ hm
  obtain ⟨fu0, hf0⟩ := h0
  obtain ⟨y0, hk0, hg0⟩ := tell25 H enc W fu0 _ _ hf0
  obtain ⟨cs0, rfl, _⟩ := okWide_struct Try.underlying25 (hval 0 25 v0 rfl rfl)
  obtain ⟨A0_4, c0_4, A0_5, c0_5, e0, hl0_4, hc0_4, hl0_5, hc0_5⟩ := k25_open hk0
  obtain rfl : cs0 = #[.int .i64 (y0.f0), .int .i64 (y0.f1), .int .i64 (y0.f2), .int .i64 (y0.f3), .slice A0_4 (y0.f4).length c0_4, .slice A0_5 (y0.f5).length c0_5] := by cases cs0; simpa [Value.cells] using e0
  have t1 := h1
  have lt1 : ∀ x ∈ p1, x.block < W.heap.size := by obtain ⟨m, hm⟩ := t1; exact DataW.trod_lt m _ _ _ hm
  obtain ⟨fu1, hf1⟩ := h1
  obtain ⟨y1, hk1, hg1⟩ := (tell_int Try.underlying3) H enc W fu1 _ _ hf1
  obtain ⟨n1, rfl, _, _, _⟩ := open_int Try.underlying3 (hval 1 3 v1 rfl rfl) t1
  obtain rfl : y1 = n1 := Eq.symm <| by simpa [Value.cells, Kd.int, Kd.scalar] using hk1
  clear hA0 hval0 hsz0
  obtain ⟨k, hpure⟩ := RetainOldest_pure y0 y1 hg0 hg1
  refine (newsreellaw41_RetainOldest.calls k (y0.f0) (y0.f1) (y0.f2) (y0.f3) _ _ (y0.f4) _ _ (y0.f5) (y1) true W hc0_4 hl0_4 hc0_5 hl0_5 rfl hpure).mono fun e W' ⟨he, bel⟩ => ?_
  subst he
  exact ⟨_, rfl, _, _, _, [], _, [], hW', trodAll_mk1 (shut_bool Try.underlying4 _), (trodAll_cons_mk (Below.trod laidOut (by kernel_rfl) (of_decide_eq_true (by kernel_rfl)) t0 bel lt0) (trodAll_cons_mk (Below.trod laidOut (by kernel_rfl) (of_decide_eq_true (by kernel_rfl)) t1 bel lt1) trodAll_mk0)), rfl, bel.frame _, fun h => by cases h⟩
theorem over : Rows.retainOldestRow.holds Try.pinned (OpenSpec.ofChange Rows.retainOldestSpec) :=
  OpenClaim.holds_of_wide 4 Try.f4 rfl rfl rfl rfl rfl rfl rfl ⟨rfl, rfl, rfl, rfl, rfl⟩ rfl rfl rfl rfl rfl (by kernel_rfl) Try.func4 (by kernel_rfl)
    (of_decide_eq_true (by kernel_rfl)) (by unfold Func.isWrapper; first | (rw [if_pos (by decide +kernel)]; kernel_rfl) | (rw [if_neg (by decide +kernel)]; exact ⟨rfl, rfl⟩))
    (fun os started H enc _ => lifted os started H enc)
theorem proved : Rows.RetainOldestSaid := over
#print axioms proved
end Go.Proofs.Ytcpojadlnpnbaaa.retainOldest
namespace Go.Proofs.Ytcpojadlnpnbaaa
/-- The row, under a short name, for the claim. -/
theorem retainOldest_holds : Rows.RetainOldestSaid := retainOldest.proved
end Go.Proofs.Ytcpojadlnpnbaaa
