/- StampBack: the law answers true whatever comes in, and each argument reads behind the call as it read before. Conditions: Go's three tables read as the row lists them. -/
import Derived.Test.YtghdkpcpgpfgcaaDoorXm
import Derived.Test.YtghdkpcpgpfgcaaDoorXStaPureStampBack
import Derived.Test.YtghdkpcpgpfgcaaDoorTie
import Derived.Test.YtghdkpcpgpfgcaaDoorCards
import Derived.WalkKit
import Derived.OpenShut
import Derived.ShutString
import Derived.ChangeOld
import Derived.Below
import Derived.SevenTiedAt
namespace Go.Proofs.YtghdkpcpgpfgcaaDoor.stampBack
open Go.ChangeShapes Go.WideShapes Go.ChangeAt Go.RowKit
open Go.ChangeMaps (open_string shut_string)
open Go.Proofs.YtghdkpcpgpfgcaaDoorW.PrintWords Go.Proofs.YtghdkpcpgpfgcaaDoor.XSta
set_option linter.unusedVariables false
theorem laidOut : laidOutB Tryd.prog = true := laidOutM
set_option maxRecDepth 100000 in
theorem witness_row (os : Os) {H : Type} (enc : TypeId × Value → H) :
    (OpenSpec.ofChange Rows.stampBackSpec).preRow enc Tryd.prog Tryd.f4 Rows.stampBackRow.domain false Rows.stampBackRow.laid ((laidWorld os).forCall (fun _ _ => 0) ⟨#[], #[.int .u32 0, .int .u16 0], []⟩).memory #[.int .u32 0, .int .u16 0] := by
  have hw : (DataW.whole enc Tryd.prog ((laidWorld os).forCall (fun _ _ => 0) ⟨#[], #[.int .u32 0, .int .u16 0], []⟩).memory Tryd.f4.params.toList (OpenSpec.ofChange Rows.stampBackSpec).vars false (#[.int .u32 0, .int .u16 0] : Array Value).toList 8).map (fun x => (x.1, x.2.1)) =
      some ([.lit (.int .u32 0), .lit (.int .u16 0)], []) := by kernel_rfl
  obtain ⟨⟨x1, x2, x3⟩, hx, hx1⟩ := Option.map_eq_some_iff.1 hw
  simp only [Prod.mk.injEq] at hx1
  obtain ⟨rfl, rfl⟩ := hx1
  exact OpenSpec.preRow_of_cond 8 hx (by kernel_rfl) (fun k hk => by cases hk) (by kernel_rfl) (laidM os _)
set_option maxRecDepth 100000 in
set_option maxHeartbeats 4000000 in
theorem lifted (os : Os) (started : os.Started) (H : Type) (enc : TypeId × Value → H) (F : Stop.Interp) :
    ReturnsInHanded {} Tryd.checked os 4 .any ((OpenSpec.ofChange Rows.stampBackSpec).preRow enc Tryd.prog Tryd.f4 Rows.stampBackRow.domain false Rows.stampBackRow.laid) (((OpenSpec.ofChange Rows.stampBackSpec).at F).post enc Tryd.prog Tryd.f4 false true false false) := by
  refine returnsInHanded_of_row (C := Tryd.checked) (s := (OpenSpec.ofChange Rows.stampBackSpec)) ownM started (by kernel_rfl) Tryd.func4
    (witness_row_atRef (enc := enc) (C := Tryd.checked) false (laidWorld os) #[.int .u32 0, .int .u16 0] rfl (by kernel_rfl) (by kernel_rfl) (by kernel_rfl) (witness_row os enc)) ?_
  intro W base args ds gs before hval0 hW hcnd hcond0 hsz0 hL hsh _
  have hval : ∀ (j : Nat) t v, Tryd.f4.params[j]? = some t → args[j]? = some v → Value.okWide Tryd.prog W .any base t v := hval0
  have hW' := hW
  obtain ⟨p, q, hA0, hV, rfl, hfz, hnd⟩ := hW
  have hA : DataW.TrodAll enc Tryd.prog W 0 (fun _ => true) true Tryd.f4.params.toList args.toList ds p := hA0
  rw [Tryd.params4] at hA hval
  obtain ⟨v0, vs0, d0, ds0, p0, q0, hargs, rfl, rfl, h0, r0⟩ := trodAll_cons hA
  obtain ⟨v1, vs1, d1, ds1, p1, q1, rfl, rfl, rfl, h1, r1⟩ := trodAll_cons r0
  obtain ⟨rfl, rfl, rfl⟩ := trodAll_nil r1
  obtain rfl : args = #[v0, v1] := by cases args; simp_all
  obtain ⟨rfl, rfl⟩ := trodVars_none hV
  have t0 := h0
  have lt0 : ∀ x ∈ p0, x.block < W.heap.size := by obtain ⟨m, hm⟩ := t0; exact DataW.trod_lt m _ _ _ hm
  obtain ⟨fu0, hf0⟩ := h0
  obtain ⟨y0, hk0, hg0⟩ := (tell_int Tryd.underlying31) H enc W fu0 _ _ hf0
  obtain ⟨n0, rfl, _, _, _⟩ := open_int Tryd.underlying31 (hval 0 31 v0 rfl rfl) t0
  obtain rfl : y0 = n0 := Eq.symm <| by simpa [Value.cells, Kd.int, Kd.scalar] using hk0
  have t1 := h1
  have lt1 : ∀ x ∈ p1, x.block < W.heap.size := by obtain ⟨m, hm⟩ := t1; exact DataW.trod_lt m _ _ _ hm
  obtain ⟨fu1, hf1⟩ := h1
  obtain ⟨y1, hk1, hg1⟩ := (tell_int Tryd.underlying32) H enc W fu1 _ _ hf1
  obtain ⟨n1, rfl, _, _, _⟩ := open_int Tryd.underlying32 (hval 1 32 v1 rfl rfl) t1
  obtain rfl : y1 = n1 := Eq.symm <| by simpa [Value.cells, Kd.int, Kd.scalar] using hk1
  clear hA0 hval0 hsz0
  obtain ⟨k, hpure⟩ := StampBack_pure y0 y1 hg0 hg1
  refine (newsreellaw17_StampBack.calls k (y0) (y1) true W (shapedG hsh) rfl hpure).mono fun e W' ⟨he, bel⟩ => ?_
  subst he
  exact ⟨_, rfl, _, _, _, [], _, [], hW', trodAll_mk1 (shut_bool Tryd.underlying4 _), (trodAll_cons_mk (Below.trod laidOut (by kernel_rfl) (of_decide_eq_true (by kernel_rfl)) t0 bel lt0) (trodAll_cons_mk (Below.trod laidOut (by kernel_rfl) (of_decide_eq_true (by kernel_rfl)) t1 bel lt1) trodAll_mk0)), rfl, bel.frame _, fun h => by cases h⟩
theorem over : Rows.stampBackRow.holds Tryd.pinned (OpenSpec.ofChange Rows.stampBackSpec) :=
  OpenClaim.holds_of_cond 4 Tryd.f4 rfl rfl rfl rfl rfl rfl rfl ⟨rfl, rfl, rfl, rfl, rfl⟩ rfl rfl rfl rfl rfl (by kernel_rfl) Tryd.func4 (by kernel_rfl)
    (of_decide_eq_true (by kernel_rfl)) (by unfold Func.isWrapper; first | (rw [if_pos (by decide +kernel)]; kernel_rfl) | (rw [if_neg (by decide +kernel)]; exact ⟨rfl, rfl⟩))
    (fun os started H enc _ F0 => by rw [OpenClaim.pre_eq_preRow]; exact lifted os started H enc F0)
theorem proved : Rows.StampBackSaid := over
theorem card : Rows.StampBackCardSaid :=
  Claim7.holds_tied_plain_at .later [] [.data, .pinned, .pinned] true (true, "760419fc588ea364bdd026f7f80985042afd9e89c91bef60e98b846d09c84896") false
    proved (fun _ h => by cases h) (by kernel_rfl) (fun _ h => by cases h) stampBack_row_tie rfl ⟨rfl, rfl⟩ (by kernel_rfl) rfl
    (fun f fn hf hfn => by
      obtain rfl : f = 4 := Option.some.inj ((show Tryd.prog.funcNamed "newsreel/newsreellaw17.StampBack" = some 4 by kernel_rfl).symm.trans hf) |>.symm
      obtain rfl : fn = Tryd.f4 := (Option.some.inj (Tryd.func4.symm.trans hfn)).symm
      exact ⟨by kernel_rfl, fun j t ht => by
        rw [Tryd.params4] at ht
        have hm : t ∈ [31, 32] := by
          have := List.mem_of_getElem? (show [31, 32][j]? = some t by simpa using ht)
          exact this
        simp only [List.mem_cons, List.not_mem_nil, or_false] at hm
        rcases hm with rfl | rfl
        · exact (show Tryd.prog.wantsStandIn 31 = false by kernel_rfl)
        · exact (show Tryd.prog.wantsStandIn 32 = false by kernel_rfl)⟩)
    (by kernel_rfl)
end Go.Proofs.YtghdkpcpgpfgcaaDoor.stampBack
namespace Go.Proofs.YtghdkpcpgpfgcaaDoor
/-- The card, under a short name, for the claim. -/
theorem stampBack_holds : Rows.StampBackCardSaid := stampBack.card
#print axioms stampBack_holds
end Go.Proofs.YtghdkpcpgpfgcaaDoor
