/- The witness of this seat's rows: a world that holds Go's three tables as the rows list them; and what a shaped world holds in internal/bytealg.MaxLen. -/
import Derived.Test.YtghdkpcpgpfgcaaDoorRows
import Derived.Test.YtghdkpcpgpfgcaaDoorXStbW
import Derived.Test.YtghdkpcpgpfgcaaDoorXl
import Derived.Deep.DeepHandedRow
import Derived.Deep.DeepWitnessRowRef
import Derived.Lib.LaidCaseMet
import Derived.PinnedBridge
import Derived.ProofKit
import Derived.SizedLaws
namespace Go.Proofs.YtghdkpcpgpfgcaaDoor
open Go.Shelf Go.Lib
open Go.Proofs.YtghdkpcpgpfgcaaDoorW.PrintWords
def renM : Go.Shelf.Ren := ⟨fun | 274 => 91 | n => n, fun | 21 => 21 | 162 => 124 | 160 => 130 | 3 => 3 | 4 => 4 | 46 => 99 | 0 => 0 | 208 => 136 | 51 => 31 | 206 => 134 | n => n, fun | 13 => 1 | n => n⟩
theorem laysM274 : Go.Proofs.Lays.n274 Tryd.prog renM := {
  mixed := by kernel_rfl
  f274 := Tryd.func91.trans (congrArg some (by kernel_rfl))
  t0 := Tryd.underlying0
  a0 := Tryd.isAgg0
  z0 := Tryd.sizeOf0
  v0 := Tryd.zeroValue0
  t3 := Tryd.underlying3
  a3 := Tryd.isAgg3
  z3 := Tryd.sizeOf3
  v3 := Tryd.zeroValue3
  t4 := Tryd.underlying4
  a4 := Tryd.isAgg4
  z4 := Tryd.sizeOf4
  v4 := Tryd.zeroValue4
  t21 := Tryd.underlying21
  a21 := Tryd.isAgg21
  z21 := Tryd.sizeOf21
  v21 := Tryd.zeroValue21
  t46 := Tryd.underlying99
  a46 := Tryd.isAgg99
  z46 := Tryd.sizeOf99
  v46 := Tryd.zeroValue99
  t51 := Tryd.underlying31
  a51 := Tryd.isAgg31
  z51 := Tryd.sizeOf31
  v51 := Tryd.zeroValue31
  t160 := Tryd.underlying130
  a160 := Tryd.isAgg130
  z160 := Tryd.sizeOf130
  v160 := Tryd.zeroValue130
  t162 := Tryd.underlying124
  a162 := Tryd.isAgg124
  z162 := Tryd.sizeOf124
  v162 := Tryd.zeroValue124
  t208 := Tryd.underlying136
  a208 := Tryd.isAgg136
  z208 := Tryd.sizeOf136
  v208 := Tryd.zeroValue136 }
theorem extraM : CaseExtra Tryd.prog renM := ⟨by kernel_rfl, by kernel_rfl, by kernel_rfl, by kernel_rfl, by kernel_rfl, by kernel_rfl⟩
theorem ownM : ownKnob Tryd.prog.godebug = none := by kernel_rfl
theorem laidOutM : laidOutB Tryd.prog = true := by kernel_rfl
noncomputable abbrev N0 : Nat := (World.settled Tryd.prog default).heap.size
noncomputable def laidWorld (os : Os) : World :=
  let N := (World.settled Tryd.prog os).heap.size
  let w0 := World.holding Tryd.prog os ⟨#[.cells Lib.caseCells5 (renM.t 208)], #[], []⟩
  let put (h : Array Obj) (g : Nat) (cs : Array Value) : Array Obj := h.modify g fun
    | .cells _ t frozen => .cells cs t frozen
    | o => o
  let h1 := put w0.heap 2 (Lib.firstTab.map fun z => Value.int .u8 z).toArray
  let h2 := put h1 3 ((List.range 16).flatMap fun i => [Value.int .u8 (Lib.accLo i), Value.int .u8 (Lib.accHi i)]).toArray
  let h3 := put h2 1 #[.slice (some ⟨N, 0, none⟩) 336 336]
  { w0 with heap := h3 }
/-- The list with its second and third place changed about. -/
theorem laid_turned {w : World} {x y z : String × DataW Unit} (h : laidMet Tryd.prog [x, y, z] w) : laidMet Tryd.prog [x, z, y] w := by
  obtain ⟨ps, ⟨g1, t1, c1, f1, p1, q1, a1, b1, d1, e1, ⟨g2, t2, c2, f2, p2, q2, a2, b2, d2, e2, ⟨g3, t3, c3, f3, p3, q3, a3, b3, d3, e3, h4, rfl⟩, rfl⟩, rfl⟩, hn, hr⟩ := h
  obtain rfl : q3 = [] := h4
  have hp : List.Perm (MemPlace.row ⟨g1, 0, none⟩ c1.size ++ p1 ++ (MemPlace.row ⟨g2, 0, none⟩ c2.size ++ p2 ++ (MemPlace.row ⟨g3, 0, none⟩ c3.size ++ p3 ++ []))) (MemPlace.row ⟨g1, 0, none⟩ c1.size ++ p1 ++ (MemPlace.row ⟨g3, 0, none⟩ c3.size ++ p3 ++ (MemPlace.row ⟨g2, 0, none⟩ c2.size ++ p2 ++ []))) := by
    refine List.Perm.append_left _ ?_
    rw [List.append_nil, List.append_nil]
    exact List.perm_append_comm
  exact ⟨_, ⟨g1, t1, c1, f1, p1, _, a1, b1, d1, e1, ⟨g3, t3, c3, f3, p3, _, a3, b3, d3, e3, ⟨g2, t2, c2, f2, p2, [], a2, b2, d2, e2, rfl, rfl⟩, rfl⟩, rfl⟩, hp.nodup_iff.1 hn, fun b off hm => hr b off (hp.mem_iff.2 hm)⟩
set_option maxRecDepth 100000 in
theorem laidM (os : Os) (args : Array Value) : laidMet Tryd.prog [("unicode/utf8.acceptRanges", Rows.laid_unicode_utf8_acceptRanges), ("unicode.CaseRanges", Rows.laid_unicode_CaseRanges), ("unicode/utf8.first", Rows.laid_unicode_utf8_first)] ((laidWorld os).forCall (fun _ _ => 0) ⟨#[], args, []⟩).memory := by
  rw [show Rows.laid_unicode_utf8_first = Lib.firstData from Pinned.utf8First_eq, show Rows.laid_unicode_CaseRanges = Lib.caseData from Pinned.caseRanges_eq]
  exact laid_turned (laidMet_with_case (ρ := renM) laysM274 Tryd.underlying134 extraM (l := [("unicode/utf8.acceptRanges", Rows.laid_unicode_utf8_acceptRanges), ("unicode/utf8.first", Lib.firstData)])
    10 (by kernel_rfl) (by kernel_rfl) (by kernel_rfl) N0 (renM.t 208) (of_decide_eq_true (by kernel_rfl)) (by kernel_rfl) (by kernel_rfl) (by kernel_rfl))
theorem shapedG {W : World} (h : W.ShapedOpen Tryd.prog) : Gw W := Tryd.laysM144.s1_3 W h
end Go.Proofs.YtghdkpcpgpfgcaaDoor
