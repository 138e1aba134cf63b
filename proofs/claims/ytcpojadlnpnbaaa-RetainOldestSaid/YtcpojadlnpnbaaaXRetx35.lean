-- By a program of this work (xprint.py) over the translation; Lean checks it.
import Derived.Test.YtcpojadlnpnbaaaXRetx0
import Derived.Test.YtcpojadlnpnbaaaXRetx5
import Derived.Test.YtcpojadlnpnbaaaXRetx6
import Derived.Test.YtcpojadlnpnbaaaXRetx21
import Derived.Test.YtcpojadlnpnbaaaXRetx26
import Derived.Test.YtcpojadlnpnbaaaXRetx27
import Derived.Test.YtcpojadlnpnbaaaXRetx32
namespace Go.Proofs.Ytcpojadlnpnbaaa.XRet
open Go.RowKit Go.Proofs.YtcpojadlnpnbaaaW.PrintWords Go.Proofs.YtcpojadlnpnbaaaW.PrintLast Go.Proofs.YtcpojadlnpnbaaaW.PrintMore
attribute [local go_sem] max2_int min2_int max_two min_two max_three min_three max_four min_four   -- for this text's walks alone
set_option linter.unusedVariables false
set_option linter.unusedSimpArgs false

theorem load_row3w_ {P : Program} {ops : Array Oper} {o : Oper} {a : Act} {Q : Exit → Act → World → Prop} {rest : List Oper} {W0 W : World} (hw : Region.wanted o (yielded ops a.tmps) = true) {t : TypeId} {g : Nat} {cs : Array Value} {d : TypeDesc} (_h0 : W0.heap[g]? = some (.cells cs t (0, 0))) (ho : ∃ x, o.op = .load t x ∧ a.eval x = .pointer (some ⟨g, 0, none⟩)) (hg : W.heap[g]? = some (.cells cs t (0, 0)))
    (hu : P.underlying t = some d) (hd : (match d with | .struct _ | .array _ _ => true | _ => false) = true) (hi : (P.info? t).map (·.size) = some cs.size)
    (h : wpList P ops Q rest (a.put o.dst (.agg cs)) W) : wpList P ops Q (o :: rest) a W := by
  obtain ⟨x, ho, hx⟩ := ho
  have hl : (loadCells ⟨g, 0, none⟩ cs.size).run P W = .ok cs W := by
    have h1 := run_loadCells_list (P := P) W ⟨g, 0, none⟩ cs.toList (fun j v hv => by
      rw [add_plain, blk_cell hg j]
      simpa using hv)
    simpa using h1
  have hrun : (execOp a.eval o).run P W = .ok (.value (.agg cs)) W := by
    have hv : (loadVar t ⟨g, 0, none⟩).run P W = .ok (.agg cs) W := by
      cases hq : P.info? t with
      | none => simp [hq] at hi
      | some i =>
        have hs : i.size = cs.size := by simpa [hq] using hi
        have hagg : (isAgg t).run P W = .ok true W := by
          unfold isAgg
          rw [Sem.run_bind, run_underlying hu W]
          cases d <;> simp_all
        rw [← hs] at hl
        simp [loadVar, Sem.run_bind, hagg, sizeOf, typeInfo, hq, hl]
    unfold execOp
    simp only [ho, hx, Instr.loadAt, Instr.sureAddr, Sem.run_bind, Sem.run_pure, Result.andThen_ok, hv]
  refine BigFrame.wpList_want hw fun K hK => ?_
  unfold Oper.wp
  rw [hrun]
  exact hK _ _ h
/-! ### newsreellaw41_RetainOldest: function 4 -/
mutual
def newsreellaw41_RetainOldest.j0 : Nat → Int → Bool → Int → Int → Int → Int → List (S43) → List (S29) → Option (Bool)
 | 0, _, _, _, _, _, _, _, _ => none
 | k + 1, x1, x22, x403000, x403001, x403002, x403003, x403004, x403005 => if x22 = true then ((newsreellaw41_awake.f k).bind fun t405 => (some t405)) else ((retain_Over.f k x403000 x403001 x403002 x403003 x403004 x403005 x1).bind fun t406 => (newsreellaw41_RetainOldest.l0 k x1 t406 0 0 0 x403000 x403001 x403002 x403003 x403004 x403005))
def newsreellaw41_RetainOldest.l0 : Nat → Int → List Int → Int → Int → Int → Int → Int → Int → Int → List (S43) → List (S29) → Option (Bool)
 | 0, _, _, _, _, _, _, _, _, _, _, _ => none
 | k + 1, x1, x5, x6, x7, x8, x403000, x403001, x403002, x403003, x403004, x403005 => if x8 < (x403005.length : Int) then (if 0 ≤ x8 then (newsreellaw41_RetainOldest.l1 k x1 x5 x6 x7 x8 false 0 x403000 x403001 x403002 x403003 x403004 x403005 ((rd_T29 x403005 x8).f0) ((rd_T29 x403005 x8).f1) ((rd_T29 x403005 x8).f2) ((rd_T29 x403005 x8).f3) ((rd_T29 x403005 x8).f4) ((rd_T29 x403005 x8).f5) ((rd_T29 x403005 x8).f6) ((rd_T29 x403005 x8).f7) ((rd_T29 x403005 x8).f8) ((rd_T29 x403005 x8).f9) ((rd_T29 x403005 x8).f10) ((rd_T29 x403005 x8).f11) ((rd_T29 x403005 x8).f12) ((rd_T29 x403005 x8).f13) ((rd_T29 x403005 x8).f14) ((rd_T29 x403005 x8).f15) ((rd_T29 x403005 x8).f16) ((rd_T29 x403005 x8).f17) ((rd_T29 x403005 x8).f18) ((rd_T29 x403005 x8).f19)) else (none)) else (if (x5.length : Int) = 0 then (if x6 ≤ x403000 then ((newsreellaw41_awake.f k).bind fun t437 => (some t437)) else (if x7 = 0 then ((newsreellaw41_awake.f k).bind fun t438 => (some t438)) else (if x403000 < 0 then (if x6 = 0 then ((newsreellaw41_awake.f k).bind fun t439 => (some t439)) else (some false)) else (some false)))) else (if x6 ≥ x403000 then (if x6 ≤ x403000 then ((newsreellaw41_awake.f k).bind fun t440 => (some t440)) else (if x7 = 0 then ((newsreellaw41_awake.f k).bind fun t441 => (some t441)) else (if x403000 < 0 then (if x6 = 0 then ((newsreellaw41_awake.f k).bind fun t442 => (some t442)) else (some false)) else (some false)))) else (some false)))
def newsreellaw41_RetainOldest.l1 : Nat → Int → List Int → Int → Int → Int → Bool → Int → Int → Int → Int → Int → List (S43) → List (S29) → Int → Int → ByteArray → ByteArray → ByteArray → Int → Int → Int → Int → Bool → Int → Int → Int → ByteArray → Int → Int → ByteArray → Int → Int → ByteArray → Option (Bool)
 | 0, _, _, _, _, _, _, _, _, _, _, _, _, _, _, _, _, _, _, _, _, _, _, _, _, _, _, _, _, _, _, _, _, _ => none
 | k + 1, x1, x5, x6, x7, x8, x10, x11, x403000, x403001, x403002, x403003, x403004, x403005, x411000, x411001, x411002, x411003, x411004, x411005, x411006, x411007, x411008, x411009, x411010, x411011, x411012, x411013, x411014, x411015, x411016, x411017, x411018, x411019 => if x11 < (x5.length : Int) then (if x10 = true then (newsreellaw41_RetainOldest.l1 k x1 x5 x6 x7 x8 true (wrap64 (x11 + 1)) x403000 x403001 x403002 x403003 x403004 x403005 x411000 x411001 x411002 x411003 x411004 x411005 x411006 x411007 x411008 x411009 x411010 x411011 x411012 x411013 x411014 x411015 x411016 x411017 x411018 x411019) else (if 0 ≤ x11 then (newsreellaw41_RetainOldest.l1 k x1 x5 x6 x7 x8 ((rd x5 x11) == x411000) (wrap64 (x11 + 1)) x403000 x403001 x403002 x403003 x403004 x403005 x411000 x411001 x411002 x411003 x411004 x411005 x411006 x411007 x411008 x411009 x411010 x411011 x411012 x411013 x411014 x411015 x411016 x411017 x411018 x411019) else (none))) else (if x10 = true then ((newsreelref41_May.f x411000 x411001 x411002 x411003 x411004 x411005 x411006 x411007 x411008 x411009 x411010 x411011 x411012 x411013 x411014 x411015 x411016 x411017 x411018 x411019 x1).bind fun t412 => (newsreellaw41_RetainOldest.j3 k x1 x5 x6 x7 x8 x10 (!t412) x403000 x403001 x403002 x403003 x403004 x403005 x411000 x411001 x411002 x411003 x411004 x411005 x411006 x411007 x411008 x411009 x411010 x411011 x411012 x411013 x411014 x411015 x411016 x411017 x411018 x411019)) else (newsreellaw41_RetainOldest.j3 k x1 x5 x6 x7 x8 x10 false x403000 x403001 x403002 x403003 x403004 x403005 x411000 x411001 x411002 x411003 x411004 x411005 x411006 x411007 x411008 x411009 x411010 x411011 x411012 x411013 x411014 x411015 x411016 x411017 x411018 x411019))
def newsreellaw41_RetainOldest.j3 : Nat → Int → List Int → Int → Int → Int → Bool → Bool → Int → Int → Int → Int → List (S43) → List (S29) → Int → Int → ByteArray → ByteArray → ByteArray → Int → Int → Int → Int → Bool → Int → Int → Int → ByteArray → Int → Int → ByteArray → Int → Int → ByteArray → Option (Bool)
 | 0, _, _, _, _, _, _, _, _, _, _, _, _, _, _, _, _, _, _, _, _, _, _, _, _, _, _, _, _, _, _, _, _, _ => none
 | k + 1, x1, x5, x6, x7, x8, x10, x61, x403000, x403001, x403002, x403003, x403004, x403005, x411000, x411001, x411002, x411003, x411004, x411005, x411006, x411007, x411008, x411009, x411010, x411011, x411012, x411013, x411014, x411015, x411016, x411017, x411018, x411019 => if x61 = true then (some false) else (if x10 = true then (newsreellaw41_RetainOldest.j4 k x1 x5 x6 x7 x8 true x403000 x403001 x403002 x403003 x403004 x403005 x411000 x411001 x411002 x411003 x411004 x411005 x411006 x411007 x411008 x411009 x411010 x411011 x411012 x411013 x411014 x411015 x411016 x411017 x411018 x411019) else (if x411001 = x1 then (newsreellaw41_RetainOldest.j4 k x1 x5 x6 x7 x8 (x411007 != 3) x403000 x403001 x403002 x403003 x403004 x403005 x411000 x411001 x411002 x411003 x411004 x411005 x411006 x411007 x411008 x411009 x411010 x411011 x411012 x411013 x411014 x411015 x411016 x411017 x411018 x411019) else (newsreellaw41_RetainOldest.j4 k x1 x5 x6 x7 x8 true x403000 x403001 x403002 x403003 x403004 x403005 x411000 x411001 x411002 x411003 x411004 x411005 x411006 x411007 x411008 x411009 x411010 x411011 x411012 x411013 x411014 x411015 x411016 x411017 x411018 x411019)))
def newsreellaw41_RetainOldest.j4 : Nat → Int → List Int → Int → Int → Int → Bool → Int → Int → Int → Int → List (S43) → List (S29) → Int → Int → ByteArray → ByteArray → ByteArray → Int → Int → Int → Int → Bool → Int → Int → Int → ByteArray → Int → Int → ByteArray → Int → Int → ByteArray → Option (Bool)
 | 0, _, _, _, _, _, _, _, _, _, _, _, _, _, _, _, _, _, _, _, _, _, _, _, _, _, _, _, _, _, _, _, _ => none
 | k + 1, x1, x5, x6, x7, x8, x73, x403000, x403001, x403002, x403003, x403004, x403005, x411000, x411001, x411002, x411003, x411004, x411005, x411006, x411007, x411008, x411009, x411010, x411011, x411012, x411013, x411014, x411015, x411016, x411017, x411018, x411019 => if x73 = true then (newsreellaw41_RetainOldest.l0 k x1 x5 x6 x7 (wrap64 (x8 + 1)) x403000 x403001 x403002 x403003 x403004 x403005) else ((newsreelref41_May.f x411000 x411001 x411002 x411003 x411004 x411005 x411006 x411007 x411008 x411009 x411010 x411011 x411012 x411013 x411014 x411015 x411016 x411017 x411018 x411019 x1).bind fun t413 => (if t413 = true then (newsreellaw41_RetainOldest.l2 k x1 x5 (wrap64 (x6 + 1)) (wrap64 (x7 + 1)) x8 0 x403000 x403001 x403002 x403003 x403004 x403005 x411000 x411001 x411002 x411003 x411004 x411005 x411006 x411007 x411008 x411009 x411010 x411011 x411012 x411013 x411014 x411015 x411016 x411017 x411018 x411019) else (newsreellaw41_RetainOldest.l0 k x1 x5 (wrap64 (x6 + 1)) x7 (wrap64 (x8 + 1)) x403000 x403001 x403002 x403003 x403004 x403005)))
def newsreellaw41_RetainOldest.l2 : Nat → Int → List Int → Int → Int → Int → Int → Int → Int → Int → Int → List (S43) → List (S29) → Int → Int → ByteArray → ByteArray → ByteArray → Int → Int → Int → Int → Bool → Int → Int → Int → ByteArray → Int → Int → ByteArray → Int → Int → ByteArray → Option (Bool)
 | 0, _, _, _, _, _, _, _, _, _, _, _, _, _, _, _, _, _, _, _, _, _, _, _, _, _, _, _, _, _, _, _, _ => none
 | k + 1, x1, x5, x6, x7, x8, x12, x403000, x403001, x403002, x403003, x403004, x403005, x411000, x411001, x411002, x411003, x411004, x411005, x411006, x411007, x411008, x411009, x411010, x411011, x411012, x411013, x411014, x411015, x411016, x411017, x411018, x411019 => if x12 < (x5.length : Int) then (if 0 ≤ x12 then ((newsreelref15_Ep.f k x403000 x403001 x403002 x403003 x403004 x403005 (rd x5 x12)).bind fun bt415 => (if bt415.2.2.2.2.2.1 > x411005 then (some false) else (if bt415.2.2.2.2.2.1 = x411005 then (if bt415.1 > x411000 then (some false) else (newsreellaw41_RetainOldest.l2 k x1 x5 x6 x7 x8 (wrap64 (x12 + 1)) x403000 x403001 x403002 x403003 x403004 x403005 x411000 x411001 x411002 x411003 x411004 x411005 x411006 x411007 x411008 x411009 x411010 x411011 x411012 x411013 x411014 x411015 x411016 x411017 x411018 x411019)) else (newsreellaw41_RetainOldest.l2 k x1 x5 x6 x7 x8 (wrap64 (x12 + 1)) x403000 x403001 x403002 x403003 x403004 x403005 x411000 x411001 x411002 x411003 x411004 x411005 x411006 x411007 x411008 x411009 x411010 x411011 x411012 x411013 x411014 x411015 x411016 x411017 x411018 x411019)))) else (none)) else (newsreellaw41_RetainOldest.l0 k x1 x5 x6 x7 (wrap64 (x8 + 1)) x403000 x403001 x403002 x403003 x403004 x403005)
end
def newsreellaw41_RetainOldest.f (k : Nat) (a0_0 : Int) (a0_1 : Int) (a0_2 : Int) (a0_3 : Int) (l0_4 : List (S43)) (l0_5 : List (S29)) (a1 : Int) : Option (Bool) := (newsreelref15_Light.f k a0_0 a0_1 a0_2 a0_3 l0_4 l0_5).bind fun t403 => (if t403 = true then ((newsreelref41_Once.f k a0_0 a0_1 a0_2 a0_3 l0_4 l0_5).bind fun t404 => (newsreellaw41_RetainOldest.j0 k a1 (!t404) a0_0 a0_1 a0_2 a0_3 l0_4 l0_5)) else (newsreellaw41_RetainOldest.j0 k a1 true a0_0 a0_1 a0_2 a0_3 l0_4 l0_5))
theorem newsreellaw41_RetainOldest.mono_l : ∀ k, (∀ y0 y1 y2 y3 y4 y5 y6 y7, LeO (newsreellaw41_RetainOldest.j0 k y0 y1 y2 y3 y4 y5 y6 y7) (newsreellaw41_RetainOldest.j0 (k + 1) y0 y1 y2 y3 y4 y5 y6 y7)) ∧ (∀ y0 y1 y2 y3 y4 y5 y6 y7 y8 y9 y10, LeO (newsreellaw41_RetainOldest.l0 k y0 y1 y2 y3 y4 y5 y6 y7 y8 y9 y10) (newsreellaw41_RetainOldest.l0 (k + 1) y0 y1 y2 y3 y4 y5 y6 y7 y8 y9 y10)) ∧ (∀ y0 y1 y2 y3 y4 y5 y6 y7 y8 y9 y10 y11 y12 y13 y14 y15 y16 y17 y18 y19 y20 y21 y22 y23 y24 y25 y26 y27 y28 y29 y30 y31 y32, LeO (newsreellaw41_RetainOldest.l1 k y0 y1 y2 y3 y4 y5 y6 y7 y8 y9 y10 y11 y12 y13 y14 y15 y16 y17 y18 y19 y20 y21 y22 y23 y24 y25 y26 y27 y28 y29 y30 y31 y32) (newsreellaw41_RetainOldest.l1 (k + 1) y0 y1 y2 y3 y4 y5 y6 y7 y8 y9 y10 y11 y12 y13 y14 y15 y16 y17 y18 y19 y20 y21 y22 y23 y24 y25 y26 y27 y28 y29 y30 y31 y32)) ∧ (∀ y0 y1 y2 y3 y4 y5 y6 y7 y8 y9 y10 y11 y12 y13 y14 y15 y16 y17 y18 y19 y20 y21 y22 y23 y24 y25 y26 y27 y28 y29 y30 y31 y32, LeO (newsreellaw41_RetainOldest.j3 k y0 y1 y2 y3 y4 y5 y6 y7 y8 y9 y10 y11 y12 y13 y14 y15 y16 y17 y18 y19 y20 y21 y22 y23 y24 y25 y26 y27 y28 y29 y30 y31 y32) (newsreellaw41_RetainOldest.j3 (k + 1) y0 y1 y2 y3 y4 y5 y6 y7 y8 y9 y10 y11 y12 y13 y14 y15 y16 y17 y18 y19 y20 y21 y22 y23 y24 y25 y26 y27 y28 y29 y30 y31 y32)) ∧ (∀ y0 y1 y2 y3 y4 y5 y6 y7 y8 y9 y10 y11 y12 y13 y14 y15 y16 y17 y18 y19 y20 y21 y22 y23 y24 y25 y26 y27 y28 y29 y30 y31, LeO (newsreellaw41_RetainOldest.j4 k y0 y1 y2 y3 y4 y5 y6 y7 y8 y9 y10 y11 y12 y13 y14 y15 y16 y17 y18 y19 y20 y21 y22 y23 y24 y25 y26 y27 y28 y29 y30 y31) (newsreellaw41_RetainOldest.j4 (k + 1) y0 y1 y2 y3 y4 y5 y6 y7 y8 y9 y10 y11 y12 y13 y14 y15 y16 y17 y18 y19 y20 y21 y22 y23 y24 y25 y26 y27 y28 y29 y30 y31)) ∧ (∀ y0 y1 y2 y3 y4 y5 y6 y7 y8 y9 y10 y11 y12 y13 y14 y15 y16 y17 y18 y19 y20 y21 y22 y23 y24 y25 y26 y27 y28 y29 y30 y31, LeO (newsreellaw41_RetainOldest.l2 k y0 y1 y2 y3 y4 y5 y6 y7 y8 y9 y10 y11 y12 y13 y14 y15 y16 y17 y18 y19 y20 y21 y22 y23 y24 y25 y26 y27 y28 y29 y30 y31) (newsreellaw41_RetainOldest.l2 (k + 1) y0 y1 y2 y3 y4 y5 y6 y7 y8 y9 y10 y11 y12 y13 y14 y15 y16 y17 y18 y19 y20 y21 y22 y23 y24 y25 y26 y27 y28 y29 y30 y31))
 | 0 => ⟨fun _ _ _ _ _ _ _ _ r h => by simp [newsreellaw41_RetainOldest.j0] at h, fun _ _ _ _ _ _ _ _ _ _ _ r h => by simp [newsreellaw41_RetainOldest.l0] at h, fun _ _ _ _ _ _ _ _ _ _ _ _ _ _ _ _ _ _ _ _ _ _ _ _ _ _ _ _ _ _ _ _ _ r h => by simp [newsreellaw41_RetainOldest.l1] at h, fun _ _ _ _ _ _ _ _ _ _ _ _ _ _ _ _ _ _ _ _ _ _ _ _ _ _ _ _ _ _ _ _ _ r h => by simp [newsreellaw41_RetainOldest.j3] at h, fun _ _ _ _ _ _ _ _ _ _ _ _ _ _ _ _ _ _ _ _ _ _ _ _ _ _ _ _ _ _ _ _ r h => by simp [newsreellaw41_RetainOldest.j4] at h, fun _ _ _ _ _ _ _ _ _ _ _ _ _ _ _ _ _ _ _ _ _ _ _ _ _ _ _ _ _ _ _ _ r h => by simp [newsreellaw41_RetainOldest.l2] at h⟩
 | k + 1 => by
  obtain ⟨ih0, ih1, ih2, ih3, ih4, ih5⟩ := newsreellaw41_RetainOldest.mono_l k
  refine ⟨?_, ?_, ?_, ?_, ?_, ?_⟩
  ·intro y0 y1 y2 y3 y4 y5 y6 y7
   unfold newsreellaw41_RetainOldest.j0
   repeat' first
   | (with_reducible exact ih0 _ _ _ _ _ _ _ _)
   | (with_reducible exact ih1 _ _ _ _ _ _ _ _ _ _ _)
   | (with_reducible exact ih2 _ _ _ _ _ _ _ _ _ _ _ _ _ _ _ _ _ _ _ _ _ _ _ _ _ _ _ _ _ _ _ _ _)
   | (with_reducible exact ih3 _ _ _ _ _ _ _ _ _ _ _ _ _ _ _ _ _ _ _ _ _ _ _ _ _ _ _ _ _ _ _ _ _)
   | (with_reducible exact ih4 _ _ _ _ _ _ _ _ _ _ _ _ _ _ _ _ _ _ _ _ _ _ _ _ _ _ _ _ _ _ _ _)
   | (with_reducible exact ih5 _ _ _ _ _ _ _ _ _ _ _ _ _ _ _ _ _ _ _ _ _ _ _ _ _ _ _ _ _ _ _ _)
   | (with_reducible exact newsreellaw41_awake.mono _)
   | (with_reducible exact newsreelref15_Ep.mono _ _ _ _ _ _ _ _)
   | (with_reducible exact newsreelref15_Light.mono _ _ _ _ _ _ _)
   | (with_reducible exact newsreelref41_Once.mono _ _ _ _ _ _ _)
   | (with_reducible exact retain_Over.mono _ _ _ _ _ _ _ _)
   | (with_reducible exact LeO.refl _)
   | (with_reducible exact LeO.none _)
   | (with_reducible refine LeO.ite ?_ ?_)
   | (with_reducible refine LeO.bind ?_ (fun _ => ?_))
   | exact ih0 _ _ _ _ _ _ _ _
   | exact ih1 _ _ _ _ _ _ _ _ _ _ _
   | exact ih2 _ _ _ _ _ _ _ _ _ _ _ _ _ _ _ _ _ _ _ _ _ _ _ _ _ _ _ _ _ _ _ _ _
   | exact ih3 _ _ _ _ _ _ _ _ _ _ _ _ _ _ _ _ _ _ _ _ _ _ _ _ _ _ _ _ _ _ _ _ _
   | exact ih4 _ _ _ _ _ _ _ _ _ _ _ _ _ _ _ _ _ _ _ _ _ _ _ _ _ _ _ _ _ _ _ _
   | exact ih5 _ _ _ _ _ _ _ _ _ _ _ _ _ _ _ _ _ _ _ _ _ _ _ _ _ _ _ _ _ _ _ _
   | exact newsreellaw41_awake.mono _
   | exact newsreelref15_Ep.mono _ _ _ _ _ _ _ _
   | exact newsreelref15_Light.mono _ _ _ _ _ _ _
   | exact newsreelref41_Once.mono _ _ _ _ _ _ _
   | exact retain_Over.mono _ _ _ _ _ _ _ _
   | exact LeO.none _
   | refine LeO.ite ?_ ?_
   | refine LeO.bind ?_ (fun _ => ?_)
  ·intro y0 y1 y2 y3 y4 y5 y6 y7 y8 y9 y10
   unfold newsreellaw41_RetainOldest.l0
   repeat' first
   | (with_reducible exact ih0 _ _ _ _ _ _ _ _)
   | (with_reducible exact ih1 _ _ _ _ _ _ _ _ _ _ _)
   | (with_reducible exact ih2 _ _ _ _ _ _ _ _ _ _ _ _ _ _ _ _ _ _ _ _ _ _ _ _ _ _ _ _ _ _ _ _ _)
   | (with_reducible exact ih3 _ _ _ _ _ _ _ _ _ _ _ _ _ _ _ _ _ _ _ _ _ _ _ _ _ _ _ _ _ _ _ _ _)
   | (with_reducible exact ih4 _ _ _ _ _ _ _ _ _ _ _ _ _ _ _ _ _ _ _ _ _ _ _ _ _ _ _ _ _ _ _ _)
   | (with_reducible exact ih5 _ _ _ _ _ _ _ _ _ _ _ _ _ _ _ _ _ _ _ _ _ _ _ _ _ _ _ _ _ _ _ _)
   | (with_reducible exact newsreellaw41_awake.mono _)
   | (with_reducible exact newsreelref15_Ep.mono _ _ _ _ _ _ _ _)
   | (with_reducible exact newsreelref15_Light.mono _ _ _ _ _ _ _)
   | (with_reducible exact newsreelref41_Once.mono _ _ _ _ _ _ _)
   | (with_reducible exact retain_Over.mono _ _ _ _ _ _ _ _)
   | (with_reducible exact LeO.refl _)
   | (with_reducible exact LeO.none _)
   | (with_reducible refine LeO.ite ?_ ?_)
   | (with_reducible refine LeO.bind ?_ (fun _ => ?_))
   | exact ih0 _ _ _ _ _ _ _ _
   | exact ih1 _ _ _ _ _ _ _ _ _ _ _
   | exact ih2 _ _ _ _ _ _ _ _ _ _ _ _ _ _ _ _ _ _ _ _ _ _ _ _ _ _ _ _ _ _ _ _ _
   | exact ih3 _ _ _ _ _ _ _ _ _ _ _ _ _ _ _ _ _ _ _ _ _ _ _ _ _ _ _ _ _ _ _ _ _
   | exact ih4 _ _ _ _ _ _ _ _ _ _ _ _ _ _ _ _ _ _ _ _ _ _ _ _ _ _ _ _ _ _ _ _
   | exact ih5 _ _ _ _ _ _ _ _ _ _ _ _ _ _ _ _ _ _ _ _ _ _ _ _ _ _ _ _ _ _ _ _
   | exact newsreellaw41_awake.mono _
   | exact newsreelref15_Ep.mono _ _ _ _ _ _ _ _
   | exact newsreelref15_Light.mono _ _ _ _ _ _ _
   | exact newsreelref41_Once.mono _ _ _ _ _ _ _
   | exact retain_Over.mono _ _ _ _ _ _ _ _
   | exact LeO.none _
   | refine LeO.ite ?_ ?_
   | refine LeO.bind ?_ (fun _ => ?_)
  ·intro y0 y1 y2 y3 y4 y5 y6 y7 y8 y9 y10 y11 y12 y13 y14 y15 y16 y17 y18 y19 y20 y21 y22 y23 y24 y25 y26 y27 y28 y29 y30 y31 y32
   unfold newsreellaw41_RetainOldest.l1
   repeat' first
   | (with_reducible exact ih0 _ _ _ _ _ _ _ _)
   | (with_reducible exact ih1 _ _ _ _ _ _ _ _ _ _ _)
   | (with_reducible exact ih2 _ _ _ _ _ _ _ _ _ _ _ _ _ _ _ _ _ _ _ _ _ _ _ _ _ _ _ _ _ _ _ _ _)
   | (with_reducible exact ih3 _ _ _ _ _ _ _ _ _ _ _ _ _ _ _ _ _ _ _ _ _ _ _ _ _ _ _ _ _ _ _ _ _)
   | (with_reducible exact ih4 _ _ _ _ _ _ _ _ _ _ _ _ _ _ _ _ _ _ _ _ _ _ _ _ _ _ _ _ _ _ _ _)
   | (with_reducible exact ih5 _ _ _ _ _ _ _ _ _ _ _ _ _ _ _ _ _ _ _ _ _ _ _ _ _ _ _ _ _ _ _ _)
   | (with_reducible exact newsreellaw41_awake.mono _)
   | (with_reducible exact newsreelref15_Ep.mono _ _ _ _ _ _ _ _)
   | (with_reducible exact newsreelref15_Light.mono _ _ _ _ _ _ _)
   | (with_reducible exact newsreelref41_Once.mono _ _ _ _ _ _ _)
   | (with_reducible exact retain_Over.mono _ _ _ _ _ _ _ _)
   | (with_reducible exact LeO.refl _)
   | (with_reducible exact LeO.none _)
   | (with_reducible refine LeO.ite ?_ ?_)
   | (with_reducible refine LeO.bind ?_ (fun _ => ?_))
   | exact ih0 _ _ _ _ _ _ _ _
   | exact ih1 _ _ _ _ _ _ _ _ _ _ _
   | exact ih2 _ _ _ _ _ _ _ _ _ _ _ _ _ _ _ _ _ _ _ _ _ _ _ _ _ _ _ _ _ _ _ _ _
   | exact ih3 _ _ _ _ _ _ _ _ _ _ _ _ _ _ _ _ _ _ _ _ _ _ _ _ _ _ _ _ _ _ _ _ _
   | exact ih4 _ _ _ _ _ _ _ _ _ _ _ _ _ _ _ _ _ _ _ _ _ _ _ _ _ _ _ _ _ _ _ _
   | exact ih5 _ _ _ _ _ _ _ _ _ _ _ _ _ _ _ _ _ _ _ _ _ _ _ _ _ _ _ _ _ _ _ _
   | exact newsreellaw41_awake.mono _
   | exact newsreelref15_Ep.mono _ _ _ _ _ _ _ _
   | exact newsreelref15_Light.mono _ _ _ _ _ _ _
   | exact newsreelref41_Once.mono _ _ _ _ _ _ _
   | exact retain_Over.mono _ _ _ _ _ _ _ _
   | exact LeO.none _
   | refine LeO.ite ?_ ?_
   | refine LeO.bind ?_ (fun _ => ?_)
  ·intro y0 y1 y2 y3 y4 y5 y6 y7 y8 y9 y10 y11 y12 y13 y14 y15 y16 y17 y18 y19 y20 y21 y22 y23 y24 y25 y26 y27 y28 y29 y30 y31 y32
   unfold newsreellaw41_RetainOldest.j3
   repeat' first
   | (with_reducible exact ih0 _ _ _ _ _ _ _ _)
   | (with_reducible exact ih1 _ _ _ _ _ _ _ _ _ _ _)
   | (with_reducible exact ih2 _ _ _ _ _ _ _ _ _ _ _ _ _ _ _ _ _ _ _ _ _ _ _ _ _ _ _ _ _ _ _ _ _)
   | (with_reducible exact ih3 _ _ _ _ _ _ _ _ _ _ _ _ _ _ _ _ _ _ _ _ _ _ _ _ _ _ _ _ _ _ _ _ _)
   | (with_reducible exact ih4 _ _ _ _ _ _ _ _ _ _ _ _ _ _ _ _ _ _ _ _ _ _ _ _ _ _ _ _ _ _ _ _)
   | (with_reducible exact ih5 _ _ _ _ _ _ _ _ _ _ _ _ _ _ _ _ _ _ _ _ _ _ _ _ _ _ _ _ _ _ _ _)
   | (with_reducible exact newsreellaw41_awake.mono _)
   | (with_reducible exact newsreelref15_Ep.mono _ _ _ _ _ _ _ _)
   | (with_reducible exact newsreelref15_Light.mono _ _ _ _ _ _ _)
   | (with_reducible exact newsreelref41_Once.mono _ _ _ _ _ _ _)
   | (with_reducible exact retain_Over.mono _ _ _ _ _ _ _ _)
   | (with_reducible exact LeO.refl _)
   | (with_reducible exact LeO.none _)
   | (with_reducible refine LeO.ite ?_ ?_)
   | (with_reducible refine LeO.bind ?_ (fun _ => ?_))
   | exact ih0 _ _ _ _ _ _ _ _
   | exact ih1 _ _ _ _ _ _ _ _ _ _ _
   | exact ih2 _ _ _ _ _ _ _ _ _ _ _ _ _ _ _ _ _ _ _ _ _ _ _ _ _ _ _ _ _ _ _ _ _
   | exact ih3 _ _ _ _ _ _ _ _ _ _ _ _ _ _ _ _ _ _ _ _ _ _ _ _ _ _ _ _ _ _ _ _ _
   | exact ih4 _ _ _ _ _ _ _ _ _ _ _ _ _ _ _ _ _ _ _ _ _ _ _ _ _ _ _ _ _ _ _ _
   | exact ih5 _ _ _ _ _ _ _ _ _ _ _ _ _ _ _ _ _ _ _ _ _ _ _ _ _ _ _ _ _ _ _ _
   | exact newsreellaw41_awake.mono _
   | exact newsreelref15_Ep.mono _ _ _ _ _ _ _ _
   | exact newsreelref15_Light.mono _ _ _ _ _ _ _
   | exact newsreelref41_Once.mono _ _ _ _ _ _ _
   | exact retain_Over.mono _ _ _ _ _ _ _ _
   | exact LeO.none _
   | refine LeO.ite ?_ ?_
   | refine LeO.bind ?_ (fun _ => ?_)
  ·intro y0 y1 y2 y3 y4 y5 y6 y7 y8 y9 y10 y11 y12 y13 y14 y15 y16 y17 y18 y19 y20 y21 y22 y23 y24 y25 y26 y27 y28 y29 y30 y31
   unfold newsreellaw41_RetainOldest.j4
   repeat' first
   | (with_reducible exact ih0 _ _ _ _ _ _ _ _)
   | (with_reducible exact ih1 _ _ _ _ _ _ _ _ _ _ _)
   | (with_reducible exact ih2 _ _ _ _ _ _ _ _ _ _ _ _ _ _ _ _ _ _ _ _ _ _ _ _ _ _ _ _ _ _ _ _ _)
   | (with_reducible exact ih3 _ _ _ _ _ _ _ _ _ _ _ _ _ _ _ _ _ _ _ _ _ _ _ _ _ _ _ _ _ _ _ _ _)
   | (with_reducible exact ih4 _ _ _ _ _ _ _ _ _ _ _ _ _ _ _ _ _ _ _ _ _ _ _ _ _ _ _ _ _ _ _ _)
   | (with_reducible exact ih5 _ _ _ _ _ _ _ _ _ _ _ _ _ _ _ _ _ _ _ _ _ _ _ _ _ _ _ _ _ _ _ _)
   | (with_reducible exact newsreellaw41_awake.mono _)
   | (with_reducible exact newsreelref15_Ep.mono _ _ _ _ _ _ _ _)
   | (with_reducible exact newsreelref15_Light.mono _ _ _ _ _ _ _)
   | (with_reducible exact newsreelref41_Once.mono _ _ _ _ _ _ _)
   | (with_reducible exact retain_Over.mono _ _ _ _ _ _ _ _)
   | (with_reducible exact LeO.refl _)
   | (with_reducible exact LeO.none _)
   | (with_reducible refine LeO.ite ?_ ?_)
   | (with_reducible refine LeO.bind ?_ (fun _ => ?_))
   | exact ih0 _ _ _ _ _ _ _ _
   | exact ih1 _ _ _ _ _ _ _ _ _ _ _
   | exact ih2 _ _ _ _ _ _ _ _ _ _ _ _ _ _ _ _ _ _ _ _ _ _ _ _ _ _ _ _ _ _ _ _ _
   | exact ih3 _ _ _ _ _ _ _ _ _ _ _ _ _ _ _ _ _ _ _ _ _ _ _ _ _ _ _ _ _ _ _ _ _
   | exact ih4 _ _ _ _ _ _ _ _ _ _ _ _ _ _ _ _ _ _ _ _ _ _ _ _ _ _ _ _ _ _ _ _
   | exact ih5 _ _ _ _ _ _ _ _ _ _ _ _ _ _ _ _ _ _ _ _ _ _ _ _ _ _ _ _ _ _ _ _
   | exact newsreellaw41_awake.mono _
   | exact newsreelref15_Ep.mono _ _ _ _ _ _ _ _
   | exact newsreelref15_Light.mono _ _ _ _ _ _ _
   | exact newsreelref41_Once.mono _ _ _ _ _ _ _
   | exact retain_Over.mono _ _ _ _ _ _ _ _
   | exact LeO.none _
   | refine LeO.ite ?_ ?_
   | refine LeO.bind ?_ (fun _ => ?_)
  ·intro y0 y1 y2 y3 y4 y5 y6 y7 y8 y9 y10 y11 y12 y13 y14 y15 y16 y17 y18 y19 y20 y21 y22 y23 y24 y25 y26 y27 y28 y29 y30 y31
   unfold newsreellaw41_RetainOldest.l2
   repeat' first
   | (with_reducible exact ih0 _ _ _ _ _ _ _ _)
   | (with_reducible exact ih1 _ _ _ _ _ _ _ _ _ _ _)
   | (with_reducible exact ih2 _ _ _ _ _ _ _ _ _ _ _ _ _ _ _ _ _ _ _ _ _ _ _ _ _ _ _ _ _ _ _ _ _)
   | (with_reducible exact ih3 _ _ _ _ _ _ _ _ _ _ _ _ _ _ _ _ _ _ _ _ _ _ _ _ _ _ _ _ _ _ _ _ _)
   | (with_reducible exact ih4 _ _ _ _ _ _ _ _ _ _ _ _ _ _ _ _ _ _ _ _ _ _ _ _ _ _ _ _ _ _ _ _)
   | (with_reducible exact ih5 _ _ _ _ _ _ _ _ _ _ _ _ _ _ _ _ _ _ _ _ _ _ _ _ _ _ _ _ _ _ _ _)
   | (with_reducible exact newsreellaw41_awake.mono _)
   | (with_reducible exact newsreelref15_Ep.mono _ _ _ _ _ _ _ _)
   | (with_reducible exact newsreelref15_Light.mono _ _ _ _ _ _ _)
   | (with_reducible exact newsreelref41_Once.mono _ _ _ _ _ _ _)
   | (with_reducible exact retain_Over.mono _ _ _ _ _ _ _ _)
   | (with_reducible exact LeO.refl _)
   | (with_reducible exact LeO.none _)
   | (with_reducible refine LeO.ite ?_ ?_)
   | (with_reducible refine LeO.bind ?_ (fun _ => ?_))
   | exact ih0 _ _ _ _ _ _ _ _
   | exact ih1 _ _ _ _ _ _ _ _ _ _ _
   | exact ih2 _ _ _ _ _ _ _ _ _ _ _ _ _ _ _ _ _ _ _ _ _ _ _ _ _ _ _ _ _ _ _ _ _
   | exact ih3 _ _ _ _ _ _ _ _ _ _ _ _ _ _ _ _ _ _ _ _ _ _ _ _ _ _ _ _ _ _ _ _ _
   | exact ih4 _ _ _ _ _ _ _ _ _ _ _ _ _ _ _ _ _ _ _ _ _ _ _ _ _ _ _ _ _ _ _ _
   | exact ih5 _ _ _ _ _ _ _ _ _ _ _ _ _ _ _ _ _ _ _ _ _ _ _ _ _ _ _ _ _ _ _ _
   | exact newsreellaw41_awake.mono _
   | exact newsreelref15_Ep.mono _ _ _ _ _ _ _ _
   | exact newsreelref15_Light.mono _ _ _ _ _ _ _
   | exact newsreelref41_Once.mono _ _ _ _ _ _ _
   | exact retain_Over.mono _ _ _ _ _ _ _ _
   | exact LeO.none _
   | refine LeO.ite ?_ ?_
   | refine LeO.bind ?_ (fun _ => ?_)
theorem newsreellaw41_RetainOldest.mono : ∀ a0 a1 a2 a3 a4 a5 a6 k, LeO (newsreellaw41_RetainOldest.f k a0 a1 a2 a3 a4 a5 a6) (newsreellaw41_RetainOldest.f (k + 1) a0 a1 a2 a3 a4 a5 a6) := by
 intro a0 a1 a2 a3 a4 a5 a6 k
 obtain ⟨ih0, ih1, ih2, ih3, ih4, ih5⟩ := newsreellaw41_RetainOldest.mono_l k
 unfold newsreellaw41_RetainOldest.f
 repeat' first
   | (with_reducible exact ih0 _ _ _ _ _ _ _ _)
   | (with_reducible exact ih1 _ _ _ _ _ _ _ _ _ _ _)
   | (with_reducible exact ih2 _ _ _ _ _ _ _ _ _ _ _ _ _ _ _ _ _ _ _ _ _ _ _ _ _ _ _ _ _ _ _ _ _)
   | (with_reducible exact ih3 _ _ _ _ _ _ _ _ _ _ _ _ _ _ _ _ _ _ _ _ _ _ _ _ _ _ _ _ _ _ _ _ _)
   | (with_reducible exact ih4 _ _ _ _ _ _ _ _ _ _ _ _ _ _ _ _ _ _ _ _ _ _ _ _ _ _ _ _ _ _ _ _)
   | (with_reducible exact ih5 _ _ _ _ _ _ _ _ _ _ _ _ _ _ _ _ _ _ _ _ _ _ _ _ _ _ _ _ _ _ _ _)
   | (with_reducible exact newsreellaw41_awake.mono _)
   | (with_reducible exact newsreelref15_Ep.mono _ _ _ _ _ _ _ _)
   | (with_reducible exact newsreelref15_Light.mono _ _ _ _ _ _ _)
   | (with_reducible exact newsreelref41_Once.mono _ _ _ _ _ _ _)
   | (with_reducible exact retain_Over.mono _ _ _ _ _ _ _ _)
   | (with_reducible exact LeO.refl _)
   | (with_reducible exact LeO.none _)
   | (with_reducible refine LeO.ite ?_ ?_)
   | (with_reducible refine LeO.bind ?_ (fun _ => ?_))
   | exact ih0 _ _ _ _ _ _ _ _
   | exact ih1 _ _ _ _ _ _ _ _ _ _ _
   | exact ih2 _ _ _ _ _ _ _ _ _ _ _ _ _ _ _ _ _ _ _ _ _ _ _ _ _ _ _ _ _ _ _ _ _
   | exact ih3 _ _ _ _ _ _ _ _ _ _ _ _ _ _ _ _ _ _ _ _ _ _ _ _ _ _ _ _ _ _ _ _ _
   | exact ih4 _ _ _ _ _ _ _ _ _ _ _ _ _ _ _ _ _ _ _ _ _ _ _ _ _ _ _ _ _ _ _ _
   | exact ih5 _ _ _ _ _ _ _ _ _ _ _ _ _ _ _ _ _ _ _ _ _ _ _ _ _ _ _ _ _ _ _ _
   | exact newsreellaw41_awake.mono _
   | exact newsreelref15_Ep.mono _ _ _ _ _ _ _ _
   | exact newsreelref15_Light.mono _ _ _ _ _ _ _
   | exact newsreelref41_Once.mono _ _ _ _ _ _ _
   | exact retain_Over.mono _ _ _ _ _ _ _ _
   | exact LeO.none _
   | refine LeO.ite ?_ ?_
   | refine LeO.bind ?_ (fun _ => ?_)
def newsreellaw41_RetainOldest.T13 : Bool × List (List Nat × List Nat) := (true, [([], []), ([0], [0]), ([1], [1]), ([1], [1]), ([2, 3, 1], [1, 2, 3]), ([4, 1], [1, 4]), ([1], [1]), ([6, 1], [1, 6]), ([5, 7, 1], [1, 5, 7]), ([1, 8], [1, 8]), ([9, 1, 0, 1, 2, 3, 4, 5, 6, 7, 8, 9], [0, 9])])
def newsreellaw41_RetainOldest.B13 : List Nat := [0, 1, 3, 3, 15, 31, 3, 67, 255, 511, 1023]
theorem newsreellaw41_RetainOldest.tab13 : rtab .any (opsOf Try.f4 13) = newsreellaw41_RetainOldest.T13 := by kernel_rfl
theorem newsreellaw41_RetainOldest.bits13 : waitsOk newsreellaw41_RetainOldest.T13.2 newsreellaw41_RetainOldest.B13 = true := by kernel_rfl
def newsreellaw41_RetainOldest.T23 : Bool × List (List Nat × List Nat) := (true, [([], []), ([], []), ([], []), ([1, 2], [1, 2]), ([3], [3]), ([0, 4], [0, 4]), ([5], [5]), ([6], [6]), ([6], [6]), ([], []), ([9, 7, 5, 0, 1, 2, 3, 4, 5, 6, 7, 9], [7, 9]), ([8, 10, 0, 1, 2, 3, 4, 5, 6, 7, 8, 9, 10], [8])])
def newsreellaw41_RetainOldest.B23 : List Nat := [0, 0, 0, 6, 14, 31, 63, 127, 127, 0, 767, 2047]
theorem newsreellaw41_RetainOldest.tab23 : rtab .any (opsOf Try.f4 23) = newsreellaw41_RetainOldest.T23 := by kernel_rfl
theorem newsreellaw41_RetainOldest.bits23 : waitsOk newsreellaw41_RetainOldest.T23.2 newsreellaw41_RetainOldest.B23 = true := by kernel_rfl
set_option maxHeartbeats 8000000 in
set_option maxRecDepth 100000 in
theorem newsreellaw41_RetainOldest.calls (k : Nat) (a0_0 : Int) (a0_1 : Int) (a0_2 : Int) (a0_3 : Int) (A0_4 : Option Addr) (c0_4 : Nat) (l0_4 : List (S43)) (A0_5 : Option Addr) (c0_5 : Nat) (l0_5 : List (S29)) (a1 : Int) (r : Bool) (w : World) (hr0_4 : Kd.C k43 w A0_4 l0_4.length l0_4) (hc0_4 : l0_4.length ≤ c0_4) (hr0_5 : Kd.C k29 w A0_5 l0_5.length l0_5) (hc0_5 : l0_5.length ≤ c0_5) (ht_ : r = true) (h : newsreellaw41_RetainOldest.f k a0_0 a0_1 a0_2 a0_3 l0_4 l0_5 a1 = some r) :
  Calls Try.prog 4 #[.agg #[.int .i64 a0_0, .int .i64 a0_1, .int .i64 a0_2, .int .i64 a0_3, .slice A0_4 l0_4.length c0_4, .slice A0_5 l0_5.length c0_5], .int .i64 a1] w fun e w' => e = .returned (.bool r) ∧ Below w.heap.size w w' := by
 have hu25 := Try.underlying25
 have hu29 := Try.underlying29
 have HR0_4 := mkA hr0_4
 have HC0_4 := mkA hc0_4
 clear hr0_4 hc0_4
 have HR0_5 := mkA hr0_5
 have HC0_5 := mkA hc0_5
 clear hr0_5 hc0_5
 have HB := mkA (Below.refl w.heap.size w)
 have H : ((newsreelref15_Light.f k a0_0 a0_1 a0_2 a0_3 l0_4 l0_5).bind fun t403 => (if t403 = true then ((newsreelref41_Once.f k a0_0 a0_1 a0_2 a0_3 l0_4 l0_5).bind fun t404 => (newsreellaw41_RetainOldest.j0 k a1 (!t404) a0_0 a0_1 a0_2 a0_3 l0_4 l0_5)) else (newsreellaw41_RetainOldest.j0 k a1 true a0_0 a0_1 a0_2 a0_3 l0_4 l0_5))) = some r := h
 clear h
 have HC3 := mkA H
 clear H
 go_enter Try.func4, Try.ntmps4
 go_upto_region 1 with (first | ((with_reducible refine gate_load (t := 25) rfl ?_); refine load_row3 (t := 25) (g := gb402) ?hg BK402.out ?ho ?hb Try.underlying25 rfl ?hs ?_; (case hg => rfl); (case ho => refine ⟨_, rfl, ?_⟩; first | (with_reducible rfl) | (go_simp; done)); (case hb => (with_reducible repeat (first | refine blk_drewN ?_ _ | refine blk_drew ?_ | refine blk_alloc ?_ _)); with_reducible exact BK402.out); (case hs => kernel_rfl)) | ((with_reducible refine gate_dst (N := 2) rfl ?_); refine box_event ?hg (N := 2) ?hd (cs := #[.int .i64 a0_0, .int .i64 a0_1, .int .i64 a0_2, .int .i64 a0_3, .slice A0_4 l0_4.length c0_4, .slice A0_5 l0_5.length c0_5]) (t := 25) ?hr ?_; (case hd => rfl); (case hg => rfl); (case hr => first | (go_simp; done) | (go_simp; rfl)); intro gb402 hg w4 hbox hb; have n0_ := mkA (below_step (below_y HB.out) hb); have n1_ := mkA (hbox); have n2_ := mkA ((gz hg HB.out : w.heap.size ≤ gb402)); have n3_ := mkA ((gz hg HB.out : w.heap.size ≤ gb402)); clear HB; have HB := n0_; have BK402 := n1_; have GW402 := n2_; have GE402 := n3_; clear n0_ n1_ n2_ n3_; clear hb hbox hg))
 (try simp only [Act.put, sA, s0, sS])
 go_cut [22] (fun v22 wc => ∃ (kq : Nat) (x22_2 : Bool), v22 = .bool x22_2 ∧ Aside0 (newsreellaw41_RetainOldest.j0 kq a1 x22_2 a0_0 a0_1 a0_2 a0_3 l0_4 l0_5 = some r) ∧ Aside0 (kq ≤ k) ∧ Aside0 (wc.heap[gb402]? = some (.cells #[.int .i64 a0_0, .int .i64 a0_1, .int .i64 a0_2, .int .i64 a0_3, (.slice A0_4 l0_4.length c0_4), (.slice A0_5 l0_5.length c0_5)] 25 (0, 0))) ∧ Aside0 (Below w.heap.size w wc))
 case first =>
  have H := HC3.out
  clear HC3
  replace H := Option.bind_eq_some_iff.mp H
  obtain ⟨t403, A50, H⟩ := H
  replace H : (if t403 = true then ((newsreelref41_Once.f k a0_0 a0_1 a0_2 a0_3 l0_4 l0_5).bind fun t404 => (newsreellaw41_RetainOldest.j0 k a1 (!t404) a0_0 a0_1 a0_2 a0_3 l0_4 l0_5)) else (newsreellaw41_RetainOldest.j0 k a1 true a0_0 a0_1 a0_2 a0_3 l0_4 l0_5)) = some r := H
  have A5 := mkA A50
  clear A50
  by_cases c6 : t403 = true
  ·subst c6
   have H1 : ((newsreelref41_Once.f k a0_0 a0_1 a0_2 a0_3 l0_4 l0_5).bind fun t404 => (newsreellaw41_RetainOldest.j0 k a1 (!t404) a0_0 a0_1 a0_2 a0_3 l0_4 l0_5)) = some r := by rw [if_pos rfl] at H; exact H
   clear H
   have H := H1
   clear H1
   replace H := Option.bind_eq_some_iff.mp H
   obtain ⟨t404, A70, H⟩ := H
   replace H : (newsreellaw41_RetainOldest.j0 k a1 (!t404) a0_0 a0_1 a0_2 a0_3 l0_4 l0_5) = some r := H
   have A7 := mkA A70
   clear A70
   as_aux_lemma =>
    have H' := mkA H
    clear H
    have hcz8_0 := bc BK402.out 0 (.int .i64 a0_0) rfl
    have hcz8_1 := bc BK402.out 1 (.int .i64 a0_1) rfl
    have hcz8_2 := bc BK402.out 2 (.int .i64 a0_2) rfl
    have hcz8_3 := bc BK402.out 3 (.int .i64 a0_3) rfl
    have hcz8_4 := bc BK402.out 4 (.slice A0_4 l0_4.length c0_4) rfl
    have hcz8_5 := bc BK402.out 5 (.slice A0_5 l0_5.length c0_5) rfl
    have hfz8_0 := blk_frozen BK402.out 0
    have hfz8_1 := blk_frozen BK402.out 1
    have hfz8_2 := blk_frozen BK402.out 2
    have hfz8_3 := blk_frozen BK402.out 3
    have hfz8_4 := blk_frozen BK402.out 4
    have hfz8_5 := blk_frozen BK402.out 5
    go_wp2_with (first | ((with_reducible refine gate_load (t := 25) rfl ?_); refine load_row3 (t := 25) (g := gb402) ?hg BK402.out ?ho ?hb Try.underlying25 rfl ?hs ?_; (case hg => rfl); (case ho => refine ⟨_, rfl, ?_⟩; first | (with_reducible rfl) | (go_simp; done)); (case hb => (with_reducible repeat (first | refine blk_drewN ?_ _ | refine blk_drew ?_ | refine blk_alloc ?_ _)); with_reducible exact BK402.out); (case hs => kernel_rfl)) | ((with_reducible refine gate_callee (f := 5) rfl ?_); refine goesL_ (some 16) rfl rfl Try.func5 (by kernel_rfl) rfl #[.agg #[.int .i64 a0_0, .int .i64 a0_1, .int .i64 a0_2, .int .i64 a0_3, .slice A0_4 l0_4.length c0_4, .slice A0_5 l0_5.length c0_5]] rfl ca ?_; (with_reducible refine (newsreelref15_Light.calls _ _ _ _ _ _ _ _ _ _ _ true _ ?side1 ?side2 ?side3 ?side4 A5.out).mono ?_); (case side1 => exact cz HR0_4.out HB.out); (case side2 => exact HC0_4.out); (case side3 => exact cz HR0_5.out HB.out); (case side4 => exact HC0_5.out); rintro e w9 ⟨rfl, hb⟩; refine ⟨_, rfl, ?_⟩; have n0_ := mkA (blk_below (blk_y BK402.out) hb); have n1_ := mkA (below_step (below_y HB.out) hb); clear BK402; clear HB; have BK402 := n0_; have HB := n1_; clear n0_ n1_; (try clear hb); (try clear hb2); (try clear hk); (try clear hi); have hcz10_0 := bc BK402.out 0 (.int .i64 a0_0) rfl; have hcz10_1 := bc BK402.out 1 (.int .i64 a0_1) rfl; have hcz10_2 := bc BK402.out 2 (.int .i64 a0_2) rfl; have hcz10_3 := bc BK402.out 3 (.int .i64 a0_3) rfl; have hcz10_4 := bc BK402.out 4 (.slice A0_4 l0_4.length c0_4) rfl; have hcz10_5 := bc BK402.out 5 (.slice A0_5 l0_5.length c0_5) rfl; have hfz10_0 := blk_frozen BK402.out 0; have hfz10_1 := blk_frozen BK402.out 1; have hfz10_2 := blk_frozen BK402.out 2; have hfz10_3 := blk_frozen BK402.out 3; have hfz10_4 := blk_frozen BK402.out 4; have hfz10_5 := blk_frozen BK402.out 5) | (go_at_call 6; (with_reducible refine (newsreelref41_Once.calls _ _ _ _ _ _ _ _ _ _ _ _ _ ?side1 ?side2 ?side3 ?side4 A7.out).mono ?_); (case side1 => exact cz HR0_4.out HB.out); (case side2 => exact HC0_4.out); (case side3 => exact cz HR0_5.out HB.out); (case side4 => exact HC0_5.out); rintro e w11 ⟨rfl, hb⟩; have n0_ := mkA (blk_below (blk_y BK402.out) hb); have n1_ := mkA (below_step (below_y HB.out) hb); clear BK402; clear HB; have BK402 := n0_; have HB := n1_; clear n0_ n1_; (try clear hb); (try clear hb2); (try clear hk); (try clear hi)))
    go_meet
    case rel => exact ⟨_, (!t404), (by first | rfl | (simp; done) | (simp [*]; done)), H', ⟨by first | omega | exact Nat.le_refl _⟩, ⟨by (with_reducible repeat (first | refine blk_drewN ?_ _ | refine blk_drew ?_ | refine blk_alloc ?_ _)); exact BK402.out⟩, ⟨by repeat (first | (with_reducible first | exact HB.out | apply below_alloc | apply pw_below_drewN | apply below_drew1 | refine below_set ?_ GE402.out) | exact HB.out)⟩⟩
  ·replace c6 := Bool.eq_false_iff.mpr c6
   subst c6
   have H1 : (newsreellaw41_RetainOldest.j0 k a1 true a0_0 a0_1 a0_2 a0_3 l0_4 l0_5) = some r := by rw [if_neg (show ¬ (false = true) by decide)] at H; exact H
   clear H
   have H := H1
   clear H1
   as_aux_lemma =>
    have H' := mkA H
    clear H
    have hcz12_0 := bc BK402.out 0 (.int .i64 a0_0) rfl
    have hcz12_1 := bc BK402.out 1 (.int .i64 a0_1) rfl
    have hcz12_2 := bc BK402.out 2 (.int .i64 a0_2) rfl
    have hcz12_3 := bc BK402.out 3 (.int .i64 a0_3) rfl
    have hcz12_4 := bc BK402.out 4 (.slice A0_4 l0_4.length c0_4) rfl
    have hcz12_5 := bc BK402.out 5 (.slice A0_5 l0_5.length c0_5) rfl
    have hfz12_0 := blk_frozen BK402.out 0
    have hfz12_1 := blk_frozen BK402.out 1
    have hfz12_2 := blk_frozen BK402.out 2
    have hfz12_3 := blk_frozen BK402.out 3
    have hfz12_4 := blk_frozen BK402.out 4
    have hfz12_5 := blk_frozen BK402.out 5
    go_wp2_with (first | ((with_reducible refine gate_load (t := 25) rfl ?_); refine load_row3 (t := 25) (g := gb402) ?hg BK402.out ?ho ?hb Try.underlying25 rfl ?hs ?_; (case hg => rfl); (case ho => refine ⟨_, rfl, ?_⟩; first | (with_reducible rfl) | (go_simp; done)); (case hb => (with_reducible repeat (first | refine blk_drewN ?_ _ | refine blk_drew ?_ | refine blk_alloc ?_ _)); with_reducible exact BK402.out); (case hs => kernel_rfl)) | ((with_reducible refine gate_callee (f := 5) rfl ?_); refine goesL_ (some 16) rfl rfl Try.func5 (by kernel_rfl) rfl #[.agg #[.int .i64 a0_0, .int .i64 a0_1, .int .i64 a0_2, .int .i64 a0_3, .slice A0_4 l0_4.length c0_4, .slice A0_5 l0_5.length c0_5]] rfl ca ?_; (with_reducible refine (newsreelref15_Light.calls _ _ _ _ _ _ _ _ _ _ _ false _ ?side1 ?side2 ?side3 ?side4 A5.out).mono ?_); (case side1 => exact cz HR0_4.out HB.out); (case side2 => exact HC0_4.out); (case side3 => exact cz HR0_5.out HB.out); (case side4 => exact HC0_5.out); rintro e w13 ⟨rfl, hb⟩; refine ⟨_, rfl, ?_⟩; have n0_ := mkA (blk_below (blk_y BK402.out) hb); have n1_ := mkA (below_step (below_y HB.out) hb); clear BK402; clear HB; have BK402 := n0_; have HB := n1_; clear n0_ n1_; (try clear hb); (try clear hb2); (try clear hk); (try clear hi)))
    go_meet
    case rel => exact ⟨_, (true), (by first | rfl | (simp; done) | (simp [*]; done)), H', ⟨by first | omega | exact Nat.le_refl _⟩, ⟨by (with_reducible repeat (first | refine blk_drewN ?_ _ | refine blk_drew ?_ | refine blk_alloc ?_ _)); exact BK402.out⟩, ⟨by repeat (first | (with_reducible first | exact HB.out | apply below_alloc | apply pw_below_drewN | apply below_drew1 | refine below_set ?_ GE402.out) | exact HB.out)⟩⟩
 clear HC3
 try clear p2
 try clear c4
 try clear c5
 try clear c6
 try clear hcz10_0
 try clear hcz10_1
 try clear hcz10_2
 try clear hcz10_3
 try clear hcz10_4
 try clear hcz10_5
 try clear hcz12_0
 try clear hcz12_1
 try clear hcz12_2
 try clear hcz12_3
 try clear hcz12_4
 try clear hcz12_5
 try clear hcz8_0
 try clear hcz8_1
 try clear hcz8_2
 try clear hcz8_3
 try clear hcz8_4
 try clear hcz8_5
 try clear hfz10_0
 try clear hfz10_1
 try clear hfz10_2
 try clear hfz10_3
 try clear hfz10_4
 try clear hfz10_5
 try clear hfz12_0
 try clear hfz12_1
 try clear hfz12_2
 try clear hfz12_3
 try clear hfz12_4
 try clear hfz12_5
 try clear hfz8_0
 try clear hfz8_1
 try clear hfz8_2
 try clear hfz8_3
 try clear hfz8_4
 try clear hfz8_5
 obtain ⟨kq, x22_2, rfl, HA, HJ2, BK402, HB⟩ := hcut
 rcases kq with _ | kj2
 ·exact absurd HA.out (by simp [newsreellaw41_RetainOldest.j0])
 have H := HA.out
 clear HA
 simp only [newsreellaw41_RetainOldest.j0] at H
 by_cases c14 : x22_2 = true
 ·subst c14
  have H1 : ((newsreellaw41_awake.f kj2).bind fun t405 => (some t405)) = some r := by rw [if_pos rfl] at H; exact H
  clear H
  have H := H1
  clear H1
  replace H := Option.bind_eq_some_iff.mp H
  obtain ⟨t405, A150, H⟩ := H
  replace H : (some t405) = some r := H
  have A15 := mkA A150
  clear A150
  as_aux_lemma =>
   obtain rfl := Option.some.inj H
   go_wp2_with (first | ((with_reducible refine gate_load (t := 25) rfl ?_); refine load_row3 (t := 25) (g := gb402) ?hg BK402.out ?ho ?hb Try.underlying25 rfl ?hs ?_; (case hg => rfl); (case ho => refine ⟨_, rfl, ?_⟩; first | (with_reducible rfl) | (go_simp; done)); (case hb => (with_reducible repeat (first | refine blk_drewN ?_ _ | refine blk_drew ?_ | refine blk_alloc ?_ _)); with_reducible exact BK402.out); (case hs => kernel_rfl)) | ((with_reducible refine gate_callee (f := 7) rfl ?_); refine goesL_ (some 23) rfl rfl Try.func7 (by kernel_rfl) rfl #[] rfl ca ?_; (with_reducible refine (newsreellaw41_awake.calls _ _ _ A15.out).mono ?_); rintro e w16 ⟨rfl, hb⟩; refine ⟨_, rfl, ?_⟩; have n0_ := mkA (blk_below (blk_y BK402.out) hb); have n1_ := mkA (below_step (below_y HB.out) hb); clear BK402; clear HB; have BK402 := n0_; have HB := n1_; clear n0_ n1_; (try clear hb); (try clear hb2); (try clear hk); (try clear hi)))
   go_ret
   exact ⟨by first | rfl | (simp [errW_none, errW_some] <;> rfl) | (simp [*, errW_none, errW_some] <;> rfl), by repeat (first | (with_reducible first | exact HB.out | apply below_alloc | apply pw_below_drewN | apply below_drew1 | refine below_set ?_ GE402.out) | exact HB.out)⟩
 replace c14 := Bool.eq_false_iff.mpr c14
 subst c14
 have H1 : ((retain_Over.f kj2 a0_0 a0_1 a0_2 a0_3 l0_4 l0_5 a1).bind fun t406 => (newsreellaw41_RetainOldest.l0 kj2 a1 t406 0 0 0 a0_0 a0_1 a0_2 a0_3 l0_4 l0_5)) = some r := by rw [if_neg (show ¬ (false = true) by decide)] at H; exact H
 clear H
 have H := H1
 clear H1
 replace H := Option.bind_eq_some_iff.mp H
 obtain ⟨t406, A170, H⟩ := H
 replace H : (newsreellaw41_RetainOldest.l0 kj2 a1 t406 0 0 0 a0_0 a0_1 a0_2 a0_3 l0_4 l0_5) = some r := H
 have A17 := mkA A170
 clear A170
 have H' := mkA H
 clear H
 have hcz18_0 := bc BK402.out 0 (.int .i64 a0_0) rfl
 have hcz18_1 := bc BK402.out 1 (.int .i64 a0_1) rfl
 have hcz18_2 := bc BK402.out 2 (.int .i64 a0_2) rfl
 have hcz18_3 := bc BK402.out 3 (.int .i64 a0_3) rfl
 have hcz18_4 := bc BK402.out 4 (.slice A0_4 l0_4.length c0_4) rfl
 have hcz18_5 := bc BK402.out 5 (.slice A0_5 l0_5.length c0_5) rfl
 have hfz18_0 := blk_frozen BK402.out 0
 have hfz18_1 := blk_frozen BK402.out 1
 have hfz18_2 := blk_frozen BK402.out 2
 have hfz18_3 := blk_frozen BK402.out 3
 have hfz18_4 := blk_frozen BK402.out 4
 have hfz18_5 := blk_frozen BK402.out 5
 go_wp2_with (first | ((with_reducible refine gate_load (t := 25) rfl ?_); refine load_row3 (t := 25) (g := gb402) ?hg BK402.out ?ho ?hb Try.underlying25 rfl ?hs ?_; (case hg => rfl); (case ho => refine ⟨_, rfl, ?_⟩; first | (with_reducible rfl) | (go_simp; done)); (case hb => (with_reducible repeat (first | refine blk_drewN ?_ _ | refine blk_drew ?_ | refine blk_alloc ?_ _)); with_reducible exact BK402.out); (case hs => kernel_rfl)) | ((with_reducible refine gate_callee (f := 11) rfl ?_); refine goesL_ (some 26) rfl rfl Try.func11 (by kernel_rfl) rfl #[.agg #[.int .i64 a0_0, .int .i64 a0_1, .int .i64 a0_2, .int .i64 a0_3, .slice A0_4 l0_4.length c0_4, .slice A0_5 l0_5.length c0_5], .int .i64 a1] rfl ca ?_; (with_reducible refine (retain_Over.calls _ _ _ _ _ _ _ _ _ _ _ _ _ _ ?side1 ?side2 ?side3 ?side4 A17.out).mono ?_); (case side1 => exact cz HR0_4.out HB.out); (case side2 => exact HC0_4.out); (case side3 => exact cz HR0_5.out HB.out); (case side4 => exact HC0_5.out); rintro e w19 ⟨v407, rfl, ho0, hb⟩; refine ⟨_, rfl, ?_⟩; have n0_ := mkA (Kd.R_lower ho0 (below_size (below_y HB.out))); have n1_ := mkA (blk_below (blk_y BK402.out) hb); have n2_ := mkA (below_step (below_y HB.out) hb); clear BK402; clear HB; have HO408 := n0_; have BK402 := n1_; have HB := n2_; clear n0_ n1_ n2_; (try clear hb); (try clear hb2); (try clear hk); (try clear hi); (try clear ho0)))
 go_loopg [6, 7, 8] kj2 (fun kq v6 v7 v8 w' => ∃ (x6_2 : Int) (x7_2 : Int) (x8_2 : Int), v6 = .int .i64 x6_2 ∧ v7 = .int .i64 x7_2 ∧ v8 = .int .i64 x8_2 ∧ Aside0 (newsreellaw41_RetainOldest.l0 kq a1 t406 x6_2 x7_2 x8_2 a0_0 a0_1 a0_2 a0_3 l0_4 l0_5 = some r) ∧ Aside0 (kq ≤ kj2) ∧ Aside0 (Kd.R (Kd.int .i64) 3 w' w.heap.size (fun _ => True) v407 t406) ∧ Aside0 (w'.heap[gb402]? = some (.cells #[.int .i64 a0_0, .int .i64 a0_1, .int .i64 a0_2, .int .i64 a0_3, (.slice A0_4 l0_4.length c0_4), (.slice A0_5 l0_5.length c0_5)] 25 (0, 0))) ∧ Aside0 (Below w.heap.size w w'))
 case atStart => exact ⟨(0), (0), (0), (by first | rfl | (simp; done) | (simp [*]; done)), (by first | rfl | (simp; done) | (simp [*]; done)), (by first | rfl | (simp; done) | (simp [*]; done)), H', ⟨Nat.le_refl _⟩, ⟨by (with_reducible repeat (first | apply Kd.R_alloc | apply Kd.R_drewN | apply Kd.R_drew)); exact HO408.out⟩, ⟨by (with_reducible repeat (first | refine blk_drewN ?_ _ | refine blk_drew ?_ | refine blk_alloc ?_ _)); exact BK402.out⟩, ⟨by repeat (first | (with_reducible first | exact HB.out | apply below_alloc | apply pw_below_drewN | apply below_drew1 | refine below_set ?_ GE402.out) | exact HB.out)⟩⟩
 clear H'
 try clear c1
 try clear p2
 try clear c4
 try clear c5
 try clear c6
 try clear c7
 try clear c11
 try clear c14
 try clear hcz10_0
 try clear hcz10_1
 try clear hcz10_2
 try clear hcz10_3
 try clear hcz10_4
 try clear hcz10_5
 try clear hcz12_0
 try clear hcz12_1
 try clear hcz12_2
 try clear hcz12_3
 try clear hcz12_4
 try clear hcz12_5
 try clear hcz18_0
 try clear hcz18_1
 try clear hcz18_2
 try clear hcz18_3
 try clear hcz18_4
 try clear hcz18_5
 try clear hcz8_0
 try clear hcz8_1
 try clear hcz8_2
 try clear hcz8_3
 try clear hcz8_4
 try clear hcz8_5
 try clear hfz10_0
 try clear hfz10_1
 try clear hfz10_2
 try clear hfz10_3
 try clear hfz10_4
 try clear hfz10_5
 try clear hfz12_0
 try clear hfz12_1
 try clear hfz12_2
 try clear hfz12_3
 try clear hfz12_4
 try clear hfz12_5
 try clear hfz18_0
 try clear hfz18_1
 try clear hfz18_2
 try clear hfz18_3
 try clear hfz18_4
 try clear hfz18_5
 try clear hfz8_0
 try clear hfz8_1
 try clear hfz8_2
 try clear hfz8_3
 try clear hfz8_4
 try clear hfz8_5
 try clear p2
 obtain ⟨x6_2, x7_2, x8_2, rfl, rfl, rfl, HA, HK2, HO_5, BK402, HB⟩ := hrel
 rcases gk with _ | k2
 ·exact absurd HA.out (by simp [newsreellaw41_RetainOldest.l0])
 have H := HA.out
 clear HA
 simp only [newsreellaw41_RetainOldest.l0] at H
 by_cases c20 : x8_2 < (l0_5.length : Int)
 rotate_left
 ·rw [if_neg c20] at H
  have c20b0 : decide (x8_2 < (l0_5.length : Int)) = false := decide_eq_false c20
  clear c20
  by_cases c122 : (t406.length : Int) = 0
  ·rw [if_pos c122] at H
   have c122b0 : ((t406.length : Int) == 0) = true := beq_iff_eq.mpr c122
   have c122b1 : ((t406.length : Int) != 0) = false := bne_eq_false_iff_eq.mpr c122
   clear c122
   by_cases c123 : x6_2 ≤ a0_0
   ·rw [if_pos c123] at H
    have c123b0 : decide (x6_2 ≤ a0_0) = true := decide_eq_true c123
    clear c123
    replace H := Option.bind_eq_some_iff.mp H
    obtain ⟨t437, A1240, H⟩ := H
    replace H : (some t437) = some r := H
    have A124 := mkA A1240
    clear A1240
    as_aux_lemma =>
     obtain rfl := Option.some.inj H
     have hcz125_0 := bc BK402.out 0 (.int .i64 a0_0) rfl
     have hcz125_1 := bc BK402.out 1 (.int .i64 a0_1) rfl
     have hcz125_2 := bc BK402.out 2 (.int .i64 a0_2) rfl
     have hcz125_3 := bc BK402.out 3 (.int .i64 a0_3) rfl
     have hcz125_4 := bc BK402.out 4 (.slice A0_4 l0_4.length c0_4) rfl
     have hcz125_5 := bc BK402.out 5 (.slice A0_5 l0_5.length c0_5) rfl
     have hfz125_0 := blk_frozen BK402.out 0
     have hfz125_1 := blk_frozen BK402.out 1
     have hfz125_2 := blk_frozen BK402.out 2
     have hfz125_3 := blk_frozen BK402.out 3
     have hfz125_4 := blk_frozen BK402.out 4
     have hfz125_5 := blk_frozen BK402.out 5
     obtain ⟨Ao126, co126, eo126⟩ := Kd.R_slice HO_5.out
     subst eo126
     go_wp2_with (first | ((with_reducible refine gate_load (t := 25) rfl ?_); refine load_row3 (t := 25) (g := gb402) ?hg BK402.out ?ho ?hb Try.underlying25 rfl ?hs ?_; (case hg => rfl); (case ho => refine ⟨_, rfl, ?_⟩; first | (with_reducible rfl) | (go_simp; done)); (case hb => (with_reducible repeat (first | refine blk_drewN ?_ _ | refine blk_drew ?_ | refine blk_alloc ?_ _)); with_reducible exact BK402.out); (case hs => kernel_rfl)) | (go_at_call 7; (with_reducible refine (newsreellaw41_awake.calls _ _ _ A124.out).mono ?_); rintro e w127 ⟨rfl, hb⟩; have n0_ := mkA (Kd.R_below (Kd.R_y HO_5.out) hb); have n1_ := mkA (blk_below (blk_y BK402.out) hb); have n2_ := mkA (below_step (below_y HB.out) hb); clear HO_5; clear BK402; clear HB; have HO_5 := n0_; have BK402 := n1_; have HB := n2_; clear n0_ n1_ n2_; (try clear hb); (try clear hb2); (try clear hk); (try clear hi)))
     go_ret
     exact ⟨by first | rfl | (simp [errW_none, errW_some] <;> rfl) | (simp [*, errW_none, errW_some] <;> rfl), by repeat (first | (with_reducible first | exact HB.out | apply below_alloc | apply pw_below_drewN | apply below_drew1 | refine below_set ?_ GE402.out) | exact HB.out)⟩
   ·rw [if_neg c123] at H
    have c123b0 : decide (x6_2 ≤ a0_0) = false := decide_eq_false c123
    clear c123
    by_cases c128 : x7_2 = 0
    ·rw [if_pos c128] at H
     have c128b0 : (x7_2 == 0) = true := beq_iff_eq.mpr c128
     have c128b1 : (x7_2 != 0) = false := bne_eq_false_iff_eq.mpr c128
     clear c128
     replace H := Option.bind_eq_some_iff.mp H
     obtain ⟨t438, A1290, H⟩ := H
     replace H : (some t438) = some r := H
     have A129 := mkA A1290
     clear A1290
     as_aux_lemma =>
      obtain rfl := Option.some.inj H
      have hcz130_0 := bc BK402.out 0 (.int .i64 a0_0) rfl
      have hcz130_1 := bc BK402.out 1 (.int .i64 a0_1) rfl
      have hcz130_2 := bc BK402.out 2 (.int .i64 a0_2) rfl
      have hcz130_3 := bc BK402.out 3 (.int .i64 a0_3) rfl
      have hcz130_4 := bc BK402.out 4 (.slice A0_4 l0_4.length c0_4) rfl
      have hcz130_5 := bc BK402.out 5 (.slice A0_5 l0_5.length c0_5) rfl
      have hfz130_0 := blk_frozen BK402.out 0
      have hfz130_1 := blk_frozen BK402.out 1
      have hfz130_2 := blk_frozen BK402.out 2
      have hfz130_3 := blk_frozen BK402.out 3
      have hfz130_4 := blk_frozen BK402.out 4
      have hfz130_5 := blk_frozen BK402.out 5
      obtain ⟨Ao131, co131, eo131⟩ := Kd.R_slice HO_5.out
      subst eo131
      go_wp2_with (first | ((with_reducible refine gate_load (t := 25) rfl ?_); refine load_row3 (t := 25) (g := gb402) ?hg BK402.out ?ho ?hb Try.underlying25 rfl ?hs ?_; (case hg => rfl); (case ho => refine ⟨_, rfl, ?_⟩; first | (with_reducible rfl) | (go_simp; done)); (case hb => (with_reducible repeat (first | refine blk_drewN ?_ _ | refine blk_drew ?_ | refine blk_alloc ?_ _)); with_reducible exact BK402.out); (case hs => kernel_rfl)) | (go_at_call 7; (with_reducible refine (newsreellaw41_awake.calls _ _ _ A129.out).mono ?_); rintro e w132 ⟨rfl, hb⟩; have n0_ := mkA (Kd.R_below (Kd.R_y HO_5.out) hb); have n1_ := mkA (blk_below (blk_y BK402.out) hb); have n2_ := mkA (below_step (below_y HB.out) hb); clear HO_5; clear BK402; clear HB; have HO_5 := n0_; have BK402 := n1_; have HB := n2_; clear n0_ n1_ n2_; (try clear hb); (try clear hb2); (try clear hk); (try clear hi)))
      go_ret
      exact ⟨by first | rfl | (simp [errW_none, errW_some] <;> rfl) | (simp [*, errW_none, errW_some] <;> rfl), by repeat (first | (with_reducible first | exact HB.out | apply below_alloc | apply pw_below_drewN | apply below_drew1 | refine below_set ?_ GE402.out) | exact HB.out)⟩
    ·rw [if_neg c128] at H
     have c128b0 : (x7_2 == 0) = false := beq_eq_false_iff_ne.mpr c128
     have c128b1 : (x7_2 != 0) = true := bne_iff_ne.mpr c128
     by_cases c133 : a0_0 < 0
     ·rw [if_pos c133] at H
      have c133b0 : decide (a0_0 < 0) = true := decide_eq_true c133
      clear c133
      by_cases c134 : x6_2 = 0
      ·rw [if_pos c134] at H
       have c134b0 : (x6_2 == 0) = true := beq_iff_eq.mpr c134
       have c134b1 : (x6_2 != 0) = false := bne_eq_false_iff_eq.mpr c134
       clear c134
       replace H := Option.bind_eq_some_iff.mp H
       obtain ⟨t439, A1350, H⟩ := H
       replace H : (some t439) = some r := H
       have A135 := mkA A1350
       clear A1350
       as_aux_lemma =>
        obtain rfl := Option.some.inj H
        have hcz136_0 := bc BK402.out 0 (.int .i64 a0_0) rfl
        have hcz136_1 := bc BK402.out 1 (.int .i64 a0_1) rfl
        have hcz136_2 := bc BK402.out 2 (.int .i64 a0_2) rfl
        have hcz136_3 := bc BK402.out 3 (.int .i64 a0_3) rfl
        have hcz136_4 := bc BK402.out 4 (.slice A0_4 l0_4.length c0_4) rfl
        have hcz136_5 := bc BK402.out 5 (.slice A0_5 l0_5.length c0_5) rfl
        have hfz136_0 := blk_frozen BK402.out 0
        have hfz136_1 := blk_frozen BK402.out 1
        have hfz136_2 := blk_frozen BK402.out 2
        have hfz136_3 := blk_frozen BK402.out 3
        have hfz136_4 := blk_frozen BK402.out 4
        have hfz136_5 := blk_frozen BK402.out 5
        obtain ⟨Ao137, co137, eo137⟩ := Kd.R_slice HO_5.out
        subst eo137
        go_wp2_with (first | ((with_reducible refine gate_load (t := 25) rfl ?_); refine load_row3 (t := 25) (g := gb402) ?hg BK402.out ?ho ?hb Try.underlying25 rfl ?hs ?_; (case hg => rfl); (case ho => refine ⟨_, rfl, ?_⟩; first | (with_reducible rfl) | (go_simp; done)); (case hb => (with_reducible repeat (first | refine blk_drewN ?_ _ | refine blk_drew ?_ | refine blk_alloc ?_ _)); with_reducible exact BK402.out); (case hs => kernel_rfl)) | (go_at_call 7; (with_reducible refine (newsreellaw41_awake.calls _ _ _ A135.out).mono ?_); rintro e w138 ⟨rfl, hb⟩; have n0_ := mkA (Kd.R_below (Kd.R_y HO_5.out) hb); have n1_ := mkA (blk_below (blk_y BK402.out) hb); have n2_ := mkA (below_step (below_y HB.out) hb); clear HO_5; clear BK402; clear HB; have HO_5 := n0_; have BK402 := n1_; have HB := n2_; clear n0_ n1_ n2_; (try clear hb); (try clear hb2); (try clear hk); (try clear hi)))
        go_ret
        exact ⟨by first | rfl | (simp [errW_none, errW_some] <;> rfl) | (simp [*, errW_none, errW_some] <;> rfl), by repeat (first | (with_reducible first | exact HB.out | apply below_alloc | apply pw_below_drewN | apply below_drew1 | refine below_set ?_ GE402.out) | exact HB.out)⟩
      ·rw [if_neg c134] at H
       have c134b0 : (x6_2 == 0) = false := beq_eq_false_iff_ne.mpr c134
       have c134b1 : (x6_2 != 0) = true := bne_iff_ne.mpr c134
       as_aux_lemma =>
        cases (Option.some.inj H).trans ht_
     ·rw [if_neg c133] at H
      have c133b0 : decide (a0_0 < 0) = false := decide_eq_false c133
      clear c133
      as_aux_lemma =>
       cases (Option.some.inj H).trans ht_
  ·rw [if_neg c122] at H
   have c122b0 : ((t406.length : Int) == 0) = false := beq_eq_false_iff_ne.mpr c122
   have c122b1 : ((t406.length : Int) != 0) = true := bne_iff_ne.mpr c122
   have c122b2 : ¬ (t406 = []) := fun h_ => c122 (by rw [h_]; rfl)
   by_cases c139 : x6_2 ≥ a0_0
   ·rw [if_pos c139] at H
    have c139b0 : decide (a0_0 ≤ x6_2) = true := decide_eq_true c139
    clear c139
    by_cases c140 : x6_2 ≤ a0_0
    ·rw [if_pos c140] at H
     have c140b0 : decide (x6_2 ≤ a0_0) = true := decide_eq_true c140
     clear c140
     replace H := Option.bind_eq_some_iff.mp H
     obtain ⟨t440, A1410, H⟩ := H
     replace H : (some t440) = some r := H
     have A141 := mkA A1410
     clear A1410
     as_aux_lemma =>
      obtain rfl := Option.some.inj H
      have hcz142_0 := bc BK402.out 0 (.int .i64 a0_0) rfl
      have hcz142_1 := bc BK402.out 1 (.int .i64 a0_1) rfl
      have hcz142_2 := bc BK402.out 2 (.int .i64 a0_2) rfl
      have hcz142_3 := bc BK402.out 3 (.int .i64 a0_3) rfl
      have hcz142_4 := bc BK402.out 4 (.slice A0_4 l0_4.length c0_4) rfl
      have hcz142_5 := bc BK402.out 5 (.slice A0_5 l0_5.length c0_5) rfl
      have hfz142_0 := blk_frozen BK402.out 0
      have hfz142_1 := blk_frozen BK402.out 1
      have hfz142_2 := blk_frozen BK402.out 2
      have hfz142_3 := blk_frozen BK402.out 3
      have hfz142_4 := blk_frozen BK402.out 4
      have hfz142_5 := blk_frozen BK402.out 5
      obtain ⟨Ao143, co143, eo143⟩ := Kd.R_slice HO_5.out
      subst eo143
      go_wp2_with (first | ((with_reducible refine gate_load (t := 25) rfl ?_); refine load_row3 (t := 25) (g := gb402) ?hg BK402.out ?ho ?hb Try.underlying25 rfl ?hs ?_; (case hg => rfl); (case ho => refine ⟨_, rfl, ?_⟩; first | (with_reducible rfl) | (go_simp; done)); (case hb => (with_reducible repeat (first | refine blk_drewN ?_ _ | refine blk_drew ?_ | refine blk_alloc ?_ _)); with_reducible exact BK402.out); (case hs => kernel_rfl)) | (go_at_call 7; (with_reducible refine (newsreellaw41_awake.calls _ _ _ A141.out).mono ?_); rintro e w144 ⟨rfl, hb⟩; have n0_ := mkA (Kd.R_below (Kd.R_y HO_5.out) hb); have n1_ := mkA (blk_below (blk_y BK402.out) hb); have n2_ := mkA (below_step (below_y HB.out) hb); clear HO_5; clear BK402; clear HB; have HO_5 := n0_; have BK402 := n1_; have HB := n2_; clear n0_ n1_ n2_; (try clear hb); (try clear hb2); (try clear hk); (try clear hi)))
      go_ret
      exact ⟨by first | rfl | (simp [errW_none, errW_some] <;> rfl) | (simp [*, errW_none, errW_some] <;> rfl), by repeat (first | (with_reducible first | exact HB.out | apply below_alloc | apply pw_below_drewN | apply below_drew1 | refine below_set ?_ GE402.out) | exact HB.out)⟩
    ·rw [if_neg c140] at H
     have c140b0 : decide (x6_2 ≤ a0_0) = false := decide_eq_false c140
     clear c140
     by_cases c145 : x7_2 = 0
     ·rw [if_pos c145] at H
      have c145b0 : (x7_2 == 0) = true := beq_iff_eq.mpr c145
      have c145b1 : (x7_2 != 0) = false := bne_eq_false_iff_eq.mpr c145
      clear c145
      replace H := Option.bind_eq_some_iff.mp H
      obtain ⟨t441, A1460, H⟩ := H
      replace H : (some t441) = some r := H
      have A146 := mkA A1460
      clear A1460
      as_aux_lemma =>
       obtain rfl := Option.some.inj H
       have hcz147_0 := bc BK402.out 0 (.int .i64 a0_0) rfl
       have hcz147_1 := bc BK402.out 1 (.int .i64 a0_1) rfl
       have hcz147_2 := bc BK402.out 2 (.int .i64 a0_2) rfl
       have hcz147_3 := bc BK402.out 3 (.int .i64 a0_3) rfl
       have hcz147_4 := bc BK402.out 4 (.slice A0_4 l0_4.length c0_4) rfl
       have hcz147_5 := bc BK402.out 5 (.slice A0_5 l0_5.length c0_5) rfl
       have hfz147_0 := blk_frozen BK402.out 0
       have hfz147_1 := blk_frozen BK402.out 1
       have hfz147_2 := blk_frozen BK402.out 2
       have hfz147_3 := blk_frozen BK402.out 3
       have hfz147_4 := blk_frozen BK402.out 4
       have hfz147_5 := blk_frozen BK402.out 5
       obtain ⟨Ao148, co148, eo148⟩ := Kd.R_slice HO_5.out
       subst eo148
       go_wp2_with (first | ((with_reducible refine gate_load (t := 25) rfl ?_); refine load_row3 (t := 25) (g := gb402) ?hg BK402.out ?ho ?hb Try.underlying25 rfl ?hs ?_; (case hg => rfl); (case ho => refine ⟨_, rfl, ?_⟩; first | (with_reducible rfl) | (go_simp; done)); (case hb => (with_reducible repeat (first | refine blk_drewN ?_ _ | refine blk_drew ?_ | refine blk_alloc ?_ _)); with_reducible exact BK402.out); (case hs => kernel_rfl)) | (go_at_call 7; (with_reducible refine (newsreellaw41_awake.calls _ _ _ A146.out).mono ?_); rintro e w149 ⟨rfl, hb⟩; have n0_ := mkA (Kd.R_below (Kd.R_y HO_5.out) hb); have n1_ := mkA (blk_below (blk_y BK402.out) hb); have n2_ := mkA (below_step (below_y HB.out) hb); clear HO_5; clear BK402; clear HB; have HO_5 := n0_; have BK402 := n1_; have HB := n2_; clear n0_ n1_ n2_; (try clear hb); (try clear hb2); (try clear hk); (try clear hi)))
       go_ret
       exact ⟨by first | rfl | (simp [errW_none, errW_some] <;> rfl) | (simp [*, errW_none, errW_some] <;> rfl), by repeat (first | (with_reducible first | exact HB.out | apply below_alloc | apply pw_below_drewN | apply below_drew1 | refine below_set ?_ GE402.out) | exact HB.out)⟩
     ·rw [if_neg c145] at H
      have c145b0 : (x7_2 == 0) = false := beq_eq_false_iff_ne.mpr c145
      have c145b1 : (x7_2 != 0) = true := bne_iff_ne.mpr c145
      by_cases c150 : a0_0 < 0
      ·rw [if_pos c150] at H
       have c150b0 : decide (a0_0 < 0) = true := decide_eq_true c150
       clear c150
       by_cases c151 : x6_2 = 0
       ·rw [if_pos c151] at H
        have c151b0 : (x6_2 == 0) = true := beq_iff_eq.mpr c151
        have c151b1 : (x6_2 != 0) = false := bne_eq_false_iff_eq.mpr c151
        clear c151
        replace H := Option.bind_eq_some_iff.mp H
        obtain ⟨t442, A1520, H⟩ := H
        replace H : (some t442) = some r := H
        have A152 := mkA A1520
        clear A1520
        as_aux_lemma =>
         obtain rfl := Option.some.inj H
         have hcz153_0 := bc BK402.out 0 (.int .i64 a0_0) rfl
         have hcz153_1 := bc BK402.out 1 (.int .i64 a0_1) rfl
         have hcz153_2 := bc BK402.out 2 (.int .i64 a0_2) rfl
         have hcz153_3 := bc BK402.out 3 (.int .i64 a0_3) rfl
         have hcz153_4 := bc BK402.out 4 (.slice A0_4 l0_4.length c0_4) rfl
         have hcz153_5 := bc BK402.out 5 (.slice A0_5 l0_5.length c0_5) rfl
         have hfz153_0 := blk_frozen BK402.out 0
         have hfz153_1 := blk_frozen BK402.out 1
         have hfz153_2 := blk_frozen BK402.out 2
         have hfz153_3 := blk_frozen BK402.out 3
         have hfz153_4 := blk_frozen BK402.out 4
         have hfz153_5 := blk_frozen BK402.out 5
         obtain ⟨Ao154, co154, eo154⟩ := Kd.R_slice HO_5.out
         subst eo154
         go_wp2_with (first | ((with_reducible refine gate_load (t := 25) rfl ?_); refine load_row3 (t := 25) (g := gb402) ?hg BK402.out ?ho ?hb Try.underlying25 rfl ?hs ?_; (case hg => rfl); (case ho => refine ⟨_, rfl, ?_⟩; first | (with_reducible rfl) | (go_simp; done)); (case hb => (with_reducible repeat (first | refine blk_drewN ?_ _ | refine blk_drew ?_ | refine blk_alloc ?_ _)); with_reducible exact BK402.out); (case hs => kernel_rfl)) | (go_at_call 7; (with_reducible refine (newsreellaw41_awake.calls _ _ _ A152.out).mono ?_); rintro e w155 ⟨rfl, hb⟩; have n0_ := mkA (Kd.R_below (Kd.R_y HO_5.out) hb); have n1_ := mkA (blk_below (blk_y BK402.out) hb); have n2_ := mkA (below_step (below_y HB.out) hb); clear HO_5; clear BK402; clear HB; have HO_5 := n0_; have BK402 := n1_; have HB := n2_; clear n0_ n1_ n2_; (try clear hb); (try clear hb2); (try clear hk); (try clear hi)))
         go_ret
         exact ⟨by first | rfl | (simp [errW_none, errW_some] <;> rfl) | (simp [*, errW_none, errW_some] <;> rfl), by repeat (first | (with_reducible first | exact HB.out | apply below_alloc | apply pw_below_drewN | apply below_drew1 | refine below_set ?_ GE402.out) | exact HB.out)⟩
       ·rw [if_neg c151] at H
        have c151b0 : (x6_2 == 0) = false := beq_eq_false_iff_ne.mpr c151
        have c151b1 : (x6_2 != 0) = true := bne_iff_ne.mpr c151
        as_aux_lemma =>
         cases (Option.some.inj H).trans ht_
      ·rw [if_neg c150] at H
       have c150b0 : decide (a0_0 < 0) = false := decide_eq_false c150
       clear c150
       as_aux_lemma =>
        cases (Option.some.inj H).trans ht_
   ·rw [if_neg c139] at H
    have c139b0 : decide (a0_0 ≤ x6_2) = false := decide_eq_false c139
    clear c139
    as_aux_lemma =>
     cases (Option.some.inj H).trans ht_
 rw [if_pos c20] at H
 have c20b0 : decide (x8_2 < (l0_5.length : Int)) = true := decide_eq_true c20
 clear c20
 by_cases c21 : 0 ≤ x8_2
 rotate_left
 ·rw [if_neg c21] at H
  exact absurd H (by simp)
 rw [if_pos c21] at H
 have c21b0 : decide (0 ≤ x8_2) = true := decide_eq_true c21
 clear c21
 have H' := mkA H
 clear H
 have hcz22_0 := bc BK402.out 0 (.int .i64 a0_0) rfl
 have hcz22_1 := bc BK402.out 1 (.int .i64 a0_1) rfl
 have hcz22_2 := bc BK402.out 2 (.int .i64 a0_2) rfl
 have hcz22_3 := bc BK402.out 3 (.int .i64 a0_3) rfl
 have hcz22_4 := bc BK402.out 4 (.slice A0_4 l0_4.length c0_4) rfl
 have hcz22_5 := bc BK402.out 5 (.slice A0_5 l0_5.length c0_5) rfl
 have hfz22_0 := blk_frozen BK402.out 0
 have hfz22_1 := blk_frozen BK402.out 1
 have hfz22_2 := blk_frozen BK402.out 2
 have hfz22_3 := blk_frozen BK402.out 3
 have hfz22_4 := blk_frozen BK402.out 4
 have hfz22_5 := blk_frozen BK402.out 5
 have p409 : 0 ≤ (x8_2 : Int) := odt
 have q409 : x8_2 < (l0_5.length : Int) := odt
 obtain ⟨ad409, e409, hx409_0, hx409_1, hx409_2, hx409_3, hx409_4, hx409_5, hx409_6, hx409_7, hx409_8, hx409_9, hx409_10, hx409_11, hx409_12, hx409_13, hx409_14, hx409_15, hx409_16, hx409_17, hx409_18, hx409_19⟩ := at_T29 HR0_5.out x8_2 p409 q409
 cases e409
 replace hx409_0 := hs_ HB.out hx409_0
 replace hx409_1 := hs_ HB.out hx409_1
 replace hx409_2 := hs_ HB.out hx409_2
 replace hx409_3 := hs_ HB.out hx409_3
 replace hx409_4 := hs_ HB.out hx409_4
 replace hx409_5 := hs_ HB.out hx409_5
 replace hx409_6 := hs_ HB.out hx409_6
 replace hx409_7 := hs_ HB.out hx409_7
 replace hx409_8 := hs_ HB.out hx409_8
 replace hx409_9 := hs_ HB.out hx409_9
 replace hx409_10 := hs_ HB.out hx409_10
 replace hx409_11 := hs_ HB.out hx409_11
 replace hx409_12 := hs_ HB.out hx409_12
 replace hx409_13 := hs_ HB.out hx409_13
 replace hx409_14 := hs_ HB.out hx409_14
 replace hx409_15 := hs_ HB.out hx409_15
 replace hx409_16 := hs_ HB.out hx409_16
 replace hx409_17 := hs_ HB.out hx409_17
 replace hx409_18 := hs_ HB.out hx409_18
 replace hx409_19 := hs_ HB.out hx409_19
 replace p409 := eq_true p409
 replace q409 := eq_true q409
 go_wp2_with (first | ((with_reducible refine gate_load (t := 29) rfl ?_); refine load_at2 (t := 29) ?hg ?ho (c0 := _) (cs := [_, _, _, _, _, _, _, _, _, _, _, _, _, _, _, _, _, _, _]) Try.underlying29 rfl (by kernel_rfl) hx409_0 ⟨hx409_1, hx409_2, hx409_3, hx409_4, hx409_5, hx409_6, hx409_7, hx409_8, hx409_9, hx409_10, hx409_11, hx409_12, hx409_13, hx409_14, hx409_15, hx409_16, hx409_17, hx409_18, hx409_19, trivial⟩ ?_; (case hg => rfl); (case ho => refine ⟨_, rfl, ?_⟩; first | (with_reducible rfl) | (go_simp; done))) | ((with_reducible refine gate_load (t := 25) rfl ?_); refine load_row3 (t := 25) (g := gb402) ?hg BK402.out ?ho ?hb Try.underlying25 rfl ?hs ?_; (case hg => rfl); (case ho => refine ⟨_, rfl, ?_⟩; first | (with_reducible rfl) | (go_simp; done)); (case hb => (with_reducible repeat (first | refine blk_drewN ?_ _ | refine blk_drew ?_ | refine blk_alloc ?_ _)); with_reducible exact BK402.out); (case hs => kernel_rfl)) | ((with_reducible refine gate_load (t := 29) rfl ?_); refine load_row3 (t := 29) (g := gb410) ?hg BK410.out ?ho ?hb Try.underlying29 rfl ?hs ?_; (case hg => rfl); (case ho => refine ⟨_, rfl, ?_⟩; first | (with_reducible rfl) | (go_simp; done)); (case hb => (with_reducible repeat (first | refine blk_drewN ?_ _ | refine blk_drew ?_ | refine blk_alloc ?_ _)); with_reducible exact BK410.out); (case hs => kernel_rfl)) | ((with_reducible refine gate_load (t := 29) rfl ?_); refine load_row3w_ (t := 29) (g := gb410) ?hg BK410.out ?ho ?hb Try.underlying29 rfl ?hs ?_; (case hg => first | rfl | (go_simp; done) | (simp [Region.wanted, yielded]; done)); (case ho => refine ⟨_, rfl, ?_⟩; first | (with_reducible rfl) | (go_simp; done)); (case hb => (with_reducible repeat (first | refine blk_drewN ?_ _ | refine blk_drew ?_ | refine blk_alloc ?_ _)); with_reducible exact BK410.out); (case hs => kernel_rfl)) | ((with_reducible refine gate_dst (N := 9) rfl ?_); refine box_event ?hg (N := 9) ?hd (cs := #[.int .i64 0, .int .i64 0, .string (⟨#[]⟩ : ByteArray), .string (⟨#[]⟩ : ByteArray), .string (⟨#[]⟩ : ByteArray), .int .i64 0, .int .i64 0, .int .i64 0, .int .i64 0, .bool false, .int .i64 0, .int .i64 0, .int .i64 0, .string (⟨#[]⟩ : ByteArray), .int .i64 0, .int .i64 0, .string (⟨#[]⟩ : ByteArray), .int .i64 0, .int .i64 0, .string (⟨#[]⟩ : ByteArray)]) (t := 29) ?hr ?_; (case hd => rfl); (case hg => rfl); (case hr => first | (go_simp; done) | (go_simp; rfl)); intro gb410 hg w23 hbox hb; have n0_ := mkA (Kd.R_below (Kd.R_y HO_5.out) hb); have n1_ := mkA (blk_below (blk_y BK402.out) hb); have n2_ := mkA (below_step (below_y HB.out) hb); have n3_ := mkA (hbox); have n4_ := mkA ((gz hg HB.out : w.heap.size ≤ gb410)); have n5_ := mkA ((gz hg HB.out : w.heap.size ≤ gb410)); have n6_ := mkA ((gn hg BK402.out : gb402 ≠ gb410)); have n7_ := mkA ((gm hg BK402.out : gb410 ≠ gb402)); clear HO_5; clear BK402; clear HB; have HO_5 := n0_; have BK402 := n1_; have HB := n2_; have BK410 := n3_; have GW410 := n4_; have GE410 := n5_; have NB402_410 := n6_; have NB410_402 := n7_; clear n0_ n1_ n2_ n3_ n4_ n5_ n6_ n7_; clear hb hbox hg; have hnb24 := NB410_402.out; have hnc24 := NB402_410.out; have hcz25_0 := bc BK410.out 0 (.int .i64 0) rfl; have hcz25_1 := bc BK410.out 1 (.int .i64 0) rfl; have hcz25_2 := bc BK410.out 2 (.string (⟨#[]⟩ : ByteArray)) rfl; have hcz25_3 := bc BK410.out 3 (.string (⟨#[]⟩ : ByteArray)) rfl; have hcz25_4 := bc BK410.out 4 (.string (⟨#[]⟩ : ByteArray)) rfl; have hcz25_5 := bc BK410.out 5 (.int .i64 0) rfl; have hcz25_6 := bc BK410.out 6 (.int .i64 0) rfl; have hcz25_7 := bc BK410.out 7 (.int .i64 0) rfl; have hcz25_8 := bc BK410.out 8 (.int .i64 0) rfl; have hcz25_9 := bc BK410.out 9 (.bool false) rfl; have hcz25_10 := bc BK410.out 10 (.int .i64 0) rfl; have hcz25_11 := bc BK410.out 11 (.int .i64 0) rfl; have hcz25_12 := bc BK410.out 12 (.int .i64 0) rfl; have hcz25_13 := bc BK410.out 13 (.string (⟨#[]⟩ : ByteArray)) rfl; have hcz25_14 := bc BK410.out 14 (.int .i64 0) rfl; have hcz25_15 := bc BK410.out 15 (.int .i64 0) rfl; have hcz25_16 := bc BK410.out 16 (.string (⟨#[]⟩ : ByteArray)) rfl; have hcz25_17 := bc BK410.out 17 (.int .i64 0) rfl; have hcz25_18 := bc BK410.out 18 (.int .i64 0) rfl; have hcz25_19 := bc BK410.out 19 (.string (⟨#[]⟩ : ByteArray)) rfl; have hfz25_0 := blk_frozen BK410.out 0; have hfz25_1 := blk_frozen BK410.out 1; have hfz25_2 := blk_frozen BK410.out 2; have hfz25_3 := blk_frozen BK410.out 3; have hfz25_4 := blk_frozen BK410.out 4; have hfz25_5 := blk_frozen BK410.out 5; have hfz25_6 := blk_frozen BK410.out 6; have hfz25_7 := blk_frozen BK410.out 7; have hfz25_8 := blk_frozen BK410.out 8; have hfz25_9 := blk_frozen BK410.out 9; have hfz25_10 := blk_frozen BK410.out 10; have hfz25_11 := blk_frozen BK410.out 11; have hfz25_12 := blk_frozen BK410.out 12; have hfz25_13 := blk_frozen BK410.out 13; have hfz25_14 := blk_frozen BK410.out 14; have hfz25_15 := blk_frozen BK410.out 15; have hfz25_16 := blk_frozen BK410.out 16; have hfz25_17 := blk_frozen BK410.out 17; have hfz25_18 := blk_frozen BK410.out 18; have hfz25_19 := blk_frozen BK410.out 19) | ((with_reducible refine gate_store (t := 29) (p := 9) rfl ?_); refine store_whole2 (t := 29) (g := gb410) ?hg ?hn (cells := #[.int .i64 ((rd_T29 l0_5 x8_2).f0), .int .i64 ((rd_T29 l0_5 x8_2).f1), .string ((rd_T29 l0_5 x8_2).f2), .string ((rd_T29 l0_5 x8_2).f3), .string ((rd_T29 l0_5 x8_2).f4), .int .i64 ((rd_T29 l0_5 x8_2).f5), .int .i64 ((rd_T29 l0_5 x8_2).f6), .int .i64 ((rd_T29 l0_5 x8_2).f7), .int .i64 ((rd_T29 l0_5 x8_2).f8), .bool ((rd_T29 l0_5 x8_2).f9), .int .i64 ((rd_T29 l0_5 x8_2).f10), .int .i64 ((rd_T29 l0_5 x8_2).f11), .int .i64 ((rd_T29 l0_5 x8_2).f12), .string ((rd_T29 l0_5 x8_2).f13), .int .i64 ((rd_T29 l0_5 x8_2).f14), .int .i64 ((rd_T29 l0_5 x8_2).f15), .string ((rd_T29 l0_5 x8_2).f16), .int .i64 ((rd_T29 l0_5 x8_2).f17), .int .i64 ((rd_T29 l0_5 x8_2).f18), .string ((rd_T29 l0_5 x8_2).f19)]) ?ho (blk_y BK410.out) (by kernel_rfl) rfl ?h1 ?_; (case hg => rfl); (case hn => rfl); (case ho => refine ⟨_, _, rfl, ?_, ?_⟩; all_goals (first | (with_reducible rfl) | (go_simp; done) | rfl | (go_simp; rfl))); (case h1 => first | rfl | simp [Value.oneCell']); intro w26 hw; have hg : w23.grownBy w26 (some gb410) := (by rw [hw]; exact grown_setRow _ _ _); have n0_ := mkA ((by have h0_ : Kd.R (Kd.int .i64) 3 w23 w.heap.size (fun _ => True) v407 t406 := (Kd.R_y HO_5.out); exact Kd.R_mono (Kd.R_grown (Kd.R_types h0_ (blk_y BK410.out) (by decide)) hg (fun k_ hk_ e_ => hk_.2 (Option.some.inj e_))) (fun _ h_ => h_.1) : Kd.R (Kd.int .i64) 3 w26 w.heap.size (fun _ => True) v407 t406)); have n1_ := mkA ((by rw [hw]; exact (setRow_other _ _ _ _ NB402_410.out).trans (blk_y BK402.out) : w26.heap[gb402]? = some (.cells #[.int .i64 a0_0, .int .i64 a0_1, .int .i64 a0_2, .int .i64 a0_3, .slice A0_4 l0_4.length c0_4, .slice (some ad409) l0_5.length c0_5] 25 (0, 0)))); have n2_ := mkA ((by rw [hw]; exact setRow_heap _ _ _ _ _ _ (blk_y BK410.out) : w26.heap[gb410]? = some (.cells #[.int .i64 ((rd_T29 l0_5 x8_2).f0), .int .i64 ((rd_T29 l0_5 x8_2).f1), .string ((rd_T29 l0_5 x8_2).f2), .string ((rd_T29 l0_5 x8_2).f3), .string ((rd_T29 l0_5 x8_2).f4), .int .i64 ((rd_T29 l0_5 x8_2).f5), .int .i64 ((rd_T29 l0_5 x8_2).f6), .int .i64 ((rd_T29 l0_5 x8_2).f7), .int .i64 ((rd_T29 l0_5 x8_2).f8), .bool ((rd_T29 l0_5 x8_2).f9), .int .i64 ((rd_T29 l0_5 x8_2).f10), .int .i64 ((rd_T29 l0_5 x8_2).f11), .int .i64 ((rd_T29 l0_5 x8_2).f12), .string ((rd_T29 l0_5 x8_2).f13), .int .i64 ((rd_T29 l0_5 x8_2).f14), .int .i64 ((rd_T29 l0_5 x8_2).f15), .string ((rd_T29 l0_5 x8_2).f16), .int .i64 ((rd_T29 l0_5 x8_2).f17), .int .i64 ((rd_T29 l0_5 x8_2).f18), .string ((rd_T29 l0_5 x8_2).f19)] 29 (0, 0)))); have n3_ := mkA ((by rw [hw]; exact below_setRow (below_y HB.out) GE410.out _ : Below w.heap.size w w26)); clear HO_5; clear BK402; clear BK410; clear HB; have HO_5 := n0_; have BK402 := n1_; have BK410 := n2_; have HB := n3_; clear n0_ n1_ n2_ n3_; clear hg hw))
 go_loopg [10, 11] k2 (fun kq v10 v11 w' => ∃ (x10_3 : Bool) (x11_3 : Int), v10 = .bool x10_3 ∧ v11 = .int .i64 x11_3 ∧ Aside0 (newsreellaw41_RetainOldest.l1 kq a1 t406 x6_2 x7_2 x8_2 x10_3 x11_3 a0_0 a0_1 a0_2 a0_3 l0_4 l0_5 ((rd_T29 l0_5 x8_2).f0) ((rd_T29 l0_5 x8_2).f1) ((rd_T29 l0_5 x8_2).f2) ((rd_T29 l0_5 x8_2).f3) ((rd_T29 l0_5 x8_2).f4) ((rd_T29 l0_5 x8_2).f5) ((rd_T29 l0_5 x8_2).f6) ((rd_T29 l0_5 x8_2).f7) ((rd_T29 l0_5 x8_2).f8) ((rd_T29 l0_5 x8_2).f9) ((rd_T29 l0_5 x8_2).f10) ((rd_T29 l0_5 x8_2).f11) ((rd_T29 l0_5 x8_2).f12) ((rd_T29 l0_5 x8_2).f13) ((rd_T29 l0_5 x8_2).f14) ((rd_T29 l0_5 x8_2).f15) ((rd_T29 l0_5 x8_2).f16) ((rd_T29 l0_5 x8_2).f17) ((rd_T29 l0_5 x8_2).f18) ((rd_T29 l0_5 x8_2).f19) = some r) ∧ Aside0 (kq ≤ k2) ∧ Aside0 (Kd.R (Kd.int .i64) 3 w' w.heap.size (fun _ => True) v407 t406) ∧ Aside0 (w'.heap[gb402]? = some (.cells #[.int .i64 a0_0, .int .i64 a0_1, .int .i64 a0_2, .int .i64 a0_3, (.slice A0_4 l0_4.length c0_4), (.slice (some ad409) l0_5.length c0_5)] 25 (0, 0))) ∧ Aside0 (w'.heap[gb410]? = some (.cells #[.int .i64 ((rd_T29 l0_5 x8_2).f0), .int .i64 ((rd_T29 l0_5 x8_2).f1), .string ((rd_T29 l0_5 x8_2).f2), .string ((rd_T29 l0_5 x8_2).f3), .string ((rd_T29 l0_5 x8_2).f4), .int .i64 ((rd_T29 l0_5 x8_2).f5), .int .i64 ((rd_T29 l0_5 x8_2).f6), .int .i64 ((rd_T29 l0_5 x8_2).f7), .int .i64 ((rd_T29 l0_5 x8_2).f8), .bool ((rd_T29 l0_5 x8_2).f9), .int .i64 ((rd_T29 l0_5 x8_2).f10), .int .i64 ((rd_T29 l0_5 x8_2).f11), .int .i64 ((rd_T29 l0_5 x8_2).f12), .string ((rd_T29 l0_5 x8_2).f13), .int .i64 ((rd_T29 l0_5 x8_2).f14), .int .i64 ((rd_T29 l0_5 x8_2).f15), .string ((rd_T29 l0_5 x8_2).f16), .int .i64 ((rd_T29 l0_5 x8_2).f17), .int .i64 ((rd_T29 l0_5 x8_2).f18), .string ((rd_T29 l0_5 x8_2).f19)] 29 (0, 0))) ∧ Aside0 (Below w.heap.size w w'))
 case atStart => exact ⟨(false), (0), (by first | rfl | (simp; done) | (simp [*]; done)), (by first | rfl | (simp; done) | (simp [*]; done)), H', ⟨Nat.le_refl _⟩, ⟨by (with_reducible repeat (first | apply Kd.R_alloc | apply Kd.R_drewN | apply Kd.R_drew)); exact HO_5.out⟩, ⟨by (with_reducible repeat (first | refine blk_drewN ?_ _ | refine blk_drew ?_ | refine blk_alloc ?_ _)); exact BK402.out⟩, ⟨by (with_reducible repeat (first | refine blk_drewN ?_ _ | refine blk_drew ?_ | refine blk_alloc ?_ _)); exact BK410.out⟩, ⟨by repeat (first | (with_reducible first | exact HB.out | apply below_alloc | apply pw_below_drewN | apply below_drew1 | refine below_set ?_ GE402.out | refine below_set ?_ GE410.out) | exact HB.out)⟩⟩
 clear H'
 try clear c1
 try clear c2
 try clear p2
 try clear c4
 try clear p4
 try clear q4
 try clear hx4
 try clear c5
 try clear c6
 try clear c7
 try clear c11
 try clear c14
 try clear c20
 try clear c20b0
 try clear c21
 try clear c21b0
 try clear c24
 try clear hcz10_0
 try clear hcz10_1
 try clear hcz10_2
 try clear hcz10_3
 try clear hcz10_4
 try clear hcz10_5
 try clear hcz12_0
 try clear hcz12_1
 try clear hcz12_2
 try clear hcz12_3
 try clear hcz12_4
 try clear hcz12_5
 try clear hcz18_0
 try clear hcz18_1
 try clear hcz18_2
 try clear hcz18_3
 try clear hcz18_4
 try clear hcz18_5
 try clear hcz22_0
 try clear hcz22_1
 try clear hcz22_2
 try clear hcz22_3
 try clear hcz22_4
 try clear hcz22_5
 try clear hcz25_0
 try clear hcz25_1
 try clear hcz25_10
 try clear hcz25_11
 try clear hcz25_12
 try clear hcz25_13
 try clear hcz25_14
 try clear hcz25_15
 try clear hcz25_16
 try clear hcz25_17
 try clear hcz25_18
 try clear hcz25_19
 try clear hcz25_2
 try clear hcz25_3
 try clear hcz25_4
 try clear hcz25_5
 try clear hcz25_6
 try clear hcz25_7
 try clear hcz25_8
 try clear hcz25_9
 try clear hcz8_0
 try clear hcz8_1
 try clear hcz8_2
 try clear hcz8_3
 try clear hcz8_4
 try clear hcz8_5
 try clear hfz10_0
 try clear hfz10_1
 try clear hfz10_2
 try clear hfz10_3
 try clear hfz10_4
 try clear hfz10_5
 try clear hfz12_0
 try clear hfz12_1
 try clear hfz12_2
 try clear hfz12_3
 try clear hfz12_4
 try clear hfz12_5
 try clear hfz18_0
 try clear hfz18_1
 try clear hfz18_2
 try clear hfz18_3
 try clear hfz18_4
 try clear hfz18_5
 try clear hfz22_0
 try clear hfz22_1
 try clear hfz22_2
 try clear hfz22_3
 try clear hfz22_4
 try clear hfz22_5
 try clear hfz25_0
 try clear hfz25_1
 try clear hfz25_10
 try clear hfz25_11
 try clear hfz25_12
 try clear hfz25_13
 try clear hfz25_14
 try clear hfz25_15
 try clear hfz25_16
 try clear hfz25_17
 try clear hfz25_18
 try clear hfz25_19
 try clear hfz25_2
 try clear hfz25_3
 try clear hfz25_4
 try clear hfz25_5
 try clear hfz25_6
 try clear hfz25_7
 try clear hfz25_8
 try clear hfz25_9
 try clear hfz8_0
 try clear hfz8_1
 try clear hfz8_2
 try clear hfz8_3
 try clear hfz8_4
 try clear hfz8_5
 try clear hx409_0
 try clear hx409_1
 try clear hx409_10
 try clear hx409_11
 try clear hx409_12
 try clear hx409_13
 try clear hx409_14
 try clear hx409_15
 try clear hx409_16
 try clear hx409_17
 try clear hx409_18
 try clear hx409_19
 try clear hx409_2
 try clear hx409_3
 try clear hx409_4
 try clear hx409_5
 try clear hx409_6
 try clear hx409_7
 try clear hx409_8
 try clear hx409_9
 try clear p2
 try clear p409
 try clear q409
 obtain ⟨x10_3, x11_3, rfl, rfl, HA, HK3, HO_5, BK402, BK410, HB⟩ := hrel
 rcases gk with _ | k3
 ·exact absurd HA.out (by simp [newsreellaw41_RetainOldest.l1])
 have H := HA.out
 clear HA
 simp only [newsreellaw41_RetainOldest.l1] at H
 by_cases c27 : x11_3 < (t406.length : Int)
 ·rw [if_pos c27] at H
  have c27b0 : decide (x11_3 < (t406.length : Int)) = true := decide_eq_true c27
  clear c27
  by_cases c28 : x10_3 = true
  ·subst c28
   have H1 : (newsreellaw41_RetainOldest.l1 k3 a1 t406 x6_2 x7_2 x8_2 true (wrap64 (x11_3 + 1)) a0_0 a0_1 a0_2 a0_3 l0_4 l0_5 ((rd_T29 l0_5 x8_2).f0) ((rd_T29 l0_5 x8_2).f1) ((rd_T29 l0_5 x8_2).f2) ((rd_T29 l0_5 x8_2).f3) ((rd_T29 l0_5 x8_2).f4) ((rd_T29 l0_5 x8_2).f5) ((rd_T29 l0_5 x8_2).f6) ((rd_T29 l0_5 x8_2).f7) ((rd_T29 l0_5 x8_2).f8) ((rd_T29 l0_5 x8_2).f9) ((rd_T29 l0_5 x8_2).f10) ((rd_T29 l0_5 x8_2).f11) ((rd_T29 l0_5 x8_2).f12) ((rd_T29 l0_5 x8_2).f13) ((rd_T29 l0_5 x8_2).f14) ((rd_T29 l0_5 x8_2).f15) ((rd_T29 l0_5 x8_2).f16) ((rd_T29 l0_5 x8_2).f17) ((rd_T29 l0_5 x8_2).f18) ((rd_T29 l0_5 x8_2).f19)) = some r := by rw [if_pos rfl] at H; exact H
   clear H
   have H := H1
   clear H1
   as_aux_lemma =>
    have H' := mkA H
    clear H
    obtain ⟨Ao29, co29, eo29⟩ := Kd.R_slice HO_5.out
    subst eo29
    try go_wp2_with (first | ((with_reducible refine gate_load (t := 29) rfl ?_); refine load_at2 (t := 29) ?hg ?ho (c0 := _) (cs := [_, _, _, _, _, _, _, _, _, _, _, _, _, _, _, _, _, _, _]) Try.underlying29 rfl (by kernel_rfl) hx409_0 ⟨hx409_1, hx409_2, hx409_3, hx409_4, hx409_5, hx409_6, hx409_7, hx409_8, hx409_9, hx409_10, hx409_11, hx409_12, hx409_13, hx409_14, hx409_15, hx409_16, hx409_17, hx409_18, hx409_19, trivial⟩ ?_; (case hg => rfl); (case ho => refine ⟨_, rfl, ?_⟩; first | (with_reducible rfl) | (go_simp; done))) | ((with_reducible refine gate_load (t := 25) rfl ?_); refine load_row3 (t := 25) (g := gb402) ?hg BK402.out ?ho ?hb Try.underlying25 rfl ?hs ?_; (case hg => rfl); (case ho => refine ⟨_, rfl, ?_⟩; first | (with_reducible rfl) | (go_simp; done)); (case hb => (with_reducible repeat (first | refine blk_drewN ?_ _ | refine blk_drew ?_ | refine blk_alloc ?_ _)); with_reducible exact BK402.out); (case hs => kernel_rfl)) | ((with_reducible refine gate_load (t := 29) rfl ?_); refine load_row3 (t := 29) (g := gb410) ?hg BK410.out ?ho ?hb Try.underlying29 rfl ?hs ?_; (case hg => rfl); (case ho => refine ⟨_, rfl, ?_⟩; first | (with_reducible rfl) | (go_simp; done)); (case hb => (with_reducible repeat (first | refine blk_drewN ?_ _ | refine blk_drew ?_ | refine blk_alloc ?_ _)); with_reducible exact BK410.out); (case hs => kernel_rfl)) | ((with_reducible refine gate_load (t := 29) rfl ?_); refine load_row3w_ (t := 29) (g := gb410) ?hg BK410.out ?ho ?hb Try.underlying29 rfl ?hs ?_; (case hg => first | rfl | (go_simp; done) | (simp [Region.wanted, yielded]; done)); (case ho => refine ⟨_, rfl, ?_⟩; first | (with_reducible rfl) | (go_simp; done)); (case hb => (with_reducible repeat (first | refine blk_drewN ?_ _ | refine blk_drew ?_ | refine blk_alloc ?_ _)); with_reducible exact BK410.out); (case hs => kernel_rfl)))
    have n0_ := mkA (Kd.R_drew HO_5.out)
    have n1_ := mkA (blk_drew BK402.out)
    have n2_ := mkA (blk_drew BK410.out)
    have n3_ := mkA (below_drew1 HB.out)
    clear HO_5 BK402 BK410 HB
    have HO_5 := n0_
    have BK402 := n1_
    have BK410 := n2_
    have HB := n3_
    clear n0_ n1_ n2_ n3_
    refine start_ (n := 11) (S := fun w' => True) (ds := []) #[false, false, false, false, false, false, false, false, false, false, false] (by kernel_rfl) rfl rfl trivial (fun hHeld => ?_); refine with_tabW newsreellaw41_RetainOldest.tab13 newsreellaw41_RetainOldest.bits13 (fun HT_ HW_ => ?_)
    generalize wr.drew = w30 at HO_5 BK402 BK410 HB hHeld ⊢
    refine pu 0 45 HT_ ?_
    refine pu 1 46 HT_ ?_
    refine pn 2 47 HT_ ?_
    refine pn 3 48 HT_ ?_
    refine pn 4 49 HT_ ?_
    refine pn 5 50 HT_ ?_
    refine pn 6 51 HT_ ?_
    refine pn 7 52 HT_ ?_
    refine pn 8 53 HT_ ?_
    refine pu 9 54 HT_ ?_
    refine pu 10 10 HT_ ?_
    refine done_ (done_of HT_.out (by kernel_rfl)) ?_
    try go_wp2_with (first | ((with_reducible refine gate_load (t := 29) rfl ?_); refine load_at2 (t := 29) ?hg ?ho (c0 := _) (cs := [_, _, _, _, _, _, _, _, _, _, _, _, _, _, _, _, _, _, _]) Try.underlying29 rfl (by kernel_rfl) hx409_0 ⟨hx409_1, hx409_2, hx409_3, hx409_4, hx409_5, hx409_6, hx409_7, hx409_8, hx409_9, hx409_10, hx409_11, hx409_12, hx409_13, hx409_14, hx409_15, hx409_16, hx409_17, hx409_18, hx409_19, trivial⟩ ?_; (case hg => rfl); (case ho => refine ⟨_, rfl, ?_⟩; first | (with_reducible rfl) | (go_simp; done))) | ((with_reducible refine gate_load (t := 25) rfl ?_); refine load_row3 (t := 25) (g := gb402) ?hg BK402.out ?ho ?hb Try.underlying25 rfl ?hs ?_; (case hg => rfl); (case ho => refine ⟨_, rfl, ?_⟩; first | (with_reducible rfl) | (go_simp; done)); (case hb => (with_reducible repeat (first | refine blk_drewN ?_ _ | refine blk_drew ?_ | refine blk_alloc ?_ _)); with_reducible exact BK402.out); (case hs => kernel_rfl)) | ((with_reducible refine gate_load (t := 29) rfl ?_); refine load_row3 (t := 29) (g := gb410) ?hg BK410.out ?ho ?hb Try.underlying29 rfl ?hs ?_; (case hg => rfl); (case ho => refine ⟨_, rfl, ?_⟩; first | (with_reducible rfl) | (go_simp; done)); (case hb => (with_reducible repeat (first | refine blk_drewN ?_ _ | refine blk_drew ?_ | refine blk_alloc ?_ _)); with_reducible exact BK410.out); (case hs => kernel_rfl)) | ((with_reducible refine gate_load (t := 29) rfl ?_); refine load_row3w_ (t := 29) (g := gb410) ?hg BK410.out ?ho ?hb Try.underlying29 rfl ?hs ?_; (case hg => first | rfl | (go_simp; done) | (simp [Region.wanted, yielded]; done)); (case ho => refine ⟨_, rfl, ?_⟩; first | (with_reducible rfl) | (go_simp; done)); (case hb => (with_reducible repeat (first | refine blk_drewN ?_ _ | refine blk_drew ?_ | refine blk_alloc ?_ _)); with_reducible exact BK410.out); (case hs => kernel_rfl)))
    go_roundg k3
    case measure => have := HJ2.out; have := HK2.out; have := HK3.out; omega
    case rel => exact ⟨(true), (wrap64 (x11_3 + 1)), (by first | rfl | (simp; done) | (simp [*]; done)), (by first | rfl | (simp; done) | (simp [*]; done)), H', ⟨by have := HJ2.out; have := HK2.out; have := HK3.out; omega⟩, ⟨by (with_reducible repeat (first | apply Kd.R_alloc | apply Kd.R_drewN | apply Kd.R_drew)); exact HO_5.out⟩, ⟨by (with_reducible repeat (first | refine blk_drewN ?_ _ | refine blk_drew ?_ | refine blk_alloc ?_ _)); exact BK402.out⟩, ⟨by (with_reducible repeat (first | refine blk_drewN ?_ _ | refine blk_drew ?_ | refine blk_alloc ?_ _)); exact BK410.out⟩, ⟨by repeat (first | (with_reducible first | exact HB.out | apply below_alloc | apply pw_below_drewN | apply below_drew1 | refine below_set ?_ GE402.out | refine below_set ?_ GE410.out) | exact HB.out)⟩⟩
  ·replace c28 := Bool.eq_false_iff.mpr c28
   subst c28
   have H1 : (if 0 ≤ x11_3 then (newsreellaw41_RetainOldest.l1 k3 a1 t406 x6_2 x7_2 x8_2 ((rd t406 x11_3) == ((rd_T29 l0_5 x8_2).f0)) (wrap64 (x11_3 + 1)) a0_0 a0_1 a0_2 a0_3 l0_4 l0_5 ((rd_T29 l0_5 x8_2).f0) ((rd_T29 l0_5 x8_2).f1) ((rd_T29 l0_5 x8_2).f2) ((rd_T29 l0_5 x8_2).f3) ((rd_T29 l0_5 x8_2).f4) ((rd_T29 l0_5 x8_2).f5) ((rd_T29 l0_5 x8_2).f6) ((rd_T29 l0_5 x8_2).f7) ((rd_T29 l0_5 x8_2).f8) ((rd_T29 l0_5 x8_2).f9) ((rd_T29 l0_5 x8_2).f10) ((rd_T29 l0_5 x8_2).f11) ((rd_T29 l0_5 x8_2).f12) ((rd_T29 l0_5 x8_2).f13) ((rd_T29 l0_5 x8_2).f14) ((rd_T29 l0_5 x8_2).f15) ((rd_T29 l0_5 x8_2).f16) ((rd_T29 l0_5 x8_2).f17) ((rd_T29 l0_5 x8_2).f18) ((rd_T29 l0_5 x8_2).f19)) else (none)) = some r := by rw [if_neg (show ¬ (false = true) by decide)] at H; exact H
   clear H
   have H := H1
   clear H1
   by_cases c31 : 0 ≤ x11_3
   ·rw [if_pos c31] at H
    have c31b0 : decide (0 ≤ x11_3) = true := decide_eq_true c31
    clear c31
    as_aux_lemma =>
     have H' := mkA H
     clear H
     obtain ⟨Ao32, co32, eo32⟩ := Kd.R_slice HO_5.out
     subst eo32
     try go_wp2_with (first | ((with_reducible refine gate_load (t := 29) rfl ?_); refine load_at2 (t := 29) ?hg ?ho (c0 := _) (cs := [_, _, _, _, _, _, _, _, _, _, _, _, _, _, _, _, _, _, _]) Try.underlying29 rfl (by kernel_rfl) hx409_0 ⟨hx409_1, hx409_2, hx409_3, hx409_4, hx409_5, hx409_6, hx409_7, hx409_8, hx409_9, hx409_10, hx409_11, hx409_12, hx409_13, hx409_14, hx409_15, hx409_16, hx409_17, hx409_18, hx409_19, trivial⟩ ?_; (case hg => rfl); (case ho => refine ⟨_, rfl, ?_⟩; first | (with_reducible rfl) | (go_simp; done))) | ((with_reducible refine gate_load (t := 25) rfl ?_); refine load_row3 (t := 25) (g := gb402) ?hg BK402.out ?ho ?hb Try.underlying25 rfl ?hs ?_; (case hg => rfl); (case ho => refine ⟨_, rfl, ?_⟩; first | (with_reducible rfl) | (go_simp; done)); (case hb => (with_reducible repeat (first | refine blk_drewN ?_ _ | refine blk_drew ?_ | refine blk_alloc ?_ _)); with_reducible exact BK402.out); (case hs => kernel_rfl)) | ((with_reducible refine gate_load (t := 29) rfl ?_); refine load_row3 (t := 29) (g := gb410) ?hg BK410.out ?ho ?hb Try.underlying29 rfl ?hs ?_; (case hg => rfl); (case ho => refine ⟨_, rfl, ?_⟩; first | (with_reducible rfl) | (go_simp; done)); (case hb => (with_reducible repeat (first | refine blk_drewN ?_ _ | refine blk_drew ?_ | refine blk_alloc ?_ _)); with_reducible exact BK410.out); (case hs => kernel_rfl)) | ((with_reducible refine gate_load (t := 29) rfl ?_); refine load_row3w_ (t := 29) (g := gb410) ?hg BK410.out ?ho ?hb Try.underlying29 rfl ?hs ?_; (case hg => first | rfl | (go_simp; done) | (simp [Region.wanted, yielded]; done)); (case ho => refine ⟨_, rfl, ?_⟩; first | (with_reducible rfl) | (go_simp; done)); (case hb => (with_reducible repeat (first | refine blk_drewN ?_ _ | refine blk_drew ?_ | refine blk_alloc ?_ _)); with_reducible exact BK410.out); (case hs => kernel_rfl)))
     have n0_ := mkA (Kd.R_drew HO_5.out)
     have n1_ := mkA (blk_drew BK402.out)
     have n2_ := mkA (blk_drew BK410.out)
     have n3_ := mkA (below_drew1 HB.out)
     clear HO_5 BK402 BK410 HB
     have HO_5 := n0_
     have BK402 := n1_
     have BK410 := n2_
     have HB := n3_
     clear n0_ n1_ n2_ n3_
     have p411 : 0 ≤ (x11_3 : Int) := odt
     have q411 : x11_3 < (t406.length : Int) := odt
     obtain ⟨ad411, e411, hx411_0⟩ := Kd.at_int (Kd.R_reads' HO_5.out).2.2 x11_3 p411 q411
     cases e411
     replace p411 := eq_true p411
     replace q411 := eq_true q411
     refine start_ (n := 11) (S := fun w' => w'.cell? ⟨gb410, 0, none⟩ = some (.int .i64 ((rd_T29 l0_5 x8_2).f0)) ∧ w'.cell? ⟨gb410, 1, none⟩ = some (.int .i64 ((rd_T29 l0_5 x8_2).f1)) ∧ w'.cell? ⟨gb410, 2, none⟩ = some (.string ((rd_T29 l0_5 x8_2).f2)) ∧ w'.cell? ⟨gb410, 3, none⟩ = some (.string ((rd_T29 l0_5 x8_2).f3)) ∧ w'.cell? ⟨gb410, 4, none⟩ = some (.string ((rd_T29 l0_5 x8_2).f4)) ∧ w'.cell? ⟨gb410, 5, none⟩ = some (.int .i64 ((rd_T29 l0_5 x8_2).f5)) ∧ w'.cell? ⟨gb410, 6, none⟩ = some (.int .i64 ((rd_T29 l0_5 x8_2).f6)) ∧ w'.cell? ⟨gb410, 7, none⟩ = some (.int .i64 ((rd_T29 l0_5 x8_2).f7)) ∧ w'.cell? ⟨gb410, 8, none⟩ = some (.int .i64 ((rd_T29 l0_5 x8_2).f8)) ∧ w'.cell? ⟨gb410, 9, none⟩ = some (.bool ((rd_T29 l0_5 x8_2).f9)) ∧ w'.cell? ⟨gb410, 10, none⟩ = some (.int .i64 ((rd_T29 l0_5 x8_2).f10)) ∧ w'.cell? ⟨gb410, 11, none⟩ = some (.int .i64 ((rd_T29 l0_5 x8_2).f11)) ∧ w'.cell? ⟨gb410, 12, none⟩ = some (.int .i64 ((rd_T29 l0_5 x8_2).f12)) ∧ w'.cell? ⟨gb410, 13, none⟩ = some (.string ((rd_T29 l0_5 x8_2).f13)) ∧ w'.cell? ⟨gb410, 14, none⟩ = some (.int .i64 ((rd_T29 l0_5 x8_2).f14)) ∧ w'.cell? ⟨gb410, 15, none⟩ = some (.int .i64 ((rd_T29 l0_5 x8_2).f15)) ∧ w'.cell? ⟨gb410, 16, none⟩ = some (.string ((rd_T29 l0_5 x8_2).f16)) ∧ w'.cell? ⟨gb410, 17, none⟩ = some (.int .i64 ((rd_T29 l0_5 x8_2).f17)) ∧ w'.cell? ⟨gb410, 18, none⟩ = some (.int .i64 ((rd_T29 l0_5 x8_2).f18)) ∧ w'.cell? ⟨gb410, 19, none⟩ = some (.string ((rd_T29 l0_5 x8_2).f19)) ∧ w'.cell? (ad411.add (x11_3).toNat) = some (.int .i64 (rd t406 x11_3))) (ds := []) #[false, false, false, false, false, false, false, false, false, false, false] (by kernel_rfl) rfl rfl ⟨(blk_cell BK410.out 0).trans rfl, (blk_cell BK410.out 1).trans rfl, (blk_cell BK410.out 2).trans rfl, (blk_cell BK410.out 3).trans rfl, (blk_cell BK410.out 4).trans rfl, (blk_cell BK410.out 5).trans rfl, (blk_cell BK410.out 6).trans rfl, (blk_cell BK410.out 7).trans rfl, (blk_cell BK410.out 8).trans rfl, (blk_cell BK410.out 9).trans rfl, (blk_cell BK410.out 10).trans rfl, (blk_cell BK410.out 11).trans rfl, (blk_cell BK410.out 12).trans rfl, (blk_cell BK410.out 13).trans rfl, (blk_cell BK410.out 14).trans rfl, (blk_cell BK410.out 15).trans rfl, (blk_cell BK410.out 16).trans rfl, (blk_cell BK410.out 17).trans rfl, (blk_cell BK410.out 18).trans rfl, (blk_cell BK410.out 19).trans rfl, hx411_0⟩ (fun hHeld => ?_); refine with_tabW newsreellaw41_RetainOldest.tab13 newsreellaw41_RetainOldest.bits13 (fun HT_ HW_ => ?_)
     generalize wr.drew = w33 at HO_5 BK402 BK410 HB hx411_0 hHeld ⊢
     refine pu 0 45 HT_ ?_
     refine pu 1 46 HT_ ?_
     refine pu 2 47 HT_ ?_
     refine pu 3 48 HT_ ?_
     refine pu 4 49 HT_ ?_
     refine pu 6 51 HT_ ?_
     refine tk 5 50 HT_ HW_ hHeld ?_
     refine tk 7 52 HT_ HW_ hHeld ?_
     refine pu 8 53 HT_ ?_
     refine pu 9 54 HT_ ?_
     refine pu 10 10 HT_ ?_
     refine done_ (done_of HT_.out (by kernel_rfl)) ?_
     try go_wp2_with (first | ((with_reducible refine gate_load (t := 29) rfl ?_); refine load_at2 (t := 29) ?hg ?ho (c0 := _) (cs := [_, _, _, _, _, _, _, _, _, _, _, _, _, _, _, _, _, _, _]) Try.underlying29 rfl (by kernel_rfl) hx409_0 ⟨hx409_1, hx409_2, hx409_3, hx409_4, hx409_5, hx409_6, hx409_7, hx409_8, hx409_9, hx409_10, hx409_11, hx409_12, hx409_13, hx409_14, hx409_15, hx409_16, hx409_17, hx409_18, hx409_19, trivial⟩ ?_; (case hg => rfl); (case ho => refine ⟨_, rfl, ?_⟩; first | (with_reducible rfl) | (go_simp; done))) | ((with_reducible refine gate_load (t := 25) rfl ?_); refine load_row3 (t := 25) (g := gb402) ?hg BK402.out ?ho ?hb Try.underlying25 rfl ?hs ?_; (case hg => rfl); (case ho => refine ⟨_, rfl, ?_⟩; first | (with_reducible rfl) | (go_simp; done)); (case hb => (with_reducible repeat (first | refine blk_drewN ?_ _ | refine blk_drew ?_ | refine blk_alloc ?_ _)); with_reducible exact BK402.out); (case hs => kernel_rfl)) | ((with_reducible refine gate_load (t := 29) rfl ?_); refine load_row3 (t := 29) (g := gb410) ?hg BK410.out ?ho ?hb Try.underlying29 rfl ?hs ?_; (case hg => rfl); (case ho => refine ⟨_, rfl, ?_⟩; first | (with_reducible rfl) | (go_simp; done)); (case hb => (with_reducible repeat (first | refine blk_drewN ?_ _ | refine blk_drew ?_ | refine blk_alloc ?_ _)); with_reducible exact BK410.out); (case hs => kernel_rfl)) | ((with_reducible refine gate_load (t := 29) rfl ?_); refine load_row3w_ (t := 29) (g := gb410) ?hg BK410.out ?ho ?hb Try.underlying29 rfl ?hs ?_; (case hg => first | rfl | (go_simp; done) | (simp [Region.wanted, yielded]; done)); (case ho => refine ⟨_, rfl, ?_⟩; first | (with_reducible rfl) | (go_simp; done)); (case hb => (with_reducible repeat (first | refine blk_drewN ?_ _ | refine blk_drew ?_ | refine blk_alloc ?_ _)); with_reducible exact BK410.out); (case hs => kernel_rfl)))
     go_roundg k3
     case measure => have := HJ2.out; have := HK2.out; have := HK3.out; omega
     case rel => exact ⟨(((rd t406 x11_3) == ((rd_T29 l0_5 x8_2).f0))), (wrap64 (x11_3 + 1)), (by first | rfl | (simp; done) | (simp [*]; done)), (by first | rfl | (simp; done) | (simp [*]; done)), H', ⟨by have := HJ2.out; have := HK2.out; have := HK3.out; omega⟩, ⟨by (with_reducible repeat (first | apply Kd.R_alloc | apply Kd.R_drewN | apply Kd.R_drew)); exact HO_5.out⟩, ⟨by (with_reducible repeat (first | refine blk_drewN ?_ _ | refine blk_drew ?_ | refine blk_alloc ?_ _)); exact BK402.out⟩, ⟨by (with_reducible repeat (first | refine blk_drewN ?_ _ | refine blk_drew ?_ | refine blk_alloc ?_ _)); exact BK410.out⟩, ⟨by repeat (first | (with_reducible first | exact HB.out | apply below_alloc | apply pw_below_drewN | apply below_drew1 | refine below_set ?_ GE402.out | refine below_set ?_ GE410.out) | exact HB.out)⟩⟩
   ·rw [if_neg c31] at H
    exact absurd H (by simp)
 rw [if_neg c27] at H
 have c27b0 : decide (x11_3 < (t406.length : Int)) = false := decide_eq_false c27
 clear c27
 have HC34 := mkA H
 clear H
 obtain ⟨Ao35, co35, eo35⟩ := Kd.R_slice HO_5.out
 subst eo35
 go_upto_region 14 with (first | ((with_reducible refine gate_load (t := 29) rfl ?_); refine load_at2 (t := 29) ?hg ?ho (c0 := _) (cs := [_, _, _, _, _, _, _, _, _, _, _, _, _, _, _, _, _, _, _]) Try.underlying29 rfl (by kernel_rfl) hx409_0 ⟨hx409_1, hx409_2, hx409_3, hx409_4, hx409_5, hx409_6, hx409_7, hx409_8, hx409_9, hx409_10, hx409_11, hx409_12, hx409_13, hx409_14, hx409_15, hx409_16, hx409_17, hx409_18, hx409_19, trivial⟩ ?_; (case hg => rfl); (case ho => refine ⟨_, rfl, ?_⟩; first | (with_reducible rfl) | (go_simp; done))) | ((with_reducible refine gate_load (t := 25) rfl ?_); refine load_row3 (t := 25) (g := gb402) ?hg BK402.out ?ho ?hb Try.underlying25 rfl ?hs ?_; (case hg => rfl); (case ho => refine ⟨_, rfl, ?_⟩; first | (with_reducible rfl) | (go_simp; done)); (case hb => (with_reducible repeat (first | refine blk_drewN ?_ _ | refine blk_drew ?_ | refine blk_alloc ?_ _)); with_reducible exact BK402.out); (case hs => kernel_rfl)) | ((with_reducible refine gate_load (t := 29) rfl ?_); refine load_row3 (t := 29) (g := gb410) ?hg BK410.out ?ho ?hb Try.underlying29 rfl ?hs ?_; (case hg => rfl); (case ho => refine ⟨_, rfl, ?_⟩; first | (with_reducible rfl) | (go_simp; done)); (case hb => (with_reducible repeat (first | refine blk_drewN ?_ _ | refine blk_drew ?_ | refine blk_alloc ?_ _)); with_reducible exact BK410.out); (case hs => kernel_rfl)) | ((with_reducible refine gate_load (t := 29) rfl ?_); refine load_row3w_ (t := 29) (g := gb410) ?hg BK410.out ?ho ?hb Try.underlying29 rfl ?hs ?_; (case hg => first | rfl | (go_simp; done) | (simp [Region.wanted, yielded]; done)); (case ho => refine ⟨_, rfl, ?_⟩; first | (with_reducible rfl) | (go_simp; done)); (case hb => (with_reducible repeat (first | refine blk_drewN ?_ _ | refine blk_drew ?_ | refine blk_alloc ?_ _)); with_reducible exact BK410.out); (case hs => kernel_rfl)))
 go_cut [61] (fun v61 wc => ∃ (kq : Nat) (x61_33 : Bool), v61 = .bool x61_33 ∧ Aside0 (newsreellaw41_RetainOldest.j3 kq a1 t406 x6_2 x7_2 x8_2 x10_3 x61_33 a0_0 a0_1 a0_2 a0_3 l0_4 l0_5 ((rd_T29 l0_5 x8_2).f0) ((rd_T29 l0_5 x8_2).f1) ((rd_T29 l0_5 x8_2).f2) ((rd_T29 l0_5 x8_2).f3) ((rd_T29 l0_5 x8_2).f4) ((rd_T29 l0_5 x8_2).f5) ((rd_T29 l0_5 x8_2).f6) ((rd_T29 l0_5 x8_2).f7) ((rd_T29 l0_5 x8_2).f8) ((rd_T29 l0_5 x8_2).f9) ((rd_T29 l0_5 x8_2).f10) ((rd_T29 l0_5 x8_2).f11) ((rd_T29 l0_5 x8_2).f12) ((rd_T29 l0_5 x8_2).f13) ((rd_T29 l0_5 x8_2).f14) ((rd_T29 l0_5 x8_2).f15) ((rd_T29 l0_5 x8_2).f16) ((rd_T29 l0_5 x8_2).f17) ((rd_T29 l0_5 x8_2).f18) ((rd_T29 l0_5 x8_2).f19) = some r) ∧ Aside0 (kq ≤ k3) ∧ Aside0 (Kd.R (Kd.int .i64) 3 wc w.heap.size (fun _ => True) (.slice Ao35 t406.length co35) t406) ∧ Aside0 (wc.heap[gb402]? = some (.cells #[.int .i64 a0_0, .int .i64 a0_1, .int .i64 a0_2, .int .i64 a0_3, (.slice A0_4 l0_4.length c0_4), (.slice (some ad409) l0_5.length c0_5)] 25 (0, 0))) ∧ Aside0 (wc.heap[gb410]? = some (.cells #[.int .i64 ((rd_T29 l0_5 x8_2).f0), .int .i64 ((rd_T29 l0_5 x8_2).f1), .string ((rd_T29 l0_5 x8_2).f2), .string ((rd_T29 l0_5 x8_2).f3), .string ((rd_T29 l0_5 x8_2).f4), .int .i64 ((rd_T29 l0_5 x8_2).f5), .int .i64 ((rd_T29 l0_5 x8_2).f6), .int .i64 ((rd_T29 l0_5 x8_2).f7), .int .i64 ((rd_T29 l0_5 x8_2).f8), .bool ((rd_T29 l0_5 x8_2).f9), .int .i64 ((rd_T29 l0_5 x8_2).f10), .int .i64 ((rd_T29 l0_5 x8_2).f11), .int .i64 ((rd_T29 l0_5 x8_2).f12), .string ((rd_T29 l0_5 x8_2).f13), .int .i64 ((rd_T29 l0_5 x8_2).f14), .int .i64 ((rd_T29 l0_5 x8_2).f15), .string ((rd_T29 l0_5 x8_2).f16), .int .i64 ((rd_T29 l0_5 x8_2).f17), .int .i64 ((rd_T29 l0_5 x8_2).f18), .string ((rd_T29 l0_5 x8_2).f19)] 29 (0, 0))) ∧ Aside0 (Below w.heap.size w wc))
 case first =>
  have H := HC34.out
  clear HC34
  by_cases c36 : x10_3 = true
  ·subst c36
   have H1 : ((newsreelref41_May.f ((rd_T29 l0_5 x8_2).f0) ((rd_T29 l0_5 x8_2).f1) ((rd_T29 l0_5 x8_2).f2) ((rd_T29 l0_5 x8_2).f3) ((rd_T29 l0_5 x8_2).f4) ((rd_T29 l0_5 x8_2).f5) ((rd_T29 l0_5 x8_2).f6) ((rd_T29 l0_5 x8_2).f7) ((rd_T29 l0_5 x8_2).f8) ((rd_T29 l0_5 x8_2).f9) ((rd_T29 l0_5 x8_2).f10) ((rd_T29 l0_5 x8_2).f11) ((rd_T29 l0_5 x8_2).f12) ((rd_T29 l0_5 x8_2).f13) ((rd_T29 l0_5 x8_2).f14) ((rd_T29 l0_5 x8_2).f15) ((rd_T29 l0_5 x8_2).f16) ((rd_T29 l0_5 x8_2).f17) ((rd_T29 l0_5 x8_2).f18) ((rd_T29 l0_5 x8_2).f19) a1).bind fun t412 => (newsreellaw41_RetainOldest.j3 k3 a1 t406 x6_2 x7_2 x8_2 true (!t412) a0_0 a0_1 a0_2 a0_3 l0_4 l0_5 ((rd_T29 l0_5 x8_2).f0) ((rd_T29 l0_5 x8_2).f1) ((rd_T29 l0_5 x8_2).f2) ((rd_T29 l0_5 x8_2).f3) ((rd_T29 l0_5 x8_2).f4) ((rd_T29 l0_5 x8_2).f5) ((rd_T29 l0_5 x8_2).f6) ((rd_T29 l0_5 x8_2).f7) ((rd_T29 l0_5 x8_2).f8) ((rd_T29 l0_5 x8_2).f9) ((rd_T29 l0_5 x8_2).f10) ((rd_T29 l0_5 x8_2).f11) ((rd_T29 l0_5 x8_2).f12) ((rd_T29 l0_5 x8_2).f13) ((rd_T29 l0_5 x8_2).f14) ((rd_T29 l0_5 x8_2).f15) ((rd_T29 l0_5 x8_2).f16) ((rd_T29 l0_5 x8_2).f17) ((rd_T29 l0_5 x8_2).f18) ((rd_T29 l0_5 x8_2).f19))) = some r := by rw [if_pos rfl] at H; exact H
   clear H
   have H := H1
   clear H1
   replace H := Option.bind_eq_some_iff.mp H
   obtain ⟨t412, A370, H⟩ := H
   replace H : (newsreellaw41_RetainOldest.j3 k3 a1 t406 x6_2 x7_2 x8_2 true (!t412) a0_0 a0_1 a0_2 a0_3 l0_4 l0_5 ((rd_T29 l0_5 x8_2).f0) ((rd_T29 l0_5 x8_2).f1) ((rd_T29 l0_5 x8_2).f2) ((rd_T29 l0_5 x8_2).f3) ((rd_T29 l0_5 x8_2).f4) ((rd_T29 l0_5 x8_2).f5) ((rd_T29 l0_5 x8_2).f6) ((rd_T29 l0_5 x8_2).f7) ((rd_T29 l0_5 x8_2).f8) ((rd_T29 l0_5 x8_2).f9) ((rd_T29 l0_5 x8_2).f10) ((rd_T29 l0_5 x8_2).f11) ((rd_T29 l0_5 x8_2).f12) ((rd_T29 l0_5 x8_2).f13) ((rd_T29 l0_5 x8_2).f14) ((rd_T29 l0_5 x8_2).f15) ((rd_T29 l0_5 x8_2).f16) ((rd_T29 l0_5 x8_2).f17) ((rd_T29 l0_5 x8_2).f18) ((rd_T29 l0_5 x8_2).f19)) = some r := H
   have A37 := mkA A370
   clear A370
   as_aux_lemma =>
    have H' := mkA H
    clear H
    have hnb38 := NB410_402.out
    have hnc38 := NB402_410.out
    have hcz39_0 := bc BK410.out 0 (.int .i64 ((rd_T29 l0_5 x8_2).f0)) rfl
    have hcz39_1 := bc BK410.out 1 (.int .i64 ((rd_T29 l0_5 x8_2).f1)) rfl
    have hcz39_2 := bc BK410.out 2 (.string ((rd_T29 l0_5 x8_2).f2)) rfl
    have hcz39_3 := bc BK410.out 3 (.string ((rd_T29 l0_5 x8_2).f3)) rfl
    have hcz39_4 := bc BK410.out 4 (.string ((rd_T29 l0_5 x8_2).f4)) rfl
    have hcz39_5 := bc BK410.out 5 (.int .i64 ((rd_T29 l0_5 x8_2).f5)) rfl
    have hcz39_6 := bc BK410.out 6 (.int .i64 ((rd_T29 l0_5 x8_2).f6)) rfl
    have hcz39_7 := bc BK410.out 7 (.int .i64 ((rd_T29 l0_5 x8_2).f7)) rfl
    have hcz39_8 := bc BK410.out 8 (.int .i64 ((rd_T29 l0_5 x8_2).f8)) rfl
    have hcz39_9 := bc BK410.out 9 (.bool ((rd_T29 l0_5 x8_2).f9)) rfl
    have hcz39_10 := bc BK410.out 10 (.int .i64 ((rd_T29 l0_5 x8_2).f10)) rfl
    have hcz39_11 := bc BK410.out 11 (.int .i64 ((rd_T29 l0_5 x8_2).f11)) rfl
    have hcz39_12 := bc BK410.out 12 (.int .i64 ((rd_T29 l0_5 x8_2).f12)) rfl
    have hcz39_13 := bc BK410.out 13 (.string ((rd_T29 l0_5 x8_2).f13)) rfl
    have hcz39_14 := bc BK410.out 14 (.int .i64 ((rd_T29 l0_5 x8_2).f14)) rfl
    have hcz39_15 := bc BK410.out 15 (.int .i64 ((rd_T29 l0_5 x8_2).f15)) rfl
    have hcz39_16 := bc BK410.out 16 (.string ((rd_T29 l0_5 x8_2).f16)) rfl
    have hcz39_17 := bc BK410.out 17 (.int .i64 ((rd_T29 l0_5 x8_2).f17)) rfl
    have hcz39_18 := bc BK410.out 18 (.int .i64 ((rd_T29 l0_5 x8_2).f18)) rfl
    have hcz39_19 := bc BK410.out 19 (.string ((rd_T29 l0_5 x8_2).f19)) rfl
    have hfz39_0 := blk_frozen BK410.out 0
    have hfz39_1 := blk_frozen BK410.out 1
    have hfz39_2 := blk_frozen BK410.out 2
    have hfz39_3 := blk_frozen BK410.out 3
    have hfz39_4 := blk_frozen BK410.out 4
    have hfz39_5 := blk_frozen BK410.out 5
    have hfz39_6 := blk_frozen BK410.out 6
    have hfz39_7 := blk_frozen BK410.out 7
    have hfz39_8 := blk_frozen BK410.out 8
    have hfz39_9 := blk_frozen BK410.out 9
    have hfz39_10 := blk_frozen BK410.out 10
    have hfz39_11 := blk_frozen BK410.out 11
    have hfz39_12 := blk_frozen BK410.out 12
    have hfz39_13 := blk_frozen BK410.out 13
    have hfz39_14 := blk_frozen BK410.out 14
    have hfz39_15 := blk_frozen BK410.out 15
    have hfz39_16 := blk_frozen BK410.out 16
    have hfz39_17 := blk_frozen BK410.out 17
    have hfz39_18 := blk_frozen BK410.out 18
    have hfz39_19 := blk_frozen BK410.out 19
    go_wp2_with (first | ((with_reducible refine gate_load (t := 29) rfl ?_); refine load_at2 (t := 29) ?hg ?ho (c0 := _) (cs := [_, _, _, _, _, _, _, _, _, _, _, _, _, _, _, _, _, _, _]) Try.underlying29 rfl (by kernel_rfl) hx409_0 ⟨hx409_1, hx409_2, hx409_3, hx409_4, hx409_5, hx409_6, hx409_7, hx409_8, hx409_9, hx409_10, hx409_11, hx409_12, hx409_13, hx409_14, hx409_15, hx409_16, hx409_17, hx409_18, hx409_19, trivial⟩ ?_; (case hg => rfl); (case ho => refine ⟨_, rfl, ?_⟩; first | (with_reducible rfl) | (go_simp; done))) | ((with_reducible refine gate_load (t := 25) rfl ?_); refine load_row3 (t := 25) (g := gb402) ?hg BK402.out ?ho ?hb Try.underlying25 rfl ?hs ?_; (case hg => rfl); (case ho => refine ⟨_, rfl, ?_⟩; first | (with_reducible rfl) | (go_simp; done)); (case hb => (with_reducible repeat (first | refine blk_drewN ?_ _ | refine blk_drew ?_ | refine blk_alloc ?_ _)); with_reducible exact BK402.out); (case hs => kernel_rfl)) | ((with_reducible refine gate_load (t := 29) rfl ?_); refine load_row3 (t := 29) (g := gb410) ?hg BK410.out ?ho ?hb Try.underlying29 rfl ?hs ?_; (case hg => rfl); (case ho => refine ⟨_, rfl, ?_⟩; first | (with_reducible rfl) | (go_simp; done)); (case hb => (with_reducible repeat (first | refine blk_drewN ?_ _ | refine blk_drew ?_ | refine blk_alloc ?_ _)); with_reducible exact BK410.out); (case hs => kernel_rfl)) | ((with_reducible refine gate_load (t := 29) rfl ?_); refine load_row3w_ (t := 29) (g := gb410) ?hg BK410.out ?ho ?hb Try.underlying29 rfl ?hs ?_; (case hg => first | rfl | (go_simp; done) | (simp [Region.wanted, yielded]; done)); (case ho => refine ⟨_, rfl, ?_⟩; first | (with_reducible rfl) | (go_simp; done)); (case hb => (with_reducible repeat (first | refine blk_drewN ?_ _ | refine blk_drew ?_ | refine blk_alloc ?_ _)); with_reducible exact BK410.out); (case hs => kernel_rfl)) | (go_at_call 16; (with_reducible refine (newsreelref41_May.calls _ _ _ _ _ _ _ _ _ _ _ _ _ _ _ _ _ _ _ _ _ _ _ A37.out).mono ?_); rintro e w40 ⟨rfl, hb⟩; have n0_ := mkA (Kd.R_below (Kd.R_y HO_5.out) hb); have n1_ := mkA (blk_below (blk_y BK402.out) hb); have n2_ := mkA (blk_below (blk_y BK410.out) hb); have n3_ := mkA (below_step (below_y HB.out) hb); clear HO_5; clear BK402; clear BK410; clear HB; have HO_5 := n0_; have BK402 := n1_; have BK410 := n2_; have HB := n3_; clear n0_ n1_ n2_ n3_; (try clear hb); (try clear hb2); (try clear hk); (try clear hi)))
    go_meet
    case rel => exact ⟨_, (!t412), (by first | rfl | (simp; done) | (simp [*]; done)), H', ⟨by have := HJ2.out; have := HK2.out; have := HK3.out; first | omega | exact Nat.le_refl _⟩, ⟨by (with_reducible repeat (first | apply Kd.R_alloc | apply Kd.R_drewN | apply Kd.R_drew)); exact HO_5.out⟩, ⟨by (with_reducible repeat (first | refine blk_drewN ?_ _ | refine blk_drew ?_ | refine blk_alloc ?_ _)); exact BK402.out⟩, ⟨by (with_reducible repeat (first | refine blk_drewN ?_ _ | refine blk_drew ?_ | refine blk_alloc ?_ _)); exact BK410.out⟩, ⟨by repeat (first | (with_reducible first | exact HB.out | apply below_alloc | apply pw_below_drewN | apply below_drew1 | refine below_set ?_ GE402.out | refine below_set ?_ GE410.out) | exact HB.out)⟩⟩
  ·replace c36 := Bool.eq_false_iff.mpr c36
   subst c36
   have H1 : (newsreellaw41_RetainOldest.j3 k3 a1 t406 x6_2 x7_2 x8_2 false false a0_0 a0_1 a0_2 a0_3 l0_4 l0_5 ((rd_T29 l0_5 x8_2).f0) ((rd_T29 l0_5 x8_2).f1) ((rd_T29 l0_5 x8_2).f2) ((rd_T29 l0_5 x8_2).f3) ((rd_T29 l0_5 x8_2).f4) ((rd_T29 l0_5 x8_2).f5) ((rd_T29 l0_5 x8_2).f6) ((rd_T29 l0_5 x8_2).f7) ((rd_T29 l0_5 x8_2).f8) ((rd_T29 l0_5 x8_2).f9) ((rd_T29 l0_5 x8_2).f10) ((rd_T29 l0_5 x8_2).f11) ((rd_T29 l0_5 x8_2).f12) ((rd_T29 l0_5 x8_2).f13) ((rd_T29 l0_5 x8_2).f14) ((rd_T29 l0_5 x8_2).f15) ((rd_T29 l0_5 x8_2).f16) ((rd_T29 l0_5 x8_2).f17) ((rd_T29 l0_5 x8_2).f18) ((rd_T29 l0_5 x8_2).f19)) = some r := by rw [if_neg (show ¬ (false = true) by decide)] at H; exact H
   clear H
   have H := H1
   clear H1
   as_aux_lemma =>
    have H' := mkA H
    clear H
    go_wp2_with (first | ((with_reducible refine gate_load (t := 29) rfl ?_); refine load_at2 (t := 29) ?hg ?ho (c0 := _) (cs := [_, _, _, _, _, _, _, _, _, _, _, _, _, _, _, _, _, _, _]) Try.underlying29 rfl (by kernel_rfl) hx409_0 ⟨hx409_1, hx409_2, hx409_3, hx409_4, hx409_5, hx409_6, hx409_7, hx409_8, hx409_9, hx409_10, hx409_11, hx409_12, hx409_13, hx409_14, hx409_15, hx409_16, hx409_17, hx409_18, hx409_19, trivial⟩ ?_; (case hg => rfl); (case ho => refine ⟨_, rfl, ?_⟩; first | (with_reducible rfl) | (go_simp; done))) | ((with_reducible refine gate_load (t := 25) rfl ?_); refine load_row3 (t := 25) (g := gb402) ?hg BK402.out ?ho ?hb Try.underlying25 rfl ?hs ?_; (case hg => rfl); (case ho => refine ⟨_, rfl, ?_⟩; first | (with_reducible rfl) | (go_simp; done)); (case hb => (with_reducible repeat (first | refine blk_drewN ?_ _ | refine blk_drew ?_ | refine blk_alloc ?_ _)); with_reducible exact BK402.out); (case hs => kernel_rfl)) | ((with_reducible refine gate_load (t := 29) rfl ?_); refine load_row3 (t := 29) (g := gb410) ?hg BK410.out ?ho ?hb Try.underlying29 rfl ?hs ?_; (case hg => rfl); (case ho => refine ⟨_, rfl, ?_⟩; first | (with_reducible rfl) | (go_simp; done)); (case hb => (with_reducible repeat (first | refine blk_drewN ?_ _ | refine blk_drew ?_ | refine blk_alloc ?_ _)); with_reducible exact BK410.out); (case hs => kernel_rfl)) | ((with_reducible refine gate_load (t := 29) rfl ?_); refine load_row3w_ (t := 29) (g := gb410) ?hg BK410.out ?ho ?hb Try.underlying29 rfl ?hs ?_; (case hg => first | rfl | (go_simp; done) | (simp [Region.wanted, yielded]; done)); (case ho => refine ⟨_, rfl, ?_⟩; first | (with_reducible rfl) | (go_simp; done)); (case hb => (with_reducible repeat (first | refine blk_drewN ?_ _ | refine blk_drew ?_ | refine blk_alloc ?_ _)); with_reducible exact BK410.out); (case hs => kernel_rfl)))
    go_meet
    case rel => exact ⟨_, (false), (by first | rfl | (simp; done) | (simp [*]; done)), H', ⟨by have := HJ2.out; have := HK2.out; have := HK3.out; first | omega | exact Nat.le_refl _⟩, ⟨by (with_reducible repeat (first | apply Kd.R_alloc | apply Kd.R_drewN | apply Kd.R_drew)); exact HO_5.out⟩, ⟨by (with_reducible repeat (first | refine blk_drewN ?_ _ | refine blk_drew ?_ | refine blk_alloc ?_ _)); exact BK402.out⟩, ⟨by (with_reducible repeat (first | refine blk_drewN ?_ _ | refine blk_drew ?_ | refine blk_alloc ?_ _)); exact BK410.out⟩, ⟨by repeat (first | (with_reducible first | exact HB.out | apply below_alloc | apply pw_below_drewN | apply below_drew1 | refine below_set ?_ GE402.out | refine below_set ?_ GE410.out) | exact HB.out)⟩⟩
 clear HC34
 try clear c1
 try clear c2
 try clear p2
 try clear c3
 try clear c4
 try clear p4
 try clear q4
 try clear hx4
 try clear c5
 try clear c6
 try clear p6
 try clear c7
 try clear c11
 try clear c14
 try clear c20
 try clear c20b0
 try clear c21
 try clear c21b0
 try clear c24
 try clear c27
 try clear c27b0
 try clear c28
 try clear c31
 try clear c31b0
 try clear c36
 try clear c38
 try clear p40
 try clear q40
 try clear hx40
 try clear hcz10_0
 try clear hcz10_1
 try clear hcz10_2
 try clear hcz10_3
 try clear hcz10_4
 try clear hcz10_5
 try clear hcz12_0
 try clear hcz12_1
 try clear hcz12_2
 try clear hcz12_3
 try clear hcz12_4
 try clear hcz12_5
 try clear hcz18_0
 try clear hcz18_1
 try clear hcz18_2
 try clear hcz18_3
 try clear hcz18_4
 try clear hcz18_5
 try clear hcz22_0
 try clear hcz22_1
 try clear hcz22_2
 try clear hcz22_3
 try clear hcz22_4
 try clear hcz22_5
 try clear hcz25_0
 try clear hcz25_1
 try clear hcz25_10
 try clear hcz25_11
 try clear hcz25_12
 try clear hcz25_13
 try clear hcz25_14
 try clear hcz25_15
 try clear hcz25_16
 try clear hcz25_17
 try clear hcz25_18
 try clear hcz25_19
 try clear hcz25_2
 try clear hcz25_3
 try clear hcz25_4
 try clear hcz25_5
 try clear hcz25_6
 try clear hcz25_7
 try clear hcz25_8
 try clear hcz25_9
 try clear hcz39_0
 try clear hcz39_1
 try clear hcz39_10
 try clear hcz39_11
 try clear hcz39_12
 try clear hcz39_13
 try clear hcz39_14
 try clear hcz39_15
 try clear hcz39_16
 try clear hcz39_17
 try clear hcz39_18
 try clear hcz39_19
 try clear hcz39_2
 try clear hcz39_3
 try clear hcz39_4
 try clear hcz39_5
 try clear hcz39_6
 try clear hcz39_7
 try clear hcz39_8
 try clear hcz39_9
 try clear hcz8_0
 try clear hcz8_1
 try clear hcz8_2
 try clear hcz8_3
 try clear hcz8_4
 try clear hcz8_5
 try clear hfz10_0
 try clear hfz10_1
 try clear hfz10_2
 try clear hfz10_3
 try clear hfz10_4
 try clear hfz10_5
 try clear hfz12_0
 try clear hfz12_1
 try clear hfz12_2
 try clear hfz12_3
 try clear hfz12_4
 try clear hfz12_5
 try clear hfz18_0
 try clear hfz18_1
 try clear hfz18_2
 try clear hfz18_3
 try clear hfz18_4
 try clear hfz18_5
 try clear hfz22_0
 try clear hfz22_1
 try clear hfz22_2
 try clear hfz22_3
 try clear hfz22_4
 try clear hfz22_5
 try clear hfz25_0
 try clear hfz25_1
 try clear hfz25_10
 try clear hfz25_11
 try clear hfz25_12
 try clear hfz25_13
 try clear hfz25_14
 try clear hfz25_15
 try clear hfz25_16
 try clear hfz25_17
 try clear hfz25_18
 try clear hfz25_19
 try clear hfz25_2
 try clear hfz25_3
 try clear hfz25_4
 try clear hfz25_5
 try clear hfz25_6
 try clear hfz25_7
 try clear hfz25_8
 try clear hfz25_9
 try clear hfz39_0
 try clear hfz39_1
 try clear hfz39_10
 try clear hfz39_11
 try clear hfz39_12
 try clear hfz39_13
 try clear hfz39_14
 try clear hfz39_15
 try clear hfz39_16
 try clear hfz39_17
 try clear hfz39_18
 try clear hfz39_19
 try clear hfz39_2
 try clear hfz39_3
 try clear hfz39_4
 try clear hfz39_5
 try clear hfz39_6
 try clear hfz39_7
 try clear hfz39_8
 try clear hfz39_9
 try clear hfz8_0
 try clear hfz8_1
 try clear hfz8_2
 try clear hfz8_3
 try clear hfz8_4
 try clear hfz8_5
 try clear hx409_0
 try clear hx409_1
 try clear hx409_10
 try clear hx409_11
 try clear hx409_12
 try clear hx409_13
 try clear hx409_14
 try clear hx409_15
 try clear hx409_16
 try clear hx409_17
 try clear hx409_18
 try clear hx409_19
 try clear hx409_2
 try clear hx409_3
 try clear hx409_4
 try clear hx409_5
 try clear hx409_6
 try clear hx409_7
 try clear hx409_8
 try clear hx409_9
 try clear hx411_0
 try clear p2
 try clear p4
 try clear p409
 try clear p411
 try clear q4
 try clear q409
 try clear q411
 obtain ⟨kq, x61_33, rfl, HA, HJ33, HO_5, BK402, BK410, HB⟩ := hcut
 rcases kq with _ | kj33
 ·exact absurd HA.out (by simp [newsreellaw41_RetainOldest.j3])
 have H := HA.out
 clear HA
 simp only [newsreellaw41_RetainOldest.j3] at H
 by_cases c41 : x61_33 = true
 ·subst c41
  have H1 : (some false) = some r := by rw [if_pos rfl] at H; exact H
  clear H
  have H := H1
  clear H1
  as_aux_lemma =>
   cases (Option.some.inj H).trans ht_
 replace c41 := Bool.eq_false_iff.mpr c41
 subst c41
 have H1 : (if x10_3 = true then (newsreellaw41_RetainOldest.j4 kj33 a1 t406 x6_2 x7_2 x8_2 true a0_0 a0_1 a0_2 a0_3 l0_4 l0_5 ((rd_T29 l0_5 x8_2).f0) ((rd_T29 l0_5 x8_2).f1) ((rd_T29 l0_5 x8_2).f2) ((rd_T29 l0_5 x8_2).f3) ((rd_T29 l0_5 x8_2).f4) ((rd_T29 l0_5 x8_2).f5) ((rd_T29 l0_5 x8_2).f6) ((rd_T29 l0_5 x8_2).f7) ((rd_T29 l0_5 x8_2).f8) ((rd_T29 l0_5 x8_2).f9) ((rd_T29 l0_5 x8_2).f10) ((rd_T29 l0_5 x8_2).f11) ((rd_T29 l0_5 x8_2).f12) ((rd_T29 l0_5 x8_2).f13) ((rd_T29 l0_5 x8_2).f14) ((rd_T29 l0_5 x8_2).f15) ((rd_T29 l0_5 x8_2).f16) ((rd_T29 l0_5 x8_2).f17) ((rd_T29 l0_5 x8_2).f18) ((rd_T29 l0_5 x8_2).f19)) else (if ((rd_T29 l0_5 x8_2).f1) = a1 then (newsreellaw41_RetainOldest.j4 kj33 a1 t406 x6_2 x7_2 x8_2 (((rd_T29 l0_5 x8_2).f7) != 3) a0_0 a0_1 a0_2 a0_3 l0_4 l0_5 ((rd_T29 l0_5 x8_2).f0) ((rd_T29 l0_5 x8_2).f1) ((rd_T29 l0_5 x8_2).f2) ((rd_T29 l0_5 x8_2).f3) ((rd_T29 l0_5 x8_2).f4) ((rd_T29 l0_5 x8_2).f5) ((rd_T29 l0_5 x8_2).f6) ((rd_T29 l0_5 x8_2).f7) ((rd_T29 l0_5 x8_2).f8) ((rd_T29 l0_5 x8_2).f9) ((rd_T29 l0_5 x8_2).f10) ((rd_T29 l0_5 x8_2).f11) ((rd_T29 l0_5 x8_2).f12) ((rd_T29 l0_5 x8_2).f13) ((rd_T29 l0_5 x8_2).f14) ((rd_T29 l0_5 x8_2).f15) ((rd_T29 l0_5 x8_2).f16) ((rd_T29 l0_5 x8_2).f17) ((rd_T29 l0_5 x8_2).f18) ((rd_T29 l0_5 x8_2).f19)) else (newsreellaw41_RetainOldest.j4 kj33 a1 t406 x6_2 x7_2 x8_2 true a0_0 a0_1 a0_2 a0_3 l0_4 l0_5 ((rd_T29 l0_5 x8_2).f0) ((rd_T29 l0_5 x8_2).f1) ((rd_T29 l0_5 x8_2).f2) ((rd_T29 l0_5 x8_2).f3) ((rd_T29 l0_5 x8_2).f4) ((rd_T29 l0_5 x8_2).f5) ((rd_T29 l0_5 x8_2).f6) ((rd_T29 l0_5 x8_2).f7) ((rd_T29 l0_5 x8_2).f8) ((rd_T29 l0_5 x8_2).f9) ((rd_T29 l0_5 x8_2).f10) ((rd_T29 l0_5 x8_2).f11) ((rd_T29 l0_5 x8_2).f12) ((rd_T29 l0_5 x8_2).f13) ((rd_T29 l0_5 x8_2).f14) ((rd_T29 l0_5 x8_2).f15) ((rd_T29 l0_5 x8_2).f16) ((rd_T29 l0_5 x8_2).f17) ((rd_T29 l0_5 x8_2).f18) ((rd_T29 l0_5 x8_2).f19)))) = some r := by rw [if_neg (show ¬ (false = true) by decide)] at H; exact H
 clear H
 have H := H1
 clear H1
 have HC42 := mkA H
 clear H
 go_upto_region 16 with (first | ((with_reducible refine gate_load (t := 29) rfl ?_); refine load_at2 (t := 29) ?hg ?ho (c0 := _) (cs := [_, _, _, _, _, _, _, _, _, _, _, _, _, _, _, _, _, _, _]) Try.underlying29 rfl (by kernel_rfl) hx409_0 ⟨hx409_1, hx409_2, hx409_3, hx409_4, hx409_5, hx409_6, hx409_7, hx409_8, hx409_9, hx409_10, hx409_11, hx409_12, hx409_13, hx409_14, hx409_15, hx409_16, hx409_17, hx409_18, hx409_19, trivial⟩ ?_; (case hg => rfl); (case ho => refine ⟨_, rfl, ?_⟩; first | (with_reducible rfl) | (go_simp; done))) | ((with_reducible refine gate_load (t := 25) rfl ?_); refine load_row3 (t := 25) (g := gb402) ?hg BK402.out ?ho ?hb Try.underlying25 rfl ?hs ?_; (case hg => rfl); (case ho => refine ⟨_, rfl, ?_⟩; first | (with_reducible rfl) | (go_simp; done)); (case hb => (with_reducible repeat (first | refine blk_drewN ?_ _ | refine blk_drew ?_ | refine blk_alloc ?_ _)); with_reducible exact BK402.out); (case hs => kernel_rfl)) | ((with_reducible refine gate_load (t := 29) rfl ?_); refine load_row3 (t := 29) (g := gb410) ?hg BK410.out ?ho ?hb Try.underlying29 rfl ?hs ?_; (case hg => rfl); (case ho => refine ⟨_, rfl, ?_⟩; first | (with_reducible rfl) | (go_simp; done)); (case hb => (with_reducible repeat (first | refine blk_drewN ?_ _ | refine blk_drew ?_ | refine blk_alloc ?_ _)); with_reducible exact BK410.out); (case hs => kernel_rfl)) | ((with_reducible refine gate_load (t := 29) rfl ?_); refine load_row3w_ (t := 29) (g := gb410) ?hg BK410.out ?ho ?hb Try.underlying29 rfl ?hs ?_; (case hg => first | rfl | (go_simp; done) | (simp [Region.wanted, yielded]; done)); (case ho => refine ⟨_, rfl, ?_⟩; first | (with_reducible rfl) | (go_simp; done)); (case hb => (with_reducible repeat (first | refine blk_drewN ?_ _ | refine blk_drew ?_ | refine blk_alloc ?_ _)); with_reducible exact BK410.out); (case hs => kernel_rfl)))
 go_cut [73] (fun v73 wc => ∃ (kq : Nat) (x73_41 : Bool), v73 = .bool x73_41 ∧ Aside0 (newsreellaw41_RetainOldest.j4 kq a1 t406 x6_2 x7_2 x8_2 x73_41 a0_0 a0_1 a0_2 a0_3 l0_4 l0_5 ((rd_T29 l0_5 x8_2).f0) ((rd_T29 l0_5 x8_2).f1) ((rd_T29 l0_5 x8_2).f2) ((rd_T29 l0_5 x8_2).f3) ((rd_T29 l0_5 x8_2).f4) ((rd_T29 l0_5 x8_2).f5) ((rd_T29 l0_5 x8_2).f6) ((rd_T29 l0_5 x8_2).f7) ((rd_T29 l0_5 x8_2).f8) ((rd_T29 l0_5 x8_2).f9) ((rd_T29 l0_5 x8_2).f10) ((rd_T29 l0_5 x8_2).f11) ((rd_T29 l0_5 x8_2).f12) ((rd_T29 l0_5 x8_2).f13) ((rd_T29 l0_5 x8_2).f14) ((rd_T29 l0_5 x8_2).f15) ((rd_T29 l0_5 x8_2).f16) ((rd_T29 l0_5 x8_2).f17) ((rd_T29 l0_5 x8_2).f18) ((rd_T29 l0_5 x8_2).f19) = some r) ∧ Aside0 (kq ≤ kj33) ∧ Aside0 (Kd.R (Kd.int .i64) 3 wc w.heap.size (fun _ => True) (.slice Ao35 t406.length co35) t406) ∧ Aside0 (wc.heap[gb402]? = some (.cells #[.int .i64 a0_0, .int .i64 a0_1, .int .i64 a0_2, .int .i64 a0_3, (.slice A0_4 l0_4.length c0_4), (.slice (some ad409) l0_5.length c0_5)] 25 (0, 0))) ∧ Aside0 (wc.heap[gb410]? = some (.cells #[.int .i64 ((rd_T29 l0_5 x8_2).f0), .int .i64 ((rd_T29 l0_5 x8_2).f1), .string ((rd_T29 l0_5 x8_2).f2), .string ((rd_T29 l0_5 x8_2).f3), .string ((rd_T29 l0_5 x8_2).f4), .int .i64 ((rd_T29 l0_5 x8_2).f5), .int .i64 ((rd_T29 l0_5 x8_2).f6), .int .i64 ((rd_T29 l0_5 x8_2).f7), .int .i64 ((rd_T29 l0_5 x8_2).f8), .bool ((rd_T29 l0_5 x8_2).f9), .int .i64 ((rd_T29 l0_5 x8_2).f10), .int .i64 ((rd_T29 l0_5 x8_2).f11), .int .i64 ((rd_T29 l0_5 x8_2).f12), .string ((rd_T29 l0_5 x8_2).f13), .int .i64 ((rd_T29 l0_5 x8_2).f14), .int .i64 ((rd_T29 l0_5 x8_2).f15), .string ((rd_T29 l0_5 x8_2).f16), .int .i64 ((rd_T29 l0_5 x8_2).f17), .int .i64 ((rd_T29 l0_5 x8_2).f18), .string ((rd_T29 l0_5 x8_2).f19)] 29 (0, 0))) ∧ Aside0 (Below w.heap.size w wc))
 case first =>
  have H := HC42.out
  clear HC42
  by_cases c43 : x10_3 = true
  ·subst c43
   have H1 : (newsreellaw41_RetainOldest.j4 kj33 a1 t406 x6_2 x7_2 x8_2 true a0_0 a0_1 a0_2 a0_3 l0_4 l0_5 ((rd_T29 l0_5 x8_2).f0) ((rd_T29 l0_5 x8_2).f1) ((rd_T29 l0_5 x8_2).f2) ((rd_T29 l0_5 x8_2).f3) ((rd_T29 l0_5 x8_2).f4) ((rd_T29 l0_5 x8_2).f5) ((rd_T29 l0_5 x8_2).f6) ((rd_T29 l0_5 x8_2).f7) ((rd_T29 l0_5 x8_2).f8) ((rd_T29 l0_5 x8_2).f9) ((rd_T29 l0_5 x8_2).f10) ((rd_T29 l0_5 x8_2).f11) ((rd_T29 l0_5 x8_2).f12) ((rd_T29 l0_5 x8_2).f13) ((rd_T29 l0_5 x8_2).f14) ((rd_T29 l0_5 x8_2).f15) ((rd_T29 l0_5 x8_2).f16) ((rd_T29 l0_5 x8_2).f17) ((rd_T29 l0_5 x8_2).f18) ((rd_T29 l0_5 x8_2).f19)) = some r := by rw [if_pos rfl] at H; exact H
   clear H
   have H := H1
   clear H1
   as_aux_lemma =>
    have H' := mkA H
    clear H
    go_wp2_with (first | ((with_reducible refine gate_load (t := 29) rfl ?_); refine load_at2 (t := 29) ?hg ?ho (c0 := _) (cs := [_, _, _, _, _, _, _, _, _, _, _, _, _, _, _, _, _, _, _]) Try.underlying29 rfl (by kernel_rfl) hx409_0 ⟨hx409_1, hx409_2, hx409_3, hx409_4, hx409_5, hx409_6, hx409_7, hx409_8, hx409_9, hx409_10, hx409_11, hx409_12, hx409_13, hx409_14, hx409_15, hx409_16, hx409_17, hx409_18, hx409_19, trivial⟩ ?_; (case hg => rfl); (case ho => refine ⟨_, rfl, ?_⟩; first | (with_reducible rfl) | (go_simp; done))) | ((with_reducible refine gate_load (t := 25) rfl ?_); refine load_row3 (t := 25) (g := gb402) ?hg BK402.out ?ho ?hb Try.underlying25 rfl ?hs ?_; (case hg => rfl); (case ho => refine ⟨_, rfl, ?_⟩; first | (with_reducible rfl) | (go_simp; done)); (case hb => (with_reducible repeat (first | refine blk_drewN ?_ _ | refine blk_drew ?_ | refine blk_alloc ?_ _)); with_reducible exact BK402.out); (case hs => kernel_rfl)) | ((with_reducible refine gate_load (t := 29) rfl ?_); refine load_row3 (t := 29) (g := gb410) ?hg BK410.out ?ho ?hb Try.underlying29 rfl ?hs ?_; (case hg => rfl); (case ho => refine ⟨_, rfl, ?_⟩; first | (with_reducible rfl) | (go_simp; done)); (case hb => (with_reducible repeat (first | refine blk_drewN ?_ _ | refine blk_drew ?_ | refine blk_alloc ?_ _)); with_reducible exact BK410.out); (case hs => kernel_rfl)) | ((with_reducible refine gate_load (t := 29) rfl ?_); refine load_row3w_ (t := 29) (g := gb410) ?hg BK410.out ?ho ?hb Try.underlying29 rfl ?hs ?_; (case hg => first | rfl | (go_simp; done) | (simp [Region.wanted, yielded]; done)); (case ho => refine ⟨_, rfl, ?_⟩; first | (with_reducible rfl) | (go_simp; done)); (case hb => (with_reducible repeat (first | refine blk_drewN ?_ _ | refine blk_drew ?_ | refine blk_alloc ?_ _)); with_reducible exact BK410.out); (case hs => kernel_rfl)))
    go_meet
    case rel => exact ⟨_, (true), (by first | rfl | (simp; done) | (simp [*]; done)), H', ⟨by have := HJ2.out; have := HK2.out; have := HK3.out; have := HJ33.out; first | omega | exact Nat.le_refl _⟩, ⟨by (with_reducible repeat (first | apply Kd.R_alloc | apply Kd.R_drewN | apply Kd.R_drew)); exact HO_5.out⟩, ⟨by (with_reducible repeat (first | refine blk_drewN ?_ _ | refine blk_drew ?_ | refine blk_alloc ?_ _)); exact BK402.out⟩, ⟨by (with_reducible repeat (first | refine blk_drewN ?_ _ | refine blk_drew ?_ | refine blk_alloc ?_ _)); exact BK410.out⟩, ⟨by repeat (first | (with_reducible first | exact HB.out | apply below_alloc | apply pw_below_drewN | apply below_drew1 | refine below_set ?_ GE402.out | refine below_set ?_ GE410.out) | exact HB.out)⟩⟩
  ·replace c43 := Bool.eq_false_iff.mpr c43
   subst c43
   have H1 : (if ((rd_T29 l0_5 x8_2).f1) = a1 then (newsreellaw41_RetainOldest.j4 kj33 a1 t406 x6_2 x7_2 x8_2 (((rd_T29 l0_5 x8_2).f7) != 3) a0_0 a0_1 a0_2 a0_3 l0_4 l0_5 ((rd_T29 l0_5 x8_2).f0) ((rd_T29 l0_5 x8_2).f1) ((rd_T29 l0_5 x8_2).f2) ((rd_T29 l0_5 x8_2).f3) ((rd_T29 l0_5 x8_2).f4) ((rd_T29 l0_5 x8_2).f5) ((rd_T29 l0_5 x8_2).f6) ((rd_T29 l0_5 x8_2).f7) ((rd_T29 l0_5 x8_2).f8) ((rd_T29 l0_5 x8_2).f9) ((rd_T29 l0_5 x8_2).f10) ((rd_T29 l0_5 x8_2).f11) ((rd_T29 l0_5 x8_2).f12) ((rd_T29 l0_5 x8_2).f13) ((rd_T29 l0_5 x8_2).f14) ((rd_T29 l0_5 x8_2).f15) ((rd_T29 l0_5 x8_2).f16) ((rd_T29 l0_5 x8_2).f17) ((rd_T29 l0_5 x8_2).f18) ((rd_T29 l0_5 x8_2).f19)) else (newsreellaw41_RetainOldest.j4 kj33 a1 t406 x6_2 x7_2 x8_2 true a0_0 a0_1 a0_2 a0_3 l0_4 l0_5 ((rd_T29 l0_5 x8_2).f0) ((rd_T29 l0_5 x8_2).f1) ((rd_T29 l0_5 x8_2).f2) ((rd_T29 l0_5 x8_2).f3) ((rd_T29 l0_5 x8_2).f4) ((rd_T29 l0_5 x8_2).f5) ((rd_T29 l0_5 x8_2).f6) ((rd_T29 l0_5 x8_2).f7) ((rd_T29 l0_5 x8_2).f8) ((rd_T29 l0_5 x8_2).f9) ((rd_T29 l0_5 x8_2).f10) ((rd_T29 l0_5 x8_2).f11) ((rd_T29 l0_5 x8_2).f12) ((rd_T29 l0_5 x8_2).f13) ((rd_T29 l0_5 x8_2).f14) ((rd_T29 l0_5 x8_2).f15) ((rd_T29 l0_5 x8_2).f16) ((rd_T29 l0_5 x8_2).f17) ((rd_T29 l0_5 x8_2).f18) ((rd_T29 l0_5 x8_2).f19))) = some r := by rw [if_neg (show ¬ (false = true) by decide)] at H; exact H
   clear H
   have H := H1
   clear H1
   by_cases c44 : ((rd_T29 l0_5 x8_2).f1) = a1
   ·rw [if_pos c44] at H
    have c44b0 : (((rd_T29 l0_5 x8_2).f1) == a1) = true := beq_iff_eq.mpr c44
    have c44b1 : (((rd_T29 l0_5 x8_2).f1) != a1) = false := bne_eq_false_iff_eq.mpr c44
    clear c44
    (first | rw [c44b0] | (simp only [i64_w, i32_w]; rw [c44b0]) | skip)
    as_aux_lemma =>
     have H' := mkA H
     clear H
     have hnb45 := NB410_402.out
     have hnc45 := NB402_410.out
     have hcz46_0 := bc BK410.out 0 (.int .i64 ((rd_T29 l0_5 x8_2).f0)) rfl
     have hcz46_1 := bc BK410.out 1 (.int .i64 ((rd_T29 l0_5 x8_2).f1)) rfl
     have hcz46_2 := bc BK410.out 2 (.string ((rd_T29 l0_5 x8_2).f2)) rfl
     have hcz46_3 := bc BK410.out 3 (.string ((rd_T29 l0_5 x8_2).f3)) rfl
     have hcz46_4 := bc BK410.out 4 (.string ((rd_T29 l0_5 x8_2).f4)) rfl
     have hcz46_5 := bc BK410.out 5 (.int .i64 ((rd_T29 l0_5 x8_2).f5)) rfl
     have hcz46_6 := bc BK410.out 6 (.int .i64 ((rd_T29 l0_5 x8_2).f6)) rfl
     have hcz46_7 := bc BK410.out 7 (.int .i64 ((rd_T29 l0_5 x8_2).f7)) rfl
     have hcz46_8 := bc BK410.out 8 (.int .i64 ((rd_T29 l0_5 x8_2).f8)) rfl
     have hcz46_9 := bc BK410.out 9 (.bool ((rd_T29 l0_5 x8_2).f9)) rfl
     have hcz46_10 := bc BK410.out 10 (.int .i64 ((rd_T29 l0_5 x8_2).f10)) rfl
     have hcz46_11 := bc BK410.out 11 (.int .i64 ((rd_T29 l0_5 x8_2).f11)) rfl
     have hcz46_12 := bc BK410.out 12 (.int .i64 ((rd_T29 l0_5 x8_2).f12)) rfl
     have hcz46_13 := bc BK410.out 13 (.string ((rd_T29 l0_5 x8_2).f13)) rfl
     have hcz46_14 := bc BK410.out 14 (.int .i64 ((rd_T29 l0_5 x8_2).f14)) rfl
     have hcz46_15 := bc BK410.out 15 (.int .i64 ((rd_T29 l0_5 x8_2).f15)) rfl
     have hcz46_16 := bc BK410.out 16 (.string ((rd_T29 l0_5 x8_2).f16)) rfl
     have hcz46_17 := bc BK410.out 17 (.int .i64 ((rd_T29 l0_5 x8_2).f17)) rfl
     have hcz46_18 := bc BK410.out 18 (.int .i64 ((rd_T29 l0_5 x8_2).f18)) rfl
     have hcz46_19 := bc BK410.out 19 (.string ((rd_T29 l0_5 x8_2).f19)) rfl
     have hfz46_0 := blk_frozen BK410.out 0
     have hfz46_1 := blk_frozen BK410.out 1
     have hfz46_2 := blk_frozen BK410.out 2
     have hfz46_3 := blk_frozen BK410.out 3
     have hfz46_4 := blk_frozen BK410.out 4
     have hfz46_5 := blk_frozen BK410.out 5
     have hfz46_6 := blk_frozen BK410.out 6
     have hfz46_7 := blk_frozen BK410.out 7
     have hfz46_8 := blk_frozen BK410.out 8
     have hfz46_9 := blk_frozen BK410.out 9
     have hfz46_10 := blk_frozen BK410.out 10
     have hfz46_11 := blk_frozen BK410.out 11
     have hfz46_12 := blk_frozen BK410.out 12
     have hfz46_13 := blk_frozen BK410.out 13
     have hfz46_14 := blk_frozen BK410.out 14
     have hfz46_15 := blk_frozen BK410.out 15
     have hfz46_16 := blk_frozen BK410.out 16
     have hfz46_17 := blk_frozen BK410.out 17
     have hfz46_18 := blk_frozen BK410.out 18
     have hfz46_19 := blk_frozen BK410.out 19
     go_wp2_with (first | ((with_reducible refine gate_load (t := 29) rfl ?_); refine load_at2 (t := 29) ?hg ?ho (c0 := _) (cs := [_, _, _, _, _, _, _, _, _, _, _, _, _, _, _, _, _, _, _]) Try.underlying29 rfl (by kernel_rfl) hx409_0 ⟨hx409_1, hx409_2, hx409_3, hx409_4, hx409_5, hx409_6, hx409_7, hx409_8, hx409_9, hx409_10, hx409_11, hx409_12, hx409_13, hx409_14, hx409_15, hx409_16, hx409_17, hx409_18, hx409_19, trivial⟩ ?_; (case hg => rfl); (case ho => refine ⟨_, rfl, ?_⟩; first | (with_reducible rfl) | (go_simp; done))) | ((with_reducible refine gate_load (t := 25) rfl ?_); refine load_row3 (t := 25) (g := gb402) ?hg BK402.out ?ho ?hb Try.underlying25 rfl ?hs ?_; (case hg => rfl); (case ho => refine ⟨_, rfl, ?_⟩; first | (with_reducible rfl) | (go_simp; done)); (case hb => (with_reducible repeat (first | refine blk_drewN ?_ _ | refine blk_drew ?_ | refine blk_alloc ?_ _)); with_reducible exact BK402.out); (case hs => kernel_rfl)) | ((with_reducible refine gate_load (t := 29) rfl ?_); refine load_row3 (t := 29) (g := gb410) ?hg BK410.out ?ho ?hb Try.underlying29 rfl ?hs ?_; (case hg => rfl); (case ho => refine ⟨_, rfl, ?_⟩; first | (with_reducible rfl) | (go_simp; done)); (case hb => (with_reducible repeat (first | refine blk_drewN ?_ _ | refine blk_drew ?_ | refine blk_alloc ?_ _)); with_reducible exact BK410.out); (case hs => kernel_rfl)) | ((with_reducible refine gate_load (t := 29) rfl ?_); refine load_row3w_ (t := 29) (g := gb410) ?hg BK410.out ?ho ?hb Try.underlying29 rfl ?hs ?_; (case hg => first | rfl | (go_simp; done) | (simp [Region.wanted, yielded]; done)); (case ho => refine ⟨_, rfl, ?_⟩; first | (with_reducible rfl) | (go_simp; done)); (case hb => (with_reducible repeat (first | refine blk_drewN ?_ _ | refine blk_drew ?_ | refine blk_alloc ?_ _)); with_reducible exact BK410.out); (case hs => kernel_rfl)))
     go_meet
     case rel => exact ⟨_, ((((rd_T29 l0_5 x8_2).f7) != 3)), (by first | rfl | (simp; done) | (simp [*]; done)), H', ⟨by have := HJ2.out; have := HK2.out; have := HK3.out; have := HJ33.out; first | omega | exact Nat.le_refl _⟩, ⟨by (with_reducible repeat (first | apply Kd.R_alloc | apply Kd.R_drewN | apply Kd.R_drew)); exact HO_5.out⟩, ⟨by (with_reducible repeat (first | refine blk_drewN ?_ _ | refine blk_drew ?_ | refine blk_alloc ?_ _)); exact BK402.out⟩, ⟨by (with_reducible repeat (first | refine blk_drewN ?_ _ | refine blk_drew ?_ | refine blk_alloc ?_ _)); exact BK410.out⟩, ⟨by repeat (first | (with_reducible first | exact HB.out | apply below_alloc | apply pw_below_drewN | apply below_drew1 | refine below_set ?_ GE402.out | refine below_set ?_ GE410.out) | exact HB.out)⟩⟩
   ·rw [if_neg c44] at H
    have c44b0 : (((rd_T29 l0_5 x8_2).f1) == a1) = false := beq_eq_false_iff_ne.mpr c44
    have c44b1 : (((rd_T29 l0_5 x8_2).f1) != a1) = true := bne_iff_ne.mpr c44
    (first | rw [c44b0] | (simp only [i64_w, i32_w]; rw [c44b0]) | skip)
    as_aux_lemma =>
     have H' := mkA H
     clear H
     have hnb47 := NB410_402.out
     have hnc47 := NB402_410.out
     have hcz48_0 := bc BK410.out 0 (.int .i64 ((rd_T29 l0_5 x8_2).f0)) rfl
     have hcz48_1 := bc BK410.out 1 (.int .i64 ((rd_T29 l0_5 x8_2).f1)) rfl
     have hcz48_2 := bc BK410.out 2 (.string ((rd_T29 l0_5 x8_2).f2)) rfl
     have hcz48_3 := bc BK410.out 3 (.string ((rd_T29 l0_5 x8_2).f3)) rfl
     have hcz48_4 := bc BK410.out 4 (.string ((rd_T29 l0_5 x8_2).f4)) rfl
     have hcz48_5 := bc BK410.out 5 (.int .i64 ((rd_T29 l0_5 x8_2).f5)) rfl
     have hcz48_6 := bc BK410.out 6 (.int .i64 ((rd_T29 l0_5 x8_2).f6)) rfl
     have hcz48_7 := bc BK410.out 7 (.int .i64 ((rd_T29 l0_5 x8_2).f7)) rfl
     have hcz48_8 := bc BK410.out 8 (.int .i64 ((rd_T29 l0_5 x8_2).f8)) rfl
     have hcz48_9 := bc BK410.out 9 (.bool ((rd_T29 l0_5 x8_2).f9)) rfl
     have hcz48_10 := bc BK410.out 10 (.int .i64 ((rd_T29 l0_5 x8_2).f10)) rfl
     have hcz48_11 := bc BK410.out 11 (.int .i64 ((rd_T29 l0_5 x8_2).f11)) rfl
     have hcz48_12 := bc BK410.out 12 (.int .i64 ((rd_T29 l0_5 x8_2).f12)) rfl
     have hcz48_13 := bc BK410.out 13 (.string ((rd_T29 l0_5 x8_2).f13)) rfl
     have hcz48_14 := bc BK410.out 14 (.int .i64 ((rd_T29 l0_5 x8_2).f14)) rfl
     have hcz48_15 := bc BK410.out 15 (.int .i64 ((rd_T29 l0_5 x8_2).f15)) rfl
     have hcz48_16 := bc BK410.out 16 (.string ((rd_T29 l0_5 x8_2).f16)) rfl
     have hcz48_17 := bc BK410.out 17 (.int .i64 ((rd_T29 l0_5 x8_2).f17)) rfl
     have hcz48_18 := bc BK410.out 18 (.int .i64 ((rd_T29 l0_5 x8_2).f18)) rfl
     have hcz48_19 := bc BK410.out 19 (.string ((rd_T29 l0_5 x8_2).f19)) rfl
     have hfz48_0 := blk_frozen BK410.out 0
     have hfz48_1 := blk_frozen BK410.out 1
     have hfz48_2 := blk_frozen BK410.out 2
     have hfz48_3 := blk_frozen BK410.out 3
     have hfz48_4 := blk_frozen BK410.out 4
     have hfz48_5 := blk_frozen BK410.out 5
     have hfz48_6 := blk_frozen BK410.out 6
     have hfz48_7 := blk_frozen BK410.out 7
     have hfz48_8 := blk_frozen BK410.out 8
     have hfz48_9 := blk_frozen BK410.out 9
     have hfz48_10 := blk_frozen BK410.out 10
     have hfz48_11 := blk_frozen BK410.out 11
     have hfz48_12 := blk_frozen BK410.out 12
     have hfz48_13 := blk_frozen BK410.out 13
     have hfz48_14 := blk_frozen BK410.out 14
     have hfz48_15 := blk_frozen BK410.out 15
     have hfz48_16 := blk_frozen BK410.out 16
     have hfz48_17 := blk_frozen BK410.out 17
     have hfz48_18 := blk_frozen BK410.out 18
     have hfz48_19 := blk_frozen BK410.out 19
     go_wp2_with (first | ((with_reducible refine gate_load (t := 29) rfl ?_); refine load_at2 (t := 29) ?hg ?ho (c0 := _) (cs := [_, _, _, _, _, _, _, _, _, _, _, _, _, _, _, _, _, _, _]) Try.underlying29 rfl (by kernel_rfl) hx409_0 ⟨hx409_1, hx409_2, hx409_3, hx409_4, hx409_5, hx409_6, hx409_7, hx409_8, hx409_9, hx409_10, hx409_11, hx409_12, hx409_13, hx409_14, hx409_15, hx409_16, hx409_17, hx409_18, hx409_19, trivial⟩ ?_; (case hg => rfl); (case ho => refine ⟨_, rfl, ?_⟩; first | (with_reducible rfl) | (go_simp; done))) | ((with_reducible refine gate_load (t := 25) rfl ?_); refine load_row3 (t := 25) (g := gb402) ?hg BK402.out ?ho ?hb Try.underlying25 rfl ?hs ?_; (case hg => rfl); (case ho => refine ⟨_, rfl, ?_⟩; first | (with_reducible rfl) | (go_simp; done)); (case hb => (with_reducible repeat (first | refine blk_drewN ?_ _ | refine blk_drew ?_ | refine blk_alloc ?_ _)); with_reducible exact BK402.out); (case hs => kernel_rfl)) | ((with_reducible refine gate_load (t := 29) rfl ?_); refine load_row3 (t := 29) (g := gb410) ?hg BK410.out ?ho ?hb Try.underlying29 rfl ?hs ?_; (case hg => rfl); (case ho => refine ⟨_, rfl, ?_⟩; first | (with_reducible rfl) | (go_simp; done)); (case hb => (with_reducible repeat (first | refine blk_drewN ?_ _ | refine blk_drew ?_ | refine blk_alloc ?_ _)); with_reducible exact BK410.out); (case hs => kernel_rfl)) | ((with_reducible refine gate_load (t := 29) rfl ?_); refine load_row3w_ (t := 29) (g := gb410) ?hg BK410.out ?ho ?hb Try.underlying29 rfl ?hs ?_; (case hg => first | rfl | (go_simp; done) | (simp [Region.wanted, yielded]; done)); (case ho => refine ⟨_, rfl, ?_⟩; first | (with_reducible rfl) | (go_simp; done)); (case hb => (with_reducible repeat (first | refine blk_drewN ?_ _ | refine blk_drew ?_ | refine blk_alloc ?_ _)); with_reducible exact BK410.out); (case hs => kernel_rfl)))
     go_meet
     case rel => exact ⟨_, (true), (by first | rfl | (simp; done) | (simp [*]; done)), H', ⟨by have := HJ2.out; have := HK2.out; have := HK3.out; have := HJ33.out; first | omega | exact Nat.le_refl _⟩, ⟨by (with_reducible repeat (first | apply Kd.R_alloc | apply Kd.R_drewN | apply Kd.R_drew)); exact HO_5.out⟩, ⟨by (with_reducible repeat (first | refine blk_drewN ?_ _ | refine blk_drew ?_ | refine blk_alloc ?_ _)); exact BK402.out⟩, ⟨by (with_reducible repeat (first | refine blk_drewN ?_ _ | refine blk_drew ?_ | refine blk_alloc ?_ _)); exact BK410.out⟩, ⟨by repeat (first | (with_reducible first | exact HB.out | apply below_alloc | apply pw_below_drewN | apply below_drew1 | refine below_set ?_ GE402.out | refine below_set ?_ GE410.out) | exact HB.out)⟩⟩
 clear HC42
 try clear c1
 try clear c2
 try clear p2
 try clear c3
 try clear c4
 try clear p4
 try clear q4
 try clear hx4
 try clear c5
 try clear c6
 try clear p6
 try clear c7
 try clear c11
 try clear c14
 try clear c20
 try clear c20b0
 try clear c21
 try clear c21b0
 try clear c24
 try clear c27
 try clear c27b0
 try clear c28
 try clear c31
 try clear c31b0
 try clear c36
 try clear c38
 try clear p40
 try clear q40
 try clear hx40
 try clear c41
 try clear p41
 try clear q41
 try clear hx41
 try clear c43
 try clear c44
 try clear c44b0
 try clear c44b1
 try clear c45
 try clear c47
 try clear hcz10_0
 try clear hcz10_1
 try clear hcz10_2
 try clear hcz10_3
 try clear hcz10_4
 try clear hcz10_5
 try clear hcz12_0
 try clear hcz12_1
 try clear hcz12_2
 try clear hcz12_3
 try clear hcz12_4
 try clear hcz12_5
 try clear hcz18_0
 try clear hcz18_1
 try clear hcz18_2
 try clear hcz18_3
 try clear hcz18_4
 try clear hcz18_5
 try clear hcz22_0
 try clear hcz22_1
 try clear hcz22_2
 try clear hcz22_3
 try clear hcz22_4
 try clear hcz22_5
 try clear hcz25_0
 try clear hcz25_1
 try clear hcz25_10
 try clear hcz25_11
 try clear hcz25_12
 try clear hcz25_13
 try clear hcz25_14
 try clear hcz25_15
 try clear hcz25_16
 try clear hcz25_17
 try clear hcz25_18
 try clear hcz25_19
 try clear hcz25_2
 try clear hcz25_3
 try clear hcz25_4
 try clear hcz25_5
 try clear hcz25_6
 try clear hcz25_7
 try clear hcz25_8
 try clear hcz25_9
 try clear hcz39_0
 try clear hcz39_1
 try clear hcz39_10
 try clear hcz39_11
 try clear hcz39_12
 try clear hcz39_13
 try clear hcz39_14
 try clear hcz39_15
 try clear hcz39_16
 try clear hcz39_17
 try clear hcz39_18
 try clear hcz39_19
 try clear hcz39_2
 try clear hcz39_3
 try clear hcz39_4
 try clear hcz39_5
 try clear hcz39_6
 try clear hcz39_7
 try clear hcz39_8
 try clear hcz39_9
 try clear hcz46_0
 try clear hcz46_1
 try clear hcz46_10
 try clear hcz46_11
 try clear hcz46_12
 try clear hcz46_13
 try clear hcz46_14
 try clear hcz46_15
 try clear hcz46_16
 try clear hcz46_17
 try clear hcz46_18
 try clear hcz46_19
 try clear hcz46_2
 try clear hcz46_3
 try clear hcz46_4
 try clear hcz46_5
 try clear hcz46_6
 try clear hcz46_7
 try clear hcz46_8
 try clear hcz46_9
 try clear hcz48_0
 try clear hcz48_1
 try clear hcz48_10
 try clear hcz48_11
 try clear hcz48_12
 try clear hcz48_13
 try clear hcz48_14
 try clear hcz48_15
 try clear hcz48_16
 try clear hcz48_17
 try clear hcz48_18
 try clear hcz48_19
 try clear hcz48_2
 try clear hcz48_3
 try clear hcz48_4
 try clear hcz48_5
 try clear hcz48_6
 try clear hcz48_7
 try clear hcz48_8
 try clear hcz48_9
 try clear hcz8_0
 try clear hcz8_1
 try clear hcz8_2
 try clear hcz8_3
 try clear hcz8_4
 try clear hcz8_5
 try clear hfz10_0
 try clear hfz10_1
 try clear hfz10_2
 try clear hfz10_3
 try clear hfz10_4
 try clear hfz10_5
 try clear hfz12_0
 try clear hfz12_1
 try clear hfz12_2
 try clear hfz12_3
 try clear hfz12_4
 try clear hfz12_5
 try clear hfz18_0
 try clear hfz18_1
 try clear hfz18_2
 try clear hfz18_3
 try clear hfz18_4
 try clear hfz18_5
 try clear hfz22_0
 try clear hfz22_1
 try clear hfz22_2
 try clear hfz22_3
 try clear hfz22_4
 try clear hfz22_5
 try clear hfz25_0
 try clear hfz25_1
 try clear hfz25_10
 try clear hfz25_11
 try clear hfz25_12
 try clear hfz25_13
 try clear hfz25_14
 try clear hfz25_15
 try clear hfz25_16
 try clear hfz25_17
 try clear hfz25_18
 try clear hfz25_19
 try clear hfz25_2
 try clear hfz25_3
 try clear hfz25_4
 try clear hfz25_5
 try clear hfz25_6
 try clear hfz25_7
 try clear hfz25_8
 try clear hfz25_9
 try clear hfz39_0
 try clear hfz39_1
 try clear hfz39_10
 try clear hfz39_11
 try clear hfz39_12
 try clear hfz39_13
 try clear hfz39_14
 try clear hfz39_15
 try clear hfz39_16
 try clear hfz39_17
 try clear hfz39_18
 try clear hfz39_19
 try clear hfz39_2
 try clear hfz39_3
 try clear hfz39_4
 try clear hfz39_5
 try clear hfz39_6
 try clear hfz39_7
 try clear hfz39_8
 try clear hfz39_9
 try clear hfz46_0
 try clear hfz46_1
 try clear hfz46_10
 try clear hfz46_11
 try clear hfz46_12
 try clear hfz46_13
 try clear hfz46_14
 try clear hfz46_15
 try clear hfz46_16
 try clear hfz46_17
 try clear hfz46_18
 try clear hfz46_19
 try clear hfz46_2
 try clear hfz46_3
 try clear hfz46_4
 try clear hfz46_5
 try clear hfz46_6
 try clear hfz46_7
 try clear hfz46_8
 try clear hfz46_9
 try clear hfz48_0
 try clear hfz48_1
 try clear hfz48_10
 try clear hfz48_11
 try clear hfz48_12
 try clear hfz48_13
 try clear hfz48_14
 try clear hfz48_15
 try clear hfz48_16
 try clear hfz48_17
 try clear hfz48_18
 try clear hfz48_19
 try clear hfz48_2
 try clear hfz48_3
 try clear hfz48_4
 try clear hfz48_5
 try clear hfz48_6
 try clear hfz48_7
 try clear hfz48_8
 try clear hfz48_9
 try clear hfz8_0
 try clear hfz8_1
 try clear hfz8_2
 try clear hfz8_3
 try clear hfz8_4
 try clear hfz8_5
 try clear hx409_0
 try clear hx409_1
 try clear hx409_10
 try clear hx409_11
 try clear hx409_12
 try clear hx409_13
 try clear hx409_14
 try clear hx409_15
 try clear hx409_16
 try clear hx409_17
 try clear hx409_18
 try clear hx409_19
 try clear hx409_2
 try clear hx409_3
 try clear hx409_4
 try clear hx409_5
 try clear hx409_6
 try clear hx409_7
 try clear hx409_8
 try clear hx409_9
 try clear hx411_0
 try clear p2
 try clear p4
 try clear p40
 try clear p409
 try clear p411
 try clear p6
 try clear q4
 try clear q40
 try clear q409
 try clear q411
 obtain ⟨kq, x73_41, rfl, HA, HJ41, HO_5, BK402, BK410, HB⟩ := hcut
 rcases kq with _ | kj41
 ·exact absurd HA.out (by simp [newsreellaw41_RetainOldest.j4])
 have H := HA.out
 clear HA
 simp only [newsreellaw41_RetainOldest.j4] at H
 by_cases c49 : x73_41 = true
 ·subst c49
  have H1 : (newsreellaw41_RetainOldest.l0 kj41 a1 t406 x6_2 x7_2 (wrap64 (x8_2 + 1)) a0_0 a0_1 a0_2 a0_3 l0_4 l0_5) = some r := by rw [if_pos rfl] at H; exact H
  clear H
  have H := H1
  clear H1
  as_aux_lemma =>
   have H' := mkA H
   clear H
   go_wp2_with (first | ((with_reducible refine gate_load (t := 29) rfl ?_); refine load_at2 (t := 29) ?hg ?ho (c0 := _) (cs := [_, _, _, _, _, _, _, _, _, _, _, _, _, _, _, _, _, _, _]) Try.underlying29 rfl (by kernel_rfl) hx409_0 ⟨hx409_1, hx409_2, hx409_3, hx409_4, hx409_5, hx409_6, hx409_7, hx409_8, hx409_9, hx409_10, hx409_11, hx409_12, hx409_13, hx409_14, hx409_15, hx409_16, hx409_17, hx409_18, hx409_19, trivial⟩ ?_; (case hg => rfl); (case ho => refine ⟨_, rfl, ?_⟩; first | (with_reducible rfl) | (go_simp; done))) | ((with_reducible refine gate_load (t := 25) rfl ?_); refine load_row3 (t := 25) (g := gb402) ?hg BK402.out ?ho ?hb Try.underlying25 rfl ?hs ?_; (case hg => rfl); (case ho => refine ⟨_, rfl, ?_⟩; first | (with_reducible rfl) | (go_simp; done)); (case hb => (with_reducible repeat (first | refine blk_drewN ?_ _ | refine blk_drew ?_ | refine blk_alloc ?_ _)); with_reducible exact BK402.out); (case hs => kernel_rfl)) | ((with_reducible refine gate_load (t := 29) rfl ?_); refine load_row3 (t := 29) (g := gb410) ?hg BK410.out ?ho ?hb Try.underlying29 rfl ?hs ?_; (case hg => rfl); (case ho => refine ⟨_, rfl, ?_⟩; first | (with_reducible rfl) | (go_simp; done)); (case hb => (with_reducible repeat (first | refine blk_drewN ?_ _ | refine blk_drew ?_ | refine blk_alloc ?_ _)); with_reducible exact BK410.out); (case hs => kernel_rfl)) | ((with_reducible refine gate_load (t := 29) rfl ?_); refine load_row3w_ (t := 29) (g := gb410) ?hg BK410.out ?ho ?hb Try.underlying29 rfl ?hs ?_; (case hg => first | rfl | (go_simp; done) | (simp [Region.wanted, yielded]; done)); (case ho => refine ⟨_, rfl, ?_⟩; first | (with_reducible rfl) | (go_simp; done)); (case hb => (with_reducible repeat (first | refine blk_drewN ?_ _ | refine blk_drew ?_ | refine blk_alloc ?_ _)); with_reducible exact BK410.out); (case hs => kernel_rfl)))
   go_roundg kj41
   case measure => have := HJ2.out; have := HK2.out; have := HK3.out; have := HJ33.out; have := HJ41.out; omega
   case rel => exact ⟨(x6_2), (x7_2), (wrap64 (x8_2 + 1)), (by first | rfl | (simp; done) | (simp [*]; done)), (by first | rfl | (simp; done) | (simp [*]; done)), (by first | rfl | (simp; done) | (simp [*]; done)), H', ⟨by have := HJ2.out; have := HK2.out; have := HK3.out; have := HJ33.out; have := HJ41.out; omega⟩, ⟨by (with_reducible repeat (first | apply Kd.R_alloc | apply Kd.R_drewN | apply Kd.R_drew)); exact HO_5.out⟩, ⟨by (with_reducible repeat (first | refine blk_drewN ?_ _ | refine blk_drew ?_ | refine blk_alloc ?_ _)); exact BK402.out⟩, ⟨by repeat (first | (with_reducible first | exact HB.out | apply below_alloc | apply pw_below_drewN | apply below_drew1 | refine below_set ?_ GE402.out | refine below_set ?_ GE410.out) | exact HB.out)⟩⟩
 replace c49 := Bool.eq_false_iff.mpr c49
 subst c49
 have H1 : ((newsreelref41_May.f ((rd_T29 l0_5 x8_2).f0) ((rd_T29 l0_5 x8_2).f1) ((rd_T29 l0_5 x8_2).f2) ((rd_T29 l0_5 x8_2).f3) ((rd_T29 l0_5 x8_2).f4) ((rd_T29 l0_5 x8_2).f5) ((rd_T29 l0_5 x8_2).f6) ((rd_T29 l0_5 x8_2).f7) ((rd_T29 l0_5 x8_2).f8) ((rd_T29 l0_5 x8_2).f9) ((rd_T29 l0_5 x8_2).f10) ((rd_T29 l0_5 x8_2).f11) ((rd_T29 l0_5 x8_2).f12) ((rd_T29 l0_5 x8_2).f13) ((rd_T29 l0_5 x8_2).f14) ((rd_T29 l0_5 x8_2).f15) ((rd_T29 l0_5 x8_2).f16) ((rd_T29 l0_5 x8_2).f17) ((rd_T29 l0_5 x8_2).f18) ((rd_T29 l0_5 x8_2).f19) a1).bind fun t413 => (if t413 = true then (newsreellaw41_RetainOldest.l2 kj41 a1 t406 (wrap64 (x6_2 + 1)) (wrap64 (x7_2 + 1)) x8_2 0 a0_0 a0_1 a0_2 a0_3 l0_4 l0_5 ((rd_T29 l0_5 x8_2).f0) ((rd_T29 l0_5 x8_2).f1) ((rd_T29 l0_5 x8_2).f2) ((rd_T29 l0_5 x8_2).f3) ((rd_T29 l0_5 x8_2).f4) ((rd_T29 l0_5 x8_2).f5) ((rd_T29 l0_5 x8_2).f6) ((rd_T29 l0_5 x8_2).f7) ((rd_T29 l0_5 x8_2).f8) ((rd_T29 l0_5 x8_2).f9) ((rd_T29 l0_5 x8_2).f10) ((rd_T29 l0_5 x8_2).f11) ((rd_T29 l0_5 x8_2).f12) ((rd_T29 l0_5 x8_2).f13) ((rd_T29 l0_5 x8_2).f14) ((rd_T29 l0_5 x8_2).f15) ((rd_T29 l0_5 x8_2).f16) ((rd_T29 l0_5 x8_2).f17) ((rd_T29 l0_5 x8_2).f18) ((rd_T29 l0_5 x8_2).f19)) else (newsreellaw41_RetainOldest.l0 kj41 a1 t406 (wrap64 (x6_2 + 1)) x7_2 (wrap64 (x8_2 + 1)) a0_0 a0_1 a0_2 a0_3 l0_4 l0_5))) = some r := by rw [if_neg (show ¬ (false = true) by decide)] at H; exact H
 clear H
 have H := H1
 clear H1
 replace H := Option.bind_eq_some_iff.mp H
 obtain ⟨t413, A500, H⟩ := H
 replace H : (if t413 = true then (newsreellaw41_RetainOldest.l2 kj41 a1 t406 (wrap64 (x6_2 + 1)) (wrap64 (x7_2 + 1)) x8_2 0 a0_0 a0_1 a0_2 a0_3 l0_4 l0_5 ((rd_T29 l0_5 x8_2).f0) ((rd_T29 l0_5 x8_2).f1) ((rd_T29 l0_5 x8_2).f2) ((rd_T29 l0_5 x8_2).f3) ((rd_T29 l0_5 x8_2).f4) ((rd_T29 l0_5 x8_2).f5) ((rd_T29 l0_5 x8_2).f6) ((rd_T29 l0_5 x8_2).f7) ((rd_T29 l0_5 x8_2).f8) ((rd_T29 l0_5 x8_2).f9) ((rd_T29 l0_5 x8_2).f10) ((rd_T29 l0_5 x8_2).f11) ((rd_T29 l0_5 x8_2).f12) ((rd_T29 l0_5 x8_2).f13) ((rd_T29 l0_5 x8_2).f14) ((rd_T29 l0_5 x8_2).f15) ((rd_T29 l0_5 x8_2).f16) ((rd_T29 l0_5 x8_2).f17) ((rd_T29 l0_5 x8_2).f18) ((rd_T29 l0_5 x8_2).f19)) else (newsreellaw41_RetainOldest.l0 kj41 a1 t406 (wrap64 (x6_2 + 1)) x7_2 (wrap64 (x8_2 + 1)) a0_0 a0_1 a0_2 a0_3 l0_4 l0_5)) = some r := H
 have A50 := mkA A500
 clear A500
 by_cases c51 : t413 = true
 rotate_left
 ·replace c51 := Bool.eq_false_iff.mpr c51
  subst c51
  have H1 : (newsreellaw41_RetainOldest.l0 kj41 a1 t406 (wrap64 (x6_2 + 1)) x7_2 (wrap64 (x8_2 + 1)) a0_0 a0_1 a0_2 a0_3 l0_4 l0_5) = some r := by rw [if_neg (show ¬ (false = true) by decide)] at H; exact H
  clear H
  have H := H1
  clear H1
  as_aux_lemma =>
   have H' := mkA H
   clear H
   have hnb119 := NB410_402.out
   have hnc119 := NB402_410.out
   have hcz120_0 := bc BK410.out 0 (.int .i64 ((rd_T29 l0_5 x8_2).f0)) rfl
   have hcz120_1 := bc BK410.out 1 (.int .i64 ((rd_T29 l0_5 x8_2).f1)) rfl
   have hcz120_2 := bc BK410.out 2 (.string ((rd_T29 l0_5 x8_2).f2)) rfl
   have hcz120_3 := bc BK410.out 3 (.string ((rd_T29 l0_5 x8_2).f3)) rfl
   have hcz120_4 := bc BK410.out 4 (.string ((rd_T29 l0_5 x8_2).f4)) rfl
   have hcz120_5 := bc BK410.out 5 (.int .i64 ((rd_T29 l0_5 x8_2).f5)) rfl
   have hcz120_6 := bc BK410.out 6 (.int .i64 ((rd_T29 l0_5 x8_2).f6)) rfl
   have hcz120_7 := bc BK410.out 7 (.int .i64 ((rd_T29 l0_5 x8_2).f7)) rfl
   have hcz120_8 := bc BK410.out 8 (.int .i64 ((rd_T29 l0_5 x8_2).f8)) rfl
   have hcz120_9 := bc BK410.out 9 (.bool ((rd_T29 l0_5 x8_2).f9)) rfl
   have hcz120_10 := bc BK410.out 10 (.int .i64 ((rd_T29 l0_5 x8_2).f10)) rfl
   have hcz120_11 := bc BK410.out 11 (.int .i64 ((rd_T29 l0_5 x8_2).f11)) rfl
   have hcz120_12 := bc BK410.out 12 (.int .i64 ((rd_T29 l0_5 x8_2).f12)) rfl
   have hcz120_13 := bc BK410.out 13 (.string ((rd_T29 l0_5 x8_2).f13)) rfl
   have hcz120_14 := bc BK410.out 14 (.int .i64 ((rd_T29 l0_5 x8_2).f14)) rfl
   have hcz120_15 := bc BK410.out 15 (.int .i64 ((rd_T29 l0_5 x8_2).f15)) rfl
   have hcz120_16 := bc BK410.out 16 (.string ((rd_T29 l0_5 x8_2).f16)) rfl
   have hcz120_17 := bc BK410.out 17 (.int .i64 ((rd_T29 l0_5 x8_2).f17)) rfl
   have hcz120_18 := bc BK410.out 18 (.int .i64 ((rd_T29 l0_5 x8_2).f18)) rfl
   have hcz120_19 := bc BK410.out 19 (.string ((rd_T29 l0_5 x8_2).f19)) rfl
   have hfz120_0 := blk_frozen BK410.out 0
   have hfz120_1 := blk_frozen BK410.out 1
   have hfz120_2 := blk_frozen BK410.out 2
   have hfz120_3 := blk_frozen BK410.out 3
   have hfz120_4 := blk_frozen BK410.out 4
   have hfz120_5 := blk_frozen BK410.out 5
   have hfz120_6 := blk_frozen BK410.out 6
   have hfz120_7 := blk_frozen BK410.out 7
   have hfz120_8 := blk_frozen BK410.out 8
   have hfz120_9 := blk_frozen BK410.out 9
   have hfz120_10 := blk_frozen BK410.out 10
   have hfz120_11 := blk_frozen BK410.out 11
   have hfz120_12 := blk_frozen BK410.out 12
   have hfz120_13 := blk_frozen BK410.out 13
   have hfz120_14 := blk_frozen BK410.out 14
   have hfz120_15 := blk_frozen BK410.out 15
   have hfz120_16 := blk_frozen BK410.out 16
   have hfz120_17 := blk_frozen BK410.out 17
   have hfz120_18 := blk_frozen BK410.out 18
   have hfz120_19 := blk_frozen BK410.out 19
   go_wp2_with (first | ((with_reducible refine gate_load (t := 29) rfl ?_); refine load_at2 (t := 29) ?hg ?ho (c0 := _) (cs := [_, _, _, _, _, _, _, _, _, _, _, _, _, _, _, _, _, _, _]) Try.underlying29 rfl (by kernel_rfl) hx409_0 ⟨hx409_1, hx409_2, hx409_3, hx409_4, hx409_5, hx409_6, hx409_7, hx409_8, hx409_9, hx409_10, hx409_11, hx409_12, hx409_13, hx409_14, hx409_15, hx409_16, hx409_17, hx409_18, hx409_19, trivial⟩ ?_; (case hg => rfl); (case ho => refine ⟨_, rfl, ?_⟩; first | (with_reducible rfl) | (go_simp; done))) | ((with_reducible refine gate_load (t := 25) rfl ?_); refine load_row3 (t := 25) (g := gb402) ?hg BK402.out ?ho ?hb Try.underlying25 rfl ?hs ?_; (case hg => rfl); (case ho => refine ⟨_, rfl, ?_⟩; first | (with_reducible rfl) | (go_simp; done)); (case hb => (with_reducible repeat (first | refine blk_drewN ?_ _ | refine blk_drew ?_ | refine blk_alloc ?_ _)); with_reducible exact BK402.out); (case hs => kernel_rfl)) | ((with_reducible refine gate_load (t := 29) rfl ?_); refine load_row3 (t := 29) (g := gb410) ?hg BK410.out ?ho ?hb Try.underlying29 rfl ?hs ?_; (case hg => rfl); (case ho => refine ⟨_, rfl, ?_⟩; first | (with_reducible rfl) | (go_simp; done)); (case hb => (with_reducible repeat (first | refine blk_drewN ?_ _ | refine blk_drew ?_ | refine blk_alloc ?_ _)); with_reducible exact BK410.out); (case hs => kernel_rfl)) | ((with_reducible refine gate_load (t := 29) rfl ?_); refine load_row3w_ (t := 29) (g := gb410) ?hg BK410.out ?ho ?hb Try.underlying29 rfl ?hs ?_; (case hg => first | rfl | (go_simp; done) | (simp [Region.wanted, yielded]; done)); (case ho => refine ⟨_, rfl, ?_⟩; first | (with_reducible rfl) | (go_simp; done)); (case hb => (with_reducible repeat (first | refine blk_drewN ?_ _ | refine blk_drew ?_ | refine blk_alloc ?_ _)); with_reducible exact BK410.out); (case hs => kernel_rfl)) | ((with_reducible refine gate_callee (f := 16) rfl ?_); refine goesL_ (some 78) rfl rfl Try.func16 (by kernel_rfl) rfl #[.agg #[.int .i64 ((rd_T29 l0_5 x8_2).f0), .int .i64 ((rd_T29 l0_5 x8_2).f1), .string ((rd_T29 l0_5 x8_2).f2), .string ((rd_T29 l0_5 x8_2).f3), .string ((rd_T29 l0_5 x8_2).f4), .int .i64 ((rd_T29 l0_5 x8_2).f5), .int .i64 ((rd_T29 l0_5 x8_2).f6), .int .i64 ((rd_T29 l0_5 x8_2).f7), .int .i64 ((rd_T29 l0_5 x8_2).f8), .bool ((rd_T29 l0_5 x8_2).f9), .int .i64 ((rd_T29 l0_5 x8_2).f10), .int .i64 ((rd_T29 l0_5 x8_2).f11), .int .i64 ((rd_T29 l0_5 x8_2).f12), .string ((rd_T29 l0_5 x8_2).f13), .int .i64 ((rd_T29 l0_5 x8_2).f14), .int .i64 ((rd_T29 l0_5 x8_2).f15), .string ((rd_T29 l0_5 x8_2).f16), .int .i64 ((rd_T29 l0_5 x8_2).f17), .int .i64 ((rd_T29 l0_5 x8_2).f18), .string ((rd_T29 l0_5 x8_2).f19)], .int .i64 a1] rfl ca ?_; (with_reducible refine (newsreelref41_May.calls _ _ _ _ _ _ _ _ _ _ _ _ _ _ _ _ _ _ _ _ _ false _ A50.out).mono ?_); rintro e w121 ⟨rfl, hb⟩; refine ⟨_, rfl, ?_⟩; have n0_ := mkA (Kd.R_below (Kd.R_y HO_5.out) hb); have n1_ := mkA (blk_below (blk_y BK402.out) hb); have n2_ := mkA (blk_below (blk_y BK410.out) hb); have n3_ := mkA (below_step (below_y HB.out) hb); clear HO_5; clear BK402; clear BK410; clear HB; have HO_5 := n0_; have BK402 := n1_; have BK410 := n2_; have HB := n3_; clear n0_ n1_ n2_ n3_; (try clear hb); (try clear hb2); (try clear hk); (try clear hi)))
   go_roundg kj41
   case measure => have := HJ2.out; have := HK2.out; have := HK3.out; have := HJ33.out; have := HJ41.out; omega
   case rel => exact ⟨(wrap64 (x6_2 + 1)), (x7_2), (wrap64 (x8_2 + 1)), (by first | rfl | (simp; done) | (simp [*]; done)), (by first | rfl | (simp; done) | (simp [*]; done)), (by first | rfl | (simp; done) | (simp [*]; done)), H', ⟨by have := HJ2.out; have := HK2.out; have := HK3.out; have := HJ33.out; have := HJ41.out; omega⟩, ⟨by (with_reducible repeat (first | apply Kd.R_alloc | apply Kd.R_drewN | apply Kd.R_drew)); exact HO_5.out⟩, ⟨by (with_reducible repeat (first | refine blk_drewN ?_ _ | refine blk_drew ?_ | refine blk_alloc ?_ _)); exact BK402.out⟩, ⟨by repeat (first | (with_reducible first | exact HB.out | apply below_alloc | apply pw_below_drewN | apply below_drew1 | refine below_set ?_ GE402.out | refine below_set ?_ GE410.out) | exact HB.out)⟩⟩
 subst c51
 have H1 : (newsreellaw41_RetainOldest.l2 kj41 a1 t406 (wrap64 (x6_2 + 1)) (wrap64 (x7_2 + 1)) x8_2 0 a0_0 a0_1 a0_2 a0_3 l0_4 l0_5 ((rd_T29 l0_5 x8_2).f0) ((rd_T29 l0_5 x8_2).f1) ((rd_T29 l0_5 x8_2).f2) ((rd_T29 l0_5 x8_2).f3) ((rd_T29 l0_5 x8_2).f4) ((rd_T29 l0_5 x8_2).f5) ((rd_T29 l0_5 x8_2).f6) ((rd_T29 l0_5 x8_2).f7) ((rd_T29 l0_5 x8_2).f8) ((rd_T29 l0_5 x8_2).f9) ((rd_T29 l0_5 x8_2).f10) ((rd_T29 l0_5 x8_2).f11) ((rd_T29 l0_5 x8_2).f12) ((rd_T29 l0_5 x8_2).f13) ((rd_T29 l0_5 x8_2).f14) ((rd_T29 l0_5 x8_2).f15) ((rd_T29 l0_5 x8_2).f16) ((rd_T29 l0_5 x8_2).f17) ((rd_T29 l0_5 x8_2).f18) ((rd_T29 l0_5 x8_2).f19)) = some r := by rw [if_pos rfl] at H; exact H
 clear H
 have H := H1
 clear H1
 have H' := mkA H
 clear H
 have hnb52 := NB410_402.out
 have hnc52 := NB402_410.out
 have hcz53_0 := bc BK410.out 0 (.int .i64 ((rd_T29 l0_5 x8_2).f0)) rfl
 have hcz53_1 := bc BK410.out 1 (.int .i64 ((rd_T29 l0_5 x8_2).f1)) rfl
 have hcz53_2 := bc BK410.out 2 (.string ((rd_T29 l0_5 x8_2).f2)) rfl
 have hcz53_3 := bc BK410.out 3 (.string ((rd_T29 l0_5 x8_2).f3)) rfl
 have hcz53_4 := bc BK410.out 4 (.string ((rd_T29 l0_5 x8_2).f4)) rfl
 have hcz53_5 := bc BK410.out 5 (.int .i64 ((rd_T29 l0_5 x8_2).f5)) rfl
 have hcz53_6 := bc BK410.out 6 (.int .i64 ((rd_T29 l0_5 x8_2).f6)) rfl
 have hcz53_7 := bc BK410.out 7 (.int .i64 ((rd_T29 l0_5 x8_2).f7)) rfl
 have hcz53_8 := bc BK410.out 8 (.int .i64 ((rd_T29 l0_5 x8_2).f8)) rfl
 have hcz53_9 := bc BK410.out 9 (.bool ((rd_T29 l0_5 x8_2).f9)) rfl
 have hcz53_10 := bc BK410.out 10 (.int .i64 ((rd_T29 l0_5 x8_2).f10)) rfl
 have hcz53_11 := bc BK410.out 11 (.int .i64 ((rd_T29 l0_5 x8_2).f11)) rfl
 have hcz53_12 := bc BK410.out 12 (.int .i64 ((rd_T29 l0_5 x8_2).f12)) rfl
 have hcz53_13 := bc BK410.out 13 (.string ((rd_T29 l0_5 x8_2).f13)) rfl
 have hcz53_14 := bc BK410.out 14 (.int .i64 ((rd_T29 l0_5 x8_2).f14)) rfl
 have hcz53_15 := bc BK410.out 15 (.int .i64 ((rd_T29 l0_5 x8_2).f15)) rfl
 have hcz53_16 := bc BK410.out 16 (.string ((rd_T29 l0_5 x8_2).f16)) rfl
 have hcz53_17 := bc BK410.out 17 (.int .i64 ((rd_T29 l0_5 x8_2).f17)) rfl
 have hcz53_18 := bc BK410.out 18 (.int .i64 ((rd_T29 l0_5 x8_2).f18)) rfl
 have hcz53_19 := bc BK410.out 19 (.string ((rd_T29 l0_5 x8_2).f19)) rfl
 have hfz53_0 := blk_frozen BK410.out 0
 have hfz53_1 := blk_frozen BK410.out 1
 have hfz53_2 := blk_frozen BK410.out 2
 have hfz53_3 := blk_frozen BK410.out 3
 have hfz53_4 := blk_frozen BK410.out 4
 have hfz53_5 := blk_frozen BK410.out 5
 have hfz53_6 := blk_frozen BK410.out 6
 have hfz53_7 := blk_frozen BK410.out 7
 have hfz53_8 := blk_frozen BK410.out 8
 have hfz53_9 := blk_frozen BK410.out 9
 have hfz53_10 := blk_frozen BK410.out 10
 have hfz53_11 := blk_frozen BK410.out 11
 have hfz53_12 := blk_frozen BK410.out 12
 have hfz53_13 := blk_frozen BK410.out 13
 have hfz53_14 := blk_frozen BK410.out 14
 have hfz53_15 := blk_frozen BK410.out 15
 have hfz53_16 := blk_frozen BK410.out 16
 have hfz53_17 := blk_frozen BK410.out 17
 have hfz53_18 := blk_frozen BK410.out 18
 have hfz53_19 := blk_frozen BK410.out 19
 go_wp2_with (first | ((with_reducible refine gate_load (t := 29) rfl ?_); refine load_at2 (t := 29) ?hg ?ho (c0 := _) (cs := [_, _, _, _, _, _, _, _, _, _, _, _, _, _, _, _, _, _, _]) Try.underlying29 rfl (by kernel_rfl) hx409_0 ⟨hx409_1, hx409_2, hx409_3, hx409_4, hx409_5, hx409_6, hx409_7, hx409_8, hx409_9, hx409_10, hx409_11, hx409_12, hx409_13, hx409_14, hx409_15, hx409_16, hx409_17, hx409_18, hx409_19, trivial⟩ ?_; (case hg => rfl); (case ho => refine ⟨_, rfl, ?_⟩; first | (with_reducible rfl) | (go_simp; done))) | ((with_reducible refine gate_load (t := 25) rfl ?_); refine load_row3 (t := 25) (g := gb402) ?hg BK402.out ?ho ?hb Try.underlying25 rfl ?hs ?_; (case hg => rfl); (case ho => refine ⟨_, rfl, ?_⟩; first | (with_reducible rfl) | (go_simp; done)); (case hb => (with_reducible repeat (first | refine blk_drewN ?_ _ | refine blk_drew ?_ | refine blk_alloc ?_ _)); with_reducible exact BK402.out); (case hs => kernel_rfl)) | ((with_reducible refine gate_load (t := 29) rfl ?_); refine load_row3 (t := 29) (g := gb410) ?hg BK410.out ?ho ?hb Try.underlying29 rfl ?hs ?_; (case hg => rfl); (case ho => refine ⟨_, rfl, ?_⟩; first | (with_reducible rfl) | (go_simp; done)); (case hb => (with_reducible repeat (first | refine blk_drewN ?_ _ | refine blk_drew ?_ | refine blk_alloc ?_ _)); with_reducible exact BK410.out); (case hs => kernel_rfl)) | ((with_reducible refine gate_load (t := 29) rfl ?_); refine load_row3w_ (t := 29) (g := gb410) ?hg BK410.out ?ho ?hb Try.underlying29 rfl ?hs ?_; (case hg => first | rfl | (go_simp; done) | (simp [Region.wanted, yielded]; done)); (case ho => refine ⟨_, rfl, ?_⟩; first | (with_reducible rfl) | (go_simp; done)); (case hb => (with_reducible repeat (first | refine blk_drewN ?_ _ | refine blk_drew ?_ | refine blk_alloc ?_ _)); with_reducible exact BK410.out); (case hs => kernel_rfl)) | ((with_reducible refine gate_callee (f := 16) rfl ?_); refine goesL_ (some 78) rfl rfl Try.func16 (by kernel_rfl) rfl #[.agg #[.int .i64 ((rd_T29 l0_5 x8_2).f0), .int .i64 ((rd_T29 l0_5 x8_2).f1), .string ((rd_T29 l0_5 x8_2).f2), .string ((rd_T29 l0_5 x8_2).f3), .string ((rd_T29 l0_5 x8_2).f4), .int .i64 ((rd_T29 l0_5 x8_2).f5), .int .i64 ((rd_T29 l0_5 x8_2).f6), .int .i64 ((rd_T29 l0_5 x8_2).f7), .int .i64 ((rd_T29 l0_5 x8_2).f8), .bool ((rd_T29 l0_5 x8_2).f9), .int .i64 ((rd_T29 l0_5 x8_2).f10), .int .i64 ((rd_T29 l0_5 x8_2).f11), .int .i64 ((rd_T29 l0_5 x8_2).f12), .string ((rd_T29 l0_5 x8_2).f13), .int .i64 ((rd_T29 l0_5 x8_2).f14), .int .i64 ((rd_T29 l0_5 x8_2).f15), .string ((rd_T29 l0_5 x8_2).f16), .int .i64 ((rd_T29 l0_5 x8_2).f17), .int .i64 ((rd_T29 l0_5 x8_2).f18), .string ((rd_T29 l0_5 x8_2).f19)], .int .i64 a1] rfl ca ?_; (with_reducible refine (newsreelref41_May.calls _ _ _ _ _ _ _ _ _ _ _ _ _ _ _ _ _ _ _ _ _ true _ A50.out).mono ?_); rintro e w54 ⟨rfl, hb⟩; refine ⟨_, rfl, ?_⟩; have n0_ := mkA (Kd.R_below (Kd.R_y HO_5.out) hb); have n1_ := mkA (blk_below (blk_y BK402.out) hb); have n2_ := mkA (blk_below (blk_y BK410.out) hb); have n3_ := mkA (below_step (below_y HB.out) hb); clear HO_5; clear BK402; clear BK410; clear HB; have HO_5 := n0_; have BK402 := n1_; have BK410 := n2_; have HB := n3_; clear n0_ n1_ n2_ n3_; (try clear hb); (try clear hb2); (try clear hk); (try clear hi)))
 go_loopg [12] kj41 (fun kq v12 w' => ∃ (x12_6 : Int), v12 = .int .i64 x12_6 ∧ Aside0 (newsreellaw41_RetainOldest.l2 kq a1 t406 (wrap64 (x6_2 + 1)) (wrap64 (x7_2 + 1)) x8_2 x12_6 a0_0 a0_1 a0_2 a0_3 l0_4 l0_5 ((rd_T29 l0_5 x8_2).f0) ((rd_T29 l0_5 x8_2).f1) ((rd_T29 l0_5 x8_2).f2) ((rd_T29 l0_5 x8_2).f3) ((rd_T29 l0_5 x8_2).f4) ((rd_T29 l0_5 x8_2).f5) ((rd_T29 l0_5 x8_2).f6) ((rd_T29 l0_5 x8_2).f7) ((rd_T29 l0_5 x8_2).f8) ((rd_T29 l0_5 x8_2).f9) ((rd_T29 l0_5 x8_2).f10) ((rd_T29 l0_5 x8_2).f11) ((rd_T29 l0_5 x8_2).f12) ((rd_T29 l0_5 x8_2).f13) ((rd_T29 l0_5 x8_2).f14) ((rd_T29 l0_5 x8_2).f15) ((rd_T29 l0_5 x8_2).f16) ((rd_T29 l0_5 x8_2).f17) ((rd_T29 l0_5 x8_2).f18) ((rd_T29 l0_5 x8_2).f19) = some r) ∧ Aside0 (kq ≤ kj41) ∧ Aside0 (Kd.R (Kd.int .i64) 3 w' w.heap.size (fun _ => True) (.slice Ao35 t406.length co35) t406) ∧ Aside0 (w'.heap[gb402]? = some (.cells #[.int .i64 a0_0, .int .i64 a0_1, .int .i64 a0_2, .int .i64 a0_3, (.slice A0_4 l0_4.length c0_4), (.slice (some ad409) l0_5.length c0_5)] 25 (0, 0))) ∧ Aside0 (w'.heap[gb410]? = some (.cells #[.int .i64 ((rd_T29 l0_5 x8_2).f0), .int .i64 ((rd_T29 l0_5 x8_2).f1), .string ((rd_T29 l0_5 x8_2).f2), .string ((rd_T29 l0_5 x8_2).f3), .string ((rd_T29 l0_5 x8_2).f4), .int .i64 ((rd_T29 l0_5 x8_2).f5), .int .i64 ((rd_T29 l0_5 x8_2).f6), .int .i64 ((rd_T29 l0_5 x8_2).f7), .int .i64 ((rd_T29 l0_5 x8_2).f8), .bool ((rd_T29 l0_5 x8_2).f9), .int .i64 ((rd_T29 l0_5 x8_2).f10), .int .i64 ((rd_T29 l0_5 x8_2).f11), .int .i64 ((rd_T29 l0_5 x8_2).f12), .string ((rd_T29 l0_5 x8_2).f13), .int .i64 ((rd_T29 l0_5 x8_2).f14), .int .i64 ((rd_T29 l0_5 x8_2).f15), .string ((rd_T29 l0_5 x8_2).f16), .int .i64 ((rd_T29 l0_5 x8_2).f17), .int .i64 ((rd_T29 l0_5 x8_2).f18), .string ((rd_T29 l0_5 x8_2).f19)] 29 (0, 0))) ∧ Aside0 (Below w.heap.size w w'))
 case atStart => exact ⟨(0), (by first | rfl | (simp; done) | (simp [*]; done)), H', ⟨Nat.le_refl _⟩, ⟨by (with_reducible repeat (first | apply Kd.R_alloc | apply Kd.R_drewN | apply Kd.R_drew)); exact HO_5.out⟩, ⟨by (with_reducible repeat (first | refine blk_drewN ?_ _ | refine blk_drew ?_ | refine blk_alloc ?_ _)); exact BK402.out⟩, ⟨by (with_reducible repeat (first | refine blk_drewN ?_ _ | refine blk_drew ?_ | refine blk_alloc ?_ _)); exact BK410.out⟩, ⟨by repeat (first | (with_reducible first | exact HB.out | apply below_alloc | apply pw_below_drewN | apply below_drew1 | refine below_set ?_ GE402.out | refine below_set ?_ GE410.out) | exact HB.out)⟩⟩
 clear H'
 try clear c1
 try clear c2
 try clear p2
 try clear c3
 try clear c4
 try clear p4
 try clear q4
 try clear hx4
 try clear c5
 try clear c6
 try clear p6
 try clear c7
 try clear c11
 try clear c14
 try clear c16
 try clear c20
 try clear c20b0
 try clear c21
 try clear c21b0
 try clear c24
 try clear c27
 try clear c27b0
 try clear c28
 try clear c31
 try clear c31b0
 try clear c36
 try clear c38
 try clear p40
 try clear q40
 try clear hx40
 try clear c41
 try clear p41
 try clear q41
 try clear hx41
 try clear c43
 try clear c44
 try clear c44b0
 try clear c44b1
 try clear c45
 try clear c47
 try clear c49
 try clear c51
 try clear c52
 try clear hcz10_0
 try clear hcz10_1
 try clear hcz10_2
 try clear hcz10_3
 try clear hcz10_4
 try clear hcz10_5
 try clear hcz12_0
 try clear hcz12_1
 try clear hcz12_2
 try clear hcz12_3
 try clear hcz12_4
 try clear hcz12_5
 try clear hcz18_0
 try clear hcz18_1
 try clear hcz18_2
 try clear hcz18_3
 try clear hcz18_4
 try clear hcz18_5
 try clear hcz22_0
 try clear hcz22_1
 try clear hcz22_2
 try clear hcz22_3
 try clear hcz22_4
 try clear hcz22_5
 try clear hcz25_0
 try clear hcz25_1
 try clear hcz25_10
 try clear hcz25_11
 try clear hcz25_12
 try clear hcz25_13
 try clear hcz25_14
 try clear hcz25_15
 try clear hcz25_16
 try clear hcz25_17
 try clear hcz25_18
 try clear hcz25_19
 try clear hcz25_2
 try clear hcz25_3
 try clear hcz25_4
 try clear hcz25_5
 try clear hcz25_6
 try clear hcz25_7
 try clear hcz25_8
 try clear hcz25_9
 try clear hcz39_0
 try clear hcz39_1
 try clear hcz39_10
 try clear hcz39_11
 try clear hcz39_12
 try clear hcz39_13
 try clear hcz39_14
 try clear hcz39_15
 try clear hcz39_16
 try clear hcz39_17
 try clear hcz39_18
 try clear hcz39_19
 try clear hcz39_2
 try clear hcz39_3
 try clear hcz39_4
 try clear hcz39_5
 try clear hcz39_6
 try clear hcz39_7
 try clear hcz39_8
 try clear hcz39_9
 try clear hcz46_0
 try clear hcz46_1
 try clear hcz46_10
 try clear hcz46_11
 try clear hcz46_12
 try clear hcz46_13
 try clear hcz46_14
 try clear hcz46_15
 try clear hcz46_16
 try clear hcz46_17
 try clear hcz46_18
 try clear hcz46_19
 try clear hcz46_2
 try clear hcz46_3
 try clear hcz46_4
 try clear hcz46_5
 try clear hcz46_6
 try clear hcz46_7
 try clear hcz46_8
 try clear hcz46_9
 try clear hcz48_0
 try clear hcz48_1
 try clear hcz48_10
 try clear hcz48_11
 try clear hcz48_12
 try clear hcz48_13
 try clear hcz48_14
 try clear hcz48_15
 try clear hcz48_16
 try clear hcz48_17
 try clear hcz48_18
 try clear hcz48_19
 try clear hcz48_2
 try clear hcz48_3
 try clear hcz48_4
 try clear hcz48_5
 try clear hcz48_6
 try clear hcz48_7
 try clear hcz48_8
 try clear hcz48_9
 try clear hcz53_0
 try clear hcz53_1
 try clear hcz53_10
 try clear hcz53_11
 try clear hcz53_12
 try clear hcz53_13
 try clear hcz53_14
 try clear hcz53_15
 try clear hcz53_16
 try clear hcz53_17
 try clear hcz53_18
 try clear hcz53_19
 try clear hcz53_2
 try clear hcz53_3
 try clear hcz53_4
 try clear hcz53_5
 try clear hcz53_6
 try clear hcz53_7
 try clear hcz53_8
 try clear hcz53_9
 try clear hcz8_0
 try clear hcz8_1
 try clear hcz8_2
 try clear hcz8_3
 try clear hcz8_4
 try clear hcz8_5
 try clear hfz10_0
 try clear hfz10_1
 try clear hfz10_2
 try clear hfz10_3
 try clear hfz10_4
 try clear hfz10_5
 try clear hfz12_0
 try clear hfz12_1
 try clear hfz12_2
 try clear hfz12_3
 try clear hfz12_4
 try clear hfz12_5
 try clear hfz18_0
 try clear hfz18_1
 try clear hfz18_2
 try clear hfz18_3
 try clear hfz18_4
 try clear hfz18_5
 try clear hfz22_0
 try clear hfz22_1
 try clear hfz22_2
 try clear hfz22_3
 try clear hfz22_4
 try clear hfz22_5
 try clear hfz25_0
 try clear hfz25_1
 try clear hfz25_10
 try clear hfz25_11
 try clear hfz25_12
 try clear hfz25_13
 try clear hfz25_14
 try clear hfz25_15
 try clear hfz25_16
 try clear hfz25_17
 try clear hfz25_18
 try clear hfz25_19
 try clear hfz25_2
 try clear hfz25_3
 try clear hfz25_4
 try clear hfz25_5
 try clear hfz25_6
 try clear hfz25_7
 try clear hfz25_8
 try clear hfz25_9
 try clear hfz39_0
 try clear hfz39_1
 try clear hfz39_10
 try clear hfz39_11
 try clear hfz39_12
 try clear hfz39_13
 try clear hfz39_14
 try clear hfz39_15
 try clear hfz39_16
 try clear hfz39_17
 try clear hfz39_18
 try clear hfz39_19
 try clear hfz39_2
 try clear hfz39_3
 try clear hfz39_4
 try clear hfz39_5
 try clear hfz39_6
 try clear hfz39_7
 try clear hfz39_8
 try clear hfz39_9
 try clear hfz46_0
 try clear hfz46_1
 try clear hfz46_10
 try clear hfz46_11
 try clear hfz46_12
 try clear hfz46_13
 try clear hfz46_14
 try clear hfz46_15
 try clear hfz46_16
 try clear hfz46_17
 try clear hfz46_18
 try clear hfz46_19
 try clear hfz46_2
 try clear hfz46_3
 try clear hfz46_4
 try clear hfz46_5
 try clear hfz46_6
 try clear hfz46_7
 try clear hfz46_8
 try clear hfz46_9
 try clear hfz48_0
 try clear hfz48_1
 try clear hfz48_10
 try clear hfz48_11
 try clear hfz48_12
 try clear hfz48_13
 try clear hfz48_14
 try clear hfz48_15
 try clear hfz48_16
 try clear hfz48_17
 try clear hfz48_18
 try clear hfz48_19
 try clear hfz48_2
 try clear hfz48_3
 try clear hfz48_4
 try clear hfz48_5
 try clear hfz48_6
 try clear hfz48_7
 try clear hfz48_8
 try clear hfz48_9
 try clear hfz53_0
 try clear hfz53_1
 try clear hfz53_10
 try clear hfz53_11
 try clear hfz53_12
 try clear hfz53_13
 try clear hfz53_14
 try clear hfz53_15
 try clear hfz53_16
 try clear hfz53_17
 try clear hfz53_18
 try clear hfz53_19
 try clear hfz53_2
 try clear hfz53_3
 try clear hfz53_4
 try clear hfz53_5
 try clear hfz53_6
 try clear hfz53_7
 try clear hfz53_8
 try clear hfz53_9
 try clear hfz8_0
 try clear hfz8_1
 try clear hfz8_2
 try clear hfz8_3
 try clear hfz8_4
 try clear hfz8_5
 try clear hx409_0
 try clear hx409_1
 try clear hx409_10
 try clear hx409_11
 try clear hx409_12
 try clear hx409_13
 try clear hx409_14
 try clear hx409_15
 try clear hx409_16
 try clear hx409_17
 try clear hx409_18
 try clear hx409_19
 try clear hx409_2
 try clear hx409_3
 try clear hx409_4
 try clear hx409_5
 try clear hx409_6
 try clear hx409_7
 try clear hx409_8
 try clear hx409_9
 try clear hx411_0
 try clear p2
 try clear p4
 try clear p40
 try clear p409
 try clear p41
 try clear p411
 try clear p6
 try clear q4
 try clear q40
 try clear q409
 try clear q41
 try clear q411
 obtain ⟨x12_6, rfl, HA, HK6, HO_5, BK402, BK410, HB⟩ := hrel
 rcases gk with _ | k6
 ·exact absurd HA.out (by simp [newsreellaw41_RetainOldest.l2])
 have H := HA.out
 clear HA
 simp only [newsreellaw41_RetainOldest.l2] at H
 by_cases c55 : x12_6 < (t406.length : Int)
 rotate_left
 ·rw [if_neg c55] at H
  have c55b0 : decide (x12_6 < (t406.length : Int)) = false := decide_eq_false c55
  clear c55
  as_aux_lemma =>
   have H' := mkA H
   clear H
   go_wp2_with (first | ((with_reducible refine gate_load (t := 29) rfl ?_); refine load_at2 (t := 29) ?hg ?ho (c0 := _) (cs := [_, _, _, _, _, _, _, _, _, _, _, _, _, _, _, _, _, _, _]) Try.underlying29 rfl (by kernel_rfl) hx409_0 ⟨hx409_1, hx409_2, hx409_3, hx409_4, hx409_5, hx409_6, hx409_7, hx409_8, hx409_9, hx409_10, hx409_11, hx409_12, hx409_13, hx409_14, hx409_15, hx409_16, hx409_17, hx409_18, hx409_19, trivial⟩ ?_; (case hg => rfl); (case ho => refine ⟨_, rfl, ?_⟩; first | (with_reducible rfl) | (go_simp; done))) | ((with_reducible refine gate_load (t := 25) rfl ?_); refine load_row3 (t := 25) (g := gb402) ?hg BK402.out ?ho ?hb Try.underlying25 rfl ?hs ?_; (case hg => rfl); (case ho => refine ⟨_, rfl, ?_⟩; first | (with_reducible rfl) | (go_simp; done)); (case hb => (with_reducible repeat (first | refine blk_drewN ?_ _ | refine blk_drew ?_ | refine blk_alloc ?_ _)); with_reducible exact BK402.out); (case hs => kernel_rfl)) | ((with_reducible refine gate_load (t := 29) rfl ?_); refine load_row3 (t := 29) (g := gb410) ?hg BK410.out ?ho ?hb Try.underlying29 rfl ?hs ?_; (case hg => rfl); (case ho => refine ⟨_, rfl, ?_⟩; first | (with_reducible rfl) | (go_simp; done)); (case hb => (with_reducible repeat (first | refine blk_drewN ?_ _ | refine blk_drew ?_ | refine blk_alloc ?_ _)); with_reducible exact BK410.out); (case hs => kernel_rfl)) | ((with_reducible refine gate_load (t := 29) rfl ?_); refine load_row3w_ (t := 29) (g := gb410) ?hg BK410.out ?ho ?hb Try.underlying29 rfl ?hs ?_; (case hg => first | rfl | (go_simp; done) | (simp [Region.wanted, yielded]; done)); (case ho => refine ⟨_, rfl, ?_⟩; first | (with_reducible rfl) | (go_simp; done)); (case hb => (with_reducible repeat (first | refine blk_drewN ?_ _ | refine blk_drew ?_ | refine blk_alloc ?_ _)); with_reducible exact BK410.out); (case hs => kernel_rfl)))
   go_roundg k6
   case measure => have := HJ2.out; have := HK2.out; have := HK3.out; have := HJ33.out; have := HJ41.out; have := HK6.out; omega
   case rel => exact ⟨((wrap64 (x6_2 + 1))), ((wrap64 (x7_2 + 1))), (wrap64 (x8_2 + 1)), (by first | rfl | (simp; done) | (simp [*]; done)), (by first | rfl | (simp; done) | (simp [*]; done)), (by first | rfl | (simp; done) | (simp [*]; done)), H', ⟨by have := HJ2.out; have := HK2.out; have := HK3.out; have := HJ33.out; have := HJ41.out; have := HK6.out; omega⟩, ⟨by (with_reducible repeat (first | apply Kd.R_alloc | apply Kd.R_drewN | apply Kd.R_drew)); exact HO_5.out⟩, ⟨by (with_reducible repeat (first | refine blk_drewN ?_ _ | refine blk_drew ?_ | refine blk_alloc ?_ _)); exact BK402.out⟩, ⟨by repeat (first | (with_reducible first | exact HB.out | apply below_alloc | apply pw_below_drewN | apply below_drew1 | refine below_set ?_ GE402.out | refine below_set ?_ GE410.out) | exact HB.out)⟩⟩
 rw [if_pos c55] at H
 have c55b0 : decide (x12_6 < (t406.length : Int)) = true := decide_eq_true c55
 clear c55
 by_cases c56 : 0 ≤ x12_6
 rotate_left
 ·rw [if_neg c56] at H
  exact absurd H (by simp)
 rw [if_pos c56] at H
 have c56b0 : decide (0 ≤ x12_6) = true := decide_eq_true c56
 clear c56
 replace H := Option.bind_eq_some_iff.mp H
 obtain ⟨⟨t415, t416, t417, t418, t419, t420, t421, t422, t423, t424, t425, t426, t427, t428, t429, t430, t431, t432, t433, t434, t435⟩, A570, H⟩ := H
 replace H : (if t420 > ((rd_T29 l0_5 x8_2).f5) then (some false) else (if t420 = ((rd_T29 l0_5 x8_2).f5) then (if t415 > ((rd_T29 l0_5 x8_2).f0) then (some false) else (newsreellaw41_RetainOldest.l2 k6 a1 t406 (wrap64 (x6_2 + 1)) (wrap64 (x7_2 + 1)) x8_2 (wrap64 (x12_6 + 1)) a0_0 a0_1 a0_2 a0_3 l0_4 l0_5 ((rd_T29 l0_5 x8_2).f0) ((rd_T29 l0_5 x8_2).f1) ((rd_T29 l0_5 x8_2).f2) ((rd_T29 l0_5 x8_2).f3) ((rd_T29 l0_5 x8_2).f4) ((rd_T29 l0_5 x8_2).f5) ((rd_T29 l0_5 x8_2).f6) ((rd_T29 l0_5 x8_2).f7) ((rd_T29 l0_5 x8_2).f8) ((rd_T29 l0_5 x8_2).f9) ((rd_T29 l0_5 x8_2).f10) ((rd_T29 l0_5 x8_2).f11) ((rd_T29 l0_5 x8_2).f12) ((rd_T29 l0_5 x8_2).f13) ((rd_T29 l0_5 x8_2).f14) ((rd_T29 l0_5 x8_2).f15) ((rd_T29 l0_5 x8_2).f16) ((rd_T29 l0_5 x8_2).f17) ((rd_T29 l0_5 x8_2).f18) ((rd_T29 l0_5 x8_2).f19))) else (newsreellaw41_RetainOldest.l2 k6 a1 t406 (wrap64 (x6_2 + 1)) (wrap64 (x7_2 + 1)) x8_2 (wrap64 (x12_6 + 1)) a0_0 a0_1 a0_2 a0_3 l0_4 l0_5 ((rd_T29 l0_5 x8_2).f0) ((rd_T29 l0_5 x8_2).f1) ((rd_T29 l0_5 x8_2).f2) ((rd_T29 l0_5 x8_2).f3) ((rd_T29 l0_5 x8_2).f4) ((rd_T29 l0_5 x8_2).f5) ((rd_T29 l0_5 x8_2).f6) ((rd_T29 l0_5 x8_2).f7) ((rd_T29 l0_5 x8_2).f8) ((rd_T29 l0_5 x8_2).f9) ((rd_T29 l0_5 x8_2).f10) ((rd_T29 l0_5 x8_2).f11) ((rd_T29 l0_5 x8_2).f12) ((rd_T29 l0_5 x8_2).f13) ((rd_T29 l0_5 x8_2).f14) ((rd_T29 l0_5 x8_2).f15) ((rd_T29 l0_5 x8_2).f16) ((rd_T29 l0_5 x8_2).f17) ((rd_T29 l0_5 x8_2).f18) ((rd_T29 l0_5 x8_2).f19)))) = some r := H
 have A57 := mkA A570
 clear A570
 by_cases c58 : t420 > ((rd_T29 l0_5 x8_2).f5)
 ·rw [if_pos c58] at H
  have c58b0 : decide (((rd_T29 l0_5 x8_2).f5) < t420) = true := decide_eq_true c58
  clear c58
  as_aux_lemma =>
   cases (Option.some.inj H).trans ht_
 rw [if_neg c58] at H
 have c58b0 : decide (((rd_T29 l0_5 x8_2).f5) < t420) = false := decide_eq_false c58
 clear c58
 by_cases c59 : t420 = ((rd_T29 l0_5 x8_2).f5)
 rotate_left
 ·rw [if_neg c59] at H
  have c59b0 : (t420 == ((rd_T29 l0_5 x8_2).f5)) = false := beq_eq_false_iff_ne.mpr c59
  have c59b1 : (t420 != ((rd_T29 l0_5 x8_2).f5)) = true := bne_iff_ne.mpr c59
  as_aux_lemma =>
   have H' := mkA H
   clear H
   try go_wp2_with (first | ((with_reducible refine gate_load (t := 29) rfl ?_); refine load_at2 (t := 29) ?hg ?ho (c0 := _) (cs := [_, _, _, _, _, _, _, _, _, _, _, _, _, _, _, _, _, _, _]) Try.underlying29 rfl (by kernel_rfl) hx409_0 ⟨hx409_1, hx409_2, hx409_3, hx409_4, hx409_5, hx409_6, hx409_7, hx409_8, hx409_9, hx409_10, hx409_11, hx409_12, hx409_13, hx409_14, hx409_15, hx409_16, hx409_17, hx409_18, hx409_19, trivial⟩ ?_; (case hg => rfl); (case ho => refine ⟨_, rfl, ?_⟩; first | (with_reducible rfl) | (go_simp; done))) | ((with_reducible refine gate_load (t := 25) rfl ?_); refine load_row3 (t := 25) (g := gb402) ?hg BK402.out ?ho ?hb Try.underlying25 rfl ?hs ?_; (case hg => rfl); (case ho => refine ⟨_, rfl, ?_⟩; first | (with_reducible rfl) | (go_simp; done)); (case hb => (with_reducible repeat (first | refine blk_drewN ?_ _ | refine blk_drew ?_ | refine blk_alloc ?_ _)); with_reducible exact BK402.out); (case hs => kernel_rfl)) | ((with_reducible refine gate_load (t := 29) rfl ?_); refine load_row3 (t := 29) (g := gb410) ?hg BK410.out ?ho ?hb Try.underlying29 rfl ?hs ?_; (case hg => rfl); (case ho => refine ⟨_, rfl, ?_⟩; first | (with_reducible rfl) | (go_simp; done)); (case hb => (with_reducible repeat (first | refine blk_drewN ?_ _ | refine blk_drew ?_ | refine blk_alloc ?_ _)); with_reducible exact BK410.out); (case hs => kernel_rfl)) | ((with_reducible refine gate_load (t := 29) rfl ?_); refine load_row3w_ (t := 29) (g := gb410) ?hg BK410.out ?ho ?hb Try.underlying29 rfl ?hs ?_; (case hg => first | rfl | (go_simp; done) | (simp [Region.wanted, yielded]; done)); (case ho => refine ⟨_, rfl, ?_⟩; first | (with_reducible rfl) | (go_simp; done)); (case hb => (with_reducible repeat (first | refine blk_drewN ?_ _ | refine blk_drew ?_ | refine blk_alloc ?_ _)); with_reducible exact BK410.out); (case hs => kernel_rfl)) | ((with_reducible refine gate_load (t := 29) rfl ?_); refine load_row3 (t := 29) (g := gb436) ?hg BK436.out ?ho ?hb Try.underlying29 rfl ?hs ?_; (case hg => rfl); (case ho => refine ⟨_, rfl, ?_⟩; first | (with_reducible rfl) | (go_simp; done)); (case hb => (with_reducible repeat (first | refine blk_drewN ?_ _ | refine blk_drew ?_ | refine blk_alloc ?_ _)); with_reducible exact BK436.out); (case hs => kernel_rfl)) | ((with_reducible refine gate_load (t := 29) rfl ?_); refine load_row3w_ (t := 29) (g := gb436) ?hg BK436.out ?ho ?hb Try.underlying29 rfl ?hs ?_; (case hg => first | rfl | (go_simp; done) | (simp [Region.wanted, yielded]; done)); (case ho => refine ⟨_, rfl, ?_⟩; first | (with_reducible rfl) | (go_simp; done)); (case hb => (with_reducible repeat (first | refine blk_drewN ?_ _ | refine blk_drew ?_ | refine blk_alloc ?_ _)); with_reducible exact BK436.out); (case hs => kernel_rfl)))
   have n0_ := mkA (Kd.R_drew HO_5.out)
   have n1_ := mkA (blk_drew BK402.out)
   have n2_ := mkA (blk_drew BK410.out)
   have n3_ := mkA (below_drew1 HB.out)
   clear HO_5 BK402 BK410 HB
   have HO_5 := n0_
   have BK402 := n1_
   have BK410 := n2_
   have HB := n3_
   clear n0_ n1_ n2_ n3_
   have p414 : 0 ≤ (x12_6 : Int) := odt
   have q414 : x12_6 < (t406.length : Int) := odt
   obtain ⟨ad414, e414, hx414_0⟩ := Kd.at_int (Kd.R_reads' HO_5.out).2.2 x12_6 p414 q414
   cases e414
   replace p414 := eq_true p414
   replace q414 := eq_true q414
   refine start_ (n := 12) (S := fun w' => w'.cell? ⟨gb402, 0, none⟩ = some (.int .i64 a0_0) ∧ w'.cell? ⟨gb402, 1, none⟩ = some (.int .i64 a0_1) ∧ w'.cell? ⟨gb402, 2, none⟩ = some (.int .i64 a0_2) ∧ w'.cell? ⟨gb402, 3, none⟩ = some (.int .i64 a0_3) ∧ w'.cell? ⟨gb402, 4, none⟩ = some (.slice A0_4 l0_4.length c0_4) ∧ w'.cell? ⟨gb402, 5, none⟩ = some (.slice (some ad409) l0_5.length c0_5) ∧ w'.cell? (ad414.add (x12_6).toNat) = some (.int .i64 (rd t406 x12_6))) (ds := []) #[false, false, false, false, false, false, false, false, false, false, false, false] (by kernel_rfl) rfl rfl ⟨(blk_cell BK402.out 0).trans rfl, (blk_cell BK402.out 1).trans rfl, (blk_cell BK402.out 2).trans rfl, (blk_cell BK402.out 3).trans rfl, (blk_cell BK402.out 4).trans rfl, (blk_cell BK402.out 5).trans rfl, hx414_0⟩ (fun hHeld => ?_); refine with_tabW newsreellaw41_RetainOldest.tab23 newsreellaw41_RetainOldest.bits23 (fun HT_ HW_ => ?_)
   generalize wr.drew = w90 at HO_5 BK402 BK410 HB hx414_0 hHeld ⊢
   refine pu 1 90 HT_ ?_
   refine pu 2 91 HT_ ?_
   refine pu 3 92 HT_ ?_
   refine take_ (i := 0) (N := some 89) (v := ?_) (a' := ?_) #[true, true, true, true, false, false, false, false, false, false, false, false] rfl rfl (take_ofW HT_.out HW_.out (by kernel_rfl)) (fun _ _ _ h => h) (Or.inl ⟨by rfl, ?_⟩) hHeld ?_ ?_
   rotate_left
   ·rintro w' ⟨s0, s1, s2, s3, s4, s5, s6⟩
    first | (have hz_ := fun (a : Act) (o : Oper) (x : Operand) (ho : o.op = .load 25 x) (hx : a.eval x = _) => exec_load_at (P := Try.prog) (W := w') (cs := [_, _, _, _, _]) ho hx Try.underlying25 rfl (by kernel_rfl) s0 ⟨s1, s2, s3, s4, s5, trivial⟩; refine (hz_ _ _ (.tmp 2) ?_ ?_).trans ?_; (focus rfl); (focus (first | (with_reducible rfl) | (go_simp; done))); with_reducible rfl) | (go_simp; with_reducible rfl)
   rotate_left
   ·simp only [Act.put, sA, s0, sS, i64_w, i32_w]
    rfl
   refine tk 4 93 HT_ HW_ hHeld ?_
   refine join_ (σ := Nat) 2 #[true, true, true, true, true, true, true, true, true, true, false, false] (fun s_ => [(94, .tuple #[.agg #[.int .i64 t415, .int .i64 t416, .string t417, .string t418, .string t419, .int .i64 t420, .int .i64 t421, .int .i64 t422, .int .i64 t423, .bool t424, .int .i64 t425, .int .i64 t426, .int .i64 t427, .string t428, .int .i64 t429, .int .i64 t430, .string t431, .int .i64 t432, .int .i64 t433, .string t434], .bool t435]), (13, .pointer (some ⟨s_, 0, none⟩)), (88, .tuple #[.agg #[.int .i64 t415, .int .i64 t416, .string t417, .string t418, .string t419, .int .i64 t420, .int .i64 t421, .int .i64 t422, .int .i64 t423, .bool t424, .int .i64 t425, .int .i64 t426, .int .i64 t427, .string t428, .int .i64 t429, .int .i64 t430, .string t431, .int .i64 t432, .int .i64 t433, .string t434], .bool t435]), (95, .agg #[.int .i64 t415, .int .i64 t416, .string t417, .string t418, .string t419, .int .i64 t420, .int .i64 t421, .int .i64 t422, .int .i64 t423, .bool t424, .int .i64 t425, .int .i64 t426, .int .i64 t427, .string t428, .int .i64 t429, .int .i64 t430, .string t431, .int .i64 t432, .int .i64 t433, .string t434]), (96, .bool t435)]) (fun s_ w' => (w'.cell? ⟨gb402, 0, none⟩ = some (.int .i64 a0_0) ∧ w'.cell? ⟨gb402, 1, none⟩ = some (.int .i64 a0_1) ∧ w'.cell? ⟨gb402, 2, none⟩ = some (.int .i64 a0_2) ∧ w'.cell? ⟨gb402, 3, none⟩ = some (.int .i64 a0_3) ∧ w'.cell? ⟨gb402, 4, none⟩ = some (.slice A0_4 l0_4.length c0_4) ∧ w'.cell? ⟨gb402, 5, none⟩ = some (.slice (some ad409) l0_5.length c0_5) ∧ w'.cell? (ad414.add (x12_6).toNat) = some (.int .i64 (rd t406 x12_6))) ∧ (Kd.R (Kd.int .i64) 3 w' w.heap.size (fun _ => True) (.slice (some ad414) t406.length co35) t406) ∧ (w'.heap[gb402]? = some (.cells #[.int .i64 a0_0, .int .i64 a0_1, .int .i64 a0_2, .int .i64 a0_3, .slice A0_4 l0_4.length c0_4, .slice (some ad409) l0_5.length c0_5] 25 (0, 0))) ∧ (w'.heap[gb410]? = some (.cells #[.int .i64 ((rd_T29 l0_5 x8_2).f0), .int .i64 ((rd_T29 l0_5 x8_2).f1), .string ((rd_T29 l0_5 x8_2).f2), .string ((rd_T29 l0_5 x8_2).f3), .string ((rd_T29 l0_5 x8_2).f4), .int .i64 ((rd_T29 l0_5 x8_2).f5), .int .i64 ((rd_T29 l0_5 x8_2).f6), .int .i64 ((rd_T29 l0_5 x8_2).f7), .int .i64 ((rd_T29 l0_5 x8_2).f8), .bool ((rd_T29 l0_5 x8_2).f9), .int .i64 ((rd_T29 l0_5 x8_2).f10), .int .i64 ((rd_T29 l0_5 x8_2).f11), .int .i64 ((rd_T29 l0_5 x8_2).f12), .string ((rd_T29 l0_5 x8_2).f13), .int .i64 ((rd_T29 l0_5 x8_2).f14), .int .i64 ((rd_T29 l0_5 x8_2).f15), .string ((rd_T29 l0_5 x8_2).f16), .int .i64 ((rd_T29 l0_5 x8_2).f17), .int .i64 ((rd_T29 l0_5 x8_2).f18), .string ((rd_T29 l0_5 x8_2).f19)] 29 (0, 0))) ∧ (w'.heap[s_]? = some (.cells #[.int .i64 0, .int .i64 0, .string (⟨#[]⟩ : ByteArray), .string (⟨#[]⟩ : ByteArray), .string (⟨#[]⟩ : ByteArray), .int .i64 0, .int .i64 0, .int .i64 0, .int .i64 0, .bool false, .int .i64 0, .int .i64 0, .int .i64 0, .string (⟨#[]⟩ : ByteArray), .int .i64 0, .int .i64 0, .string (⟨#[]⟩ : ByteArray), .int .i64 0, .int .i64 0, .string (⟨#[]⟩ : ByteArray)] 29 (0, 0))) ∧ (w.heap.size ≤ s_) ∧ (w.heap.size ≤ s_) ∧ (gb402 ≠ s_) ∧ (s_ ≠ gb402) ∧ (gb410 ≠ s_) ∧ (s_ ≠ gb410) ∧ (Below w.heap.size w w')) ?_ ?_
   rotate_left
   ·intro hCont
    refine two_ (i := 5) (j := 9) (Ni := some 94) (Nj := some 13) #[true, true, true, true, true, true, false, false, false, false, false, false] #[true, true, true, true, true, false, false, false, false, true, false, false] rfl rfl rfl rfl (two_of HT_.out (by kernel_rfl)) (by decide) (by decide) (fun K hK => ?_) (fun K hK => ?_)
    ·skip
     refine goes_ Try.func17 (by kernel_rfl) rfl #[.agg #[.int .i64 a0_0, .int .i64 a0_1, .int .i64 a0_2, .int .i64 a0_3, .slice A0_4 l0_4.length c0_4, .slice (some ad409) l0_5.length c0_5], .int .i64 (rd t406 x12_6)] (by rfl) rfl rfl ca ?_
     with_reducible refine (newsreelref15_Ep.calls _ _ _ _ _ _ _ _ _ _ _ _ _ _ _ _ _ _ _ _ _ _ _ _ _ _ _ _ _ _ _ _ _ _ ?side1 ?side2 ?side3 ?side4 A57.out).mono ?_
     (case side1 => exact cz HR0_4.out HB.out)
     (case side2 => exact HC0_4.out)
     (case side3 => exact cz HR0_5.out HB.out)
     (case side4 => exact HC0_5.out)
     rintro e w91 ⟨rfl, hb⟩
     have hbk_w91 := mkA hb
     have HS6_ := hs_ hb hHeld.2.2.2.2.2.2
     refine ⟨_, rfl, ?_⟩
     have n0_ := mkA (Kd.R_below (Kd.R_y HO_5.out) hb)
     have n1_ := mkA (blk_below (blk_y BK402.out) hb)
     have n2_ := mkA (blk_below (blk_y BK410.out) hb)
     have n3_ := mkA (below_step (below_y HB.out) hb)
     clear HO_5 BK402 BK410 HB
     have HO_5 := n0_
     have BK402 := n1_
     have BK410 := n2_
     have HB := n3_
     clear n0_ n1_ n2_ n3_
     (try clear hb)
     (try clear hb2)
     (try clear hk)
     (try clear hi)
     refine hK.out _ _ ⟨(blk_cell BK402.out 0).trans rfl, (blk_cell BK402.out 1).trans rfl, (blk_cell BK402.out 2).trans rfl, (blk_cell BK402.out 3).trans rfl, (blk_cell BK402.out 4).trans rfl, (blk_cell BK402.out 5).trans rfl, HS6_⟩ (fun hHeld => ?_)
     clear hK K
     refine norm_ (a' := ?_) ?_ ?_
     rotate_left
     ·show Act.put _ (some 94) _ = _
      simp only [Act.put, sA, s0, sS, i64_w, i32_w]
      rfl
     refine pu 6 88 HT_ ?_
     refine pu 7 95 HT_ ?_
     refine pu 8 96 HT_ ?_
     refine one_ (i := 9) (N := some 13) #[true, true, true, true, true, true, true, true, true, true, false, false] rfl rfl (one_of HT_.out (by kernel_rfl)) (by decide) (fun K hK => ?_)
     refine box_step ?hg (N := 13) ?hd (cs := #[.int .i64 0, .int .i64 0, .string (⟨#[]⟩ : ByteArray), .string (⟨#[]⟩ : ByteArray), .string (⟨#[]⟩ : ByteArray), .int .i64 0, .int .i64 0, .int .i64 0, .int .i64 0, .bool false, .int .i64 0, .int .i64 0, .int .i64 0, .string (⟨#[]⟩ : ByteArray), .int .i64 0, .int .i64 0, .string (⟨#[]⟩ : ByteArray), .int .i64 0, .int .i64 0, .string (⟨#[]⟩ : ByteArray)]) (t := 29) ?hr ?_; (case hd => rfl); (case hg => rfl); (case hr => first | (go_simp; done) | (go_simp; rfl))
     intro gb436 hg w92 hbox hb
     have HS6_ := hs_ hb hHeld.2.2.2.2.2.2
     have n0_ := mkA (Kd.R_below (Kd.R_y HO_5.out) hb)
     have n1_ := mkA (blk_below (blk_y BK402.out) hb)
     have n2_ := mkA (blk_below (blk_y BK410.out) hb)
     have n3_ := mkA (below_step (below_y HB.out) hb)
     have n4_ := mkA (hbox)
     have n5_ := mkA ((gz hg HB.out : w.heap.size ≤ gb436))
     have n6_ := mkA ((gz hg HB.out : w.heap.size ≤ gb436))
     have n7_ := mkA ((gn hg BK402.out : gb402 ≠ gb436))
     have n8_ := mkA ((gm hg BK402.out : gb436 ≠ gb402))
     have n9_ := mkA ((gn hg BK410.out : gb410 ≠ gb436))
     have n10_ := mkA ((gm hg BK410.out : gb436 ≠ gb410))
     clear HO_5 BK402 BK410 HB
     have HO_5 := n0_
     have BK402 := n1_
     have BK410 := n2_
     have HB := n3_
     have BK436 := n4_
     have GW436 := n5_
     have GE436 := n6_
     have NB402_436 := n7_
     have NB436_402 := n8_
     have NB410_436 := n9_
     have NB436_410 := n10_
     clear n0_ n1_ n2_ n3_ n4_ n5_ n6_ n7_ n8_ n9_ n10_ hb hbox hg
     refine hK.out _ _ ⟨(blk_cell BK402.out 0).trans rfl, (blk_cell BK402.out 1).trans rfl, (blk_cell BK402.out 2).trans rfl, (blk_cell BK402.out 3).trans rfl, (blk_cell BK402.out 4).trans rfl, (blk_cell BK402.out 5).trans rfl, HS6_⟩ (fun hHeld => ?_)
     clear hK K
     refine norm_ (a' := ?_) ?_ ?_
     rotate_left
     ·show Act.put _ (some 13) _ = _
      simp only [Act.put, sA, s0, sS, i64_w, i32_w]
      rfl
     exact norm_ (by simp only [putAll, Act.put, sA, s0, sS]) (hCont (gb436) _ ⟨hHeld, (Kd.R_y HO_5.out), (blk_y BK402.out), (blk_y BK410.out), (blk_y BK436.out), GW436.out, GE436.out, NB402_436.out, NB436_402.out, NB410_436.out, NB436_410.out, (below_y HB.out)⟩)
    ·skip
     refine box_step ?hg (N := 13) ?hd (cs := #[.int .i64 0, .int .i64 0, .string (⟨#[]⟩ : ByteArray), .string (⟨#[]⟩ : ByteArray), .string (⟨#[]⟩ : ByteArray), .int .i64 0, .int .i64 0, .int .i64 0, .int .i64 0, .bool false, .int .i64 0, .int .i64 0, .int .i64 0, .string (⟨#[]⟩ : ByteArray), .int .i64 0, .int .i64 0, .string (⟨#[]⟩ : ByteArray), .int .i64 0, .int .i64 0, .string (⟨#[]⟩ : ByteArray)]) (t := 29) ?hr ?_; (case hd => rfl); (case hg => rfl); (case hr => first | (go_simp; done) | (go_simp; rfl))
     intro gb436 hg w91 hbox hb
     have HS6_ := hs_ hb hHeld.2.2.2.2.2.2
     have n0_ := mkA (Kd.R_below (Kd.R_y HO_5.out) hb)
     have n1_ := mkA (blk_below (blk_y BK402.out) hb)
     have n2_ := mkA (blk_below (blk_y BK410.out) hb)
     have n3_ := mkA (below_step (below_y HB.out) hb)
     have n4_ := mkA (hbox)
     have n5_ := mkA ((gz hg HB.out : w.heap.size ≤ gb436))
     have n6_ := mkA ((gz hg HB.out : w.heap.size ≤ gb436))
     have n7_ := mkA ((gn hg BK402.out : gb402 ≠ gb436))
     have n8_ := mkA ((gm hg BK402.out : gb436 ≠ gb402))
     have n9_ := mkA ((gn hg BK410.out : gb410 ≠ gb436))
     have n10_ := mkA ((gm hg BK410.out : gb436 ≠ gb410))
     clear HO_5 BK402 BK410 HB
     have HO_5 := n0_
     have BK402 := n1_
     have BK410 := n2_
     have HB := n3_
     have BK436 := n4_
     have GW436 := n5_
     have GE436 := n6_
     have NB402_436 := n7_
     have NB436_402 := n8_
     have NB410_436 := n9_
     have NB436_410 := n10_
     clear n0_ n1_ n2_ n3_ n4_ n5_ n6_ n7_ n8_ n9_ n10_ hb hbox hg
     refine hK.out _ _ ⟨(blk_cell BK402.out 0).trans rfl, (blk_cell BK402.out 1).trans rfl, (blk_cell BK402.out 2).trans rfl, (blk_cell BK402.out 3).trans rfl, (blk_cell BK402.out 4).trans rfl, (blk_cell BK402.out 5).trans rfl, HS6_⟩ (fun hHeld => ?_)
     clear hK K
     refine norm_ (a' := ?_) ?_ ?_
     rotate_left
     ·show Act.put _ (some 13) _ = _
      simp only [Act.put, sA, s0, sS, i64_w, i32_w]
      rfl
     refine one_ (i := 5) (N := some 94) #[true, true, true, true, true, true, false, false, false, true, false, false] rfl rfl (one_of HT_.out (by kernel_rfl)) (by decide) (fun K hK => ?_)
     refine goes_ Try.func17 (by kernel_rfl) rfl #[.agg #[.int .i64 a0_0, .int .i64 a0_1, .int .i64 a0_2, .int .i64 a0_3, .slice A0_4 l0_4.length c0_4, .slice (some ad409) l0_5.length c0_5], .int .i64 (rd t406 x12_6)] (by rfl) rfl rfl ca ?_
     with_reducible refine (newsreelref15_Ep.calls _ _ _ _ _ _ _ _ _ _ _ _ _ _ _ _ _ _ _ _ _ _ _ _ _ _ _ _ _ _ _ _ _ _ ?side1 ?side2 ?side3 ?side4 A57.out).mono ?_
     (case side1 => exact cz HR0_4.out HB.out)
     (case side2 => exact HC0_4.out)
     (case side3 => exact cz HR0_5.out HB.out)
     (case side4 => exact HC0_5.out)
     rintro e w92 ⟨rfl, hb⟩
     have hbk_w92 := mkA hb
     have HS6_ := hs_ hb hHeld.2.2.2.2.2.2
     refine ⟨_, rfl, ?_⟩
     have n0_ := mkA (Kd.R_below (Kd.R_y HO_5.out) hb)
     have n1_ := mkA (blk_below (blk_y BK402.out) hb)
     have n2_ := mkA (blk_below (blk_y BK410.out) hb)
     have n3_ := mkA (blk_below (g := gb436) (o := .cells #[.int .i64 0, .int .i64 0, .string (⟨#[]⟩ : ByteArray), .string (⟨#[]⟩ : ByteArray), .string (⟨#[]⟩ : ByteArray), .int .i64 0, .int .i64 0, .int .i64 0, .int .i64 0, .bool false, .int .i64 0, .int .i64 0, .int .i64 0, .string (⟨#[]⟩ : ByteArray), .int .i64 0, .int .i64 0, .string (⟨#[]⟩ : ByteArray), .int .i64 0, .int .i64 0, .string (⟨#[]⟩ : ByteArray)] 29 (0, 0)) (blk_y BK436.out) hb)
     have n4_ := mkA (below_step (below_y HB.out) hb)
     clear HO_5 BK402 BK410 BK436 HB
     have HO_5 := n0_
     have BK402 := n1_
     have BK410 := n2_
     have BK436 := n3_
     have HB := n4_
     clear n0_ n1_ n2_ n3_ n4_
     (try clear hb)
     (try clear hb2)
     (try clear hk)
     (try clear hi)
     refine hK.out _ _ ⟨(blk_cell BK402.out 0).trans rfl, (blk_cell BK402.out 1).trans rfl, (blk_cell BK402.out 2).trans rfl, (blk_cell BK402.out 3).trans rfl, (blk_cell BK402.out 4).trans rfl, (blk_cell BK402.out 5).trans rfl, HS6_⟩ (fun hHeld => ?_)
     clear hK K
     refine norm_ (a' := ?_) ?_ ?_
     rotate_left
     ·show Act.put _ (some 94) _ = _
      simp only [Act.put, sA, s0, sS, i64_w, i32_w]
      rfl
     refine pu 6 88 HT_ ?_
     refine pu 7 95 HT_ ?_
     refine pu 8 96 HT_ ?_
     exact norm_ (by simp only [putAll, Act.put, sA, s0, sS]) (hCont (gb436) _ ⟨hHeld, (Kd.R_y HO_5.out), (blk_y BK402.out), (blk_y BK410.out), (blk_y BK436.out), GW436.out, GE436.out, NB402_436.out, NB436_402.out, NB410_436.out, NB436_410.out, (below_y HB.out)⟩)
   rintro gb436 w93 ⟨hS_, h0_, h1_, h2_, h3_, h4_, h5_, h6_, h7_, h8_, h9_, h10_⟩
   have n0_ : Aside0 (Kd.R (Kd.int .i64) 3 w93 w.heap.size (fun _ => True) (.slice (some ad414) t406.length co35) t406) := ⟨h0_⟩
   have n1_ : Aside0 (w93.heap[gb402]? = some (.cells #[.int .i64 a0_0, .int .i64 a0_1, .int .i64 a0_2, .int .i64 a0_3, .slice A0_4 l0_4.length c0_4, .slice (some ad409) l0_5.length c0_5] 25 (0, 0))) := ⟨h1_⟩
   have n2_ : Aside0 (w93.heap[gb410]? = some (.cells #[.int .i64 ((rd_T29 l0_5 x8_2).f0), .int .i64 ((rd_T29 l0_5 x8_2).f1), .string ((rd_T29 l0_5 x8_2).f2), .string ((rd_T29 l0_5 x8_2).f3), .string ((rd_T29 l0_5 x8_2).f4), .int .i64 ((rd_T29 l0_5 x8_2).f5), .int .i64 ((rd_T29 l0_5 x8_2).f6), .int .i64 ((rd_T29 l0_5 x8_2).f7), .int .i64 ((rd_T29 l0_5 x8_2).f8), .bool ((rd_T29 l0_5 x8_2).f9), .int .i64 ((rd_T29 l0_5 x8_2).f10), .int .i64 ((rd_T29 l0_5 x8_2).f11), .int .i64 ((rd_T29 l0_5 x8_2).f12), .string ((rd_T29 l0_5 x8_2).f13), .int .i64 ((rd_T29 l0_5 x8_2).f14), .int .i64 ((rd_T29 l0_5 x8_2).f15), .string ((rd_T29 l0_5 x8_2).f16), .int .i64 ((rd_T29 l0_5 x8_2).f17), .int .i64 ((rd_T29 l0_5 x8_2).f18), .string ((rd_T29 l0_5 x8_2).f19)] 29 (0, 0))) := ⟨h2_⟩
   have n3_ : Aside0 (w93.heap[gb436]? = some (.cells #[.int .i64 0, .int .i64 0, .string (⟨#[]⟩ : ByteArray), .string (⟨#[]⟩ : ByteArray), .string (⟨#[]⟩ : ByteArray), .int .i64 0, .int .i64 0, .int .i64 0, .int .i64 0, .bool false, .int .i64 0, .int .i64 0, .int .i64 0, .string (⟨#[]⟩ : ByteArray), .int .i64 0, .int .i64 0, .string (⟨#[]⟩ : ByteArray), .int .i64 0, .int .i64 0, .string (⟨#[]⟩ : ByteArray)] 29 (0, 0))) := ⟨h3_⟩
   have n4_ : Aside0 (w.heap.size ≤ gb436) := ⟨h4_⟩
   have n5_ : Aside0 (w.heap.size ≤ gb436) := ⟨h5_⟩
   have n6_ : Aside0 (gb402 ≠ gb436) := ⟨h6_⟩
   have n7_ : Aside0 (gb436 ≠ gb402) := ⟨h7_⟩
   have n8_ : Aside0 (gb410 ≠ gb436) := ⟨h8_⟩
   have n9_ : Aside0 (gb436 ≠ gb410) := ⟨h9_⟩
   have n10_ : Aside0 (Below w.heap.size w w93) := ⟨h10_⟩
   clear HO_5 BK402 BK410 HB h0_ h1_ h2_ h3_ h4_ h5_ h6_ h7_ h8_ h9_ h10_
   have HO_5 := n0_
   have BK402 := n1_
   have BK410 := n2_
   have BK436 := n3_
   have GW436 := n4_
   have GE436 := n5_
   have NB402_436 := n6_
   have NB436_402 := n7_
   have NB410_436 := n8_
   have NB436_410 := n9_
   have HB := n10_
   clear n0_ n1_ n2_ n3_ n4_ n5_ n6_ n7_ n8_ n9_ n10_
   have hHeld : w93.cell? ⟨gb402, 0, none⟩ = some (.int .i64 a0_0) ∧ w93.cell? ⟨gb402, 1, none⟩ = some (.int .i64 a0_1) ∧ w93.cell? ⟨gb402, 2, none⟩ = some (.int .i64 a0_2) ∧ w93.cell? ⟨gb402, 3, none⟩ = some (.int .i64 a0_3) ∧ w93.cell? ⟨gb402, 4, none⟩ = some (.slice A0_4 l0_4.length c0_4) ∧ w93.cell? ⟨gb402, 5, none⟩ = some (.slice (some ad409) l0_5.length c0_5) ∧ w93.cell? (ad414.add (x12_6).toNat) = some (.int .i64 (rd t406 x12_6)) := hS_
   refine norm_ (a' := ?_) ?_ ?_
   rotate_left
   ·simp only [putAll, Act.put, sA, s0, sS]
    rfl
   refine one_ (i := 10) (N := none) #[true, true, true, true, true, true, true, true, true, true, true, false] rfl rfl (one_of HT_.out (by kernel_rfl)) (by decide) (fun K hK => ?_)
   refine vst_ (g := gb436) (cells := #[.int .i64 t415, .int .i64 t416, .string t417, .string t418, .string t419, .int .i64 t420, .int .i64 t421, .int .i64 t422, .int .i64 t423, .bool t424, .int .i64 t425, .int .i64 t426, .int .i64 t427, .string t428, .int .i64 t429, .int .i64 t430, .string t431, .int .i64 t432, .int .i64 t433, .string t434]) (by rfl) rfl ⟨_, _, rfl, (by first | (with_reducible rfl) | (go_simp; done) | rfl | (go_simp; rfl)), (by first | (with_reducible rfl) | (go_simp; done) | rfl | (go_simp; rfl))⟩ (blk_y BK436.out) (by kernel_rfl) rfl (by first | rfl | simp [Value.oneCell']) ?_
   intro w9436 hw hbk
   have n0_ := mkA (R_setv HO_5.out (blk_y BK436.out) hw)
   have n1_ := mkA (blk_setv hw NB402_436.out BK402.out)
   have n2_ := mkA (blk_setv hw NB410_436.out BK410.out)
   have n3_ := mkA (hbk)
   have n4_ := mkA (below_setv hw GE436.out HB.out)
   clear HO_5 BK402 BK410 BK436 HB
   have HO_5 := n0_
   have BK402 := n1_
   have BK410 := n2_
   have BK436 := n3_
   have HB := n4_
   clear n0_ n1_ n2_ n3_ n4_
   refine hK.out _ _ ⟨((by have hx := NB402_436.out; exact fR hw hx (hHeld.1))), ((by have hx := NB402_436.out; exact fR hw hx (hHeld.2.1))), ((by have hx := NB402_436.out; exact fR hw hx (hHeld.2.2.1))), ((by have hx := NB402_436.out; exact fR hw hx (hHeld.2.2.2.1))), ((by have hx := NB402_436.out; exact fR hw hx (hHeld.2.2.2.2.1))), ((by have hx := NB402_436.out; exact fR hw hx (hHeld.2.2.2.2.2.1))), ((by have hx := Kd.own_blk (Kd.R_ne HO_5.out BK436.out (by decide)); first | exact fR hw hx (hHeld.2.2.2.2.2.2) | (have hy := fun n => (show (Addr.add _ n).block ≠ _ from by rw [add_block]; exact hx); exact fR hw (hy _) (hHeld.2.2.2.2.2.2))))⟩ (fun hHeld => ?_)
   clear hw hbk
   clear hK K
   refine pu 11 14 HT_ ?_
   refine done_ (done_of HT_.out (by kernel_rfl)) ?_
   have hnb114 := NB436_402.out
   have hnc114 := NB402_436.out
   have hnb115 := NB436_410.out
   have hnc115 := NB410_436.out
   have hcz116_0 := bc BK436.out 0 (.int .i64 t415) rfl
   have hcz116_1 := bc BK436.out 1 (.int .i64 t416) rfl
   have hcz116_2 := bc BK436.out 2 (.string t417) rfl
   have hcz116_3 := bc BK436.out 3 (.string t418) rfl
   have hcz116_4 := bc BK436.out 4 (.string t419) rfl
   have hcz116_5 := bc BK436.out 5 (.int .i64 t420) rfl
   have hcz116_6 := bc BK436.out 6 (.int .i64 t421) rfl
   have hcz116_7 := bc BK436.out 7 (.int .i64 t422) rfl
   have hcz116_8 := bc BK436.out 8 (.int .i64 t423) rfl
   have hcz116_9 := bc BK436.out 9 (.bool t424) rfl
   have hcz116_10 := bc BK436.out 10 (.int .i64 t425) rfl
   have hcz116_11 := bc BK436.out 11 (.int .i64 t426) rfl
   have hcz116_12 := bc BK436.out 12 (.int .i64 t427) rfl
   have hcz116_13 := bc BK436.out 13 (.string t428) rfl
   have hcz116_14 := bc BK436.out 14 (.int .i64 t429) rfl
   have hcz116_15 := bc BK436.out 15 (.int .i64 t430) rfl
   have hcz116_16 := bc BK436.out 16 (.string t431) rfl
   have hcz116_17 := bc BK436.out 17 (.int .i64 t432) rfl
   have hcz116_18 := bc BK436.out 18 (.int .i64 t433) rfl
   have hcz116_19 := bc BK436.out 19 (.string t434) rfl
   have hfz116_0 := blk_frozen BK436.out 0
   have hfz116_1 := blk_frozen BK436.out 1
   have hfz116_2 := blk_frozen BK436.out 2
   have hfz116_3 := blk_frozen BK436.out 3
   have hfz116_4 := blk_frozen BK436.out 4
   have hfz116_5 := blk_frozen BK436.out 5
   have hfz116_6 := blk_frozen BK436.out 6
   have hfz116_7 := blk_frozen BK436.out 7
   have hfz116_8 := blk_frozen BK436.out 8
   have hfz116_9 := blk_frozen BK436.out 9
   have hfz116_10 := blk_frozen BK436.out 10
   have hfz116_11 := blk_frozen BK436.out 11
   have hfz116_12 := blk_frozen BK436.out 12
   have hfz116_13 := blk_frozen BK436.out 13
   have hfz116_14 := blk_frozen BK436.out 14
   have hfz116_15 := blk_frozen BK436.out 15
   have hfz116_16 := blk_frozen BK436.out 16
   have hfz116_17 := blk_frozen BK436.out 17
   have hfz116_18 := blk_frozen BK436.out 18
   have hfz116_19 := blk_frozen BK436.out 19
   have hnb117 := NB410_402.out
   have hnc117 := NB402_410.out
   have hcz118_0 := bc BK410.out 0 (.int .i64 ((rd_T29 l0_5 x8_2).f0)) rfl
   have hcz118_1 := bc BK410.out 1 (.int .i64 ((rd_T29 l0_5 x8_2).f1)) rfl
   have hcz118_2 := bc BK410.out 2 (.string ((rd_T29 l0_5 x8_2).f2)) rfl
   have hcz118_3 := bc BK410.out 3 (.string ((rd_T29 l0_5 x8_2).f3)) rfl
   have hcz118_4 := bc BK410.out 4 (.string ((rd_T29 l0_5 x8_2).f4)) rfl
   have hcz118_5 := bc BK410.out 5 (.int .i64 ((rd_T29 l0_5 x8_2).f5)) rfl
   have hcz118_6 := bc BK410.out 6 (.int .i64 ((rd_T29 l0_5 x8_2).f6)) rfl
   have hcz118_7 := bc BK410.out 7 (.int .i64 ((rd_T29 l0_5 x8_2).f7)) rfl
   have hcz118_8 := bc BK410.out 8 (.int .i64 ((rd_T29 l0_5 x8_2).f8)) rfl
   have hcz118_9 := bc BK410.out 9 (.bool ((rd_T29 l0_5 x8_2).f9)) rfl
   have hcz118_10 := bc BK410.out 10 (.int .i64 ((rd_T29 l0_5 x8_2).f10)) rfl
   have hcz118_11 := bc BK410.out 11 (.int .i64 ((rd_T29 l0_5 x8_2).f11)) rfl
   have hcz118_12 := bc BK410.out 12 (.int .i64 ((rd_T29 l0_5 x8_2).f12)) rfl
   have hcz118_13 := bc BK410.out 13 (.string ((rd_T29 l0_5 x8_2).f13)) rfl
   have hcz118_14 := bc BK410.out 14 (.int .i64 ((rd_T29 l0_5 x8_2).f14)) rfl
   have hcz118_15 := bc BK410.out 15 (.int .i64 ((rd_T29 l0_5 x8_2).f15)) rfl
   have hcz118_16 := bc BK410.out 16 (.string ((rd_T29 l0_5 x8_2).f16)) rfl
   have hcz118_17 := bc BK410.out 17 (.int .i64 ((rd_T29 l0_5 x8_2).f17)) rfl
   have hcz118_18 := bc BK410.out 18 (.int .i64 ((rd_T29 l0_5 x8_2).f18)) rfl
   have hcz118_19 := bc BK410.out 19 (.string ((rd_T29 l0_5 x8_2).f19)) rfl
   have hfz118_0 := blk_frozen BK410.out 0
   have hfz118_1 := blk_frozen BK410.out 1
   have hfz118_2 := blk_frozen BK410.out 2
   have hfz118_3 := blk_frozen BK410.out 3
   have hfz118_4 := blk_frozen BK410.out 4
   have hfz118_5 := blk_frozen BK410.out 5
   have hfz118_6 := blk_frozen BK410.out 6
   have hfz118_7 := blk_frozen BK410.out 7
   have hfz118_8 := blk_frozen BK410.out 8
   have hfz118_9 := blk_frozen BK410.out 9
   have hfz118_10 := blk_frozen BK410.out 10
   have hfz118_11 := blk_frozen BK410.out 11
   have hfz118_12 := blk_frozen BK410.out 12
   have hfz118_13 := blk_frozen BK410.out 13
   have hfz118_14 := blk_frozen BK410.out 14
   have hfz118_15 := blk_frozen BK410.out 15
   have hfz118_16 := blk_frozen BK410.out 16
   have hfz118_17 := blk_frozen BK410.out 17
   have hfz118_18 := blk_frozen BK410.out 18
   have hfz118_19 := blk_frozen BK410.out 19
   try go_wp2_with (first | ((with_reducible refine gate_load (t := 29) rfl ?_); refine load_at2 (t := 29) ?hg ?ho (c0 := _) (cs := [_, _, _, _, _, _, _, _, _, _, _, _, _, _, _, _, _, _, _]) Try.underlying29 rfl (by kernel_rfl) hx409_0 ⟨hx409_1, hx409_2, hx409_3, hx409_4, hx409_5, hx409_6, hx409_7, hx409_8, hx409_9, hx409_10, hx409_11, hx409_12, hx409_13, hx409_14, hx409_15, hx409_16, hx409_17, hx409_18, hx409_19, trivial⟩ ?_; (case hg => rfl); (case ho => refine ⟨_, rfl, ?_⟩; first | (with_reducible rfl) | (go_simp; done))) | ((with_reducible refine gate_load (t := 25) rfl ?_); refine load_row3 (t := 25) (g := gb402) ?hg BK402.out ?ho ?hb Try.underlying25 rfl ?hs ?_; (case hg => rfl); (case ho => refine ⟨_, rfl, ?_⟩; first | (with_reducible rfl) | (go_simp; done)); (case hb => (with_reducible repeat (first | refine blk_drewN ?_ _ | refine blk_drew ?_ | refine blk_alloc ?_ _)); with_reducible exact BK402.out); (case hs => kernel_rfl)) | ((with_reducible refine gate_load (t := 29) rfl ?_); refine load_row3 (t := 29) (g := gb410) ?hg BK410.out ?ho ?hb Try.underlying29 rfl ?hs ?_; (case hg => rfl); (case ho => refine ⟨_, rfl, ?_⟩; first | (with_reducible rfl) | (go_simp; done)); (case hb => (with_reducible repeat (first | refine blk_drewN ?_ _ | refine blk_drew ?_ | refine blk_alloc ?_ _)); with_reducible exact BK410.out); (case hs => kernel_rfl)) | ((with_reducible refine gate_load (t := 29) rfl ?_); refine load_row3w_ (t := 29) (g := gb410) ?hg BK410.out ?ho ?hb Try.underlying29 rfl ?hs ?_; (case hg => first | rfl | (go_simp; done) | (simp [Region.wanted, yielded]; done)); (case ho => refine ⟨_, rfl, ?_⟩; first | (with_reducible rfl) | (go_simp; done)); (case hb => (with_reducible repeat (first | refine blk_drewN ?_ _ | refine blk_drew ?_ | refine blk_alloc ?_ _)); with_reducible exact BK410.out); (case hs => kernel_rfl)) | ((with_reducible refine gate_load (t := 29) rfl ?_); refine load_row3 (t := 29) (g := gb436) ?hg BK436.out ?ho ?hb Try.underlying29 rfl ?hs ?_; (case hg => rfl); (case ho => refine ⟨_, rfl, ?_⟩; first | (with_reducible rfl) | (go_simp; done)); (case hb => (with_reducible repeat (first | refine blk_drewN ?_ _ | refine blk_drew ?_ | refine blk_alloc ?_ _)); with_reducible exact BK436.out); (case hs => kernel_rfl)) | ((with_reducible refine gate_load (t := 29) rfl ?_); refine load_row3w_ (t := 29) (g := gb436) ?hg BK436.out ?ho ?hb Try.underlying29 rfl ?hs ?_; (case hg => first | rfl | (go_simp; done) | (simp [Region.wanted, yielded]; done)); (case ho => refine ⟨_, rfl, ?_⟩; first | (with_reducible rfl) | (go_simp; done)); (case hb => (with_reducible repeat (first | refine blk_drewN ?_ _ | refine blk_drew ?_ | refine blk_alloc ?_ _)); with_reducible exact BK436.out); (case hs => kernel_rfl)))
   go_roundg k6
   case measure => have := HJ2.out; have := HK2.out; have := HK3.out; have := HJ33.out; have := HJ41.out; have := HK6.out; omega
   case rel => exact ⟨(wrap64 (x12_6 + 1)), (by first | rfl | (simp; done) | (simp [*]; done)), H', ⟨by have := HJ2.out; have := HK2.out; have := HK3.out; have := HJ33.out; have := HJ41.out; have := HK6.out; omega⟩, ⟨by (with_reducible repeat (first | apply Kd.R_alloc | apply Kd.R_drewN | apply Kd.R_drew)); exact HO_5.out⟩, ⟨by (with_reducible repeat (first | refine blk_drewN ?_ _ | refine blk_drew ?_ | refine blk_alloc ?_ _)); exact BK402.out⟩, ⟨by (with_reducible repeat (first | refine blk_drewN ?_ _ | refine blk_drew ?_ | refine blk_alloc ?_ _)); exact BK410.out⟩, ⟨by repeat (first | (with_reducible first | exact HB.out | apply below_alloc | apply pw_below_drewN | apply below_drew1 | refine below_set ?_ GE402.out | refine below_set ?_ GE410.out | refine below_set ?_ GE436.out) | exact HB.out)⟩⟩
 rw [if_pos c59] at H
 have c59b0 : (t420 == ((rd_T29 l0_5 x8_2).f5)) = true := beq_iff_eq.mpr c59
 have c59b1 : (t420 != ((rd_T29 l0_5 x8_2).f5)) = false := bne_eq_false_iff_eq.mpr c59
 clear c59
 by_cases c60 : t415 > ((rd_T29 l0_5 x8_2).f0)
 ·rw [if_pos c60] at H
  have c60b0 : decide (((rd_T29 l0_5 x8_2).f0) < t415) = true := decide_eq_true c60
  clear c60
  as_aux_lemma =>
   cases (Option.some.inj H).trans ht_
 rw [if_neg c60] at H
 have c60b0 : decide (((rd_T29 l0_5 x8_2).f0) < t415) = false := decide_eq_false c60
 clear c60
 as_aux_lemma =>
  have H' := mkA H
  clear H
  try go_wp2_with (first | ((with_reducible refine gate_load (t := 29) rfl ?_); refine load_at2 (t := 29) ?hg ?ho (c0 := _) (cs := [_, _, _, _, _, _, _, _, _, _, _, _, _, _, _, _, _, _, _]) Try.underlying29 rfl (by kernel_rfl) hx409_0 ⟨hx409_1, hx409_2, hx409_3, hx409_4, hx409_5, hx409_6, hx409_7, hx409_8, hx409_9, hx409_10, hx409_11, hx409_12, hx409_13, hx409_14, hx409_15, hx409_16, hx409_17, hx409_18, hx409_19, trivial⟩ ?_; (case hg => rfl); (case ho => refine ⟨_, rfl, ?_⟩; first | (with_reducible rfl) | (go_simp; done))) | ((with_reducible refine gate_load (t := 25) rfl ?_); refine load_row3 (t := 25) (g := gb402) ?hg BK402.out ?ho ?hb Try.underlying25 rfl ?hs ?_; (case hg => rfl); (case ho => refine ⟨_, rfl, ?_⟩; first | (with_reducible rfl) | (go_simp; done)); (case hb => (with_reducible repeat (first | refine blk_drewN ?_ _ | refine blk_drew ?_ | refine blk_alloc ?_ _)); with_reducible exact BK402.out); (case hs => kernel_rfl)) | ((with_reducible refine gate_load (t := 29) rfl ?_); refine load_row3 (t := 29) (g := gb410) ?hg BK410.out ?ho ?hb Try.underlying29 rfl ?hs ?_; (case hg => rfl); (case ho => refine ⟨_, rfl, ?_⟩; first | (with_reducible rfl) | (go_simp; done)); (case hb => (with_reducible repeat (first | refine blk_drewN ?_ _ | refine blk_drew ?_ | refine blk_alloc ?_ _)); with_reducible exact BK410.out); (case hs => kernel_rfl)) | ((with_reducible refine gate_load (t := 29) rfl ?_); refine load_row3w_ (t := 29) (g := gb410) ?hg BK410.out ?ho ?hb Try.underlying29 rfl ?hs ?_; (case hg => first | rfl | (go_simp; done) | (simp [Region.wanted, yielded]; done)); (case ho => refine ⟨_, rfl, ?_⟩; first | (with_reducible rfl) | (go_simp; done)); (case hb => (with_reducible repeat (first | refine blk_drewN ?_ _ | refine blk_drew ?_ | refine blk_alloc ?_ _)); with_reducible exact BK410.out); (case hs => kernel_rfl)) | ((with_reducible refine gate_load (t := 29) rfl ?_); refine load_row3 (t := 29) (g := gb436) ?hg BK436.out ?ho ?hb Try.underlying29 rfl ?hs ?_; (case hg => rfl); (case ho => refine ⟨_, rfl, ?_⟩; first | (with_reducible rfl) | (go_simp; done)); (case hb => (with_reducible repeat (first | refine blk_drewN ?_ _ | refine blk_drew ?_ | refine blk_alloc ?_ _)); with_reducible exact BK436.out); (case hs => kernel_rfl)) | ((with_reducible refine gate_load (t := 29) rfl ?_); refine load_row3w_ (t := 29) (g := gb436) ?hg BK436.out ?ho ?hb Try.underlying29 rfl ?hs ?_; (case hg => first | rfl | (go_simp; done) | (simp [Region.wanted, yielded]; done)); (case ho => refine ⟨_, rfl, ?_⟩; first | (with_reducible rfl) | (go_simp; done)); (case hb => (with_reducible repeat (first | refine blk_drewN ?_ _ | refine blk_drew ?_ | refine blk_alloc ?_ _)); with_reducible exact BK436.out); (case hs => kernel_rfl)))
  have n0_ := mkA (Kd.R_drew HO_5.out)
  have n1_ := mkA (blk_drew BK402.out)
  have n2_ := mkA (blk_drew BK410.out)
  have n3_ := mkA (below_drew1 HB.out)
  clear HO_5 BK402 BK410 HB
  have HO_5 := n0_
  have BK402 := n1_
  have BK410 := n2_
  have HB := n3_
  clear n0_ n1_ n2_ n3_
  have p414 : 0 ≤ (x12_6 : Int) := odt
  have q414 : x12_6 < (t406.length : Int) := odt
  obtain ⟨ad414, e414, hx414_0⟩ := Kd.at_int (Kd.R_reads' HO_5.out).2.2 x12_6 p414 q414
  cases e414
  replace p414 := eq_true p414
  replace q414 := eq_true q414
  refine start_ (n := 12) (S := fun w' => w'.cell? ⟨gb402, 0, none⟩ = some (.int .i64 a0_0) ∧ w'.cell? ⟨gb402, 1, none⟩ = some (.int .i64 a0_1) ∧ w'.cell? ⟨gb402, 2, none⟩ = some (.int .i64 a0_2) ∧ w'.cell? ⟨gb402, 3, none⟩ = some (.int .i64 a0_3) ∧ w'.cell? ⟨gb402, 4, none⟩ = some (.slice A0_4 l0_4.length c0_4) ∧ w'.cell? ⟨gb402, 5, none⟩ = some (.slice (some ad409) l0_5.length c0_5) ∧ w'.cell? (ad414.add (x12_6).toNat) = some (.int .i64 (rd t406 x12_6))) (ds := []) #[false, false, false, false, false, false, false, false, false, false, false, false] (by kernel_rfl) rfl rfl ⟨(blk_cell BK402.out 0).trans rfl, (blk_cell BK402.out 1).trans rfl, (blk_cell BK402.out 2).trans rfl, (blk_cell BK402.out 3).trans rfl, (blk_cell BK402.out 4).trans rfl, (blk_cell BK402.out 5).trans rfl, hx414_0⟩ (fun hHeld => ?_); refine with_tabW newsreellaw41_RetainOldest.tab23 newsreellaw41_RetainOldest.bits23 (fun HT_ HW_ => ?_)
  generalize wr.drew = w61 at HO_5 BK402 BK410 HB hx414_0 hHeld ⊢
  refine pu 1 90 HT_ ?_
  refine pu 2 91 HT_ ?_
  refine pu 3 92 HT_ ?_
  refine take_ (i := 0) (N := some 89) (v := ?_) (a' := ?_) #[true, true, true, true, false, false, false, false, false, false, false, false] rfl rfl (take_ofW HT_.out HW_.out (by kernel_rfl)) (fun _ _ _ h => h) (Or.inl ⟨by rfl, ?_⟩) hHeld ?_ ?_
  rotate_left
  ·rintro w' ⟨s0, s1, s2, s3, s4, s5, s6⟩
   first | (have hz_ := fun (a : Act) (o : Oper) (x : Operand) (ho : o.op = .load 25 x) (hx : a.eval x = _) => exec_load_at (P := Try.prog) (W := w') (cs := [_, _, _, _, _]) ho hx Try.underlying25 rfl (by kernel_rfl) s0 ⟨s1, s2, s3, s4, s5, trivial⟩; refine (hz_ _ _ (.tmp 2) ?_ ?_).trans ?_; (focus rfl); (focus (first | (with_reducible rfl) | (go_simp; done))); with_reducible rfl) | (go_simp; with_reducible rfl)
  rotate_left
  ·simp only [Act.put, sA, s0, sS, i64_w, i32_w]
   rfl
  refine tk 4 93 HT_ HW_ hHeld ?_
  refine join_ (σ := Nat) 2 #[true, true, true, true, true, true, true, true, true, true, false, false] (fun s_ => [(94, .tuple #[.agg #[.int .i64 t415, .int .i64 t416, .string t417, .string t418, .string t419, .int .i64 t420, .int .i64 t421, .int .i64 t422, .int .i64 t423, .bool t424, .int .i64 t425, .int .i64 t426, .int .i64 t427, .string t428, .int .i64 t429, .int .i64 t430, .string t431, .int .i64 t432, .int .i64 t433, .string t434], .bool t435]), (13, .pointer (some ⟨s_, 0, none⟩)), (88, .tuple #[.agg #[.int .i64 t415, .int .i64 t416, .string t417, .string t418, .string t419, .int .i64 t420, .int .i64 t421, .int .i64 t422, .int .i64 t423, .bool t424, .int .i64 t425, .int .i64 t426, .int .i64 t427, .string t428, .int .i64 t429, .int .i64 t430, .string t431, .int .i64 t432, .int .i64 t433, .string t434], .bool t435]), (95, .agg #[.int .i64 t415, .int .i64 t416, .string t417, .string t418, .string t419, .int .i64 t420, .int .i64 t421, .int .i64 t422, .int .i64 t423, .bool t424, .int .i64 t425, .int .i64 t426, .int .i64 t427, .string t428, .int .i64 t429, .int .i64 t430, .string t431, .int .i64 t432, .int .i64 t433, .string t434]), (96, .bool t435)]) (fun s_ w' => (w'.cell? ⟨gb402, 0, none⟩ = some (.int .i64 a0_0) ∧ w'.cell? ⟨gb402, 1, none⟩ = some (.int .i64 a0_1) ∧ w'.cell? ⟨gb402, 2, none⟩ = some (.int .i64 a0_2) ∧ w'.cell? ⟨gb402, 3, none⟩ = some (.int .i64 a0_3) ∧ w'.cell? ⟨gb402, 4, none⟩ = some (.slice A0_4 l0_4.length c0_4) ∧ w'.cell? ⟨gb402, 5, none⟩ = some (.slice (some ad409) l0_5.length c0_5) ∧ w'.cell? (ad414.add (x12_6).toNat) = some (.int .i64 (rd t406 x12_6))) ∧ (Kd.R (Kd.int .i64) 3 w' w.heap.size (fun _ => True) (.slice (some ad414) t406.length co35) t406) ∧ (w'.heap[gb402]? = some (.cells #[.int .i64 a0_0, .int .i64 a0_1, .int .i64 a0_2, .int .i64 a0_3, .slice A0_4 l0_4.length c0_4, .slice (some ad409) l0_5.length c0_5] 25 (0, 0))) ∧ (w'.heap[gb410]? = some (.cells #[.int .i64 ((rd_T29 l0_5 x8_2).f0), .int .i64 ((rd_T29 l0_5 x8_2).f1), .string ((rd_T29 l0_5 x8_2).f2), .string ((rd_T29 l0_5 x8_2).f3), .string ((rd_T29 l0_5 x8_2).f4), .int .i64 ((rd_T29 l0_5 x8_2).f5), .int .i64 ((rd_T29 l0_5 x8_2).f6), .int .i64 ((rd_T29 l0_5 x8_2).f7), .int .i64 ((rd_T29 l0_5 x8_2).f8), .bool ((rd_T29 l0_5 x8_2).f9), .int .i64 ((rd_T29 l0_5 x8_2).f10), .int .i64 ((rd_T29 l0_5 x8_2).f11), .int .i64 ((rd_T29 l0_5 x8_2).f12), .string ((rd_T29 l0_5 x8_2).f13), .int .i64 ((rd_T29 l0_5 x8_2).f14), .int .i64 ((rd_T29 l0_5 x8_2).f15), .string ((rd_T29 l0_5 x8_2).f16), .int .i64 ((rd_T29 l0_5 x8_2).f17), .int .i64 ((rd_T29 l0_5 x8_2).f18), .string ((rd_T29 l0_5 x8_2).f19)] 29 (0, 0))) ∧ (w'.heap[s_]? = some (.cells #[.int .i64 0, .int .i64 0, .string (⟨#[]⟩ : ByteArray), .string (⟨#[]⟩ : ByteArray), .string (⟨#[]⟩ : ByteArray), .int .i64 0, .int .i64 0, .int .i64 0, .int .i64 0, .bool false, .int .i64 0, .int .i64 0, .int .i64 0, .string (⟨#[]⟩ : ByteArray), .int .i64 0, .int .i64 0, .string (⟨#[]⟩ : ByteArray), .int .i64 0, .int .i64 0, .string (⟨#[]⟩ : ByteArray)] 29 (0, 0))) ∧ (w.heap.size ≤ s_) ∧ (w.heap.size ≤ s_) ∧ (gb402 ≠ s_) ∧ (s_ ≠ gb402) ∧ (gb410 ≠ s_) ∧ (s_ ≠ gb410) ∧ (Below w.heap.size w w')) ?_ ?_
  rotate_left
  ·intro hCont
   refine two_ (i := 5) (j := 9) (Ni := some 94) (Nj := some 13) #[true, true, true, true, true, true, false, false, false, false, false, false] #[true, true, true, true, true, false, false, false, false, true, false, false] rfl rfl rfl rfl (two_of HT_.out (by kernel_rfl)) (by decide) (by decide) (fun K hK => ?_) (fun K hK => ?_)
   ·skip
    refine goes_ Try.func17 (by kernel_rfl) rfl #[.agg #[.int .i64 a0_0, .int .i64 a0_1, .int .i64 a0_2, .int .i64 a0_3, .slice A0_4 l0_4.length c0_4, .slice (some ad409) l0_5.length c0_5], .int .i64 (rd t406 x12_6)] (by rfl) rfl rfl ca ?_
    with_reducible refine (newsreelref15_Ep.calls _ _ _ _ _ _ _ _ _ _ _ _ _ _ _ _ _ _ _ _ _ _ _ _ _ _ _ _ _ _ _ _ _ _ ?side1 ?side2 ?side3 ?side4 A57.out).mono ?_
    (case side1 => exact cz HR0_4.out HB.out)
    (case side2 => exact HC0_4.out)
    (case side3 => exact cz HR0_5.out HB.out)
    (case side4 => exact HC0_5.out)
    rintro e w62 ⟨rfl, hb⟩
    have hbk_w62 := mkA hb
    have HS6_ := hs_ hb hHeld.2.2.2.2.2.2
    refine ⟨_, rfl, ?_⟩
    have n0_ := mkA (Kd.R_below (Kd.R_y HO_5.out) hb)
    have n1_ := mkA (blk_below (blk_y BK402.out) hb)
    have n2_ := mkA (blk_below (blk_y BK410.out) hb)
    have n3_ := mkA (below_step (below_y HB.out) hb)
    clear HO_5 BK402 BK410 HB
    have HO_5 := n0_
    have BK402 := n1_
    have BK410 := n2_
    have HB := n3_
    clear n0_ n1_ n2_ n3_
    (try clear hb)
    (try clear hb2)
    (try clear hk)
    (try clear hi)
    refine hK.out _ _ ⟨(blk_cell BK402.out 0).trans rfl, (blk_cell BK402.out 1).trans rfl, (blk_cell BK402.out 2).trans rfl, (blk_cell BK402.out 3).trans rfl, (blk_cell BK402.out 4).trans rfl, (blk_cell BK402.out 5).trans rfl, HS6_⟩ (fun hHeld => ?_)
    clear hK K
    refine norm_ (a' := ?_) ?_ ?_
    rotate_left
    ·show Act.put _ (some 94) _ = _
     simp only [Act.put, sA, s0, sS, i64_w, i32_w]
     rfl
    refine pu 6 88 HT_ ?_
    refine pu 7 95 HT_ ?_
    refine pu 8 96 HT_ ?_
    refine one_ (i := 9) (N := some 13) #[true, true, true, true, true, true, true, true, true, true, false, false] rfl rfl (one_of HT_.out (by kernel_rfl)) (by decide) (fun K hK => ?_)
    refine box_step ?hg (N := 13) ?hd (cs := #[.int .i64 0, .int .i64 0, .string (⟨#[]⟩ : ByteArray), .string (⟨#[]⟩ : ByteArray), .string (⟨#[]⟩ : ByteArray), .int .i64 0, .int .i64 0, .int .i64 0, .int .i64 0, .bool false, .int .i64 0, .int .i64 0, .int .i64 0, .string (⟨#[]⟩ : ByteArray), .int .i64 0, .int .i64 0, .string (⟨#[]⟩ : ByteArray), .int .i64 0, .int .i64 0, .string (⟨#[]⟩ : ByteArray)]) (t := 29) ?hr ?_; (case hd => rfl); (case hg => rfl); (case hr => first | (go_simp; done) | (go_simp; rfl))
    intro gb436 hg w63 hbox hb
    have HS6_ := hs_ hb hHeld.2.2.2.2.2.2
    have n0_ := mkA (Kd.R_below (Kd.R_y HO_5.out) hb)
    have n1_ := mkA (blk_below (blk_y BK402.out) hb)
    have n2_ := mkA (blk_below (blk_y BK410.out) hb)
    have n3_ := mkA (below_step (below_y HB.out) hb)
    have n4_ := mkA (hbox)
    have n5_ := mkA ((gz hg HB.out : w.heap.size ≤ gb436))
    have n6_ := mkA ((gz hg HB.out : w.heap.size ≤ gb436))
    have n7_ := mkA ((gn hg BK402.out : gb402 ≠ gb436))
    have n8_ := mkA ((gm hg BK402.out : gb436 ≠ gb402))
    have n9_ := mkA ((gn hg BK410.out : gb410 ≠ gb436))
    have n10_ := mkA ((gm hg BK410.out : gb436 ≠ gb410))
    clear HO_5 BK402 BK410 HB
    have HO_5 := n0_
    have BK402 := n1_
    have BK410 := n2_
    have HB := n3_
    have BK436 := n4_
    have GW436 := n5_
    have GE436 := n6_
    have NB402_436 := n7_
    have NB436_402 := n8_
    have NB410_436 := n9_
    have NB436_410 := n10_
    clear n0_ n1_ n2_ n3_ n4_ n5_ n6_ n7_ n8_ n9_ n10_ hb hbox hg
    refine hK.out _ _ ⟨(blk_cell BK402.out 0).trans rfl, (blk_cell BK402.out 1).trans rfl, (blk_cell BK402.out 2).trans rfl, (blk_cell BK402.out 3).trans rfl, (blk_cell BK402.out 4).trans rfl, (blk_cell BK402.out 5).trans rfl, HS6_⟩ (fun hHeld => ?_)
    clear hK K
    refine norm_ (a' := ?_) ?_ ?_
    rotate_left
    ·show Act.put _ (some 13) _ = _
     simp only [Act.put, sA, s0, sS, i64_w, i32_w]
     rfl
    exact norm_ (by simp only [putAll, Act.put, sA, s0, sS]) (hCont (gb436) _ ⟨hHeld, (Kd.R_y HO_5.out), (blk_y BK402.out), (blk_y BK410.out), (blk_y BK436.out), GW436.out, GE436.out, NB402_436.out, NB436_402.out, NB410_436.out, NB436_410.out, (below_y HB.out)⟩)
   ·skip
    refine box_step ?hg (N := 13) ?hd (cs := #[.int .i64 0, .int .i64 0, .string (⟨#[]⟩ : ByteArray), .string (⟨#[]⟩ : ByteArray), .string (⟨#[]⟩ : ByteArray), .int .i64 0, .int .i64 0, .int .i64 0, .int .i64 0, .bool false, .int .i64 0, .int .i64 0, .int .i64 0, .string (⟨#[]⟩ : ByteArray), .int .i64 0, .int .i64 0, .string (⟨#[]⟩ : ByteArray), .int .i64 0, .int .i64 0, .string (⟨#[]⟩ : ByteArray)]) (t := 29) ?hr ?_; (case hd => rfl); (case hg => rfl); (case hr => first | (go_simp; done) | (go_simp; rfl))
    intro gb436 hg w62 hbox hb
    have HS6_ := hs_ hb hHeld.2.2.2.2.2.2
    have n0_ := mkA (Kd.R_below (Kd.R_y HO_5.out) hb)
    have n1_ := mkA (blk_below (blk_y BK402.out) hb)
    have n2_ := mkA (blk_below (blk_y BK410.out) hb)
    have n3_ := mkA (below_step (below_y HB.out) hb)
    have n4_ := mkA (hbox)
    have n5_ := mkA ((gz hg HB.out : w.heap.size ≤ gb436))
    have n6_ := mkA ((gz hg HB.out : w.heap.size ≤ gb436))
    have n7_ := mkA ((gn hg BK402.out : gb402 ≠ gb436))
    have n8_ := mkA ((gm hg BK402.out : gb436 ≠ gb402))
    have n9_ := mkA ((gn hg BK410.out : gb410 ≠ gb436))
    have n10_ := mkA ((gm hg BK410.out : gb436 ≠ gb410))
    clear HO_5 BK402 BK410 HB
    have HO_5 := n0_
    have BK402 := n1_
    have BK410 := n2_
    have HB := n3_
    have BK436 := n4_
    have GW436 := n5_
    have GE436 := n6_
    have NB402_436 := n7_
    have NB436_402 := n8_
    have NB410_436 := n9_
    have NB436_410 := n10_
    clear n0_ n1_ n2_ n3_ n4_ n5_ n6_ n7_ n8_ n9_ n10_ hb hbox hg
    refine hK.out _ _ ⟨(blk_cell BK402.out 0).trans rfl, (blk_cell BK402.out 1).trans rfl, (blk_cell BK402.out 2).trans rfl, (blk_cell BK402.out 3).trans rfl, (blk_cell BK402.out 4).trans rfl, (blk_cell BK402.out 5).trans rfl, HS6_⟩ (fun hHeld => ?_)
    clear hK K
    refine norm_ (a' := ?_) ?_ ?_
    rotate_left
    ·show Act.put _ (some 13) _ = _
     simp only [Act.put, sA, s0, sS, i64_w, i32_w]
     rfl
    refine one_ (i := 5) (N := some 94) #[true, true, true, true, true, true, false, false, false, true, false, false] rfl rfl (one_of HT_.out (by kernel_rfl)) (by decide) (fun K hK => ?_)
    refine goes_ Try.func17 (by kernel_rfl) rfl #[.agg #[.int .i64 a0_0, .int .i64 a0_1, .int .i64 a0_2, .int .i64 a0_3, .slice A0_4 l0_4.length c0_4, .slice (some ad409) l0_5.length c0_5], .int .i64 (rd t406 x12_6)] (by rfl) rfl rfl ca ?_
    with_reducible refine (newsreelref15_Ep.calls _ _ _ _ _ _ _ _ _ _ _ _ _ _ _ _ _ _ _ _ _ _ _ _ _ _ _ _ _ _ _ _ _ _ ?side1 ?side2 ?side3 ?side4 A57.out).mono ?_
    (case side1 => exact cz HR0_4.out HB.out)
    (case side2 => exact HC0_4.out)
    (case side3 => exact cz HR0_5.out HB.out)
    (case side4 => exact HC0_5.out)
    rintro e w63 ⟨rfl, hb⟩
    have hbk_w63 := mkA hb
    have HS6_ := hs_ hb hHeld.2.2.2.2.2.2
    refine ⟨_, rfl, ?_⟩
    have n0_ := mkA (Kd.R_below (Kd.R_y HO_5.out) hb)
    have n1_ := mkA (blk_below (blk_y BK402.out) hb)
    have n2_ := mkA (blk_below (blk_y BK410.out) hb)
    have n3_ := mkA (blk_below (g := gb436) (o := .cells #[.int .i64 0, .int .i64 0, .string (⟨#[]⟩ : ByteArray), .string (⟨#[]⟩ : ByteArray), .string (⟨#[]⟩ : ByteArray), .int .i64 0, .int .i64 0, .int .i64 0, .int .i64 0, .bool false, .int .i64 0, .int .i64 0, .int .i64 0, .string (⟨#[]⟩ : ByteArray), .int .i64 0, .int .i64 0, .string (⟨#[]⟩ : ByteArray), .int .i64 0, .int .i64 0, .string (⟨#[]⟩ : ByteArray)] 29 (0, 0)) (blk_y BK436.out) hb)
    have n4_ := mkA (below_step (below_y HB.out) hb)
    clear HO_5 BK402 BK410 BK436 HB
    have HO_5 := n0_
    have BK402 := n1_
    have BK410 := n2_
    have BK436 := n3_
    have HB := n4_
    clear n0_ n1_ n2_ n3_ n4_
    (try clear hb)
    (try clear hb2)
    (try clear hk)
    (try clear hi)
    refine hK.out _ _ ⟨(blk_cell BK402.out 0).trans rfl, (blk_cell BK402.out 1).trans rfl, (blk_cell BK402.out 2).trans rfl, (blk_cell BK402.out 3).trans rfl, (blk_cell BK402.out 4).trans rfl, (blk_cell BK402.out 5).trans rfl, HS6_⟩ (fun hHeld => ?_)
    clear hK K
    refine norm_ (a' := ?_) ?_ ?_
    rotate_left
    ·show Act.put _ (some 94) _ = _
     simp only [Act.put, sA, s0, sS, i64_w, i32_w]
     rfl
    refine pu 6 88 HT_ ?_
    refine pu 7 95 HT_ ?_
    refine pu 8 96 HT_ ?_
    exact norm_ (by simp only [putAll, Act.put, sA, s0, sS]) (hCont (gb436) _ ⟨hHeld, (Kd.R_y HO_5.out), (blk_y BK402.out), (blk_y BK410.out), (blk_y BK436.out), GW436.out, GE436.out, NB402_436.out, NB436_402.out, NB410_436.out, NB436_410.out, (below_y HB.out)⟩)
  rintro gb436 w64 ⟨hS_, h0_, h1_, h2_, h3_, h4_, h5_, h6_, h7_, h8_, h9_, h10_⟩
  have n0_ : Aside0 (Kd.R (Kd.int .i64) 3 w64 w.heap.size (fun _ => True) (.slice (some ad414) t406.length co35) t406) := ⟨h0_⟩
  have n1_ : Aside0 (w64.heap[gb402]? = some (.cells #[.int .i64 a0_0, .int .i64 a0_1, .int .i64 a0_2, .int .i64 a0_3, .slice A0_4 l0_4.length c0_4, .slice (some ad409) l0_5.length c0_5] 25 (0, 0))) := ⟨h1_⟩
  have n2_ : Aside0 (w64.heap[gb410]? = some (.cells #[.int .i64 ((rd_T29 l0_5 x8_2).f0), .int .i64 ((rd_T29 l0_5 x8_2).f1), .string ((rd_T29 l0_5 x8_2).f2), .string ((rd_T29 l0_5 x8_2).f3), .string ((rd_T29 l0_5 x8_2).f4), .int .i64 ((rd_T29 l0_5 x8_2).f5), .int .i64 ((rd_T29 l0_5 x8_2).f6), .int .i64 ((rd_T29 l0_5 x8_2).f7), .int .i64 ((rd_T29 l0_5 x8_2).f8), .bool ((rd_T29 l0_5 x8_2).f9), .int .i64 ((rd_T29 l0_5 x8_2).f10), .int .i64 ((rd_T29 l0_5 x8_2).f11), .int .i64 ((rd_T29 l0_5 x8_2).f12), .string ((rd_T29 l0_5 x8_2).f13), .int .i64 ((rd_T29 l0_5 x8_2).f14), .int .i64 ((rd_T29 l0_5 x8_2).f15), .string ((rd_T29 l0_5 x8_2).f16), .int .i64 ((rd_T29 l0_5 x8_2).f17), .int .i64 ((rd_T29 l0_5 x8_2).f18), .string ((rd_T29 l0_5 x8_2).f19)] 29 (0, 0))) := ⟨h2_⟩
  have n3_ : Aside0 (w64.heap[gb436]? = some (.cells #[.int .i64 0, .int .i64 0, .string (⟨#[]⟩ : ByteArray), .string (⟨#[]⟩ : ByteArray), .string (⟨#[]⟩ : ByteArray), .int .i64 0, .int .i64 0, .int .i64 0, .int .i64 0, .bool false, .int .i64 0, .int .i64 0, .int .i64 0, .string (⟨#[]⟩ : ByteArray), .int .i64 0, .int .i64 0, .string (⟨#[]⟩ : ByteArray), .int .i64 0, .int .i64 0, .string (⟨#[]⟩ : ByteArray)] 29 (0, 0))) := ⟨h3_⟩
  have n4_ : Aside0 (w.heap.size ≤ gb436) := ⟨h4_⟩
  have n5_ : Aside0 (w.heap.size ≤ gb436) := ⟨h5_⟩
  have n6_ : Aside0 (gb402 ≠ gb436) := ⟨h6_⟩
  have n7_ : Aside0 (gb436 ≠ gb402) := ⟨h7_⟩
  have n8_ : Aside0 (gb410 ≠ gb436) := ⟨h8_⟩
  have n9_ : Aside0 (gb436 ≠ gb410) := ⟨h9_⟩
  have n10_ : Aside0 (Below w.heap.size w w64) := ⟨h10_⟩
  clear HO_5 BK402 BK410 HB h0_ h1_ h2_ h3_ h4_ h5_ h6_ h7_ h8_ h9_ h10_
  have HO_5 := n0_
  have BK402 := n1_
  have BK410 := n2_
  have BK436 := n3_
  have GW436 := n4_
  have GE436 := n5_
  have NB402_436 := n6_
  have NB436_402 := n7_
  have NB410_436 := n8_
  have NB436_410 := n9_
  have HB := n10_
  clear n0_ n1_ n2_ n3_ n4_ n5_ n6_ n7_ n8_ n9_ n10_
  have hHeld : w64.cell? ⟨gb402, 0, none⟩ = some (.int .i64 a0_0) ∧ w64.cell? ⟨gb402, 1, none⟩ = some (.int .i64 a0_1) ∧ w64.cell? ⟨gb402, 2, none⟩ = some (.int .i64 a0_2) ∧ w64.cell? ⟨gb402, 3, none⟩ = some (.int .i64 a0_3) ∧ w64.cell? ⟨gb402, 4, none⟩ = some (.slice A0_4 l0_4.length c0_4) ∧ w64.cell? ⟨gb402, 5, none⟩ = some (.slice (some ad409) l0_5.length c0_5) ∧ w64.cell? (ad414.add (x12_6).toNat) = some (.int .i64 (rd t406 x12_6)) := hS_
  refine norm_ (a' := ?_) ?_ ?_
  rotate_left
  ·simp only [putAll, Act.put, sA, s0, sS]
   rfl
  refine one_ (i := 10) (N := none) #[true, true, true, true, true, true, true, true, true, true, true, false] rfl rfl (one_of HT_.out (by kernel_rfl)) (by decide) (fun K hK => ?_)
  refine vst_ (g := gb436) (cells := #[.int .i64 t415, .int .i64 t416, .string t417, .string t418, .string t419, .int .i64 t420, .int .i64 t421, .int .i64 t422, .int .i64 t423, .bool t424, .int .i64 t425, .int .i64 t426, .int .i64 t427, .string t428, .int .i64 t429, .int .i64 t430, .string t431, .int .i64 t432, .int .i64 t433, .string t434]) (by rfl) rfl ⟨_, _, rfl, (by first | (with_reducible rfl) | (go_simp; done) | rfl | (go_simp; rfl)), (by first | (with_reducible rfl) | (go_simp; done) | rfl | (go_simp; rfl))⟩ (blk_y BK436.out) (by kernel_rfl) rfl (by first | rfl | simp [Value.oneCell']) ?_
  intro w9436 hw hbk
  have n0_ := mkA (R_setv HO_5.out (blk_y BK436.out) hw)
  have n1_ := mkA (blk_setv hw NB402_436.out BK402.out)
  have n2_ := mkA (blk_setv hw NB410_436.out BK410.out)
  have n3_ := mkA (hbk)
  have n4_ := mkA (below_setv hw GE436.out HB.out)
  clear HO_5 BK402 BK410 BK436 HB
  have HO_5 := n0_
  have BK402 := n1_
  have BK410 := n2_
  have BK436 := n3_
  have HB := n4_
  clear n0_ n1_ n2_ n3_ n4_
  refine hK.out _ _ ⟨((by have hx := NB402_436.out; exact fR hw hx (hHeld.1))), ((by have hx := NB402_436.out; exact fR hw hx (hHeld.2.1))), ((by have hx := NB402_436.out; exact fR hw hx (hHeld.2.2.1))), ((by have hx := NB402_436.out; exact fR hw hx (hHeld.2.2.2.1))), ((by have hx := NB402_436.out; exact fR hw hx (hHeld.2.2.2.2.1))), ((by have hx := NB402_436.out; exact fR hw hx (hHeld.2.2.2.2.2.1))), ((by have hx := Kd.own_blk (Kd.R_ne HO_5.out BK436.out (by decide)); first | exact fR hw hx (hHeld.2.2.2.2.2.2) | (have hy := fun n => (show (Addr.add _ n).block ≠ _ from by rw [add_block]; exact hx); exact fR hw (hy _) (hHeld.2.2.2.2.2.2))))⟩ (fun hHeld => ?_)
  clear hw hbk
  clear hK K
  refine pu 11 14 HT_ ?_
  refine done_ (done_of HT_.out (by kernel_rfl)) ?_
  have hnb85 := NB436_402.out
  have hnc85 := NB402_436.out
  have hnb86 := NB436_410.out
  have hnc86 := NB410_436.out
  have hcz87_0 := bc BK436.out 0 (.int .i64 t415) rfl
  have hcz87_1 := bc BK436.out 1 (.int .i64 t416) rfl
  have hcz87_2 := bc BK436.out 2 (.string t417) rfl
  have hcz87_3 := bc BK436.out 3 (.string t418) rfl
  have hcz87_4 := bc BK436.out 4 (.string t419) rfl
  have hcz87_5 := bc BK436.out 5 (.int .i64 t420) rfl
  have hcz87_6 := bc BK436.out 6 (.int .i64 t421) rfl
  have hcz87_7 := bc BK436.out 7 (.int .i64 t422) rfl
  have hcz87_8 := bc BK436.out 8 (.int .i64 t423) rfl
  have hcz87_9 := bc BK436.out 9 (.bool t424) rfl
  have hcz87_10 := bc BK436.out 10 (.int .i64 t425) rfl
  have hcz87_11 := bc BK436.out 11 (.int .i64 t426) rfl
  have hcz87_12 := bc BK436.out 12 (.int .i64 t427) rfl
  have hcz87_13 := bc BK436.out 13 (.string t428) rfl
  have hcz87_14 := bc BK436.out 14 (.int .i64 t429) rfl
  have hcz87_15 := bc BK436.out 15 (.int .i64 t430) rfl
  have hcz87_16 := bc BK436.out 16 (.string t431) rfl
  have hcz87_17 := bc BK436.out 17 (.int .i64 t432) rfl
  have hcz87_18 := bc BK436.out 18 (.int .i64 t433) rfl
  have hcz87_19 := bc BK436.out 19 (.string t434) rfl
  have hfz87_0 := blk_frozen BK436.out 0
  have hfz87_1 := blk_frozen BK436.out 1
  have hfz87_2 := blk_frozen BK436.out 2
  have hfz87_3 := blk_frozen BK436.out 3
  have hfz87_4 := blk_frozen BK436.out 4
  have hfz87_5 := blk_frozen BK436.out 5
  have hfz87_6 := blk_frozen BK436.out 6
  have hfz87_7 := blk_frozen BK436.out 7
  have hfz87_8 := blk_frozen BK436.out 8
  have hfz87_9 := blk_frozen BK436.out 9
  have hfz87_10 := blk_frozen BK436.out 10
  have hfz87_11 := blk_frozen BK436.out 11
  have hfz87_12 := blk_frozen BK436.out 12
  have hfz87_13 := blk_frozen BK436.out 13
  have hfz87_14 := blk_frozen BK436.out 14
  have hfz87_15 := blk_frozen BK436.out 15
  have hfz87_16 := blk_frozen BK436.out 16
  have hfz87_17 := blk_frozen BK436.out 17
  have hfz87_18 := blk_frozen BK436.out 18
  have hfz87_19 := blk_frozen BK436.out 19
  have hnb88 := NB410_402.out
  have hnc88 := NB402_410.out
  have hcz89_0 := bc BK410.out 0 (.int .i64 ((rd_T29 l0_5 x8_2).f0)) rfl
  have hcz89_1 := bc BK410.out 1 (.int .i64 ((rd_T29 l0_5 x8_2).f1)) rfl
  have hcz89_2 := bc BK410.out 2 (.string ((rd_T29 l0_5 x8_2).f2)) rfl
  have hcz89_3 := bc BK410.out 3 (.string ((rd_T29 l0_5 x8_2).f3)) rfl
  have hcz89_4 := bc BK410.out 4 (.string ((rd_T29 l0_5 x8_2).f4)) rfl
  have hcz89_5 := bc BK410.out 5 (.int .i64 ((rd_T29 l0_5 x8_2).f5)) rfl
  have hcz89_6 := bc BK410.out 6 (.int .i64 ((rd_T29 l0_5 x8_2).f6)) rfl
  have hcz89_7 := bc BK410.out 7 (.int .i64 ((rd_T29 l0_5 x8_2).f7)) rfl
  have hcz89_8 := bc BK410.out 8 (.int .i64 ((rd_T29 l0_5 x8_2).f8)) rfl
  have hcz89_9 := bc BK410.out 9 (.bool ((rd_T29 l0_5 x8_2).f9)) rfl
  have hcz89_10 := bc BK410.out 10 (.int .i64 ((rd_T29 l0_5 x8_2).f10)) rfl
  have hcz89_11 := bc BK410.out 11 (.int .i64 ((rd_T29 l0_5 x8_2).f11)) rfl
  have hcz89_12 := bc BK410.out 12 (.int .i64 ((rd_T29 l0_5 x8_2).f12)) rfl
  have hcz89_13 := bc BK410.out 13 (.string ((rd_T29 l0_5 x8_2).f13)) rfl
  have hcz89_14 := bc BK410.out 14 (.int .i64 ((rd_T29 l0_5 x8_2).f14)) rfl
  have hcz89_15 := bc BK410.out 15 (.int .i64 ((rd_T29 l0_5 x8_2).f15)) rfl
  have hcz89_16 := bc BK410.out 16 (.string ((rd_T29 l0_5 x8_2).f16)) rfl
  have hcz89_17 := bc BK410.out 17 (.int .i64 ((rd_T29 l0_5 x8_2).f17)) rfl
  have hcz89_18 := bc BK410.out 18 (.int .i64 ((rd_T29 l0_5 x8_2).f18)) rfl
  have hcz89_19 := bc BK410.out 19 (.string ((rd_T29 l0_5 x8_2).f19)) rfl
  have hfz89_0 := blk_frozen BK410.out 0
  have hfz89_1 := blk_frozen BK410.out 1
  have hfz89_2 := blk_frozen BK410.out 2
  have hfz89_3 := blk_frozen BK410.out 3
  have hfz89_4 := blk_frozen BK410.out 4
  have hfz89_5 := blk_frozen BK410.out 5
  have hfz89_6 := blk_frozen BK410.out 6
  have hfz89_7 := blk_frozen BK410.out 7
  have hfz89_8 := blk_frozen BK410.out 8
  have hfz89_9 := blk_frozen BK410.out 9
  have hfz89_10 := blk_frozen BK410.out 10
  have hfz89_11 := blk_frozen BK410.out 11
  have hfz89_12 := blk_frozen BK410.out 12
  have hfz89_13 := blk_frozen BK410.out 13
  have hfz89_14 := blk_frozen BK410.out 14
  have hfz89_15 := blk_frozen BK410.out 15
  have hfz89_16 := blk_frozen BK410.out 16
  have hfz89_17 := blk_frozen BK410.out 17
  have hfz89_18 := blk_frozen BK410.out 18
  have hfz89_19 := blk_frozen BK410.out 19
  try go_wp2_with (first | ((with_reducible refine gate_load (t := 29) rfl ?_); refine load_at2 (t := 29) ?hg ?ho (c0 := _) (cs := [_, _, _, _, _, _, _, _, _, _, _, _, _, _, _, _, _, _, _]) Try.underlying29 rfl (by kernel_rfl) hx409_0 ⟨hx409_1, hx409_2, hx409_3, hx409_4, hx409_5, hx409_6, hx409_7, hx409_8, hx409_9, hx409_10, hx409_11, hx409_12, hx409_13, hx409_14, hx409_15, hx409_16, hx409_17, hx409_18, hx409_19, trivial⟩ ?_; (case hg => rfl); (case ho => refine ⟨_, rfl, ?_⟩; first | (with_reducible rfl) | (go_simp; done))) | ((with_reducible refine gate_load (t := 25) rfl ?_); refine load_row3 (t := 25) (g := gb402) ?hg BK402.out ?ho ?hb Try.underlying25 rfl ?hs ?_; (case hg => rfl); (case ho => refine ⟨_, rfl, ?_⟩; first | (with_reducible rfl) | (go_simp; done)); (case hb => (with_reducible repeat (first | refine blk_drewN ?_ _ | refine blk_drew ?_ | refine blk_alloc ?_ _)); with_reducible exact BK402.out); (case hs => kernel_rfl)) | ((with_reducible refine gate_load (t := 29) rfl ?_); refine load_row3 (t := 29) (g := gb410) ?hg BK410.out ?ho ?hb Try.underlying29 rfl ?hs ?_; (case hg => rfl); (case ho => refine ⟨_, rfl, ?_⟩; first | (with_reducible rfl) | (go_simp; done)); (case hb => (with_reducible repeat (first | refine blk_drewN ?_ _ | refine blk_drew ?_ | refine blk_alloc ?_ _)); with_reducible exact BK410.out); (case hs => kernel_rfl)) | ((with_reducible refine gate_load (t := 29) rfl ?_); refine load_row3w_ (t := 29) (g := gb410) ?hg BK410.out ?ho ?hb Try.underlying29 rfl ?hs ?_; (case hg => first | rfl | (go_simp; done) | (simp [Region.wanted, yielded]; done)); (case ho => refine ⟨_, rfl, ?_⟩; first | (with_reducible rfl) | (go_simp; done)); (case hb => (with_reducible repeat (first | refine blk_drewN ?_ _ | refine blk_drew ?_ | refine blk_alloc ?_ _)); with_reducible exact BK410.out); (case hs => kernel_rfl)) | ((with_reducible refine gate_load (t := 29) rfl ?_); refine load_row3 (t := 29) (g := gb436) ?hg BK436.out ?ho ?hb Try.underlying29 rfl ?hs ?_; (case hg => rfl); (case ho => refine ⟨_, rfl, ?_⟩; first | (with_reducible rfl) | (go_simp; done)); (case hb => (with_reducible repeat (first | refine blk_drewN ?_ _ | refine blk_drew ?_ | refine blk_alloc ?_ _)); with_reducible exact BK436.out); (case hs => kernel_rfl)) | ((with_reducible refine gate_load (t := 29) rfl ?_); refine load_row3w_ (t := 29) (g := gb436) ?hg BK436.out ?ho ?hb Try.underlying29 rfl ?hs ?_; (case hg => first | rfl | (go_simp; done) | (simp [Region.wanted, yielded]; done)); (case ho => refine ⟨_, rfl, ?_⟩; first | (with_reducible rfl) | (go_simp; done)); (case hb => (with_reducible repeat (first | refine blk_drewN ?_ _ | refine blk_drew ?_ | refine blk_alloc ?_ _)); with_reducible exact BK436.out); (case hs => kernel_rfl)))
  go_roundg k6
  case measure => have := HJ2.out; have := HK2.out; have := HK3.out; have := HJ33.out; have := HJ41.out; have := HK6.out; omega
  case rel => exact ⟨(wrap64 (x12_6 + 1)), (by first | rfl | (simp; done) | (simp [*]; done)), H', ⟨by have := HJ2.out; have := HK2.out; have := HK3.out; have := HJ33.out; have := HJ41.out; have := HK6.out; omega⟩, ⟨by (with_reducible repeat (first | apply Kd.R_alloc | apply Kd.R_drewN | apply Kd.R_drew)); exact HO_5.out⟩, ⟨by (with_reducible repeat (first | refine blk_drewN ?_ _ | refine blk_drew ?_ | refine blk_alloc ?_ _)); exact BK402.out⟩, ⟨by (with_reducible repeat (first | refine blk_drewN ?_ _ | refine blk_drew ?_ | refine blk_alloc ?_ _)); exact BK410.out⟩, ⟨by repeat (first | (with_reducible first | exact HB.out | apply below_alloc | apply pw_below_drewN | apply below_drew1 | refine below_set ?_ GE402.out | refine below_set ?_ GE410.out | refine below_set ?_ GE436.out) | exact HB.out)⟩⟩

end Go.Proofs.Ytcpojadlnpnbaaa.XRet
