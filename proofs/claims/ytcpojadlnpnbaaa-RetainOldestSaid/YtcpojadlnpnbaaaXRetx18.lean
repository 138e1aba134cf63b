-- By a program of this work (xprint.py) over the translation; Lean checks it.
import Derived.Test.YtcpojadlnpnbaaaXRetx0
import Derived.Test.YtcpojadlnpnbaaaXRetx14
import Derived.Test.YtcpojadlnpnbaaaXRetx17
namespace Go.Proofs.Ytcpojadlnpnbaaa.XRet
open Go.RowKit Go.Proofs.YtcpojadlnpnbaaaW.PrintWords Go.Proofs.YtcpojadlnpnbaaaW.PrintLast Go.Proofs.YtcpojadlnpnbaaaW.PrintMore
attribute [local go_sem] max2_int min2_int max_two min_two max_three min_three max_four min_four   -- for this text's walks alone
set_option linter.unusedVariables false
set_option linter.unusedSimpArgs false

/-! ### api_Ep_33: function 33 -/
mutual
def api_Ep_33.l0 : Nat → List (S29) → Int → Int → Int → Option ((List (S29)))
 | 0, _, _, _, _ => none
 | k + 1, x0, x1, x10, x11 => if x10 < x11 then (if 0 ≤ (wrap64 ((IntKind.u64.wrap (wrap64 (x10 + x11))) / 2)) then (if (wrap64 ((IntKind.u64.wrap (wrap64 (x10 + x11))) / 2)) < (x0.length : Int) then (if 0 ≤ x1 then (if x1 < (x0.length : Int) then ((retain_older.f k ((rd_T29 x0 (wrap64 ((IntKind.u64.wrap (wrap64 (x10 + x11))) / 2))).f0) ((rd_T29 x0 (wrap64 ((IntKind.u64.wrap (wrap64 (x10 + x11))) / 2))).f1) ((rd_T29 x0 (wrap64 ((IntKind.u64.wrap (wrap64 (x10 + x11))) / 2))).f2) ((rd_T29 x0 (wrap64 ((IntKind.u64.wrap (wrap64 (x10 + x11))) / 2))).f3) ((rd_T29 x0 (wrap64 ((IntKind.u64.wrap (wrap64 (x10 + x11))) / 2))).f4) ((rd_T29 x0 (wrap64 ((IntKind.u64.wrap (wrap64 (x10 + x11))) / 2))).f5) ((rd_T29 x0 (wrap64 ((IntKind.u64.wrap (wrap64 (x10 + x11))) / 2))).f6) ((rd_T29 x0 (wrap64 ((IntKind.u64.wrap (wrap64 (x10 + x11))) / 2))).f7) ((rd_T29 x0 (wrap64 ((IntKind.u64.wrap (wrap64 (x10 + x11))) / 2))).f8) ((rd_T29 x0 (wrap64 ((IntKind.u64.wrap (wrap64 (x10 + x11))) / 2))).f9) ((rd_T29 x0 (wrap64 ((IntKind.u64.wrap (wrap64 (x10 + x11))) / 2))).f10) ((rd_T29 x0 (wrap64 ((IntKind.u64.wrap (wrap64 (x10 + x11))) / 2))).f11) ((rd_T29 x0 (wrap64 ((IntKind.u64.wrap (wrap64 (x10 + x11))) / 2))).f12) ((rd_T29 x0 (wrap64 ((IntKind.u64.wrap (wrap64 (x10 + x11))) / 2))).f13) ((rd_T29 x0 (wrap64 ((IntKind.u64.wrap (wrap64 (x10 + x11))) / 2))).f14) ((rd_T29 x0 (wrap64 ((IntKind.u64.wrap (wrap64 (x10 + x11))) / 2))).f15) ((rd_T29 x0 (wrap64 ((IntKind.u64.wrap (wrap64 (x10 + x11))) / 2))).f16) ((rd_T29 x0 (wrap64 ((IntKind.u64.wrap (wrap64 (x10 + x11))) / 2))).f17) ((rd_T29 x0 (wrap64 ((IntKind.u64.wrap (wrap64 (x10 + x11))) / 2))).f18) ((rd_T29 x0 (wrap64 ((IntKind.u64.wrap (wrap64 (x10 + x11))) / 2))).f19) ((rd_T29 x0 x1).f0) ((rd_T29 x0 x1).f1) ((rd_T29 x0 x1).f2) ((rd_T29 x0 x1).f3) ((rd_T29 x0 x1).f4) ((rd_T29 x0 x1).f5) ((rd_T29 x0 x1).f6) ((rd_T29 x0 x1).f7) ((rd_T29 x0 x1).f8) ((rd_T29 x0 x1).f9) ((rd_T29 x0 x1).f10) ((rd_T29 x0 x1).f11) ((rd_T29 x0 x1).f12) ((rd_T29 x0 x1).f13) ((rd_T29 x0 x1).f14) ((rd_T29 x0 x1).f15) ((rd_T29 x0 x1).f16) ((rd_T29 x0 x1).f17) ((rd_T29 x0 x1).f18) ((rd_T29 x0 x1).f19)).bind fun t143 => (if t143 < 0 then (api_Ep_33.l0 k x0 x1 (wrap64 ((wrap64 ((IntKind.u64.wrap (wrap64 (x10 + x11))) / 2)) + 1)) x11) else (api_Ep_33.l0 k x0 x1 x10 (wrap64 ((IntKind.u64.wrap (wrap64 (x10 + x11))) / 2))))) else (none)) else (none)) else (none)) else (none)) else (api_Ep_33.l1 k x0 x10 x1)
def api_Ep_33.l1 : Nat → List (S29) → Int → Int → Option ((List (S29)))
 | 0, _, _, _ => none
 | k + 1, x0, x10, x13 => if x13 < (wrap64 (x10 - 1)) then (if 0 ≤ (wrap64 (x13 + 1)) then (if (wrap64 (x13 + 1)) < (x0.length : Int) then (if 0 ≤ x13 then (if x13 < (x0.length : Int) then (api_Ep_33.l1 k ((x0.set (x13 : Int).toNat (⟨(rd_T29 x0 (wrap64 (x13 + 1))).f0, (rd_T29 x0 (wrap64 (x13 + 1))).f1, (rd_T29 x0 (wrap64 (x13 + 1))).f2, (rd_T29 x0 (wrap64 (x13 + 1))).f3, (rd_T29 x0 (wrap64 (x13 + 1))).f4, (rd_T29 x0 (wrap64 (x13 + 1))).f5, (rd_T29 x0 (wrap64 (x13 + 1))).f6, (rd_T29 x0 (wrap64 (x13 + 1))).f7, (rd_T29 x0 (wrap64 (x13 + 1))).f8, (rd_T29 x0 (wrap64 (x13 + 1))).f9, (rd_T29 x0 (wrap64 (x13 + 1))).f10, (rd_T29 x0 (wrap64 (x13 + 1))).f11, (rd_T29 x0 (wrap64 (x13 + 1))).f12, (rd_T29 x0 (wrap64 (x13 + 1))).f13, (rd_T29 x0 (wrap64 (x13 + 1))).f14, (rd_T29 x0 (wrap64 (x13 + 1))).f15, (rd_T29 x0 (wrap64 (x13 + 1))).f16, (rd_T29 x0 (wrap64 (x13 + 1))).f17, (rd_T29 x0 (wrap64 (x13 + 1))).f18, (rd_T29 x0 (wrap64 (x13 + 1))).f19⟩ : S29)).set ((wrap64 (x13 + 1)) : Int).toNat (⟨(rd_T29 x0 x13).f0, (rd_T29 x0 x13).f1, (rd_T29 x0 x13).f2, (rd_T29 x0 x13).f3, (rd_T29 x0 x13).f4, (rd_T29 x0 x13).f5, (rd_T29 x0 x13).f6, (rd_T29 x0 x13).f7, (rd_T29 x0 x13).f8, (rd_T29 x0 x13).f9, (rd_T29 x0 x13).f10, (rd_T29 x0 x13).f11, (rd_T29 x0 x13).f12, (rd_T29 x0 x13).f13, (rd_T29 x0 x13).f14, (rd_T29 x0 x13).f15, (rd_T29 x0 x13).f16, (rd_T29 x0 x13).f17, (rd_T29 x0 x13).f18, (rd_T29 x0 x13).f19⟩ : S29)) x10 (wrap64 (x13 + 1))) else (none)) else (none)) else (none)) else (none)) else (some x0)
def api_Ep_33.l2 : Nat → List (S29) → Int → Int → Int → Option ((List (S29)))
 | 0, _, _, _, _ => none
 | k + 1, x0, x2, x14, x15 => if x14 < x15 then (if 0 ≤ x2 then (if x2 < (x0.length : Int) then (if 0 ≤ (wrap64 ((IntKind.u64.wrap (wrap64 (x14 + x15))) / 2)) then (if (wrap64 ((IntKind.u64.wrap (wrap64 (x14 + x15))) / 2)) < (x0.length : Int) then ((retain_older.f k ((rd_T29 x0 x2).f0) ((rd_T29 x0 x2).f1) ((rd_T29 x0 x2).f2) ((rd_T29 x0 x2).f3) ((rd_T29 x0 x2).f4) ((rd_T29 x0 x2).f5) ((rd_T29 x0 x2).f6) ((rd_T29 x0 x2).f7) ((rd_T29 x0 x2).f8) ((rd_T29 x0 x2).f9) ((rd_T29 x0 x2).f10) ((rd_T29 x0 x2).f11) ((rd_T29 x0 x2).f12) ((rd_T29 x0 x2).f13) ((rd_T29 x0 x2).f14) ((rd_T29 x0 x2).f15) ((rd_T29 x0 x2).f16) ((rd_T29 x0 x2).f17) ((rd_T29 x0 x2).f18) ((rd_T29 x0 x2).f19) ((rd_T29 x0 (wrap64 ((IntKind.u64.wrap (wrap64 (x14 + x15))) / 2))).f0) ((rd_T29 x0 (wrap64 ((IntKind.u64.wrap (wrap64 (x14 + x15))) / 2))).f1) ((rd_T29 x0 (wrap64 ((IntKind.u64.wrap (wrap64 (x14 + x15))) / 2))).f2) ((rd_T29 x0 (wrap64 ((IntKind.u64.wrap (wrap64 (x14 + x15))) / 2))).f3) ((rd_T29 x0 (wrap64 ((IntKind.u64.wrap (wrap64 (x14 + x15))) / 2))).f4) ((rd_T29 x0 (wrap64 ((IntKind.u64.wrap (wrap64 (x14 + x15))) / 2))).f5) ((rd_T29 x0 (wrap64 ((IntKind.u64.wrap (wrap64 (x14 + x15))) / 2))).f6) ((rd_T29 x0 (wrap64 ((IntKind.u64.wrap (wrap64 (x14 + x15))) / 2))).f7) ((rd_T29 x0 (wrap64 ((IntKind.u64.wrap (wrap64 (x14 + x15))) / 2))).f8) ((rd_T29 x0 (wrap64 ((IntKind.u64.wrap (wrap64 (x14 + x15))) / 2))).f9) ((rd_T29 x0 (wrap64 ((IntKind.u64.wrap (wrap64 (x14 + x15))) / 2))).f10) ((rd_T29 x0 (wrap64 ((IntKind.u64.wrap (wrap64 (x14 + x15))) / 2))).f11) ((rd_T29 x0 (wrap64 ((IntKind.u64.wrap (wrap64 (x14 + x15))) / 2))).f12) ((rd_T29 x0 (wrap64 ((IntKind.u64.wrap (wrap64 (x14 + x15))) / 2))).f13) ((rd_T29 x0 (wrap64 ((IntKind.u64.wrap (wrap64 (x14 + x15))) / 2))).f14) ((rd_T29 x0 (wrap64 ((IntKind.u64.wrap (wrap64 (x14 + x15))) / 2))).f15) ((rd_T29 x0 (wrap64 ((IntKind.u64.wrap (wrap64 (x14 + x15))) / 2))).f16) ((rd_T29 x0 (wrap64 ((IntKind.u64.wrap (wrap64 (x14 + x15))) / 2))).f17) ((rd_T29 x0 (wrap64 ((IntKind.u64.wrap (wrap64 (x14 + x15))) / 2))).f18) ((rd_T29 x0 (wrap64 ((IntKind.u64.wrap (wrap64 (x14 + x15))) / 2))).f19)).bind fun t150 => (if t150 < 0 then (api_Ep_33.l2 k x0 x2 x14 (wrap64 ((IntKind.u64.wrap (wrap64 (x14 + x15))) / 2))) else (api_Ep_33.l2 k x0 x2 (wrap64 ((wrap64 ((IntKind.u64.wrap (wrap64 (x14 + x15))) / 2)) + 1)) x15))) else (none)) else (none)) else (none)) else (none)) else (api_Ep_33.l3 k x0 x14 x2)
def api_Ep_33.l3 : Nat → List (S29) → Int → Int → Option ((List (S29)))
 | 0, _, _, _ => none
 | k + 1, x0, x14, x17 => if x17 > x14 then (if 0 ≤ (wrap64 (x17 - 1)) then (if (wrap64 (x17 - 1)) < (x0.length : Int) then (if 0 ≤ x17 then (if x17 < (x0.length : Int) then (api_Ep_33.l3 k ((x0.set (x17 : Int).toNat (⟨(rd_T29 x0 (wrap64 (x17 - 1))).f0, (rd_T29 x0 (wrap64 (x17 - 1))).f1, (rd_T29 x0 (wrap64 (x17 - 1))).f2, (rd_T29 x0 (wrap64 (x17 - 1))).f3, (rd_T29 x0 (wrap64 (x17 - 1))).f4, (rd_T29 x0 (wrap64 (x17 - 1))).f5, (rd_T29 x0 (wrap64 (x17 - 1))).f6, (rd_T29 x0 (wrap64 (x17 - 1))).f7, (rd_T29 x0 (wrap64 (x17 - 1))).f8, (rd_T29 x0 (wrap64 (x17 - 1))).f9, (rd_T29 x0 (wrap64 (x17 - 1))).f10, (rd_T29 x0 (wrap64 (x17 - 1))).f11, (rd_T29 x0 (wrap64 (x17 - 1))).f12, (rd_T29 x0 (wrap64 (x17 - 1))).f13, (rd_T29 x0 (wrap64 (x17 - 1))).f14, (rd_T29 x0 (wrap64 (x17 - 1))).f15, (rd_T29 x0 (wrap64 (x17 - 1))).f16, (rd_T29 x0 (wrap64 (x17 - 1))).f17, (rd_T29 x0 (wrap64 (x17 - 1))).f18, (rd_T29 x0 (wrap64 (x17 - 1))).f19⟩ : S29)).set ((wrap64 (x17 - 1)) : Int).toNat (⟨(rd_T29 x0 x17).f0, (rd_T29 x0 x17).f1, (rd_T29 x0 x17).f2, (rd_T29 x0 x17).f3, (rd_T29 x0 x17).f4, (rd_T29 x0 x17).f5, (rd_T29 x0 x17).f6, (rd_T29 x0 x17).f7, (rd_T29 x0 x17).f8, (rd_T29 x0 x17).f9, (rd_T29 x0 x17).f10, (rd_T29 x0 x17).f11, (rd_T29 x0 x17).f12, (rd_T29 x0 x17).f13, (rd_T29 x0 x17).f14, (rd_T29 x0 x17).f15, (rd_T29 x0 x17).f16, (rd_T29 x0 x17).f17, (rd_T29 x0 x17).f18, (rd_T29 x0 x17).f19⟩ : S29)) x14 (wrap64 (x17 - 1))) else (none)) else (none)) else (none)) else (none)) else (some x0)
def api_Ep_33.j4 : Nat → List (S29) → Int → Int → Int → Int → Int → Int → Int → Option ((List (S29)))
 | 0, _, _, _, _, _, _, _, _ => none
 | k + 1, x0, x1, x2, x3, x18, x19, x20, x21 => api_Ep_33.l4 k x0 x1 x2 x3 x18 x19 x20 x21 (wrap64 (x19 - 1))
def api_Ep_33.l4 : Nat → List (S29) → Int → Int → Int → Int → Int → Int → Int → Int → Option ((List (S29)))
 | 0, _, _, _, _, _, _, _, _, _ => none
 | k + 1, x0, x1, x2, x3, x18, x19, x20, x21, x22 => if x20 < x21 then (if 0 ≤ (wrap64 (x22 - (wrap64 ((IntKind.u64.wrap (wrap64 (x20 + x21))) / 2)))) then (if (wrap64 (x22 - (wrap64 ((IntKind.u64.wrap (wrap64 (x20 + x21))) / 2)))) < (x0.length : Int) then (if 0 ≤ (wrap64 ((IntKind.u64.wrap (wrap64 (x20 + x21))) / 2)) then (if (wrap64 ((IntKind.u64.wrap (wrap64 (x20 + x21))) / 2)) < (x0.length : Int) then ((retain_older.f k ((rd_T29 x0 (wrap64 (x22 - (wrap64 ((IntKind.u64.wrap (wrap64 (x20 + x21))) / 2))))).f0) ((rd_T29 x0 (wrap64 (x22 - (wrap64 ((IntKind.u64.wrap (wrap64 (x20 + x21))) / 2))))).f1) ((rd_T29 x0 (wrap64 (x22 - (wrap64 ((IntKind.u64.wrap (wrap64 (x20 + x21))) / 2))))).f2) ((rd_T29 x0 (wrap64 (x22 - (wrap64 ((IntKind.u64.wrap (wrap64 (x20 + x21))) / 2))))).f3) ((rd_T29 x0 (wrap64 (x22 - (wrap64 ((IntKind.u64.wrap (wrap64 (x20 + x21))) / 2))))).f4) ((rd_T29 x0 (wrap64 (x22 - (wrap64 ((IntKind.u64.wrap (wrap64 (x20 + x21))) / 2))))).f5) ((rd_T29 x0 (wrap64 (x22 - (wrap64 ((IntKind.u64.wrap (wrap64 (x20 + x21))) / 2))))).f6) ((rd_T29 x0 (wrap64 (x22 - (wrap64 ((IntKind.u64.wrap (wrap64 (x20 + x21))) / 2))))).f7) ((rd_T29 x0 (wrap64 (x22 - (wrap64 ((IntKind.u64.wrap (wrap64 (x20 + x21))) / 2))))).f8) ((rd_T29 x0 (wrap64 (x22 - (wrap64 ((IntKind.u64.wrap (wrap64 (x20 + x21))) / 2))))).f9) ((rd_T29 x0 (wrap64 (x22 - (wrap64 ((IntKind.u64.wrap (wrap64 (x20 + x21))) / 2))))).f10) ((rd_T29 x0 (wrap64 (x22 - (wrap64 ((IntKind.u64.wrap (wrap64 (x20 + x21))) / 2))))).f11) ((rd_T29 x0 (wrap64 (x22 - (wrap64 ((IntKind.u64.wrap (wrap64 (x20 + x21))) / 2))))).f12) ((rd_T29 x0 (wrap64 (x22 - (wrap64 ((IntKind.u64.wrap (wrap64 (x20 + x21))) / 2))))).f13) ((rd_T29 x0 (wrap64 (x22 - (wrap64 ((IntKind.u64.wrap (wrap64 (x20 + x21))) / 2))))).f14) ((rd_T29 x0 (wrap64 (x22 - (wrap64 ((IntKind.u64.wrap (wrap64 (x20 + x21))) / 2))))).f15) ((rd_T29 x0 (wrap64 (x22 - (wrap64 ((IntKind.u64.wrap (wrap64 (x20 + x21))) / 2))))).f16) ((rd_T29 x0 (wrap64 (x22 - (wrap64 ((IntKind.u64.wrap (wrap64 (x20 + x21))) / 2))))).f17) ((rd_T29 x0 (wrap64 (x22 - (wrap64 ((IntKind.u64.wrap (wrap64 (x20 + x21))) / 2))))).f18) ((rd_T29 x0 (wrap64 (x22 - (wrap64 ((IntKind.u64.wrap (wrap64 (x20 + x21))) / 2))))).f19) ((rd_T29 x0 (wrap64 ((IntKind.u64.wrap (wrap64 (x20 + x21))) / 2))).f0) ((rd_T29 x0 (wrap64 ((IntKind.u64.wrap (wrap64 (x20 + x21))) / 2))).f1) ((rd_T29 x0 (wrap64 ((IntKind.u64.wrap (wrap64 (x20 + x21))) / 2))).f2) ((rd_T29 x0 (wrap64 ((IntKind.u64.wrap (wrap64 (x20 + x21))) / 2))).f3) ((rd_T29 x0 (wrap64 ((IntKind.u64.wrap (wrap64 (x20 + x21))) / 2))).f4) ((rd_T29 x0 (wrap64 ((IntKind.u64.wrap (wrap64 (x20 + x21))) / 2))).f5) ((rd_T29 x0 (wrap64 ((IntKind.u64.wrap (wrap64 (x20 + x21))) / 2))).f6) ((rd_T29 x0 (wrap64 ((IntKind.u64.wrap (wrap64 (x20 + x21))) / 2))).f7) ((rd_T29 x0 (wrap64 ((IntKind.u64.wrap (wrap64 (x20 + x21))) / 2))).f8) ((rd_T29 x0 (wrap64 ((IntKind.u64.wrap (wrap64 (x20 + x21))) / 2))).f9) ((rd_T29 x0 (wrap64 ((IntKind.u64.wrap (wrap64 (x20 + x21))) / 2))).f10) ((rd_T29 x0 (wrap64 ((IntKind.u64.wrap (wrap64 (x20 + x21))) / 2))).f11) ((rd_T29 x0 (wrap64 ((IntKind.u64.wrap (wrap64 (x20 + x21))) / 2))).f12) ((rd_T29 x0 (wrap64 ((IntKind.u64.wrap (wrap64 (x20 + x21))) / 2))).f13) ((rd_T29 x0 (wrap64 ((IntKind.u64.wrap (wrap64 (x20 + x21))) / 2))).f14) ((rd_T29 x0 (wrap64 ((IntKind.u64.wrap (wrap64 (x20 + x21))) / 2))).f15) ((rd_T29 x0 (wrap64 ((IntKind.u64.wrap (wrap64 (x20 + x21))) / 2))).f16) ((rd_T29 x0 (wrap64 ((IntKind.u64.wrap (wrap64 (x20 + x21))) / 2))).f17) ((rd_T29 x0 (wrap64 ((IntKind.u64.wrap (wrap64 (x20 + x21))) / 2))).f18) ((rd_T29 x0 (wrap64 ((IntKind.u64.wrap (wrap64 (x20 + x21))) / 2))).f19)).bind fun t157 => (if t157 < 0 then (api_Ep_33.l4 k x0 x1 x2 x3 x18 x19 x20 (wrap64 ((IntKind.u64.wrap (wrap64 (x20 + x21))) / 2)) x22) else (api_Ep_33.l4 k x0 x1 x2 x3 x18 x19 (wrap64 ((wrap64 ((IntKind.u64.wrap (wrap64 (x20 + x21))) / 2)) + 1)) x21 x22))) else (none)) else (none)) else (none)) else (none)) else (if x20 < x2 then (api_Ep_33.j6 k x0 x1 x2 x3 x18 x20 (wrap64 (x19 - x20)) (decide (x2 < (wrap64 (x19 - x20))))) else (api_Ep_33.j6 k x0 x1 x2 x3 x18 x20 (wrap64 (x19 - x20)) false))
def api_Ep_33.j6 : Nat → List (S29) → Int → Int → Int → Int → Int → Int → Bool → Option ((List (S29)))
 | 0, _, _, _, _, _, _, _, _ => none
 | k + 1, x0, x1, x2, x3, x18, x20, x24, x185 => if x185 = true then ((api_Ep_36.f k x0 x20 x2 x24).bind fun t158 => (api_Ep_33.j7 k t158 x1 x3 x18 x20 x24)) else (api_Ep_33.j7 k x0 x1 x3 x18 x20 x24)
def api_Ep_33.j7 : Nat → List (S29) → Int → Int → Int → Int → Int → Option ((List (S29)))
 | 0, _, _, _, _, _, _ => none
 | k + 1, x0, x1, x3, x18, x20, x24 => if x1 < x20 then (api_Ep_33.j8 k x0 x1 x3 x18 x20 x24 (decide (x20 < x18))) else (api_Ep_33.j8 k x0 x1 x3 x18 x20 x24 false)
def api_Ep_33.j8 : Nat → List (S29) → Int → Int → Int → Int → Int → Bool → Option ((List (S29)))
 | 0, _, _, _, _, _, _, _ => none
 | k + 1, x0, x1, x3, x18, x20, x24, x199 => if x199 = true then ((api_Ep_33.f k x0 x1 x20 x18).bind fun t159 => (api_Ep_33.j9 k t159 x3 x18 x24)) else (api_Ep_33.j9 k x0 x3 x18 x24)
def api_Ep_33.j9 : Nat → List (S29) → Int → Int → Int → Option ((List (S29)))
 | 0, _, _, _, _ => none
 | k + 1, x0, x3, x18, x24 => if x18 < x24 then (if x24 < x3 then ((api_Ep_33.f k x0 x18 x24 x3).bind fun t160 => (some t160)) else (some x0)) else (some x0)
def api_Ep_33.f : Nat → List (S29) → Int → Int → Int → Option ((List (S29)))
 | 0, _, _, _, _ => none
 | k + 1, l0, a1, a2, a3 => if (wrap64 (a2 - a1)) = 1 then (api_Ep_33.l0 k l0 a1 a2 a3) else (if (wrap64 (a3 - a2)) = 1 then (api_Ep_33.l2 k l0 a2 a1 a2) else (if a2 > (wrap64 ((IntKind.u64.wrap (wrap64 (a1 + a3))) / 2)) then (api_Ep_33.j4 k l0 a1 a2 a3 (wrap64 ((IntKind.u64.wrap (wrap64 (a1 + a3))) / 2)) (wrap64 ((wrap64 ((IntKind.u64.wrap (wrap64 (a1 + a3))) / 2)) + a2)) (wrap64 ((wrap64 ((wrap64 ((IntKind.u64.wrap (wrap64 (a1 + a3))) / 2)) + a2)) - a3)) (wrap64 ((IntKind.u64.wrap (wrap64 (a1 + a3))) / 2))) else (api_Ep_33.j4 k l0 a1 a2 a3 (wrap64 ((IntKind.u64.wrap (wrap64 (a1 + a3))) / 2)) (wrap64 ((wrap64 ((IntKind.u64.wrap (wrap64 (a1 + a3))) / 2)) + a2)) a1 a2)))
end
theorem api_Ep_33.mono_l : ∀ k, (∀ y0 y1 y2 y3, LeO (api_Ep_33.f k y0 y1 y2 y3) (api_Ep_33.f (k + 1) y0 y1 y2 y3)) ∧ (∀ y0 y1 y2 y3, LeO (api_Ep_33.l0 k y0 y1 y2 y3) (api_Ep_33.l0 (k + 1) y0 y1 y2 y3)) ∧ (∀ y0 y1 y2, LeO (api_Ep_33.l1 k y0 y1 y2) (api_Ep_33.l1 (k + 1) y0 y1 y2)) ∧ (∀ y0 y1 y2 y3, LeO (api_Ep_33.l2 k y0 y1 y2 y3) (api_Ep_33.l2 (k + 1) y0 y1 y2 y3)) ∧ (∀ y0 y1 y2, LeO (api_Ep_33.l3 k y0 y1 y2) (api_Ep_33.l3 (k + 1) y0 y1 y2)) ∧ (∀ y0 y1 y2 y3 y4 y5 y6 y7, LeO (api_Ep_33.j4 k y0 y1 y2 y3 y4 y5 y6 y7) (api_Ep_33.j4 (k + 1) y0 y1 y2 y3 y4 y5 y6 y7)) ∧ (∀ y0 y1 y2 y3 y4 y5 y6 y7 y8, LeO (api_Ep_33.l4 k y0 y1 y2 y3 y4 y5 y6 y7 y8) (api_Ep_33.l4 (k + 1) y0 y1 y2 y3 y4 y5 y6 y7 y8)) ∧ (∀ y0 y1 y2 y3 y4 y5 y6 y7, LeO (api_Ep_33.j6 k y0 y1 y2 y3 y4 y5 y6 y7) (api_Ep_33.j6 (k + 1) y0 y1 y2 y3 y4 y5 y6 y7)) ∧ (∀ y0 y1 y2 y3 y4 y5, LeO (api_Ep_33.j7 k y0 y1 y2 y3 y4 y5) (api_Ep_33.j7 (k + 1) y0 y1 y2 y3 y4 y5)) ∧ (∀ y0 y1 y2 y3 y4 y5 y6, LeO (api_Ep_33.j8 k y0 y1 y2 y3 y4 y5 y6) (api_Ep_33.j8 (k + 1) y0 y1 y2 y3 y4 y5 y6)) ∧ (∀ y0 y1 y2 y3, LeO (api_Ep_33.j9 k y0 y1 y2 y3) (api_Ep_33.j9 (k + 1) y0 y1 y2 y3))
 | 0 => ⟨fun _ _ _ _ r h => by simp [api_Ep_33.f] at h, fun _ _ _ _ r h => by simp [api_Ep_33.l0] at h, fun _ _ _ r h => by simp [api_Ep_33.l1] at h, fun _ _ _ _ r h => by simp [api_Ep_33.l2] at h, fun _ _ _ r h => by simp [api_Ep_33.l3] at h, fun _ _ _ _ _ _ _ _ r h => by simp [api_Ep_33.j4] at h, fun _ _ _ _ _ _ _ _ _ r h => by simp [api_Ep_33.l4] at h, fun _ _ _ _ _ _ _ _ r h => by simp [api_Ep_33.j6] at h, fun _ _ _ _ _ _ r h => by simp [api_Ep_33.j7] at h, fun _ _ _ _ _ _ _ r h => by simp [api_Ep_33.j8] at h, fun _ _ _ _ r h => by simp [api_Ep_33.j9] at h⟩
 | k + 1 => by
  obtain ⟨ih0, ih1, ih2, ih3, ih4, ih5, ih6, ih7, ih8, ih9, ih10⟩ := api_Ep_33.mono_l k
  refine ⟨?_, ?_, ?_, ?_, ?_, ?_, ?_, ?_, ?_, ?_, ?_⟩
  ·intro y0 y1 y2 y3
   unfold api_Ep_33.f
   repeat' first
   | (with_reducible exact ih0 _ _ _ _)
   | (with_reducible exact ih1 _ _ _ _)
   | (with_reducible exact ih2 _ _ _)
   | (with_reducible exact ih3 _ _ _ _)
   | (with_reducible exact ih4 _ _ _)
   | (with_reducible exact ih5 _ _ _ _ _ _ _ _)
   | (with_reducible exact ih6 _ _ _ _ _ _ _ _ _)
   | (with_reducible exact ih7 _ _ _ _ _ _ _ _)
   | (with_reducible exact ih8 _ _ _ _ _ _)
   | (with_reducible exact ih9 _ _ _ _ _ _ _)
   | (with_reducible exact ih10 _ _ _ _)
   | (with_reducible exact api_Ep_36.mono _ _ _ _ _)
   | (with_reducible exact retain_older.mono _ _ _ _ _ _ _ _ _ _ _ _ _ _ _ _ _ _ _ _ _ _ _ _ _ _ _ _ _ _ _ _ _ _ _ _ _ _ _ _ _)
   | (with_reducible exact LeO.refl _)
   | (with_reducible exact LeO.none _)
   | (with_reducible refine LeO.ite ?_ ?_)
   | (with_reducible refine LeO.bind ?_ (fun _ => ?_))
   | exact ih0 _ _ _ _
   | exact ih1 _ _ _ _
   | exact ih2 _ _ _
   | exact ih3 _ _ _ _
   | exact ih4 _ _ _
   | exact ih5 _ _ _ _ _ _ _ _
   | exact ih6 _ _ _ _ _ _ _ _ _
   | exact ih7 _ _ _ _ _ _ _ _
   | exact ih8 _ _ _ _ _ _
   | exact ih9 _ _ _ _ _ _ _
   | exact ih10 _ _ _ _
   | exact api_Ep_36.mono _ _ _ _ _
   | exact retain_older.mono _ _ _ _ _ _ _ _ _ _ _ _ _ _ _ _ _ _ _ _ _ _ _ _ _ _ _ _ _ _ _ _ _ _ _ _ _ _ _ _ _
   | exact LeO.none _
   | refine LeO.ite ?_ ?_
   | refine LeO.bind ?_ (fun _ => ?_)
  ·intro y0 y1 y2 y3
   unfold api_Ep_33.l0
   repeat' first
   | (with_reducible exact ih0 _ _ _ _)
   | (with_reducible exact ih1 _ _ _ _)
   | (with_reducible exact ih2 _ _ _)
   | (with_reducible exact ih3 _ _ _ _)
   | (with_reducible exact ih4 _ _ _)
   | (with_reducible exact ih5 _ _ _ _ _ _ _ _)
   | (with_reducible exact ih6 _ _ _ _ _ _ _ _ _)
   | (with_reducible exact ih7 _ _ _ _ _ _ _ _)
   | (with_reducible exact ih8 _ _ _ _ _ _)
   | (with_reducible exact ih9 _ _ _ _ _ _ _)
   | (with_reducible exact ih10 _ _ _ _)
   | (with_reducible exact api_Ep_36.mono _ _ _ _ _)
   | (with_reducible exact retain_older.mono _ _ _ _ _ _ _ _ _ _ _ _ _ _ _ _ _ _ _ _ _ _ _ _ _ _ _ _ _ _ _ _ _ _ _ _ _ _ _ _ _)
   | (with_reducible exact LeO.refl _)
   | (with_reducible exact LeO.none _)
   | (with_reducible refine LeO.ite ?_ ?_)
   | (with_reducible refine LeO.bind ?_ (fun _ => ?_))
   | exact ih0 _ _ _ _
   | exact ih1 _ _ _ _
   | exact ih2 _ _ _
   | exact ih3 _ _ _ _
   | exact ih4 _ _ _
   | exact ih5 _ _ _ _ _ _ _ _
   | exact ih6 _ _ _ _ _ _ _ _ _
   | exact ih7 _ _ _ _ _ _ _ _
   | exact ih8 _ _ _ _ _ _
   | exact ih9 _ _ _ _ _ _ _
   | exact ih10 _ _ _ _
   | exact api_Ep_36.mono _ _ _ _ _
   | exact retain_older.mono _ _ _ _ _ _ _ _ _ _ _ _ _ _ _ _ _ _ _ _ _ _ _ _ _ _ _ _ _ _ _ _ _ _ _ _ _ _ _ _ _
   | exact LeO.none _
   | refine LeO.ite ?_ ?_
   | refine LeO.bind ?_ (fun _ => ?_)
  ·intro y0 y1 y2
   unfold api_Ep_33.l1
   repeat' first
   | (with_reducible exact ih0 _ _ _ _)
   | (with_reducible exact ih1 _ _ _ _)
   | (with_reducible exact ih2 _ _ _)
   | (with_reducible exact ih3 _ _ _ _)
   | (with_reducible exact ih4 _ _ _)
   | (with_reducible exact ih5 _ _ _ _ _ _ _ _)
   | (with_reducible exact ih6 _ _ _ _ _ _ _ _ _)
   | (with_reducible exact ih7 _ _ _ _ _ _ _ _)
   | (with_reducible exact ih8 _ _ _ _ _ _)
   | (with_reducible exact ih9 _ _ _ _ _ _ _)
   | (with_reducible exact ih10 _ _ _ _)
   | (with_reducible exact api_Ep_36.mono _ _ _ _ _)
   | (with_reducible exact retain_older.mono _ _ _ _ _ _ _ _ _ _ _ _ _ _ _ _ _ _ _ _ _ _ _ _ _ _ _ _ _ _ _ _ _ _ _ _ _ _ _ _ _)
   | (with_reducible exact LeO.refl _)
   | (with_reducible exact LeO.none _)
   | (with_reducible refine LeO.ite ?_ ?_)
   | (with_reducible refine LeO.bind ?_ (fun _ => ?_))
   | exact ih0 _ _ _ _
   | exact ih1 _ _ _ _
   | exact ih2 _ _ _
   | exact ih3 _ _ _ _
   | exact ih4 _ _ _
   | exact ih5 _ _ _ _ _ _ _ _
   | exact ih6 _ _ _ _ _ _ _ _ _
   | exact ih7 _ _ _ _ _ _ _ _
   | exact ih8 _ _ _ _ _ _
   | exact ih9 _ _ _ _ _ _ _
   | exact ih10 _ _ _ _
   | exact api_Ep_36.mono _ _ _ _ _
   | exact retain_older.mono _ _ _ _ _ _ _ _ _ _ _ _ _ _ _ _ _ _ _ _ _ _ _ _ _ _ _ _ _ _ _ _ _ _ _ _ _ _ _ _ _
   | exact LeO.none _
   | refine LeO.ite ?_ ?_
   | refine LeO.bind ?_ (fun _ => ?_)
  ·intro y0 y1 y2 y3
   unfold api_Ep_33.l2
   repeat' first
   | (with_reducible exact ih0 _ _ _ _)
   | (with_reducible exact ih1 _ _ _ _)
   | (with_reducible exact ih2 _ _ _)
   | (with_reducible exact ih3 _ _ _ _)
   | (with_reducible exact ih4 _ _ _)
   | (with_reducible exact ih5 _ _ _ _ _ _ _ _)
   | (with_reducible exact ih6 _ _ _ _ _ _ _ _ _)
   | (with_reducible exact ih7 _ _ _ _ _ _ _ _)
   | (with_reducible exact ih8 _ _ _ _ _ _)
   | (with_reducible exact ih9 _ _ _ _ _ _ _)
   | (with_reducible exact ih10 _ _ _ _)
   | (with_reducible exact api_Ep_36.mono _ _ _ _ _)
   | (with_reducible exact retain_older.mono _ _ _ _ _ _ _ _ _ _ _ _ _ _ _ _ _ _ _ _ _ _ _ _ _ _ _ _ _ _ _ _ _ _ _ _ _ _ _ _ _)
   | (with_reducible exact LeO.refl _)
   | (with_reducible exact LeO.none _)
   | (with_reducible refine LeO.ite ?_ ?_)
   | (with_reducible refine LeO.bind ?_ (fun _ => ?_))
   | exact ih0 _ _ _ _
   | exact ih1 _ _ _ _
   | exact ih2 _ _ _
   | exact ih3 _ _ _ _
   | exact ih4 _ _ _
   | exact ih5 _ _ _ _ _ _ _ _
   | exact ih6 _ _ _ _ _ _ _ _ _
   | exact ih7 _ _ _ _ _ _ _ _
   | exact ih8 _ _ _ _ _ _
   | exact ih9 _ _ _ _ _ _ _
   | exact ih10 _ _ _ _
   | exact api_Ep_36.mono _ _ _ _ _
   | exact retain_older.mono _ _ _ _ _ _ _ _ _ _ _ _ _ _ _ _ _ _ _ _ _ _ _ _ _ _ _ _ _ _ _ _ _ _ _ _ _ _ _ _ _
   | exact LeO.none _
   | refine LeO.ite ?_ ?_
   | refine LeO.bind ?_ (fun _ => ?_)
  ·intro y0 y1 y2
   unfold api_Ep_33.l3
   repeat' first
   | (with_reducible exact ih0 _ _ _ _)
   | (with_reducible exact ih1 _ _ _ _)
   | (with_reducible exact ih2 _ _ _)
   | (with_reducible exact ih3 _ _ _ _)
   | (with_reducible exact ih4 _ _ _)
   | (with_reducible exact ih5 _ _ _ _ _ _ _ _)
   | (with_reducible exact ih6 _ _ _ _ _ _ _ _ _)
   | (with_reducible exact ih7 _ _ _ _ _ _ _ _)
   | (with_reducible exact ih8 _ _ _ _ _ _)
   | (with_reducible exact ih9 _ _ _ _ _ _ _)
   | (with_reducible exact ih10 _ _ _ _)
   | (with_reducible exact api_Ep_36.mono _ _ _ _ _)
   | (with_reducible exact retain_older.mono _ _ _ _ _ _ _ _ _ _ _ _ _ _ _ _ _ _ _ _ _ _ _ _ _ _ _ _ _ _ _ _ _ _ _ _ _ _ _ _ _)
   | (with_reducible exact LeO.refl _)
   | (with_reducible exact LeO.none _)
   | (with_reducible refine LeO.ite ?_ ?_)
   | (with_reducible refine LeO.bind ?_ (fun _ => ?_))
   | exact ih0 _ _ _ _
   | exact ih1 _ _ _ _
   | exact ih2 _ _ _
   | exact ih3 _ _ _ _
   | exact ih4 _ _ _
   | exact ih5 _ _ _ _ _ _ _ _
   | exact ih6 _ _ _ _ _ _ _ _ _
   | exact ih7 _ _ _ _ _ _ _ _
   | exact ih8 _ _ _ _ _ _
   | exact ih9 _ _ _ _ _ _ _
   | exact ih10 _ _ _ _
   | exact api_Ep_36.mono _ _ _ _ _
   | exact retain_older.mono _ _ _ _ _ _ _ _ _ _ _ _ _ _ _ _ _ _ _ _ _ _ _ _ _ _ _ _ _ _ _ _ _ _ _ _ _ _ _ _ _
   | exact LeO.none _
   | refine LeO.ite ?_ ?_
   | refine LeO.bind ?_ (fun _ => ?_)
  ·intro y0 y1 y2 y3 y4 y5 y6 y7
   unfold api_Ep_33.j4
   repeat' first
   | (with_reducible exact ih0 _ _ _ _)
   | (with_reducible exact ih1 _ _ _ _)
   | (with_reducible exact ih2 _ _ _)
   | (with_reducible exact ih3 _ _ _ _)
   | (with_reducible exact ih4 _ _ _)
   | (with_reducible exact ih5 _ _ _ _ _ _ _ _)
   | (with_reducible exact ih6 _ _ _ _ _ _ _ _ _)
   | (with_reducible exact ih7 _ _ _ _ _ _ _ _)
   | (with_reducible exact ih8 _ _ _ _ _ _)
   | (with_reducible exact ih9 _ _ _ _ _ _ _)
   | (with_reducible exact ih10 _ _ _ _)
   | (with_reducible exact api_Ep_36.mono _ _ _ _ _)
   | (with_reducible exact retain_older.mono _ _ _ _ _ _ _ _ _ _ _ _ _ _ _ _ _ _ _ _ _ _ _ _ _ _ _ _ _ _ _ _ _ _ _ _ _ _ _ _ _)
   | (with_reducible exact LeO.refl _)
   | (with_reducible exact LeO.none _)
   | (with_reducible refine LeO.ite ?_ ?_)
   | (with_reducible refine LeO.bind ?_ (fun _ => ?_))
   | exact ih0 _ _ _ _
   | exact ih1 _ _ _ _
   | exact ih2 _ _ _
   | exact ih3 _ _ _ _
   | exact ih4 _ _ _
   | exact ih5 _ _ _ _ _ _ _ _
   | exact ih6 _ _ _ _ _ _ _ _ _
   | exact ih7 _ _ _ _ _ _ _ _
   | exact ih8 _ _ _ _ _ _
   | exact ih9 _ _ _ _ _ _ _
   | exact ih10 _ _ _ _
   | exact api_Ep_36.mono _ _ _ _ _
   | exact retain_older.mono _ _ _ _ _ _ _ _ _ _ _ _ _ _ _ _ _ _ _ _ _ _ _ _ _ _ _ _ _ _ _ _ _ _ _ _ _ _ _ _ _
   | exact LeO.none _
   | refine LeO.ite ?_ ?_
   | refine LeO.bind ?_ (fun _ => ?_)
  ·intro y0 y1 y2 y3 y4 y5 y6 y7 y8
   unfold api_Ep_33.l4
   repeat' first
   | (with_reducible exact ih0 _ _ _ _)
   | (with_reducible exact ih1 _ _ _ _)
   | (with_reducible exact ih2 _ _ _)
   | (with_reducible exact ih3 _ _ _ _)
   | (with_reducible exact ih4 _ _ _)
   | (with_reducible exact ih5 _ _ _ _ _ _ _ _)
   | (with_reducible exact ih6 _ _ _ _ _ _ _ _ _)
   | (with_reducible exact ih7 _ _ _ _ _ _ _ _)
   | (with_reducible exact ih8 _ _ _ _ _ _)
   | (with_reducible exact ih9 _ _ _ _ _ _ _)
   | (with_reducible exact ih10 _ _ _ _)
   | (with_reducible exact api_Ep_36.mono _ _ _ _ _)
   | (with_reducible exact retain_older.mono _ _ _ _ _ _ _ _ _ _ _ _ _ _ _ _ _ _ _ _ _ _ _ _ _ _ _ _ _ _ _ _ _ _ _ _ _ _ _ _ _)
   | (with_reducible exact LeO.refl _)
   | (with_reducible exact LeO.none _)
   | (with_reducible refine LeO.ite ?_ ?_)
   | (with_reducible refine LeO.bind ?_ (fun _ => ?_))
   | exact ih0 _ _ _ _
   | exact ih1 _ _ _ _
   | exact ih2 _ _ _
   | exact ih3 _ _ _ _
   | exact ih4 _ _ _
   | exact ih5 _ _ _ _ _ _ _ _
   | exact ih6 _ _ _ _ _ _ _ _ _
   | exact ih7 _ _ _ _ _ _ _ _
   | exact ih8 _ _ _ _ _ _
   | exact ih9 _ _ _ _ _ _ _
   | exact ih10 _ _ _ _
   | exact api_Ep_36.mono _ _ _ _ _
   | exact retain_older.mono _ _ _ _ _ _ _ _ _ _ _ _ _ _ _ _ _ _ _ _ _ _ _ _ _ _ _ _ _ _ _ _ _ _ _ _ _ _ _ _ _
   | exact LeO.none _
   | refine LeO.ite ?_ ?_
   | refine LeO.bind ?_ (fun _ => ?_)
  ·intro y0 y1 y2 y3 y4 y5 y6 y7
   unfold api_Ep_33.j6
   repeat' first
   | (with_reducible exact ih0 _ _ _ _)
   | (with_reducible exact ih1 _ _ _ _)
   | (with_reducible exact ih2 _ _ _)
   | (with_reducible exact ih3 _ _ _ _)
   | (with_reducible exact ih4 _ _ _)
   | (with_reducible exact ih5 _ _ _ _ _ _ _ _)
   | (with_reducible exact ih6 _ _ _ _ _ _ _ _ _)
   | (with_reducible exact ih7 _ _ _ _ _ _ _ _)
   | (with_reducible exact ih8 _ _ _ _ _ _)
   | (with_reducible exact ih9 _ _ _ _ _ _ _)
   | (with_reducible exact ih10 _ _ _ _)
   | (with_reducible exact api_Ep_36.mono _ _ _ _ _)
   | (with_reducible exact retain_older.mono _ _ _ _ _ _ _ _ _ _ _ _ _ _ _ _ _ _ _ _ _ _ _ _ _ _ _ _ _ _ _ _ _ _ _ _ _ _ _ _ _)
   | (with_reducible exact LeO.refl _)
   | (with_reducible exact LeO.none _)
   | (with_reducible refine LeO.ite ?_ ?_)
   | (with_reducible refine LeO.bind ?_ (fun _ => ?_))
   | exact ih0 _ _ _ _
   | exact ih1 _ _ _ _
   | exact ih2 _ _ _
   | exact ih3 _ _ _ _
   | exact ih4 _ _ _
   | exact ih5 _ _ _ _ _ _ _ _
   | exact ih6 _ _ _ _ _ _ _ _ _
   | exact ih7 _ _ _ _ _ _ _ _
   | exact ih8 _ _ _ _ _ _
   | exact ih9 _ _ _ _ _ _ _
   | exact ih10 _ _ _ _
   | exact api_Ep_36.mono _ _ _ _ _
   | exact retain_older.mono _ _ _ _ _ _ _ _ _ _ _ _ _ _ _ _ _ _ _ _ _ _ _ _ _ _ _ _ _ _ _ _ _ _ _ _ _ _ _ _ _
   | exact LeO.none _
   | refine LeO.ite ?_ ?_
   | refine LeO.bind ?_ (fun _ => ?_)
  ·intro y0 y1 y2 y3 y4 y5
   unfold api_Ep_33.j7
   repeat' first
   | (with_reducible exact ih0 _ _ _ _)
   | (with_reducible exact ih1 _ _ _ _)
   | (with_reducible exact ih2 _ _ _)
   | (with_reducible exact ih3 _ _ _ _)
   | (with_reducible exact ih4 _ _ _)
   | (with_reducible exact ih5 _ _ _ _ _ _ _ _)
   | (with_reducible exact ih6 _ _ _ _ _ _ _ _ _)
   | (with_reducible exact ih7 _ _ _ _ _ _ _ _)
   | (with_reducible exact ih8 _ _ _ _ _ _)
   | (with_reducible exact ih9 _ _ _ _ _ _ _)
   | (with_reducible exact ih10 _ _ _ _)
   | (with_reducible exact api_Ep_36.mono _ _ _ _ _)
   | (with_reducible exact retain_older.mono _ _ _ _ _ _ _ _ _ _ _ _ _ _ _ _ _ _ _ _ _ _ _ _ _ _ _ _ _ _ _ _ _ _ _ _ _ _ _ _ _)
   | (with_reducible exact LeO.refl _)
   | (with_reducible exact LeO.none _)
   | (with_reducible refine LeO.ite ?_ ?_)
   | (with_reducible refine LeO.bind ?_ (fun _ => ?_))
   | exact ih0 _ _ _ _
   | exact ih1 _ _ _ _
   | exact ih2 _ _ _
   | exact ih3 _ _ _ _
   | exact ih4 _ _ _
   | exact ih5 _ _ _ _ _ _ _ _
   | exact ih6 _ _ _ _ _ _ _ _ _
   | exact ih7 _ _ _ _ _ _ _ _
   | exact ih8 _ _ _ _ _ _
   | exact ih9 _ _ _ _ _ _ _
   | exact ih10 _ _ _ _
   | exact api_Ep_36.mono _ _ _ _ _
   | exact retain_older.mono _ _ _ _ _ _ _ _ _ _ _ _ _ _ _ _ _ _ _ _ _ _ _ _ _ _ _ _ _ _ _ _ _ _ _ _ _ _ _ _ _
   | exact LeO.none _
   | refine LeO.ite ?_ ?_
   | refine LeO.bind ?_ (fun _ => ?_)
  ·intro y0 y1 y2 y3 y4 y5 y6
   unfold api_Ep_33.j8
   repeat' first
   | (with_reducible exact ih0 _ _ _ _)
   | (with_reducible exact ih1 _ _ _ _)
   | (with_reducible exact ih2 _ _ _)
   | (with_reducible exact ih3 _ _ _ _)
   | (with_reducible exact ih4 _ _ _)
   | (with_reducible exact ih5 _ _ _ _ _ _ _ _)
   | (with_reducible exact ih6 _ _ _ _ _ _ _ _ _)
   | (with_reducible exact ih7 _ _ _ _ _ _ _ _)
   | (with_reducible exact ih8 _ _ _ _ _ _)
   | (with_reducible exact ih9 _ _ _ _ _ _ _)
   | (with_reducible exact ih10 _ _ _ _)
   | (with_reducible exact api_Ep_36.mono _ _ _ _ _)
   | (with_reducible exact retain_older.mono _ _ _ _ _ _ _ _ _ _ _ _ _ _ _ _ _ _ _ _ _ _ _ _ _ _ _ _ _ _ _ _ _ _ _ _ _ _ _ _ _)
   | (with_reducible exact LeO.refl _)
   | (with_reducible exact LeO.none _)
   | (with_reducible refine LeO.ite ?_ ?_)
   | (with_reducible refine LeO.bind ?_ (fun _ => ?_))
   | exact ih0 _ _ _ _
   | exact ih1 _ _ _ _
   | exact ih2 _ _ _
   | exact ih3 _ _ _ _
   | exact ih4 _ _ _
   | exact ih5 _ _ _ _ _ _ _ _
   | exact ih6 _ _ _ _ _ _ _ _ _
   | exact ih7 _ _ _ _ _ _ _ _
   | exact ih8 _ _ _ _ _ _
   | exact ih9 _ _ _ _ _ _ _
   | exact ih10 _ _ _ _
   | exact api_Ep_36.mono _ _ _ _ _
   | exact retain_older.mono _ _ _ _ _ _ _ _ _ _ _ _ _ _ _ _ _ _ _ _ _ _ _ _ _ _ _ _ _ _ _ _ _ _ _ _ _ _ _ _ _
   | exact LeO.none _
   | refine LeO.ite ?_ ?_
   | refine LeO.bind ?_ (fun _ => ?_)
  ·intro y0 y1 y2 y3
   unfold api_Ep_33.j9
   repeat' first
   | (with_reducible exact ih0 _ _ _ _)
   | (with_reducible exact ih1 _ _ _ _)
   | (with_reducible exact ih2 _ _ _)
   | (with_reducible exact ih3 _ _ _ _)
   | (with_reducible exact ih4 _ _ _)
   | (with_reducible exact ih5 _ _ _ _ _ _ _ _)
   | (with_reducible exact ih6 _ _ _ _ _ _ _ _ _)
   | (with_reducible exact ih7 _ _ _ _ _ _ _ _)
   | (with_reducible exact ih8 _ _ _ _ _ _)
   | (with_reducible exact ih9 _ _ _ _ _ _ _)
   | (with_reducible exact ih10 _ _ _ _)
   | (with_reducible exact api_Ep_36.mono _ _ _ _ _)
   | (with_reducible exact retain_older.mono _ _ _ _ _ _ _ _ _ _ _ _ _ _ _ _ _ _ _ _ _ _ _ _ _ _ _ _ _ _ _ _ _ _ _ _ _ _ _ _ _)
   | (with_reducible exact LeO.refl _)
   | (with_reducible exact LeO.none _)
   | (with_reducible refine LeO.ite ?_ ?_)
   | (with_reducible refine LeO.bind ?_ (fun _ => ?_))
   | exact ih0 _ _ _ _
   | exact ih1 _ _ _ _
   | exact ih2 _ _ _
   | exact ih3 _ _ _ _
   | exact ih4 _ _ _
   | exact ih5 _ _ _ _ _ _ _ _
   | exact ih6 _ _ _ _ _ _ _ _ _
   | exact ih7 _ _ _ _ _ _ _ _
   | exact ih8 _ _ _ _ _ _
   | exact ih9 _ _ _ _ _ _ _
   | exact ih10 _ _ _ _
   | exact api_Ep_36.mono _ _ _ _ _
   | exact retain_older.mono _ _ _ _ _ _ _ _ _ _ _ _ _ _ _ _ _ _ _ _ _ _ _ _ _ _ _ _ _ _ _ _ _ _ _ _ _ _ _ _ _
   | exact LeO.none _
   | refine LeO.ite ?_ ?_
   | refine LeO.bind ?_ (fun _ => ?_)
theorem api_Ep_33.mono : ∀ a0 a1 a2 a3 k, LeO (api_Ep_33.f k a0 a1 a2 a3) (api_Ep_33.f (k + 1) a0 a1 a2 a3) := by
 intro a0 a1 a2 a3 k
 obtain ⟨ih0, ih1, ih2, ih3, ih4, ih5, ih6, ih7, ih8, ih9, ih10⟩ := api_Ep_33.mono_l k
 exact ih0 a0 a1 a2 a3
def api_Ep_33.T5 : Bool × List (List Nat × List Nat) := (true, [([], []), ([], []), ([], []), ([1, 2], [1, 2]), ([3], [3]), ([], []), ([], []), ([5, 6], [5, 6]), ([7], [7]), ([0, 4, 8], [0, 4, 8]), ([9], [9])])
def api_Ep_33.B5 : List Nat := [0, 0, 0, 6, 14, 0, 0, 96, 224, 511, 1023]
theorem api_Ep_33.tab5 : rtab .any (opsOf Try.f33 5) = api_Ep_33.T5 := by kernel_rfl
theorem api_Ep_33.bits5 : waitsOk api_Ep_33.T5.2 api_Ep_33.B5 = true := by kernel_rfl
def api_Ep_33.T11 : Bool × List (List Nat × List Nat) := (true, [([], []), ([], []), ([], []), ([], []), ([3], [3]), ([], []), ([], []), ([6], [6]), ([5, 7], [5, 7]), ([8], [8]), ([], []), ([], []), ([10, 11], [10, 11]), ([12], [12]), ([0, 1, 0, 1, 5, 6, 7, 8, 9, 13], [0, 1]), ([14, 9, 0, 1, 5, 6, 7, 8, 9, 13], [9, 14]), ([2, 4, 0, 1, 2, 3, 4, 5, 6, 7, 8, 9, 10, 11, 12, 13, 14, 15], [2, 4]), ([16, 13, 15, 0, 1, 2, 3, 4, 5, 6, 7, 8, 9, 10, 11, 12, 13, 14, 15], [13, 16])])
def api_Ep_33.B11 : List Nat := [0, 0, 0, 0, 8, 0, 0, 64, 224, 480, 0, 0, 3072, 7168, 16355, 32739, 65535, 131071]
theorem api_Ep_33.tab11 : rtab .any (opsOf Try.f33 11) = api_Ep_33.T11 := by kernel_rfl
theorem api_Ep_33.bits11 : waitsOk api_Ep_33.T11.2 api_Ep_33.B11 = true := by kernel_rfl
def api_Ep_33.T17 : Bool × List (List Nat × List Nat) := (true, [([], []), ([], []), ([], []), ([1, 2], [1, 2]), ([3], [3]), ([], []), ([], []), ([5, 6], [5, 6]), ([7], [7]), ([0, 4, 8], [0, 4, 8]), ([9], [9]), ([10], [10])])
def api_Ep_33.B17 : List Nat := [0, 0, 0, 6, 14, 0, 0, 96, 224, 511, 1023, 2047]
theorem api_Ep_33.tab17 : rtab .any (opsOf Try.f33 17) = api_Ep_33.T17 := by kernel_rfl
theorem api_Ep_33.bits17 : waitsOk api_Ep_33.T17.2 api_Ep_33.B17 = true := by kernel_rfl
def api_Ep_33.T23 : Bool × List (List Nat × List Nat) := (true, [([], []), ([], []), ([], []), ([], []), ([3], [3]), ([], []), ([], []), ([6], [6]), ([5, 7], [5, 7]), ([8], [8]), ([], []), ([], []), ([10, 11], [10, 11]), ([12], [12]), ([0, 1, 0, 1, 5, 6, 7, 8, 9, 13], [0, 1]), ([14, 9, 0, 1, 5, 6, 7, 8, 9, 13], [9, 14]), ([2, 4, 0, 1, 2, 3, 4, 5, 6, 7, 8, 9, 10, 11, 12, 13, 14, 15], [2, 4]), ([16, 13, 15, 0, 1, 2, 3, 4, 5, 6, 7, 8, 9, 10, 11, 12, 13, 14, 15], [13, 16])])
def api_Ep_33.B23 : List Nat := [0, 0, 0, 0, 8, 0, 0, 64, 224, 480, 0, 0, 3072, 7168, 16355, 32739, 65535, 131071]
theorem api_Ep_33.tab23 : rtab .any (opsOf Try.f33 23) = api_Ep_33.T23 := by kernel_rfl
theorem api_Ep_33.bits23 : waitsOk api_Ep_33.T23.2 api_Ep_33.B23 = true := by kernel_rfl
def api_Ep_33.T35 : Bool × List (List Nat × List Nat) := (true, [([], []), ([], []), ([], []), ([], []), ([2, 3], [2, 3]), ([1, 4], [1, 4]), ([5], [5]), ([], []), ([], []), ([7, 8], [7, 8]), ([9], [9]), ([0, 6, 10], [0, 6, 10]), ([11], [11]), ([12], [12])])
def api_Ep_33.B35 : List Nat := [0, 0, 0, 0, 12, 30, 62, 0, 0, 384, 896, 2047, 4095, 8191]
theorem api_Ep_33.tab35 : rtab .any (opsOf Try.f33 35) = api_Ep_33.T35 := by kernel_rfl
theorem api_Ep_33.bits35 : waitsOk api_Ep_33.T35.2 api_Ep_33.B35 = true := by kernel_rfl
set_option maxHeartbeats 2000000 in
set_option maxRecDepth 100000 in
theorem api_Ep_33.calls (k : Nat) : ∀ (P0_ : Nat → Prop) (u9000_ : Value) (l0 : List (S29)) (a1 : Int) (a2 : Int) (a3 : Int) (r : List (S29)) (w0 w : World) (hB : Below w0.heap.size w0 w) (ho0 : Kd.R k29 29 w w0.heap.size P0_ u9000_ l0) (h : api_Ep_33.f k l0 a1 a2 a3 = some r),
  Calls Try.prog 33 #[u9000_, .int .i64 a1, .int .i64 a2, .int .i64 a3, .func (.func 22) #[] #[]] w fun e w' => e = .returned (.tuple #[]) ∧ Kd.R k29 29 w' w0.heap.size (fun k_ => (P0_ k_ ∨ w.heap.size ≤ k_)) u9000_ r ∧ Below w0.heap.size w0 w' ∧ Kept w w' (fun k_ => P0_ k_) := by
 induction k using Nat.strongRecOn with
 | _ k ih =>
 intro P0_ u9000_ l0 a1 a2 a3 r w0 w hB ho0 h
 cases k with
 | zero => exact absurd h (by simp [api_Ep_33.f])
 | succ k =>
 simp only [api_Ep_33.f] at h
 have hu29 := Try.underlying29
 have HO0 := mkA (show Kd.R k29 29 w w0.heap.size (fun k_ => (P0_ k_ ∨ w.heap.size ≤ k_)) u9000_ l0 from Kd.R_mono ho0 (fun k_ hk => (.inl hk)))
 have HK := mkA (Kept.refl w (fun k_ => P0_ k_))
 have HW0 := mkA hB.size
 have HB := mkA hB
 clear hB
 have H : (if (wrap64 (a2 - a1)) = 1 then (api_Ep_33.l0 k l0 a1 a2 a3) else (if (wrap64 (a3 - a2)) = 1 then (api_Ep_33.l2 k l0 a2 a1 a2) else (if a2 > (wrap64 ((IntKind.u64.wrap (wrap64 (a1 + a3))) / 2)) then (api_Ep_33.j4 k l0 a1 a2 a3 (wrap64 ((IntKind.u64.wrap (wrap64 (a1 + a3))) / 2)) (wrap64 ((wrap64 ((IntKind.u64.wrap (wrap64 (a1 + a3))) / 2)) + a2)) (wrap64 ((wrap64 ((wrap64 ((IntKind.u64.wrap (wrap64 (a1 + a3))) / 2)) + a2)) - a3)) (wrap64 ((IntKind.u64.wrap (wrap64 (a1 + a3))) / 2))) else (api_Ep_33.j4 k l0 a1 a2 a3 (wrap64 ((IntKind.u64.wrap (wrap64 (a1 + a3))) / 2)) (wrap64 ((wrap64 ((IntKind.u64.wrap (wrap64 (a1 + a3))) / 2)) + a2)) a1 a2)))) = some r := h
 clear h
 by_cases c5 : (wrap64 (a2 - a1)) = 1
 ·rw [if_pos c5] at H
  have c5b0 : ((wrap64 (a2 - a1)) == 1) = true := beq_iff_eq.mpr c5
  have c5b1 : ((wrap64 (a2 - a1)) != 1) = false := bne_eq_false_iff_eq.mpr c5
  clear c5
  have H' := mkA H
  clear H
  go_enter Try.func33, Try.ntmps33
  go_wp2
  try simp only [Act.put, sA, s0, sS]
  go_loopg [10, 11] k (fun kq v10 v11 w' => ∃ (x10_1 : Int) (x11_1 : Int), v10 = .int .i64 x10_1 ∧ v11 = .int .i64 x11_1 ∧ Aside0 (api_Ep_33.l0 kq l0 a1 x10_1 x11_1 = some r) ∧ Aside0 (kq ≤ k) ∧ Aside0 (Kd.R k29 29 w' w0.heap.size (fun k_ => (P0_ k_ ∨ w.heap.size ≤ k_)) u9000_ l0) ∧ Aside0 (Kept w w' (fun k_ => P0_ k_)) ∧ Aside0 (Below w0.heap.size w0 w'))
  case atStart => exact ⟨(a2), (a3), (by first | rfl | (simp; done) | (simp [*]; done)), (by first | rfl | (simp; done) | (simp [*]; done)), H', ⟨Nat.le_refl _⟩, ⟨by (with_reducible repeat (first | apply Kd.R_alloc | apply Kd.R_drewN | apply Kd.R_drew)); exact HO0.out⟩, ⟨by repeat (first | (with_reducible first | exact HK.out | apply Kept.alloc | apply Kept.drewN | apply Kept.drew) | exact HK.out)⟩, ⟨below_y HB.out⟩⟩
  case round =>
   clear H'
   try clear p2
   try clear c3
   try clear c5
   try clear c5b0
   try clear c5b1
   obtain ⟨x10_1, x11_1, rfl, rfl, HA, HK1, HO_0, HK, HB⟩ := hrel
   cases gk with
   | zero => exact absurd HA.out (by simp [api_Ep_33.l0])
   | succ k1 =>
    have H := HA.out
    clear HA
    simp only [api_Ep_33.l0] at H
    by_cases c6 : x10_1 < x11_1
    ·rw [if_pos c6] at H
     have c6b0 : decide (x10_1 < x11_1) = true := decide_eq_true c6
     clear c6
     obtain ⟨ji7, hji7⟩ : ∃ j_ : Int, (wrap64 ((IntKind.u64.wrap (wrap64 (x10_1 + x11_1))) / 2)) = j_ := ⟨_, rfl⟩
     replace H : (if 0 ≤ (ji7) then (if (ji7) < (l0.length : Int) then (if 0 ≤ a1 then (if a1 < (l0.length : Int) then ((retain_older.f k1 ((rd_T29 l0 (ji7)).f0) ((rd_T29 l0 (ji7)).f1) ((rd_T29 l0 (ji7)).f2) ((rd_T29 l0 (ji7)).f3) ((rd_T29 l0 (ji7)).f4) ((rd_T29 l0 (ji7)).f5) ((rd_T29 l0 (ji7)).f6) ((rd_T29 l0 (ji7)).f7) ((rd_T29 l0 (ji7)).f8) ((rd_T29 l0 (ji7)).f9) ((rd_T29 l0 (ji7)).f10) ((rd_T29 l0 (ji7)).f11) ((rd_T29 l0 (ji7)).f12) ((rd_T29 l0 (ji7)).f13) ((rd_T29 l0 (ji7)).f14) ((rd_T29 l0 (ji7)).f15) ((rd_T29 l0 (ji7)).f16) ((rd_T29 l0 (ji7)).f17) ((rd_T29 l0 (ji7)).f18) ((rd_T29 l0 (ji7)).f19) ((rd_T29 l0 a1).f0) ((rd_T29 l0 a1).f1) ((rd_T29 l0 a1).f2) ((rd_T29 l0 a1).f3) ((rd_T29 l0 a1).f4) ((rd_T29 l0 a1).f5) ((rd_T29 l0 a1).f6) ((rd_T29 l0 a1).f7) ((rd_T29 l0 a1).f8) ((rd_T29 l0 a1).f9) ((rd_T29 l0 a1).f10) ((rd_T29 l0 a1).f11) ((rd_T29 l0 a1).f12) ((rd_T29 l0 a1).f13) ((rd_T29 l0 a1).f14) ((rd_T29 l0 a1).f15) ((rd_T29 l0 a1).f16) ((rd_T29 l0 a1).f17) ((rd_T29 l0 a1).f18) ((rd_T29 l0 a1).f19)).bind fun t143 => (if t143 < 0 then (api_Ep_33.l0 k1 l0 a1 (wrap64 ((ji7) + 1)) x11_1) else (api_Ep_33.l0 k1 l0 a1 x10_1 ji7))) else (none)) else (none)) else (none)) else (none)) = some r := by first | (rw [hji7] at H; exact H) | (simp only [hji7] at H ⊢; exact H)
     have hji7w : (IntKind.i64.wrap ((IntKind.u64.wrap (wrap64 (x10_1 + x11_1))) / 2)) = ji7 := (i64_w _).trans hji7
     by_cases c8 : 0 ≤ (ji7)
     ·rw [if_pos c8] at H
      have c8b0 : decide (0 ≤ (ji7)) = true := decide_eq_true c8
      clear c8
      by_cases c9 : (ji7) < (l0.length : Int)
      ·rw [if_pos c9] at H
       have c9b0 : decide ((ji7) < (l0.length : Int)) = true := decide_eq_true c9
       clear c9
       by_cases c10 : 0 ≤ a1
       ·rw [if_pos c10] at H
        have c10b0 : decide (0 ≤ a1) = true := decide_eq_true c10
        clear c10
        by_cases c11 : a1 < (l0.length : Int)
        ·rw [if_pos c11] at H
         have c11b0 : decide (a1 < (l0.length : Int)) = true := decide_eq_true c11
         clear c11
         replace H := Option.bind_eq_some_iff.mp H
         obtain ⟨t143, A120, H⟩ := H
         replace H : (if t143 < 0 then (api_Ep_33.l0 k1 l0 a1 (wrap64 ((ji7) + 1)) x11_1) else (api_Ep_33.l0 k1 l0 a1 x10_1 ji7)) = some r := H
         have A12 := mkA A120
         clear A120
         by_cases c13 : t143 < 0
         ·rw [if_pos c13] at H
          have c13b0 : decide (t143 < 0) = true := decide_eq_true c13
          clear c13
          as_aux_lemma =>
           have H' := mkA H
           clear H
           try go_wp2
           have n0_ := mkA (Kd.R_drew HO_0.out)
           have n1_ := mkA (Kept.drew HK.out)
           have n2_ := mkA (below_drew1 HB.out)
           clear HO_0 HK HB
           have HO_0 := n0_
           have HK := n1_
           have HB := n2_
           clear n0_ n1_ n2_
           obtain ⟨Ao15, co15, eo15⟩ := Kd.R_slice HO_0.out
           (first | subst eo15 | (injection eo15 with f1_ f2_ f3_; have f4_ := f1_.symm; have f5_ := f3_.symm; clear f1_ f2_ f3_; subst f4_; subst f5_))
           have p141 : 0 ≤ ((ji7) : Int) := odt
           have q141 : (ji7) < (l0.length : Int) := odt
           obtain ⟨ad141, e141, hx141_0, hx141_1, hx141_2, hx141_3, hx141_4, hx141_5, hx141_6, hx141_7, hx141_8, hx141_9, hx141_10, hx141_11, hx141_12, hx141_13, hx141_14, hx141_15, hx141_16, hx141_17, hx141_18, hx141_19⟩ := at_T29 (Kd.R_reads' HO_0.out).2.2 (ji7) p141 q141
           cases e141
           replace p141 := eq_true p141
           replace q141 := eq_true q141
           have p142 : 0 ≤ (a1 : Int) := odt
           have q142 : a1 < (l0.length : Int) := odt
           obtain ⟨ad142, e142, hx142_0, hx142_1, hx142_2, hx142_3, hx142_4, hx142_5, hx142_6, hx142_7, hx142_8, hx142_9, hx142_10, hx142_11, hx142_12, hx142_13, hx142_14, hx142_15, hx142_16, hx142_17, hx142_18, hx142_19⟩ := at_T29 (Kd.R_reads' HO_0.out).2.2 a1 p142 q142
           obtain rfl : ad141 = ad142 := (by injection e142)
           replace p142 := eq_true p142
           replace q142 := eq_true q142
           refine start_ (n := 11) (S := fun w' => cj29 w' (ad141.add (((ji7)).toNat * 20)) (rd_T29 l0 (ji7)) <| ce29 w' (ad141.add ((a1).toNat * 20)) (rd_T29 l0 a1)) (ds := []) #[false, false, false, false, false, false, false, false, false, false, false] (by kernel_rfl) rfl rfl ⟨hx141_0, hx141_1, hx141_2, hx141_3, hx141_4, hx141_5, hx141_6, hx141_7, hx141_8, hx141_9, hx141_10, hx141_11, hx141_12, hx141_13, hx141_14, hx141_15, hx141_16, hx141_17, hx141_18, hx141_19, hx142_0, hx142_1, hx142_2, hx142_3, hx142_4, hx142_5, hx142_6, hx142_7, hx142_8, hx142_9, hx142_10, hx142_11, hx142_12, hx142_13, hx142_14, hx142_15, hx142_16, hx142_17, hx142_18, hx142_19⟩ (fun hHeld => ?_); refine with_tabW api_Ep_33.tab5 api_Ep_33.bits5 (fun HT_ HW_ => ?_)
           generalize wr.drew = w14 at HO_0 HK HB hx141_0 hx141_1 hx141_10 hx141_11 hx141_12 hx141_13 hx141_14 hx141_15 hx141_16 hx141_17 hx141_18 hx141_19 hx141_2 hx141_3 hx141_4 hx141_5 hx141_6 hx141_7 hx141_8 hx141_9 hx142_0 hx142_1 hx142_10 hx142_11 hx142_12 hx142_13 hx142_14 hx142_15 hx142_16 hx142_17 hx142_18 hx142_19 hx142_2 hx142_3 hx142_4 hx142_5 hx142_6 hx142_7 hx142_8 hx142_9 hHeld ⊢
           refine pu 0 40 HT_ ?_
           refine pu 1 41 HT_ ?_
           refine pu 2 42 HT_ ?_
           refine pu 3 43 HT_ ?_
           refine pu 5 45 HT_ ?_
           refine pu 6 46 HT_ ?_
           refine pu 7 47 HT_ ?_
           refine take_ (i := 4) (N := some 44) (v := ?_) (a' := ?_) #[true, true, true, true, true, true, true, true, false, false, false] rfl rfl (take_ofW HT_.out HW_.out (by kernel_rfl)) (fun _ _ _ h => h) (Or.inl ⟨by rfl, ?_⟩) hHeld ?_ ?_
           rotate_left
           ·rintro w' ⟨s0, s1, s2, s3, s4, s5, s6, s7, s8, s9, s10, s11, s12, s13, s14, s15, s16, s17, s18, s19, s20, s21, s22, s23, s24, s25, s26, s27, s28, s29, s30, s31, s32, s33, s34, s35, s36, s37, s38, s39⟩
            first | (have hz_ := fun (a : Act) (o : Oper) (x : Operand) (ho : o.op = .load 29 x) (hx : a.eval x = _) => exec_load_at (P := Try.prog) (W := w') (cs := [_, _, _, _, _, _, _, _, _, _, _, _, _, _, _, _, _, _, _]) ho hx Try.underlying29 rfl (by kernel_rfl) s0 ⟨s1, s2, s3, s4, s5, s6, s7, s8, s9, s10, s11, s12, s13, s14, s15, s16, s17, s18, s19, trivial⟩; refine (hz_ _ _ (.tmp 43) ?_ ?_).trans ?_; (focus rfl); (focus (first | (with_reducible rfl) | (go_simp; done))); with_reducible rfl) | (have hz_ := fun (a : Act) (o : Oper) (x : Operand) (ho : o.op = .load 29 x) (hx : a.eval x = _) => exec_load_at (P := Try.prog) (W := w') (cs := [_, _, _, _, _, _, _, _, _, _, _, _, _, _, _, _, _, _, _]) ho hx Try.underlying29 rfl (by kernel_rfl) s20 ⟨s21, s22, s23, s24, s25, s26, s27, s28, s29, s30, s31, s32, s33, s34, s35, s36, s37, s38, s39, trivial⟩; refine (hz_ _ _ (.tmp 43) ?_ ?_).trans ?_; (focus rfl); (focus (first | (with_reducible rfl) | (go_simp; done))); with_reducible rfl) | (go_simp; with_reducible rfl)
           rotate_left
           ·simp only [Act.put, sA, s0, sS, i64_w, i32_w]
            rfl
           refine take_ (i := 8) (N := some 48) (v := ?_) (a' := ?_) #[true, true, true, true, true, true, true, true, true, false, false] rfl rfl (take_ofW HT_.out HW_.out (by kernel_rfl)) (fun _ _ _ h => h) (Or.inl ⟨by rfl, ?_⟩) hHeld ?_ ?_
           rotate_left
           ·rintro w' ⟨s0, s1, s2, s3, s4, s5, s6, s7, s8, s9, s10, s11, s12, s13, s14, s15, s16, s17, s18, s19, s20, s21, s22, s23, s24, s25, s26, s27, s28, s29, s30, s31, s32, s33, s34, s35, s36, s37, s38, s39⟩
            first | (have hz_ := fun (a : Act) (o : Oper) (x : Operand) (ho : o.op = .load 29 x) (hx : a.eval x = _) => exec_load_at (P := Try.prog) (W := w') (cs := [_, _, _, _, _, _, _, _, _, _, _, _, _, _, _, _, _, _, _]) ho hx Try.underlying29 rfl (by kernel_rfl) s0 ⟨s1, s2, s3, s4, s5, s6, s7, s8, s9, s10, s11, s12, s13, s14, s15, s16, s17, s18, s19, trivial⟩; refine (hz_ _ _ (.tmp 47) ?_ ?_).trans ?_; (focus rfl); (focus (first | (with_reducible rfl) | (go_simp; done))); with_reducible rfl) | (have hz_ := fun (a : Act) (o : Oper) (x : Operand) (ho : o.op = .load 29 x) (hx : a.eval x = _) => exec_load_at (P := Try.prog) (W := w') (cs := [_, _, _, _, _, _, _, _, _, _, _, _, _, _, _, _, _, _, _]) ho hx Try.underlying29 rfl (by kernel_rfl) s20 ⟨s21, s22, s23, s24, s25, s26, s27, s28, s29, s30, s31, s32, s33, s34, s35, s36, s37, s38, s39, trivial⟩; refine (hz_ _ _ (.tmp 47) ?_ ?_).trans ?_; (focus rfl); (focus (first | (with_reducible rfl) | (go_simp; done))); with_reducible rfl) | (go_simp; with_reducible rfl)
           rotate_left
           ·simp only [Act.put, sA, s0, sS, i64_w, i32_w]
            rfl
           refine one_ (i := 9) (N := some 49) #[true, true, true, true, true, true, true, true, true, true, false] rfl rfl (one_of HT_.out (by kernel_rfl)) (by decide) (fun K hK => ?_)
           refine goesW_ Try.func22 (by kernel_rfl) rfl #[.agg #[.int .i64 ((rd_T29 l0 (ji7)).f0), .int .i64 ((rd_T29 l0 (ji7)).f1), .string ((rd_T29 l0 (ji7)).f2), .string ((rd_T29 l0 (ji7)).f3), .string ((rd_T29 l0 (ji7)).f4), .int .i64 ((rd_T29 l0 (ji7)).f5), .int .i64 ((rd_T29 l0 (ji7)).f6), .int .i64 ((rd_T29 l0 (ji7)).f7), .int .i64 ((rd_T29 l0 (ji7)).f8), .bool ((rd_T29 l0 (ji7)).f9), .int .i64 ((rd_T29 l0 (ji7)).f10), .int .i64 ((rd_T29 l0 (ji7)).f11), .int .i64 ((rd_T29 l0 (ji7)).f12), .string ((rd_T29 l0 (ji7)).f13), .int .i64 ((rd_T29 l0 (ji7)).f14), .int .i64 ((rd_T29 l0 (ji7)).f15), .string ((rd_T29 l0 (ji7)).f16), .int .i64 ((rd_T29 l0 (ji7)).f17), .int .i64 ((rd_T29 l0 (ji7)).f18), .string ((rd_T29 l0 (ji7)).f19)], .agg #[.int .i64 ((rd_T29 l0 a1).f0), .int .i64 ((rd_T29 l0 a1).f1), .string ((rd_T29 l0 a1).f2), .string ((rd_T29 l0 a1).f3), .string ((rd_T29 l0 a1).f4), .int .i64 ((rd_T29 l0 a1).f5), .int .i64 ((rd_T29 l0 a1).f6), .int .i64 ((rd_T29 l0 a1).f7), .int .i64 ((rd_T29 l0 a1).f8), .bool ((rd_T29 l0 a1).f9), .int .i64 ((rd_T29 l0 a1).f10), .int .i64 ((rd_T29 l0 a1).f11), .int .i64 ((rd_T29 l0 a1).f12), .string ((rd_T29 l0 a1).f13), .int .i64 ((rd_T29 l0 a1).f14), .int .i64 ((rd_T29 l0 a1).f15), .string ((rd_T29 l0 a1).f16), .int .i64 ((rd_T29 l0 a1).f17), .int .i64 ((rd_T29 l0 a1).f18), .string ((rd_T29 l0 a1).f19)]] (by rfl) rfl rfl (by first | rfl | (go_simp; done)) (by (try simp only [List.map_toArray, List.map_cons, List.map_nil]); first | done | (simp only [hji7]; rfl) | rfl | (simp only [List.length_drop, List.length_take]; rfl)) ?_
           with_reducible refine (retain_older.calls _ _ _ _ _ _ _ _ _ _ _ _ _ _ _ _ _ _ _ _ _ _ _ _ _ _ _ _ _ _ _ _ _ _ _ _ _ _ _ _ _ _ _ A12.out).mono ?_
           rintro e w16 ⟨rfl, hb⟩
           have hbk_w16 := mkA hb
           have HS0_ := hs_ hb hHeld.1
           have HS1_ := hs_ hb hHeld.2.1
           have HS2_ := hs_ hb hHeld.2.2.1
           have HS3_ := hs_ hb hHeld.2.2.2.1
           have HS4_ := hs_ hb hHeld.2.2.2.2.1
           have HS5_ := hs_ hb hHeld.2.2.2.2.2.1
           have HS6_ := hs_ hb hHeld.2.2.2.2.2.2.1
           have HS7_ := hs_ hb hHeld.2.2.2.2.2.2.2.1
           have HS8_ := hs_ hb hHeld.2.2.2.2.2.2.2.2.1
           have HS9_ := hs_ hb hHeld.2.2.2.2.2.2.2.2.2.1
           have HS10_ := hs_ hb hHeld.2.2.2.2.2.2.2.2.2.2.1
           have HS11_ := hs_ hb hHeld.2.2.2.2.2.2.2.2.2.2.2.1
           have HS12_ := hs_ hb hHeld.2.2.2.2.2.2.2.2.2.2.2.2.1
           have HS13_ := hs_ hb hHeld.2.2.2.2.2.2.2.2.2.2.2.2.2.1
           have HS14_ := hs_ hb hHeld.2.2.2.2.2.2.2.2.2.2.2.2.2.2.1
           have HS15_ := hs_ hb hHeld.2.2.2.2.2.2.2.2.2.2.2.2.2.2.2.1
           have HS16_ := hs_ hb hHeld.2.2.2.2.2.2.2.2.2.2.2.2.2.2.2.2.1
           have HS17_ := hs_ hb hHeld.2.2.2.2.2.2.2.2.2.2.2.2.2.2.2.2.2.1
           have HS18_ := hs_ hb hHeld.2.2.2.2.2.2.2.2.2.2.2.2.2.2.2.2.2.2.1
           have HS19_ := hs_ hb hHeld.2.2.2.2.2.2.2.2.2.2.2.2.2.2.2.2.2.2.2.1
           have HS20_ := hs_ hb hHeld.2.2.2.2.2.2.2.2.2.2.2.2.2.2.2.2.2.2.2.2.1
           have HS21_ := hs_ hb hHeld.2.2.2.2.2.2.2.2.2.2.2.2.2.2.2.2.2.2.2.2.2.1
           have HS22_ := hs_ hb hHeld.2.2.2.2.2.2.2.2.2.2.2.2.2.2.2.2.2.2.2.2.2.2.1
           have HS23_ := hs_ hb hHeld.2.2.2.2.2.2.2.2.2.2.2.2.2.2.2.2.2.2.2.2.2.2.2.1
           have HS24_ := hs_ hb hHeld.2.2.2.2.2.2.2.2.2.2.2.2.2.2.2.2.2.2.2.2.2.2.2.2.1
           have HS25_ := hs_ hb hHeld.2.2.2.2.2.2.2.2.2.2.2.2.2.2.2.2.2.2.2.2.2.2.2.2.2.1
           have HS26_ := hs_ hb hHeld.2.2.2.2.2.2.2.2.2.2.2.2.2.2.2.2.2.2.2.2.2.2.2.2.2.2.1
           have HS27_ := hs_ hb hHeld.2.2.2.2.2.2.2.2.2.2.2.2.2.2.2.2.2.2.2.2.2.2.2.2.2.2.2.1
           have HS28_ := hs_ hb hHeld.2.2.2.2.2.2.2.2.2.2.2.2.2.2.2.2.2.2.2.2.2.2.2.2.2.2.2.2.1
           have HS29_ := hs_ hb hHeld.2.2.2.2.2.2.2.2.2.2.2.2.2.2.2.2.2.2.2.2.2.2.2.2.2.2.2.2.2.1
           have HS30_ := hs_ hb hHeld.2.2.2.2.2.2.2.2.2.2.2.2.2.2.2.2.2.2.2.2.2.2.2.2.2.2.2.2.2.2.1
           have HS31_ := hs_ hb hHeld.2.2.2.2.2.2.2.2.2.2.2.2.2.2.2.2.2.2.2.2.2.2.2.2.2.2.2.2.2.2.2.1
           have HS32_ := hs_ hb hHeld.2.2.2.2.2.2.2.2.2.2.2.2.2.2.2.2.2.2.2.2.2.2.2.2.2.2.2.2.2.2.2.2.1
           have HS33_ := hs_ hb hHeld.2.2.2.2.2.2.2.2.2.2.2.2.2.2.2.2.2.2.2.2.2.2.2.2.2.2.2.2.2.2.2.2.2.1
           have HS34_ := hs_ hb hHeld.2.2.2.2.2.2.2.2.2.2.2.2.2.2.2.2.2.2.2.2.2.2.2.2.2.2.2.2.2.2.2.2.2.2.1
           have HS35_ := hs_ hb hHeld.2.2.2.2.2.2.2.2.2.2.2.2.2.2.2.2.2.2.2.2.2.2.2.2.2.2.2.2.2.2.2.2.2.2.2.1
           have HS36_ := hs_ hb hHeld.2.2.2.2.2.2.2.2.2.2.2.2.2.2.2.2.2.2.2.2.2.2.2.2.2.2.2.2.2.2.2.2.2.2.2.2.1
           have HS37_ := hs_ hb hHeld.2.2.2.2.2.2.2.2.2.2.2.2.2.2.2.2.2.2.2.2.2.2.2.2.2.2.2.2.2.2.2.2.2.2.2.2.2.1
           have HS38_ := hs_ hb hHeld.2.2.2.2.2.2.2.2.2.2.2.2.2.2.2.2.2.2.2.2.2.2.2.2.2.2.2.2.2.2.2.2.2.2.2.2.2.2.1
           have HS39_ := hs_ hb hHeld.2.2.2.2.2.2.2.2.2.2.2.2.2.2.2.2.2.2.2.2.2.2.2.2.2.2.2.2.2.2.2.2.2.2.2.2.2.2.2
           refine ⟨_, rfl, ?_⟩
           have n0_ := mkA (Kd.R_below (Kd.R_y HO_0.out) hb)
           have n1_ := mkA (Kept.below (S := (fun k_ => P0_ k_)) (by repeat (first | (with_reducible first | exact HK.out | apply Kept.alloc | apply Kept.drewN | apply Kept.drew) | exact HK.out)) hb)
           have n2_ := mkA (below_step (below_y HB.out) hb)
           clear HO_0 HK HB
           have HO_0 := n0_
           have HK := n1_
           have HB := n2_
           clear n0_ n1_ n2_
           (try clear hb)
           (try clear hb2)
           (try clear hk)
           (try clear hi)
           refine hK.out _ _ ⟨HS0_, HS1_, HS2_, HS3_, HS4_, HS5_, HS6_, HS7_, HS8_, HS9_, HS10_, HS11_, HS12_, HS13_, HS14_, HS15_, HS16_, HS17_, HS18_, HS19_, HS20_, HS21_, HS22_, HS23_, HS24_, HS25_, HS26_, HS27_, HS28_, HS29_, HS30_, HS31_, HS32_, HS33_, HS34_, HS35_, HS36_, HS37_, HS38_, HS39_⟩ (fun hHeld => ?_)
           clear hK K
           refine norm_ (a' := ?_) ?_ ?_
           rotate_left
           ·show Act.put _ (some 49) _ = _
            simp only [Act.put, sA, s0, sS, i64_w, i32_w]
            rfl
           refine pu 10 50 HT_ ?_
           refine done_ (done_of HT_.out (by kernel_rfl)) ?_
           try go_wp2
           go_roundg k1
           case measure => have := HK1.out; omega
           case rel => exact ⟨(wrap64 ((ji7) + 1)), (x11_1), (by first | rfl | (simp; done) | (simp only [← hji7] <;> (first | rfl | simp)) | (simp [*]; done)), (by first | rfl | (simp; done) | (simp [*]; done)), H', ⟨by have := HK1.out; omega⟩, ⟨by (with_reducible repeat (first | apply Kd.R_alloc | apply Kd.R_drewN | apply Kd.R_drew)); exact HO_0.out⟩, ⟨by repeat (first | (with_reducible first | exact HK.out | apply Kept.alloc | apply Kept.drewN | apply Kept.drew) | exact HK.out)⟩, ⟨below_y HB.out⟩⟩
         ·rw [if_neg c13] at H
          have c13b0 : decide (t143 < 0) = false := decide_eq_false c13
          clear c13
          as_aux_lemma =>
           have H' := mkA H
           clear H
           try go_wp2
           have n0_ := mkA (Kd.R_drew HO_0.out)
           have n1_ := mkA (Kept.drew HK.out)
           have n2_ := mkA (below_drew1 HB.out)
           clear HO_0 HK HB
           have HO_0 := n0_
           have HK := n1_
           have HB := n2_
           clear n0_ n1_ n2_
           obtain ⟨Ao18, co18, eo18⟩ := Kd.R_slice HO_0.out
           (first | subst eo18 | (injection eo18 with f1_ f2_ f3_; have f4_ := f1_.symm; have f5_ := f3_.symm; clear f1_ f2_ f3_; subst f4_; subst f5_))
           have p141 : 0 ≤ ((ji7) : Int) := odt
           have q141 : (ji7) < (l0.length : Int) := odt
           obtain ⟨ad141, e141, hx141_0, hx141_1, hx141_2, hx141_3, hx141_4, hx141_5, hx141_6, hx141_7, hx141_8, hx141_9, hx141_10, hx141_11, hx141_12, hx141_13, hx141_14, hx141_15, hx141_16, hx141_17, hx141_18, hx141_19⟩ := at_T29 (Kd.R_reads' HO_0.out).2.2 (ji7) p141 q141
           cases e141
           replace p141 := eq_true p141
           replace q141 := eq_true q141
           have p142 : 0 ≤ (a1 : Int) := odt
           have q142 : a1 < (l0.length : Int) := odt
           obtain ⟨ad142, e142, hx142_0, hx142_1, hx142_2, hx142_3, hx142_4, hx142_5, hx142_6, hx142_7, hx142_8, hx142_9, hx142_10, hx142_11, hx142_12, hx142_13, hx142_14, hx142_15, hx142_16, hx142_17, hx142_18, hx142_19⟩ := at_T29 (Kd.R_reads' HO_0.out).2.2 a1 p142 q142
           obtain rfl : ad141 = ad142 := (by injection e142)
           replace p142 := eq_true p142
           replace q142 := eq_true q142
           refine start_ (n := 11) (S := fun w' => cj29 w' (ad141.add (((ji7)).toNat * 20)) (rd_T29 l0 (ji7)) <| ce29 w' (ad141.add ((a1).toNat * 20)) (rd_T29 l0 a1)) (ds := []) #[false, false, false, false, false, false, false, false, false, false, false] (by kernel_rfl) rfl rfl ⟨hx141_0, hx141_1, hx141_2, hx141_3, hx141_4, hx141_5, hx141_6, hx141_7, hx141_8, hx141_9, hx141_10, hx141_11, hx141_12, hx141_13, hx141_14, hx141_15, hx141_16, hx141_17, hx141_18, hx141_19, hx142_0, hx142_1, hx142_2, hx142_3, hx142_4, hx142_5, hx142_6, hx142_7, hx142_8, hx142_9, hx142_10, hx142_11, hx142_12, hx142_13, hx142_14, hx142_15, hx142_16, hx142_17, hx142_18, hx142_19⟩ (fun hHeld => ?_); refine with_tabW api_Ep_33.tab5 api_Ep_33.bits5 (fun HT_ HW_ => ?_)
           generalize wr.drew = w17 at HO_0 HK HB hx141_0 hx141_1 hx141_10 hx141_11 hx141_12 hx141_13 hx141_14 hx141_15 hx141_16 hx141_17 hx141_18 hx141_19 hx141_2 hx141_3 hx141_4 hx141_5 hx141_6 hx141_7 hx141_8 hx141_9 hx142_0 hx142_1 hx142_10 hx142_11 hx142_12 hx142_13 hx142_14 hx142_15 hx142_16 hx142_17 hx142_18 hx142_19 hx142_2 hx142_3 hx142_4 hx142_5 hx142_6 hx142_7 hx142_8 hx142_9 hHeld ⊢
           refine pu 0 40 HT_ ?_
           refine pu 1 41 HT_ ?_
           refine pu 2 42 HT_ ?_
           refine pu 3 43 HT_ ?_
           refine pu 5 45 HT_ ?_
           refine pu 6 46 HT_ ?_
           refine pu 7 47 HT_ ?_
           refine take_ (i := 4) (N := some 44) (v := ?_) (a' := ?_) #[true, true, true, true, true, true, true, true, false, false, false] rfl rfl (take_ofW HT_.out HW_.out (by kernel_rfl)) (fun _ _ _ h => h) (Or.inl ⟨by rfl, ?_⟩) hHeld ?_ ?_
           rotate_left
           ·rintro w' ⟨s0, s1, s2, s3, s4, s5, s6, s7, s8, s9, s10, s11, s12, s13, s14, s15, s16, s17, s18, s19, s20, s21, s22, s23, s24, s25, s26, s27, s28, s29, s30, s31, s32, s33, s34, s35, s36, s37, s38, s39⟩
            first | (have hz_ := fun (a : Act) (o : Oper) (x : Operand) (ho : o.op = .load 29 x) (hx : a.eval x = _) => exec_load_at (P := Try.prog) (W := w') (cs := [_, _, _, _, _, _, _, _, _, _, _, _, _, _, _, _, _, _, _]) ho hx Try.underlying29 rfl (by kernel_rfl) s0 ⟨s1, s2, s3, s4, s5, s6, s7, s8, s9, s10, s11, s12, s13, s14, s15, s16, s17, s18, s19, trivial⟩; refine (hz_ _ _ (.tmp 43) ?_ ?_).trans ?_; (focus rfl); (focus (first | (with_reducible rfl) | (go_simp; done))); with_reducible rfl) | (have hz_ := fun (a : Act) (o : Oper) (x : Operand) (ho : o.op = .load 29 x) (hx : a.eval x = _) => exec_load_at (P := Try.prog) (W := w') (cs := [_, _, _, _, _, _, _, _, _, _, _, _, _, _, _, _, _, _, _]) ho hx Try.underlying29 rfl (by kernel_rfl) s20 ⟨s21, s22, s23, s24, s25, s26, s27, s28, s29, s30, s31, s32, s33, s34, s35, s36, s37, s38, s39, trivial⟩; refine (hz_ _ _ (.tmp 43) ?_ ?_).trans ?_; (focus rfl); (focus (first | (with_reducible rfl) | (go_simp; done))); with_reducible rfl) | (go_simp; with_reducible rfl)
           rotate_left
           ·simp only [Act.put, sA, s0, sS, i64_w, i32_w]
            rfl
           refine take_ (i := 8) (N := some 48) (v := ?_) (a' := ?_) #[true, true, true, true, true, true, true, true, true, false, false] rfl rfl (take_ofW HT_.out HW_.out (by kernel_rfl)) (fun _ _ _ h => h) (Or.inl ⟨by rfl, ?_⟩) hHeld ?_ ?_
           rotate_left
           ·rintro w' ⟨s0, s1, s2, s3, s4, s5, s6, s7, s8, s9, s10, s11, s12, s13, s14, s15, s16, s17, s18, s19, s20, s21, s22, s23, s24, s25, s26, s27, s28, s29, s30, s31, s32, s33, s34, s35, s36, s37, s38, s39⟩
            first | (have hz_ := fun (a : Act) (o : Oper) (x : Operand) (ho : o.op = .load 29 x) (hx : a.eval x = _) => exec_load_at (P := Try.prog) (W := w') (cs := [_, _, _, _, _, _, _, _, _, _, _, _, _, _, _, _, _, _, _]) ho hx Try.underlying29 rfl (by kernel_rfl) s0 ⟨s1, s2, s3, s4, s5, s6, s7, s8, s9, s10, s11, s12, s13, s14, s15, s16, s17, s18, s19, trivial⟩; refine (hz_ _ _ (.tmp 47) ?_ ?_).trans ?_; (focus rfl); (focus (first | (with_reducible rfl) | (go_simp; done))); with_reducible rfl) | (have hz_ := fun (a : Act) (o : Oper) (x : Operand) (ho : o.op = .load 29 x) (hx : a.eval x = _) => exec_load_at (P := Try.prog) (W := w') (cs := [_, _, _, _, _, _, _, _, _, _, _, _, _, _, _, _, _, _, _]) ho hx Try.underlying29 rfl (by kernel_rfl) s20 ⟨s21, s22, s23, s24, s25, s26, s27, s28, s29, s30, s31, s32, s33, s34, s35, s36, s37, s38, s39, trivial⟩; refine (hz_ _ _ (.tmp 47) ?_ ?_).trans ?_; (focus rfl); (focus (first | (with_reducible rfl) | (go_simp; done))); with_reducible rfl) | (go_simp; with_reducible rfl)
           rotate_left
           ·simp only [Act.put, sA, s0, sS, i64_w, i32_w]
            rfl
           refine one_ (i := 9) (N := some 49) #[true, true, true, true, true, true, true, true, true, true, false] rfl rfl (one_of HT_.out (by kernel_rfl)) (by decide) (fun K hK => ?_)
           refine goesW_ Try.func22 (by kernel_rfl) rfl #[.agg #[.int .i64 ((rd_T29 l0 (ji7)).f0), .int .i64 ((rd_T29 l0 (ji7)).f1), .string ((rd_T29 l0 (ji7)).f2), .string ((rd_T29 l0 (ji7)).f3), .string ((rd_T29 l0 (ji7)).f4), .int .i64 ((rd_T29 l0 (ji7)).f5), .int .i64 ((rd_T29 l0 (ji7)).f6), .int .i64 ((rd_T29 l0 (ji7)).f7), .int .i64 ((rd_T29 l0 (ji7)).f8), .bool ((rd_T29 l0 (ji7)).f9), .int .i64 ((rd_T29 l0 (ji7)).f10), .int .i64 ((rd_T29 l0 (ji7)).f11), .int .i64 ((rd_T29 l0 (ji7)).f12), .string ((rd_T29 l0 (ji7)).f13), .int .i64 ((rd_T29 l0 (ji7)).f14), .int .i64 ((rd_T29 l0 (ji7)).f15), .string ((rd_T29 l0 (ji7)).f16), .int .i64 ((rd_T29 l0 (ji7)).f17), .int .i64 ((rd_T29 l0 (ji7)).f18), .string ((rd_T29 l0 (ji7)).f19)], .agg #[.int .i64 ((rd_T29 l0 a1).f0), .int .i64 ((rd_T29 l0 a1).f1), .string ((rd_T29 l0 a1).f2), .string ((rd_T29 l0 a1).f3), .string ((rd_T29 l0 a1).f4), .int .i64 ((rd_T29 l0 a1).f5), .int .i64 ((rd_T29 l0 a1).f6), .int .i64 ((rd_T29 l0 a1).f7), .int .i64 ((rd_T29 l0 a1).f8), .bool ((rd_T29 l0 a1).f9), .int .i64 ((rd_T29 l0 a1).f10), .int .i64 ((rd_T29 l0 a1).f11), .int .i64 ((rd_T29 l0 a1).f12), .string ((rd_T29 l0 a1).f13), .int .i64 ((rd_T29 l0 a1).f14), .int .i64 ((rd_T29 l0 a1).f15), .string ((rd_T29 l0 a1).f16), .int .i64 ((rd_T29 l0 a1).f17), .int .i64 ((rd_T29 l0 a1).f18), .string ((rd_T29 l0 a1).f19)]] (by rfl) rfl rfl (by first | rfl | (go_simp; done)) (by (try simp only [List.map_toArray, List.map_cons, List.map_nil]); first | done | (simp only [hji7]; rfl) | rfl | (simp only [List.length_drop, List.length_take]; rfl)) ?_
           with_reducible refine (retain_older.calls _ _ _ _ _ _ _ _ _ _ _ _ _ _ _ _ _ _ _ _ _ _ _ _ _ _ _ _ _ _ _ _ _ _ _ _ _ _ _ _ _ _ _ A12.out).mono ?_
           rintro e w19 ⟨rfl, hb⟩
           have hbk_w19 := mkA hb
           have HS0_ := hs_ hb hHeld.1
           have HS1_ := hs_ hb hHeld.2.1
           have HS2_ := hs_ hb hHeld.2.2.1
           have HS3_ := hs_ hb hHeld.2.2.2.1
           have HS4_ := hs_ hb hHeld.2.2.2.2.1
           have HS5_ := hs_ hb hHeld.2.2.2.2.2.1
           have HS6_ := hs_ hb hHeld.2.2.2.2.2.2.1
           have HS7_ := hs_ hb hHeld.2.2.2.2.2.2.2.1
           have HS8_ := hs_ hb hHeld.2.2.2.2.2.2.2.2.1
           have HS9_ := hs_ hb hHeld.2.2.2.2.2.2.2.2.2.1
           have HS10_ := hs_ hb hHeld.2.2.2.2.2.2.2.2.2.2.1
           have HS11_ := hs_ hb hHeld.2.2.2.2.2.2.2.2.2.2.2.1
           have HS12_ := hs_ hb hHeld.2.2.2.2.2.2.2.2.2.2.2.2.1
           have HS13_ := hs_ hb hHeld.2.2.2.2.2.2.2.2.2.2.2.2.2.1
           have HS14_ := hs_ hb hHeld.2.2.2.2.2.2.2.2.2.2.2.2.2.2.1
           have HS15_ := hs_ hb hHeld.2.2.2.2.2.2.2.2.2.2.2.2.2.2.2.1
           have HS16_ := hs_ hb hHeld.2.2.2.2.2.2.2.2.2.2.2.2.2.2.2.2.1
           have HS17_ := hs_ hb hHeld.2.2.2.2.2.2.2.2.2.2.2.2.2.2.2.2.2.1
           have HS18_ := hs_ hb hHeld.2.2.2.2.2.2.2.2.2.2.2.2.2.2.2.2.2.2.1
           have HS19_ := hs_ hb hHeld.2.2.2.2.2.2.2.2.2.2.2.2.2.2.2.2.2.2.2.1
           have HS20_ := hs_ hb hHeld.2.2.2.2.2.2.2.2.2.2.2.2.2.2.2.2.2.2.2.2.1
           have HS21_ := hs_ hb hHeld.2.2.2.2.2.2.2.2.2.2.2.2.2.2.2.2.2.2.2.2.2.1
           have HS22_ := hs_ hb hHeld.2.2.2.2.2.2.2.2.2.2.2.2.2.2.2.2.2.2.2.2.2.2.1
           have HS23_ := hs_ hb hHeld.2.2.2.2.2.2.2.2.2.2.2.2.2.2.2.2.2.2.2.2.2.2.2.1
           have HS24_ := hs_ hb hHeld.2.2.2.2.2.2.2.2.2.2.2.2.2.2.2.2.2.2.2.2.2.2.2.2.1
           have HS25_ := hs_ hb hHeld.2.2.2.2.2.2.2.2.2.2.2.2.2.2.2.2.2.2.2.2.2.2.2.2.2.1
           have HS26_ := hs_ hb hHeld.2.2.2.2.2.2.2.2.2.2.2.2.2.2.2.2.2.2.2.2.2.2.2.2.2.2.1
           have HS27_ := hs_ hb hHeld.2.2.2.2.2.2.2.2.2.2.2.2.2.2.2.2.2.2.2.2.2.2.2.2.2.2.2.1
           have HS28_ := hs_ hb hHeld.2.2.2.2.2.2.2.2.2.2.2.2.2.2.2.2.2.2.2.2.2.2.2.2.2.2.2.2.1
           have HS29_ := hs_ hb hHeld.2.2.2.2.2.2.2.2.2.2.2.2.2.2.2.2.2.2.2.2.2.2.2.2.2.2.2.2.2.1
           have HS30_ := hs_ hb hHeld.2.2.2.2.2.2.2.2.2.2.2.2.2.2.2.2.2.2.2.2.2.2.2.2.2.2.2.2.2.2.1
           have HS31_ := hs_ hb hHeld.2.2.2.2.2.2.2.2.2.2.2.2.2.2.2.2.2.2.2.2.2.2.2.2.2.2.2.2.2.2.2.1
           have HS32_ := hs_ hb hHeld.2.2.2.2.2.2.2.2.2.2.2.2.2.2.2.2.2.2.2.2.2.2.2.2.2.2.2.2.2.2.2.2.1
           have HS33_ := hs_ hb hHeld.2.2.2.2.2.2.2.2.2.2.2.2.2.2.2.2.2.2.2.2.2.2.2.2.2.2.2.2.2.2.2.2.2.1
           have HS34_ := hs_ hb hHeld.2.2.2.2.2.2.2.2.2.2.2.2.2.2.2.2.2.2.2.2.2.2.2.2.2.2.2.2.2.2.2.2.2.2.1
           have HS35_ := hs_ hb hHeld.2.2.2.2.2.2.2.2.2.2.2.2.2.2.2.2.2.2.2.2.2.2.2.2.2.2.2.2.2.2.2.2.2.2.2.1
           have HS36_ := hs_ hb hHeld.2.2.2.2.2.2.2.2.2.2.2.2.2.2.2.2.2.2.2.2.2.2.2.2.2.2.2.2.2.2.2.2.2.2.2.2.1
           have HS37_ := hs_ hb hHeld.2.2.2.2.2.2.2.2.2.2.2.2.2.2.2.2.2.2.2.2.2.2.2.2.2.2.2.2.2.2.2.2.2.2.2.2.2.1
           have HS38_ := hs_ hb hHeld.2.2.2.2.2.2.2.2.2.2.2.2.2.2.2.2.2.2.2.2.2.2.2.2.2.2.2.2.2.2.2.2.2.2.2.2.2.2.1
           have HS39_ := hs_ hb hHeld.2.2.2.2.2.2.2.2.2.2.2.2.2.2.2.2.2.2.2.2.2.2.2.2.2.2.2.2.2.2.2.2.2.2.2.2.2.2.2
           refine ⟨_, rfl, ?_⟩
           have n0_ := mkA (Kd.R_below (Kd.R_y HO_0.out) hb)
           have n1_ := mkA (Kept.below (S := (fun k_ => P0_ k_)) (by repeat (first | (with_reducible first | exact HK.out | apply Kept.alloc | apply Kept.drewN | apply Kept.drew) | exact HK.out)) hb)
           have n2_ := mkA (below_step (below_y HB.out) hb)
           clear HO_0 HK HB
           have HO_0 := n0_
           have HK := n1_
           have HB := n2_
           clear n0_ n1_ n2_
           (try clear hb)
           (try clear hb2)
           (try clear hk)
           (try clear hi)
           refine hK.out _ _ ⟨HS0_, HS1_, HS2_, HS3_, HS4_, HS5_, HS6_, HS7_, HS8_, HS9_, HS10_, HS11_, HS12_, HS13_, HS14_, HS15_, HS16_, HS17_, HS18_, HS19_, HS20_, HS21_, HS22_, HS23_, HS24_, HS25_, HS26_, HS27_, HS28_, HS29_, HS30_, HS31_, HS32_, HS33_, HS34_, HS35_, HS36_, HS37_, HS38_, HS39_⟩ (fun hHeld => ?_)
           clear hK K
           refine norm_ (a' := ?_) ?_ ?_
           rotate_left
           ·show Act.put _ (some 49) _ = _
            simp only [Act.put, sA, s0, sS, i64_w, i32_w]
            rfl
           refine pu 10 50 HT_ ?_
           refine done_ (done_of HT_.out (by kernel_rfl)) ?_
           try go_wp2
           go_roundg k1
           case measure => have := HK1.out; omega
           case rel => exact ⟨(x10_1), (ji7), (by first | rfl | (simp; done) | (simp [*]; done)), (by first | rfl | (simp; done) | (simp only [← hji7] <;> (first | rfl | simp)) | (simp [*]; done)), H', ⟨by have := HK1.out; omega⟩, ⟨by (with_reducible repeat (first | apply Kd.R_alloc | apply Kd.R_drewN | apply Kd.R_drew)); exact HO_0.out⟩, ⟨by repeat (first | (with_reducible first | exact HK.out | apply Kept.alloc | apply Kept.drewN | apply Kept.drew) | exact HK.out)⟩, ⟨below_y HB.out⟩⟩
        ·rw [if_neg c11] at H
         exact absurd H (by simp)
       ·rw [if_neg c10] at H
        exact absurd H (by simp)
      ·rw [if_neg c9] at H
       exact absurd H (by simp)
     ·rw [if_neg c8] at H
      exact absurd H (by simp)
    ·rw [if_neg c6] at H
     have c6b0 : decide (x10_1 < x11_1) = false := decide_eq_false c6
     clear c6
     have H' := mkA H
     clear H
     go_wp2
     try simp only [Act.put, sA, s0, sS]
     go_loopg [13] k1 (fun kq v13 w' => ∃ (x0_2 : List (S29)) (x13_2 : Int), v13 = .int .i64 x13_2 ∧ Aside0 (api_Ep_33.l1 kq x0_2 x10_1 x13_2 = some r) ∧ Aside0 (kq ≤ k1) ∧ Aside0 (Kd.R k29 29 w' w0.heap.size (fun k_ => (P0_ k_ ∨ w.heap.size ≤ k_)) u9000_ x0_2) ∧ Aside0 (Kept w w' (fun k_ => P0_ k_)) ∧ Aside0 (Below w0.heap.size w0 w'))
     case atStart => exact ⟨(l0), (a1), (by first | rfl | (simp; done) | (simp [*]; done)), H', ⟨Nat.le_refl _⟩, ⟨by (with_reducible repeat (first | apply Kd.R_alloc | apply Kd.R_drewN | apply Kd.R_drew)); exact HO_0.out⟩, ⟨by repeat (first | (with_reducible first | exact HK.out | apply Kept.alloc | apply Kept.drewN | apply Kept.drew) | exact HK.out)⟩, ⟨below_y HB.out⟩⟩
     case round =>
      clear H'
      try clear c1
      try clear p1
      try clear q1
      try clear hx1
      try clear c2
      try clear p2
      try clear c3
      try clear c5
      try clear c5b0
      try clear c5b1
      try clear c6
      try clear c6b0
      try clear p6
      try clear c8
      try clear c8b0
      try clear c9
      try clear c9b0
      try clear c10
      try clear c10b0
      try clear c11
      try clear c11b0
      try clear c13
      try clear c13b0
      try clear p14
      try clear q14
      try clear hx14
      try clear hx141_0
      try clear hx141_1
      try clear hx141_10
      try clear hx141_11
      try clear hx141_12
      try clear hx141_13
      try clear hx141_14
      try clear hx141_15
      try clear hx141_16
      try clear hx141_17
      try clear hx141_18
      try clear hx141_19
      try clear hx141_2
      try clear hx141_3
      try clear hx141_4
      try clear hx141_5
      try clear hx141_6
      try clear hx141_7
      try clear hx141_8
      try clear hx141_9
      try clear hx142_0
      try clear hx142_1
      try clear hx142_10
      try clear hx142_11
      try clear hx142_12
      try clear hx142_13
      try clear hx142_14
      try clear hx142_15
      try clear hx142_16
      try clear hx142_17
      try clear hx142_18
      try clear hx142_19
      try clear hx142_2
      try clear hx142_3
      try clear hx142_4
      try clear hx142_5
      try clear hx142_6
      try clear hx142_7
      try clear hx142_8
      try clear hx142_9
      try clear p141
      try clear p142
      try clear p2
      try clear q141
      try clear q142
      obtain ⟨x0_2, x13_2, rfl, HA, HK2, HO_0, HK, HB⟩ := hrel
      cases gk with
      | zero => exact absurd HA.out (by simp [api_Ep_33.l1])
      | succ k2 =>
       have H := HA.out
       clear HA
       simp only [api_Ep_33.l1] at H
       by_cases c20 : x13_2 < (wrap64 (x10_1 - 1))
       ·rw [if_pos c20] at H
        have c20b0 : decide (x13_2 < (wrap64 (x10_1 - 1))) = true := decide_eq_true c20
        clear c20
        obtain ⟨ji21, hji21⟩ : ∃ j_ : Int, (wrap64 (x13_2 + 1)) = j_ := ⟨_, rfl⟩
        replace H : (if 0 ≤ (ji21) then (if (ji21) < (x0_2.length : Int) then (if 0 ≤ x13_2 then (if x13_2 < (x0_2.length : Int) then (api_Ep_33.l1 k2 ((x0_2.set (x13_2 : Int).toNat (⟨(rd_T29 x0_2 (ji21)).f0, (rd_T29 x0_2 (ji21)).f1, (rd_T29 x0_2 (ji21)).f2, (rd_T29 x0_2 (ji21)).f3, (rd_T29 x0_2 (ji21)).f4, (rd_T29 x0_2 (ji21)).f5, (rd_T29 x0_2 (ji21)).f6, (rd_T29 x0_2 (ji21)).f7, (rd_T29 x0_2 (ji21)).f8, (rd_T29 x0_2 (ji21)).f9, (rd_T29 x0_2 (ji21)).f10, (rd_T29 x0_2 (ji21)).f11, (rd_T29 x0_2 (ji21)).f12, (rd_T29 x0_2 (ji21)).f13, (rd_T29 x0_2 (ji21)).f14, (rd_T29 x0_2 (ji21)).f15, (rd_T29 x0_2 (ji21)).f16, (rd_T29 x0_2 (ji21)).f17, (rd_T29 x0_2 (ji21)).f18, (rd_T29 x0_2 (ji21)).f19⟩ : S29)).set ((ji21) : Int).toNat (⟨(rd_T29 x0_2 x13_2).f0, (rd_T29 x0_2 x13_2).f1, (rd_T29 x0_2 x13_2).f2, (rd_T29 x0_2 x13_2).f3, (rd_T29 x0_2 x13_2).f4, (rd_T29 x0_2 x13_2).f5, (rd_T29 x0_2 x13_2).f6, (rd_T29 x0_2 x13_2).f7, (rd_T29 x0_2 x13_2).f8, (rd_T29 x0_2 x13_2).f9, (rd_T29 x0_2 x13_2).f10, (rd_T29 x0_2 x13_2).f11, (rd_T29 x0_2 x13_2).f12, (rd_T29 x0_2 x13_2).f13, (rd_T29 x0_2 x13_2).f14, (rd_T29 x0_2 x13_2).f15, (rd_T29 x0_2 x13_2).f16, (rd_T29 x0_2 x13_2).f17, (rd_T29 x0_2 x13_2).f18, (rd_T29 x0_2 x13_2).f19⟩ : S29)) x10_1 ji21) else (none)) else (none)) else (none)) else (none)) = some r := by first | (rw [hji21] at H; exact H) | (simp only [hji21] at H ⊢; exact H)
        have hji21w : (IntKind.i64.wrap (x13_2 + 1)) = ji21 := (i64_w _).trans hji21
        by_cases c22 : 0 ≤ (ji21)
        ·rw [if_pos c22] at H
         have c22b0 : decide (0 ≤ (ji21)) = true := decide_eq_true c22
         clear c22
         by_cases c23 : (ji21) < (x0_2.length : Int)
         ·rw [if_pos c23] at H
          have c23b0 : decide ((ji21) < (x0_2.length : Int)) = true := decide_eq_true c23
          clear c23
          by_cases c24 : 0 ≤ x13_2
          ·rw [if_pos c24] at H
           have c24b0 : decide (0 ≤ x13_2) = true := decide_eq_true c24
           clear c24
           by_cases c25 : x13_2 < (x0_2.length : Int)
           ·rw [if_pos c25] at H
            have c25b0 : decide (x13_2 < (x0_2.length : Int)) = true := decide_eq_true c25
            clear c25
            obtain ⟨y146, hy146⟩ : ∃ y_ : List (S29), y_ = (x0_2.set (x13_2 : Int).toNat (⟨(rd_T29 x0_2 (ji21)).f0, (rd_T29 x0_2 (ji21)).f1, (rd_T29 x0_2 (ji21)).f2, (rd_T29 x0_2 (ji21)).f3, (rd_T29 x0_2 (ji21)).f4, (rd_T29 x0_2 (ji21)).f5, (rd_T29 x0_2 (ji21)).f6, (rd_T29 x0_2 (ji21)).f7, (rd_T29 x0_2 (ji21)).f8, (rd_T29 x0_2 (ji21)).f9, (rd_T29 x0_2 (ji21)).f10, (rd_T29 x0_2 (ji21)).f11, (rd_T29 x0_2 (ji21)).f12, (rd_T29 x0_2 (ji21)).f13, (rd_T29 x0_2 (ji21)).f14, (rd_T29 x0_2 (ji21)).f15, (rd_T29 x0_2 (ji21)).f16, (rd_T29 x0_2 (ji21)).f17, (rd_T29 x0_2 (ji21)).f18, (rd_T29 x0_2 (ji21)).f19⟩ : S29)) := ⟨_, rfl⟩
            replace H : (api_Ep_33.l1 k2 (y146.set ((ji21) : Int).toNat (⟨(rd_T29 x0_2 x13_2).f0, (rd_T29 x0_2 x13_2).f1, (rd_T29 x0_2 x13_2).f2, (rd_T29 x0_2 x13_2).f3, (rd_T29 x0_2 x13_2).f4, (rd_T29 x0_2 x13_2).f5, (rd_T29 x0_2 x13_2).f6, (rd_T29 x0_2 x13_2).f7, (rd_T29 x0_2 x13_2).f8, (rd_T29 x0_2 x13_2).f9, (rd_T29 x0_2 x13_2).f10, (rd_T29 x0_2 x13_2).f11, (rd_T29 x0_2 x13_2).f12, (rd_T29 x0_2 x13_2).f13, (rd_T29 x0_2 x13_2).f14, (rd_T29 x0_2 x13_2).f15, (rd_T29 x0_2 x13_2).f16, (rd_T29 x0_2 x13_2).f17, (rd_T29 x0_2 x13_2).f18, (rd_T29 x0_2 x13_2).f19⟩ : S29)) x10_1 ji21) = some r := by first | (rw [hy146]; with_reducible exact H) | (have H2_ := (Option.bind_some _ _).symm.trans H; rw [hy146]; with_reducible exact H2_) | (have H2_ := (Option.bind_some _ _).symm.trans H; with_reducible exact H2_) | with_reducible exact H | (rw [hy146]; exact H) | exact H
            have Ny146 := mkA hy146
            clear hy146
            obtain ⟨y147, hy147⟩ : ∃ y_ : List (S29), y_ = (y146.set ((ji21) : Int).toNat (⟨(rd_T29 x0_2 x13_2).f0, (rd_T29 x0_2 x13_2).f1, (rd_T29 x0_2 x13_2).f2, (rd_T29 x0_2 x13_2).f3, (rd_T29 x0_2 x13_2).f4, (rd_T29 x0_2 x13_2).f5, (rd_T29 x0_2 x13_2).f6, (rd_T29 x0_2 x13_2).f7, (rd_T29 x0_2 x13_2).f8, (rd_T29 x0_2 x13_2).f9, (rd_T29 x0_2 x13_2).f10, (rd_T29 x0_2 x13_2).f11, (rd_T29 x0_2 x13_2).f12, (rd_T29 x0_2 x13_2).f13, (rd_T29 x0_2 x13_2).f14, (rd_T29 x0_2 x13_2).f15, (rd_T29 x0_2 x13_2).f16, (rd_T29 x0_2 x13_2).f17, (rd_T29 x0_2 x13_2).f18, (rd_T29 x0_2 x13_2).f19⟩ : S29)) := ⟨_, rfl⟩
            replace H : (api_Ep_33.l1 k2 y147 x10_1 ji21) = some r := by first | (rw [hy147]; with_reducible exact H) | (have H2_ := (Option.bind_some _ _).symm.trans H; rw [hy147]; with_reducible exact H2_) | (have H2_ := (Option.bind_some _ _).symm.trans H; with_reducible exact H2_) | with_reducible exact H | (rw [hy147]; exact H) | exact H
            have Ny147 := mkA hy147
            clear hy147
            as_aux_lemma =>
             have H' := mkA H
             clear H
             try go_wp2
             have n0_ := mkA (Kd.R_drew HO_0.out)
             have n1_ := mkA (Kept.drew HK.out)
             have n2_ := mkA (below_drew1 HB.out)
             clear HO_0 HK HB
             have HO_0 := n0_
             have HK := n1_
             have HB := n2_
             clear n0_ n1_ n2_
             obtain ⟨Ao29, co29, eo29⟩ := Kd.R_slice HO_0.out
             (first | subst eo29 | (injection eo29 with f1_ f2_ f3_; have f4_ := f1_.symm; have f5_ := f3_.symm; clear f1_ f2_ f3_; subst f4_; subst f5_))
             have p144 : 0 ≤ ((ji21) : Int) := odt
             have q144 : (ji21) < (x0_2.length : Int) := odt
             obtain ⟨ad144, e144, hx144_0, hx144_1, hx144_2, hx144_3, hx144_4, hx144_5, hx144_6, hx144_7, hx144_8, hx144_9, hx144_10, hx144_11, hx144_12, hx144_13, hx144_14, hx144_15, hx144_16, hx144_17, hx144_18, hx144_19⟩ := at_T29 (Kd.R_reads' HO_0.out).2.2 (ji21) p144 q144
             cases e144
             replace p144 := eq_true p144
             replace q144 := eq_true q144
             have p145 : 0 ≤ (x13_2 : Int) := odt
             have q145 : x13_2 < (x0_2.length : Int) := odt
             obtain ⟨ad145, e145, hx145_0, hx145_1, hx145_2, hx145_3, hx145_4, hx145_5, hx145_6, hx145_7, hx145_8, hx145_9, hx145_10, hx145_11, hx145_12, hx145_13, hx145_14, hx145_15, hx145_16, hx145_17, hx145_18, hx145_19⟩ := at_T29 (Kd.R_reads' HO_0.out).2.2 x13_2 p145 q145
             obtain rfl : ad144 = ad145 := (by injection e145)
             replace p145 := eq_true p145
             replace q145 := eq_true q145
             have p26 : 0 ≤ (x13_2 : Int) := odt
             have q26 : (x13_2 : Int) < ((x0_2.length : Int) : Int) := odt
             obtain ⟨go26, co26, eo26, gb26, gl26, cl26, HG26⟩ := Kd.R_form HO_0.out (by omega)
             (first | cases eo26 | (injection eo26 with ea_ en_ ec_; (first | subst ea_ | (injection ea_ with ea_; subst ea_)); subst ec_; clear en_))
             have GB26 := mkA gb26
             have GG26 := mkA HG26
             clear gb26 gl26 HG26
             have HMgo26 := mkA (show (P0_ go26 ∨ w.heap.size ≤ go26) from (HO_0.out.1 _ rfl))
             (first | simp only [add_plain] at hx144_0 | skip)
             (first | simp only [add_plain] at hx144_1 | skip)
             (first | simp only [add_plain] at hx144_2 | skip)
             (first | simp only [add_plain] at hx144_3 | skip)
             (first | simp only [add_plain] at hx144_4 | skip)
             (first | simp only [add_plain] at hx144_5 | skip)
             (first | simp only [add_plain] at hx144_6 | skip)
             (first | simp only [add_plain] at hx144_7 | skip)
             (first | simp only [add_plain] at hx144_8 | skip)
             (first | simp only [add_plain] at hx144_9 | skip)
             (first | simp only [add_plain] at hx144_10 | skip)
             (first | simp only [add_plain] at hx144_11 | skip)
             (first | simp only [add_plain] at hx144_12 | skip)
             (first | simp only [add_plain] at hx144_13 | skip)
             (first | simp only [add_plain] at hx144_14 | skip)
             (first | simp only [add_plain] at hx144_15 | skip)
             (first | simp only [add_plain] at hx144_16 | skip)
             (first | simp only [add_plain] at hx144_17 | skip)
             (first | simp only [add_plain] at hx144_18 | skip)
             (first | simp only [add_plain] at hx144_19 | skip)
             (first | simp only [add_plain] at hx145_0 | skip)
             (first | simp only [add_plain] at hx145_1 | skip)
             (first | simp only [add_plain] at hx145_2 | skip)
             (first | simp only [add_plain] at hx145_3 | skip)
             (first | simp only [add_plain] at hx145_4 | skip)
             (first | simp only [add_plain] at hx145_5 | skip)
             (first | simp only [add_plain] at hx145_6 | skip)
             (first | simp only [add_plain] at hx145_7 | skip)
             (first | simp only [add_plain] at hx145_8 | skip)
             (first | simp only [add_plain] at hx145_9 | skip)
             (first | simp only [add_plain] at hx145_10 | skip)
             (first | simp only [add_plain] at hx145_11 | skip)
             (first | simp only [add_plain] at hx145_12 | skip)
             (first | simp only [add_plain] at hx145_13 | skip)
             (first | simp only [add_plain] at hx145_14 | skip)
             (first | simp only [add_plain] at hx145_15 | skip)
             (first | simp only [add_plain] at hx145_16 | skip)
             (first | simp only [add_plain] at hx145_17 | skip)
             (first | simp only [add_plain] at hx145_18 | skip)
             (first | simp only [add_plain] at hx145_19 | skip)
             obtain ⟨ce26, hcl26, hM26, hcc26, hfr26⟩ := Kd.R_elem HO_0.out z29 (x13_2 : Int) p26 q26
             obtain rfl := k29_openM hM26
             have HE26 := mkA (show World.there _ go26 ((x13_2 : Int).toNat * k29.sz + 0) 20 from there_of hcl26 hcc26 hfr26)
             clear hcl26 hcc26 hfr26 hM26
             replace p26 := eq_true p26
             replace q26 := eq_true q26
             obtain ⟨ce30, hcl30, hM30, hcc30, hfr30⟩ := Kd.R_elem HO_0.out z29 (x13_2 : Int) (odt) (by have h_ : (x13_2 : Int) < ((x0_2.length : Int) : Int) := odt; first | exact h_ | (have e_ := (Kd.R_reads' HO_0.out).1; omega) | simpa using h_)
             obtain rfl := k29_openM hM30
             have HP30 := (Kd.R_seg HO_0.out (x13_2 : Int) (odt) (by have h_ : (x13_2 : Int) < ((x0_2.length : Int) : Int) := odt; first | exact h_ | (have e_ := (Kd.R_reads' HO_0.out).1; omega) | simpa using h_) (seg := [.int .i64 ((rd_T29 x0_2 (ji21)).f0), .int .i64 ((rd_T29 x0_2 (ji21)).f1), .string ((rd_T29 x0_2 (ji21)).f2), .string ((rd_T29 x0_2 (ji21)).f3), .string ((rd_T29 x0_2 (ji21)).f4), .int .i64 ((rd_T29 x0_2 (ji21)).f5), .int .i64 ((rd_T29 x0_2 (ji21)).f6), .int .i64 ((rd_T29 x0_2 (ji21)).f7), .int .i64 ((rd_T29 x0_2 (ji21)).f8), .bool ((rd_T29 x0_2 (ji21)).f9), .int .i64 ((rd_T29 x0_2 (ji21)).f10), .int .i64 ((rd_T29 x0_2 (ji21)).f11), .int .i64 ((rd_T29 x0_2 (ji21)).f12), .string ((rd_T29 x0_2 (ji21)).f13), .int .i64 ((rd_T29 x0_2 (ji21)).f14), .int .i64 ((rd_T29 x0_2 (ji21)).f15), .string ((rd_T29 x0_2 (ji21)).f16), .int .i64 ((rd_T29 x0_2 (ji21)).f17), .int .i64 ((rd_T29 x0_2 (ji21)).f18), .string ((rd_T29 x0_2 (ji21)).f19)]) (j := 0) hcl30 hcc30 (show 20 ≤ 20 from by decide) (x' := (⟨(rd_T29 x0_2 (ji21)).f0, (rd_T29 x0_2 (ji21)).f1, (rd_T29 x0_2 (ji21)).f2, (rd_T29 x0_2 (ji21)).f3, (rd_T29 x0_2 (ji21)).f4, (rd_T29 x0_2 (ji21)).f5, (rd_T29 x0_2 (ji21)).f6, (rd_T29 x0_2 (ji21)).f7, (rd_T29 x0_2 (ji21)).f8, (rd_T29 x0_2 (ji21)).f9, (rd_T29 x0_2 (ji21)).f10, (rd_T29 x0_2 (ji21)).f11, (rd_T29 x0_2 (ji21)).f12, (rd_T29 x0_2 (ji21)).f13, (rd_T29 x0_2 (ji21)).f14, (rd_T29 x0_2 (ji21)).f15, (rd_T29 x0_2 (ji21)).f16, (rd_T29 x0_2 (ji21)).f17, (rd_T29 x0_2 (ji21)).f18, (rd_T29 x0_2 (ji21)).f19⟩ : S29)) (k29_mkM _ _ _ (⟨(rd_T29 x0_2 (ji21)).f0, (rd_T29 x0_2 (ji21)).f1, (rd_T29 x0_2 (ji21)).f2, (rd_T29 x0_2 (ji21)).f3, (rd_T29 x0_2 (ji21)).f4, (rd_T29 x0_2 (ji21)).f5, (rd_T29 x0_2 (ji21)).f6, (rd_T29 x0_2 (ji21)).f7, (rd_T29 x0_2 (ji21)).f8, (rd_T29 x0_2 (ji21)).f9, (rd_T29 x0_2 (ji21)).f10, (rd_T29 x0_2 (ji21)).f11, (rd_T29 x0_2 (ji21)).f12, (rd_T29 x0_2 (ji21)).f13, (rd_T29 x0_2 (ji21)).f14, (rd_T29 x0_2 (ji21)).f15, (rd_T29 x0_2 (ji21)).f16, (rd_T29 x0_2 (ji21)).f17, (rd_T29 x0_2 (ji21)).f18, (rd_T29 x0_2 (ji21)).f19⟩ : S29) ) (fun _ hk => hk)).1
             rw [← Ny146.out] at HP30
             have HQ30 := mkA HP30
             clear hcl30 hcc30 hfr30 hM30 HP30
             have p27 : 0 ≤ ((ji21) : Int) := odt
             have q27 : ((ji21) : Int) < ((x0_2.length : Int) : Int) := odt
             obtain ⟨ce27, hcl27, hM27, hcc27, hfr27⟩ := Kd.R_elem HQ30.out z29 ((ji21) : Int) p27 q27
             obtain rfl := k29_openM hM27
             have HE27 := mkA (show World.there _ go26 (((ji21) : Int).toNat * k29.sz + 0) 20 from there_of hcl27 hcc27 hfr27)
             clear hcl27 hcc27 hfr27 hM27
             replace p27 := eq_true p27
             replace q27 := eq_true q27
             obtain ⟨ce31, hcl31, hM31, hcc31, hfr31⟩ := Kd.R_elem HQ30.out z29 ((ji21) : Int) (odt) (by have h_ : ((ji21) : Int) < ((x0_2.length : Int) : Int) := odt; first | exact h_ | (have e_ := (Kd.R_reads' HO_0.out).1; omega) | simpa using h_)
             obtain rfl := k29_openM hM31
             have HP31 := (Kd.R_seg HQ30.out ((ji21) : Int) (odt) (by have h_ : ((ji21) : Int) < ((x0_2.length : Int) : Int) := odt; first | exact h_ | (have e_ := (Kd.R_reads' HO_0.out).1; omega) | simpa using h_) (seg := [.int .i64 ((rd_T29 x0_2 x13_2).f0), .int .i64 ((rd_T29 x0_2 x13_2).f1), .string ((rd_T29 x0_2 x13_2).f2), .string ((rd_T29 x0_2 x13_2).f3), .string ((rd_T29 x0_2 x13_2).f4), .int .i64 ((rd_T29 x0_2 x13_2).f5), .int .i64 ((rd_T29 x0_2 x13_2).f6), .int .i64 ((rd_T29 x0_2 x13_2).f7), .int .i64 ((rd_T29 x0_2 x13_2).f8), .bool ((rd_T29 x0_2 x13_2).f9), .int .i64 ((rd_T29 x0_2 x13_2).f10), .int .i64 ((rd_T29 x0_2 x13_2).f11), .int .i64 ((rd_T29 x0_2 x13_2).f12), .string ((rd_T29 x0_2 x13_2).f13), .int .i64 ((rd_T29 x0_2 x13_2).f14), .int .i64 ((rd_T29 x0_2 x13_2).f15), .string ((rd_T29 x0_2 x13_2).f16), .int .i64 ((rd_T29 x0_2 x13_2).f17), .int .i64 ((rd_T29 x0_2 x13_2).f18), .string ((rd_T29 x0_2 x13_2).f19)]) (j := 0) hcl31 hcc31 (show 20 ≤ 20 from by decide) (x' := (⟨(rd_T29 x0_2 x13_2).f0, (rd_T29 x0_2 x13_2).f1, (rd_T29 x0_2 x13_2).f2, (rd_T29 x0_2 x13_2).f3, (rd_T29 x0_2 x13_2).f4, (rd_T29 x0_2 x13_2).f5, (rd_T29 x0_2 x13_2).f6, (rd_T29 x0_2 x13_2).f7, (rd_T29 x0_2 x13_2).f8, (rd_T29 x0_2 x13_2).f9, (rd_T29 x0_2 x13_2).f10, (rd_T29 x0_2 x13_2).f11, (rd_T29 x0_2 x13_2).f12, (rd_T29 x0_2 x13_2).f13, (rd_T29 x0_2 x13_2).f14, (rd_T29 x0_2 x13_2).f15, (rd_T29 x0_2 x13_2).f16, (rd_T29 x0_2 x13_2).f17, (rd_T29 x0_2 x13_2).f18, (rd_T29 x0_2 x13_2).f19⟩ : S29)) (k29_mkM _ _ _ (⟨(rd_T29 x0_2 x13_2).f0, (rd_T29 x0_2 x13_2).f1, (rd_T29 x0_2 x13_2).f2, (rd_T29 x0_2 x13_2).f3, (rd_T29 x0_2 x13_2).f4, (rd_T29 x0_2 x13_2).f5, (rd_T29 x0_2 x13_2).f6, (rd_T29 x0_2 x13_2).f7, (rd_T29 x0_2 x13_2).f8, (rd_T29 x0_2 x13_2).f9, (rd_T29 x0_2 x13_2).f10, (rd_T29 x0_2 x13_2).f11, (rd_T29 x0_2 x13_2).f12, (rd_T29 x0_2 x13_2).f13, (rd_T29 x0_2 x13_2).f14, (rd_T29 x0_2 x13_2).f15, (rd_T29 x0_2 x13_2).f16, (rd_T29 x0_2 x13_2).f17, (rd_T29 x0_2 x13_2).f18, (rd_T29 x0_2 x13_2).f19⟩ : S29) ) (fun _ hk => hk)).1
             rw [← Ny147.out] at HP31
             have HQ31 := mkA HP31
             clear hcl31 hcc31 hfr31 hM31 HP31
             refine start_ (n := 18) (S := fun w' => w'.cell? ⟨go26, (((ji21)).toNat * 20), none⟩ = some (.int .i64 ((rd_T29 x0_2 (ji21)).f0)) ∧ w'.cell? ⟨go26, (((ji21)).toNat * 20) + 1, none⟩ = some (.int .i64 ((rd_T29 x0_2 (ji21)).f1)) ∧ w'.cell? ⟨go26, (((ji21)).toNat * 20) + 2, none⟩ = some (.string ((rd_T29 x0_2 (ji21)).f2)) ∧ w'.cell? ⟨go26, (((ji21)).toNat * 20) + 3, none⟩ = some (.string ((rd_T29 x0_2 (ji21)).f3)) ∧ w'.cell? ⟨go26, (((ji21)).toNat * 20) + 4, none⟩ = some (.string ((rd_T29 x0_2 (ji21)).f4)) ∧ w'.cell? ⟨go26, (((ji21)).toNat * 20) + 5, none⟩ = some (.int .i64 ((rd_T29 x0_2 (ji21)).f5)) ∧ w'.cell? ⟨go26, (((ji21)).toNat * 20) + 6, none⟩ = some (.int .i64 ((rd_T29 x0_2 (ji21)).f6)) ∧ w'.cell? ⟨go26, (((ji21)).toNat * 20) + 7, none⟩ = some (.int .i64 ((rd_T29 x0_2 (ji21)).f7)) ∧ w'.cell? ⟨go26, (((ji21)).toNat * 20) + 8, none⟩ = some (.int .i64 ((rd_T29 x0_2 (ji21)).f8)) ∧ w'.cell? ⟨go26, (((ji21)).toNat * 20) + 9, none⟩ = some (.bool ((rd_T29 x0_2 (ji21)).f9)) ∧ w'.cell? ⟨go26, (((ji21)).toNat * 20) + 10, none⟩ = some (.int .i64 ((rd_T29 x0_2 (ji21)).f10)) ∧ w'.cell? ⟨go26, (((ji21)).toNat * 20) + 11, none⟩ = some (.int .i64 ((rd_T29 x0_2 (ji21)).f11)) ∧ w'.cell? ⟨go26, (((ji21)).toNat * 20) + 12, none⟩ = some (.int .i64 ((rd_T29 x0_2 (ji21)).f12)) ∧ w'.cell? ⟨go26, (((ji21)).toNat * 20) + 13, none⟩ = some (.string ((rd_T29 x0_2 (ji21)).f13)) ∧ w'.cell? ⟨go26, (((ji21)).toNat * 20) + 14, none⟩ = some (.int .i64 ((rd_T29 x0_2 (ji21)).f14)) ∧ w'.cell? ⟨go26, (((ji21)).toNat * 20) + 15, none⟩ = some (.int .i64 ((rd_T29 x0_2 (ji21)).f15)) ∧ w'.cell? ⟨go26, (((ji21)).toNat * 20) + 16, none⟩ = some (.string ((rd_T29 x0_2 (ji21)).f16)) ∧ w'.cell? ⟨go26, (((ji21)).toNat * 20) + 17, none⟩ = some (.int .i64 ((rd_T29 x0_2 (ji21)).f17)) ∧ w'.cell? ⟨go26, (((ji21)).toNat * 20) + 18, none⟩ = some (.int .i64 ((rd_T29 x0_2 (ji21)).f18)) ∧ w'.cell? ⟨go26, (((ji21)).toNat * 20) + 19, none⟩ = some (.string ((rd_T29 x0_2 (ji21)).f19)) ∧ w'.cell? ⟨go26, ((x13_2).toNat * 20), none⟩ = some (.int .i64 ((rd_T29 x0_2 x13_2).f0)) ∧ w'.cell? ⟨go26, ((x13_2).toNat * 20) + 1, none⟩ = some (.int .i64 ((rd_T29 x0_2 x13_2).f1)) ∧ w'.cell? ⟨go26, ((x13_2).toNat * 20) + 2, none⟩ = some (.string ((rd_T29 x0_2 x13_2).f2)) ∧ w'.cell? ⟨go26, ((x13_2).toNat * 20) + 3, none⟩ = some (.string ((rd_T29 x0_2 x13_2).f3)) ∧ w'.cell? ⟨go26, ((x13_2).toNat * 20) + 4, none⟩ = some (.string ((rd_T29 x0_2 x13_2).f4)) ∧ w'.cell? ⟨go26, ((x13_2).toNat * 20) + 5, none⟩ = some (.int .i64 ((rd_T29 x0_2 x13_2).f5)) ∧ w'.cell? ⟨go26, ((x13_2).toNat * 20) + 6, none⟩ = some (.int .i64 ((rd_T29 x0_2 x13_2).f6)) ∧ w'.cell? ⟨go26, ((x13_2).toNat * 20) + 7, none⟩ = some (.int .i64 ((rd_T29 x0_2 x13_2).f7)) ∧ w'.cell? ⟨go26, ((x13_2).toNat * 20) + 8, none⟩ = some (.int .i64 ((rd_T29 x0_2 x13_2).f8)) ∧ w'.cell? ⟨go26, ((x13_2).toNat * 20) + 9, none⟩ = some (.bool ((rd_T29 x0_2 x13_2).f9)) ∧ w'.cell? ⟨go26, ((x13_2).toNat * 20) + 10, none⟩ = some (.int .i64 ((rd_T29 x0_2 x13_2).f10)) ∧ w'.cell? ⟨go26, ((x13_2).toNat * 20) + 11, none⟩ = some (.int .i64 ((rd_T29 x0_2 x13_2).f11)) ∧ w'.cell? ⟨go26, ((x13_2).toNat * 20) + 12, none⟩ = some (.int .i64 ((rd_T29 x0_2 x13_2).f12)) ∧ w'.cell? ⟨go26, ((x13_2).toNat * 20) + 13, none⟩ = some (.string ((rd_T29 x0_2 x13_2).f13)) ∧ w'.cell? ⟨go26, ((x13_2).toNat * 20) + 14, none⟩ = some (.int .i64 ((rd_T29 x0_2 x13_2).f14)) ∧ w'.cell? ⟨go26, ((x13_2).toNat * 20) + 15, none⟩ = some (.int .i64 ((rd_T29 x0_2 x13_2).f15)) ∧ w'.cell? ⟨go26, ((x13_2).toNat * 20) + 16, none⟩ = some (.string ((rd_T29 x0_2 x13_2).f16)) ∧ w'.cell? ⟨go26, ((x13_2).toNat * 20) + 17, none⟩ = some (.int .i64 ((rd_T29 x0_2 x13_2).f17)) ∧ w'.cell? ⟨go26, ((x13_2).toNat * 20) + 18, none⟩ = some (.int .i64 ((rd_T29 x0_2 x13_2).f18)) ∧ w'.cell? ⟨go26, ((x13_2).toNat * 20) + 19, none⟩ = some (.string ((rd_T29 x0_2 x13_2).f19))) (ds := [15, 17]) #[false, false, false, false, false, false, false, false, false, false, false, false, false, false, false, false, false, false] (by kernel_rfl) rfl rfl ⟨hx144_0, hx144_1, hx144_2, hx144_3, hx144_4, hx144_5, hx144_6, hx144_7, hx144_8, hx144_9, hx144_10, hx144_11, hx144_12, hx144_13, hx144_14, hx144_15, hx144_16, hx144_17, hx144_18, hx144_19, hx145_0, hx145_1, hx145_2, hx145_3, hx145_4, hx145_5, hx145_6, hx145_7, hx145_8, hx145_9, hx145_10, hx145_11, hx145_12, hx145_13, hx145_14, hx145_15, hx145_16, hx145_17, hx145_18, hx145_19⟩ (fun hHeld => ?_); refine with_tabW api_Ep_33.tab11 api_Ep_33.bits11 (fun HT_ HW_ => ?_)
             generalize wr.drew = w28 at HO_0 HK HB GG26 HQ30 HQ31 hx144_0 hx144_1 hx144_10 hx144_11 hx144_12 hx144_13 hx144_14 hx144_15 hx144_16 hx144_17 hx144_18 hx144_19 hx144_2 hx144_3 hx144_4 hx144_5 hx144_6 hx144_7 hx144_8 hx144_9 hx145_0 hx145_1 hx145_10 hx145_11 hx145_12 hx145_13 hx145_14 hx145_15 hx145_16 hx145_17 hx145_18 hx145_19 hx145_2 hx145_3 hx145_4 hx145_5 hx145_6 hx145_7 hx145_8 hx145_9 hHeld HE26 HE27 ⊢
             obtain ⟨w28s0, hw28s0⟩ : ∃ W_, W_ = w28.setCells go26 ((x13_2 : Int).toNat * k29.sz + 0) [.int .i64 ((rd_T29 x0_2 (ji21)).f0), .int .i64 ((rd_T29 x0_2 (ji21)).f1), .string ((rd_T29 x0_2 (ji21)).f2), .string ((rd_T29 x0_2 (ji21)).f3), .string ((rd_T29 x0_2 (ji21)).f4), .int .i64 ((rd_T29 x0_2 (ji21)).f5), .int .i64 ((rd_T29 x0_2 (ji21)).f6), .int .i64 ((rd_T29 x0_2 (ji21)).f7), .int .i64 ((rd_T29 x0_2 (ji21)).f8), .bool ((rd_T29 x0_2 (ji21)).f9), .int .i64 ((rd_T29 x0_2 (ji21)).f10), .int .i64 ((rd_T29 x0_2 (ji21)).f11), .int .i64 ((rd_T29 x0_2 (ji21)).f12), .string ((rd_T29 x0_2 (ji21)).f13), .int .i64 ((rd_T29 x0_2 (ji21)).f14), .int .i64 ((rd_T29 x0_2 (ji21)).f15), .string ((rd_T29 x0_2 (ji21)).f16), .int .i64 ((rd_T29 x0_2 (ji21)).f17), .int .i64 ((rd_T29 x0_2 (ji21)).f18), .string ((rd_T29 x0_2 (ji21)).f19)] := ⟨_, rfl⟩
             rw [← hw28s0] at HQ30 HQ31 HE27
             obtain ⟨w28s1, hw28s1⟩ : ∃ W_, W_ = w28s0.setCells go26 (((ji21) : Int).toNat * k29.sz + 0) [.int .i64 ((rd_T29 x0_2 x13_2).f0), .int .i64 ((rd_T29 x0_2 x13_2).f1), .string ((rd_T29 x0_2 x13_2).f2), .string ((rd_T29 x0_2 x13_2).f3), .string ((rd_T29 x0_2 x13_2).f4), .int .i64 ((rd_T29 x0_2 x13_2).f5), .int .i64 ((rd_T29 x0_2 x13_2).f6), .int .i64 ((rd_T29 x0_2 x13_2).f7), .int .i64 ((rd_T29 x0_2 x13_2).f8), .bool ((rd_T29 x0_2 x13_2).f9), .int .i64 ((rd_T29 x0_2 x13_2).f10), .int .i64 ((rd_T29 x0_2 x13_2).f11), .int .i64 ((rd_T29 x0_2 x13_2).f12), .string ((rd_T29 x0_2 x13_2).f13), .int .i64 ((rd_T29 x0_2 x13_2).f14), .int .i64 ((rd_T29 x0_2 x13_2).f15), .string ((rd_T29 x0_2 x13_2).f16), .int .i64 ((rd_T29 x0_2 x13_2).f17), .int .i64 ((rd_T29 x0_2 x13_2).f18), .string ((rd_T29 x0_2 x13_2).f19)] := ⟨_, rfl⟩
             rw [← hw28s1] at HQ31
             have HBs := mkA (show Below w0.heap.size w0 w28s1 from by rw [hw28s1, hw28s0]; exact (below_cells GB26.out _ _ (below_cells GB26.out _ _ HB.out)))
             have HKs := mkA (show Kept w w28s1 _ from by rw [hw28s1, hw28s0]; exact (kept_cells HMgo26.out _ _ (kept_cells HMgo26.out _ _ HK.out)))
             have ew28s0 := mkA hw28s0
             clear hw28s0
             have ew28s1 := mkA hw28s1
             clear hw28s1
             refine pu 0 61 HT_ ?_
             refine pu 1 62 HT_ ?_
             refine pu 2 63 HT_ ?_
             refine pu 3 64 HT_ ?_
             refine pu 4 65 HT_ ?_
             refine pu 5 66 HT_ ?_
             refine pu 6 67 HT_ ?_
             refine pu 7 68 HT_ ?_
             refine pu 8 69 HT_ ?_
             refine pu 10 71 HT_ ?_
             refine pu 11 72 HT_ ?_
             refine pu 12 73 HT_ ?_
             refine take_ (i := 9) (N := some 70) (v := ?_) (a' := ?_) #[true, true, true, true, true, true, true, true, true, true, true, true, true, false, false, false, false, false] rfl rfl (take_ofW HT_.out HW_.out (by kernel_rfl)) (fun _ _ _ h => h) (Or.inl ⟨by rfl, ?_⟩) hHeld ?_ ?_
             rotate_left
             ·rintro w' ⟨s0, s1, s2, s3, s4, s5, s6, s7, s8, s9, s10, s11, s12, s13, s14, s15, s16, s17, s18, s19, s20, s21, s22, s23, s24, s25, s26, s27, s28, s29, s30, s31, s32, s33, s34, s35, s36, s37, s38, s39⟩
              first | (have hz_ := fun (a : Act) (o : Oper) (x : Operand) (ho : o.op = .load 29 x) (hx : a.eval x = _) => exec_load_at (P := Try.prog) (W := w') (cs := [_, _, _, _, _, _, _, _, _, _, _, _, _, _, _, _, _, _, _]) ho hx Try.underlying29 rfl (by kernel_rfl) s0 ⟨s1, s2, s3, s4, s5, s6, s7, s8, s9, s10, s11, s12, s13, s14, s15, s16, s17, s18, s19, trivial⟩; refine (hz_ _ _ (.tmp 69) ?_ ?_).trans ?_; (focus rfl); (focus (first | (with_reducible rfl) | (go_simp; done))); with_reducible rfl) | (have hz_ := fun (a : Act) (o : Oper) (x : Operand) (ho : o.op = .load 29 x) (hx : a.eval x = _) => exec_load_at (P := Try.prog) (W := w') (cs := [_, _, _, _, _, _, _, _, _, _, _, _, _, _, _, _, _, _, _]) ho hx Try.underlying29 rfl (by kernel_rfl) s20 ⟨s21, s22, s23, s24, s25, s26, s27, s28, s29, s30, s31, s32, s33, s34, s35, s36, s37, s38, s39, trivial⟩; refine (hz_ _ _ (.tmp 69) ?_ ?_).trans ?_; (focus rfl); (focus (first | (with_reducible rfl) | (go_simp; done))); with_reducible rfl) | (go_simp; with_reducible rfl)
             rotate_left
             ·simp only [Act.put, sA, s0, sS, i64_w, i32_w]
              rfl
             refine take_ (i := 13) (N := some 74) (v := ?_) (a' := ?_) #[true, true, true, true, true, true, true, true, true, true, true, true, true, true, false, false, false, false] rfl rfl (take_ofW HT_.out HW_.out (by kernel_rfl)) (fun _ _ _ h => h) (Or.inl ⟨by rfl, ?_⟩) hHeld ?_ ?_
             rotate_left
             ·rintro w' ⟨s0, s1, s2, s3, s4, s5, s6, s7, s8, s9, s10, s11, s12, s13, s14, s15, s16, s17, s18, s19, s20, s21, s22, s23, s24, s25, s26, s27, s28, s29, s30, s31, s32, s33, s34, s35, s36, s37, s38, s39⟩
              first | (have hz_ := fun (a : Act) (o : Oper) (x : Operand) (ho : o.op = .load 29 x) (hx : a.eval x = _) => exec_load_at (P := Try.prog) (W := w') (cs := [_, _, _, _, _, _, _, _, _, _, _, _, _, _, _, _, _, _, _]) ho hx Try.underlying29 rfl (by kernel_rfl) s0 ⟨s1, s2, s3, s4, s5, s6, s7, s8, s9, s10, s11, s12, s13, s14, s15, s16, s17, s18, s19, trivial⟩; refine (hz_ _ _ (.tmp 73) ?_ ?_).trans ?_; (focus rfl); (focus (first | (with_reducible rfl) | (go_simp; done))); with_reducible rfl) | (have hz_ := fun (a : Act) (o : Oper) (x : Operand) (ho : o.op = .load 29 x) (hx : a.eval x = _) => exec_load_at (P := Try.prog) (W := w') (cs := [_, _, _, _, _, _, _, _, _, _, _, _, _, _, _, _, _, _, _]) ho hx Try.underlying29 rfl (by kernel_rfl) s20 ⟨s21, s22, s23, s24, s25, s26, s27, s28, s29, s30, s31, s32, s33, s34, s35, s36, s37, s38, s39, trivial⟩; refine (hz_ _ _ (.tmp 73) ?_ ?_).trans ?_; (focus rfl); (focus (first | (with_reducible rfl) | (go_simp; done))); with_reducible rfl) | (go_simp; with_reducible rfl)
             rotate_left
             ·simp only [Act.put, sA, s0, sS, i64_w, i32_w]
              rfl
             refine pu 14 75 HT_ ?_
             refine last_ (i := 15) (N := none) #[true, true, true, true, true, true, true, true, true, true, true, true, true, true, true, true, false, false] rfl rfl (one_of HT_.out (by kernel_rfl)) (by decide) (fun K hK => ?_)
             refine seg_ (ty := 29) (b := go26) (o := ((x13_2 : Int).toNat * k29.sz + 0)) (cells := #[.int .i64 ((rd_T29 x0_2 (ji21)).f0), .int .i64 ((rd_T29 x0_2 (ji21)).f1), .string ((rd_T29 x0_2 (ji21)).f2), .string ((rd_T29 x0_2 (ji21)).f3), .string ((rd_T29 x0_2 (ji21)).f4), .int .i64 ((rd_T29 x0_2 (ji21)).f5), .int .i64 ((rd_T29 x0_2 (ji21)).f6), .int .i64 ((rd_T29 x0_2 (ji21)).f7), .int .i64 ((rd_T29 x0_2 (ji21)).f8), .bool ((rd_T29 x0_2 (ji21)).f9), .int .i64 ((rd_T29 x0_2 (ji21)).f10), .int .i64 ((rd_T29 x0_2 (ji21)).f11), .int .i64 ((rd_T29 x0_2 (ji21)).f12), .string ((rd_T29 x0_2 (ji21)).f13), .int .i64 ((rd_T29 x0_2 (ji21)).f14), .int .i64 ((rd_T29 x0_2 (ji21)).f15), .string ((rd_T29 x0_2 (ji21)).f16), .int .i64 ((rd_T29 x0_2 (ji21)).f17), .int .i64 ((rd_T29 x0_2 (ji21)).f18), .string ((rd_T29 x0_2 (ji21)).f19)]) (by rfl) rfl ⟨_, _, rfl, (by first | rfl | (go_simp; done) | (go_simp; rfl)), (by first | rfl | (go_simp; done) | (go_simp; rfl))⟩ HE26.out (by kernel_rfl) (by first | rfl | (simp [Value.oneCell']; done)) ew28s0.out.symm ?_
             refine hK.out _ _ ?_
             clear hK K
             refine pu 16 76 HT_ ?_
             refine last_ (i := 17) (N := none) #[true, true, true, true, true, true, true, true, true, true, true, true, true, true, true, true, true, true] rfl rfl (one_of HT_.out (by kernel_rfl)) (by decide) (fun K hK => ?_)
             refine seg_ (ty := 29) (b := go26) (o := (((ji21) : Int).toNat * k29.sz + 0)) (cells := #[.int .i64 ((rd_T29 x0_2 x13_2).f0), .int .i64 ((rd_T29 x0_2 x13_2).f1), .string ((rd_T29 x0_2 x13_2).f2), .string ((rd_T29 x0_2 x13_2).f3), .string ((rd_T29 x0_2 x13_2).f4), .int .i64 ((rd_T29 x0_2 x13_2).f5), .int .i64 ((rd_T29 x0_2 x13_2).f6), .int .i64 ((rd_T29 x0_2 x13_2).f7), .int .i64 ((rd_T29 x0_2 x13_2).f8), .bool ((rd_T29 x0_2 x13_2).f9), .int .i64 ((rd_T29 x0_2 x13_2).f10), .int .i64 ((rd_T29 x0_2 x13_2).f11), .int .i64 ((rd_T29 x0_2 x13_2).f12), .string ((rd_T29 x0_2 x13_2).f13), .int .i64 ((rd_T29 x0_2 x13_2).f14), .int .i64 ((rd_T29 x0_2 x13_2).f15), .string ((rd_T29 x0_2 x13_2).f16), .int .i64 ((rd_T29 x0_2 x13_2).f17), .int .i64 ((rd_T29 x0_2 x13_2).f18), .string ((rd_T29 x0_2 x13_2).f19)]) (by rfl) rfl ⟨_, _, rfl, (by first | rfl | (go_simp; done) | (go_simp; rfl)), (by first | rfl | (go_simp; done) | (go_simp; rfl))⟩ HE27.out (by kernel_rfl) (by first | rfl | (simp [Value.oneCell']; done)) ew28s1.out.symm ?_
             refine hK.out _ _ ?_
             clear hK K HB HK
             have HB := HBs
             have HK := HKs
             clear HBs HKs
             refine done_ (done_of HT_.out (by kernel_rfl)) ?_
             try go_wp2
             go_roundg k2
             case measure => have := HK1.out; have := HK2.out; omega
             case rel => exact ⟨(y147), (ji21), (by first | rfl | (simp; done) | (simp only [← hji21] <;> (first | rfl | simp)) | (simp [*]; done)), H', ⟨by have := HK1.out; have := HK2.out; omega⟩, ⟨by (with_reducible repeat (first | apply Kd.R_alloc | apply Kd.R_drewN | apply Kd.R_drew)); exact HQ31.out⟩, ⟨by repeat (first | (with_reducible first | exact HK.out | apply Kept.alloc | apply Kept.drewN | apply Kept.drew | refine Kept.setCell ?_ HMgo26.out _ | refine Kept.setCell ?_ HMgo26.out _ | refine Kept.setCell ?_ HMgo26.out _ | refine Kept.setCell ?_ HMgo26.out _ | refine Kept.setCell ?_ HMgo26.out _ | refine Kept.setCell ?_ HMgo26.out _ | refine Kept.setCell ?_ HMgo26.out _ | refine Kept.setCell ?_ HMgo26.out _ | refine Kept.setCell ?_ HMgo26.out _ | refine Kept.setCell ?_ HMgo26.out _ | refine Kept.setCell ?_ HMgo26.out _ | refine Kept.setCell ?_ HMgo26.out _ | refine Kept.setCell ?_ HMgo26.out _ | refine Kept.setCell ?_ HMgo26.out _ | refine Kept.setCell ?_ HMgo26.out _ | refine Kept.setCell ?_ HMgo26.out _ | refine Kept.setCell ?_ HMgo26.out _ | refine Kept.setCell ?_ HMgo26.out _ | refine Kept.setCell ?_ HMgo26.out _ | refine Kept.setCell ?_ HMgo26.out _ | refine Kept.setCell ?_ HMgo26.out _ | refine Kept.setCell ?_ HMgo26.out _ | refine Kept.setCell ?_ HMgo26.out _ | refine Kept.setCell ?_ HMgo26.out _ | refine Kept.setCell ?_ HMgo26.out _ | refine Kept.setCell ?_ HMgo26.out _ | refine Kept.setCell ?_ HMgo26.out _ | refine Kept.setCell ?_ HMgo26.out _ | refine Kept.setCell ?_ HMgo26.out _ | refine Kept.setCell ?_ HMgo26.out _ | refine Kept.setCell ?_ HMgo26.out _ | refine Kept.setCell ?_ HMgo26.out _ | refine Kept.setCell ?_ HMgo26.out _ | refine Kept.setCell ?_ HMgo26.out _ | refine Kept.setCell ?_ HMgo26.out _ | refine Kept.setCell ?_ HMgo26.out _ | refine Kept.setCell ?_ HMgo26.out _ | refine Kept.setCell ?_ HMgo26.out _ | refine Kept.setCell ?_ HMgo26.out _ | refine Kept.setCell ?_ HMgo26.out _) | exact HK.out)⟩, ⟨by repeat (first | (with_reducible first | exact HB.out | apply below_alloc | apply pw_below_drewN | apply below_drew1 | refine below_set ?_ GB26.out | refine below_set ?_ GB26.out | refine below_set ?_ GB26.out | refine below_set ?_ GB26.out | refine below_set ?_ GB26.out | refine below_set ?_ GB26.out | refine below_set ?_ GB26.out | refine below_set ?_ GB26.out | refine below_set ?_ GB26.out | refine below_set ?_ GB26.out | refine below_set ?_ GB26.out | refine below_set ?_ GB26.out | refine below_set ?_ GB26.out | refine below_set ?_ GB26.out | refine below_set ?_ GB26.out | refine below_set ?_ GB26.out | refine below_set ?_ GB26.out | refine below_set ?_ GB26.out | refine below_set ?_ GB26.out | refine below_set ?_ GB26.out | refine below_set ?_ GB26.out | refine below_set ?_ GB26.out | refine below_set ?_ GB26.out | refine below_set ?_ GB26.out | refine below_set ?_ GB26.out | refine below_set ?_ GB26.out | refine below_set ?_ GB26.out | refine below_set ?_ GB26.out | refine below_set ?_ GB26.out | refine below_set ?_ GB26.out | refine below_set ?_ GB26.out | refine below_set ?_ GB26.out | refine below_set ?_ GB26.out | refine below_set ?_ GB26.out | refine below_set ?_ GB26.out | refine below_set ?_ GB26.out | refine below_set ?_ GB26.out | refine below_set ?_ GB26.out | refine below_set ?_ GB26.out | refine below_set ?_ GB26.out) | exact HB.out)⟩⟩
           ·rw [if_neg c25] at H
            exact absurd H (by simp)
          ·rw [if_neg c24] at H
           exact absurd H (by simp)
         ·rw [if_neg c23] at H
          exact absurd H (by simp)
        ·rw [if_neg c22] at H
         exact absurd H (by simp)
       ·rw [if_neg c20] at H
        have c20b0 : decide (x13_2 < (wrap64 (x10_1 - 1))) = false := decide_eq_false c20
        clear c20
        focus
         obtain rfl := Option.some.inj H
         go_wp2
         first | go_end0 | ((try simp only [Exit.inBlock, Exit.then]); refine bodyPost_ret (results_none rfl _ _ _) rfl ?_)
         exact ⟨by first | rfl | (simp [errW_none, errW_some] <;> rfl) | (simp [*, errW_none, errW_some] <;> rfl), by (with_reducible repeat (first | apply Kd.R_alloc | apply Kd.R_drewN | apply Kd.R_drew)); exact HO_0.out, below_y HB.out, by repeat (first | (with_reducible first | exact HK.out | apply Kept.alloc | apply Kept.drewN | apply Kept.drew) | exact HK.out)⟩
 rw [if_neg c5] at H
 have c5b0 : ((wrap64 (a2 - a1)) == 1) = false := beq_eq_false_iff_ne.mpr c5
 have c5b1 : ((wrap64 (a2 - a1)) != 1) = true := bne_iff_ne.mpr c5
 by_cases c32 : (wrap64 (a3 - a2)) = 1
 ·rw [if_pos c32] at H
  have c32b0 : ((wrap64 (a3 - a2)) == 1) = true := beq_iff_eq.mpr c32
  have c32b1 : ((wrap64 (a3 - a2)) != 1) = false := bne_eq_false_iff_eq.mpr c32
  clear c32
  have H' := mkA H
  clear H
  go_enter Try.func33, Try.ntmps33
  go_wp2
  try simp only [Act.put, sA, s0, sS]
  go_loopg [14, 15] k (fun kq v14 v15 w' => ∃ (x14_1 : Int) (x15_1 : Int), v14 = .int .i64 x14_1 ∧ v15 = .int .i64 x15_1 ∧ Aside0 (api_Ep_33.l2 kq l0 a2 x14_1 x15_1 = some r) ∧ Aside0 (kq ≤ k) ∧ Aside0 (Kd.R k29 29 w' w0.heap.size (fun k_ => (P0_ k_ ∨ w.heap.size ≤ k_)) u9000_ l0) ∧ Aside0 (Kept w w' (fun k_ => P0_ k_)) ∧ Aside0 (Below w0.heap.size w0 w'))
  case atStart => exact ⟨(a1), (a2), (by first | rfl | (simp; done) | (simp [*]; done)), (by first | rfl | (simp; done) | (simp [*]; done)), H', ⟨Nat.le_refl _⟩, ⟨by (with_reducible repeat (first | apply Kd.R_alloc | apply Kd.R_drewN | apply Kd.R_drew)); exact HO0.out⟩, ⟨by repeat (first | (with_reducible first | exact HK.out | apply Kept.alloc | apply Kept.drewN | apply Kept.drew) | exact HK.out)⟩, ⟨below_y HB.out⟩⟩
  case round =>
   clear H'
   try clear c1
   try clear p1
   try clear q1
   try clear hx1
   try clear c2
   try clear p2
   try clear q2
   try clear hx2
   try clear c3
   try clear c5
   try clear c5b0
   try clear c5b1
   try clear c6
   try clear c6b0
   try clear p6
   try clear c8
   try clear c8b0
   try clear c9
   try clear c9b0
   try clear c10
   try clear c10b0
   try clear c11
   try clear c11b0
   try clear c13
   try clear c13b0
   try clear p14
   try clear q14
   try clear hx14
   try clear c20
   try clear c20b0
   try clear c22
   try clear c22b0
   try clear c23
   try clear c23b0
   try clear c24
   try clear c24b0
   try clear c25
   try clear c25b0
   try clear c26
   try clear p26
   try clear q26
   try clear hx26
   try clear hf26
   try clear c27
   try clear p27
   try clear q27
   try clear hx27
   try clear hf27
   try clear c30
   try clear c31
   try clear c32
   try clear c32b0
   try clear c32b1
   try clear hx141_0
   try clear hx141_1
   try clear hx141_10
   try clear hx141_11
   try clear hx141_12
   try clear hx141_13
   try clear hx141_14
   try clear hx141_15
   try clear hx141_16
   try clear hx141_17
   try clear hx141_18
   try clear hx141_19
   try clear hx141_2
   try clear hx141_3
   try clear hx141_4
   try clear hx141_5
   try clear hx141_6
   try clear hx141_7
   try clear hx141_8
   try clear hx141_9
   try clear hx142_0
   try clear hx142_1
   try clear hx142_10
   try clear hx142_11
   try clear hx142_12
   try clear hx142_13
   try clear hx142_14
   try clear hx142_15
   try clear hx142_16
   try clear hx142_17
   try clear hx142_18
   try clear hx142_19
   try clear hx142_2
   try clear hx142_3
   try clear hx142_4
   try clear hx142_5
   try clear hx142_6
   try clear hx142_7
   try clear hx142_8
   try clear hx142_9
   try clear hx144_0
   try clear hx144_1
   try clear hx144_10
   try clear hx144_11
   try clear hx144_12
   try clear hx144_13
   try clear hx144_14
   try clear hx144_15
   try clear hx144_16
   try clear hx144_17
   try clear hx144_18
   try clear hx144_19
   try clear hx144_2
   try clear hx144_3
   try clear hx144_4
   try clear hx144_5
   try clear hx144_6
   try clear hx144_7
   try clear hx144_8
   try clear hx144_9
   try clear hx145_0
   try clear hx145_1
   try clear hx145_10
   try clear hx145_11
   try clear hx145_12
   try clear hx145_13
   try clear hx145_14
   try clear hx145_15
   try clear hx145_16
   try clear hx145_17
   try clear hx145_18
   try clear hx145_19
   try clear hx145_2
   try clear hx145_3
   try clear hx145_4
   try clear hx145_5
   try clear hx145_6
   try clear hx145_7
   try clear hx145_8
   try clear hx145_9
   try clear hx26_0
   try clear hx26_1
   try clear hx26_10
   try clear hx26_11
   try clear hx26_12
   try clear hx26_13
   try clear hx26_14
   try clear hx26_15
   try clear hx26_16
   try clear hx26_17
   try clear hx26_18
   try clear hx26_19
   try clear hx26_2
   try clear hx26_3
   try clear hx26_4
   try clear hx26_5
   try clear hx26_6
   try clear hx26_7
   try clear hx26_8
   try clear hx26_9
   try clear hx27_0
   try clear hx27_1
   try clear hx27_10
   try clear hx27_11
   try clear hx27_12
   try clear hx27_13
   try clear hx27_14
   try clear hx27_15
   try clear hx27_16
   try clear hx27_17
   try clear hx27_18
   try clear hx27_19
   try clear hx27_2
   try clear hx27_3
   try clear hx27_4
   try clear hx27_5
   try clear hx27_6
   try clear hx27_7
   try clear hx27_8
   try clear hx27_9
   try clear p1
   try clear p14
   try clear p141
   try clear p142
   try clear p144
   try clear p145
   try clear p2
   try clear p26
   try clear p27
   try clear p6
   try clear q1
   try clear q14
   try clear q141
   try clear q142
   try clear q144
   try clear q145
   try clear q26
   try clear q27
   obtain ⟨x14_1, x15_1, rfl, rfl, HA, HK1, HO_0, HK, HB⟩ := hrel
   cases gk with
   | zero => exact absurd HA.out (by simp [api_Ep_33.l2])
   | succ k1 =>
    have H := HA.out
    clear HA
    simp only [api_Ep_33.l2] at H
    by_cases c33 : x14_1 < x15_1
    ·rw [if_pos c33] at H
     have c33b0 : decide (x14_1 < x15_1) = true := decide_eq_true c33
     clear c33
     by_cases c34 : 0 ≤ a2
     ·rw [if_pos c34] at H
      have c34b0 : decide (0 ≤ a2) = true := decide_eq_true c34
      clear c34
      by_cases c35 : a2 < (l0.length : Int)
      ·rw [if_pos c35] at H
       have c35b0 : decide (a2 < (l0.length : Int)) = true := decide_eq_true c35
       clear c35
       obtain ⟨ji36, hji36⟩ : ∃ j_ : Int, (wrap64 ((IntKind.u64.wrap (wrap64 (x14_1 + x15_1))) / 2)) = j_ := ⟨_, rfl⟩
       replace H : (if 0 ≤ (ji36) then (if (ji36) < (l0.length : Int) then ((retain_older.f k1 ((rd_T29 l0 a2).f0) ((rd_T29 l0 a2).f1) ((rd_T29 l0 a2).f2) ((rd_T29 l0 a2).f3) ((rd_T29 l0 a2).f4) ((rd_T29 l0 a2).f5) ((rd_T29 l0 a2).f6) ((rd_T29 l0 a2).f7) ((rd_T29 l0 a2).f8) ((rd_T29 l0 a2).f9) ((rd_T29 l0 a2).f10) ((rd_T29 l0 a2).f11) ((rd_T29 l0 a2).f12) ((rd_T29 l0 a2).f13) ((rd_T29 l0 a2).f14) ((rd_T29 l0 a2).f15) ((rd_T29 l0 a2).f16) ((rd_T29 l0 a2).f17) ((rd_T29 l0 a2).f18) ((rd_T29 l0 a2).f19) ((rd_T29 l0 (ji36)).f0) ((rd_T29 l0 (ji36)).f1) ((rd_T29 l0 (ji36)).f2) ((rd_T29 l0 (ji36)).f3) ((rd_T29 l0 (ji36)).f4) ((rd_T29 l0 (ji36)).f5) ((rd_T29 l0 (ji36)).f6) ((rd_T29 l0 (ji36)).f7) ((rd_T29 l0 (ji36)).f8) ((rd_T29 l0 (ji36)).f9) ((rd_T29 l0 (ji36)).f10) ((rd_T29 l0 (ji36)).f11) ((rd_T29 l0 (ji36)).f12) ((rd_T29 l0 (ji36)).f13) ((rd_T29 l0 (ji36)).f14) ((rd_T29 l0 (ji36)).f15) ((rd_T29 l0 (ji36)).f16) ((rd_T29 l0 (ji36)).f17) ((rd_T29 l0 (ji36)).f18) ((rd_T29 l0 (ji36)).f19)).bind fun t150 => (if t150 < 0 then (api_Ep_33.l2 k1 l0 a2 x14_1 ji36) else (api_Ep_33.l2 k1 l0 a2 (wrap64 ((ji36) + 1)) x15_1))) else (none)) else (none)) = some r := by first | (rw [hji36] at H; exact H) | (simp only [hji36] at H ⊢; exact H)
       have hji36w : (IntKind.i64.wrap ((IntKind.u64.wrap (wrap64 (x14_1 + x15_1))) / 2)) = ji36 := (i64_w _).trans hji36
       by_cases c37 : 0 ≤ (ji36)
       ·rw [if_pos c37] at H
        have c37b0 : decide (0 ≤ (ji36)) = true := decide_eq_true c37
        clear c37
        by_cases c38 : (ji36) < (l0.length : Int)
        ·rw [if_pos c38] at H
         have c38b0 : decide ((ji36) < (l0.length : Int)) = true := decide_eq_true c38
         clear c38
         replace H := Option.bind_eq_some_iff.mp H
         obtain ⟨t150, A390, H⟩ := H
         replace H : (if t150 < 0 then (api_Ep_33.l2 k1 l0 a2 x14_1 ji36) else (api_Ep_33.l2 k1 l0 a2 (wrap64 ((ji36) + 1)) x15_1)) = some r := H
         have A39 := mkA A390
         clear A390
         by_cases c40 : t150 < 0
         ·rw [if_pos c40] at H
          have c40b0 : decide (t150 < 0) = true := decide_eq_true c40
          clear c40
          as_aux_lemma =>
           have H' := mkA H
           clear H
           try go_wp2
           have n0_ := mkA (Kd.R_drew HO_0.out)
           have n1_ := mkA (Kept.drew HK.out)
           have n2_ := mkA (below_drew1 HB.out)
           clear HO_0 HK HB
           have HO_0 := n0_
           have HK := n1_
           have HB := n2_
           clear n0_ n1_ n2_
           obtain ⟨Ao42, co42, eo42⟩ := Kd.R_slice HO_0.out
           (first | subst eo42 | (injection eo42 with f1_ f2_ f3_; have f4_ := f1_.symm; have f5_ := f3_.symm; clear f1_ f2_ f3_; subst f4_; subst f5_))
           have p148 : 0 ≤ (a2 : Int) := odt
           have q148 : a2 < (l0.length : Int) := odt
           obtain ⟨ad148, e148, hx148_0, hx148_1, hx148_2, hx148_3, hx148_4, hx148_5, hx148_6, hx148_7, hx148_8, hx148_9, hx148_10, hx148_11, hx148_12, hx148_13, hx148_14, hx148_15, hx148_16, hx148_17, hx148_18, hx148_19⟩ := at_T29 (Kd.R_reads' HO_0.out).2.2 a2 p148 q148
           cases e148
           replace p148 := eq_true p148
           replace q148 := eq_true q148
           have p149 : 0 ≤ ((ji36) : Int) := odt
           have q149 : (ji36) < (l0.length : Int) := odt
           obtain ⟨ad149, e149, hx149_0, hx149_1, hx149_2, hx149_3, hx149_4, hx149_5, hx149_6, hx149_7, hx149_8, hx149_9, hx149_10, hx149_11, hx149_12, hx149_13, hx149_14, hx149_15, hx149_16, hx149_17, hx149_18, hx149_19⟩ := at_T29 (Kd.R_reads' HO_0.out).2.2 (ji36) p149 q149
           obtain rfl : ad148 = ad149 := (by injection e149)
           replace p149 := eq_true p149
           replace q149 := eq_true q149
           refine start_ (n := 12) (S := fun w' => cj29 w' (ad148.add ((a2).toNat * 20)) (rd_T29 l0 a2) <| ce29 w' (ad148.add (((ji36)).toNat * 20)) (rd_T29 l0 (ji36))) (ds := []) #[false, false, false, false, false, false, false, false, false, false, false, false] (by kernel_rfl) rfl rfl ⟨hx148_0, hx148_1, hx148_2, hx148_3, hx148_4, hx148_5, hx148_6, hx148_7, hx148_8, hx148_9, hx148_10, hx148_11, hx148_12, hx148_13, hx148_14, hx148_15, hx148_16, hx148_17, hx148_18, hx148_19, hx149_0, hx149_1, hx149_2, hx149_3, hx149_4, hx149_5, hx149_6, hx149_7, hx149_8, hx149_9, hx149_10, hx149_11, hx149_12, hx149_13, hx149_14, hx149_15, hx149_16, hx149_17, hx149_18, hx149_19⟩ (fun hHeld => ?_); refine with_tabW api_Ep_33.tab17 api_Ep_33.bits17 (fun HT_ HW_ => ?_)
           generalize wr.drew = w41 at HO_0 HK HB hx148_0 hx148_1 hx148_10 hx148_11 hx148_12 hx148_13 hx148_14 hx148_15 hx148_16 hx148_17 hx148_18 hx148_19 hx148_2 hx148_3 hx148_4 hx148_5 hx148_6 hx148_7 hx148_8 hx148_9 hx149_0 hx149_1 hx149_10 hx149_11 hx149_12 hx149_13 hx149_14 hx149_15 hx149_16 hx149_17 hx149_18 hx149_19 hx149_2 hx149_3 hx149_4 hx149_5 hx149_6 hx149_7 hx149_8 hx149_9 hHeld ⊢
           refine pu 0 92 HT_ ?_
           refine pu 1 93 HT_ ?_
           refine pu 2 94 HT_ ?_
           refine pu 3 95 HT_ ?_
           refine pu 5 97 HT_ ?_
           refine pu 6 98 HT_ ?_
           refine pu 7 99 HT_ ?_
           refine take_ (i := 4) (N := some 96) (v := ?_) (a' := ?_) #[true, true, true, true, true, true, true, true, false, false, false, false] rfl rfl (take_ofW HT_.out HW_.out (by kernel_rfl)) (fun _ _ _ h => h) (Or.inl ⟨by rfl, ?_⟩) hHeld ?_ ?_
           rotate_left
           ·rintro w' ⟨s0, s1, s2, s3, s4, s5, s6, s7, s8, s9, s10, s11, s12, s13, s14, s15, s16, s17, s18, s19, s20, s21, s22, s23, s24, s25, s26, s27, s28, s29, s30, s31, s32, s33, s34, s35, s36, s37, s38, s39⟩
            first | (have hz_ := fun (a : Act) (o : Oper) (x : Operand) (ho : o.op = .load 29 x) (hx : a.eval x = _) => exec_load_at (P := Try.prog) (W := w') (cs := [_, _, _, _, _, _, _, _, _, _, _, _, _, _, _, _, _, _, _]) ho hx Try.underlying29 rfl (by kernel_rfl) s0 ⟨s1, s2, s3, s4, s5, s6, s7, s8, s9, s10, s11, s12, s13, s14, s15, s16, s17, s18, s19, trivial⟩; refine (hz_ _ _ (.tmp 95) ?_ ?_).trans ?_; (focus rfl); (focus (first | (with_reducible rfl) | (go_simp; done))); with_reducible rfl) | (have hz_ := fun (a : Act) (o : Oper) (x : Operand) (ho : o.op = .load 29 x) (hx : a.eval x = _) => exec_load_at (P := Try.prog) (W := w') (cs := [_, _, _, _, _, _, _, _, _, _, _, _, _, _, _, _, _, _, _]) ho hx Try.underlying29 rfl (by kernel_rfl) s20 ⟨s21, s22, s23, s24, s25, s26, s27, s28, s29, s30, s31, s32, s33, s34, s35, s36, s37, s38, s39, trivial⟩; refine (hz_ _ _ (.tmp 95) ?_ ?_).trans ?_; (focus rfl); (focus (first | (with_reducible rfl) | (go_simp; done))); with_reducible rfl) | (go_simp; with_reducible rfl)
           rotate_left
           ·simp only [Act.put, sA, s0, sS, i64_w, i32_w]
            rfl
           refine take_ (i := 8) (N := some 100) (v := ?_) (a' := ?_) #[true, true, true, true, true, true, true, true, true, false, false, false] rfl rfl (take_ofW HT_.out HW_.out (by kernel_rfl)) (fun _ _ _ h => h) (Or.inl ⟨by rfl, ?_⟩) hHeld ?_ ?_
           rotate_left
           ·rintro w' ⟨s0, s1, s2, s3, s4, s5, s6, s7, s8, s9, s10, s11, s12, s13, s14, s15, s16, s17, s18, s19, s20, s21, s22, s23, s24, s25, s26, s27, s28, s29, s30, s31, s32, s33, s34, s35, s36, s37, s38, s39⟩
            first | (have hz_ := fun (a : Act) (o : Oper) (x : Operand) (ho : o.op = .load 29 x) (hx : a.eval x = _) => exec_load_at (P := Try.prog) (W := w') (cs := [_, _, _, _, _, _, _, _, _, _, _, _, _, _, _, _, _, _, _]) ho hx Try.underlying29 rfl (by kernel_rfl) s0 ⟨s1, s2, s3, s4, s5, s6, s7, s8, s9, s10, s11, s12, s13, s14, s15, s16, s17, s18, s19, trivial⟩; refine (hz_ _ _ (.tmp 99) ?_ ?_).trans ?_; (focus rfl); (focus (first | (with_reducible rfl) | (go_simp; done))); with_reducible rfl) | (have hz_ := fun (a : Act) (o : Oper) (x : Operand) (ho : o.op = .load 29 x) (hx : a.eval x = _) => exec_load_at (P := Try.prog) (W := w') (cs := [_, _, _, _, _, _, _, _, _, _, _, _, _, _, _, _, _, _, _]) ho hx Try.underlying29 rfl (by kernel_rfl) s20 ⟨s21, s22, s23, s24, s25, s26, s27, s28, s29, s30, s31, s32, s33, s34, s35, s36, s37, s38, s39, trivial⟩; refine (hz_ _ _ (.tmp 99) ?_ ?_).trans ?_; (focus rfl); (focus (first | (with_reducible rfl) | (go_simp; done))); with_reducible rfl) | (go_simp; with_reducible rfl)
           rotate_left
           ·simp only [Act.put, sA, s0, sS, i64_w, i32_w]
            rfl
           refine one_ (i := 9) (N := some 101) #[true, true, true, true, true, true, true, true, true, true, false, false] rfl rfl (one_of HT_.out (by kernel_rfl)) (by decide) (fun K hK => ?_)
           refine goesW_ Try.func22 (by kernel_rfl) rfl #[.agg #[.int .i64 ((rd_T29 l0 a2).f0), .int .i64 ((rd_T29 l0 a2).f1), .string ((rd_T29 l0 a2).f2), .string ((rd_T29 l0 a2).f3), .string ((rd_T29 l0 a2).f4), .int .i64 ((rd_T29 l0 a2).f5), .int .i64 ((rd_T29 l0 a2).f6), .int .i64 ((rd_T29 l0 a2).f7), .int .i64 ((rd_T29 l0 a2).f8), .bool ((rd_T29 l0 a2).f9), .int .i64 ((rd_T29 l0 a2).f10), .int .i64 ((rd_T29 l0 a2).f11), .int .i64 ((rd_T29 l0 a2).f12), .string ((rd_T29 l0 a2).f13), .int .i64 ((rd_T29 l0 a2).f14), .int .i64 ((rd_T29 l0 a2).f15), .string ((rd_T29 l0 a2).f16), .int .i64 ((rd_T29 l0 a2).f17), .int .i64 ((rd_T29 l0 a2).f18), .string ((rd_T29 l0 a2).f19)], .agg #[.int .i64 ((rd_T29 l0 (ji36)).f0), .int .i64 ((rd_T29 l0 (ji36)).f1), .string ((rd_T29 l0 (ji36)).f2), .string ((rd_T29 l0 (ji36)).f3), .string ((rd_T29 l0 (ji36)).f4), .int .i64 ((rd_T29 l0 (ji36)).f5), .int .i64 ((rd_T29 l0 (ji36)).f6), .int .i64 ((rd_T29 l0 (ji36)).f7), .int .i64 ((rd_T29 l0 (ji36)).f8), .bool ((rd_T29 l0 (ji36)).f9), .int .i64 ((rd_T29 l0 (ji36)).f10), .int .i64 ((rd_T29 l0 (ji36)).f11), .int .i64 ((rd_T29 l0 (ji36)).f12), .string ((rd_T29 l0 (ji36)).f13), .int .i64 ((rd_T29 l0 (ji36)).f14), .int .i64 ((rd_T29 l0 (ji36)).f15), .string ((rd_T29 l0 (ji36)).f16), .int .i64 ((rd_T29 l0 (ji36)).f17), .int .i64 ((rd_T29 l0 (ji36)).f18), .string ((rd_T29 l0 (ji36)).f19)]] (by rfl) rfl rfl (by first | rfl | (go_simp; done)) (by (try simp only [List.map_toArray, List.map_cons, List.map_nil]); first | done | (simp only [hji36]; rfl) | rfl | (simp only [List.length_drop, List.length_take]; rfl)) ?_
           with_reducible refine (retain_older.calls _ _ _ _ _ _ _ _ _ _ _ _ _ _ _ _ _ _ _ _ _ _ _ _ _ _ _ _ _ _ _ _ _ _ _ _ _ _ _ _ _ _ _ A39.out).mono ?_
           rintro e w43 ⟨rfl, hb⟩
           have hbk_w43 := mkA hb
           have HS0_ := hs_ hb hHeld.1
           have HS1_ := hs_ hb hHeld.2.1
           have HS2_ := hs_ hb hHeld.2.2.1
           have HS3_ := hs_ hb hHeld.2.2.2.1
           have HS4_ := hs_ hb hHeld.2.2.2.2.1
           have HS5_ := hs_ hb hHeld.2.2.2.2.2.1
           have HS6_ := hs_ hb hHeld.2.2.2.2.2.2.1
           have HS7_ := hs_ hb hHeld.2.2.2.2.2.2.2.1
           have HS8_ := hs_ hb hHeld.2.2.2.2.2.2.2.2.1
           have HS9_ := hs_ hb hHeld.2.2.2.2.2.2.2.2.2.1
           have HS10_ := hs_ hb hHeld.2.2.2.2.2.2.2.2.2.2.1
           have HS11_ := hs_ hb hHeld.2.2.2.2.2.2.2.2.2.2.2.1
           have HS12_ := hs_ hb hHeld.2.2.2.2.2.2.2.2.2.2.2.2.1
           have HS13_ := hs_ hb hHeld.2.2.2.2.2.2.2.2.2.2.2.2.2.1
           have HS14_ := hs_ hb hHeld.2.2.2.2.2.2.2.2.2.2.2.2.2.2.1
           have HS15_ := hs_ hb hHeld.2.2.2.2.2.2.2.2.2.2.2.2.2.2.2.1
           have HS16_ := hs_ hb hHeld.2.2.2.2.2.2.2.2.2.2.2.2.2.2.2.2.1
           have HS17_ := hs_ hb hHeld.2.2.2.2.2.2.2.2.2.2.2.2.2.2.2.2.2.1
           have HS18_ := hs_ hb hHeld.2.2.2.2.2.2.2.2.2.2.2.2.2.2.2.2.2.2.1
           have HS19_ := hs_ hb hHeld.2.2.2.2.2.2.2.2.2.2.2.2.2.2.2.2.2.2.2.1
           have HS20_ := hs_ hb hHeld.2.2.2.2.2.2.2.2.2.2.2.2.2.2.2.2.2.2.2.2.1
           have HS21_ := hs_ hb hHeld.2.2.2.2.2.2.2.2.2.2.2.2.2.2.2.2.2.2.2.2.2.1
           have HS22_ := hs_ hb hHeld.2.2.2.2.2.2.2.2.2.2.2.2.2.2.2.2.2.2.2.2.2.2.1
           have HS23_ := hs_ hb hHeld.2.2.2.2.2.2.2.2.2.2.2.2.2.2.2.2.2.2.2.2.2.2.2.1
           have HS24_ := hs_ hb hHeld.2.2.2.2.2.2.2.2.2.2.2.2.2.2.2.2.2.2.2.2.2.2.2.2.1
           have HS25_ := hs_ hb hHeld.2.2.2.2.2.2.2.2.2.2.2.2.2.2.2.2.2.2.2.2.2.2.2.2.2.1
           have HS26_ := hs_ hb hHeld.2.2.2.2.2.2.2.2.2.2.2.2.2.2.2.2.2.2.2.2.2.2.2.2.2.2.1
           have HS27_ := hs_ hb hHeld.2.2.2.2.2.2.2.2.2.2.2.2.2.2.2.2.2.2.2.2.2.2.2.2.2.2.2.1
           have HS28_ := hs_ hb hHeld.2.2.2.2.2.2.2.2.2.2.2.2.2.2.2.2.2.2.2.2.2.2.2.2.2.2.2.2.1
           have HS29_ := hs_ hb hHeld.2.2.2.2.2.2.2.2.2.2.2.2.2.2.2.2.2.2.2.2.2.2.2.2.2.2.2.2.2.1
           have HS30_ := hs_ hb hHeld.2.2.2.2.2.2.2.2.2.2.2.2.2.2.2.2.2.2.2.2.2.2.2.2.2.2.2.2.2.2.1
           have HS31_ := hs_ hb hHeld.2.2.2.2.2.2.2.2.2.2.2.2.2.2.2.2.2.2.2.2.2.2.2.2.2.2.2.2.2.2.2.1
           have HS32_ := hs_ hb hHeld.2.2.2.2.2.2.2.2.2.2.2.2.2.2.2.2.2.2.2.2.2.2.2.2.2.2.2.2.2.2.2.2.1
           have HS33_ := hs_ hb hHeld.2.2.2.2.2.2.2.2.2.2.2.2.2.2.2.2.2.2.2.2.2.2.2.2.2.2.2.2.2.2.2.2.2.1
           have HS34_ := hs_ hb hHeld.2.2.2.2.2.2.2.2.2.2.2.2.2.2.2.2.2.2.2.2.2.2.2.2.2.2.2.2.2.2.2.2.2.2.1
           have HS35_ := hs_ hb hHeld.2.2.2.2.2.2.2.2.2.2.2.2.2.2.2.2.2.2.2.2.2.2.2.2.2.2.2.2.2.2.2.2.2.2.2.1
           have HS36_ := hs_ hb hHeld.2.2.2.2.2.2.2.2.2.2.2.2.2.2.2.2.2.2.2.2.2.2.2.2.2.2.2.2.2.2.2.2.2.2.2.2.1
           have HS37_ := hs_ hb hHeld.2.2.2.2.2.2.2.2.2.2.2.2.2.2.2.2.2.2.2.2.2.2.2.2.2.2.2.2.2.2.2.2.2.2.2.2.2.1
           have HS38_ := hs_ hb hHeld.2.2.2.2.2.2.2.2.2.2.2.2.2.2.2.2.2.2.2.2.2.2.2.2.2.2.2.2.2.2.2.2.2.2.2.2.2.2.1
           have HS39_ := hs_ hb hHeld.2.2.2.2.2.2.2.2.2.2.2.2.2.2.2.2.2.2.2.2.2.2.2.2.2.2.2.2.2.2.2.2.2.2.2.2.2.2.2
           refine ⟨_, rfl, ?_⟩
           have n0_ := mkA (Kd.R_below (Kd.R_y HO_0.out) hb)
           have n1_ := mkA (Kept.below (S := (fun k_ => P0_ k_)) (by repeat (first | (with_reducible first | exact HK.out | apply Kept.alloc | apply Kept.drewN | apply Kept.drew) | exact HK.out)) hb)
           have n2_ := mkA (below_step (below_y HB.out) hb)
           clear HO_0 HK HB
           have HO_0 := n0_
           have HK := n1_
           have HB := n2_
           clear n0_ n1_ n2_
           (try clear hb)
           (try clear hb2)
           (try clear hk)
           (try clear hi)
           refine hK.out _ _ ⟨HS0_, HS1_, HS2_, HS3_, HS4_, HS5_, HS6_, HS7_, HS8_, HS9_, HS10_, HS11_, HS12_, HS13_, HS14_, HS15_, HS16_, HS17_, HS18_, HS19_, HS20_, HS21_, HS22_, HS23_, HS24_, HS25_, HS26_, HS27_, HS28_, HS29_, HS30_, HS31_, HS32_, HS33_, HS34_, HS35_, HS36_, HS37_, HS38_, HS39_⟩ (fun hHeld => ?_)
           clear hK K
           refine norm_ (a' := ?_) ?_ ?_
           rotate_left
           ·show Act.put _ (some 101) _ = _
            simp only [Act.put, sA, s0, sS, i64_w, i32_w]
            rfl
           refine pu 10 102 HT_ ?_
           refine pu 11 103 HT_ ?_
           refine done_ (done_of HT_.out (by kernel_rfl)) ?_
           try go_wp2
           go_roundg k1
           case measure => have := HK1.out; omega
           case rel => exact ⟨(x14_1), (ji36), (by first | rfl | (simp; done) | (simp [*]; done)), (by first | rfl | (simp; done) | (simp only [← hji36] <;> (first | rfl | simp)) | (simp [*]; done)), H', ⟨by have := HK1.out; omega⟩, ⟨by (with_reducible repeat (first | apply Kd.R_alloc | apply Kd.R_drewN | apply Kd.R_drew)); exact HO_0.out⟩, ⟨by repeat (first | (with_reducible first | exact HK.out | apply Kept.alloc | apply Kept.drewN | apply Kept.drew) | exact HK.out)⟩, ⟨below_y HB.out⟩⟩
         ·rw [if_neg c40] at H
          have c40b0 : decide (t150 < 0) = false := decide_eq_false c40
          clear c40
          as_aux_lemma =>
           have H' := mkA H
           clear H
           try go_wp2
           have n0_ := mkA (Kd.R_drew HO_0.out)
           have n1_ := mkA (Kept.drew HK.out)
           have n2_ := mkA (below_drew1 HB.out)
           clear HO_0 HK HB
           have HO_0 := n0_
           have HK := n1_
           have HB := n2_
           clear n0_ n1_ n2_
           obtain ⟨Ao45, co45, eo45⟩ := Kd.R_slice HO_0.out
           (first | subst eo45 | (injection eo45 with f1_ f2_ f3_; have f4_ := f1_.symm; have f5_ := f3_.symm; clear f1_ f2_ f3_; subst f4_; subst f5_))
           have p148 : 0 ≤ (a2 : Int) := odt
           have q148 : a2 < (l0.length : Int) := odt
           obtain ⟨ad148, e148, hx148_0, hx148_1, hx148_2, hx148_3, hx148_4, hx148_5, hx148_6, hx148_7, hx148_8, hx148_9, hx148_10, hx148_11, hx148_12, hx148_13, hx148_14, hx148_15, hx148_16, hx148_17, hx148_18, hx148_19⟩ := at_T29 (Kd.R_reads' HO_0.out).2.2 a2 p148 q148
           cases e148
           replace p148 := eq_true p148
           replace q148 := eq_true q148
           have p149 : 0 ≤ ((ji36) : Int) := odt
           have q149 : (ji36) < (l0.length : Int) := odt
           obtain ⟨ad149, e149, hx149_0, hx149_1, hx149_2, hx149_3, hx149_4, hx149_5, hx149_6, hx149_7, hx149_8, hx149_9, hx149_10, hx149_11, hx149_12, hx149_13, hx149_14, hx149_15, hx149_16, hx149_17, hx149_18, hx149_19⟩ := at_T29 (Kd.R_reads' HO_0.out).2.2 (ji36) p149 q149
           obtain rfl : ad148 = ad149 := (by injection e149)
           replace p149 := eq_true p149
           replace q149 := eq_true q149
           refine start_ (n := 12) (S := fun w' => cj29 w' (ad148.add ((a2).toNat * 20)) (rd_T29 l0 a2) <| ce29 w' (ad148.add (((ji36)).toNat * 20)) (rd_T29 l0 (ji36))) (ds := []) #[false, false, false, false, false, false, false, false, false, false, false, false] (by kernel_rfl) rfl rfl ⟨hx148_0, hx148_1, hx148_2, hx148_3, hx148_4, hx148_5, hx148_6, hx148_7, hx148_8, hx148_9, hx148_10, hx148_11, hx148_12, hx148_13, hx148_14, hx148_15, hx148_16, hx148_17, hx148_18, hx148_19, hx149_0, hx149_1, hx149_2, hx149_3, hx149_4, hx149_5, hx149_6, hx149_7, hx149_8, hx149_9, hx149_10, hx149_11, hx149_12, hx149_13, hx149_14, hx149_15, hx149_16, hx149_17, hx149_18, hx149_19⟩ (fun hHeld => ?_); refine with_tabW api_Ep_33.tab17 api_Ep_33.bits17 (fun HT_ HW_ => ?_)
           generalize wr.drew = w44 at HO_0 HK HB hx148_0 hx148_1 hx148_10 hx148_11 hx148_12 hx148_13 hx148_14 hx148_15 hx148_16 hx148_17 hx148_18 hx148_19 hx148_2 hx148_3 hx148_4 hx148_5 hx148_6 hx148_7 hx148_8 hx148_9 hx149_0 hx149_1 hx149_10 hx149_11 hx149_12 hx149_13 hx149_14 hx149_15 hx149_16 hx149_17 hx149_18 hx149_19 hx149_2 hx149_3 hx149_4 hx149_5 hx149_6 hx149_7 hx149_8 hx149_9 hHeld ⊢
           refine pu 0 92 HT_ ?_
           refine pu 1 93 HT_ ?_
           refine pu 2 94 HT_ ?_
           refine pu 3 95 HT_ ?_
           refine pu 5 97 HT_ ?_
           refine pu 6 98 HT_ ?_
           refine pu 7 99 HT_ ?_
           refine take_ (i := 4) (N := some 96) (v := ?_) (a' := ?_) #[true, true, true, true, true, true, true, true, false, false, false, false] rfl rfl (take_ofW HT_.out HW_.out (by kernel_rfl)) (fun _ _ _ h => h) (Or.inl ⟨by rfl, ?_⟩) hHeld ?_ ?_
           rotate_left
           ·rintro w' ⟨s0, s1, s2, s3, s4, s5, s6, s7, s8, s9, s10, s11, s12, s13, s14, s15, s16, s17, s18, s19, s20, s21, s22, s23, s24, s25, s26, s27, s28, s29, s30, s31, s32, s33, s34, s35, s36, s37, s38, s39⟩
            first | (have hz_ := fun (a : Act) (o : Oper) (x : Operand) (ho : o.op = .load 29 x) (hx : a.eval x = _) => exec_load_at (P := Try.prog) (W := w') (cs := [_, _, _, _, _, _, _, _, _, _, _, _, _, _, _, _, _, _, _]) ho hx Try.underlying29 rfl (by kernel_rfl) s0 ⟨s1, s2, s3, s4, s5, s6, s7, s8, s9, s10, s11, s12, s13, s14, s15, s16, s17, s18, s19, trivial⟩; refine (hz_ _ _ (.tmp 95) ?_ ?_).trans ?_; (focus rfl); (focus (first | (with_reducible rfl) | (go_simp; done))); with_reducible rfl) | (have hz_ := fun (a : Act) (o : Oper) (x : Operand) (ho : o.op = .load 29 x) (hx : a.eval x = _) => exec_load_at (P := Try.prog) (W := w') (cs := [_, _, _, _, _, _, _, _, _, _, _, _, _, _, _, _, _, _, _]) ho hx Try.underlying29 rfl (by kernel_rfl) s20 ⟨s21, s22, s23, s24, s25, s26, s27, s28, s29, s30, s31, s32, s33, s34, s35, s36, s37, s38, s39, trivial⟩; refine (hz_ _ _ (.tmp 95) ?_ ?_).trans ?_; (focus rfl); (focus (first | (with_reducible rfl) | (go_simp; done))); with_reducible rfl) | (go_simp; with_reducible rfl)
           rotate_left
           ·simp only [Act.put, sA, s0, sS, i64_w, i32_w]
            rfl
           refine take_ (i := 8) (N := some 100) (v := ?_) (a' := ?_) #[true, true, true, true, true, true, true, true, true, false, false, false] rfl rfl (take_ofW HT_.out HW_.out (by kernel_rfl)) (fun _ _ _ h => h) (Or.inl ⟨by rfl, ?_⟩) hHeld ?_ ?_
           rotate_left
           ·rintro w' ⟨s0, s1, s2, s3, s4, s5, s6, s7, s8, s9, s10, s11, s12, s13, s14, s15, s16, s17, s18, s19, s20, s21, s22, s23, s24, s25, s26, s27, s28, s29, s30, s31, s32, s33, s34, s35, s36, s37, s38, s39⟩
            first | (have hz_ := fun (a : Act) (o : Oper) (x : Operand) (ho : o.op = .load 29 x) (hx : a.eval x = _) => exec_load_at (P := Try.prog) (W := w') (cs := [_, _, _, _, _, _, _, _, _, _, _, _, _, _, _, _, _, _, _]) ho hx Try.underlying29 rfl (by kernel_rfl) s0 ⟨s1, s2, s3, s4, s5, s6, s7, s8, s9, s10, s11, s12, s13, s14, s15, s16, s17, s18, s19, trivial⟩; refine (hz_ _ _ (.tmp 99) ?_ ?_).trans ?_; (focus rfl); (focus (first | (with_reducible rfl) | (go_simp; done))); with_reducible rfl) | (have hz_ := fun (a : Act) (o : Oper) (x : Operand) (ho : o.op = .load 29 x) (hx : a.eval x = _) => exec_load_at (P := Try.prog) (W := w') (cs := [_, _, _, _, _, _, _, _, _, _, _, _, _, _, _, _, _, _, _]) ho hx Try.underlying29 rfl (by kernel_rfl) s20 ⟨s21, s22, s23, s24, s25, s26, s27, s28, s29, s30, s31, s32, s33, s34, s35, s36, s37, s38, s39, trivial⟩; refine (hz_ _ _ (.tmp 99) ?_ ?_).trans ?_; (focus rfl); (focus (first | (with_reducible rfl) | (go_simp; done))); with_reducible rfl) | (go_simp; with_reducible rfl)
           rotate_left
           ·simp only [Act.put, sA, s0, sS, i64_w, i32_w]
            rfl
           refine one_ (i := 9) (N := some 101) #[true, true, true, true, true, true, true, true, true, true, false, false] rfl rfl (one_of HT_.out (by kernel_rfl)) (by decide) (fun K hK => ?_)
           refine goesW_ Try.func22 (by kernel_rfl) rfl #[.agg #[.int .i64 ((rd_T29 l0 a2).f0), .int .i64 ((rd_T29 l0 a2).f1), .string ((rd_T29 l0 a2).f2), .string ((rd_T29 l0 a2).f3), .string ((rd_T29 l0 a2).f4), .int .i64 ((rd_T29 l0 a2).f5), .int .i64 ((rd_T29 l0 a2).f6), .int .i64 ((rd_T29 l0 a2).f7), .int .i64 ((rd_T29 l0 a2).f8), .bool ((rd_T29 l0 a2).f9), .int .i64 ((rd_T29 l0 a2).f10), .int .i64 ((rd_T29 l0 a2).f11), .int .i64 ((rd_T29 l0 a2).f12), .string ((rd_T29 l0 a2).f13), .int .i64 ((rd_T29 l0 a2).f14), .int .i64 ((rd_T29 l0 a2).f15), .string ((rd_T29 l0 a2).f16), .int .i64 ((rd_T29 l0 a2).f17), .int .i64 ((rd_T29 l0 a2).f18), .string ((rd_T29 l0 a2).f19)], .agg #[.int .i64 ((rd_T29 l0 (ji36)).f0), .int .i64 ((rd_T29 l0 (ji36)).f1), .string ((rd_T29 l0 (ji36)).f2), .string ((rd_T29 l0 (ji36)).f3), .string ((rd_T29 l0 (ji36)).f4), .int .i64 ((rd_T29 l0 (ji36)).f5), .int .i64 ((rd_T29 l0 (ji36)).f6), .int .i64 ((rd_T29 l0 (ji36)).f7), .int .i64 ((rd_T29 l0 (ji36)).f8), .bool ((rd_T29 l0 (ji36)).f9), .int .i64 ((rd_T29 l0 (ji36)).f10), .int .i64 ((rd_T29 l0 (ji36)).f11), .int .i64 ((rd_T29 l0 (ji36)).f12), .string ((rd_T29 l0 (ji36)).f13), .int .i64 ((rd_T29 l0 (ji36)).f14), .int .i64 ((rd_T29 l0 (ji36)).f15), .string ((rd_T29 l0 (ji36)).f16), .int .i64 ((rd_T29 l0 (ji36)).f17), .int .i64 ((rd_T29 l0 (ji36)).f18), .string ((rd_T29 l0 (ji36)).f19)]] (by rfl) rfl rfl (by first | rfl | (go_simp; done)) (by (try simp only [List.map_toArray, List.map_cons, List.map_nil]); first | done | (simp only [hji36]; rfl) | rfl | (simp only [List.length_drop, List.length_take]; rfl)) ?_
           with_reducible refine (retain_older.calls _ _ _ _ _ _ _ _ _ _ _ _ _ _ _ _ _ _ _ _ _ _ _ _ _ _ _ _ _ _ _ _ _ _ _ _ _ _ _ _ _ _ _ A39.out).mono ?_
           rintro e w46 ⟨rfl, hb⟩
           have hbk_w46 := mkA hb
           have HS0_ := hs_ hb hHeld.1
           have HS1_ := hs_ hb hHeld.2.1
           have HS2_ := hs_ hb hHeld.2.2.1
           have HS3_ := hs_ hb hHeld.2.2.2.1
           have HS4_ := hs_ hb hHeld.2.2.2.2.1
           have HS5_ := hs_ hb hHeld.2.2.2.2.2.1
           have HS6_ := hs_ hb hHeld.2.2.2.2.2.2.1
           have HS7_ := hs_ hb hHeld.2.2.2.2.2.2.2.1
           have HS8_ := hs_ hb hHeld.2.2.2.2.2.2.2.2.1
           have HS9_ := hs_ hb hHeld.2.2.2.2.2.2.2.2.2.1
           have HS10_ := hs_ hb hHeld.2.2.2.2.2.2.2.2.2.2.1
           have HS11_ := hs_ hb hHeld.2.2.2.2.2.2.2.2.2.2.2.1
           have HS12_ := hs_ hb hHeld.2.2.2.2.2.2.2.2.2.2.2.2.1
           have HS13_ := hs_ hb hHeld.2.2.2.2.2.2.2.2.2.2.2.2.2.1
           have HS14_ := hs_ hb hHeld.2.2.2.2.2.2.2.2.2.2.2.2.2.2.1
           have HS15_ := hs_ hb hHeld.2.2.2.2.2.2.2.2.2.2.2.2.2.2.2.1
           have HS16_ := hs_ hb hHeld.2.2.2.2.2.2.2.2.2.2.2.2.2.2.2.2.1
           have HS17_ := hs_ hb hHeld.2.2.2.2.2.2.2.2.2.2.2.2.2.2.2.2.2.1
           have HS18_ := hs_ hb hHeld.2.2.2.2.2.2.2.2.2.2.2.2.2.2.2.2.2.2.1
           have HS19_ := hs_ hb hHeld.2.2.2.2.2.2.2.2.2.2.2.2.2.2.2.2.2.2.2.1
           have HS20_ := hs_ hb hHeld.2.2.2.2.2.2.2.2.2.2.2.2.2.2.2.2.2.2.2.2.1
           have HS21_ := hs_ hb hHeld.2.2.2.2.2.2.2.2.2.2.2.2.2.2.2.2.2.2.2.2.2.1
           have HS22_ := hs_ hb hHeld.2.2.2.2.2.2.2.2.2.2.2.2.2.2.2.2.2.2.2.2.2.2.1
           have HS23_ := hs_ hb hHeld.2.2.2.2.2.2.2.2.2.2.2.2.2.2.2.2.2.2.2.2.2.2.2.1
           have HS24_ := hs_ hb hHeld.2.2.2.2.2.2.2.2.2.2.2.2.2.2.2.2.2.2.2.2.2.2.2.2.1
           have HS25_ := hs_ hb hHeld.2.2.2.2.2.2.2.2.2.2.2.2.2.2.2.2.2.2.2.2.2.2.2.2.2.1
           have HS26_ := hs_ hb hHeld.2.2.2.2.2.2.2.2.2.2.2.2.2.2.2.2.2.2.2.2.2.2.2.2.2.2.1
           have HS27_ := hs_ hb hHeld.2.2.2.2.2.2.2.2.2.2.2.2.2.2.2.2.2.2.2.2.2.2.2.2.2.2.2.1
           have HS28_ := hs_ hb hHeld.2.2.2.2.2.2.2.2.2.2.2.2.2.2.2.2.2.2.2.2.2.2.2.2.2.2.2.2.1
           have HS29_ := hs_ hb hHeld.2.2.2.2.2.2.2.2.2.2.2.2.2.2.2.2.2.2.2.2.2.2.2.2.2.2.2.2.2.1
           have HS30_ := hs_ hb hHeld.2.2.2.2.2.2.2.2.2.2.2.2.2.2.2.2.2.2.2.2.2.2.2.2.2.2.2.2.2.2.1
           have HS31_ := hs_ hb hHeld.2.2.2.2.2.2.2.2.2.2.2.2.2.2.2.2.2.2.2.2.2.2.2.2.2.2.2.2.2.2.2.1
           have HS32_ := hs_ hb hHeld.2.2.2.2.2.2.2.2.2.2.2.2.2.2.2.2.2.2.2.2.2.2.2.2.2.2.2.2.2.2.2.2.1
           have HS33_ := hs_ hb hHeld.2.2.2.2.2.2.2.2.2.2.2.2.2.2.2.2.2.2.2.2.2.2.2.2.2.2.2.2.2.2.2.2.2.1
           have HS34_ := hs_ hb hHeld.2.2.2.2.2.2.2.2.2.2.2.2.2.2.2.2.2.2.2.2.2.2.2.2.2.2.2.2.2.2.2.2.2.2.1
           have HS35_ := hs_ hb hHeld.2.2.2.2.2.2.2.2.2.2.2.2.2.2.2.2.2.2.2.2.2.2.2.2.2.2.2.2.2.2.2.2.2.2.2.1
           have HS36_ := hs_ hb hHeld.2.2.2.2.2.2.2.2.2.2.2.2.2.2.2.2.2.2.2.2.2.2.2.2.2.2.2.2.2.2.2.2.2.2.2.2.1
           have HS37_ := hs_ hb hHeld.2.2.2.2.2.2.2.2.2.2.2.2.2.2.2.2.2.2.2.2.2.2.2.2.2.2.2.2.2.2.2.2.2.2.2.2.2.1
           have HS38_ := hs_ hb hHeld.2.2.2.2.2.2.2.2.2.2.2.2.2.2.2.2.2.2.2.2.2.2.2.2.2.2.2.2.2.2.2.2.2.2.2.2.2.2.1
           have HS39_ := hs_ hb hHeld.2.2.2.2.2.2.2.2.2.2.2.2.2.2.2.2.2.2.2.2.2.2.2.2.2.2.2.2.2.2.2.2.2.2.2.2.2.2.2
           refine ⟨_, rfl, ?_⟩
           have n0_ := mkA (Kd.R_below (Kd.R_y HO_0.out) hb)
           have n1_ := mkA (Kept.below (S := (fun k_ => P0_ k_)) (by repeat (first | (with_reducible first | exact HK.out | apply Kept.alloc | apply Kept.drewN | apply Kept.drew) | exact HK.out)) hb)
           have n2_ := mkA (below_step (below_y HB.out) hb)
           clear HO_0 HK HB
           have HO_0 := n0_
           have HK := n1_
           have HB := n2_
           clear n0_ n1_ n2_
           (try clear hb)
           (try clear hb2)
           (try clear hk)
           (try clear hi)
           refine hK.out _ _ ⟨HS0_, HS1_, HS2_, HS3_, HS4_, HS5_, HS6_, HS7_, HS8_, HS9_, HS10_, HS11_, HS12_, HS13_, HS14_, HS15_, HS16_, HS17_, HS18_, HS19_, HS20_, HS21_, HS22_, HS23_, HS24_, HS25_, HS26_, HS27_, HS28_, HS29_, HS30_, HS31_, HS32_, HS33_, HS34_, HS35_, HS36_, HS37_, HS38_, HS39_⟩ (fun hHeld => ?_)
           clear hK K
           refine norm_ (a' := ?_) ?_ ?_
           rotate_left
           ·show Act.put _ (some 101) _ = _
            simp only [Act.put, sA, s0, sS, i64_w, i32_w]
            rfl
           refine pu 10 102 HT_ ?_
           refine pu 11 103 HT_ ?_
           refine done_ (done_of HT_.out (by kernel_rfl)) ?_
           try go_wp2
           go_roundg k1
           case measure => have := HK1.out; omega
           case rel => exact ⟨(wrap64 ((ji36) + 1)), (x15_1), (by first | rfl | (simp; done) | (simp only [← hji36] <;> (first | rfl | simp)) | (simp [*]; done)), (by first | rfl | (simp; done) | (simp [*]; done)), H', ⟨by have := HK1.out; omega⟩, ⟨by (with_reducible repeat (first | apply Kd.R_alloc | apply Kd.R_drewN | apply Kd.R_drew)); exact HO_0.out⟩, ⟨by repeat (first | (with_reducible first | exact HK.out | apply Kept.alloc | apply Kept.drewN | apply Kept.drew) | exact HK.out)⟩, ⟨below_y HB.out⟩⟩
        ·rw [if_neg c38] at H
         exact absurd H (by simp)
       ·rw [if_neg c37] at H
        exact absurd H (by simp)
      ·rw [if_neg c35] at H
       exact absurd H (by simp)
     ·rw [if_neg c34] at H
      exact absurd H (by simp)
    ·rw [if_neg c33] at H
     have c33b0 : decide (x14_1 < x15_1) = false := decide_eq_false c33
     clear c33
     have H' := mkA H
     clear H
     go_wp2
     try simp only [Act.put, sA, s0, sS]
     go_loopg [17] k1 (fun kq v17 w' => ∃ (x0_2 : List (S29)) (x17_2 : Int), v17 = .int .i64 x17_2 ∧ Aside0 (api_Ep_33.l3 kq x0_2 x14_1 x17_2 = some r) ∧ Aside0 (kq ≤ k1) ∧ Aside0 (Kd.R k29 29 w' w0.heap.size (fun k_ => (P0_ k_ ∨ w.heap.size ≤ k_)) u9000_ x0_2) ∧ Aside0 (Kept w w' (fun k_ => P0_ k_)) ∧ Aside0 (Below w0.heap.size w0 w'))
     case atStart => exact ⟨(l0), (a2), (by first | rfl | (simp; done) | (simp [*]; done)), H', ⟨Nat.le_refl _⟩, ⟨by (with_reducible repeat (first | apply Kd.R_alloc | apply Kd.R_drewN | apply Kd.R_drew)); exact HO_0.out⟩, ⟨by repeat (first | (with_reducible first | exact HK.out | apply Kept.alloc | apply Kept.drewN | apply Kept.drew) | exact HK.out)⟩, ⟨below_y HB.out⟩⟩
     case round =>
      clear H'
      try clear p1
      try clear q1
      try clear hx1
      try clear c2
      try clear p2
      try clear q2
      try clear hx2
      try clear c3
      try clear c4
      try clear p6
      try clear p14
      try clear q14
      try clear hx14
      try clear c20
      try clear c20b0
      try clear c22
      try clear c22b0
      try clear c23
      try clear c23b0
      try clear c24
      try clear c24b0
      try clear c25
      try clear c25b0
      try clear c26
      try clear p26
      try clear q26
      try clear hx26
      try clear hf26
      try clear c27
      try clear p27
      try clear q27
      try clear hx27
      try clear hf27
      try clear c30
      try clear c31
      try clear c32
      try clear c32b0
      try clear c32b1
      try clear c33
      try clear c33b0
      try clear c34
      try clear c34b0
      try clear c35
      try clear c35b0
      try clear c37
      try clear c37b0
      try clear c38
      try clear c38b0
      try clear c40
      try clear c40b0
      try clear hx141_0
      try clear hx141_1
      try clear hx141_10
      try clear hx141_11
      try clear hx141_12
      try clear hx141_13
      try clear hx141_14
      try clear hx141_15
      try clear hx141_16
      try clear hx141_17
      try clear hx141_18
      try clear hx141_19
      try clear hx141_2
      try clear hx141_3
      try clear hx141_4
      try clear hx141_5
      try clear hx141_6
      try clear hx141_7
      try clear hx141_8
      try clear hx141_9
      try clear hx142_0
      try clear hx142_1
      try clear hx142_10
      try clear hx142_11
      try clear hx142_12
      try clear hx142_13
      try clear hx142_14
      try clear hx142_15
      try clear hx142_16
      try clear hx142_17
      try clear hx142_18
      try clear hx142_19
      try clear hx142_2
      try clear hx142_3
      try clear hx142_4
      try clear hx142_5
      try clear hx142_6
      try clear hx142_7
      try clear hx142_8
      try clear hx142_9
      try clear hx144_0
      try clear hx144_1
      try clear hx144_10
      try clear hx144_11
      try clear hx144_12
      try clear hx144_13
      try clear hx144_14
      try clear hx144_15
      try clear hx144_16
      try clear hx144_17
      try clear hx144_18
      try clear hx144_19
      try clear hx144_2
      try clear hx144_3
      try clear hx144_4
      try clear hx144_5
      try clear hx144_6
      try clear hx144_7
      try clear hx144_8
      try clear hx144_9
      try clear hx145_0
      try clear hx145_1
      try clear hx145_10
      try clear hx145_11
      try clear hx145_12
      try clear hx145_13
      try clear hx145_14
      try clear hx145_15
      try clear hx145_16
      try clear hx145_17
      try clear hx145_18
      try clear hx145_19
      try clear hx145_2
      try clear hx145_3
      try clear hx145_4
      try clear hx145_5
      try clear hx145_6
      try clear hx145_7
      try clear hx145_8
      try clear hx145_9
      try clear hx148_0
      try clear hx148_1
      try clear hx148_10
      try clear hx148_11
      try clear hx148_12
      try clear hx148_13
      try clear hx148_14
      try clear hx148_15
      try clear hx148_16
      try clear hx148_17
      try clear hx148_18
      try clear hx148_19
      try clear hx148_2
      try clear hx148_3
      try clear hx148_4
      try clear hx148_5
      try clear hx148_6
      try clear hx148_7
      try clear hx148_8
      try clear hx148_9
      try clear hx149_0
      try clear hx149_1
      try clear hx149_10
      try clear hx149_11
      try clear hx149_12
      try clear hx149_13
      try clear hx149_14
      try clear hx149_15
      try clear hx149_16
      try clear hx149_17
      try clear hx149_18
      try clear hx149_19
      try clear hx149_2
      try clear hx149_3
      try clear hx149_4
      try clear hx149_5
      try clear hx149_6
      try clear hx149_7
      try clear hx149_8
      try clear hx149_9
      try clear hx26_0
      try clear hx26_1
      try clear hx26_10
      try clear hx26_11
      try clear hx26_12
      try clear hx26_13
      try clear hx26_14
      try clear hx26_15
      try clear hx26_16
      try clear hx26_17
      try clear hx26_18
      try clear hx26_19
      try clear hx26_2
      try clear hx26_3
      try clear hx26_4
      try clear hx26_5
      try clear hx26_6
      try clear hx26_7
      try clear hx26_8
      try clear hx26_9
      try clear hx27_0
      try clear hx27_1
      try clear hx27_10
      try clear hx27_11
      try clear hx27_12
      try clear hx27_13
      try clear hx27_14
      try clear hx27_15
      try clear hx27_16
      try clear hx27_17
      try clear hx27_18
      try clear hx27_19
      try clear hx27_2
      try clear hx27_3
      try clear hx27_4
      try clear hx27_5
      try clear hx27_6
      try clear hx27_7
      try clear hx27_8
      try clear hx27_9
      try clear p1
      try clear p14
      try clear p141
      try clear p142
      try clear p144
      try clear p145
      try clear p148
      try clear p149
      try clear p2
      try clear p26
      try clear p27
      try clear p6
      try clear q1
      try clear q14
      try clear q141
      try clear q142
      try clear q144
      try clear q145
      try clear q148
      try clear q149
      try clear q26
      try clear q27
      obtain ⟨x0_2, x17_2, rfl, HA, HK2, HO_0, HK, HB⟩ := hrel
      cases gk with
      | zero => exact absurd HA.out (by simp [api_Ep_33.l3])
      | succ k2 =>
       have H := HA.out
       clear HA
       simp only [api_Ep_33.l3] at H
       by_cases c47 : x17_2 > x14_1
       ·rw [if_pos c47] at H
        have c47b0 : decide (x14_1 < x17_2) = true := decide_eq_true c47
        clear c47
        obtain ⟨ji48, hji48⟩ : ∃ j_ : Int, (wrap64 (x17_2 - 1)) = j_ := ⟨_, rfl⟩
        replace H : (if 0 ≤ (ji48) then (if (ji48) < (x0_2.length : Int) then (if 0 ≤ x17_2 then (if x17_2 < (x0_2.length : Int) then (api_Ep_33.l3 k2 ((x0_2.set (x17_2 : Int).toNat (⟨(rd_T29 x0_2 (ji48)).f0, (rd_T29 x0_2 (ji48)).f1, (rd_T29 x0_2 (ji48)).f2, (rd_T29 x0_2 (ji48)).f3, (rd_T29 x0_2 (ji48)).f4, (rd_T29 x0_2 (ji48)).f5, (rd_T29 x0_2 (ji48)).f6, (rd_T29 x0_2 (ji48)).f7, (rd_T29 x0_2 (ji48)).f8, (rd_T29 x0_2 (ji48)).f9, (rd_T29 x0_2 (ji48)).f10, (rd_T29 x0_2 (ji48)).f11, (rd_T29 x0_2 (ji48)).f12, (rd_T29 x0_2 (ji48)).f13, (rd_T29 x0_2 (ji48)).f14, (rd_T29 x0_2 (ji48)).f15, (rd_T29 x0_2 (ji48)).f16, (rd_T29 x0_2 (ji48)).f17, (rd_T29 x0_2 (ji48)).f18, (rd_T29 x0_2 (ji48)).f19⟩ : S29)).set ((ji48) : Int).toNat (⟨(rd_T29 x0_2 x17_2).f0, (rd_T29 x0_2 x17_2).f1, (rd_T29 x0_2 x17_2).f2, (rd_T29 x0_2 x17_2).f3, (rd_T29 x0_2 x17_2).f4, (rd_T29 x0_2 x17_2).f5, (rd_T29 x0_2 x17_2).f6, (rd_T29 x0_2 x17_2).f7, (rd_T29 x0_2 x17_2).f8, (rd_T29 x0_2 x17_2).f9, (rd_T29 x0_2 x17_2).f10, (rd_T29 x0_2 x17_2).f11, (rd_T29 x0_2 x17_2).f12, (rd_T29 x0_2 x17_2).f13, (rd_T29 x0_2 x17_2).f14, (rd_T29 x0_2 x17_2).f15, (rd_T29 x0_2 x17_2).f16, (rd_T29 x0_2 x17_2).f17, (rd_T29 x0_2 x17_2).f18, (rd_T29 x0_2 x17_2).f19⟩ : S29)) x14_1 ji48) else (none)) else (none)) else (none)) else (none)) = some r := by first | (rw [hji48] at H; exact H) | (simp only [hji48] at H ⊢; exact H)
        have hji48w : (IntKind.i64.wrap (x17_2 - 1)) = ji48 := (i64_w _).trans hji48
        by_cases c49 : 0 ≤ (ji48)
        ·rw [if_pos c49] at H
         have c49b0 : decide (0 ≤ (ji48)) = true := decide_eq_true c49
         clear c49
         by_cases c50 : (ji48) < (x0_2.length : Int)
         ·rw [if_pos c50] at H
          have c50b0 : decide ((ji48) < (x0_2.length : Int)) = true := decide_eq_true c50
          clear c50
          by_cases c51 : 0 ≤ x17_2
          ·rw [if_pos c51] at H
           have c51b0 : decide (0 ≤ x17_2) = true := decide_eq_true c51
           clear c51
           by_cases c52 : x17_2 < (x0_2.length : Int)
           ·rw [if_pos c52] at H
            have c52b0 : decide (x17_2 < (x0_2.length : Int)) = true := decide_eq_true c52
            clear c52
            obtain ⟨y153, hy153⟩ : ∃ y_ : List (S29), y_ = (x0_2.set (x17_2 : Int).toNat (⟨(rd_T29 x0_2 (ji48)).f0, (rd_T29 x0_2 (ji48)).f1, (rd_T29 x0_2 (ji48)).f2, (rd_T29 x0_2 (ji48)).f3, (rd_T29 x0_2 (ji48)).f4, (rd_T29 x0_2 (ji48)).f5, (rd_T29 x0_2 (ji48)).f6, (rd_T29 x0_2 (ji48)).f7, (rd_T29 x0_2 (ji48)).f8, (rd_T29 x0_2 (ji48)).f9, (rd_T29 x0_2 (ji48)).f10, (rd_T29 x0_2 (ji48)).f11, (rd_T29 x0_2 (ji48)).f12, (rd_T29 x0_2 (ji48)).f13, (rd_T29 x0_2 (ji48)).f14, (rd_T29 x0_2 (ji48)).f15, (rd_T29 x0_2 (ji48)).f16, (rd_T29 x0_2 (ji48)).f17, (rd_T29 x0_2 (ji48)).f18, (rd_T29 x0_2 (ji48)).f19⟩ : S29)) := ⟨_, rfl⟩
            replace H : (api_Ep_33.l3 k2 (y153.set ((ji48) : Int).toNat (⟨(rd_T29 x0_2 x17_2).f0, (rd_T29 x0_2 x17_2).f1, (rd_T29 x0_2 x17_2).f2, (rd_T29 x0_2 x17_2).f3, (rd_T29 x0_2 x17_2).f4, (rd_T29 x0_2 x17_2).f5, (rd_T29 x0_2 x17_2).f6, (rd_T29 x0_2 x17_2).f7, (rd_T29 x0_2 x17_2).f8, (rd_T29 x0_2 x17_2).f9, (rd_T29 x0_2 x17_2).f10, (rd_T29 x0_2 x17_2).f11, (rd_T29 x0_2 x17_2).f12, (rd_T29 x0_2 x17_2).f13, (rd_T29 x0_2 x17_2).f14, (rd_T29 x0_2 x17_2).f15, (rd_T29 x0_2 x17_2).f16, (rd_T29 x0_2 x17_2).f17, (rd_T29 x0_2 x17_2).f18, (rd_T29 x0_2 x17_2).f19⟩ : S29)) x14_1 ji48) = some r := by first | (rw [hy153]; with_reducible exact H) | (have H2_ := (Option.bind_some _ _).symm.trans H; rw [hy153]; with_reducible exact H2_) | (have H2_ := (Option.bind_some _ _).symm.trans H; with_reducible exact H2_) | with_reducible exact H | (rw [hy153]; exact H) | exact H
            have Ny153 := mkA hy153
            clear hy153
            obtain ⟨y154, hy154⟩ : ∃ y_ : List (S29), y_ = (y153.set ((ji48) : Int).toNat (⟨(rd_T29 x0_2 x17_2).f0, (rd_T29 x0_2 x17_2).f1, (rd_T29 x0_2 x17_2).f2, (rd_T29 x0_2 x17_2).f3, (rd_T29 x0_2 x17_2).f4, (rd_T29 x0_2 x17_2).f5, (rd_T29 x0_2 x17_2).f6, (rd_T29 x0_2 x17_2).f7, (rd_T29 x0_2 x17_2).f8, (rd_T29 x0_2 x17_2).f9, (rd_T29 x0_2 x17_2).f10, (rd_T29 x0_2 x17_2).f11, (rd_T29 x0_2 x17_2).f12, (rd_T29 x0_2 x17_2).f13, (rd_T29 x0_2 x17_2).f14, (rd_T29 x0_2 x17_2).f15, (rd_T29 x0_2 x17_2).f16, (rd_T29 x0_2 x17_2).f17, (rd_T29 x0_2 x17_2).f18, (rd_T29 x0_2 x17_2).f19⟩ : S29)) := ⟨_, rfl⟩
            replace H : (api_Ep_33.l3 k2 y154 x14_1 ji48) = some r := by first | (rw [hy154]; with_reducible exact H) | (have H2_ := (Option.bind_some _ _).symm.trans H; rw [hy154]; with_reducible exact H2_) | (have H2_ := (Option.bind_some _ _).symm.trans H; with_reducible exact H2_) | with_reducible exact H | (rw [hy154]; exact H) | exact H
            have Ny154 := mkA hy154
            clear hy154
            as_aux_lemma =>
             have H' := mkA H
             clear H
             try go_wp2
             have n0_ := mkA (Kd.R_drew HO_0.out)
             have n1_ := mkA (Kept.drew HK.out)
             have n2_ := mkA (below_drew1 HB.out)
             clear HO_0 HK HB
             have HO_0 := n0_
             have HK := n1_
             have HB := n2_
             clear n0_ n1_ n2_
             obtain ⟨Ao56, co56, eo56⟩ := Kd.R_slice HO_0.out
             (first | subst eo56 | (injection eo56 with f1_ f2_ f3_; have f4_ := f1_.symm; have f5_ := f3_.symm; clear f1_ f2_ f3_; subst f4_; subst f5_))
             have p151 : 0 ≤ ((ji48) : Int) := odt
             have q151 : (ji48) < (x0_2.length : Int) := odt
             obtain ⟨ad151, e151, hx151_0, hx151_1, hx151_2, hx151_3, hx151_4, hx151_5, hx151_6, hx151_7, hx151_8, hx151_9, hx151_10, hx151_11, hx151_12, hx151_13, hx151_14, hx151_15, hx151_16, hx151_17, hx151_18, hx151_19⟩ := at_T29 (Kd.R_reads' HO_0.out).2.2 (ji48) p151 q151
             cases e151
             replace p151 := eq_true p151
             replace q151 := eq_true q151
             have p152 : 0 ≤ (x17_2 : Int) := odt
             have q152 : x17_2 < (x0_2.length : Int) := odt
             obtain ⟨ad152, e152, hx152_0, hx152_1, hx152_2, hx152_3, hx152_4, hx152_5, hx152_6, hx152_7, hx152_8, hx152_9, hx152_10, hx152_11, hx152_12, hx152_13, hx152_14, hx152_15, hx152_16, hx152_17, hx152_18, hx152_19⟩ := at_T29 (Kd.R_reads' HO_0.out).2.2 x17_2 p152 q152
             obtain rfl : ad151 = ad152 := (by injection e152)
             replace p152 := eq_true p152
             replace q152 := eq_true q152
             have p53 : 0 ≤ (x17_2 : Int) := odt
             have q53 : (x17_2 : Int) < ((x0_2.length : Int) : Int) := odt
             obtain ⟨go53, co53, eo53, gb53, gl53, cl53, HG53⟩ := Kd.R_form HO_0.out (by omega)
             (first | cases eo53 | (injection eo53 with ea_ en_ ec_; (first | subst ea_ | (injection ea_ with ea_; subst ea_)); subst ec_; clear en_))
             have GB53 := mkA gb53
             have GG53 := mkA HG53
             clear gb53 gl53 HG53
             have HMgo53 := mkA (show (P0_ go53 ∨ w.heap.size ≤ go53) from (HO_0.out.1 _ rfl))
             (first | simp only [add_plain] at hx151_0 | skip)
             (first | simp only [add_plain] at hx151_1 | skip)
             (first | simp only [add_plain] at hx151_2 | skip)
             (first | simp only [add_plain] at hx151_3 | skip)
             (first | simp only [add_plain] at hx151_4 | skip)
             (first | simp only [add_plain] at hx151_5 | skip)
             (first | simp only [add_plain] at hx151_6 | skip)
             (first | simp only [add_plain] at hx151_7 | skip)
             (first | simp only [add_plain] at hx151_8 | skip)
             (first | simp only [add_plain] at hx151_9 | skip)
             (first | simp only [add_plain] at hx151_10 | skip)
             (first | simp only [add_plain] at hx151_11 | skip)
             (first | simp only [add_plain] at hx151_12 | skip)
             (first | simp only [add_plain] at hx151_13 | skip)
             (first | simp only [add_plain] at hx151_14 | skip)
             (first | simp only [add_plain] at hx151_15 | skip)
             (first | simp only [add_plain] at hx151_16 | skip)
             (first | simp only [add_plain] at hx151_17 | skip)
             (first | simp only [add_plain] at hx151_18 | skip)
             (first | simp only [add_plain] at hx151_19 | skip)
             (first | simp only [add_plain] at hx152_0 | skip)
             (first | simp only [add_plain] at hx152_1 | skip)
             (first | simp only [add_plain] at hx152_2 | skip)
             (first | simp only [add_plain] at hx152_3 | skip)
             (first | simp only [add_plain] at hx152_4 | skip)
             (first | simp only [add_plain] at hx152_5 | skip)
             (first | simp only [add_plain] at hx152_6 | skip)
             (first | simp only [add_plain] at hx152_7 | skip)
             (first | simp only [add_plain] at hx152_8 | skip)
             (first | simp only [add_plain] at hx152_9 | skip)
             (first | simp only [add_plain] at hx152_10 | skip)
             (first | simp only [add_plain] at hx152_11 | skip)
             (first | simp only [add_plain] at hx152_12 | skip)
             (first | simp only [add_plain] at hx152_13 | skip)
             (first | simp only [add_plain] at hx152_14 | skip)
             (first | simp only [add_plain] at hx152_15 | skip)
             (first | simp only [add_plain] at hx152_16 | skip)
             (first | simp only [add_plain] at hx152_17 | skip)
             (first | simp only [add_plain] at hx152_18 | skip)
             (first | simp only [add_plain] at hx152_19 | skip)
             obtain ⟨ce53, hcl53, hM53, hcc53, hfr53⟩ := Kd.R_elem HO_0.out z29 (x17_2 : Int) p53 q53
             obtain rfl := k29_openM hM53
             have HE53 := mkA (show World.there _ go53 ((x17_2 : Int).toNat * k29.sz + 0) 20 from there_of hcl53 hcc53 hfr53)
             clear hcl53 hcc53 hfr53 hM53
             replace p53 := eq_true p53
             replace q53 := eq_true q53
             obtain ⟨ce57, hcl57, hM57, hcc57, hfr57⟩ := Kd.R_elem HO_0.out z29 (x17_2 : Int) (odt) (by have h_ : (x17_2 : Int) < ((x0_2.length : Int) : Int) := odt; first | exact h_ | (have e_ := (Kd.R_reads' HO_0.out).1; omega) | simpa using h_)
             obtain rfl := k29_openM hM57
             have HP57 := (Kd.R_seg HO_0.out (x17_2 : Int) (odt) (by have h_ : (x17_2 : Int) < ((x0_2.length : Int) : Int) := odt; first | exact h_ | (have e_ := (Kd.R_reads' HO_0.out).1; omega) | simpa using h_) (seg := [.int .i64 ((rd_T29 x0_2 (ji48)).f0), .int .i64 ((rd_T29 x0_2 (ji48)).f1), .string ((rd_T29 x0_2 (ji48)).f2), .string ((rd_T29 x0_2 (ji48)).f3), .string ((rd_T29 x0_2 (ji48)).f4), .int .i64 ((rd_T29 x0_2 (ji48)).f5), .int .i64 ((rd_T29 x0_2 (ji48)).f6), .int .i64 ((rd_T29 x0_2 (ji48)).f7), .int .i64 ((rd_T29 x0_2 (ji48)).f8), .bool ((rd_T29 x0_2 (ji48)).f9), .int .i64 ((rd_T29 x0_2 (ji48)).f10), .int .i64 ((rd_T29 x0_2 (ji48)).f11), .int .i64 ((rd_T29 x0_2 (ji48)).f12), .string ((rd_T29 x0_2 (ji48)).f13), .int .i64 ((rd_T29 x0_2 (ji48)).f14), .int .i64 ((rd_T29 x0_2 (ji48)).f15), .string ((rd_T29 x0_2 (ji48)).f16), .int .i64 ((rd_T29 x0_2 (ji48)).f17), .int .i64 ((rd_T29 x0_2 (ji48)).f18), .string ((rd_T29 x0_2 (ji48)).f19)]) (j := 0) hcl57 hcc57 (show 20 ≤ 20 from by decide) (x' := (⟨(rd_T29 x0_2 (ji48)).f0, (rd_T29 x0_2 (ji48)).f1, (rd_T29 x0_2 (ji48)).f2, (rd_T29 x0_2 (ji48)).f3, (rd_T29 x0_2 (ji48)).f4, (rd_T29 x0_2 (ji48)).f5, (rd_T29 x0_2 (ji48)).f6, (rd_T29 x0_2 (ji48)).f7, (rd_T29 x0_2 (ji48)).f8, (rd_T29 x0_2 (ji48)).f9, (rd_T29 x0_2 (ji48)).f10, (rd_T29 x0_2 (ji48)).f11, (rd_T29 x0_2 (ji48)).f12, (rd_T29 x0_2 (ji48)).f13, (rd_T29 x0_2 (ji48)).f14, (rd_T29 x0_2 (ji48)).f15, (rd_T29 x0_2 (ji48)).f16, (rd_T29 x0_2 (ji48)).f17, (rd_T29 x0_2 (ji48)).f18, (rd_T29 x0_2 (ji48)).f19⟩ : S29)) (k29_mkM _ _ _ (⟨(rd_T29 x0_2 (ji48)).f0, (rd_T29 x0_2 (ji48)).f1, (rd_T29 x0_2 (ji48)).f2, (rd_T29 x0_2 (ji48)).f3, (rd_T29 x0_2 (ji48)).f4, (rd_T29 x0_2 (ji48)).f5, (rd_T29 x0_2 (ji48)).f6, (rd_T29 x0_2 (ji48)).f7, (rd_T29 x0_2 (ji48)).f8, (rd_T29 x0_2 (ji48)).f9, (rd_T29 x0_2 (ji48)).f10, (rd_T29 x0_2 (ji48)).f11, (rd_T29 x0_2 (ji48)).f12, (rd_T29 x0_2 (ji48)).f13, (rd_T29 x0_2 (ji48)).f14, (rd_T29 x0_2 (ji48)).f15, (rd_T29 x0_2 (ji48)).f16, (rd_T29 x0_2 (ji48)).f17, (rd_T29 x0_2 (ji48)).f18, (rd_T29 x0_2 (ji48)).f19⟩ : S29) ) (fun _ hk => hk)).1
             rw [← Ny153.out] at HP57
             have HQ57 := mkA HP57
             clear hcl57 hcc57 hfr57 hM57 HP57
             have p54 : 0 ≤ ((ji48) : Int) := odt
             have q54 : ((ji48) : Int) < ((x0_2.length : Int) : Int) := odt
             obtain ⟨ce54, hcl54, hM54, hcc54, hfr54⟩ := Kd.R_elem HQ57.out z29 ((ji48) : Int) p54 q54
             obtain rfl := k29_openM hM54
             have HE54 := mkA (show World.there _ go53 (((ji48) : Int).toNat * k29.sz + 0) 20 from there_of hcl54 hcc54 hfr54)
             clear hcl54 hcc54 hfr54 hM54
             replace p54 := eq_true p54
             replace q54 := eq_true q54
             obtain ⟨ce58, hcl58, hM58, hcc58, hfr58⟩ := Kd.R_elem HQ57.out z29 ((ji48) : Int) (odt) (by have h_ : ((ji48) : Int) < ((x0_2.length : Int) : Int) := odt; first | exact h_ | (have e_ := (Kd.R_reads' HO_0.out).1; omega) | simpa using h_)
             obtain rfl := k29_openM hM58
             have HP58 := (Kd.R_seg HQ57.out ((ji48) : Int) (odt) (by have h_ : ((ji48) : Int) < ((x0_2.length : Int) : Int) := odt; first | exact h_ | (have e_ := (Kd.R_reads' HO_0.out).1; omega) | simpa using h_) (seg := [.int .i64 ((rd_T29 x0_2 x17_2).f0), .int .i64 ((rd_T29 x0_2 x17_2).f1), .string ((rd_T29 x0_2 x17_2).f2), .string ((rd_T29 x0_2 x17_2).f3), .string ((rd_T29 x0_2 x17_2).f4), .int .i64 ((rd_T29 x0_2 x17_2).f5), .int .i64 ((rd_T29 x0_2 x17_2).f6), .int .i64 ((rd_T29 x0_2 x17_2).f7), .int .i64 ((rd_T29 x0_2 x17_2).f8), .bool ((rd_T29 x0_2 x17_2).f9), .int .i64 ((rd_T29 x0_2 x17_2).f10), .int .i64 ((rd_T29 x0_2 x17_2).f11), .int .i64 ((rd_T29 x0_2 x17_2).f12), .string ((rd_T29 x0_2 x17_2).f13), .int .i64 ((rd_T29 x0_2 x17_2).f14), .int .i64 ((rd_T29 x0_2 x17_2).f15), .string ((rd_T29 x0_2 x17_2).f16), .int .i64 ((rd_T29 x0_2 x17_2).f17), .int .i64 ((rd_T29 x0_2 x17_2).f18), .string ((rd_T29 x0_2 x17_2).f19)]) (j := 0) hcl58 hcc58 (show 20 ≤ 20 from by decide) (x' := (⟨(rd_T29 x0_2 x17_2).f0, (rd_T29 x0_2 x17_2).f1, (rd_T29 x0_2 x17_2).f2, (rd_T29 x0_2 x17_2).f3, (rd_T29 x0_2 x17_2).f4, (rd_T29 x0_2 x17_2).f5, (rd_T29 x0_2 x17_2).f6, (rd_T29 x0_2 x17_2).f7, (rd_T29 x0_2 x17_2).f8, (rd_T29 x0_2 x17_2).f9, (rd_T29 x0_2 x17_2).f10, (rd_T29 x0_2 x17_2).f11, (rd_T29 x0_2 x17_2).f12, (rd_T29 x0_2 x17_2).f13, (rd_T29 x0_2 x17_2).f14, (rd_T29 x0_2 x17_2).f15, (rd_T29 x0_2 x17_2).f16, (rd_T29 x0_2 x17_2).f17, (rd_T29 x0_2 x17_2).f18, (rd_T29 x0_2 x17_2).f19⟩ : S29)) (k29_mkM _ _ _ (⟨(rd_T29 x0_2 x17_2).f0, (rd_T29 x0_2 x17_2).f1, (rd_T29 x0_2 x17_2).f2, (rd_T29 x0_2 x17_2).f3, (rd_T29 x0_2 x17_2).f4, (rd_T29 x0_2 x17_2).f5, (rd_T29 x0_2 x17_2).f6, (rd_T29 x0_2 x17_2).f7, (rd_T29 x0_2 x17_2).f8, (rd_T29 x0_2 x17_2).f9, (rd_T29 x0_2 x17_2).f10, (rd_T29 x0_2 x17_2).f11, (rd_T29 x0_2 x17_2).f12, (rd_T29 x0_2 x17_2).f13, (rd_T29 x0_2 x17_2).f14, (rd_T29 x0_2 x17_2).f15, (rd_T29 x0_2 x17_2).f16, (rd_T29 x0_2 x17_2).f17, (rd_T29 x0_2 x17_2).f18, (rd_T29 x0_2 x17_2).f19⟩ : S29) ) (fun _ hk => hk)).1
             rw [← Ny154.out] at HP58
             have HQ58 := mkA HP58
             clear hcl58 hcc58 hfr58 hM58 HP58
             refine start_ (n := 18) (S := fun w' => w'.cell? ⟨go53, (((ji48)).toNat * 20), none⟩ = some (.int .i64 ((rd_T29 x0_2 (ji48)).f0)) ∧ w'.cell? ⟨go53, (((ji48)).toNat * 20) + 1, none⟩ = some (.int .i64 ((rd_T29 x0_2 (ji48)).f1)) ∧ w'.cell? ⟨go53, (((ji48)).toNat * 20) + 2, none⟩ = some (.string ((rd_T29 x0_2 (ji48)).f2)) ∧ w'.cell? ⟨go53, (((ji48)).toNat * 20) + 3, none⟩ = some (.string ((rd_T29 x0_2 (ji48)).f3)) ∧ w'.cell? ⟨go53, (((ji48)).toNat * 20) + 4, none⟩ = some (.string ((rd_T29 x0_2 (ji48)).f4)) ∧ w'.cell? ⟨go53, (((ji48)).toNat * 20) + 5, none⟩ = some (.int .i64 ((rd_T29 x0_2 (ji48)).f5)) ∧ w'.cell? ⟨go53, (((ji48)).toNat * 20) + 6, none⟩ = some (.int .i64 ((rd_T29 x0_2 (ji48)).f6)) ∧ w'.cell? ⟨go53, (((ji48)).toNat * 20) + 7, none⟩ = some (.int .i64 ((rd_T29 x0_2 (ji48)).f7)) ∧ w'.cell? ⟨go53, (((ji48)).toNat * 20) + 8, none⟩ = some (.int .i64 ((rd_T29 x0_2 (ji48)).f8)) ∧ w'.cell? ⟨go53, (((ji48)).toNat * 20) + 9, none⟩ = some (.bool ((rd_T29 x0_2 (ji48)).f9)) ∧ w'.cell? ⟨go53, (((ji48)).toNat * 20) + 10, none⟩ = some (.int .i64 ((rd_T29 x0_2 (ji48)).f10)) ∧ w'.cell? ⟨go53, (((ji48)).toNat * 20) + 11, none⟩ = some (.int .i64 ((rd_T29 x0_2 (ji48)).f11)) ∧ w'.cell? ⟨go53, (((ji48)).toNat * 20) + 12, none⟩ = some (.int .i64 ((rd_T29 x0_2 (ji48)).f12)) ∧ w'.cell? ⟨go53, (((ji48)).toNat * 20) + 13, none⟩ = some (.string ((rd_T29 x0_2 (ji48)).f13)) ∧ w'.cell? ⟨go53, (((ji48)).toNat * 20) + 14, none⟩ = some (.int .i64 ((rd_T29 x0_2 (ji48)).f14)) ∧ w'.cell? ⟨go53, (((ji48)).toNat * 20) + 15, none⟩ = some (.int .i64 ((rd_T29 x0_2 (ji48)).f15)) ∧ w'.cell? ⟨go53, (((ji48)).toNat * 20) + 16, none⟩ = some (.string ((rd_T29 x0_2 (ji48)).f16)) ∧ w'.cell? ⟨go53, (((ji48)).toNat * 20) + 17, none⟩ = some (.int .i64 ((rd_T29 x0_2 (ji48)).f17)) ∧ w'.cell? ⟨go53, (((ji48)).toNat * 20) + 18, none⟩ = some (.int .i64 ((rd_T29 x0_2 (ji48)).f18)) ∧ w'.cell? ⟨go53, (((ji48)).toNat * 20) + 19, none⟩ = some (.string ((rd_T29 x0_2 (ji48)).f19)) ∧ w'.cell? ⟨go53, ((x17_2).toNat * 20), none⟩ = some (.int .i64 ((rd_T29 x0_2 x17_2).f0)) ∧ w'.cell? ⟨go53, ((x17_2).toNat * 20) + 1, none⟩ = some (.int .i64 ((rd_T29 x0_2 x17_2).f1)) ∧ w'.cell? ⟨go53, ((x17_2).toNat * 20) + 2, none⟩ = some (.string ((rd_T29 x0_2 x17_2).f2)) ∧ w'.cell? ⟨go53, ((x17_2).toNat * 20) + 3, none⟩ = some (.string ((rd_T29 x0_2 x17_2).f3)) ∧ w'.cell? ⟨go53, ((x17_2).toNat * 20) + 4, none⟩ = some (.string ((rd_T29 x0_2 x17_2).f4)) ∧ w'.cell? ⟨go53, ((x17_2).toNat * 20) + 5, none⟩ = some (.int .i64 ((rd_T29 x0_2 x17_2).f5)) ∧ w'.cell? ⟨go53, ((x17_2).toNat * 20) + 6, none⟩ = some (.int .i64 ((rd_T29 x0_2 x17_2).f6)) ∧ w'.cell? ⟨go53, ((x17_2).toNat * 20) + 7, none⟩ = some (.int .i64 ((rd_T29 x0_2 x17_2).f7)) ∧ w'.cell? ⟨go53, ((x17_2).toNat * 20) + 8, none⟩ = some (.int .i64 ((rd_T29 x0_2 x17_2).f8)) ∧ w'.cell? ⟨go53, ((x17_2).toNat * 20) + 9, none⟩ = some (.bool ((rd_T29 x0_2 x17_2).f9)) ∧ w'.cell? ⟨go53, ((x17_2).toNat * 20) + 10, none⟩ = some (.int .i64 ((rd_T29 x0_2 x17_2).f10)) ∧ w'.cell? ⟨go53, ((x17_2).toNat * 20) + 11, none⟩ = some (.int .i64 ((rd_T29 x0_2 x17_2).f11)) ∧ w'.cell? ⟨go53, ((x17_2).toNat * 20) + 12, none⟩ = some (.int .i64 ((rd_T29 x0_2 x17_2).f12)) ∧ w'.cell? ⟨go53, ((x17_2).toNat * 20) + 13, none⟩ = some (.string ((rd_T29 x0_2 x17_2).f13)) ∧ w'.cell? ⟨go53, ((x17_2).toNat * 20) + 14, none⟩ = some (.int .i64 ((rd_T29 x0_2 x17_2).f14)) ∧ w'.cell? ⟨go53, ((x17_2).toNat * 20) + 15, none⟩ = some (.int .i64 ((rd_T29 x0_2 x17_2).f15)) ∧ w'.cell? ⟨go53, ((x17_2).toNat * 20) + 16, none⟩ = some (.string ((rd_T29 x0_2 x17_2).f16)) ∧ w'.cell? ⟨go53, ((x17_2).toNat * 20) + 17, none⟩ = some (.int .i64 ((rd_T29 x0_2 x17_2).f17)) ∧ w'.cell? ⟨go53, ((x17_2).toNat * 20) + 18, none⟩ = some (.int .i64 ((rd_T29 x0_2 x17_2).f18)) ∧ w'.cell? ⟨go53, ((x17_2).toNat * 20) + 19, none⟩ = some (.string ((rd_T29 x0_2 x17_2).f19))) (ds := [15, 17]) #[false, false, false, false, false, false, false, false, false, false, false, false, false, false, false, false, false, false] (by kernel_rfl) rfl rfl ⟨hx151_0, hx151_1, hx151_2, hx151_3, hx151_4, hx151_5, hx151_6, hx151_7, hx151_8, hx151_9, hx151_10, hx151_11, hx151_12, hx151_13, hx151_14, hx151_15, hx151_16, hx151_17, hx151_18, hx151_19, hx152_0, hx152_1, hx152_2, hx152_3, hx152_4, hx152_5, hx152_6, hx152_7, hx152_8, hx152_9, hx152_10, hx152_11, hx152_12, hx152_13, hx152_14, hx152_15, hx152_16, hx152_17, hx152_18, hx152_19⟩ (fun hHeld => ?_); refine with_tabW api_Ep_33.tab23 api_Ep_33.bits23 (fun HT_ HW_ => ?_)
             generalize wr.drew = w55 at HO_0 HK HB GG53 HQ57 HQ58 hx151_0 hx151_1 hx151_10 hx151_11 hx151_12 hx151_13 hx151_14 hx151_15 hx151_16 hx151_17 hx151_18 hx151_19 hx151_2 hx151_3 hx151_4 hx151_5 hx151_6 hx151_7 hx151_8 hx151_9 hx152_0 hx152_1 hx152_10 hx152_11 hx152_12 hx152_13 hx152_14 hx152_15 hx152_16 hx152_17 hx152_18 hx152_19 hx152_2 hx152_3 hx152_4 hx152_5 hx152_6 hx152_7 hx152_8 hx152_9 hHeld HE53 HE54 ⊢
             obtain ⟨w55s0, hw55s0⟩ : ∃ W_, W_ = w55.setCells go53 ((x17_2 : Int).toNat * k29.sz + 0) [.int .i64 ((rd_T29 x0_2 (ji48)).f0), .int .i64 ((rd_T29 x0_2 (ji48)).f1), .string ((rd_T29 x0_2 (ji48)).f2), .string ((rd_T29 x0_2 (ji48)).f3), .string ((rd_T29 x0_2 (ji48)).f4), .int .i64 ((rd_T29 x0_2 (ji48)).f5), .int .i64 ((rd_T29 x0_2 (ji48)).f6), .int .i64 ((rd_T29 x0_2 (ji48)).f7), .int .i64 ((rd_T29 x0_2 (ji48)).f8), .bool ((rd_T29 x0_2 (ji48)).f9), .int .i64 ((rd_T29 x0_2 (ji48)).f10), .int .i64 ((rd_T29 x0_2 (ji48)).f11), .int .i64 ((rd_T29 x0_2 (ji48)).f12), .string ((rd_T29 x0_2 (ji48)).f13), .int .i64 ((rd_T29 x0_2 (ji48)).f14), .int .i64 ((rd_T29 x0_2 (ji48)).f15), .string ((rd_T29 x0_2 (ji48)).f16), .int .i64 ((rd_T29 x0_2 (ji48)).f17), .int .i64 ((rd_T29 x0_2 (ji48)).f18), .string ((rd_T29 x0_2 (ji48)).f19)] := ⟨_, rfl⟩
             rw [← hw55s0] at HQ57 HQ58 HE54
             obtain ⟨w55s1, hw55s1⟩ : ∃ W_, W_ = w55s0.setCells go53 (((ji48) : Int).toNat * k29.sz + 0) [.int .i64 ((rd_T29 x0_2 x17_2).f0), .int .i64 ((rd_T29 x0_2 x17_2).f1), .string ((rd_T29 x0_2 x17_2).f2), .string ((rd_T29 x0_2 x17_2).f3), .string ((rd_T29 x0_2 x17_2).f4), .int .i64 ((rd_T29 x0_2 x17_2).f5), .int .i64 ((rd_T29 x0_2 x17_2).f6), .int .i64 ((rd_T29 x0_2 x17_2).f7), .int .i64 ((rd_T29 x0_2 x17_2).f8), .bool ((rd_T29 x0_2 x17_2).f9), .int .i64 ((rd_T29 x0_2 x17_2).f10), .int .i64 ((rd_T29 x0_2 x17_2).f11), .int .i64 ((rd_T29 x0_2 x17_2).f12), .string ((rd_T29 x0_2 x17_2).f13), .int .i64 ((rd_T29 x0_2 x17_2).f14), .int .i64 ((rd_T29 x0_2 x17_2).f15), .string ((rd_T29 x0_2 x17_2).f16), .int .i64 ((rd_T29 x0_2 x17_2).f17), .int .i64 ((rd_T29 x0_2 x17_2).f18), .string ((rd_T29 x0_2 x17_2).f19)] := ⟨_, rfl⟩
             rw [← hw55s1] at HQ58
             have HBs := mkA (show Below w0.heap.size w0 w55s1 from by rw [hw55s1, hw55s0]; exact (below_cells GB53.out _ _ (below_cells GB53.out _ _ HB.out)))
             have HKs := mkA (show Kept w w55s1 _ from by rw [hw55s1, hw55s0]; exact (kept_cells HMgo53.out _ _ (kept_cells HMgo53.out _ _ HK.out)))
             have ew55s0 := mkA hw55s0
             clear hw55s0
             have ew55s1 := mkA hw55s1
             clear hw55s1
             refine pu 0 113 HT_ ?_
             refine pu 1 114 HT_ ?_
             refine pu 2 115 HT_ ?_
             refine pu 3 116 HT_ ?_
             refine pu 4 117 HT_ ?_
             refine pu 5 118 HT_ ?_
             refine pu 6 119 HT_ ?_
             refine pu 7 120 HT_ ?_
             refine pu 8 121 HT_ ?_
             refine pu 10 123 HT_ ?_
             refine pu 11 124 HT_ ?_
             refine pu 12 125 HT_ ?_
             refine take_ (i := 9) (N := some 122) (v := ?_) (a' := ?_) #[true, true, true, true, true, true, true, true, true, true, true, true, true, false, false, false, false, false] rfl rfl (take_ofW HT_.out HW_.out (by kernel_rfl)) (fun _ _ _ h => h) (Or.inl ⟨by rfl, ?_⟩) hHeld ?_ ?_
             rotate_left
             ·rintro w' ⟨s0, s1, s2, s3, s4, s5, s6, s7, s8, s9, s10, s11, s12, s13, s14, s15, s16, s17, s18, s19, s20, s21, s22, s23, s24, s25, s26, s27, s28, s29, s30, s31, s32, s33, s34, s35, s36, s37, s38, s39⟩
              first | (have hz_ := fun (a : Act) (o : Oper) (x : Operand) (ho : o.op = .load 29 x) (hx : a.eval x = _) => exec_load_at (P := Try.prog) (W := w') (cs := [_, _, _, _, _, _, _, _, _, _, _, _, _, _, _, _, _, _, _]) ho hx Try.underlying29 rfl (by kernel_rfl) s0 ⟨s1, s2, s3, s4, s5, s6, s7, s8, s9, s10, s11, s12, s13, s14, s15, s16, s17, s18, s19, trivial⟩; refine (hz_ _ _ (.tmp 121) ?_ ?_).trans ?_; (focus rfl); (focus (first | (with_reducible rfl) | (go_simp; done))); with_reducible rfl) | (have hz_ := fun (a : Act) (o : Oper) (x : Operand) (ho : o.op = .load 29 x) (hx : a.eval x = _) => exec_load_at (P := Try.prog) (W := w') (cs := [_, _, _, _, _, _, _, _, _, _, _, _, _, _, _, _, _, _, _]) ho hx Try.underlying29 rfl (by kernel_rfl) s20 ⟨s21, s22, s23, s24, s25, s26, s27, s28, s29, s30, s31, s32, s33, s34, s35, s36, s37, s38, s39, trivial⟩; refine (hz_ _ _ (.tmp 121) ?_ ?_).trans ?_; (focus rfl); (focus (first | (with_reducible rfl) | (go_simp; done))); with_reducible rfl) | (go_simp; with_reducible rfl)
             rotate_left
             ·simp only [Act.put, sA, s0, sS, i64_w, i32_w]
              rfl
             refine take_ (i := 13) (N := some 126) (v := ?_) (a' := ?_) #[true, true, true, true, true, true, true, true, true, true, true, true, true, true, false, false, false, false] rfl rfl (take_ofW HT_.out HW_.out (by kernel_rfl)) (fun _ _ _ h => h) (Or.inl ⟨by rfl, ?_⟩) hHeld ?_ ?_
             rotate_left
             ·rintro w' ⟨s0, s1, s2, s3, s4, s5, s6, s7, s8, s9, s10, s11, s12, s13, s14, s15, s16, s17, s18, s19, s20, s21, s22, s23, s24, s25, s26, s27, s28, s29, s30, s31, s32, s33, s34, s35, s36, s37, s38, s39⟩
              first | (have hz_ := fun (a : Act) (o : Oper) (x : Operand) (ho : o.op = .load 29 x) (hx : a.eval x = _) => exec_load_at (P := Try.prog) (W := w') (cs := [_, _, _, _, _, _, _, _, _, _, _, _, _, _, _, _, _, _, _]) ho hx Try.underlying29 rfl (by kernel_rfl) s0 ⟨s1, s2, s3, s4, s5, s6, s7, s8, s9, s10, s11, s12, s13, s14, s15, s16, s17, s18, s19, trivial⟩; refine (hz_ _ _ (.tmp 125) ?_ ?_).trans ?_; (focus rfl); (focus (first | (with_reducible rfl) | (go_simp; done))); with_reducible rfl) | (have hz_ := fun (a : Act) (o : Oper) (x : Operand) (ho : o.op = .load 29 x) (hx : a.eval x = _) => exec_load_at (P := Try.prog) (W := w') (cs := [_, _, _, _, _, _, _, _, _, _, _, _, _, _, _, _, _, _, _]) ho hx Try.underlying29 rfl (by kernel_rfl) s20 ⟨s21, s22, s23, s24, s25, s26, s27, s28, s29, s30, s31, s32, s33, s34, s35, s36, s37, s38, s39, trivial⟩; refine (hz_ _ _ (.tmp 125) ?_ ?_).trans ?_; (focus rfl); (focus (first | (with_reducible rfl) | (go_simp; done))); with_reducible rfl) | (go_simp; with_reducible rfl)
             rotate_left
             ·simp only [Act.put, sA, s0, sS, i64_w, i32_w]
              rfl
             refine pu 14 127 HT_ ?_
             refine last_ (i := 15) (N := none) #[true, true, true, true, true, true, true, true, true, true, true, true, true, true, true, true, false, false] rfl rfl (one_of HT_.out (by kernel_rfl)) (by decide) (fun K hK => ?_)
             refine seg_ (ty := 29) (b := go53) (o := ((x17_2 : Int).toNat * k29.sz + 0)) (cells := #[.int .i64 ((rd_T29 x0_2 (ji48)).f0), .int .i64 ((rd_T29 x0_2 (ji48)).f1), .string ((rd_T29 x0_2 (ji48)).f2), .string ((rd_T29 x0_2 (ji48)).f3), .string ((rd_T29 x0_2 (ji48)).f4), .int .i64 ((rd_T29 x0_2 (ji48)).f5), .int .i64 ((rd_T29 x0_2 (ji48)).f6), .int .i64 ((rd_T29 x0_2 (ji48)).f7), .int .i64 ((rd_T29 x0_2 (ji48)).f8), .bool ((rd_T29 x0_2 (ji48)).f9), .int .i64 ((rd_T29 x0_2 (ji48)).f10), .int .i64 ((rd_T29 x0_2 (ji48)).f11), .int .i64 ((rd_T29 x0_2 (ji48)).f12), .string ((rd_T29 x0_2 (ji48)).f13), .int .i64 ((rd_T29 x0_2 (ji48)).f14), .int .i64 ((rd_T29 x0_2 (ji48)).f15), .string ((rd_T29 x0_2 (ji48)).f16), .int .i64 ((rd_T29 x0_2 (ji48)).f17), .int .i64 ((rd_T29 x0_2 (ji48)).f18), .string ((rd_T29 x0_2 (ji48)).f19)]) (by rfl) rfl ⟨_, _, rfl, (by first | rfl | (go_simp; done) | (go_simp; rfl)), (by first | rfl | (go_simp; done) | (go_simp; rfl))⟩ HE53.out (by kernel_rfl) (by first | rfl | (simp [Value.oneCell']; done)) ew55s0.out.symm ?_
             refine hK.out _ _ ?_
             clear hK K
             refine pu 16 128 HT_ ?_
             refine last_ (i := 17) (N := none) #[true, true, true, true, true, true, true, true, true, true, true, true, true, true, true, true, true, true] rfl rfl (one_of HT_.out (by kernel_rfl)) (by decide) (fun K hK => ?_)
             refine seg_ (ty := 29) (b := go53) (o := (((ji48) : Int).toNat * k29.sz + 0)) (cells := #[.int .i64 ((rd_T29 x0_2 x17_2).f0), .int .i64 ((rd_T29 x0_2 x17_2).f1), .string ((rd_T29 x0_2 x17_2).f2), .string ((rd_T29 x0_2 x17_2).f3), .string ((rd_T29 x0_2 x17_2).f4), .int .i64 ((rd_T29 x0_2 x17_2).f5), .int .i64 ((rd_T29 x0_2 x17_2).f6), .int .i64 ((rd_T29 x0_2 x17_2).f7), .int .i64 ((rd_T29 x0_2 x17_2).f8), .bool ((rd_T29 x0_2 x17_2).f9), .int .i64 ((rd_T29 x0_2 x17_2).f10), .int .i64 ((rd_T29 x0_2 x17_2).f11), .int .i64 ((rd_T29 x0_2 x17_2).f12), .string ((rd_T29 x0_2 x17_2).f13), .int .i64 ((rd_T29 x0_2 x17_2).f14), .int .i64 ((rd_T29 x0_2 x17_2).f15), .string ((rd_T29 x0_2 x17_2).f16), .int .i64 ((rd_T29 x0_2 x17_2).f17), .int .i64 ((rd_T29 x0_2 x17_2).f18), .string ((rd_T29 x0_2 x17_2).f19)]) (by rfl) rfl ⟨_, _, rfl, (by first | rfl | (go_simp; done) | (go_simp; rfl)), (by first | rfl | (go_simp; done) | (go_simp; rfl))⟩ HE54.out (by kernel_rfl) (by first | rfl | (simp [Value.oneCell']; done)) ew55s1.out.symm ?_
             refine hK.out _ _ ?_
             clear hK K HB HK
             have HB := HBs
             have HK := HKs
             clear HBs HKs
             refine done_ (done_of HT_.out (by kernel_rfl)) ?_
             try go_wp2
             go_roundg k2
             case measure => have := HK1.out; have := HK2.out; omega
             case rel => exact ⟨(y154), (ji48), (by first | rfl | (simp; done) | (simp only [← hji48] <;> (first | rfl | simp)) | (simp [*]; done)), H', ⟨by have := HK1.out; have := HK2.out; omega⟩, ⟨by (with_reducible repeat (first | apply Kd.R_alloc | apply Kd.R_drewN | apply Kd.R_drew)); exact HQ58.out⟩, ⟨by repeat (first | (with_reducible first | exact HK.out | apply Kept.alloc | apply Kept.drewN | apply Kept.drew | refine Kept.setCell ?_ HMgo53.out _ | refine Kept.setCell ?_ HMgo53.out _ | refine Kept.setCell ?_ HMgo53.out _ | refine Kept.setCell ?_ HMgo53.out _ | refine Kept.setCell ?_ HMgo53.out _ | refine Kept.setCell ?_ HMgo53.out _ | refine Kept.setCell ?_ HMgo53.out _ | refine Kept.setCell ?_ HMgo53.out _ | refine Kept.setCell ?_ HMgo53.out _ | refine Kept.setCell ?_ HMgo53.out _ | refine Kept.setCell ?_ HMgo53.out _ | refine Kept.setCell ?_ HMgo53.out _ | refine Kept.setCell ?_ HMgo53.out _ | refine Kept.setCell ?_ HMgo53.out _ | refine Kept.setCell ?_ HMgo53.out _ | refine Kept.setCell ?_ HMgo53.out _ | refine Kept.setCell ?_ HMgo53.out _ | refine Kept.setCell ?_ HMgo53.out _ | refine Kept.setCell ?_ HMgo53.out _ | refine Kept.setCell ?_ HMgo53.out _ | refine Kept.setCell ?_ HMgo53.out _ | refine Kept.setCell ?_ HMgo53.out _ | refine Kept.setCell ?_ HMgo53.out _ | refine Kept.setCell ?_ HMgo53.out _ | refine Kept.setCell ?_ HMgo53.out _ | refine Kept.setCell ?_ HMgo53.out _ | refine Kept.setCell ?_ HMgo53.out _ | refine Kept.setCell ?_ HMgo53.out _ | refine Kept.setCell ?_ HMgo53.out _ | refine Kept.setCell ?_ HMgo53.out _ | refine Kept.setCell ?_ HMgo53.out _ | refine Kept.setCell ?_ HMgo53.out _ | refine Kept.setCell ?_ HMgo53.out _ | refine Kept.setCell ?_ HMgo53.out _ | refine Kept.setCell ?_ HMgo53.out _ | refine Kept.setCell ?_ HMgo53.out _ | refine Kept.setCell ?_ HMgo53.out _ | refine Kept.setCell ?_ HMgo53.out _ | refine Kept.setCell ?_ HMgo53.out _ | refine Kept.setCell ?_ HMgo53.out _) | exact HK.out)⟩, ⟨by repeat (first | (with_reducible first | exact HB.out | apply below_alloc | apply pw_below_drewN | apply below_drew1 | refine below_set ?_ GB53.out | refine below_set ?_ GB53.out | refine below_set ?_ GB53.out | refine below_set ?_ GB53.out | refine below_set ?_ GB53.out | refine below_set ?_ GB53.out | refine below_set ?_ GB53.out | refine below_set ?_ GB53.out | refine below_set ?_ GB53.out | refine below_set ?_ GB53.out | refine below_set ?_ GB53.out | refine below_set ?_ GB53.out | refine below_set ?_ GB53.out | refine below_set ?_ GB53.out | refine below_set ?_ GB53.out | refine below_set ?_ GB53.out | refine below_set ?_ GB53.out | refine below_set ?_ GB53.out | refine below_set ?_ GB53.out | refine below_set ?_ GB53.out | refine below_set ?_ GB53.out | refine below_set ?_ GB53.out | refine below_set ?_ GB53.out | refine below_set ?_ GB53.out | refine below_set ?_ GB53.out | refine below_set ?_ GB53.out | refine below_set ?_ GB53.out | refine below_set ?_ GB53.out | refine below_set ?_ GB53.out | refine below_set ?_ GB53.out | refine below_set ?_ GB53.out | refine below_set ?_ GB53.out | refine below_set ?_ GB53.out | refine below_set ?_ GB53.out | refine below_set ?_ GB53.out | refine below_set ?_ GB53.out | refine below_set ?_ GB53.out | refine below_set ?_ GB53.out | refine below_set ?_ GB53.out | refine below_set ?_ GB53.out) | exact HB.out)⟩⟩
           ·rw [if_neg c52] at H
            exact absurd H (by simp)
          ·rw [if_neg c51] at H
           exact absurd H (by simp)
         ·rw [if_neg c50] at H
          exact absurd H (by simp)
        ·rw [if_neg c49] at H
         exact absurd H (by simp)
       ·rw [if_neg c47] at H
        have c47b0 : decide (x14_1 < x17_2) = false := decide_eq_false c47
        clear c47
        focus
         obtain rfl := Option.some.inj H
         go_wp2
         first | go_end0 | ((try simp only [Exit.inBlock, Exit.then]); refine bodyPost_ret (results_none rfl _ _ _) rfl ?_)
         exact ⟨by first | rfl | (simp [errW_none, errW_some] <;> rfl) | (simp [*, errW_none, errW_some] <;> rfl), by (with_reducible repeat (first | apply Kd.R_alloc | apply Kd.R_drewN | apply Kd.R_drew)); exact HO_0.out, below_y HB.out, by repeat (first | (with_reducible first | exact HK.out | apply Kept.alloc | apply Kept.drewN | apply Kept.drew) | exact HK.out)⟩
 rw [if_neg c32] at H
 have c32b0 : ((wrap64 (a3 - a2)) == 1) = false := beq_eq_false_iff_ne.mpr c32
 have c32b1 : ((wrap64 (a3 - a2)) != 1) = true := bne_iff_ne.mpr c32
 have HC59 := mkA H
 clear H
 go_enter Try.func33, Try.ntmps33
 go_upto_if 140 with (fail)
 go_cut [20, 21] (fun v20 v21 wc => ∃ (kq : Nat) (x20_58 : Int) (x21_58 : Int), v20 = .int .i64 x20_58 ∧ v21 = .int .i64 x21_58 ∧ Aside0 (api_Ep_33.j4 kq l0 a1 a2 a3 (wrap64 ((IntKind.u64.wrap (wrap64 (a1 + a3))) / 2)) (wrap64 ((wrap64 ((IntKind.u64.wrap (wrap64 (a1 + a3))) / 2)) + a2)) x20_58 x21_58 = some r) ∧ Aside0 (kq ≤ k) ∧ Aside0 (Kd.R k29 29 wc w0.heap.size (fun k_ => (P0_ k_ ∨ w.heap.size ≤ k_)) u9000_ l0) ∧ Aside0 (Kept w wc (fun k_ => P0_ k_)) ∧ Aside0 (Below w0.heap.size w0 wc))
 case first =>
  have H := HC59.out
  clear HC59
  by_cases c60 : a2 > (wrap64 ((IntKind.u64.wrap (wrap64 (a1 + a3))) / 2))
  ·rw [if_pos c60] at H
   have c60b0 : decide ((wrap64 ((IntKind.u64.wrap (wrap64 (a1 + a3))) / 2)) < a2) = true := decide_eq_true c60
   clear c60
   (first | rw [c60b0] | (simp only [i64_w, i32_w]; rw [c60b0]) | skip)
   as_aux_lemma =>
    have H' := mkA H
    clear H
    go_wp2
    go_meet
    case rel => exact ⟨_, (wrap64 ((wrap64 ((wrap64 ((IntKind.u64.wrap (wrap64 (a1 + a3))) / 2)) + a2)) - a3)), (wrap64 ((IntKind.u64.wrap (wrap64 (a1 + a3))) / 2)), (by first | rfl | (simp; done) | (simp [*]; done)), (by first | rfl | (simp; done) | (simp [*]; done)), H', ⟨by first | omega | exact Nat.le_refl _⟩, ⟨by (with_reducible repeat (first | apply Kd.R_alloc | apply Kd.R_drewN | apply Kd.R_drew)); exact HO0.out⟩, ⟨by repeat (first | (with_reducible first | exact HK.out | apply Kept.alloc | apply Kept.drewN | apply Kept.drew) | exact HK.out)⟩, ⟨below_y HB.out⟩⟩
  ·rw [if_neg c60] at H
   have c60b0 : decide ((wrap64 ((IntKind.u64.wrap (wrap64 (a1 + a3))) / 2)) < a2) = false := decide_eq_false c60
   clear c60
   (first | rw [c60b0] | (simp only [i64_w, i32_w]; rw [c60b0]) | skip)
   as_aux_lemma =>
    have H' := mkA H
    clear H
    go_wp2
    go_meet
    case rel => exact ⟨_, (a1), (a2), (by first | rfl | (simp; done) | (simp [*]; done)), (by first | rfl | (simp; done) | (simp [*]; done)), H', ⟨by first | omega | exact Nat.le_refl _⟩, ⟨by (with_reducible repeat (first | apply Kd.R_alloc | apply Kd.R_drewN | apply Kd.R_drew)); exact HO0.out⟩, ⟨by repeat (first | (with_reducible first | exact HK.out | apply Kept.alloc | apply Kept.drewN | apply Kept.drew) | exact HK.out)⟩, ⟨below_y HB.out⟩⟩
 clear HC59
 try clear p1
 try clear q1
 try clear hx1
 try clear p2
 try clear q2
 try clear hx2
 try clear c3
 try clear c4
 try clear c5
 try clear p5
 try clear q5
 try clear hx5
 try clear hf5
 try clear c6
 try clear p6
 try clear p14
 try clear q14
 try clear hx14
 try clear p15
 try clear q15
 try clear hx15
 try clear p26
 try clear q26
 try clear hx26
 try clear p27
 try clear q27
 try clear hx27
 try clear c32
 try clear c32b0
 try clear c32b1
 try clear c33
 try clear c40
 try clear c40b0
 try clear c47
 try clear c47b0
 try clear c49
 try clear c49b0
 try clear c50
 try clear c50b0
 try clear c51
 try clear c51b0
 try clear c52
 try clear c52b0
 try clear c53
 try clear p53
 try clear q53
 try clear hx53
 try clear hf53
 try clear c54
 try clear p54
 try clear q54
 try clear hx54
 try clear hf54
 try clear c57
 try clear c58
 try clear c60
 try clear c60b0
 try clear hx141_0
 try clear hx141_1
 try clear hx141_10
 try clear hx141_11
 try clear hx141_12
 try clear hx141_13
 try clear hx141_14
 try clear hx141_15
 try clear hx141_16
 try clear hx141_17
 try clear hx141_18
 try clear hx141_19
 try clear hx141_2
 try clear hx141_3
 try clear hx141_4
 try clear hx141_5
 try clear hx141_6
 try clear hx141_7
 try clear hx141_8
 try clear hx141_9
 try clear hx142_0
 try clear hx142_1
 try clear hx142_10
 try clear hx142_11
 try clear hx142_12
 try clear hx142_13
 try clear hx142_14
 try clear hx142_15
 try clear hx142_16
 try clear hx142_17
 try clear hx142_18
 try clear hx142_19
 try clear hx142_2
 try clear hx142_3
 try clear hx142_4
 try clear hx142_5
 try clear hx142_6
 try clear hx142_7
 try clear hx142_8
 try clear hx142_9
 try clear hx144_0
 try clear hx144_1
 try clear hx144_10
 try clear hx144_11
 try clear hx144_12
 try clear hx144_13
 try clear hx144_14
 try clear hx144_15
 try clear hx144_16
 try clear hx144_17
 try clear hx144_18
 try clear hx144_19
 try clear hx144_2
 try clear hx144_3
 try clear hx144_4
 try clear hx144_5
 try clear hx144_6
 try clear hx144_7
 try clear hx144_8
 try clear hx144_9
 try clear hx145_0
 try clear hx145_1
 try clear hx145_10
 try clear hx145_11
 try clear hx145_12
 try clear hx145_13
 try clear hx145_14
 try clear hx145_15
 try clear hx145_16
 try clear hx145_17
 try clear hx145_18
 try clear hx145_19
 try clear hx145_2
 try clear hx145_3
 try clear hx145_4
 try clear hx145_5
 try clear hx145_6
 try clear hx145_7
 try clear hx145_8
 try clear hx145_9
 try clear hx148_0
 try clear hx148_1
 try clear hx148_10
 try clear hx148_11
 try clear hx148_12
 try clear hx148_13
 try clear hx148_14
 try clear hx148_15
 try clear hx148_16
 try clear hx148_17
 try clear hx148_18
 try clear hx148_19
 try clear hx148_2
 try clear hx148_3
 try clear hx148_4
 try clear hx148_5
 try clear hx148_6
 try clear hx148_7
 try clear hx148_8
 try clear hx148_9
 try clear hx149_0
 try clear hx149_1
 try clear hx149_10
 try clear hx149_11
 try clear hx149_12
 try clear hx149_13
 try clear hx149_14
 try clear hx149_15
 try clear hx149_16
 try clear hx149_17
 try clear hx149_18
 try clear hx149_19
 try clear hx149_2
 try clear hx149_3
 try clear hx149_4
 try clear hx149_5
 try clear hx149_6
 try clear hx149_7
 try clear hx149_8
 try clear hx149_9
 try clear hx151_0
 try clear hx151_1
 try clear hx151_10
 try clear hx151_11
 try clear hx151_12
 try clear hx151_13
 try clear hx151_14
 try clear hx151_15
 try clear hx151_16
 try clear hx151_17
 try clear hx151_18
 try clear hx151_19
 try clear hx151_2
 try clear hx151_3
 try clear hx151_4
 try clear hx151_5
 try clear hx151_6
 try clear hx151_7
 try clear hx151_8
 try clear hx151_9
 try clear hx152_0
 try clear hx152_1
 try clear hx152_10
 try clear hx152_11
 try clear hx152_12
 try clear hx152_13
 try clear hx152_14
 try clear hx152_15
 try clear hx152_16
 try clear hx152_17
 try clear hx152_18
 try clear hx152_19
 try clear hx152_2
 try clear hx152_3
 try clear hx152_4
 try clear hx152_5
 try clear hx152_6
 try clear hx152_7
 try clear hx152_8
 try clear hx152_9
 try clear hx26_0
 try clear hx26_1
 try clear hx26_10
 try clear hx26_11
 try clear hx26_12
 try clear hx26_13
 try clear hx26_14
 try clear hx26_15
 try clear hx26_16
 try clear hx26_17
 try clear hx26_18
 try clear hx26_19
 try clear hx26_2
 try clear hx26_3
 try clear hx26_4
 try clear hx26_5
 try clear hx26_6
 try clear hx26_7
 try clear hx26_8
 try clear hx26_9
 try clear hx27_0
 try clear hx27_1
 try clear hx27_10
 try clear hx27_11
 try clear hx27_12
 try clear hx27_13
 try clear hx27_14
 try clear hx27_15
 try clear hx27_16
 try clear hx27_17
 try clear hx27_18
 try clear hx27_19
 try clear hx27_2
 try clear hx27_3
 try clear hx27_4
 try clear hx27_5
 try clear hx27_6
 try clear hx27_7
 try clear hx27_8
 try clear hx27_9
 try clear hx53_0
 try clear hx53_1
 try clear hx53_10
 try clear hx53_11
 try clear hx53_12
 try clear hx53_13
 try clear hx53_14
 try clear hx53_15
 try clear hx53_16
 try clear hx53_17
 try clear hx53_18
 try clear hx53_19
 try clear hx53_2
 try clear hx53_3
 try clear hx53_4
 try clear hx53_5
 try clear hx53_6
 try clear hx53_7
 try clear hx53_8
 try clear hx53_9
 try clear hx54_0
 try clear hx54_1
 try clear hx54_10
 try clear hx54_11
 try clear hx54_12
 try clear hx54_13
 try clear hx54_14
 try clear hx54_15
 try clear hx54_16
 try clear hx54_17
 try clear hx54_18
 try clear hx54_19
 try clear hx54_2
 try clear hx54_3
 try clear hx54_4
 try clear hx54_5
 try clear hx54_6
 try clear hx54_7
 try clear hx54_8
 try clear hx54_9
 try clear p1
 try clear p14
 try clear p141
 try clear p142
 try clear p144
 try clear p145
 try clear p148
 try clear p149
 try clear p151
 try clear p152
 try clear p2
 try clear p26
 try clear p27
 try clear p53
 try clear p54
 try clear p6
 try clear q1
 try clear q14
 try clear q141
 try clear q142
 try clear q144
 try clear q145
 try clear q148
 try clear q149
 try clear q151
 try clear q152
 try clear q26
 try clear q27
 try clear q53
 try clear q54
 obtain ⟨kq, x20_58, x21_58, rfl, rfl, HA, HJ58, HO_0, HK, HB⟩ := hcut
 rcases kq with _ | kj58
 ·exact absurd HA.out (by simp [api_Ep_33.j4])
 have H := HA.out
 clear HA
 simp only [api_Ep_33.j4] at H
 have H' := mkA H
 clear H
 go_wp2
 try simp only [Act.put, sA, s0, sS]
 go_loopg [20, 21] kj58 (fun kq v20 v21 w' => ∃ (x20_2 : Int) (x21_2 : Int), v20 = .int .i64 x20_2 ∧ v21 = .int .i64 x21_2 ∧ Aside0 (api_Ep_33.l4 kq l0 a1 a2 a3 (wrap64 ((IntKind.u64.wrap (wrap64 (a1 + a3))) / 2)) (wrap64 ((wrap64 ((IntKind.u64.wrap (wrap64 (a1 + a3))) / 2)) + a2)) x20_2 x21_2 (wrap64 ((wrap64 ((wrap64 ((IntKind.u64.wrap (wrap64 (a1 + a3))) / 2)) + a2)) - 1)) = some r) ∧ Aside0 (kq ≤ kj58) ∧ Aside0 (Kd.R k29 29 w' w0.heap.size (fun k_ => (P0_ k_ ∨ w.heap.size ≤ k_)) u9000_ l0) ∧ Aside0 (Kept w w' (fun k_ => P0_ k_)) ∧ Aside0 (Below w0.heap.size w0 w'))
 case atStart => exact ⟨(x20_58), (x21_58), (by first | rfl | (simp; done) | (simp [*]; done)), (by first | rfl | (simp; done) | (simp [*]; done)), H', ⟨Nat.le_refl _⟩, ⟨by (with_reducible repeat (first | apply Kd.R_alloc | apply Kd.R_drewN | apply Kd.R_drew)); exact HO_0.out⟩, ⟨by repeat (first | (with_reducible first | exact HK.out | apply Kept.alloc | apply Kept.drewN | apply Kept.drew) | exact HK.out)⟩, ⟨below_y HB.out⟩⟩
 clear H'
 try clear p1
 try clear q1
 try clear hx1
 try clear p2
 try clear q2
 try clear hx2
 try clear c3
 try clear c4
 try clear c5
 try clear p5
 try clear q5
 try clear hx5
 try clear hf5
 try clear c6
 try clear p6
 try clear p14
 try clear q14
 try clear hx14
 try clear p15
 try clear q15
 try clear hx15
 try clear p26
 try clear q26
 try clear hx26
 try clear p27
 try clear q27
 try clear hx27
 try clear c32
 try clear c32b0
 try clear c32b1
 try clear c33
 try clear c40
 try clear c40b0
 try clear c47
 try clear c47b0
 try clear c49
 try clear c49b0
 try clear c50
 try clear c50b0
 try clear c51
 try clear c51b0
 try clear c52
 try clear c52b0
 try clear c53
 try clear p53
 try clear q53
 try clear hx53
 try clear hf53
 try clear c54
 try clear p54
 try clear q54
 try clear hx54
 try clear hf54
 try clear c57
 try clear c58
 try clear c60
 try clear c60b0
 try clear hx141_0
 try clear hx141_1
 try clear hx141_10
 try clear hx141_11
 try clear hx141_12
 try clear hx141_13
 try clear hx141_14
 try clear hx141_15
 try clear hx141_16
 try clear hx141_17
 try clear hx141_18
 try clear hx141_19
 try clear hx141_2
 try clear hx141_3
 try clear hx141_4
 try clear hx141_5
 try clear hx141_6
 try clear hx141_7
 try clear hx141_8
 try clear hx141_9
 try clear hx142_0
 try clear hx142_1
 try clear hx142_10
 try clear hx142_11
 try clear hx142_12
 try clear hx142_13
 try clear hx142_14
 try clear hx142_15
 try clear hx142_16
 try clear hx142_17
 try clear hx142_18
 try clear hx142_19
 try clear hx142_2
 try clear hx142_3
 try clear hx142_4
 try clear hx142_5
 try clear hx142_6
 try clear hx142_7
 try clear hx142_8
 try clear hx142_9
 try clear hx144_0
 try clear hx144_1
 try clear hx144_10
 try clear hx144_11
 try clear hx144_12
 try clear hx144_13
 try clear hx144_14
 try clear hx144_15
 try clear hx144_16
 try clear hx144_17
 try clear hx144_18
 try clear hx144_19
 try clear hx144_2
 try clear hx144_3
 try clear hx144_4
 try clear hx144_5
 try clear hx144_6
 try clear hx144_7
 try clear hx144_8
 try clear hx144_9
 try clear hx145_0
 try clear hx145_1
 try clear hx145_10
 try clear hx145_11
 try clear hx145_12
 try clear hx145_13
 try clear hx145_14
 try clear hx145_15
 try clear hx145_16
 try clear hx145_17
 try clear hx145_18
 try clear hx145_19
 try clear hx145_2
 try clear hx145_3
 try clear hx145_4
 try clear hx145_5
 try clear hx145_6
 try clear hx145_7
 try clear hx145_8
 try clear hx145_9
 try clear hx148_0
 try clear hx148_1
 try clear hx148_10
 try clear hx148_11
 try clear hx148_12
 try clear hx148_13
 try clear hx148_14
 try clear hx148_15
 try clear hx148_16
 try clear hx148_17
 try clear hx148_18
 try clear hx148_19
 try clear hx148_2
 try clear hx148_3
 try clear hx148_4
 try clear hx148_5
 try clear hx148_6
 try clear hx148_7
 try clear hx148_8
 try clear hx148_9
 try clear hx149_0
 try clear hx149_1
 try clear hx149_10
 try clear hx149_11
 try clear hx149_12
 try clear hx149_13
 try clear hx149_14
 try clear hx149_15
 try clear hx149_16
 try clear hx149_17
 try clear hx149_18
 try clear hx149_19
 try clear hx149_2
 try clear hx149_3
 try clear hx149_4
 try clear hx149_5
 try clear hx149_6
 try clear hx149_7
 try clear hx149_8
 try clear hx149_9
 try clear hx151_0
 try clear hx151_1
 try clear hx151_10
 try clear hx151_11
 try clear hx151_12
 try clear hx151_13
 try clear hx151_14
 try clear hx151_15
 try clear hx151_16
 try clear hx151_17
 try clear hx151_18
 try clear hx151_19
 try clear hx151_2
 try clear hx151_3
 try clear hx151_4
 try clear hx151_5
 try clear hx151_6
 try clear hx151_7
 try clear hx151_8
 try clear hx151_9
 try clear hx152_0
 try clear hx152_1
 try clear hx152_10
 try clear hx152_11
 try clear hx152_12
 try clear hx152_13
 try clear hx152_14
 try clear hx152_15
 try clear hx152_16
 try clear hx152_17
 try clear hx152_18
 try clear hx152_19
 try clear hx152_2
 try clear hx152_3
 try clear hx152_4
 try clear hx152_5
 try clear hx152_6
 try clear hx152_7
 try clear hx152_8
 try clear hx152_9
 try clear hx26_0
 try clear hx26_1
 try clear hx26_10
 try clear hx26_11
 try clear hx26_12
 try clear hx26_13
 try clear hx26_14
 try clear hx26_15
 try clear hx26_16
 try clear hx26_17
 try clear hx26_18
 try clear hx26_19
 try clear hx26_2
 try clear hx26_3
 try clear hx26_4
 try clear hx26_5
 try clear hx26_6
 try clear hx26_7
 try clear hx26_8
 try clear hx26_9
 try clear hx27_0
 try clear hx27_1
 try clear hx27_10
 try clear hx27_11
 try clear hx27_12
 try clear hx27_13
 try clear hx27_14
 try clear hx27_15
 try clear hx27_16
 try clear hx27_17
 try clear hx27_18
 try clear hx27_19
 try clear hx27_2
 try clear hx27_3
 try clear hx27_4
 try clear hx27_5
 try clear hx27_6
 try clear hx27_7
 try clear hx27_8
 try clear hx27_9
 try clear hx53_0
 try clear hx53_1
 try clear hx53_10
 try clear hx53_11
 try clear hx53_12
 try clear hx53_13
 try clear hx53_14
 try clear hx53_15
 try clear hx53_16
 try clear hx53_17
 try clear hx53_18
 try clear hx53_19
 try clear hx53_2
 try clear hx53_3
 try clear hx53_4
 try clear hx53_5
 try clear hx53_6
 try clear hx53_7
 try clear hx53_8
 try clear hx53_9
 try clear hx54_0
 try clear hx54_1
 try clear hx54_10
 try clear hx54_11
 try clear hx54_12
 try clear hx54_13
 try clear hx54_14
 try clear hx54_15
 try clear hx54_16
 try clear hx54_17
 try clear hx54_18
 try clear hx54_19
 try clear hx54_2
 try clear hx54_3
 try clear hx54_4
 try clear hx54_5
 try clear hx54_6
 try clear hx54_7
 try clear hx54_8
 try clear hx54_9
 try clear p1
 try clear p14
 try clear p141
 try clear p142
 try clear p144
 try clear p145
 try clear p148
 try clear p149
 try clear p15
 try clear p151
 try clear p152
 try clear p2
 try clear p26
 try clear p27
 try clear p5
 try clear p53
 try clear p54
 try clear p6
 try clear q1
 try clear q14
 try clear q141
 try clear q142
 try clear q144
 try clear q145
 try clear q148
 try clear q149
 try clear q15
 try clear q151
 try clear q152
 try clear q2
 try clear q26
 try clear q27
 try clear q5
 try clear q53
 try clear q54
 obtain ⟨x20_2, x21_2, rfl, rfl, HA, HK2, HO_0, HK, HB⟩ := hrel
 rcases gk with _ | k2
 ·exact absurd HA.out (by simp [api_Ep_33.l4])
 have H := HA.out
 clear HA
 simp only [api_Ep_33.l4] at H
 by_cases c61 : x20_2 < x21_2
 rotate_left
 ·rw [if_neg c61] at H
  have c61b0 : decide (x20_2 < x21_2) = false := decide_eq_false c61
  clear c61
  have HC76 := mkA H
  clear H
  go_upto_region 39 with (fail)
  go_cut [185] (fun v185 wc => ∃ (kq : Nat) (x185_75 : Bool), v185 = .bool x185_75 ∧ Aside0 (api_Ep_33.j6 kq l0 a1 a2 a3 (wrap64 ((IntKind.u64.wrap (wrap64 (a1 + a3))) / 2)) x20_2 (wrap64 ((wrap64 ((wrap64 ((IntKind.u64.wrap (wrap64 (a1 + a3))) / 2)) + a2)) - x20_2)) x185_75 = some r) ∧ Aside0 (kq ≤ k2) ∧ Aside0 (Kd.R k29 29 wc w0.heap.size (fun k_ => (P0_ k_ ∨ w.heap.size ≤ k_)) u9000_ l0) ∧ Aside0 (Kept w wc (fun k_ => P0_ k_)) ∧ Aside0 (Below w0.heap.size w0 wc))
  case first =>
   have H := HC76.out
   clear HC76
   by_cases c77 : x20_2 < a2
   ·rw [if_pos c77] at H
    have c77b0 : decide (x20_2 < a2) = true := decide_eq_true c77
    clear c77
    (first | rw [c77b0] | (simp only [i64_w, i32_w]; rw [c77b0]) | skip)
    as_aux_lemma =>
     have H' := mkA H
     clear H
     go_wp2
     go_meet
     case rel => exact ⟨_, (decide (a2 < (wrap64 ((wrap64 ((wrap64 ((IntKind.u64.wrap (wrap64 (a1 + a3))) / 2)) + a2)) - x20_2)))), (by first | rfl | (simp; done) | (simp [*]; done)), H', ⟨by have := HJ58.out; have := HK2.out; first | omega | exact Nat.le_refl _⟩, ⟨by (with_reducible repeat (first | apply Kd.R_alloc | apply Kd.R_drewN | apply Kd.R_drew)); exact HO_0.out⟩, ⟨by repeat (first | (with_reducible first | exact HK.out | apply Kept.alloc | apply Kept.drewN | apply Kept.drew) | exact HK.out)⟩, ⟨below_y HB.out⟩⟩
   ·rw [if_neg c77] at H
    have c77b0 : decide (x20_2 < a2) = false := decide_eq_false c77
    clear c77
    (first | rw [c77b0] | (simp only [i64_w, i32_w]; rw [c77b0]) | skip)
    as_aux_lemma =>
     have H' := mkA H
     clear H
     go_wp2
     go_meet
     case rel => exact ⟨_, (false), (by first | rfl | (simp; done) | (simp [*]; done)), H', ⟨by have := HJ58.out; have := HK2.out; first | omega | exact Nat.le_refl _⟩, ⟨by (with_reducible repeat (first | apply Kd.R_alloc | apply Kd.R_drewN | apply Kd.R_drew)); exact HO_0.out⟩, ⟨by repeat (first | (with_reducible first | exact HK.out | apply Kept.alloc | apply Kept.drewN | apply Kept.drew) | exact HK.out)⟩, ⟨below_y HB.out⟩⟩
  case rest =>
   clear HC76
   try clear p1
   try clear q1
   try clear hx1
   try clear c2
   try clear p2
   try clear q2
   try clear hx2
   try clear p5
   try clear q5
   try clear hx5
   try clear c6
   try clear p6
   try clear c7
   try clear p14
   try clear q14
   try clear p15
   try clear q15
   try clear hx15
   try clear c22
   try clear p26
   try clear q26
   try clear hx26
   try clear p27
   try clear q27
   try clear hx27
   try clear p53
   try clear q53
   try clear hx53
   try clear p54
   try clear q54
   try clear hx54
   try clear c61
   try clear c61b0
   try clear c63
   try clear c63b0
   try clear c64
   try clear c64b0
   try clear p64
   try clear c66
   try clear c66b0
   try clear c67
   try clear c67b0
   try clear c69
   try clear c69b0
   try clear c77
   try clear c77b0
   try clear hx155_0
   try clear hx155_1
   try clear hx155_10
   try clear hx155_11
   try clear hx155_12
   try clear hx155_13
   try clear hx155_14
   try clear hx155_15
   try clear hx155_16
   try clear hx155_17
   try clear hx155_18
   try clear hx155_19
   try clear hx155_2
   try clear hx155_3
   try clear hx155_4
   try clear hx155_5
   try clear hx155_6
   try clear hx155_7
   try clear hx155_8
   try clear hx155_9
   try clear hx156_0
   try clear hx156_1
   try clear hx156_10
   try clear hx156_11
   try clear hx156_12
   try clear hx156_13
   try clear hx156_14
   try clear hx156_15
   try clear hx156_16
   try clear hx156_17
   try clear hx156_18
   try clear hx156_19
   try clear hx156_2
   try clear hx156_3
   try clear hx156_4
   try clear hx156_5
   try clear hx156_6
   try clear hx156_7
   try clear hx156_8
   try clear hx156_9
   try clear hx26_19
   try clear hx26_2
   try clear hx26_3
   try clear hx26_4
   try clear hx26_5
   try clear hx26_6
   try clear hx26_7
   try clear hx26_8
   try clear hx26_9
   try clear hx27_0
   try clear hx27_1
   try clear hx27_10
   try clear hx27_11
   try clear hx27_12
   try clear hx27_13
   try clear hx27_14
   try clear hx27_15
   try clear hx27_16
   try clear hx27_17
   try clear hx27_18
   try clear hx27_19
   try clear hx27_2
   try clear hx27_3
   try clear hx27_4
   try clear hx27_5
   try clear hx27_6
   try clear hx27_7
   try clear hx27_8
   try clear hx27_9
   try clear hx53_0
   try clear hx53_1
   try clear hx53_10
   try clear hx53_11
   try clear hx53_12
   try clear hx53_13
   try clear hx53_14
   try clear hx53_15
   try clear hx53_16
   try clear hx53_17
   try clear hx53_18
   try clear hx53_19
   try clear hx53_2
   try clear hx53_3
   try clear hx53_4
   try clear hx53_5
   try clear hx53_6
   try clear hx53_7
   try clear hx53_8
   try clear hx53_9
   try clear hx54_0
   try clear hx54_1
   try clear hx54_10
   try clear hx54_11
   try clear hx54_12
   try clear hx54_13
   try clear hx54_14
   try clear hx54_15
   try clear hx54_16
   try clear hx54_17
   try clear hx54_18
   try clear hx54_19
   try clear hx54_2
   try clear hx54_3
   try clear hx54_4
   try clear hx54_5
   try clear hx54_6
   try clear hx54_7
   try clear hx54_8
   try clear hx54_9
   try clear p1
   try clear p14
   try clear p141
   try clear p142
   try clear p144
   try clear p145
   try clear p148
   try clear p149
   try clear p15
   try clear p151
   try clear p152
   try clear p155
   try clear p156
   try clear p2
   try clear p26
   try clear p27
   try clear p5
   try clear p53
   try clear p54
   try clear p6
   try clear q1
   try clear q14
   try clear q141
   try clear q142
   try clear q144
   try clear q145
   try clear q148
   try clear q149
   try clear q15
   try clear q151
   try clear q152
   try clear q155
   try clear q156
   try clear q2
   try clear q26
   try clear q27
   try clear q5
   try clear q53
   try clear q54
   obtain ⟨kq, x185_75, rfl, HA, HJ75, HO_0, HK, HB⟩ := hcut
   cases kq with
   | zero => exact absurd HA.out (by simp [api_Ep_33.j6])
   | succ kj75 =>
    have H := HA.out
    clear HA
    simp only [api_Ep_33.j6] at H
    have HC78 := mkA H
    clear H
    go_upto_if 185 with (fail)
    go_cut [] (fun wc => ∃ (kq : Nat) (x0_77 : List (S29)), Aside0 (api_Ep_33.j7 kq x0_77 a1 a3 (wrap64 ((IntKind.u64.wrap (wrap64 (a1 + a3))) / 2)) x20_2 (wrap64 ((wrap64 ((wrap64 ((IntKind.u64.wrap (wrap64 (a1 + a3))) / 2)) + a2)) - x20_2)) = some r) ∧ Aside0 (kq ≤ kj75) ∧ Aside0 (Kd.R k29 29 wc w0.heap.size (fun k_ => (P0_ k_ ∨ w.heap.size ≤ k_)) u9000_ x0_77) ∧ Aside0 (Kept w wc (fun k_ => P0_ k_)) ∧ Aside0 (Below w0.heap.size w0 wc))
    case first =>
     have H := HC78.out
     clear HC78
     by_cases c79 : x185_75 = true
     ·subst c79
      have H1 : ((api_Ep_36.f kj75 l0 x20_2 a2 (wrap64 ((wrap64 ((wrap64 ((IntKind.u64.wrap (wrap64 (a1 + a3))) / 2)) + a2)) - x20_2))).bind fun t158 => (api_Ep_33.j7 kj75 t158 a1 a3 (wrap64 ((IntKind.u64.wrap (wrap64 (a1 + a3))) / 2)) x20_2 (wrap64 ((wrap64 ((wrap64 ((IntKind.u64.wrap (wrap64 (a1 + a3))) / 2)) + a2)) - x20_2)))) = some r := by rw [if_pos rfl] at H; exact H
      clear H
      have H := H1
      clear H1
      replace H := Option.bind_eq_some_iff.mp H
      obtain ⟨t158, A800, H⟩ := H
      replace H : (api_Ep_33.j7 kj75 t158 a1 a3 (wrap64 ((IntKind.u64.wrap (wrap64 (a1 + a3))) / 2)) x20_2 (wrap64 ((wrap64 ((wrap64 ((IntKind.u64.wrap (wrap64 (a1 + a3))) / 2)) + a2)) - x20_2))) = some r := H
      have A80 := mkA A800
      clear A800
      as_aux_lemma =>
       have H' := mkA H
       clear H
       obtain ⟨Ao81, co81, eo81⟩ := Kd.R_slice HO_0.out
       subst eo81
       go_wp2_with (first | ((with_reducible refine gate_callee (f := 36) rfl ?_); refine goesL_ (some 191) rfl rfl Try.func36 (by kernel_rfl) rfl #[.slice Ao81 l0.length co81, .int .i64 x20_2, .int .i64 a2, .int .i64 (wrap64 ((wrap64 ((wrap64 ((IntKind.u64.wrap (wrap64 (a1 + a3))) / 2)) + a2)) - x20_2)), .func (.func 22) #[] #[]] rfl ca ?_; (with_reducible refine (api_Ep_36.calls _ (fun k_ => some k_ = (.slice Ao81 l0.length co81 : Value).ownBlock) (.slice Ao81 l0.length co81) _ _ _ _ _ w0 _ ?side1 ?side2 A80.out).mono ?_); (case side1 => repeat (first | (with_reducible first | exact HB.out | apply below_alloc | apply pw_below_drewN | apply below_drew1) | exact HB.out)); (case side2 => exact Kd.R_tight rfl HO_0.out); rintro e w82 ⟨rfl, hy0, hb, hkp⟩; refine ⟨_, rfl, ?_⟩; have n0_ := mkA (Kd.R_reok rfl hy0 (fun k_ e_ => HO_0.out.1 k_ e_)); have n1_ := mkA (Kept.then_ (S := (fun k_ => P0_ k_)) (by repeat (first | (with_reducible first | exact HK.out | apply Kept.alloc | apply Kept.drewN | apply Kept.drew) | exact HK.out)) hkp (fun k_ hs_ => (fun e_ => (HO_0.out.1 k_ e_.symm)) hs_)); have n2_ := mkA (hb); clear HO_0; clear HK; clear HB; have HO_0 := n0_; have HK := n1_; have HB := n2_; clear n0_ n1_ n2_; (try clear hb); (try clear hkp); (try clear hy0)))
       go_meet
       case rel => exact ⟨_, (t158), H', ⟨by have := HJ58.out; have := HK2.out; have := HJ75.out; first | omega | exact Nat.le_refl _⟩, ⟨by (with_reducible repeat (first | apply Kd.R_alloc | apply Kd.R_drewN | apply Kd.R_drew)); exact HO_0.out⟩, ⟨by repeat (first | (with_reducible first | exact HK.out | apply Kept.alloc | apply Kept.drewN | apply Kept.drew) | exact HK.out)⟩, ⟨below_y HB.out⟩⟩
     ·replace c79 := Bool.eq_false_iff.mpr c79
      subst c79
      have H1 : (api_Ep_33.j7 kj75 l0 a1 a3 (wrap64 ((IntKind.u64.wrap (wrap64 (a1 + a3))) / 2)) x20_2 (wrap64 ((wrap64 ((wrap64 ((IntKind.u64.wrap (wrap64 (a1 + a3))) / 2)) + a2)) - x20_2))) = some r := by rw [if_neg (show ¬ (false = true) by decide)] at H; exact H
      clear H
      have H := H1
      clear H1
      as_aux_lemma =>
       have H' := mkA H
       clear H
       go_wp2
       go_meet
       case rel => exact ⟨_, (l0), H', ⟨by have := HJ58.out; have := HK2.out; have := HJ75.out; first | omega | exact Nat.le_refl _⟩, ⟨by (with_reducible repeat (first | apply Kd.R_alloc | apply Kd.R_drewN | apply Kd.R_drew)); exact HO_0.out⟩, ⟨by repeat (first | (with_reducible first | exact HK.out | apply Kept.alloc | apply Kept.drewN | apply Kept.drew) | exact HK.out)⟩, ⟨below_y HB.out⟩⟩
    case rest =>
     clear HC78
     try clear p1
     try clear q1
     try clear hx1
     try clear c2
     try clear p2
     try clear q2
     try clear hx2
     try clear c3
     try clear p5
     try clear q5
     try clear hx5
     try clear c6
     try clear p6
     try clear c7
     try clear p14
     try clear q14
     try clear p15
     try clear q15
     try clear hx15
     try clear c22
     try clear p26
     try clear q26
     try clear hx26
     try clear p27
     try clear q27
     try clear hx27
     try clear c36
     try clear p53
     try clear q53
     try clear hx53
     try clear p54
     try clear q54
     try clear hx54
     try clear c61
     try clear c61b0
     try clear c63
     try clear c63b0
     try clear c64
     try clear c64b0
     try clear p64
     try clear c66
     try clear c66b0
     try clear c67
     try clear c67b0
     try clear c69
     try clear c69b0
     try clear c77
     try clear c77b0
     try clear c79
     try clear hx155_0
     try clear hx155_1
     try clear hx155_10
     try clear hx155_11
     try clear hx155_12
     try clear hx155_13
     try clear hx155_14
     try clear hx155_15
     try clear hx155_16
     try clear hx155_17
     try clear hx155_18
     try clear hx155_19
     try clear hx155_2
     try clear hx155_3
     try clear hx155_4
     try clear hx155_5
     try clear hx155_6
     try clear hx155_7
     try clear hx155_8
     try clear hx155_9
     try clear hx156_0
     try clear hx156_1
     try clear hx156_10
     try clear hx156_11
     try clear hx156_12
     try clear hx156_13
     try clear hx156_14
     try clear hx156_15
     try clear hx156_16
     try clear hx156_17
     try clear hx156_18
     try clear hx156_19
     try clear hx156_2
     try clear hx156_3
     try clear hx156_4
     try clear hx156_5
     try clear hx156_6
     try clear hx156_7
     try clear hx156_8
     try clear hx156_9
     try clear hx26_19
     try clear hx26_2
     try clear hx26_3
     try clear hx26_4
     try clear hx26_5
     try clear hx26_6
     try clear hx26_7
     try clear hx26_8
     try clear hx26_9
     try clear hx27_0
     try clear hx27_1
     try clear hx27_10
     try clear hx27_11
     try clear hx27_12
     try clear hx27_13
     try clear hx27_14
     try clear hx27_15
     try clear hx27_16
     try clear hx27_17
     try clear hx27_18
     try clear hx27_19
     try clear hx27_2
     try clear hx27_3
     try clear hx27_4
     try clear hx27_5
     try clear hx27_6
     try clear hx27_7
     try clear hx27_8
     try clear hx27_9
     try clear hx53_0
     try clear hx53_1
     try clear hx53_10
     try clear hx53_11
     try clear hx53_12
     try clear hx53_13
     try clear hx53_14
     try clear hx53_15
     try clear hx53_16
     try clear hx53_17
     try clear hx53_18
     try clear hx53_19
     try clear hx53_2
     try clear hx53_3
     try clear hx53_4
     try clear hx53_5
     try clear hx53_6
     try clear hx53_7
     try clear hx53_8
     try clear hx53_9
     try clear hx54_0
     try clear hx54_1
     try clear hx54_10
     try clear hx54_11
     try clear hx54_12
     try clear hx54_13
     try clear hx54_14
     try clear hx54_15
     try clear hx54_16
     try clear hx54_17
     try clear hx54_18
     try clear hx54_19
     try clear hx54_2
     try clear hx54_3
     try clear hx54_4
     try clear hx54_5
     try clear hx54_6
     try clear hx54_7
     try clear hx54_8
     try clear hx54_9
     try clear p1
     try clear p14
     try clear p141
     try clear p142
     try clear p144
     try clear p145
     try clear p148
     try clear p149
     try clear p15
     try clear p151
     try clear p152
     try clear p155
     try clear p156
     try clear p2
     try clear p26
     try clear p27
     try clear p5
     try clear p53
     try clear p54
     try clear p6
     try clear p64
     try clear q1
     try clear q14
     try clear q141
     try clear q142
     try clear q144
     try clear q145
     try clear q148
     try clear q149
     try clear q15
     try clear q151
     try clear q152
     try clear q155
     try clear q156
     try clear q2
     try clear q26
     try clear q27
     try clear q5
     try clear q53
     try clear q54
     obtain ⟨kq, x0_77, HA, HJ77, HO_0, HK, HB⟩ := hcut
     cases kq with
     | zero => exact absurd HA.out (by simp [api_Ep_33.j7])
     | succ kj77 =>
      have H := HA.out
      clear HA
      simp only [api_Ep_33.j7] at H
      have HC83 := mkA H
      clear H
      go_upto_region 41 with (fail)
      go_cut [199] (fun v199 wc => ∃ (kq : Nat) (x199_82 : Bool), v199 = .bool x199_82 ∧ Aside0 (api_Ep_33.j8 kq x0_77 a1 a3 (wrap64 ((IntKind.u64.wrap (wrap64 (a1 + a3))) / 2)) x20_2 (wrap64 ((wrap64 ((wrap64 ((IntKind.u64.wrap (wrap64 (a1 + a3))) / 2)) + a2)) - x20_2)) x199_82 = some r) ∧ Aside0 (kq ≤ kj77) ∧ Aside0 (Kd.R k29 29 wc w0.heap.size (fun k_ => (P0_ k_ ∨ w.heap.size ≤ k_)) u9000_ x0_77) ∧ Aside0 (Kept w wc (fun k_ => P0_ k_)) ∧ Aside0 (Below w0.heap.size w0 wc))
      case first =>
       have H := HC83.out
       clear HC83
       by_cases c84 : a1 < x20_2
       ·rw [if_pos c84] at H
        have c84b0 : decide (a1 < x20_2) = true := decide_eq_true c84
        clear c84
        (first | rw [c84b0] | (simp only [i64_w, i32_w]; rw [c84b0]) | skip)
        as_aux_lemma =>
         have H' := mkA H
         clear H
         go_wp2
         go_meet
         case rel => exact ⟨_, (decide (x20_2 < (wrap64 ((IntKind.u64.wrap (wrap64 (a1 + a3))) / 2)))), (by first | rfl | (simp; done) | (simp [*]; done)), H', ⟨by have := HJ58.out; have := HK2.out; have := HJ75.out; have := HJ77.out; first | omega | exact Nat.le_refl _⟩, ⟨by (with_reducible repeat (first | apply Kd.R_alloc | apply Kd.R_drewN | apply Kd.R_drew)); exact HO_0.out⟩, ⟨by repeat (first | (with_reducible first | exact HK.out | apply Kept.alloc | apply Kept.drewN | apply Kept.drew) | exact HK.out)⟩, ⟨below_y HB.out⟩⟩
       ·rw [if_neg c84] at H
        have c84b0 : decide (a1 < x20_2) = false := decide_eq_false c84
        clear c84
        (first | rw [c84b0] | (simp only [i64_w, i32_w]; rw [c84b0]) | skip)
        as_aux_lemma =>
         have H' := mkA H
         clear H
         go_wp2
         go_meet
         case rel => exact ⟨_, (false), (by first | rfl | (simp; done) | (simp [*]; done)), H', ⟨by have := HJ58.out; have := HK2.out; have := HJ75.out; have := HJ77.out; first | omega | exact Nat.le_refl _⟩, ⟨by (with_reducible repeat (first | apply Kd.R_alloc | apply Kd.R_drewN | apply Kd.R_drew)); exact HO_0.out⟩, ⟨by repeat (first | (with_reducible first | exact HK.out | apply Kept.alloc | apply Kept.drewN | apply Kept.drew) | exact HK.out)⟩, ⟨below_y HB.out⟩⟩
      case rest =>
       clear HC83
       try clear p1
       try clear q1
       try clear hx1
       try clear c2
       try clear p2
       try clear q2
       try clear hx2
       try clear c3
       try clear p5
       try clear q5
       try clear hx5
       try clear c6
       try clear p6
       try clear c7
       try clear c8
       try clear p14
       try clear q14
       try clear p15
       try clear q15
       try clear hx15
       try clear c22
       try clear p26
       try clear q26
       try clear hx26
       try clear p27
       try clear q27
       try clear hx27
       try clear c36
       try clear p53
       try clear q53
       try clear hx53
       try clear p54
       try clear q54
       try clear hx54
       try clear c61
       try clear c61b0
       try clear c63
       try clear c63b0
       try clear c64
       try clear c64b0
       try clear p64
       try clear c66
       try clear c66b0
       try clear c67
       try clear c67b0
       try clear c69
       try clear c69b0
       try clear c77
       try clear c77b0
       try clear c79
       try clear c84
       try clear c84b0
       try clear hx155_0
       try clear hx155_1
       try clear hx155_10
       try clear hx155_11
       try clear hx155_12
       try clear hx155_13
       try clear hx155_14
       try clear hx155_15
       try clear hx155_16
       try clear hx155_17
       try clear hx155_18
       try clear hx155_19
       try clear hx155_2
       try clear hx155_3
       try clear hx155_4
       try clear hx155_5
       try clear hx155_6
       try clear hx155_7
       try clear hx155_8
       try clear hx155_9
       try clear hx156_0
       try clear hx156_1
       try clear hx156_10
       try clear hx156_11
       try clear hx156_12
       try clear hx156_13
       try clear hx156_14
       try clear hx156_15
       try clear hx156_16
       try clear hx156_17
       try clear hx156_18
       try clear hx156_19
       try clear hx156_2
       try clear hx156_3
       try clear hx156_4
       try clear hx156_5
       try clear hx156_6
       try clear hx156_7
       try clear hx156_8
       try clear hx156_9
       try clear hx26_19
       try clear hx26_2
       try clear hx26_3
       try clear hx26_4
       try clear hx26_5
       try clear hx26_6
       try clear hx26_7
       try clear hx26_8
       try clear hx26_9
       try clear hx27_0
       try clear hx27_1
       try clear hx27_10
       try clear hx27_11
       try clear hx27_12
       try clear hx27_13
       try clear hx27_14
       try clear hx27_15
       try clear hx27_16
       try clear hx27_17
       try clear hx27_18
       try clear hx27_19
       try clear hx27_2
       try clear hx27_3
       try clear hx27_4
       try clear hx27_5
       try clear hx27_6
       try clear hx27_7
       try clear hx27_8
       try clear hx27_9
       try clear hx53_0
       try clear hx53_1
       try clear hx53_10
       try clear hx53_11
       try clear hx53_12
       try clear hx53_13
       try clear hx53_14
       try clear hx53_15
       try clear hx53_16
       try clear hx53_17
       try clear hx53_18
       try clear hx53_19
       try clear hx53_2
       try clear hx53_3
       try clear hx53_4
       try clear hx53_5
       try clear hx53_6
       try clear hx53_7
       try clear hx53_8
       try clear hx53_9
       try clear hx54_0
       try clear hx54_1
       try clear hx54_10
       try clear hx54_11
       try clear hx54_12
       try clear hx54_13
       try clear hx54_14
       try clear hx54_15
       try clear hx54_16
       try clear hx54_17
       try clear hx54_18
       try clear hx54_19
       try clear hx54_2
       try clear hx54_3
       try clear hx54_4
       try clear hx54_5
       try clear hx54_6
       try clear hx54_7
       try clear hx54_8
       try clear hx54_9
       try clear p1
       try clear p14
       try clear p141
       try clear p142
       try clear p144
       try clear p145
       try clear p148
       try clear p149
       try clear p15
       try clear p151
       try clear p152
       try clear p155
       try clear p156
       try clear p2
       try clear p26
       try clear p27
       try clear p5
       try clear p53
       try clear p54
       try clear p6
       try clear p64
       try clear q1
       try clear q14
       try clear q141
       try clear q142
       try clear q144
       try clear q145
       try clear q148
       try clear q149
       try clear q15
       try clear q151
       try clear q152
       try clear q155
       try clear q156
       try clear q2
       try clear q26
       try clear q27
       try clear q5
       try clear q53
       try clear q54
       obtain ⟨kq, x199_82, rfl, HA, HJ82, HO_0, HK, HB⟩ := hcut
       cases kq with
       | zero => exact absurd HA.out (by simp [api_Ep_33.j8])
       | succ kj82 =>
        have H := HA.out
        clear HA
        simp only [api_Ep_33.j8] at H
        have HC85 := mkA H
        clear H
        go_upto_if 199 with (fail)
        go_cut [] (fun wc => ∃ (kq : Nat) (x0_84 : List (S29)), Aside0 (api_Ep_33.j9 kq x0_84 a3 (wrap64 ((IntKind.u64.wrap (wrap64 (a1 + a3))) / 2)) (wrap64 ((wrap64 ((wrap64 ((IntKind.u64.wrap (wrap64 (a1 + a3))) / 2)) + a2)) - x20_2)) = some r) ∧ Aside0 (kq ≤ kj82) ∧ Aside0 (Kd.R k29 29 wc w0.heap.size (fun k_ => (P0_ k_ ∨ w.heap.size ≤ k_)) u9000_ x0_84) ∧ Aside0 (Kept w wc (fun k_ => P0_ k_)) ∧ Aside0 (Below w0.heap.size w0 wc))
        case first =>
         have H := HC85.out
         clear HC85
         by_cases c86 : x199_82 = true
         ·subst c86
          have H1 : ((api_Ep_33.f kj82 x0_77 a1 x20_2 (wrap64 ((IntKind.u64.wrap (wrap64 (a1 + a3))) / 2))).bind fun t159 => (api_Ep_33.j9 kj82 t159 a3 (wrap64 ((IntKind.u64.wrap (wrap64 (a1 + a3))) / 2)) (wrap64 ((wrap64 ((wrap64 ((IntKind.u64.wrap (wrap64 (a1 + a3))) / 2)) + a2)) - x20_2)))) = some r := by rw [if_pos rfl] at H; exact H
          clear H
          have H := H1
          clear H1
          replace H := Option.bind_eq_some_iff.mp H
          obtain ⟨t159, A870, H⟩ := H
          replace H : (api_Ep_33.j9 kj82 t159 a3 (wrap64 ((IntKind.u64.wrap (wrap64 (a1 + a3))) / 2)) (wrap64 ((wrap64 ((wrap64 ((IntKind.u64.wrap (wrap64 (a1 + a3))) / 2)) + a2)) - x20_2))) = some r := H
          have A87 := mkA A870
          clear A870
          as_aux_lemma =>
           have H' := mkA H
           clear H
           obtain ⟨Ao88, co88, eo88⟩ := Kd.R_slice HO_0.out
           subst eo88
           go_wp2_with (first | ((with_reducible refine gate_callee (f := 33) rfl ?_); refine goesL_ (some 205) rfl rfl Try.func33 (by kernel_rfl) rfl #[.slice Ao88 x0_77.length co88, .int .i64 a1, .int .i64 x20_2, .int .i64 (wrap64 ((IntKind.u64.wrap (wrap64 (a1 + a3))) / 2)), .func (.func 22) #[] #[]] rfl ca ?_; (with_reducible refine (ih kj82 (by have := HJ58.out; have := HK2.out; have := HJ75.out; have := HJ77.out; have := HJ82.out; omega) (fun k_ => some k_ = (.slice Ao88 x0_77.length co88 : Value).ownBlock) (.slice Ao88 x0_77.length co88) x0_77 a1 x20_2 (wrap64 ((IntKind.u64.wrap (wrap64 (a1 + a3))) / 2)) t159 w0 _ ?side1 ?side2 A87.out).mono ?_); (case side1 => repeat (first | (with_reducible first | exact HB.out | apply below_alloc | apply pw_below_drewN | apply below_drew1) | exact HB.out)); (case side2 => exact Kd.R_tight rfl HO_0.out); rintro e w89 ⟨rfl, hy0, hb, hkp⟩; refine ⟨_, rfl, ?_⟩; have n0_ := mkA (Kd.R_reok rfl hy0 (fun k_ e_ => HO_0.out.1 k_ e_)); have n1_ := mkA (Kept.then_ (S := (fun k_ => P0_ k_)) (by repeat (first | (with_reducible first | exact HK.out | apply Kept.alloc | apply Kept.drewN | apply Kept.drew) | exact HK.out)) hkp (fun k_ hs_ => (fun e_ => (HO_0.out.1 k_ e_.symm)) hs_)); have n2_ := mkA (hb); clear HO_0; clear HK; clear HB; have HO_0 := n0_; have HK := n1_; have HB := n2_; clear n0_ n1_ n2_; (try clear hb); (try clear hkp); (try clear hy0)))
           go_meet
           case rel => exact ⟨_, (t159), H', ⟨by have := HJ58.out; have := HK2.out; have := HJ75.out; have := HJ77.out; have := HJ82.out; first | omega | exact Nat.le_refl _⟩, ⟨by (with_reducible repeat (first | apply Kd.R_alloc | apply Kd.R_drewN | apply Kd.R_drew)); exact HO_0.out⟩, ⟨by repeat (first | (with_reducible first | exact HK.out | apply Kept.alloc | apply Kept.drewN | apply Kept.drew) | exact HK.out)⟩, ⟨below_y HB.out⟩⟩
         ·replace c86 := Bool.eq_false_iff.mpr c86
          subst c86
          have H1 : (api_Ep_33.j9 kj82 x0_77 a3 (wrap64 ((IntKind.u64.wrap (wrap64 (a1 + a3))) / 2)) (wrap64 ((wrap64 ((wrap64 ((IntKind.u64.wrap (wrap64 (a1 + a3))) / 2)) + a2)) - x20_2))) = some r := by rw [if_neg (show ¬ (false = true) by decide)] at H; exact H
          clear H
          have H := H1
          clear H1
          as_aux_lemma =>
           have H' := mkA H
           clear H
           go_wp2
           go_meet
           case rel => exact ⟨_, (x0_77), H', ⟨by have := HJ58.out; have := HK2.out; have := HJ75.out; have := HJ77.out; have := HJ82.out; first | omega | exact Nat.le_refl _⟩, ⟨by (with_reducible repeat (first | apply Kd.R_alloc | apply Kd.R_drewN | apply Kd.R_drew)); exact HO_0.out⟩, ⟨by repeat (first | (with_reducible first | exact HK.out | apply Kept.alloc | apply Kept.drewN | apply Kept.drew) | exact HK.out)⟩, ⟨below_y HB.out⟩⟩
        case rest =>
         clear HC85
         try clear p1
         try clear q1
         try clear hx1
         try clear c2
         try clear p2
         try clear q2
         try clear hx2
         try clear c3
         try clear p5
         try clear q5
         try clear hx5
         try clear c6
         try clear p6
         try clear c7
         try clear c8
         try clear p14
         try clear q14
         try clear p15
         try clear q15
         try clear hx15
         try clear c22
         try clear p26
         try clear q26
         try clear hx26
         try clear p27
         try clear q27
         try clear hx27
         try clear c33
         try clear c36
         try clear p53
         try clear q53
         try clear hx53
         try clear p54
         try clear q54
         try clear hx54
         try clear c61
         try clear c61b0
         try clear c63
         try clear c63b0
         try clear c64
         try clear c64b0
         try clear p64
         try clear c66
         try clear c66b0
         try clear c67
         try clear c67b0
         try clear c69
         try clear c69b0
         try clear c77
         try clear c77b0
         try clear c79
         try clear c84
         try clear c84b0
         try clear c86
         try clear hx155_0
         try clear hx155_1
         try clear hx155_10
         try clear hx155_11
         try clear hx155_12
         try clear hx155_13
         try clear hx155_14
         try clear hx155_15
         try clear hx155_16
         try clear hx155_17
         try clear hx155_18
         try clear hx155_19
         try clear hx155_2
         try clear hx155_3
         try clear hx155_4
         try clear hx155_5
         try clear hx155_6
         try clear hx155_7
         try clear hx155_8
         try clear hx155_9
         try clear hx156_0
         try clear hx156_1
         try clear hx156_10
         try clear hx156_11
         try clear hx156_12
         try clear hx156_13
         try clear hx156_14
         try clear hx156_15
         try clear hx156_16
         try clear hx156_17
         try clear hx156_18
         try clear hx156_19
         try clear hx156_2
         try clear hx156_3
         try clear hx156_4
         try clear hx156_5
         try clear hx156_6
         try clear hx156_7
         try clear hx156_8
         try clear hx156_9
         try clear hx26_19
         try clear hx26_2
         try clear hx26_3
         try clear hx26_4
         try clear hx26_5
         try clear hx26_6
         try clear hx26_7
         try clear hx26_8
         try clear hx26_9
         try clear hx27_0
         try clear hx27_1
         try clear hx27_10
         try clear hx27_11
         try clear hx27_12
         try clear hx27_13
         try clear hx27_14
         try clear hx27_15
         try clear hx27_16
         try clear hx27_17
         try clear hx27_18
         try clear hx27_19
         try clear hx27_2
         try clear hx27_3
         try clear hx27_4
         try clear hx27_5
         try clear hx27_6
         try clear hx27_7
         try clear hx27_8
         try clear hx27_9
         try clear hx53_0
         try clear hx53_1
         try clear hx53_10
         try clear hx53_11
         try clear hx53_12
         try clear hx53_13
         try clear hx53_14
         try clear hx53_15
         try clear hx53_16
         try clear hx53_17
         try clear hx53_18
         try clear hx53_19
         try clear hx53_2
         try clear hx53_3
         try clear hx53_4
         try clear hx53_5
         try clear hx53_6
         try clear hx53_7
         try clear hx53_8
         try clear hx53_9
         try clear hx54_0
         try clear hx54_1
         try clear hx54_10
         try clear hx54_11
         try clear hx54_12
         try clear hx54_13
         try clear hx54_14
         try clear hx54_15
         try clear hx54_16
         try clear hx54_17
         try clear hx54_18
         try clear hx54_19
         try clear hx54_2
         try clear hx54_3
         try clear hx54_4
         try clear hx54_5
         try clear hx54_6
         try clear hx54_7
         try clear hx54_8
         try clear hx54_9
         try clear p1
         try clear p14
         try clear p141
         try clear p142
         try clear p144
         try clear p145
         try clear p148
         try clear p149
         try clear p15
         try clear p151
         try clear p152
         try clear p155
         try clear p156
         try clear p2
         try clear p26
         try clear p27
         try clear p5
         try clear p53
         try clear p54
         try clear p6
         try clear p64
         try clear q1
         try clear q14
         try clear q141
         try clear q142
         try clear q144
         try clear q145
         try clear q148
         try clear q149
         try clear q15
         try clear q151
         try clear q152
         try clear q155
         try clear q156
         try clear q2
         try clear q26
         try clear q27
         try clear q5
         try clear q53
         try clear q54
         obtain ⟨kq, x0_84, HA, HJ84, HO_0, HK, HB⟩ := hcut
         cases kq with
         | zero => exact absurd HA.out (by simp [api_Ep_33.j9])
         | succ kj84 =>
          have H := HA.out
          clear HA
          simp only [api_Ep_33.j9] at H
          by_cases c90 : (wrap64 ((IntKind.u64.wrap (wrap64 (a1 + a3))) / 2)) < (wrap64 ((wrap64 ((wrap64 ((IntKind.u64.wrap (wrap64 (a1 + a3))) / 2)) + a2)) - x20_2))
          ·rw [if_pos c90] at H
           have c90b0 : decide ((wrap64 ((IntKind.u64.wrap (wrap64 (a1 + a3))) / 2)) < (wrap64 ((wrap64 ((wrap64 ((IntKind.u64.wrap (wrap64 (a1 + a3))) / 2)) + a2)) - x20_2))) = true := decide_eq_true c90
           clear c90
           by_cases c91 : (wrap64 ((wrap64 ((wrap64 ((IntKind.u64.wrap (wrap64 (a1 + a3))) / 2)) + a2)) - x20_2)) < a3
           ·rw [if_pos c91] at H
            have c91b0 : decide ((wrap64 ((wrap64 ((wrap64 ((IntKind.u64.wrap (wrap64 (a1 + a3))) / 2)) + a2)) - x20_2)) < a3) = true := decide_eq_true c91
            clear c91
            replace H := Option.bind_eq_some_iff.mp H
            obtain ⟨t160, A920, H⟩ := H
            replace H : (some t160) = some r := H
            have A92 := mkA A920
            clear A920
            focus
             obtain rfl := Option.some.inj H
             obtain ⟨Ao93, co93, eo93⟩ := Kd.R_slice HO_0.out
             subst eo93
             go_wp2_with (first | ((with_reducible refine gate_callee (f := 33) rfl ?_); refine goesL_ (some 219) rfl rfl Try.func33 (by kernel_rfl) rfl #[.slice Ao93 x0_84.length co93, .int .i64 (wrap64 ((IntKind.u64.wrap (wrap64 (a1 + a3))) / 2)), .int .i64 (wrap64 ((wrap64 ((wrap64 ((IntKind.u64.wrap (wrap64 (a1 + a3))) / 2)) + a2)) - x20_2)), .int .i64 a3, .func (.func 22) #[] #[]] rfl ca ?_; (with_reducible refine (ih kj84 (by have := HJ58.out; have := HK2.out; have := HJ75.out; have := HJ77.out; have := HJ82.out; have := HJ84.out; omega) (fun k_ => some k_ = (.slice Ao93 x0_84.length co93 : Value).ownBlock) (.slice Ao93 x0_84.length co93) x0_84 (wrap64 ((IntKind.u64.wrap (wrap64 (a1 + a3))) / 2)) (wrap64 ((wrap64 ((wrap64 ((IntKind.u64.wrap (wrap64 (a1 + a3))) / 2)) + a2)) - x20_2)) a3 t160 w0 _ ?side1 ?side2 A92.out).mono ?_); (case side1 => repeat (first | (with_reducible first | exact HB.out | apply below_alloc | apply pw_below_drewN | apply below_drew1) | exact HB.out)); (case side2 => exact Kd.R_tight rfl HO_0.out); rintro e w94 ⟨rfl, hy0, hb, hkp⟩; refine ⟨_, rfl, ?_⟩; have n0_ := mkA (Kd.R_reok rfl hy0 (fun k_ e_ => HO_0.out.1 k_ e_)); have n1_ := mkA (Kept.then_ (S := (fun k_ => P0_ k_)) (by repeat (first | (with_reducible first | exact HK.out | apply Kept.alloc | apply Kept.drewN | apply Kept.drew) | exact HK.out)) hkp (fun k_ hs_ => (fun e_ => (HO_0.out.1 k_ e_.symm)) hs_)); have n2_ := mkA (hb); clear HO_0; clear HK; clear HB; have HO_0 := n0_; have HK := n1_; have HB := n2_; clear n0_ n1_ n2_; (try clear hb); (try clear hkp); (try clear hy0)))
             first | go_end0 | ((try simp only [Exit.inBlock, Exit.then]); refine bodyPost_ret (results_none rfl _ _ _) rfl ?_)
             exact ⟨by first | rfl | (simp [errW_none, errW_some] <;> rfl) | (simp [*, errW_none, errW_some] <;> rfl), by (with_reducible repeat (first | apply Kd.R_alloc | apply Kd.R_drewN | apply Kd.R_drew)); exact HO_0.out, below_y HB.out, by repeat (first | (with_reducible first | exact HK.out | apply Kept.alloc | apply Kept.drewN | apply Kept.drew) | exact HK.out)⟩
           ·rw [if_neg c91] at H
            have c91b0 : decide ((wrap64 ((wrap64 ((wrap64 ((IntKind.u64.wrap (wrap64 (a1 + a3))) / 2)) + a2)) - x20_2)) < a3) = false := decide_eq_false c91
            clear c91
            focus
             obtain rfl := Option.some.inj H
             go_wp2
             first | go_end0 | ((try simp only [Exit.inBlock, Exit.then]); refine bodyPost_ret (results_none rfl _ _ _) rfl ?_)
             exact ⟨by first | rfl | (simp [errW_none, errW_some] <;> rfl) | (simp [*, errW_none, errW_some] <;> rfl), by (with_reducible repeat (first | apply Kd.R_alloc | apply Kd.R_drewN | apply Kd.R_drew)); exact HO_0.out, below_y HB.out, by repeat (first | (with_reducible first | exact HK.out | apply Kept.alloc | apply Kept.drewN | apply Kept.drew) | exact HK.out)⟩
          ·rw [if_neg c90] at H
           have c90b0 : decide ((wrap64 ((IntKind.u64.wrap (wrap64 (a1 + a3))) / 2)) < (wrap64 ((wrap64 ((wrap64 ((IntKind.u64.wrap (wrap64 (a1 + a3))) / 2)) + a2)) - x20_2))) = false := decide_eq_false c90
           clear c90
           focus
            obtain rfl := Option.some.inj H
            go_wp2
            first | go_end0 | ((try simp only [Exit.inBlock, Exit.then]); refine bodyPost_ret (results_none rfl _ _ _) rfl ?_)
            exact ⟨by first | rfl | (simp [errW_none, errW_some] <;> rfl) | (simp [*, errW_none, errW_some] <;> rfl), by (with_reducible repeat (first | apply Kd.R_alloc | apply Kd.R_drewN | apply Kd.R_drew)); exact HO_0.out, below_y HB.out, by repeat (first | (with_reducible first | exact HK.out | apply Kept.alloc | apply Kept.drewN | apply Kept.drew) | exact HK.out)⟩
 rw [if_pos c61] at H
 have c61b0 : decide (x20_2 < x21_2) = true := decide_eq_true c61
 clear c61
 obtain ⟨ji62, hji62⟩ : ∃ j_ : Int, (wrap64 ((wrap64 ((wrap64 ((wrap64 ((IntKind.u64.wrap (wrap64 (a1 + a3))) / 2)) + a2)) - 1)) - (wrap64 ((IntKind.u64.wrap (wrap64 (x20_2 + x21_2))) / 2)))) = j_ := ⟨_, rfl⟩
 replace H : (if 0 ≤ (ji62) then (if (ji62) < (l0.length : Int) then (if 0 ≤ (wrap64 ((IntKind.u64.wrap (wrap64 (x20_2 + x21_2))) / 2)) then (if (wrap64 ((IntKind.u64.wrap (wrap64 (x20_2 + x21_2))) / 2)) < (l0.length : Int) then ((retain_older.f k2 ((rd_T29 l0 (ji62)).f0) ((rd_T29 l0 (ji62)).f1) ((rd_T29 l0 (ji62)).f2) ((rd_T29 l0 (ji62)).f3) ((rd_T29 l0 (ji62)).f4) ((rd_T29 l0 (ji62)).f5) ((rd_T29 l0 (ji62)).f6) ((rd_T29 l0 (ji62)).f7) ((rd_T29 l0 (ji62)).f8) ((rd_T29 l0 (ji62)).f9) ((rd_T29 l0 (ji62)).f10) ((rd_T29 l0 (ji62)).f11) ((rd_T29 l0 (ji62)).f12) ((rd_T29 l0 (ji62)).f13) ((rd_T29 l0 (ji62)).f14) ((rd_T29 l0 (ji62)).f15) ((rd_T29 l0 (ji62)).f16) ((rd_T29 l0 (ji62)).f17) ((rd_T29 l0 (ji62)).f18) ((rd_T29 l0 (ji62)).f19) ((rd_T29 l0 (wrap64 ((IntKind.u64.wrap (wrap64 (x20_2 + x21_2))) / 2))).f0) ((rd_T29 l0 (wrap64 ((IntKind.u64.wrap (wrap64 (x20_2 + x21_2))) / 2))).f1) ((rd_T29 l0 (wrap64 ((IntKind.u64.wrap (wrap64 (x20_2 + x21_2))) / 2))).f2) ((rd_T29 l0 (wrap64 ((IntKind.u64.wrap (wrap64 (x20_2 + x21_2))) / 2))).f3) ((rd_T29 l0 (wrap64 ((IntKind.u64.wrap (wrap64 (x20_2 + x21_2))) / 2))).f4) ((rd_T29 l0 (wrap64 ((IntKind.u64.wrap (wrap64 (x20_2 + x21_2))) / 2))).f5) ((rd_T29 l0 (wrap64 ((IntKind.u64.wrap (wrap64 (x20_2 + x21_2))) / 2))).f6) ((rd_T29 l0 (wrap64 ((IntKind.u64.wrap (wrap64 (x20_2 + x21_2))) / 2))).f7) ((rd_T29 l0 (wrap64 ((IntKind.u64.wrap (wrap64 (x20_2 + x21_2))) / 2))).f8) ((rd_T29 l0 (wrap64 ((IntKind.u64.wrap (wrap64 (x20_2 + x21_2))) / 2))).f9) ((rd_T29 l0 (wrap64 ((IntKind.u64.wrap (wrap64 (x20_2 + x21_2))) / 2))).f10) ((rd_T29 l0 (wrap64 ((IntKind.u64.wrap (wrap64 (x20_2 + x21_2))) / 2))).f11) ((rd_T29 l0 (wrap64 ((IntKind.u64.wrap (wrap64 (x20_2 + x21_2))) / 2))).f12) ((rd_T29 l0 (wrap64 ((IntKind.u64.wrap (wrap64 (x20_2 + x21_2))) / 2))).f13) ((rd_T29 l0 (wrap64 ((IntKind.u64.wrap (wrap64 (x20_2 + x21_2))) / 2))).f14) ((rd_T29 l0 (wrap64 ((IntKind.u64.wrap (wrap64 (x20_2 + x21_2))) / 2))).f15) ((rd_T29 l0 (wrap64 ((IntKind.u64.wrap (wrap64 (x20_2 + x21_2))) / 2))).f16) ((rd_T29 l0 (wrap64 ((IntKind.u64.wrap (wrap64 (x20_2 + x21_2))) / 2))).f17) ((rd_T29 l0 (wrap64 ((IntKind.u64.wrap (wrap64 (x20_2 + x21_2))) / 2))).f18) ((rd_T29 l0 (wrap64 ((IntKind.u64.wrap (wrap64 (x20_2 + x21_2))) / 2))).f19)).bind fun t157 => (if t157 < 0 then (api_Ep_33.l4 k2 l0 a1 a2 a3 (wrap64 ((IntKind.u64.wrap (wrap64 (a1 + a3))) / 2)) (wrap64 ((wrap64 ((IntKind.u64.wrap (wrap64 (a1 + a3))) / 2)) + a2)) x20_2 (wrap64 ((IntKind.u64.wrap (wrap64 (x20_2 + x21_2))) / 2)) (wrap64 ((wrap64 ((wrap64 ((IntKind.u64.wrap (wrap64 (a1 + a3))) / 2)) + a2)) - 1))) else (api_Ep_33.l4 k2 l0 a1 a2 a3 (wrap64 ((IntKind.u64.wrap (wrap64 (a1 + a3))) / 2)) (wrap64 ((wrap64 ((IntKind.u64.wrap (wrap64 (a1 + a3))) / 2)) + a2)) (wrap64 ((wrap64 ((IntKind.u64.wrap (wrap64 (x20_2 + x21_2))) / 2)) + 1)) x21_2 (wrap64 ((wrap64 ((wrap64 ((IntKind.u64.wrap (wrap64 (a1 + a3))) / 2)) + a2)) - 1))))) else (none)) else (none)) else (none)) else (none)) = some r := by first | (rw [hji62] at H; exact H) | (simp only [hji62] at H ⊢; exact H)
 have hji62w : (IntKind.i64.wrap ((wrap64 ((wrap64 ((wrap64 ((IntKind.u64.wrap (wrap64 (a1 + a3))) / 2)) + a2)) - 1)) - (wrap64 ((IntKind.u64.wrap (wrap64 (x20_2 + x21_2))) / 2)))) = ji62 := (i64_w _).trans hji62
 by_cases c63 : 0 ≤ (ji62)
 rotate_left
 ·rw [if_neg c63] at H
  exact absurd H (by simp)
 rw [if_pos c63] at H
 have c63b0 : decide (0 ≤ (ji62)) = true := decide_eq_true c63
 clear c63
 by_cases c64 : (ji62) < (l0.length : Int)
 rotate_left
 ·rw [if_neg c64] at H
  exact absurd H (by simp)
 rw [if_pos c64] at H
 have c64b0 : decide ((ji62) < (l0.length : Int)) = true := decide_eq_true c64
 clear c64
 obtain ⟨ji65, hji65⟩ : ∃ j_ : Int, (wrap64 ((IntKind.u64.wrap (wrap64 (x20_2 + x21_2))) / 2)) = j_ := ⟨_, rfl⟩
 replace H : (if 0 ≤ (ji65) then (if (ji65) < (l0.length : Int) then ((retain_older.f k2 ((rd_T29 l0 (ji62)).f0) ((rd_T29 l0 (ji62)).f1) ((rd_T29 l0 (ji62)).f2) ((rd_T29 l0 (ji62)).f3) ((rd_T29 l0 (ji62)).f4) ((rd_T29 l0 (ji62)).f5) ((rd_T29 l0 (ji62)).f6) ((rd_T29 l0 (ji62)).f7) ((rd_T29 l0 (ji62)).f8) ((rd_T29 l0 (ji62)).f9) ((rd_T29 l0 (ji62)).f10) ((rd_T29 l0 (ji62)).f11) ((rd_T29 l0 (ji62)).f12) ((rd_T29 l0 (ji62)).f13) ((rd_T29 l0 (ji62)).f14) ((rd_T29 l0 (ji62)).f15) ((rd_T29 l0 (ji62)).f16) ((rd_T29 l0 (ji62)).f17) ((rd_T29 l0 (ji62)).f18) ((rd_T29 l0 (ji62)).f19) ((rd_T29 l0 (ji65)).f0) ((rd_T29 l0 (ji65)).f1) ((rd_T29 l0 (ji65)).f2) ((rd_T29 l0 (ji65)).f3) ((rd_T29 l0 (ji65)).f4) ((rd_T29 l0 (ji65)).f5) ((rd_T29 l0 (ji65)).f6) ((rd_T29 l0 (ji65)).f7) ((rd_T29 l0 (ji65)).f8) ((rd_T29 l0 (ji65)).f9) ((rd_T29 l0 (ji65)).f10) ((rd_T29 l0 (ji65)).f11) ((rd_T29 l0 (ji65)).f12) ((rd_T29 l0 (ji65)).f13) ((rd_T29 l0 (ji65)).f14) ((rd_T29 l0 (ji65)).f15) ((rd_T29 l0 (ji65)).f16) ((rd_T29 l0 (ji65)).f17) ((rd_T29 l0 (ji65)).f18) ((rd_T29 l0 (ji65)).f19)).bind fun t157 => (if t157 < 0 then (api_Ep_33.l4 k2 l0 a1 a2 a3 (wrap64 ((IntKind.u64.wrap (wrap64 (a1 + a3))) / 2)) (wrap64 ((wrap64 ((IntKind.u64.wrap (wrap64 (a1 + a3))) / 2)) + a2)) x20_2 ji65 (wrap64 ((wrap64 ((wrap64 ((IntKind.u64.wrap (wrap64 (a1 + a3))) / 2)) + a2)) - 1))) else (api_Ep_33.l4 k2 l0 a1 a2 a3 (wrap64 ((IntKind.u64.wrap (wrap64 (a1 + a3))) / 2)) (wrap64 ((wrap64 ((IntKind.u64.wrap (wrap64 (a1 + a3))) / 2)) + a2)) (wrap64 ((ji65) + 1)) x21_2 (wrap64 ((wrap64 ((wrap64 ((IntKind.u64.wrap (wrap64 (a1 + a3))) / 2)) + a2)) - 1))))) else (none)) else (none)) = some r := by first | (rw [hji65] at H; exact H) | (simp only [hji65] at H ⊢; exact H)
 have hji65w : (IntKind.i64.wrap ((IntKind.u64.wrap (wrap64 (x20_2 + x21_2))) / 2)) = ji65 := (i64_w _).trans hji65
 try rw [hji65] at hji62
 try rw [hji65] at hji62w
 by_cases c66 : 0 ≤ (ji65)
 rotate_left
 ·rw [if_neg c66] at H
  exact absurd H (by simp)
 rw [if_pos c66] at H
 have c66b0 : decide (0 ≤ (ji65)) = true := decide_eq_true c66
 clear c66
 by_cases c67 : (ji65) < (l0.length : Int)
 rotate_left
 ·rw [if_neg c67] at H
  exact absurd H (by simp)
 rw [if_pos c67] at H
 have c67b0 : decide ((ji65) < (l0.length : Int)) = true := decide_eq_true c67
 clear c67
 replace H := Option.bind_eq_some_iff.mp H
 obtain ⟨t157, A680, H⟩ := H
 replace H : (if t157 < 0 then (api_Ep_33.l4 k2 l0 a1 a2 a3 (wrap64 ((IntKind.u64.wrap (wrap64 (a1 + a3))) / 2)) (wrap64 ((wrap64 ((IntKind.u64.wrap (wrap64 (a1 + a3))) / 2)) + a2)) x20_2 ji65 (wrap64 ((wrap64 ((wrap64 ((IntKind.u64.wrap (wrap64 (a1 + a3))) / 2)) + a2)) - 1))) else (api_Ep_33.l4 k2 l0 a1 a2 a3 (wrap64 ((IntKind.u64.wrap (wrap64 (a1 + a3))) / 2)) (wrap64 ((wrap64 ((IntKind.u64.wrap (wrap64 (a1 + a3))) / 2)) + a2)) (wrap64 ((ji65) + 1)) x21_2 (wrap64 ((wrap64 ((wrap64 ((IntKind.u64.wrap (wrap64 (a1 + a3))) / 2)) + a2)) - 1)))) = some r := H
 have A68 := mkA A680
 clear A680
 try go_wp2
 have n0_ := mkA (Kd.R_drew HO_0.out)
 have n1_ := mkA (Kept.drew HK.out)
 have n2_ := mkA (below_drew1 HB.out)
 clear HO_0 HK HB
 have HO_0 := n0_
 have HK := n1_
 have HB := n2_
 clear n0_ n1_ n2_
 obtain ⟨Ao71, co71, eo71⟩ := Kd.R_slice HO_0.out
 (first | subst eo71 | (injection eo71 with f1_ f2_ f3_; have f4_ := f1_.symm; have f5_ := f3_.symm; clear f1_ f2_ f3_; subst f4_; subst f5_))
 have p155 : 0 ≤ ((ji62) : Int) := odt
 have q155 : (ji62) < (l0.length : Int) := odt
 obtain ⟨ad155, e155, hx155_0, hx155_1, hx155_2, hx155_3, hx155_4, hx155_5, hx155_6, hx155_7, hx155_8, hx155_9, hx155_10, hx155_11, hx155_12, hx155_13, hx155_14, hx155_15, hx155_16, hx155_17, hx155_18, hx155_19⟩ := at_T29 (Kd.R_reads' HO_0.out).2.2 (ji62) p155 q155
 cases e155
 replace p155 := eq_true p155
 replace q155 := eq_true q155
 have p156 : 0 ≤ ((ji65) : Int) := odt
 have q156 : (ji65) < (l0.length : Int) := odt
 obtain ⟨ad156, e156, hx156_0, hx156_1, hx156_2, hx156_3, hx156_4, hx156_5, hx156_6, hx156_7, hx156_8, hx156_9, hx156_10, hx156_11, hx156_12, hx156_13, hx156_14, hx156_15, hx156_16, hx156_17, hx156_18, hx156_19⟩ := at_T29 (Kd.R_reads' HO_0.out).2.2 (ji65) p156 q156
 obtain rfl : ad155 = ad156 := (by injection e156)
 replace p156 := eq_true p156
 replace q156 := eq_true q156
 refine start_ (n := 14) (S := fun w' => cj29 w' (ad155.add (((ji62)).toNat * 20)) (rd_T29 l0 (ji62)) <| ce29 w' (ad155.add (((ji65)).toNat * 20)) (rd_T29 l0 (ji65))) (ds := []) #[false, false, false, false, false, false, false, false, false, false, false, false, false, false] (by kernel_rfl) rfl rfl ⟨hx155_0, hx155_1, hx155_2, hx155_3, hx155_4, hx155_5, hx155_6, hx155_7, hx155_8, hx155_9, hx155_10, hx155_11, hx155_12, hx155_13, hx155_14, hx155_15, hx155_16, hx155_17, hx155_18, hx155_19, hx156_0, hx156_1, hx156_2, hx156_3, hx156_4, hx156_5, hx156_6, hx156_7, hx156_8, hx156_9, hx156_10, hx156_11, hx156_12, hx156_13, hx156_14, hx156_15, hx156_16, hx156_17, hx156_18, hx156_19⟩ (fun hHeld => ?_); refine with_tabW api_Ep_33.tab35 api_Ep_33.bits35 (fun HT_ HW_ => ?_)
 generalize wr.drew = w70 at HO_0 HK HB hx155_0 hx155_1 hx155_10 hx155_11 hx155_12 hx155_13 hx155_14 hx155_15 hx155_16 hx155_17 hx155_18 hx155_19 hx155_2 hx155_3 hx155_4 hx155_5 hx155_6 hx155_7 hx155_8 hx155_9 hx156_0 hx156_1 hx156_10 hx156_11 hx156_12 hx156_13 hx156_14 hx156_15 hx156_16 hx156_17 hx156_18 hx156_19 hx156_2 hx156_3 hx156_4 hx156_5 hx156_6 hx156_7 hx156_8 hx156_9 hHeld ⊢
 refine pu 0 158 HT_ ?_
 refine pu 1 159 HT_ ?_
 refine pu 2 160 HT_ ?_
 refine pu 3 161 HT_ ?_
 refine pu 4 162 HT_ ?_
 refine pu 5 163 HT_ ?_
 refine pu 7 165 HT_ ?_
 refine pu 8 166 HT_ ?_
 refine pu 9 167 HT_ ?_
 refine take_ (i := 6) (N := some 164) (v := ?_) (a' := ?_) #[true, true, true, true, true, true, true, true, true, true, false, false, false, false] rfl rfl (take_ofW HT_.out HW_.out (by kernel_rfl)) (fun _ _ _ h => h) (Or.inl ⟨by rfl, ?_⟩) hHeld ?_ ?_
 rotate_left
 ·rintro w' ⟨s0, s1, s2, s3, s4, s5, s6, s7, s8, s9, s10, s11, s12, s13, s14, s15, s16, s17, s18, s19, s20, s21, s22, s23, s24, s25, s26, s27, s28, s29, s30, s31, s32, s33, s34, s35, s36, s37, s38, s39⟩
  first | (have hz_ := fun (a : Act) (o : Oper) (x : Operand) (ho : o.op = .load 29 x) (hx : a.eval x = _) => exec_load_at (P := Try.prog) (W := w') (cs := [_, _, _, _, _, _, _, _, _, _, _, _, _, _, _, _, _, _, _]) ho hx Try.underlying29 rfl (by kernel_rfl) s0 ⟨s1, s2, s3, s4, s5, s6, s7, s8, s9, s10, s11, s12, s13, s14, s15, s16, s17, s18, s19, trivial⟩; refine (hz_ _ _ (.tmp 163) ?_ ?_).trans ?_; (focus rfl); (focus (first | (with_reducible rfl) | (go_simp; done))); with_reducible rfl) | (have hz_ := fun (a : Act) (o : Oper) (x : Operand) (ho : o.op = .load 29 x) (hx : a.eval x = _) => exec_load_at (P := Try.prog) (W := w') (cs := [_, _, _, _, _, _, _, _, _, _, _, _, _, _, _, _, _, _, _]) ho hx Try.underlying29 rfl (by kernel_rfl) s20 ⟨s21, s22, s23, s24, s25, s26, s27, s28, s29, s30, s31, s32, s33, s34, s35, s36, s37, s38, s39, trivial⟩; refine (hz_ _ _ (.tmp 163) ?_ ?_).trans ?_; (focus rfl); (focus (first | (with_reducible rfl) | (go_simp; done))); with_reducible rfl) | (go_simp; with_reducible rfl)
 rotate_left
 ·simp only [Act.put, sA, s0, sS, i64_w, i32_w]
  rfl
 refine take_ (i := 10) (N := some 168) (v := ?_) (a' := ?_) #[true, true, true, true, true, true, true, true, true, true, true, false, false, false] rfl rfl (take_ofW HT_.out HW_.out (by kernel_rfl)) (fun _ _ _ h => h) (Or.inl ⟨by rfl, ?_⟩) hHeld ?_ ?_
 rotate_left
 ·rintro w' ⟨s0, s1, s2, s3, s4, s5, s6, s7, s8, s9, s10, s11, s12, s13, s14, s15, s16, s17, s18, s19, s20, s21, s22, s23, s24, s25, s26, s27, s28, s29, s30, s31, s32, s33, s34, s35, s36, s37, s38, s39⟩
  first | (have hz_ := fun (a : Act) (o : Oper) (x : Operand) (ho : o.op = .load 29 x) (hx : a.eval x = _) => exec_load_at (P := Try.prog) (W := w') (cs := [_, _, _, _, _, _, _, _, _, _, _, _, _, _, _, _, _, _, _]) ho hx Try.underlying29 rfl (by kernel_rfl) s0 ⟨s1, s2, s3, s4, s5, s6, s7, s8, s9, s10, s11, s12, s13, s14, s15, s16, s17, s18, s19, trivial⟩; refine (hz_ _ _ (.tmp 167) ?_ ?_).trans ?_; (focus rfl); (focus (first | (with_reducible rfl) | (go_simp; done))); with_reducible rfl) | (have hz_ := fun (a : Act) (o : Oper) (x : Operand) (ho : o.op = .load 29 x) (hx : a.eval x = _) => exec_load_at (P := Try.prog) (W := w') (cs := [_, _, _, _, _, _, _, _, _, _, _, _, _, _, _, _, _, _, _]) ho hx Try.underlying29 rfl (by kernel_rfl) s20 ⟨s21, s22, s23, s24, s25, s26, s27, s28, s29, s30, s31, s32, s33, s34, s35, s36, s37, s38, s39, trivial⟩; refine (hz_ _ _ (.tmp 167) ?_ ?_).trans ?_; (focus rfl); (focus (first | (with_reducible rfl) | (go_simp; done))); with_reducible rfl) | (go_simp; with_reducible rfl)
 rotate_left
 ·simp only [Act.put, sA, s0, sS, i64_w, i32_w]
  rfl
 refine one_ (i := 11) (N := some 169) #[true, true, true, true, true, true, true, true, true, true, true, true, false, false] rfl rfl (one_of HT_.out (by kernel_rfl)) (by decide) (fun K hK => ?_)
 refine goesW_ Try.func22 (by kernel_rfl) rfl #[.agg #[.int .i64 ((rd_T29 l0 (ji62)).f0), .int .i64 ((rd_T29 l0 (ji62)).f1), .string ((rd_T29 l0 (ji62)).f2), .string ((rd_T29 l0 (ji62)).f3), .string ((rd_T29 l0 (ji62)).f4), .int .i64 ((rd_T29 l0 (ji62)).f5), .int .i64 ((rd_T29 l0 (ji62)).f6), .int .i64 ((rd_T29 l0 (ji62)).f7), .int .i64 ((rd_T29 l0 (ji62)).f8), .bool ((rd_T29 l0 (ji62)).f9), .int .i64 ((rd_T29 l0 (ji62)).f10), .int .i64 ((rd_T29 l0 (ji62)).f11), .int .i64 ((rd_T29 l0 (ji62)).f12), .string ((rd_T29 l0 (ji62)).f13), .int .i64 ((rd_T29 l0 (ji62)).f14), .int .i64 ((rd_T29 l0 (ji62)).f15), .string ((rd_T29 l0 (ji62)).f16), .int .i64 ((rd_T29 l0 (ji62)).f17), .int .i64 ((rd_T29 l0 (ji62)).f18), .string ((rd_T29 l0 (ji62)).f19)], .agg #[.int .i64 ((rd_T29 l0 (ji65)).f0), .int .i64 ((rd_T29 l0 (ji65)).f1), .string ((rd_T29 l0 (ji65)).f2), .string ((rd_T29 l0 (ji65)).f3), .string ((rd_T29 l0 (ji65)).f4), .int .i64 ((rd_T29 l0 (ji65)).f5), .int .i64 ((rd_T29 l0 (ji65)).f6), .int .i64 ((rd_T29 l0 (ji65)).f7), .int .i64 ((rd_T29 l0 (ji65)).f8), .bool ((rd_T29 l0 (ji65)).f9), .int .i64 ((rd_T29 l0 (ji65)).f10), .int .i64 ((rd_T29 l0 (ji65)).f11), .int .i64 ((rd_T29 l0 (ji65)).f12), .string ((rd_T29 l0 (ji65)).f13), .int .i64 ((rd_T29 l0 (ji65)).f14), .int .i64 ((rd_T29 l0 (ji65)).f15), .string ((rd_T29 l0 (ji65)).f16), .int .i64 ((rd_T29 l0 (ji65)).f17), .int .i64 ((rd_T29 l0 (ji65)).f18), .string ((rd_T29 l0 (ji65)).f19)]] (by rfl) rfl rfl (by first | rfl | (go_simp; done)) (by (try simp only [List.map_toArray, List.map_cons, List.map_nil]); first | done | (simp only [hji62, hji65]; rfl) | rfl | (simp only [List.length_drop, List.length_take]; rfl)) ?_
 with_reducible refine (retain_older.calls _ _ _ _ _ _ _ _ _ _ _ _ _ _ _ _ _ _ _ _ _ _ _ _ _ _ _ _ _ _ _ _ _ _ _ _ _ _ _ _ _ _ _ A68.out).mono ?_
 rintro e w72 ⟨rfl, hb⟩
 have hbk_w72 := mkA hb
 have HS0_ := hs_ hb hHeld.1
 have HS1_ := hs_ hb hHeld.2.1
 have HS2_ := hs_ hb hHeld.2.2.1
 have HS3_ := hs_ hb hHeld.2.2.2.1
 have HS4_ := hs_ hb hHeld.2.2.2.2.1
 have HS5_ := hs_ hb hHeld.2.2.2.2.2.1
 have HS6_ := hs_ hb hHeld.2.2.2.2.2.2.1
 have HS7_ := hs_ hb hHeld.2.2.2.2.2.2.2.1
 have HS8_ := hs_ hb hHeld.2.2.2.2.2.2.2.2.1
 have HS9_ := hs_ hb hHeld.2.2.2.2.2.2.2.2.2.1
 have HS10_ := hs_ hb hHeld.2.2.2.2.2.2.2.2.2.2.1
 have HS11_ := hs_ hb hHeld.2.2.2.2.2.2.2.2.2.2.2.1
 have HS12_ := hs_ hb hHeld.2.2.2.2.2.2.2.2.2.2.2.2.1
 have HS13_ := hs_ hb hHeld.2.2.2.2.2.2.2.2.2.2.2.2.2.1
 have HS14_ := hs_ hb hHeld.2.2.2.2.2.2.2.2.2.2.2.2.2.2.1
 have HS15_ := hs_ hb hHeld.2.2.2.2.2.2.2.2.2.2.2.2.2.2.2.1
 have HS16_ := hs_ hb hHeld.2.2.2.2.2.2.2.2.2.2.2.2.2.2.2.2.1
 have HS17_ := hs_ hb hHeld.2.2.2.2.2.2.2.2.2.2.2.2.2.2.2.2.2.1
 have HS18_ := hs_ hb hHeld.2.2.2.2.2.2.2.2.2.2.2.2.2.2.2.2.2.2.1
 have HS19_ := hs_ hb hHeld.2.2.2.2.2.2.2.2.2.2.2.2.2.2.2.2.2.2.2.1
 have HS20_ := hs_ hb hHeld.2.2.2.2.2.2.2.2.2.2.2.2.2.2.2.2.2.2.2.2.1
 have HS21_ := hs_ hb hHeld.2.2.2.2.2.2.2.2.2.2.2.2.2.2.2.2.2.2.2.2.2.1
 have HS22_ := hs_ hb hHeld.2.2.2.2.2.2.2.2.2.2.2.2.2.2.2.2.2.2.2.2.2.2.1
 have HS23_ := hs_ hb hHeld.2.2.2.2.2.2.2.2.2.2.2.2.2.2.2.2.2.2.2.2.2.2.2.1
 have HS24_ := hs_ hb hHeld.2.2.2.2.2.2.2.2.2.2.2.2.2.2.2.2.2.2.2.2.2.2.2.2.1
 have HS25_ := hs_ hb hHeld.2.2.2.2.2.2.2.2.2.2.2.2.2.2.2.2.2.2.2.2.2.2.2.2.2.1
 have HS26_ := hs_ hb hHeld.2.2.2.2.2.2.2.2.2.2.2.2.2.2.2.2.2.2.2.2.2.2.2.2.2.2.1
 have HS27_ := hs_ hb hHeld.2.2.2.2.2.2.2.2.2.2.2.2.2.2.2.2.2.2.2.2.2.2.2.2.2.2.2.1
 have HS28_ := hs_ hb hHeld.2.2.2.2.2.2.2.2.2.2.2.2.2.2.2.2.2.2.2.2.2.2.2.2.2.2.2.2.1
 have HS29_ := hs_ hb hHeld.2.2.2.2.2.2.2.2.2.2.2.2.2.2.2.2.2.2.2.2.2.2.2.2.2.2.2.2.2.1
 have HS30_ := hs_ hb hHeld.2.2.2.2.2.2.2.2.2.2.2.2.2.2.2.2.2.2.2.2.2.2.2.2.2.2.2.2.2.2.1
 have HS31_ := hs_ hb hHeld.2.2.2.2.2.2.2.2.2.2.2.2.2.2.2.2.2.2.2.2.2.2.2.2.2.2.2.2.2.2.2.1
 have HS32_ := hs_ hb hHeld.2.2.2.2.2.2.2.2.2.2.2.2.2.2.2.2.2.2.2.2.2.2.2.2.2.2.2.2.2.2.2.2.1
 have HS33_ := hs_ hb hHeld.2.2.2.2.2.2.2.2.2.2.2.2.2.2.2.2.2.2.2.2.2.2.2.2.2.2.2.2.2.2.2.2.2.1
 have HS34_ := hs_ hb hHeld.2.2.2.2.2.2.2.2.2.2.2.2.2.2.2.2.2.2.2.2.2.2.2.2.2.2.2.2.2.2.2.2.2.2.1
 have HS35_ := hs_ hb hHeld.2.2.2.2.2.2.2.2.2.2.2.2.2.2.2.2.2.2.2.2.2.2.2.2.2.2.2.2.2.2.2.2.2.2.2.1
 have HS36_ := hs_ hb hHeld.2.2.2.2.2.2.2.2.2.2.2.2.2.2.2.2.2.2.2.2.2.2.2.2.2.2.2.2.2.2.2.2.2.2.2.2.1
 have HS37_ := hs_ hb hHeld.2.2.2.2.2.2.2.2.2.2.2.2.2.2.2.2.2.2.2.2.2.2.2.2.2.2.2.2.2.2.2.2.2.2.2.2.2.1
 have HS38_ := hs_ hb hHeld.2.2.2.2.2.2.2.2.2.2.2.2.2.2.2.2.2.2.2.2.2.2.2.2.2.2.2.2.2.2.2.2.2.2.2.2.2.2.1
 have HS39_ := hs_ hb hHeld.2.2.2.2.2.2.2.2.2.2.2.2.2.2.2.2.2.2.2.2.2.2.2.2.2.2.2.2.2.2.2.2.2.2.2.2.2.2.2
 refine ⟨_, rfl, ?_⟩
 have n0_ := mkA (Kd.R_below (Kd.R_y HO_0.out) hb)
 have n1_ := mkA (Kept.below (S := (fun k_ => P0_ k_)) (by repeat (first | (with_reducible first | exact HK.out | apply Kept.alloc | apply Kept.drewN | apply Kept.drew) | exact HK.out)) hb)
 have n2_ := mkA (below_step (below_y HB.out) hb)
 clear HO_0 HK HB
 have HO_0 := n0_
 have HK := n1_
 have HB := n2_
 clear n0_ n1_ n2_
 (try clear hb)
 (try clear hb2)
 (try clear hk)
 (try clear hi)
 refine hK.out _ _ ⟨HS0_, HS1_, HS2_, HS3_, HS4_, HS5_, HS6_, HS7_, HS8_, HS9_, HS10_, HS11_, HS12_, HS13_, HS14_, HS15_, HS16_, HS17_, HS18_, HS19_, HS20_, HS21_, HS22_, HS23_, HS24_, HS25_, HS26_, HS27_, HS28_, HS29_, HS30_, HS31_, HS32_, HS33_, HS34_, HS35_, HS36_, HS37_, HS38_, HS39_⟩ (fun hHeld => ?_)
 clear hK K
 refine norm_ (a' := ?_) ?_ ?_
 rotate_left
 ·show Act.put _ (some 169) _ = _
  simp only [Act.put, sA, s0, sS, i64_w, i32_w]
  rfl
 refine pu 12 170 HT_ ?_
 refine pu 13 171 HT_ ?_
 refine done_ (done_of HT_.out (by kernel_rfl)) ?_
 by_cases c69 : t157 < 0
 ·rw [if_pos c69] at H
  have c69b0 : decide (t157 < 0) = true := decide_eq_true c69
  (first | rw [c69b0] | (simp only [i64_w, i32_w]; rw [c69b0]) | skip)
  clear c69
  have H' := mkA H
  clear H
  as_aux_lemma =>
   try go_wp2
   go_roundg k2
   case measure => have := HJ58.out; have := HK2.out; omega
   case rel => exact ⟨(x20_2), (ji65), (by first | rfl | (simp; done) | (simp [*]; done)), (by first | rfl | (simp; done) | (simp only [← hji65] <;> (first | rfl | simp)) | (simp [*]; done)), H', ⟨by have := HJ58.out; have := HK2.out; omega⟩, ⟨by (with_reducible repeat (first | apply Kd.R_alloc | apply Kd.R_drewN | apply Kd.R_drew)); exact HO_0.out⟩, ⟨by repeat (first | (with_reducible first | exact HK.out | apply Kept.alloc | apply Kept.drewN | apply Kept.drew) | exact HK.out)⟩, ⟨below_y HB.out⟩⟩
 rw [if_neg c69] at H
 have c69b0 : decide (t157 < 0) = false := decide_eq_false c69
 (first | rw [c69b0] | (simp only [i64_w, i32_w]; rw [c69b0]) | skip)
 clear c69
 have H' := mkA H
 clear H
 as_aux_lemma =>
  try go_wp2
  go_roundg k2
  case measure => have := HJ58.out; have := HK2.out; omega
  case rel => exact ⟨(wrap64 ((ji65) + 1)), (x21_2), (by first | rfl | (simp; done) | (simp only [← hji65] <;> (first | rfl | simp)) | (simp [*]; done)), (by first | rfl | (simp; done) | (simp [*]; done)), H', ⟨by have := HJ58.out; have := HK2.out; omega⟩, ⟨by (with_reducible repeat (first | apply Kd.R_alloc | apply Kd.R_drewN | apply Kd.R_drew)); exact HO_0.out⟩, ⟨by repeat (first | (with_reducible first | exact HK.out | apply Kept.alloc | apply Kept.drewN | apply Kept.drew) | exact HK.out)⟩, ⟨below_y HB.out⟩⟩

end Go.Proofs.Ytcpojadlnpnbaaa.XRet
