import Derived.Test.YtghdkpcpgpfgcaaDoorXStaTellStampBack
namespace Go.Proofs.YtghdkpcpgpfgcaaDoor.XSta
open Go.RowKit Go.Proofs.YtghdkpcpgpfgcaaDoorW.PrintWords Go.Proofs.YtghdkpcpgpfgcaaDoorW.PrintLast Go.Proofs.YtghdkpcpgpfgcaaDoorW.PrintMore
/-- A digit, as a byte. -/
def dg (n : Nat) : UInt8 := UInt8.ofNat (48 + n)
def two (n : Nat) : ByteArray := ⟨#[dg (n / 10), dg (n % 10)]⟩
def four (n : Nat) : ByteArray := ⟨#[dg (n / 1000), dg (n / 100 % 10), dg (n / 10 % 10), dg (n % 10)]⟩
def okB (b : UInt8) : Bool := decide (b.toNat < 128) && (b != 32) && (b != 9) && (b != 58)
def wdN : ByteArray := ⟨#[116, 104, 117, 32, 102, 114, 105, 32, 115, 97, 116, 32, 115, 117, 110, 32, 109, 111, 110, 32, 116, 117, 101, 32, 119, 101, 100, 32]⟩
def moN : ByteArray := ⟨#[106, 97, 110, 32, 102, 101, 98, 32, 109, 97, 114, 32, 97, 112, 114, 32, 109, 97, 121, 32, 106, 117, 110, 32, 106, 117, 108, 32, 97, 117, 103, 32, 115, 101, 112, 32, 111, 99, 116, 32, 110, 111, 118, 32, 100, 101, 99, 32]⟩
def wd0 (i : Nat) : UInt8 := [84, 70, 83, 83, 77, 84, 87].getD i 0
def wd1 (i : Nat) : UInt8 := [104, 114, 97, 117, 111, 117, 101].getD i 0
def wd2 (i : Nat) : UInt8 := [117, 105, 116, 110, 110, 101, 100].getD i 0
def mo0 (i : Nat) : UInt8 := [74, 70, 77, 65, 77, 74, 74, 65, 83, 79, 78, 68].getD i 0
def mo1 (i : Nat) : UInt8 := [97, 101, 97, 112, 97, 117, 117, 117, 101, 99, 111, 101].getD i 0
def mo2 (i : Nat) : UInt8 := [110, 98, 114, 114, 121, 110, 108, 103, 112, 116, 118, 99].getD i 0
theorem two_put : ∀ n : Nat, n < 100 → stamp_two.f (n : Int) = some (two n) := by decide +kernel
theorem two_get : ∀ n < 100, stamp_digits.f 10 (two n) 2 2 = some (n : Int) := by decide +kernel
theorem two_get1 : ∀ n < 100, stamp_digits.f 10 (two n) 1 2 = some (n : Int) := by decide +kernel
theorem four_put : ∀ n < 230, num_Put.f ((1970 + n : Nat) : Int) = some (four (1970 + n)) := by decide +kernel
theorem four_get : ∀ n < 230, stamp_digits.f 10 (four (1970 + n)) 4 4 = some ((1970 + n : Nat) : Int) := by decide +kernel
theorem wd_put : ∀ i : Nat, i < 7 → stamp_name.f wdN (i : Int) = some ⟨#[wd0 i, wd1 i, wd2 i]⟩ := by decide +kernel
theorem wd_get : ∀ i < 7, stamp_index.f 10 wdN ⟨#[wd0 i, wd1 i, wd2 i]⟩ = some (i : Int) := by decide +kernel
theorem wd_cut : ∀ i < 7, strings_CutSuffix.f ⟨#[wd0 i, wd1 i, wd2 i, 44]⟩ ⟨#[44]⟩ = some (⟨#[wd0 i, wd1 i, wd2 i]⟩, true) := by decide +kernel
theorem mo_put : ∀ i : Nat, i < 12 → stamp_name.f moN (i : Int) = some ⟨#[mo0 i, mo1 i, mo2 i]⟩ := by decide +kernel
theorem mo_get : ∀ i < 12, stamp_index.f 10 moN ⟨#[mo0 i, mo1 i, mo2 i]⟩ = some (i : Int) := by decide +kernel
theorem dg_ok : ∀ n < 10, okB (dg n) = true := by decide +kernel
theorem wd_ok : ∀ i < 7, (okB (wd0 i) && okB (wd1 i) && okB (wd2 i)) = true := by decide +kernel
theorem mo_ok : ∀ i < 12, (okB (mo0 i) && okB (mo1 i) && okB (mo2 i)) = true := by decide +kernel
theorem wd_next : ∀ i < 7, ¬ (wd0 i = wd0 ((i + 1) % 7) ∧ wd1 i = wd1 ((i + 1) % 7) ∧ wd2 i = wd2 ((i + 1) % 7)) := by decide +kernel
def zoneS (m : Nat) : ByteArray := ⟨#[43, dg (m / 60 / 10), dg (m / 60 % 10), dg (m % 60 / 10), dg (m % 60 % 10)]⟩
theorem zone_gmt : stamp_zone.f 12 ⟨#[71, 77, 84]⟩ = some (0, 0) := by decide +kernel
theorem zone_get : ∀ m < 1440, stamp_zone.f 20 (zoneS m) = some (((60 * m : Nat) : Int), 0) := by decide +kernel
end Go.Proofs.YtghdkpcpgpfgcaaDoor.XSta
