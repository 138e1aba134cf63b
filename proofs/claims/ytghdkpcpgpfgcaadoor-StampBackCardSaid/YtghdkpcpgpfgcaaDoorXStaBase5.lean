import Derived.Test.YtghdkpcpgpfgcaaDoorXStaBase3
import Derived.Test.YtghdkpcpgpfgcaaDoorXStaBase4
namespace Go.Proofs.YtghdkpcpgpfgcaaDoor.XSta
open Go.RowKit Go.Proofs.YtghdkpcpgpfgcaaDoorW.PrintWords Go.Proofs.YtghdkpcpgpfgcaaDoorW.PrintLast Go.Proofs.YtghdkpcpgpfgcaaDoorW.PrintMore
open Go.Lib
theorem date_get (d b a : Nat) (hd : d < 100) (hb : b < 12) (ha : a < 230) (C Z : ByteArray) (k : Nat) (hk : 10 ≤ k) :
    stamp_parseDate.f k [two d, ⟨#[mo0 b, mo1 b, mo2 b]⟩, four (1970 + a), C, Z] = some ((d : Int), ((1 + b : Nat) : Int), ((1970 + a : Nat) : Int), true) := by
  have e1 := two_up1 d hd k hk
  have e2 := mo_up b hb k hk
  have e3 := four_up a ha k hk
  have w : Aside0 (wrap64 ((b : Int) + 1) = ((1 + b : Nat) : Int)) := ⟨by rw [w64 (by omega) (by omega)]; omega⟩
  rw [stamp_parseDate.f, if_pos (by simp)]
  refine (show Option.bind (stamp_digits.f k (two d) 1 2) _ = _ from ?_)
  rw [e1, Option.bind_some, if_pos (by simp)]
  refine (show Option.bind (stamp_index.f k moN ⟨#[mo0 b, mo1 b, mo2 b]⟩) _ = _ from ?_)
  rw [e2, Option.bind_some, if_pos (by simp)]
  refine (show Option.bind (stamp_digits.f k (four (1970 + a)) 4 4) _ = _ from ?_)
  rw [e3, Option.bind_some, w.out]
  refine (if_neg (show ¬ ((4 : Int) = 2) by decide)).trans ?_
  rw [if_pos (by omega), if_pos (by omega), show decide (((1970 + a : Nat) : Int) ≥ 0) = true from decide_eq_true (by omega)]
theorem get_core (d b a h m s : Nat) (hd1 : 1 ≤ d) (hd : d < 100) (hb : b < 12) (ha : a < 230) (hh : h < 24) (hm : m < 60) (hs : s < 60) (hdd : (d : Int) ≤ stamp_Days.days ((1970 + a : Nat) : Int) ((1 + b : Nat) : Int))
    (Z : ByteArray) (z : Int) (hz0 : 0 ≤ z ∧ z ≤ 100000) (hZ : ∀ k, 20 ≤ k → stamp_zone.f k Z = some (z, 0)) (D : Nat) (hD : yrs a + mon ((1970 + a : Nat) : Int) b + (d : Int) - 1 = (D : Int)) (hD2 : D < 1000000) (k : Nat) (hk : 400 ≤ k) :
    stamp_Get.j1 k [two d, ⟨#[mo0 b, mo1 b, mo2 b]⟩, four (1970 + a), clockS h m s, Z] = some (86400 * (D : Int) + (3600 * (h : Int) + 60 * (m : Int) + (s : Int)) - z, 0) := by
  obtain ⟨k, rfl⟩ : ∃ j, k = j + 1 + 1 + 1 := ⟨k - 3, by clear hD hdd; omega⟩
  have hk1 : 10 ≤ k + 1 + 1 := by clear hD hdd; omega
  have hk2 : 20 ≤ k + 1 + 1 := by clear hD hdd; omega
  have hk3 : 300 ≤ k := by clear hD hdd; omega
  have c1 : ¬ ((d : Int) < 1) := by clear hD hdd; omega
  have c2 : ¬ ((d : Int) > stamp_Days.days ((1970 + a : Nat) : Int) ((1 + b : Nat) : Int)) := Int.not_lt.2 hdd
  have c3 : ¬ ((h : Int) > 23) := by clear hD hdd c2; omega
  have c4 : ¬ ((m : Int) > 59) := by clear hD hdd c2; omega
  have c5 : decide ((s : Int) > 59) = false := decide_eq_false (by clear hD hdd c2; omega)
  have e := date_get d b a hd hb ha (clockS h m s) Z (k + 1 + 1) hk1
  have e2 := clock_get h m s (by clear hD hdd c2; omega) (by clear hD hdd c2; omega) (by clear hD hdd c2; omega) (k + 1 + 1) hk2
  have e3 := hZ (k + 1 + 1) hk2
  have e4 := before_eq a ha b hb k hk3
  have e5 := days_f ((1970 + a : Nat) : Int) ((1 + b : Nat) : Int)
  have W := Aside0.mk hD
  clear hD hdd hZ
  generalize stamp_Days.days ((1970 + a : Nat) : Int) ((1 + b : Nat) : Int) = dy at *
  rw [stamp_Get.j1, if_pos (by simp), e, Option.bind_some, if_pos (by simp)]
  refine (show Option.bind (stamp_parseClock.f (k + 1 + 1) (clockS h m s)) _ = _ from ?_)
  rw [e2, Option.bind_some, if_pos (by simp)]
  refine (show Option.bind (stamp_zone.f (k + 1 + 1) Z) _ = _ from ?_)
  rw [e3, Option.bind_some, if_pos rfl, if_pos rfl, stamp_Get.j2, if_neg (show ¬ (((0 : Int) == 2) = true) by decide), if_pos rfl, if_neg c1, e5, Option.bind_some, if_neg c2, if_neg c3, if_neg c4, stamp_Get.j3, c5, if_neg (by decide), e4, Option.bind_some]
  generalize yrs a + mon ((1970 + a : Nat) : Int) b = B at *
  have hB := W.out
  have w1 : Aside0 (wrap64 (B + (d : Int)) = (D : Int) + 1) := ⟨by rw [w64 (by omega) (by omega)]; omega⟩
  have w2 : Aside0 (wrap64 ((D : Int) + 1 - 1) = (D : Int)) := ⟨by rw [w64 (by omega) (by omega)]; omega⟩
  have w3 : Aside0 (wrap64 (86400 * (D : Int)) = 86400 * (D : Int)) := ⟨w64 (by omega) (by omega)⟩
  have w4 : Aside0 (wrap64 (3600 * (h : Int)) = 3600 * (h : Int)) := ⟨w64 (by omega) (by omega)⟩
  have w5 : Aside0 (wrap64 (60 * (m : Int)) = 60 * (m : Int)) := ⟨w64 (by omega) (by omega)⟩
  have w6 : Aside0 (wrap64 (3600 * (h : Int) + 60 * (m : Int)) = 3600 * (h : Int) + 60 * (m : Int)) := ⟨w64 (by omega) (by omega)⟩
  have w7 : Aside0 (wrap64 (3600 * (h : Int) + 60 * (m : Int) + (s : Int)) = 3600 * (h : Int) + 60 * (m : Int) + (s : Int)) := ⟨w64 (by omega) (by omega)⟩
  have w8 : Aside0 (wrap64 (86400 * (D : Int) + (3600 * (h : Int) + 60 * (m : Int) + (s : Int))) = 86400 * (D : Int) + (3600 * (h : Int) + 60 * (m : Int) + (s : Int))) := ⟨w64 (by omega) (by omega)⟩
  have w9 : Aside0 (wrap64 (86400 * (D : Int) + (3600 * (h : Int) + 60 * (m : Int) + (s : Int)) - z) = 86400 * (D : Int) + (3600 * (h : Int) + 60 * (m : Int) + (s : Int)) - z) := ⟨w64 (by omega) (by omega)⟩
  rw [w1.out, w2.out, w3.out, w4.out, w5.out, w6.out, w7.out, w8.out, w9.out]
def bytesS (i d b y h m s : Nat) : List UInt8 := [wd0 i, wd1 i, wd2 i, 44, 32, dg (d / 10), dg (d % 10), 32, mo0 b, mo1 b, mo2 b, 32, dg (y / 1000), dg (y / 100 % 10), dg (y / 10 % 10), dg (y % 10), 32, dg (h / 10), dg (h % 10), 58, dg (m / 10), dg (m % 10), 58, dg (s / 10), dg (s % 10), 32, 71, 77, 84]
def maskS : List Bool := [false, false, false, false, true, false, false, true, false, false, false, true, false, false, false, false, true, false, false, false, false, false, false, false, false, true, false, false, false]
theorem get_stamp (i d b a h m s : Nat) (hi : i < 7) (hd1 : 1 ≤ d) (hd : d < 100) (hb : b < 12) (ha : a < 230) (hh : h < 24) (hm : m < 60) (hs : s < 60) (hdd : (d : Int) ≤ stamp_Days.days ((1970 + a : Nat) : Int) ((1 + b : Nat) : Int))
    (D : Nat) (hD : yrs a + mon ((1970 + a : Nat) : Int) b + (d : Int) - 1 = (D : Int)) (hD2 : D < 1000000) (k : Nat) (hk : 402 ≤ k) :
    stamp_Get.f k (stampS i d b (1970 + a) h m s) = some (86400 * (D : Int) + (3600 * (h : Int) + 60 * (m : Int) + (s : Int)), 0) := by
  have G := get_core d b a h m s hd1 hd hb ha hh hm hs hdd ⟨#[71, 77, 84]⟩ 0 (by decide) gmt_up D hD hD2
  clear hD hdd
  obtain ⟨k, rfl⟩ : ∃ j, k = j + 1 := ⟨k - 1, by omega⟩
  have G := G k (by omega)
  have W := wd_up i hi (k + 1) (by omega)
  have hw := wd_ok i hi
  have hmo := mo_ok b hb
  simp only [Bool.and_eq_true] at hw hmo
  have x1 := dg2 d hd
  have x2 := dg2 h (by omega)
  have x3 := dg2 m (by omega)
  have x4 := dg2 s (by omega)
  have y1 := dg_ok ((1970 + a) / 1000) (by omega)
  have y2 := dg_ok ((1970 + a) / 100 % 10) (by omega)
  have y3 := dg_ok ((1970 + a) / 10 % 10) (by omega)
  have y4 := dg_ok ((1970 + a) % 10) (by omega)
  have F : stamp_fields.f (stampS i d b (1970 + a) h m s) = some [⟨#[wd0 i, wd1 i, wd2 i, 44]⟩, two d, ⟨#[mo0 b, mo1 b, mo2 b]⟩, four (1970 + a), clockS h m s, ⟨#[71, 77, 84]⟩] := by
    refine fields_eq (bytesS i d b (1970 + a) h m s) maskS ?_ _ ?_ (Nat.le_of_ble_eq_true rfl) (Nat.le_of_ble_eq_true rfl)
    · simp only [bytesS, maskS, chks, chk, okB_okF hw.1.1, okB_okF hw.1.2, okB_okF hw.2, okB_okF hmo.1.1, okB_okF hmo.1.2, okB_okF hmo.2, okB_okF x1.1, okB_okF x1.2, okB_okF x2.1, okB_okF x2.2, okB_okF x3.1, okB_okF x3.2, okB_okF x4.1, okB_okF x4.2, okB_okF y1, okB_okF y2, okB_okF y3, okB_okF y4]
      rfl
    · rfl
  have C := wd_cut i hi
  rw [stamp_Get.f, F, Option.bind_some, if_pos (by simp), if_pos (by simp)]
  refine (show Option.bind (strings_CutSuffix.f ⟨#[wd0 i, wd1 i, wd2 i, 44]⟩ ⟨#[44]⟩) _ = _ from ?_)
  rw [C, Option.bind_some, if_pos rfl]
  refine (show Option.bind (stamp_index.f (k + 1) wdN ⟨#[wd0 i, wd1 i, wd2 i]⟩) _ = _ from ?_)
  rw [W, Option.bind_some, show decide ((i : Int) < 0) = false from decide_eq_false (by omega), stamp_Get.j0, if_neg (by decide), if_pos (by simp)]
  refine (show stamp_Get.j1 k [two d, ⟨#[mo0 b, mo1 b, mo2 b]⟩, four (1970 + a), clockS h m s, ⟨#[71, 77, 84]⟩] = _ from ?_)
  rw [G, Int.sub_zero]
def bytesZ (d b y h m s mz : Nat) : List UInt8 := [dg (d / 10), dg (d % 10), 32, mo0 b, mo1 b, mo2 b, 32, dg (y / 1000), dg (y / 100 % 10), dg (y / 10 % 10), dg (y % 10), 32, dg (h / 10), dg (h % 10), 58, dg (m / 10), dg (m % 10), 58, dg (s / 10), dg (s % 10), 32, 43, dg (mz / 60 / 10), dg (mz / 60 % 10), dg (mz % 60 / 10), dg (mz % 60 % 10)]
def maskZ : List Bool := [false, false, true, false, false, false, true, false, false, false, false, true, false, false, false, false, false, false, false, false, true, false, false, false, false, false]
theorem ext_eq (c0 c1 c2 c3 c4 c5 c6 c7 c8 c9 c10 c11 c12 c13 c14 c15 c16 c17 c18 c19 c20 c21 c22 c23 c24 c25 c26 c27 c28 : UInt8) :
    (⟨#[c0, c1, c2, c3, c4, c5, c6, c7, c8, c9, c10, c11, c12, c13, c14, c15, c16, c17, c18, c19, c20, c21, c22, c23, c24, c25, c26, c27, c28]⟩ : ByteArray).extract 5 26 = ⟨#[c5, c6, c7, c8, c9, c10, c11, c12, c13, c14, c15, c16, c17, c18, c19, c20, c21, c22, c23, c24, c25]⟩ := by
  apply ByteArray.ext
  rw [ByteArray.data_extract]
  apply Array.ext'
  rw [Array.toList_extract]
  rfl
theorem app_eq (c5 c6 c7 c8 c9 c10 c11 c12 c13 c14 c15 c16 c17 c18 c19 c20 c21 c22 c23 c24 c25 z0 z1 z2 z3 z4 : UInt8) :
    (⟨#[c5, c6, c7, c8, c9, c10, c11, c12, c13, c14, c15, c16, c17, c18, c19, c20, c21, c22, c23, c24, c25]⟩ : ByteArray) ++ (⟨#[z0, z1, z2, z3, z4]⟩ : ByteArray) = ⟨[c5, c6, c7, c8, c9, c10, c11, c12, c13, c14, c15, c16, c17, c18, c19, c20, c21, c22, c23, c24, c25, z0, z1, z2, z3, z4].toArray⟩ := rfl
theorem get_zone (i d b a h m s mz : Nat) (hz : mz < 1440) (hd1 : 1 ≤ d) (hd : d < 100) (hb : b < 12) (ha : a < 230) (hh : h < 24) (hm : m < 60) (hs : s < 60) (hdd : (d : Int) ≤ stamp_Days.days ((1970 + a : Nat) : Int) ((1 + b : Nat) : Int))
    (D : Nat) (hD : yrs a + mon ((1970 + a : Nat) : Int) b + (d : Int) - 1 = (D : Int)) (hD2 : D < 1000000) (k : Nat) (hk : 402 ≤ k) :
    stamp_Get.f k ((stampS i d b (1970 + a) h m s).extract 5 26 ++ zoneS mz) = some (86400 * (D : Int) + (3600 * (h : Int) + 60 * (m : Int) + (s : Int)) - ((60 * mz : Nat) : Int), 0) := by
  have G := get_core d b a h m s hd1 hd hb ha hh hm hs hdd (zoneS mz) ((60 * mz : Nat) : Int) (by omega) (zone_up mz hz) D hD hD2 k (by omega)
  clear hD hdd
  have hmo := mo_ok b hb
  simp only [Bool.and_eq_true] at hmo
  have x1 := dg2 d hd
  have x2 := dg2 h (by omega)
  have x3 := dg2 m (by omega)
  have x4 := dg2 s (by omega)
  have x5 := dg2 (mz / 60) (by omega)
  have x6 := dg2 (mz % 60) (by omega)
  have y1 := dg_ok ((1970 + a) / 1000) (by omega)
  have y2 := dg_ok ((1970 + a) / 100 % 10) (by omega)
  have y3 := dg_ok ((1970 + a) / 10 % 10) (by omega)
  have y4 := dg_ok ((1970 + a) % 10) (by omega)
  have e : (stampS i d b (1970 + a) h m s).extract 5 26 ++ zoneS mz = ⟨(bytesZ d b (1970 + a) h m s mz).toArray⟩ := by
    unfold stampS zoneS bytesZ
    rw [ext_eq, app_eq]
  have F : stamp_fields.f ⟨(bytesZ d b (1970 + a) h m s mz).toArray⟩ = some [two d, ⟨#[mo0 b, mo1 b, mo2 b]⟩, four (1970 + a), clockS h m s, zoneS mz] := by
    refine fields_eq (bytesZ d b (1970 + a) h m s mz) maskZ ?_ _ ?_ (Nat.le_of_ble_eq_true rfl) (Nat.le_of_ble_eq_true rfl)
    · simp only [bytesZ, maskZ, chks, chk, okB_okF hmo.1.1, okB_okF hmo.1.2, okB_okF hmo.2, okB_okF x1.1, okB_okF x1.2, okB_okF x2.1, okB_okF x2.2, okB_okF x3.1, okB_okF x3.2, okB_okF x4.1, okB_okF x4.2, okB_okF x5.1, okB_okF x5.2, okB_okF x6.1, okB_okF x6.2, okB_okF y1, okB_okF y2, okB_okF y3, okB_okF y4]
      rfl
    · rfl
  rw [e, stamp_Get.f, F, Option.bind_some, if_neg (by simp), G]
end Go.Proofs.YtghdkpcpgpfgcaaDoor.XSta
