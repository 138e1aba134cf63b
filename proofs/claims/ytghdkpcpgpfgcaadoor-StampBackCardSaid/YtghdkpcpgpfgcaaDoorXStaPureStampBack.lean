/- WHAT IS PROVED: what stamp.Put writes stamp.Get reads; a day later the stamp is another day's; a zone ahead in the place of GMT tells so much less; for every time of 32 bits and every zone of 16 bits. -/
import Derived.Test.YtghdkpcpgpfgcaaDoorXStaBase5
namespace Go.Proofs.YtghdkpcpgpfgcaaDoor.XSta
open Go.RowKit Go.Proofs.YtghdkpcpgpfgcaaDoorW.PrintWords Go.Proofs.YtghdkpcpgpfgcaaDoorW.PrintLast Go.Proofs.YtghdkpcpgpfgcaaDoorW.PrintMore
theorem awake_at : newsreellaw17_awake.f 1000 = some true := by kernel_rfl
theorem awake_up : ∀ k, 1000 ≤ k → newsreellaw17_awake.f k = some true := up (fun k => newsreellaw17_awake.mono k) awake_at
theorem zone_bytes : ∀ m : Nat, m < 1440 → strOfNums [43, (wrap64 (48 + (wrap64 (Int.tdiv (wrap64 (Int.tdiv (wrap64 (m : Int)) 60)) 10)))) % 256, (wrap64 (48 + (Int.tmod (wrap64 (Int.tdiv (wrap64 (m : Int)) 60)) 10))) % 256, (wrap64 (48 + (wrap64 (Int.tdiv (Int.tmod (wrap64 (m : Int)) 60) 10)))) % 256, (wrap64 (48 + (Int.tmod (Int.tmod (wrap64 (m : Int)) 60) 10))) % 256] = zoneS m := by decide +kernel
theorem ext_lo (c0 c1 c2 c3 c4 c5 c6 c7 c8 c9 c10 c11 c12 c13 c14 c15 c16 c17 c18 c19 c20 c21 c22 c23 c24 c25 c26 c27 c28 : UInt8) :
    ((⟨#[c0, c1, c2, c3, c4, c5, c6, c7, c8, c9, c10, c11, c12, c13, c14, c15, c16, c17, c18, c19, c20, c21, c22, c23, c24, c25, c26, c27, c28]⟩ : ByteArray).extract 0 16).toList = [c0, c1, c2, c3, c4, c5, c6, c7, c8, c9, c10, c11, c12, c13, c14, c15] := by
  rw [ByteArray.toList_eq, ByteArray.data_extract, Array.toList_extract]
  rfl
theorem ext_hi (c0 c1 c2 c3 c4 c5 c6 c7 c8 c9 c10 c11 c12 c13 c14 c15 c16 c17 c18 c19 c20 c21 c22 c23 c24 c25 c26 c27 c28 : UInt8) :
    ((⟨#[c0, c1, c2, c3, c4, c5, c6, c7, c8, c9, c10, c11, c12, c13, c14, c15, c16, c17, c18, c19, c20, c21, c22, c23, c24, c25, c26, c27, c28]⟩ : ByteArray).extract 16 29).toList = [c16, c17, c18, c19, c20, c21, c22, c23, c24, c25, c26, c27, c28] := by
  rw [ByteArray.toList_eq, ByteArray.data_extract, Array.toList_extract]
  rfl
theorem size_z (m : Nat) : (zoneS m).size = 5 := rfl
theorem size_s (i d b y h m s : Nat) : (stampS i d b y h m s).size = 29 := rfl
theorem size_x (i d b y h m s : Nat) : ((stampS i d b y h m s).extract 5 26).size = 21 := by rw [ByteArray.size_extract, size_s]; rfl
theorem day_differs (i d b y h m s d2 b2 y2 i2 : Nat) (hi : i < 7) (h2 : i2 = (i + 1) % 7) : ¬ ((stampS i d b y h m s).extract 0 16).toList = ((stampS i2 d2 b2 y2 h m s).extract 0 16).toList := by
  unfold stampS
  rw [ext_lo, ext_lo]
  intro e
  simp only [List.cons.injEq] at e
  obtain ⟨e0, e1, e2, _⟩ := e
  subst h2
  exact wd_next i hi ⟨e0, e1, e2⟩
theorem rest_same (i d b y h m s d2 b2 y2 i2 : Nat) : ((stampS i d b y h m s).extract 16 29).toList = ((stampS i2 d2 b2 y2 h m s).extract 16 29).toList := by
  unfold stampS
  rw [ext_hi, ext_hi]
theorem sum_up (n : Nat) : 86400 * ((n / 86400 : Nat) : Int) + (3600 * ((n % 86400 / 3600 : Nat) : Int) + 60 * ((n % 86400 / 60 % 60 : Nat) : Int) + ((n % 86400 % 60 : Nat) : Int)) = (n : Int) := by omega
theorem StampBack_pure : newsreellaw17_StampBack.Pure := by
  intro y0 y1 h0 h1
  obtain ⟨n, rfl, hn⟩ : ∃ n : Nat, y0 = (n : Int) ∧ n < 4294967296 := by
    obtain ⟨g1, g2⟩ := Bool.and_eq_true_iff.1 (show (decide ((0 : Int) ≤ y0) && decide (y0 ≤ 4294967295)) = true from h0)
    have g1 := of_decide_eq_true g1
    have g2 := of_decide_eq_true g2
    exact ⟨y0.toNat, by omega, by omega⟩
  obtain ⟨mm, rfl, hmm⟩ : ∃ n : Nat, y1 = (n : Int) ∧ n < 65536 := by
    obtain ⟨g1, g2⟩ := Bool.and_eq_true_iff.1 (show (decide ((0 : Int) ≤ y1) && decide (y1 ≤ 65535)) = true from h1)
    have g1 := of_decide_eq_true g1
    have g2 := of_decide_eq_true g2
    exact ⟨y1.toNat, by omega, by omega⟩
  clear h0 h1
  obtain ⟨a, b, d, q1, q2, q3, q4, q5, q6⟩ := put_eq n (by omega)
  obtain ⟨a2, b2, d2, _, _, _, _, _, p6⟩ := put_eq (n + 86400) (by omega)
  have hdb := days_bd a q1 b q2
  have hd : d < 100 := by
    have := Int.le_trans q4 hdb.2
    clear q4 q5 hdb q6 p6
    omega
  have G := get_stamp (n / 86400 % 7) d b a (n % 86400 / 3600) (n % 86400 / 60 % 60) (n % 86400 % 60) (by clear q4 q5 hdb; omega) q3 hd q2 q1 (by clear q4 q5 hdb; omega) (by clear q4 q5 hdb; omega) (by clear q4 q5 hdb; omega) q4 (n / 86400) q5 (by clear q4 q5 hdb; omega) 5002 (by decide)
  have Z := get_zone (n / 86400 % 7) d b a (n % 86400 / 3600) (n % 86400 / 60 % 60) (n % 86400 % 60) (mm % 1440) (by clear q4 q5 hdb; omega) q3 hd q2 q1 (by clear q4 q5 hdb; omega) (by clear q4 q5 hdb; omega) (by clear q4 q5 hdb; omega) q4 (n / 86400) q5 (by clear q4 q5 hdb; omega) 5000 (by decide)
  clear q4 q5 hdb
  have P := q6 5002 (by decide)
  have Q := p6 5002 (by decide)
  rw [sum_up] at G Z
  have t1 : (n + 86400) / 86400 = n / 86400 + 1 := by omega
  have t2 : (n + 86400) % 86400 = n % 86400 := by omega
  rw [t1, t2] at Q
  have w0 : wrap64 (n : Int) = (n : Int) := w64 (by omega) (by omega)
  have w1 : Aside0 (wrap64 ((n : Int) + 86400) = ((n + 86400 : Nat) : Int)) := ⟨by clear w0; rw [w64 (by omega) (by omega)]; omega⟩
  have w2 : Int.tmod (mm : Int) 1440 = ((mm % 1440 : Nat) : Int) := rfl
  have hz := zone_bytes (mm % 1440) (Nat.mod_lt _ (by decide))
  have w3 : Aside0 (wrap64 ((n : Int) - wrap64 (60 * wrap64 ((mm % 1440 : Nat) : Int))) = (n : Int) - ((60 * (mm % 1440) : Nat) : Int)) := ⟨by
    clear w0 w1 w2 hz
    have hq : mm % 1440 < 1440 := Nat.mod_lt _ (by decide)
    generalize mm % 1440 = q at *
    rw [w64 (n := (q : Int)) (by omega) (by omega), w64 (n := 60 * (q : Int)) (by omega) (by omega), w64 (by omega) (by omega)]
    omega⟩
  have hdd := day_differs (n / 86400 % 7) d b (1970 + a) (n % 86400 / 3600) (n % 86400 / 60 % 60) (n % 86400 % 60) d2 b2 (1970 + a2) ((n / 86400 + 1) % 7) (by clear w0 w2; omega) (by clear w0 w2; omega)
  have hrs := rest_same (n / 86400 % 7) d b (1970 + a) (n % 86400 / 3600) (n % 86400 / 60 % 60) (n % 86400 % 60) d2 b2 (1970 + a2) ((n / 86400 + 1) % 7)
  refine ⟨5002, ?_⟩
  rw [newsreellaw17_StampBack.f, w0, P, Option.bind_some, G, Option.bind_some, w1.out, Q, Option.bind_some, if_pos rfl, if_pos rfl, if_pos rfl, if_pos rfl]
  dsimp only
  rw [size_s, size_s, if_pos (by decide)]
  rw [newsreellaw17_StampBack.j0, if_neg (by decide), if_pos (by decide), if_pos (by rw [size_s]; decide), if_pos (by rw [size_s]; decide), if_neg hdd]
  rw [size_s, size_s, hrs, bne_self_eq_false, newsreellaw17_StampBack.j1, if_neg (by decide), Option.bind_some, if_pos (by decide), if_pos (by rw [size_s]; decide), w2, hz, if_pos (by rw [size_x, size_z]; decide), Z, Option.bind_some, if_pos rfl, w0, w3.out, if_pos rfl, awake_up 5000 (by decide)]
  rfl
end Go.Proofs.YtghdkpcpgpfgcaaDoor.XSta
