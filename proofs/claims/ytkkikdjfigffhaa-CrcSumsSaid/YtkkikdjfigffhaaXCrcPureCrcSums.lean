/- The register behind any bytes, by the table of steps made once, is the one that goes bit by bit, and the sums are the same, for every register and all bytes. -/
import Derived.Test.YtkkikdjfigffhaaXCrcTellCrcSums
namespace Go.Proofs.Ytkkikdjfigffhaa.XCrc
open Go.RowKit Go.Proofs.YtkkikdjfigffhaaW.PrintWords Go.Proofs.YtkkikdjfigffhaaW.PrintLast Go.Proofs.YtkkikdjfigffhaaW.PrintMore

theorem wrap_small {i : Int} (h0 : 0 ≤ i) (h : i < 1000000) : wrap64 (i + 1) = i + 1 := by
  unfold wrap64; omega
/-! ### the table's law: eight steps of a register are the table at its lowest byte, and the rest -/
theorem step_xor (a b : Nat) : crcStep (a ^^^ b) = crcStep a ^^^ crcStep b := by
  have hd : (a ^^^ b) / 2 = (a / 2) ^^^ (b / 2) := by
    apply Nat.eq_of_testBit_eq
    intro i
    rw [Nat.testBit_xor, ← Nat.testBit_succ, ← Nat.testBit_succ, ← Nat.testBit_succ, Nat.testBit_xor]
  have hm : (a ^^^ b) % 2 = (a % 2 + b % 2) % 2 := by
    have h0 : (a ^^^ b).testBit 0 = (a.testBit 0 ^^ b.testBit 0) := Nat.testBit_xor ..
    simp only [Nat.testBit_zero] at h0
    rcases Nat.mod_two_eq_zero_or_one a with ha | ha <;> rcases Nat.mod_two_eq_zero_or_one b with hb | hb <;> rcases Nat.mod_two_eq_zero_or_one (a ^^^ b) with hab | hab <;> simp_all
  unfold crcStep
  rw [hd, hm]
  rcases Nat.mod_two_eq_zero_or_one a with ha | ha <;> rcases Nat.mod_two_eq_zero_or_one b with hb | hb
  · rw [if_neg (show ¬ (a % 2 + b % 2) % 2 = 1 by omega), if_neg (show ¬ a % 2 = 1 by omega), if_neg (show ¬ b % 2 = 1 by omega)]
  · rw [if_pos (show (a % 2 + b % 2) % 2 = 1 by omega), if_neg (show ¬ a % 2 = 1 by omega), if_pos hb, Nat.xor_assoc]
  · rw [if_pos (show (a % 2 + b % 2) % 2 = 1 by omega), if_pos ha, if_neg (show ¬ b % 2 = 1 by omega), Nat.xor_assoc, Nat.xor_assoc, Nat.xor_comm 3988292384]
  · rw [if_neg (show ¬ (a % 2 + b % 2) % 2 = 1 by omega), if_pos ha, if_pos hb]
    rw [Nat.xor_assoc, ← Nat.xor_assoc 3988292384 (b / 2), Nat.xor_comm 3988292384 (b / 2), Nat.xor_assoc (b / 2), Nat.xor_self, Nat.xor_zero]
theorem steps_xor (n a b : Nat) : crcSteps n (a ^^^ b) = crcSteps n a ^^^ crcSteps n b := by
  induction n with
  | zero => rfl
  | succ n ih => simp only [crcSteps]; rw [ih, step_xor]
theorem steps_shift (n m : Nat) : crcSteps n (m * 2 ^ n) = m := by
  induction n generalizing m with
  | zero => simp [crcSteps]
  | succ n ih =>
    simp only [crcSteps]
    have e : m * 2 ^ (n + 1) = (m * 2) * 2 ^ n := by rw [Nat.pow_succ, Nat.mul_comm (2 ^ n) 2, Nat.mul_assoc]
    rw [e, ih]
    unfold crcStep
    rw [if_neg (by omega)]
    omega
theorem split_xor (v : Nat) : (v % 256) ^^^ (v / 256 * 256) = v := by
  apply Nat.eq_of_testBit_eq
  intro i
  rw [Nat.testBit_xor, show v % 256 = v % 2 ^ 8 from rfl, Nat.testBit_mod_two_pow, show v / 256 * 256 = (v / 2 ^ 8) * 2 ^ 8 from rfl, Nat.testBit_mul_two_pow, Nat.testBit_div_two_pow]
  by_cases h : i < 8
  · simp [h, show ¬ 8 ≤ i by omega]
  · simp [h, show 8 ≤ i by omega, show i - 8 + 8 = i by omega]
theorem byte_law (c x : Nat) (hx : x < 256) : crcByte c x = crcSteps 8 (c ^^^ x) := by
  have h1 : (c ^^^ x) % 256 = (c % 256) ^^^ x := by
    apply Nat.eq_of_testBit_eq
    intro i
    rw [show (c ^^^ x) % 256 = (c ^^^ x) % 2 ^ 8 from rfl, Nat.testBit_mod_two_pow, Nat.testBit_xor, Nat.testBit_xor, show c % 256 = c % 2 ^ 8 from rfl, Nat.testBit_mod_two_pow]
    by_cases h : i < 8
    · simp [h]
    · have : x.testBit i = false := Nat.testBit_lt_two_pow (Nat.lt_of_lt_of_le (show x < 2 ^ 8 from hx) (Nat.pow_le_pow_right (by decide) (by omega)))
      simp [h, this]
  have h2 : (c ^^^ x) / 256 = c / 256 := by
    apply Nat.eq_of_testBit_eq
    intro i
    rw [show (c ^^^ x) / 256 = (c ^^^ x) / 2 ^ 8 from rfl, show c / 256 = c / 2 ^ 8 from rfl, Nat.testBit_div_two_pow, Nat.testBit_div_two_pow, Nat.testBit_xor]
    have : x.testBit (i + 8) = false := Nat.testBit_lt_two_pow (Nat.lt_of_lt_of_le (show x < 2 ^ 8 from hx) (Nat.pow_le_pow_right (by decide) (by omega)))
    simp [this]
  have h3 := split_xor (c ^^^ x)
  rw [h1, h2] at h3
  rw [← h3, steps_xor, show c / 256 * 256 = c / 256 * 2 ^ 8 from rfl, steps_shift]
  rfl
/-! ### the reference's rounds -/
theorem steps_succ (n c : Nat) : crcSteps (n + 1) c = crcSteps n (crcStep c) := by
  induction n with
  | zero => rfl
  | succ n ih => simp only [crcSteps] at ih ⊢; rw [ih]
theorem ref_step (c : Nat) (h : c < 4294967296) : (if Int.tmod (c : Int) 2 = 1 then Go.bits .xor .u32 ((Int.tdiv (c : Int) 2) % 4294967296) 3988292384 else (Int.tdiv (c : Int) 2) % 4294967296) = ((crcStep c : Nat) : Int) := by
  have e1 : Int.tmod (c : Int) 2 = (c : Int) % 2 := Int.tmod_eq_emod_of_nonneg (by omega)
  have e2 : (Int.tdiv (c : Int) 2) % 4294967296 = (c : Int) / 2 := by rw [Int.tdiv_eq_ediv_of_nonneg (by omega)]; omega
  rw [e1, e2]
  by_cases ho : c % 2 = 1
  · rw [if_pos (by omega), crcStep_odd c h ho]
  · rw [if_neg (by omega), crcStep_even c (by omega)]
theorem inner (l : List Int) (i : Int) (r : Option Int) (K : Nat) (d : Nat) : ∀ (k c : Nat) (n : Int), n = 8 - d → c < 4294967296 → d ≤ 8 → (∀ k', K ≤ k' → newsreelref05_More.l0 k' ((crcSteps d c : Nat) : Int) l (wrap64 (i + 1)) = r) → K + d < k → newsreelref05_More.l1 k (c : Int) l i n = r := by
  induction d with
  | zero =>
    intro k c n hn hc hd hr hk
    obtain ⟨k, rfl⟩ : ∃ m, k = m + 1 := ⟨k - 1, by omega⟩
    simp only [newsreelref05_More.l1]
    rw [if_neg (by omega)]
    exact hr k (by omega)
  | succ d ih =>
    intro k c n hn hc hd hr hk
    obtain ⟨k, rfl⟩ : ∃ m, k = m + 1 := ⟨k - 1, by omega⟩
    have hs := ref_step c hc
    simp only [newsreelref05_More.l1]
    rw [if_pos (by omega), wrap_small (by omega) (by omega)]
    have hi := ih k (crcStep c) (n + 1) (by omega) (crcStep_lt hc) (by omega) (by rw [← steps_succ]; exact hr) (by omega)
    by_cases ho : Int.tmod (c : Int) 2 = 1
    · rw [if_pos ho] at hs ⊢
      rw [hs]; exact hi
    · rw [if_neg ho] at hs ⊢
      rw [hs]; exact hi
theorem outer (l : List Int) (hl : l.length ≤ 500) (hb : ∀ x ∈ l, 0 ≤ x ∧ x < 256) (d : Nat) : ∀ (k c i : Nat), i + d = l.length → c < 4294967296 → 10 * d < k → newsreelref05_More.l0 k (c : Int) l (i : Int) = some ((crcMore c (l.drop i) : Nat) : Int) := by
  induction d with
  | zero =>
    intro k c i hi hc hk
    obtain ⟨k, rfl⟩ : ∃ m, k = m + 1 := ⟨k - 1, by omega⟩
    simp only [newsreelref05_More.l0]
    rw [if_neg (by omega), List.drop_of_length_le (by omega)]
    rfl
  | succ d ih =>
    intro k c i hi hc hk
    obtain ⟨k, rfl⟩ : ∃ m, k = m + 1 := ⟨k - 1, by omega⟩
    have hlt : i < l.length := by omega
    have hrd : rd l (i : Int) = l[i] := by
      unfold rd
      rw [Int.toNat_natCast, List.getD_eq_getElem?_getD, List.getElem?_eq_getElem hlt]
      rfl
    have hx := hb l[i] (List.getElem_mem hlt)
    have hdrop : l.drop i = l[i] :: l.drop (i + 1) := List.drop_eq_getElem_cons hlt
    simp only [newsreelref05_More.l0]
    rw [if_pos (by omega), if_pos (by omega), hrd, hdrop]
    generalize l[i] = x at hx
    obtain ⟨n, rfl⟩ := Int.eq_ofNat_of_zero_le hx.1
    have hn : n < 256 := by omega
    have e : Go.bits .xor .u32 (c : Int) ((n : Int) % 4294967296) = ((c ^^^ n : Nat) : Int) := by
      rw [show (n : Int) % 4294967296 = (n : Int) by omega]
      exact u32_xor c n hc (by omega)
    rw [e]
    have hcn : c ^^^ n < 4294967296 := Nat.xor_lt_two_pow (n := 32) hc (by omega)
    refine inner l (i : Int) _ (10 * d + 1) 8 k (c ^^^ n) 0 (by omega) hcn (by omega) (fun k' hk' => ?_) (by omega)
    have e2 : wrap64 ((i : Int) + 1) = ((i + 1 : Nat) : Int) := by rw [wrap_small (by omega) (by omega)]; rfl
    rw [e2, ih k' _ (i + 1) (by omega) (crcSteps_lt 8 hcn) (by omega)]
    show _ = some ((crcMore (crcByte c (n : Int).toNat) (l.drop (i + 1)) : Nat) : Int)
    rw [Int.toNat_natCast, byte_law c n hn]
theorem ref_more (l : List Int) (hl : l.length ≤ 500) (hb : ∀ x ∈ l, 0 ≤ x ∧ x < 256) (c : Nat) (hc : c < 4294967296) (k : Nat) (hk : 5000 < k) : newsreelref05_More.f k (c : Int) l = some ((crcMore c l : Nat) : Int) := by
  unfold newsreelref05_More.f
  exact outer l hl hb l.length k c 0 (by omega) hc (by omega)
theorem more_f (l : List Int) (hb : ∀ x ∈ l, 0 ≤ x ∧ x < 256) (c : Nat) (hc : c < 4294967296) : crc_More.f (c : Int) l = some ((crcMore c l : Nat) : Int) := by
  unfold crc_More.f
  rw [if_pos, Int.toNat_natCast]
  unfold crcOk
  simp only [Bool.and_eq_true, decide_eq_true_eq, List.all_eq_true]
  exact ⟨⟨by omega, by omega⟩, hb⟩
theorem CrcSums_pure : newsreellaw05_CrcSums.Pure := by
  intro y0 y1 h0 h1
  have b0 := bounds_u32 h0
  have hb : ∀ x ∈ y1, 0 ≤ x ∧ x < 256 := fun x hx => by have := bounds_u8 (h1.2 x hx); omega
  obtain ⟨c, rfl⟩ := Int.eq_ofNat_of_zero_le b0.1
  refine ⟨6000, ?_⟩
  unfold newsreellaw05_CrcSums.f
  by_cases hl : (y1.length : Int) > 500
  · rw [if_pos hl]; rfl
  · rw [if_neg hl, more_f y1 hb c (by omega), ref_more y1 (by omega) hb c (by omega) 6000 (by omega)]
    simp only [Option.bind_some, if_true]
    unfold crc_Sum.f newsreelref05_Sum.f
    have hm := crcMore_lt y1 4294967295 (by decide) hb
    have e1 : crc_More.f 4294967295 y1 = some ((crcMore 4294967295 y1 : Nat) : Int) := more_f y1 hb 4294967295 (by decide)
    have e2 : newsreelref05_More.f 6000 4294967295 y1 = some ((crcMore 4294967295 y1 : Nat) : Int) := ref_more y1 (by omega) hb 4294967295 (by decide) 6000 (by omega)
    rw [e1, e2]
    simp only [Option.bind_some]
    rw [if_pos (by omega)]
    rfl

end Go.Proofs.Ytkkikdjfigffhaa.XCrc
