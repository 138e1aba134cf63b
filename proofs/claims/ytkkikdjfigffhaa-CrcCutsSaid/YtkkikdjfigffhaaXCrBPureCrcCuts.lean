/- The register behind bytes is the same however they are cut, and where one bit is turned the sum is another one: for every register, all bytes and every bit. -/
import Derived.Test.YtkkikdjfigffhaaXCrBTellCrcCuts
namespace Go.Proofs.Ytkkikdjfigffhaa.XCrB
open Go.RowKit Go.Proofs.YtkkikdjfigffhaaW.PrintWords Go.Proofs.YtkkikdjfigffhaaW.PrintLast Go.Proofs.YtkkikdjfigffhaaW.PrintMore

theorem wrap_in {i : Int} (h0 : 0 ≤ i) (h : i < 1000000) : wrap64 i = i := by
  unfold wrap64; omega
theorem xor_cancel {a b c : Nat} (h : a ^^^ c = b ^^^ c) : a = b := by
  have h1 : (a ^^^ c) ^^^ c = (b ^^^ c) ^^^ c := by rw [h]
  rwa [Nat.xor_assoc, Nat.xor_self, Nat.xor_zero, Nat.xor_assoc, Nat.xor_self, Nat.xor_zero] at h1
theorem high (a : Nat) (h : a < 2147483648) : 2147483648 ≤ a ^^^ 3988292384 := by
  have h1 : (a ^^^ 3988292384).testBit 31 = true := by
    rw [Nat.testBit_xor, Nat.testBit_lt_two_pow (show a < 2 ^ 31 from h)]
    decide
  exact Nat.ge_two_pow_of_testBit h1
theorem step_inj {c d : Nat} (hc : c < 4294967296) (hd : d < 4294967296) (h : crcStep c = crcStep d) : c = d := by
  unfold crcStep at h
  have hc2 := high (c / 2) (by omega)
  have hd2 := high (d / 2) (by omega)
  by_cases pc : c % 2 = 1 <;> by_cases pd : d % 2 = 1
  · rw [if_pos pc, if_pos pd] at h
    have := xor_cancel h
    omega
  · rw [if_pos pc, if_neg pd] at h; omega
  · rw [if_neg pc, if_pos pd] at h; omega
  · rw [if_neg pc, if_neg pd] at h; omega
theorem steps_inj (n : Nat) {c d : Nat} (hc : c < 4294967296) (hd : d < 4294967296) (h : crcSteps n c = crcSteps n d) : c = d := by
  induction n with
  | zero => exact h
  | succ n ih => exact ih (step_inj (crcSteps_lt n hc) (crcSteps_lt n hd) h)
theorem step_xor (a b : Nat) : crcStep (a ^^^ b) = crcStep a ^^^ crcStep b := by
  have hd : (a ^^^ b) / 2 = (a / 2) ^^^ (b / 2) := by
    apply Nat.eq_of_testBit_eq
    intro i
    rw [Nat.testBit_xor, ← Nat.testBit_succ, ← Nat.testBit_succ, ← Nat.testBit_succ, Nat.testBit_xor]
  have hm : (a ^^^ b) % 2 = (a % 2 + b % 2) % 2 := by
    have h0 : (a ^^^ b).testBit 0 = (a.testBit 0 ^^ b.testBit 0) := Nat.testBit_xor ..
    simp only [Nat.testBit_zero] at h0
    rcases Nat.mod_two_eq_zero_or_one a with ha | ha <;> rcases Nat.mod_two_eq_zero_or_one b with hb | hb <;> rcases Nat.mod_two_eq_zero_or_one (a ^^^ b) with hab | hab <;> simp_all
  unfold crcStep
  rw [hd, hm]
  rcases Nat.mod_two_eq_zero_or_one a with ha | ha <;> rcases Nat.mod_two_eq_zero_or_one b with hb | hb
  · rw [if_neg (show ¬ (a % 2 + b % 2) % 2 = 1 by omega), if_neg (show ¬ a % 2 = 1 by omega), if_neg (show ¬ b % 2 = 1 by omega)]
  · rw [if_pos (show (a % 2 + b % 2) % 2 = 1 by omega), if_neg (show ¬ a % 2 = 1 by omega), if_pos hb, Nat.xor_assoc]
  · rw [if_pos (show (a % 2 + b % 2) % 2 = 1 by omega), if_pos ha, if_neg (show ¬ b % 2 = 1 by omega), Nat.xor_assoc, Nat.xor_assoc, Nat.xor_comm 3988292384]
  · rw [if_neg (show ¬ (a % 2 + b % 2) % 2 = 1 by omega), if_pos ha, if_pos hb]
    rw [Nat.xor_assoc, ← Nat.xor_assoc 3988292384 (b / 2), Nat.xor_comm 3988292384 (b / 2), Nat.xor_assoc (b / 2), Nat.xor_self, Nat.xor_zero]
theorem steps_xor (n a b : Nat) : crcSteps n (a ^^^ b) = crcSteps n a ^^^ crcSteps n b := by
  induction n with
  | zero => rfl
  | succ n ih => simp only [crcSteps]; rw [ih, step_xor]
theorem steps_shift (n m : Nat) : crcSteps n (m * 2 ^ n) = m := by
  induction n generalizing m with
  | zero => simp [crcSteps]
  | succ n ih =>
    simp only [crcSteps]
    have e : m * 2 ^ (n + 1) = (m * 2) * 2 ^ n := by rw [Nat.pow_succ, Nat.mul_comm (2 ^ n) 2, Nat.mul_assoc]
    rw [e, ih]
    unfold crcStep
    rw [if_neg (by omega)]
    omega
theorem split_xor (v : Nat) : (v % 256) ^^^ (v / 256 * 256) = v := by
  apply Nat.eq_of_testBit_eq
  intro i
  rw [Nat.testBit_xor, show v % 256 = v % 2 ^ 8 from rfl, Nat.testBit_mod_two_pow, show v / 256 * 256 = (v / 2 ^ 8) * 2 ^ 8 from rfl, Nat.testBit_mul_two_pow, Nat.testBit_div_two_pow]
  by_cases h : i < 8
  · simp [h, show ¬ 8 ≤ i by omega]
  · simp [h, show 8 ≤ i by omega, show i - 8 + 8 = i by omega]
theorem byte_law (c x : Nat) (hx : x < 256) : crcByte c x = crcSteps 8 (c ^^^ x) := by
  have h1 : (c ^^^ x) % 256 = (c % 256) ^^^ x := by
    apply Nat.eq_of_testBit_eq
    intro i
    rw [show (c ^^^ x) % 256 = (c ^^^ x) % 2 ^ 8 from rfl, Nat.testBit_mod_two_pow, Nat.testBit_xor, Nat.testBit_xor, show c % 256 = c % 2 ^ 8 from rfl, Nat.testBit_mod_two_pow]
    by_cases h : i < 8
    · simp [h]
    · have : x.testBit i = false := Nat.testBit_lt_two_pow (Nat.lt_of_lt_of_le (show x < 2 ^ 8 from hx) (Nat.pow_le_pow_right (by decide) (by omega)))
      simp [h, this]
  have h2 : (c ^^^ x) / 256 = c / 256 := by
    apply Nat.eq_of_testBit_eq
    intro i
    rw [show (c ^^^ x) / 256 = (c ^^^ x) / 2 ^ 8 from rfl, show c / 256 = c / 2 ^ 8 from rfl, Nat.testBit_div_two_pow, Nat.testBit_div_two_pow, Nat.testBit_xor]
    have : x.testBit (i + 8) = false := Nat.testBit_lt_two_pow (Nat.lt_of_lt_of_le (show x < 2 ^ 8 from hx) (Nat.pow_le_pow_right (by decide) (by omega)))
    simp [this]
  have h3 := split_xor (c ^^^ x)
  rw [h1, h2] at h3
  rw [← h3, steps_xor, show c / 256 * 256 = c / 256 * 2 ^ 8 from rfl, steps_shift]
  rfl
theorem more_other (l : List Int) (hl : ∀ x ∈ l, 0 ≤ x ∧ x < 256) : ∀ (c d : Nat), c < 4294967296 → d < 4294967296 → c ≠ d → crcMore c l ≠ crcMore d l := by
  induction l with
  | nil => intro c d _ _ h; exact h
  | cons x l ih =>
    intro c d hc hd h
    have hx := hl x List.mem_cons_self
    have hx2 : x.toNat < 256 := by omega
    refine ih (fun y hy => hl y (List.mem_cons_of_mem _ hy)) _ _ (crcByte_lt hc hx2) (crcByte_lt hd hx2) (fun e => h ?_)
    have e : crcByte c x.toNat = crcByte d x.toNat := e
    rw [byte_law _ _ hx2, byte_law _ _ hx2] at e
    exact xor_cancel (steps_inj 8 (Nat.xor_lt_two_pow (n := 32) hc (by omega)) (Nat.xor_lt_two_pow (n := 32) hd (by omega)) e)
theorem more_bent (l : List Int) (hl : ∀ x ∈ l, 0 ≤ x ∧ x < 256) (c : Nat) (hc : c < 4294967296) : ∀ (i : Nat) (y : Nat) (hi : i < l.length), y < 256 → y ≠ l[i].toNat → crcMore c (l.set i (y : Int)) ≠ crcMore c l := by
  induction l generalizing c with
  | nil => intro i y hi; simp at hi
  | cons x l ih =>
    intro i y hi hy hne
    have hx := hl x List.mem_cons_self
    have hx2 : x.toNat < 256 := by omega
    have hl2 := fun z hz => hl z (List.mem_cons_of_mem x hz)
    cases i with
    | zero =>
      have hne' : y ≠ x.toNat := hne
      show crcMore (crcByte c ((y : Int).toNat)) l ≠ crcMore (crcByte c x.toNat) l
      rw [Int.toNat_natCast]
      refine more_other l hl2 _ _ (crcByte_lt hc hy) (crcByte_lt hc hx2) (fun e => hne' ?_)
      rw [byte_law _ _ hy, byte_law _ _ hx2] at e
      have h2 := steps_inj 8 (Nat.xor_lt_two_pow (n := 32) hc (by omega)) (Nat.xor_lt_two_pow (n := 32) hc (by omega)) e
      rw [Nat.xor_comm c, Nat.xor_comm c] at h2
      exact xor_cancel h2
    | succ i => exact ih hl2 _ (crcByte_lt hc hx2) i y (by simpa using hi) hy hne
theorem more_f (l : List Int) (hb : ∀ x ∈ l, 0 ≤ x ∧ x < 256) (c : Nat) (hc : c < 4294967296) : crc_More.f (c : Int) l = some ((crcMore c l : Nat) : Int) := by
  unfold crc_More.f
  rw [if_pos, Int.toNat_natCast]
  unfold crcOk
  simp only [Bool.and_eq_true, decide_eq_true_eq, List.all_eq_true]
  exact ⟨⟨by omega, by omega⟩, hb⟩
theorem sum_f (l : List Int) (hb : ∀ x ∈ l, 0 ≤ x ∧ x < 256) : crc_Sum.f l = some (4294967295 - ((crcMore 4294967295 l : Nat) : Int)) := by
  unfold crc_Sum.f
  have e1 : crc_More.f 4294967295 l = some ((crcMore 4294967295 l : Nat) : Int) := more_f l hb 4294967295 (by decide)
  rw [e1]
  rfl
theorem j0_true (k : Nat) (a b : Int) (l m : List Int) : newsreellaw05_CrcCuts.j0 (k + 1) a b l m true = some true := by
  simp only [newsreellaw05_CrcCuts.j0]
  rfl
theorem bend_ne (x m : Nat) : x ^^^ 2 ^ m ≠ x := by
  intro h
  have h1 : (x ^^^ 2 ^ m).testBit m = x.testBit m := by rw [h]
  rw [Nat.testBit_xor, Nat.testBit_two_pow_self] at h1
  cases hx : x.testBit m <;> rw [hx] at h1 <;> cases h1
theorem pow_lt {m : Nat} (h : m < 8) : 2 ^ m < 256 := Nat.lt_of_lt_of_le (Nat.pow_lt_pow_right (by decide) h) (by decide)
theorem loop (l : List Int) (hl : l.length ≤ 600) (hb : ∀ x ∈ l, 0 ≤ x ∧ x < 256) (i : Nat) (hi : i / 8 < l.length) (d : Nat) : ∀ (k n : Nat), n + d = i % 8 → d < k → newsreellaw05_CrcCuts.l0 k l l (i : Int) ((2 ^ n : Nat) : Int) (n : Int) = some true := by
  induction d with
  | zero =>
    intro k n hn hk
    obtain ⟨k, rfl⟩ : ∃ m, k = m + 1 := ⟨k - 1, by omega⟩
    have e1 : wrap64 (Int.tdiv (i : Int) 8) = ((i / 8 : Nat) : Int) := by
      rw [Int.tdiv_eq_ediv_of_nonneg (by omega), wrap_in (by omega) (by omega)]; rfl
    have e2 : Int.tmod (i : Int) 8 = ((i % 8 : Nat) : Int) := Int.tmod_eq_emod_of_nonneg (by omega)
    simp only [newsreellaw05_CrcCuts.l0]
    rw [e1, e2, if_neg (by omega), if_pos (by omega), if_pos (by omega), Int.toNat_natCast]
    have hrd : rd l ((i / 8 : Nat) : Int) = l[i / 8] := by
      unfold rd
      rw [Int.toNat_natCast, List.getD_eq_getElem?_getD, List.getElem?_eq_getElem hi]
      rfl
    have hx := hb l[i / 8] (List.getElem_mem hi)
    have hm : n < 8 := by omega
    have hp : 2 ^ n < 256 := pow_lt hm
    have ex : Go.bits .xor .u8 (rd l ((i / 8 : Nat) : Int)) ((2 ^ n : Nat) : Int) = ((l[i / 8].toNat ^^^ 2 ^ n : Nat) : Int) := by
      rw [hrd, ← u8_xor _ _ (by omega) hp, Int.toNat_of_nonneg hx.1]
    rw [ex]
    have hlt := xor_lt8 (show l[i / 8].toNat < 256 by omega) hp
    have hb2 : ∀ x ∈ l.set (i / 8) ((l[i / 8].toNat ^^^ 2 ^ n : Nat) : Int), 0 ≤ x ∧ x < 256 := by
      intro x hx
      rcases List.mem_or_eq_of_mem_set hx with h | h
      · exact hb x h
      · subst h; omega
    rw [sum_f _ hb2, sum_f _ hb]
    simp only [Option.bind_some]
    have hne := more_bent l hb 4294967295 (by decide) (i / 8) _ hi hlt (bend_ne _ n)
    rw [if_neg (by omega)]
    rfl
  | succ d ih =>
    intro k n hn hk
    obtain ⟨k, rfl⟩ : ∃ m, k = m + 1 := ⟨k - 1, by omega⟩
    have e2 : Int.tmod (i : Int) 8 = ((i % 8 : Nat) : Int) := Int.tmod_eq_emod_of_nonneg (by omega)
    simp only [newsreellaw05_CrcCuts.l0]
    rw [e2, if_pos (by omega), wrap_in (by omega) (by omega)]
    have hp : 2 ^ (n + 1) < 256 := pow_lt (by omega)
    have e3 : (2 * ((2 ^ n : Nat) : Int)) % 256 = ((2 ^ (n + 1) : Nat) : Int) := by
      rw [Nat.pow_succ] at hp ⊢
      omega
    rw [e3]
    exact ih k (n + 1) (by omega) (by omega)
theorem CrcCuts_pure : newsreellaw05_CrcCuts.Pure := by
  intro y0 y1 y2 h0 h1 h2
  have b0 := bounds_u32 h0
  have b2 := bounds_u16 h2
  obtain ⟨⟨_, hb0⟩, ⟨_, hb1⟩⟩ := h1
  have hba : ∀ x ∈ y1.f0, 0 ≤ x ∧ x < 256 := fun x hx => by have := bounds_u8 (hb0 x hx); omega
  have hbb : ∀ x ∈ y1.f1, 0 ≤ x ∧ x < 256 := fun x hx => by have := bounds_u8 (hb1 x hx); omega
  obtain ⟨c, rfl⟩ := Int.eq_ofNat_of_zero_le b0.1
  obtain ⟨a, rfl⟩ := Int.eq_ofNat_of_zero_le b2.1
  refine ⟨100, ?_⟩
  unfold newsreellaw05_CrcCuts.f
  by_cases hl : (y1.f0.length : Int) > 300
  · rw [if_pos hl]
    exact j0_true 99 _ _ _ _
  · rw [if_neg hl]
    by_cases hm : (y1.f1.length : Int) > 300
    · rw [decide_eq_true hm]
      exact j0_true 99 _ _ _ _
    · rw [decide_eq_false hm]
      show newsreellaw05_CrcCuts.j0 (99 + 1) _ _ _ _ false = _
      simp only [newsreellaw05_CrcCuts.j0]
      rw [if_neg (by simp)]
      rw [Option.bind_some, if_pos (show ([] : List Int).length + y1.f0.length < 140737488355328 by rw [List.length_nil]; omega), Option.bind_some, List.nil_append, if_pos (show y1.f0.length + y1.f1.length < 140737488355328 by omega), Option.bind_some]
      have hall : ∀ x ∈ y1.f0 ++ y1.f1, 0 ≤ x ∧ x < 256 := fun x hx => by
        rcases List.mem_append.1 hx with h | h
        · exact hba x h
        · exact hbb x h
      have hlen : (y1.f0 ++ y1.f1).length ≤ 600 := by rw [List.length_append]; omega
      have hml := crcMore_lt y1.f0 c (by omega) hba
      rw [more_f _ hba c (by omega), Option.bind_some, more_f _ hbb _ hml, Option.bind_some, more_f _ hall c (by omega), Option.bind_some]
      have e1 : crcMore c (y1.f0 ++ y1.f1) = crcMore (crcMore c y1.f0) y1.f1 := List.foldl_append ..
      rw [e1, if_pos rfl]
      generalize y1.f0 ++ y1.f1 = l at hall hlen
      by_cases hz : (l.length : Int) = 0
      · rw [if_pos hz]; rfl
      · rw [if_neg hz, Option.bind_some, if_pos (show ([] : List Int).length + l.length < 140737488355328 by rw [List.length_nil]; omega), List.nil_append, wrap_in (show 0 ≤ 8 * (l.length : Int) by omega) (by omega), if_neg (by omega), wrap_in (show (0 : Int) ≤ (a : Int) by omega) (by omega)]
        have e2 : Int.tmod (a : Int) (8 * (l.length : Int)) = ((a % (8 * l.length) : Nat) : Int) := by
          rw [Int.tmod_eq_emod_of_nonneg (by omega), Int.natCast_emod, Int.natCast_mul]; rfl
        rw [e2]
        have hlt := Nat.mod_lt a (show 0 < 8 * l.length by omega)
        exact loop l hlen hall (a % (8 * l.length)) (by omega) (a % (8 * l.length) % 8) 99 0 (by omega) (by omega)

end Go.Proofs.Ytkkikdjfigffhaa.XCrB
