/- Frames: what the program's functions and the reference's compute, in plain Lean; for the laws of this package. -/
import Derived.Test.YtkkikdjfigffhabXFrax
import Derived.OpenShut
import Derived.Laws.Strings
namespace Go.Proofs.Ytkkikdjfigffhab.XFra
open Go.RowKit Go.Proofs.YtkkikdjfigffhabW.PrintWords Go.Proofs.YtkkikdjfigffhabW.PrintLast Go.Proofs.YtkkikdjfigffhabW.PrintMore

theorem wrap_small {i : Int} (h0 : 0 ≤ i) (h : i < 1000000) : wrap64 (i + 1) = i + 1 := by
  unfold wrap64; omega
theorem step_xor (a b : Nat) : crcStep (a ^^^ b) = crcStep a ^^^ crcStep b := by
  have hd : (a ^^^ b) / 2 = (a / 2) ^^^ (b / 2) := by
    apply Nat.eq_of_testBit_eq
    intro i
    rw [Nat.testBit_xor, ← Nat.testBit_succ, ← Nat.testBit_succ, ← Nat.testBit_succ, Nat.testBit_xor]
  have hm : (a ^^^ b) % 2 = (a % 2 + b % 2) % 2 := by
    have h0 : (a ^^^ b).testBit 0 = (a.testBit 0 ^^ b.testBit 0) := Nat.testBit_xor ..
    simp only [Nat.testBit_zero] at h0
    rcases Nat.mod_two_eq_zero_or_one a with ha | ha <;> rcases Nat.mod_two_eq_zero_or_one b with hb | hb <;> rcases Nat.mod_two_eq_zero_or_one (a ^^^ b) with hab | hab <;> simp_all
  unfold crcStep
  rw [hd, hm]
  rcases Nat.mod_two_eq_zero_or_one a with ha | ha <;> rcases Nat.mod_two_eq_zero_or_one b with hb | hb
  · rw [if_neg (show ¬ (a % 2 + b % 2) % 2 = 1 by omega), if_neg (show ¬ a % 2 = 1 by omega), if_neg (show ¬ b % 2 = 1 by omega)]
  · rw [if_pos (show (a % 2 + b % 2) % 2 = 1 by omega), if_neg (show ¬ a % 2 = 1 by omega), if_pos hb, Nat.xor_assoc]
  · rw [if_pos (show (a % 2 + b % 2) % 2 = 1 by omega), if_pos ha, if_neg (show ¬ b % 2 = 1 by omega), Nat.xor_assoc, Nat.xor_assoc, Nat.xor_comm 3988292384]
  · rw [if_neg (show ¬ (a % 2 + b % 2) % 2 = 1 by omega), if_pos ha, if_pos hb]
    rw [Nat.xor_assoc, ← Nat.xor_assoc 3988292384 (b / 2), Nat.xor_comm 3988292384 (b / 2), Nat.xor_assoc (b / 2), Nat.xor_self, Nat.xor_zero]
theorem steps_xor (n a b : Nat) : crcSteps n (a ^^^ b) = crcSteps n a ^^^ crcSteps n b := by
  induction n with
  | zero => rfl
  | succ n ih => simp only [crcSteps]; rw [ih, step_xor]
theorem steps_shift (n m : Nat) : crcSteps n (m * 2 ^ n) = m := by
  induction n generalizing m with
  | zero => simp [crcSteps]
  | succ n ih =>
    simp only [crcSteps]
    have e : m * 2 ^ (n + 1) = (m * 2) * 2 ^ n := by rw [Nat.pow_succ, Nat.mul_comm (2 ^ n) 2, Nat.mul_assoc]
    rw [e, ih]
    unfold crcStep
    rw [if_neg (by omega)]
    omega
theorem split_xor (v : Nat) : (v % 256) ^^^ (v / 256 * 256) = v := by
  apply Nat.eq_of_testBit_eq
  intro i
  rw [Nat.testBit_xor, show v % 256 = v % 2 ^ 8 from rfl, Nat.testBit_mod_two_pow, show v / 256 * 256 = (v / 2 ^ 8) * 2 ^ 8 from rfl, Nat.testBit_mul_two_pow, Nat.testBit_div_two_pow]
  by_cases h : i < 8
  · simp [h, show ¬ 8 ≤ i by omega]
  · simp [h, show 8 ≤ i by omega, show i - 8 + 8 = i by omega]
theorem byte_law (c x : Nat) (hx : x < 256) : crcByte c x = crcSteps 8 (c ^^^ x) := by
  have h1 : (c ^^^ x) % 256 = (c % 256) ^^^ x := by
    apply Nat.eq_of_testBit_eq
    intro i
    rw [show (c ^^^ x) % 256 = (c ^^^ x) % 2 ^ 8 from rfl, Nat.testBit_mod_two_pow, Nat.testBit_xor, Nat.testBit_xor, show c % 256 = c % 2 ^ 8 from rfl, Nat.testBit_mod_two_pow]
    by_cases h : i < 8
    · simp [h]
    · have : x.testBit i = false := Nat.testBit_lt_two_pow (Nat.lt_of_lt_of_le (show x < 2 ^ 8 from hx) (Nat.pow_le_pow_right (by decide) (by omega)))
      simp [h, this]
  have h2 : (c ^^^ x) / 256 = c / 256 := by
    apply Nat.eq_of_testBit_eq
    intro i
    rw [show (c ^^^ x) / 256 = (c ^^^ x) / 2 ^ 8 from rfl, show c / 256 = c / 2 ^ 8 from rfl, Nat.testBit_div_two_pow, Nat.testBit_div_two_pow, Nat.testBit_xor]
    have : x.testBit (i + 8) = false := Nat.testBit_lt_two_pow (Nat.lt_of_lt_of_le (show x < 2 ^ 8 from hx) (Nat.pow_le_pow_right (by decide) (by omega)))
    simp [this]
  have h3 := split_xor (c ^^^ x)
  rw [h1, h2] at h3
  rw [← h3, steps_xor, show c / 256 * 256 = c / 256 * 2 ^ 8 from rfl, steps_shift]
  rfl
theorem steps_succ (n c : Nat) : crcSteps (n + 1) c = crcSteps n (crcStep c) := by
  induction n with
  | zero => rfl
  | succ n ih => simp only [crcSteps] at ih ⊢; rw [ih]
theorem ref_step (c : Nat) (h : c < 4294967296) : (if Int.tmod (c : Int) 2 = 1 then Go.bits .xor .u32 ((Int.tdiv (c : Int) 2) % 4294967296) 3988292384 else (Int.tdiv (c : Int) 2) % 4294967296) = ((crcStep c : Nat) : Int) := by
  have e1 : Int.tmod (c : Int) 2 = (c : Int) % 2 := Int.tmod_eq_emod_of_nonneg (by omega)
  have e2 : (Int.tdiv (c : Int) 2) % 4294967296 = (c : Int) / 2 := by rw [Int.tdiv_eq_ediv_of_nonneg (by omega)]; omega
  rw [e1, e2]
  by_cases ho : c % 2 = 1
  · rw [if_pos (by omega), crcStep_odd c h ho]
  · rw [if_neg (by omega), crcStep_even c (by omega)]
theorem inner (l : List Int) (i : Int) (r : Option Int) (K : Nat) (d : Nat) : ∀ (k c : Nat) (n : Int), n = 8 - d → c < 4294967296 → d ≤ 8 → (∀ k', K ≤ k' → newsreelref05_More.l0 k' ((crcSteps d c : Nat) : Int) l (wrap64 (i + 1)) = r) → K + d < k → newsreelref05_More.l1 k (c : Int) l i n = r := by
  induction d with
  | zero =>
    intro k c n hn hc hd hr hk
    obtain ⟨k, rfl⟩ : ∃ m, k = m + 1 := ⟨k - 1, by omega⟩
    simp only [newsreelref05_More.l1]
    rw [if_neg (by omega)]
    exact hr k (by omega)
  | succ d ih =>
    intro k c n hn hc hd hr hk
    obtain ⟨k, rfl⟩ : ∃ m, k = m + 1 := ⟨k - 1, by omega⟩
    have hs := ref_step c hc
    simp only [newsreelref05_More.l1]
    rw [if_pos (by omega), wrap_small (by omega) (by omega)]
    have hi := ih k (crcStep c) (n + 1) (by omega) (crcStep_lt hc) (by omega) (by rw [← steps_succ]; exact hr) (by omega)
    by_cases ho : Int.tmod (c : Int) 2 = 1
    · rw [if_pos ho] at hs ⊢
      rw [hs]; exact hi
    · rw [if_neg ho] at hs ⊢
      rw [hs]; exact hi
theorem outer (l : List Int) (hl : l.length ≤ 1000) (hb : ∀ x ∈ l, 0 ≤ x ∧ x < 256) (d : Nat) : ∀ (k c i : Nat), i + d = l.length → c < 4294967296 → 10 * d < k → newsreelref05_More.l0 k (c : Int) l (i : Int) = some ((crcMore c (l.drop i) : Nat) : Int) := by
  induction d with
  | zero =>
    intro k c i hi hc hk
    obtain ⟨k, rfl⟩ : ∃ m, k = m + 1 := ⟨k - 1, by omega⟩
    simp only [newsreelref05_More.l0]
    rw [if_neg (by omega), List.drop_of_length_le (by omega)]
    rfl
  | succ d ih =>
    intro k c i hi hc hk
    obtain ⟨k, rfl⟩ : ∃ m, k = m + 1 := ⟨k - 1, by omega⟩
    have hlt : i < l.length := by omega
    have hrd : rd l (i : Int) = l[i] := by
      unfold rd
      rw [Int.toNat_natCast, List.getD_eq_getElem?_getD, List.getElem?_eq_getElem hlt]
      rfl
    have hx := hb l[i] (List.getElem_mem hlt)
    have hdrop : l.drop i = l[i] :: l.drop (i + 1) := List.drop_eq_getElem_cons hlt
    simp only [newsreelref05_More.l0]
    rw [if_pos (by omega), if_pos (by omega), hrd, hdrop]
    generalize l[i] = x at hx
    obtain ⟨n, rfl⟩ := Int.eq_ofNat_of_zero_le hx.1
    have hn : n < 256 := by omega
    have e : Go.bits .xor .u32 (c : Int) ((n : Int) % 4294967296) = ((c ^^^ n : Nat) : Int) := by
      rw [show (n : Int) % 4294967296 = (n : Int) by omega]
      exact u32_xor c n hc (by omega)
    rw [e]
    have hcn : c ^^^ n < 4294967296 := Nat.xor_lt_two_pow (n := 32) hc (by omega)
    refine inner l (i : Int) _ (10 * d + 1) 8 k (c ^^^ n) 0 (by omega) hcn (by omega) (fun k' hk' => ?_) (by omega)
    have e2 : wrap64 ((i : Int) + 1) = ((i + 1 : Nat) : Int) := by rw [wrap_small (by omega) (by omega)]; rfl
    rw [e2, ih k' _ (i + 1) (by omega) (crcSteps_lt 8 hcn) (by omega)]
    show _ = some ((crcMore (crcByte c (n : Int).toNat) (l.drop (i + 1)) : Nat) : Int)
    rw [Int.toNat_natCast, byte_law c n hn]
theorem ref_more (l : List Int) (hl : l.length ≤ 1000) (hb : ∀ x ∈ l, 0 ≤ x ∧ x < 256) (c : Nat) (hc : c < 4294967296) (k : Nat) (hk : 10000 < k) : newsreelref05_More.f k (c : Int) l = some ((crcMore c l : Nat) : Int) := by
  unfold newsreelref05_More.f
  exact outer l hl hb l.length k c 0 (by omega) hc (by omega)
theorem more_f (l : List Int) (hb : ∀ x ∈ l, 0 ≤ x ∧ x < 256) (c : Nat) (hc : c < 4294967296) : crc_More.f (c : Int) l = some ((crcMore c l : Nat) : Int) := by
  unfold crc_More.f
  rw [if_pos, Int.toNat_natCast]
  unfold crcOk
  simp only [Bool.and_eq_true, decide_eq_true_eq, List.all_eq_true]
  exact ⟨⟨by omega, by omega⟩, hb⟩

theorem wrap_in {i : Int} (h0 : -9223372036854775808 ≤ i) (h : i < 9223372036854775808) : wrap64 i = i := by
  unfold wrap64; omega
def sumOf (l : List Int) : Int := 4294967295 - ((crcMore 4294967295 l : Nat) : Int)
theorem sum_f (l : List Int) (hb : ∀ x ∈ l, 0 ≤ x ∧ x < 256) : crc_Sum.f l = some (sumOf l) := by
  unfold crc_Sum.f
  have e1 : crc_More.f 4294967295 l = some ((crcMore 4294967295 l : Nat) : Int) := more_f l hb 4294967295 (by decide)
  rw [e1]
  rfl
theorem sum_bounds (l : List Int) (hb : ∀ x ∈ l, 0 ≤ x ∧ x < 256) : 0 ≤ sumOf l ∧ sumOf l < 4294967296 := by
  have := crcMore_lt l 4294967295 (by decide) hb
  unfold sumOf; omega
theorem four_f (a : Int) (h0 : 0 ≤ a) (h1 : a < 4294967296) : newsreelref12_Four.f a = some [a / 16777216 % 256, a / 65536 % 256, a / 256 % 256, a % 256] := by
  unfold newsreelref12_Four.f
  rw [Int.tdiv_eq_ediv_of_nonneg h0, Int.tdiv_eq_ediv_of_nonneg h0, Int.tdiv_eq_ediv_of_nonneg h0, Int.tmod_eq_emod_of_nonneg h0]
  rw [show a / 16777216 % 4294967296 = a / 16777216 by omega, show a / 65536 % 4294967296 = a / 65536 by omega, show a / 256 % 4294967296 = a / 256 by omega, show a % 256 % 256 = a % 256 by omega]
theorem ref_sum (k : Nat) (hk : 10000 < k) (l : List Int) (hl : l.length ≤ 1000) (hb : ∀ x ∈ l, 0 ≤ x ∧ x < 256) : newsreelref05_Sum.f k l = some (sumOf l) := by
  unfold newsreelref05_Sum.f
  have e2 : newsreelref05_More.f k 4294967295 l = some ((crcMore 4294967295 l : Nat) : Int) := ref_more l hl hb 4294967295 (by decide) k hk
  have hs := sum_bounds l hb
  unfold sumOf at hs ⊢
  rw [e2, Option.bind_some, show (4294967295 - ((crcMore 4294967295 l : Nat) : Int)) % 4294967296 = 4294967295 - ((crcMore 4294967295 l : Nat) : Int) by omega]
def foldR (l : List Int) (n : Int) : Int := l.foldl (fun n c => wrap64 (wrap64 (256 * n) + wrap64 c)) n
theorem number_loop (l : List Int) (hl : l.length ≤ 1000) : ∀ (d k i : Nat) (n : Int), i + d = l.length → d < k → newsreelref12_Number.l0 k l n (i : Int) = some (foldR (l.drop i) n) := by
  intro d
  induction d with
  | zero =>
    intro k i n hi hk
    obtain ⟨k, rfl⟩ : ∃ m, k = m + 1 := ⟨k - 1, by omega⟩
    simp only [newsreelref12_Number.l0]
    rw [if_neg (show ¬ (i : Int) < (l.length : Int) by omega), List.drop_of_length_le (by omega)]
    rfl
  | succ d ih =>
    intro k i n hi hk
    obtain ⟨k, rfl⟩ : ∃ m, k = m + 1 := ⟨k - 1, by omega⟩
    have hlt : i < l.length := by omega
    have hrd : rd l (i : Int) = l[i] := by
      unfold rd
      rw [Int.toNat_natCast, List.getD_eq_getElem?_getD, List.getElem?_eq_getElem hlt]
      rfl
    simp only [newsreelref12_Number.l0]
    rw [if_pos (show (i : Int) < (l.length : Int) by omega), if_pos (show 0 ≤ (i : Int) by omega), hrd, wrap_in (show -9223372036854775808 ≤ (i : Int) + 1 by omega) (by omega), show (i : Int) + 1 = ((i + 1 : Nat) : Int) by omega, ih k (i + 1) _ (by omega) (by omega), List.drop_eq_getElem_cons hlt]
    rfl

/-! ### four bytes -/
theorem u32_or (a b : Nat) (ha : a < 4294967296) (hb : b < 4294967296) : Go.bits .or .u32 (a : Int) (b : Int) = ((a ||| b : Nat) : Int) := by
  have ha' : a % 2 ^ 32 = a := Nat.mod_eq_of_lt ha
  have hb' : b % 2 ^ 32 = b := Nat.mod_eq_of_lt hb
  have hx : a ||| b < 2 ^ 32 := Nat.or_lt_two_pow ha hb
  simp only [bits, IntKind.bits, BitVec.ofInt_natCast]
  show IntKind.u32.wrap (((BitVec.ofNat 32 a ||| BitVec.ofNat 32 b : BitVec 32).toNat : Nat) : Int) = _
  rw [BitVec.toNat_or, BitVec.toNat_ofNat, BitVec.toNat_ofNat, ha', hb']
  exact u32_wraps _ (Int.natCast_nonneg _) (by exact_mod_cast hx)
theorem or4 (a b c d : Nat) (_ : a < 256) (hb : b < 256) (hc : c < 256) (hd : d < 256) : ((a * 16777216 ||| b * 65536) ||| c * 256) ||| d = 16777216 * a + 65536 * b + 256 * c + d := by
  have e1 : a * 16777216 ||| b * 65536 = 16777216 * a + 65536 * b := by
    rw [Nat.mul_comm a, show (16777216 : Nat) = 2 ^ 24 from rfl, ← Nat.two_pow_add_eq_or_of_lt (show b * 65536 < 2 ^ 24 by omega)]
    omega
  have e2 : (16777216 * a + 65536 * b) ||| c * 256 = 16777216 * a + 65536 * b + 256 * c := by
    rw [show 16777216 * a + 65536 * b = 2 ^ 16 * (256 * a + b) by omega, ← Nat.two_pow_add_eq_or_of_lt (show c * 256 < 2 ^ 16 by omega)]
    omega
  have e3 : (16777216 * a + 65536 * b + 256 * c) ||| d = 16777216 * a + 65536 * b + 256 * c + d := by
    rw [show 16777216 * a + 65536 * b + 256 * c = 2 ^ 8 * (65536 * a + 256 * b + c) by omega, ← Nat.two_pow_add_eq_or_of_lt (show d < 2 ^ 8 by omega)]
  rw [e1, e2, e3]
def num4 (l : List Int) : Int := 16777216 * rd l 0 + 65536 * rd l 1 + 256 * rd l 2 + rd l 3
def Bytes (l : List Int) : Prop := ∀ x ∈ l, 0 ≤ x ∧ x < 256
theorem rd_byte (l : List Int) (hb : Bytes l) (i : Int) : 0 ≤ rd l i ∧ rd l i < 256 := by
  unfold rd
  rw [List.getD_eq_getElem?_getD]
  cases h : l[i.toNat]? with
  | none => exact ⟨Int.le_refl 0, by decide⟩
  | some x => exact hb x (List.mem_of_getElem? h)
theorem num4_bounds (l : List Int) (hb : Bytes l) : 0 ≤ num4 l ∧ num4 l < 4294967296 := by
  have h0 := rd_byte l hb 0
  have h1 := rd_byte l hb 1
  have h2 := rd_byte l hb 2
  have h3 := rd_byte l hb 3
  unfold num4
  omega
theorem number_f (l : List Int) (hb : Bytes l) (h4 : 4 ≤ l.length) : frame_number.f l = some (num4 l) := by
  unfold frame_number.f
  rw [if_pos (show 0 < (l.length : Int) by omega), if_pos (show 1 < (l.length : Int) by omega), if_pos (show 2 < (l.length : Int) by omega), if_pos (show 3 < (l.length : Int) by omega)]
  have h0 := rd_byte l hb 0
  have h1 := rd_byte l hb 1
  have h2 := rd_byte l hb 2
  have h3 := rd_byte l hb 3
  unfold num4
  generalize rd l 0 = a at h0
  generalize rd l 1 = b at h1
  generalize rd l 2 = c at h2
  generalize rd l 3 = d at h3
  obtain ⟨a, rfl⟩ := Int.eq_ofNat_of_zero_le h0.1
  obtain ⟨b, rfl⟩ := Int.eq_ofNat_of_zero_le h1.1
  obtain ⟨c, rfl⟩ := Int.eq_ofNat_of_zero_le h2.1
  obtain ⟨d, rfl⟩ := Int.eq_ofNat_of_zero_le h3.1
  have ha : a < 256 := by omega
  have hb' : b < 256 := by omega
  have hc : c < 256 := by omega
  have hd : d < 256 := by omega
  have e := or4 a b c d ha hb' hc hd
  have l1 : a * 16777216 ||| b * 65536 < 4294967296 := Nat.or_lt_two_pow (n := 32) (by omega) (by omega)
  have l2 : (a * 16777216 ||| b * 65536) ||| c * 256 < 4294967296 := Nat.or_lt_two_pow (n := 32) l1 (by omega)
  rw [show ((a : Int) % 4294967296 * 16777216) % 4294967296 = ((a * 16777216 : Nat) : Int) by omega, show ((b : Int) % 4294967296 * 65536) % 4294967296 = ((b * 65536 : Nat) : Int) by omega, show ((c : Int) % 4294967296 * 256) % 4294967296 = ((c * 256 : Nat) : Int) by omega, show (d : Int) % 4294967296 = ((d : Nat) : Int) by omega]
  rw [u32_or _ _ (by omega) (by omega), u32_or _ _ l1 (by omega), u32_or _ _ l2 (by omega), e]
  first | rfl | (congr 1; done) | (congr 1; omega)
theorem take4 (l : List Int) (h4 : 4 ≤ l.length) : l.take 4 = [rd l 0, rd l 1, rd l 2, rd l 3] := by
  match l, h4 with
  | _ :: _ :: _ :: _ :: _, _ => rfl
theorem ref_number (l : List Int) (hb : Bytes l) (h4 : 4 ≤ l.length) (k : Nat) (hk : 10 ≤ k) : newsreelref12_Number.f k (l.take 4) = some (num4 l) := by
  unfold newsreelref12_Number.f
  have hl : (l.take 4).length = 4 := by rw [List.length_take]; omega
  have e := number_loop (l.take 4) (by omega) 4 k 0 0 (by omega) (by omega)
  have e2 : foldR ((l.take 4).drop 0) 0 = num4 l := by
    rw [List.drop_zero, take4 l h4]
    have h0 := rd_byte l hb 0
    have h1 := rd_byte l hb 1
    have h2 := rd_byte l hb 2
    have h3 := rd_byte l hb 3
    unfold foldR num4
    simp only [List.foldl_cons, List.foldl_nil]
    have w : ∀ a c : Int, 0 ≤ a → a < 16777216 → 0 ≤ c → c < 256 → wrap64 (wrap64 (256 * a) + wrap64 c) = 256 * a + c := fun a c g0 g1 g2 g3 => by
      rw [wrap_in (show -9223372036854775808 ≤ 256 * a by omega) (by omega), wrap_in (show -9223372036854775808 ≤ c by omega) (by omega), wrap_in (by omega) (by omega)]
    rw [w 0 _ (by omega) (by omega) h0.1 h0.2, w _ _ (by omega) (by omega) h1.1 h1.2, w _ _ (by omega) (by omega) h2.1 h2.2, w _ _ (by omega) (by omega) h3.1 h3.2]
    omega
  rw [← e2]
  exact e
/-! ### a record's frame -/
def four (n : Int) : List Int := [n / 16777216 % 256, n / 65536 % 256, n / 256 % 256, n % 256]
def frameOf (b : List Int) : List Int := four (b.length : Int) ++ (four (sumOf b) ++ b)
theorem four_bytes (n : Int) : Bytes (four n) := by
  intro x hx
  simp only [four, List.mem_cons, List.not_mem_nil, or_false] at hx
  omega
theorem frame_bytes (b : List Int) (hb : Bytes b) : Bytes (frameOf b) := by
  intro x hx
  rcases List.mem_append.1 hx with h | h
  · exact four_bytes _ x h
  · rcases List.mem_append.1 h with h | h
    · exact four_bytes _ x h
    · exact hb x h
theorem frame_len (b : List Int) : (frameOf b).length = 8 + b.length := by
  unfold frameOf
  rw [List.length_append, List.length_append]
  show 4 + (4 + b.length) = _
  omega
theorem flat3 (p q b : List Int) : ([p, q, b] : List (List Int)).flatten = p ++ (q ++ b) := by simp
def putV (b : List Int) : List Int × Int := if b.length > 32768 then ([], 4) else (frameOf b, 0)
theorem put_f (b : List Int) (hb : Bytes b) : frame_Put.f b = some (putV b) := by
  unfold frame_Put.f putV
  by_cases h : b.length > 32768
  · rw [if_pos h, if_pos (show (b.length : Int) > 32768 by omega)]
  · have hs := sum_bounds b hb
    rw [if_neg h, if_neg (show ¬ (b.length : Int) > 32768 by omega), show (b.length : Int) % 4294967296 = (b.length : Int) by omega]
    unfold frame_four.f
    rw [Option.bind_some, sum_f b hb, Option.bind_some, Option.bind_some]
    show ((bytes_Join.f [four (b.length : Int), four (sumOf b), b] []).bind _) = _
    have hj : bytes_Join.f [four (b.length : Int), four (sumOf b), b] [] = some (frameOf b) := by
      unfold bytes_Join.f
      rw [flat3]
      show (if _ then some (frameOf b) else none) = _
      rw [if_pos]
      refine ⟨by show 2 ≤ 3; omega, by show 3 ≤ 140737488355328; omega, rfl, ?_, ?_⟩
      · show (frameOf b).length ≤ _
        rw [frame_len]
        omega
      · have hall : ∀ l : List Int, Bytes l → (l.all fun x => decide (0 ≤ x) && decide (x < 256)) = true := fun l hl => List.all_eq_true.2 fun x hx => by simp only [Bool.and_eq_true, decide_eq_true_eq]; exact hl x hx
        simp only [List.all_cons, List.all_nil, Bool.and_true, Bool.and_eq_true]
        exact ⟨hall _ (four_bytes _), hall _ (four_bytes _), hall _ hb⟩
    rw [hj]
    rfl
theorem ref_put (b : List Int) (hb : Bytes b) (hl : b.length ≤ 1000) (k : Nat) (hk : 20000 ≤ k) : newsreelref12_Put.f k b = some (putV b) := by
  unfold newsreelref12_Put.f putV
  have hs := sum_bounds b hb
  rw [if_neg (show ¬ b.length > 32768 by omega), if_neg (show ¬ (b.length : Int) > 32768 by omega), show (b.length : Int) % 4294967296 = (b.length : Int) by omega, four_f _ (by omega) (by omega), Option.bind_some, ref_sum k (by omega) b hl hb, Option.bind_some, four_f _ hs.1 hs.2, Option.bind_some]
  show (if (four (b.length : Int)).length + (four (sumOf b)).length < 140737488355328 then ((some (four (b.length : Int) ++ four (sumOf b))).bind fun y191 => (if y191.length + b.length < 140737488355328 then (some ((y191 ++ b), 0)) else (none))) else (none)) = _
  rw [if_pos (show (four (b.length : Int)).length + (four (sumOf b)).length < 140737488355328 from (by decide : 8 < 140737488355328)), Option.bind_some, if_pos (show (four (b.length : Int) ++ four (sumOf b)).length + b.length < 140737488355328 by rw [List.length_append]; show 8 + b.length < _; omega), List.append_assoc]
  rfl
/-! ### the record that bytes begin with -/
def recOf (c : List Int) : List Int := (c.take (8 + (num4 c).toNat)).drop 8
def takeV (c : List Int) : List Int × Int × Int :=
  if c.length < 8 then ([], 0, 11) else if num4 c > 32768 then ([], 0, 4) else if (c.length : Int) < 8 + num4 c then ([], 0, 11) else if sumOf (recOf c) = num4 (c.drop 4) then (recOf c, 8 + num4 c, 0) else ([], 0, 14)
theorem bytes_drop {l : List Int} (hb : Bytes l) (n : Nat) : Bytes (l.drop n) := fun x hx => hb x (List.mem_of_mem_drop hx)
theorem bytes_take {l : List Int} (hb : Bytes l) (n : Nat) : Bytes (l.take n) := fun x hx => hb x (List.mem_of_mem_take hx)
theorem rec_bytes (c : List Int) (hb : Bytes c) : Bytes (recOf c) := bytes_drop (bytes_take hb _) _
theorem rec_len (c : List Int) : (recOf c).length ≤ c.length := by unfold recOf; rw [List.length_drop, List.length_take]; omega
theorem take_f (c : List Int) (hb : Bytes c) (hl : c.length ≤ 1000000) : frame_Take.f c = some (takeV c) := by
  unfold frame_Take.f takeV
  by_cases h8 : c.length < 8
  · rw [if_pos h8, if_pos (show (c.length : Int) < 8 by omega)]
  · have hn := num4_bounds c hb
    rw [if_neg h8, if_neg (show ¬ (c.length : Int) < 8 by omega), number_f c hb (by omega), Option.bind_some]
    by_cases hbig : num4 c > 32768
    · rw [if_pos hbig, if_pos hbig]
    · have e1 : wrap64 (num4 c) = num4 c := wrap_in (by omega) (by omega)
      have e2 : wrap64 (8 + num4 c) = 8 + num4 c := wrap_in (by omega) (by omega)
      have e3 : (8 + num4 c).toNat = 8 + (num4 c).toNat := by omega
      rw [if_neg hbig, if_neg hbig, e1, e2]
      by_cases hs : (c.length : Int) < 8 + num4 c
      · rw [if_pos hs, if_pos hs]
      · rw [if_neg hs, if_neg hs, if_pos (show 8 ≤ 8 + num4 c by omega), if_pos (show 8 + num4 c ≤ (c.length : Int) by omega), e3]
        show ((crc_Sum.f (recOf c)).bind _) = _
        rw [sum_f _ (rec_bytes c hb), Option.bind_some, if_pos (show 4 ≤ (c.length : Int) by omega), number_f (c.drop 4) (bytes_drop hb 4) (by rw [List.length_drop]; omega), Option.bind_some]
        by_cases he : sumOf (recOf c) = num4 (c.drop 4)
        · rw [if_pos he, if_pos he]
          show ((bytes_Clone.f (recOf c)).bind _) = _
          unfold bytes_Clone.f
          have := rec_len c
          rw [if_pos (show (recOf c).length < 140737488355328 by omega), Option.bind_some]
        · rw [if_neg he, if_neg he]
theorem ref_take (c : List Int) (hb : Bytes c) (hl : c.length ≤ 1000) (k : Nat) (hk : 20000 ≤ k) : newsreelref12_Take.f k c = some (takeV c) := by
  unfold newsreelref12_Take.f takeV
  by_cases h8 : c.length < 8
  · rw [if_pos h8, if_pos (show (c.length : Int) < 8 by omega)]
  · have hn := num4_bounds c hb
    rw [if_neg h8, if_neg (show ¬ (c.length : Int) < 8 by omega), if_pos (show 4 ≤ (c.length : Int) by omega), ref_number c hb (by omega) k (by omega), Option.bind_some]
    by_cases hbig : num4 c > 32768
    · rw [if_pos hbig, if_pos hbig]
    · have e1 : wrap64 ((c.length : Int) - 8) = (c.length : Int) - 8 := wrap_in (by omega) (by omega)
      have e2 : wrap64 (8 + num4 c) = 8 + num4 c := wrap_in (by omega) (by omega)
      have e3 : (8 + num4 c).toNat = 8 + (num4 c).toNat := by omega
      rw [if_neg hbig, if_neg hbig, e1]
      by_cases hs : (c.length : Int) < 8 + num4 c
      · rw [if_pos hs, if_pos (show (c.length : Int) - 8 < num4 c by omega)]
      · have hd : (c.take 8).drop 4 = (c.drop 4).take 4 := by rw [List.drop_take]
        have hsb := sum_bounds _ (rec_bytes c hb)
        rw [if_neg hs, if_neg (show ¬ (c.length : Int) - 8 < num4 c by omega), if_pos (by decide), if_pos (show 8 ≤ (c.length : Int) by omega), hd, ref_number (c.drop 4) (bytes_drop hb 4) (by rw [List.length_drop]; omega) k (by omega), Option.bind_some, e2, if_pos (show 8 ≤ 8 + num4 c by omega), if_pos (show 8 + num4 c ≤ (c.length : Int) by omega), e3]
        show ((newsreelref05_Sum.f k (recOf c)).bind _) = _
        have := rec_len c
        rw [ref_sum k (by omega) _ (by omega) (rec_bytes c hb), Option.bind_some, show wrap64 (sumOf (recOf c)) = sumOf (recOf c) from wrap_in (by omega) (by omega)]
        by_cases he : sumOf (recOf c) = num4 (c.drop 4)
        · rw [if_pos he, if_pos he.symm]; rfl
        · rw [if_neg he, if_neg (fun e => he e.symm)]
theorem take_adv (c : List Int) (hb : Bytes c) (h : (takeV c).2.2 = 0) : 8 ≤ (takeV c).2.1 ∧ (takeV c).2.1 ≤ (c.length : Int) := by
  have hn := num4_bounds c hb
  unfold takeV at h ⊢
  by_cases h8 : c.length < 8
  · rw [if_pos h8] at h; cases h
  · rw [if_neg h8] at h ⊢
    by_cases hbig : num4 c > 32768
    · rw [if_pos hbig] at h; cases h
    · rw [if_neg hbig] at h ⊢
      by_cases hs : (c.length : Int) < 8 + num4 c
      · rw [if_pos hs] at h; cases h
      · rw [if_neg hs] at h ⊢
        by_cases he : sumOf (recOf c) = num4 (c.drop 4)
        · rw [if_pos he]
          exact ⟨by show 8 ≤ 8 + num4 c; omega, by show 8 + num4 c ≤ _; omega⟩
        · rw [if_neg he] at h; cases h
/-! ### bytes that begin with a frame, and such as are cut off in one -/
theorem num4_four (n : Int) (h0 : 0 ≤ n) (h1 : n < 4294967296) (t : List Int) : num4 (four n ++ t) = n := by
  show 16777216 * (n / 16777216 % 256) + 65536 * (n / 65536 % 256) + 256 * (n / 256 % 256) + n % 256 = n
  omega
theorem num4_frame (b t : List Int) (hl : b.length ≤ 32768) : num4 (frameOf b ++ t) = (b.length : Int) := by
  unfold frameOf
  rw [List.append_assoc]
  exact num4_four _ (by omega) (by omega) _
theorem rec_frame (b t : List Int) (hl : b.length ≤ 32768) : recOf (frameOf b ++ t) = b := by
  unfold recOf
  rw [num4_frame b t hl, Int.toNat_natCast, List.take_append_of_le_length (by rw [frame_len]; omega), List.take_of_length_le (by rw [frame_len]; omega)]
  rfl
theorem take_frame (b t : List Int) (hb : Bytes b) (hl : b.length ≤ 32768) : takeV (frameOf b ++ t) = (b, 8 + (b.length : Int), 0) := by
  have hs := sum_bounds b hb
  have hlen : (frameOf b ++ t).length = 8 + b.length + t.length := by rw [List.length_append, frame_len]
  unfold takeV
  rw [num4_frame b t hl, rec_frame b t hl, if_neg (by omega), if_neg (by omega), if_neg (by omega)]
  have e : num4 ((frameOf b ++ t).drop 4) = sumOf b := by
    show num4 (four (sumOf b) ++ b ++ t) = _
    rw [List.append_assoc]
    exact num4_four _ hs.1 hs.2 _
  rw [e, if_pos rfl]
theorem take_cut (b t : List Int) (m : Nat) (hm : m < 8 + b.length) (hl : b.length ≤ 32768) : (takeV ((frameOf b ++ t).take m)).2.2 ≠ 0 := by
  unfold takeV
  have hlen : ((frameOf b ++ t).take m).length = m := by rw [List.length_take, List.length_append, frame_len]; omega
  by_cases h8 : m < 8
  · rw [if_pos (by omega)]; show (11 : Int) ≠ 0; omega
  · obtain ⟨q, rfl⟩ : ∃ q, m = q + 8 := ⟨m - 8, by omega⟩
    have e : (frameOf b ++ t).take (q + 8) = four (b.length : Int) ++ (four (sumOf b) ++ (b ++ t).take q) := rfl
    have hn : num4 ((frameOf b ++ t).take (q + 8)) = (b.length : Int) := by rw [e]; exact num4_four _ (by omega) (by omega) _
    rw [hn, if_neg (by omega), if_neg (by omega), if_pos (by omega)]
    show (11 : Int) ≠ 0
    omega
/-! ### both scans -/
theorem scan_both (x : List Int) (hb : Bytes x) (hl : x.length ≤ 1000) : ∀ (d : Nat) (k j : Nat) (out : List (List Int)) (a i : Nat), x.length - a ≤ d → a ≤ x.length → i ≤ a → out.length ≤ i → d < k → 20000 + d < j → ∃ r, frame_Scan.l0 k x out (a : Int) = some r ∧ newsreelref12_Scan.l0 j x out (a : Int) (i : Int) = some r ∧ r.1.length ≤ 1000 := by
  intro d
  induction d with
  | zero =>
    intro k j out a i hd ha hi ho hk hj
    obtain ⟨k, rfl⟩ : ∃ q, k = q + 1 := ⟨k - 1, by omega⟩
    obtain ⟨j, rfl⟩ : ∃ q, j = q + 1 := ⟨j - 1, by omega⟩
    have hnil : x.drop a = [] := List.drop_of_length_le (by omega)
    refine ⟨(out, (a : Int)), ?_, ?_, by show out.length ≤ 1000; omega⟩
    · simp only [frame_Scan.l0]
      rw [if_pos (show 0 ≤ (a : Int) by omega), if_pos (show (a : Int) ≤ (x.length : Int) by omega), Int.toNat_natCast, hnil, take_f [] (fun _ h => by cases h) (by show 0 ≤ 1000000; omega), Option.bind_some]
      rfl
    · simp only [newsreelref12_Scan.l0]
      rw [if_pos (show (i : Int) ≤ (x.length : Int) by omega), if_pos (show 0 ≤ (a : Int) by omega), if_pos (show (a : Int) ≤ (x.length : Int) by omega), Int.toNat_natCast, hnil, ref_take [] (fun _ h => by cases h) (by show 0 ≤ 1000; omega) j (by omega), Option.bind_some]
      rfl
  | succ d ih =>
    intro k j out a i hd ha hi ho hk hj
    obtain ⟨k, rfl⟩ : ∃ q, k = q + 1 := ⟨k - 1, by omega⟩
    obtain ⟨j, rfl⟩ : ∃ q, j = q + 1 := ⟨j - 1, by omega⟩
    have hbd := bytes_drop hb a
    have hld : (x.drop a).length = x.length - a := List.length_drop
    simp only [frame_Scan.l0, newsreelref12_Scan.l0]
    rw [if_pos (show 0 ≤ (a : Int) by omega), if_pos (show (a : Int) ≤ (x.length : Int) by omega), if_pos (show (i : Int) ≤ (x.length : Int) by omega), if_pos (show 0 ≤ (a : Int) by omega), if_pos (show (a : Int) ≤ (x.length : Int) by omega), Int.toNat_natCast, take_f _ hbd (by omega), ref_take _ hbd (by omega) j (by omega), Option.bind_some, Option.bind_some]
    by_cases he : (takeV (x.drop a)).2.2 = 0
    · have hadv := take_adv _ hbd he
      rw [if_pos he, if_pos he, if_pos (show out.length < 5864062014805 by omega), if_pos (show out.length < 5864062014805 by omega)]
      obtain ⟨n, hn⟩ := Int.eq_ofNat_of_zero_le (show 0 ≤ (takeV (x.drop a)).2.1 by omega)
      rw [hn] at hadv ⊢
      rw [show wrap64 ((a : Int) + (n : Int)) = ((a + n : Nat) : Int) by rw [wrap_in (by omega) (by omega)]; omega, show wrap64 ((i : Int) + 1) = ((i + 1 : Nat) : Int) by rw [wrap_in (by omega) (by omega)]; omega]
      exact ih k j _ (a + n) (i + 1) (by omega) (by omega) (by omega) (by rw [List.length_append]; show out.length + 1 ≤ i + 1; omega) (by omega) (by omega)
    · rw [if_neg he, if_neg he]
      exact ⟨_, rfl, rfl, by show out.length ≤ 1000; omega⟩
theorem lists_loop (l : List (List Int)) (hl : l.length ≤ 10000) : ∀ (d k i : Nat), i + d = l.length → d < k → newsreelref12_Lists.l0 k l l (i : Int) = some true := by
  intro d
  induction d with
  | zero =>
    intro k i hi hk
    obtain ⟨k, rfl⟩ : ∃ m, k = m + 1 := ⟨k - 1, by omega⟩
    simp only [newsreelref12_Lists.l0]
    rw [if_neg (show ¬ (i : Int) < (l.length : Int) by omega)]
  | succ d ih =>
    intro k i hi hk
    obtain ⟨k, rfl⟩ : ∃ m, k = m + 1 := ⟨k - 1, by omega⟩
    simp only [newsreelref12_Lists.l0]
    rw [if_pos (show (i : Int) < (l.length : Int) by omega), if_pos (show 0 ≤ (i : Int) by omega), if_pos (show (i : Int) < (l.length : Int) by omega), if_pos trivial, show wrap64 ((i : Int) + 1) = ((i + 1 : Nat) : Int) by rw [wrap_in (by omega) (by omega)]; omega]
    exact ih k (i + 1) (by omega) (by omega)
theorem lists_same (l : List (List Int)) (hl : l.length ≤ 10000) (k : Nat) (hk : 10001 ≤ k) : newsreelref12_Lists.f k l l = some true := by
  unfold newsreelref12_Lists.f
  rw [if_pos rfl]
  exact lists_loop l hl l.length k 0 (by omega) (by omega)
theorem awake_30 : newsreellaw12_awake.f 30 = some true := by kernel_rfl
theorem awake_true {k : Nat} (h : 30 ≤ k) : newsreellaw12_awake.f k = some true := at_rounds newsreellaw12_awake.mono h awake_30
end Go.Proofs.Ytkkikdjfigffhab.XFra
