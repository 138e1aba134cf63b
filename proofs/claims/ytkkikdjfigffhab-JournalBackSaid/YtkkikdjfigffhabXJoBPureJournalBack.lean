/- A mark that is put is got, and is one piece of a file; what is got, put, is these bytes: for every input. -/
import Derived.Test.YtkkikdjfigffhabXJoBTellJournalBack
import Derived.OpenShut
import Derived.Laws.Strings
namespace Go.Proofs.Ytkkikdjfigffhab.XJoB
open Go.RowKit Go.Proofs.YtkkikdjfigffhabW.PrintWords Go.Proofs.YtkkikdjfigffhabW.PrintLast Go.Proofs.YtkkikdjfigffhabW.PrintMore

theorem more_f (l : List Int) (hb : ∀ x ∈ l, 0 ≤ x ∧ x < 256) (c : Nat) (hc : c < 4294967296) : crc_More.f (c : Int) l = some ((crcMore c l : Nat) : Int) := by
  unfold crc_More.f
  rw [if_pos, Int.toNat_natCast]
  unfold crcOk
  simp only [Bool.and_eq_true, decide_eq_true_eq, List.all_eq_true]
  exact ⟨⟨by omega, by omega⟩, hb⟩

theorem wrap_in {i : Int} (h0 : -9223372036854775808 ≤ i) (h : i < 9223372036854775808) : wrap64 i = i := by
  unfold wrap64; omega
def hd8 (n : Int) : List Int := [0, 0, 0, 0, n / 16777216 % 256, n / 65536 % 256, n / 256 % 256, n % 256]
def sumOf (l : List Int) : Int := 4294967295 - ((crcMore 4294967295 l : Nat) : Int)
def tl8 (s : Int) : List Int := [s / 16777216 % 256, s / 65536 % 256, s / 256 % 256, s % 256, 0, 0, 0, 0]
def mark (n : Int) : List Int := hd8 n ++ tl8 (sumOf (hd8 n))
theorem hd8_bytes (n : Int) : ∀ x ∈ hd8 n, 0 ≤ x ∧ x < 256 := by
  intro x hx
  simp only [hd8, List.mem_cons, List.not_mem_nil, or_false] at hx
  omega
theorem put_step (k : Nat) (n : Int) (i : Nat) (l : List Int) (hi : i < 8) (hl : l.length = 16) : journal_Put.l0 (k + 1) n l (i : Int) = journal_Put.l0 k n (l.set i (n / 2 ^ (56 - 8 * i) % 256)) ((i + 1 : Nat) : Int) := by
  have e : IntKind.u64.wrap (wrap64 (8 * (wrap64 (7 - (i : Int))))) = ((56 - 8 * i : Nat) : Int) := by
    obtain h | h | h | h | h | h | h | h : i = 0 ∨ i = 1 ∨ i = 2 ∨ i = 3 ∨ i = 4 ∨ i = 5 ∨ i = 6 ∨ i = 7 := by omega
    all_goals (subst h; kernel_rfl)
  simp only [journal_Put.l0]
  rw [e, if_pos (show (i : Int) < 8 by omega), if_pos (show (0 : Int) ≤ ((56 - 8 * i : Nat) : Int) by omega), if_pos (show 0 ≤ (i : Int) by omega), if_pos (show (i : Int) < (l.length : Int) by omega), wrap_in (show -9223372036854775808 ≤ (i : Int) + 1 by omega) (by omega), Int.toNat_natCast]
  unfold shr
  rw [Int.toNat_natCast, show min (56 - 8 * i) IntKind.i64.bits = 56 - 8 * i from Nat.min_eq_left (by show 56 - 8 * i ≤ 64; omega)]
  rfl
theorem put_step1 (k : Nat) (s : Int) (i : Nat) (l : List Int) (hi : i < 4) (hl : l.length = 16) : journal_Put.l1 (k + 1) l s (i : Int) = journal_Put.l1 k (l.set (8 + i) (s / 2 ^ (24 - 8 * i) % 256)) s ((i + 1 : Nat) : Int) := by
  have e : IntKind.u64.wrap (wrap64 (24 - (wrap64 (8 * (i : Int))))) = ((24 - 8 * i : Nat) : Int) := by
    obtain h | h | h | h : i = 0 ∨ i = 1 ∨ i = 2 ∨ i = 3 := by omega
    all_goals (subst h; kernel_rfl)
  simp only [journal_Put.l1]
  rw [e, wrap_in (show -9223372036854775808 ≤ 8 + (i : Int) by omega) (by omega), if_pos (show (i : Int) < 4 by omega), if_pos (show (0 : Int) ≤ ((24 - 8 * i : Nat) : Int) by omega), if_pos (show 0 ≤ 8 + (i : Int) by omega), if_pos (show 8 + (i : Int) < (l.length : Int) by omega), wrap_in (show -9223372036854775808 ≤ (i : Int) + 1 by omega) (by omega), show (8 + (i : Int)).toNat = 8 + i by omega]
  unfold shr
  rw [Int.toNat_natCast, show min (24 - 8 * i) IntKind.u32.bits = 24 - 8 * i from Nat.min_eq_left (by show 24 - 8 * i ≤ 32; omega)]
  rfl
theorem sum_f (l : List Int) (hb : ∀ x ∈ l, 0 ≤ x ∧ x < 256) : crc_Sum.f l = some (sumOf l) := by
  unfold crc_Sum.f
  have e1 : crc_More.f 4294967295 l = some ((crcMore 4294967295 l : Nat) : Int) := more_f l hb 4294967295 (by decide)
  rw [e1]
  rfl
theorem sum_bounds (l : List Int) (hb : ∀ x ∈ l, 0 ≤ x ∧ x < 256) : 0 ≤ sumOf l ∧ sumOf l < 4294967296 := by
  have := crcMore_lt l 4294967295 (by decide) hb
  unfold sumOf; omega
theorem put_law (k : Nat) (hk : 100 ≤ k) (n : Int) (h0 : 0 ≤ n) (h1 : n ≤ 65536) : journal_Put.f k n = some (mark n, 0) := by
  obtain ⟨k, rfl⟩ : ∃ m, k = m + 20 := ⟨k - 20, by omega⟩
  unfold journal_Put.f
  rw [if_neg (show ¬ n < 0 by omega), decide_eq_false (show ¬ n > 65536 by omega)]
  simp only [journal_Put.j0]
  rw [if_neg Bool.false_ne_true, if_pos (by decide)]
  have s0 := put_step (k + 18) n 0 (List.replicate 16 0) (by omega) (by rfl)
  have e0 : (List.replicate 16 (0 : Int)).set 0 (n / 2 ^ (56 - 8 * 0) % 256) = [0, 0, 0, 0, 0, 0, 0, 0, 0, 0, 0, 0, 0, 0, 0, 0] := by
    have : n / 2 ^ (56 - 8 * 0) % 256 = 0 := by show n / 72057594037927936 % 256 = 0; omega
    rw [this]; rfl
  rw [e0] at s0
  have s1 := put_step (k + 17) n 1 [0, 0, 0, 0, 0, 0, 0, 0, 0, 0, 0, 0, 0, 0, 0, 0] (by omega) (by rfl)
  have s2 := put_step (k + 16) n 2 [0, 0, 0, 0, 0, 0, 0, 0, 0, 0, 0, 0, 0, 0, 0, 0] (by omega) (by rfl)
  have s3 := put_step (k + 15) n 3 [0, 0, 0, 0, 0, 0, 0, 0, 0, 0, 0, 0, 0, 0, 0, 0] (by omega) (by rfl)
  have s4 := put_step (k + 14) n 4 [0, 0, 0, 0, 0, 0, 0, 0, 0, 0, 0, 0, 0, 0, 0, 0] (by omega) (by rfl)
  have s5 := put_step (k + 13) n 5 [0, 0, 0, 0, n / 16777216 % 256, 0, 0, 0, 0, 0, 0, 0, 0, 0, 0, 0] (by omega) (by rfl)
  have s6 := put_step (k + 12) n 6 [0, 0, 0, 0, n / 16777216 % 256, n / 65536 % 256, 0, 0, 0, 0, 0, 0, 0, 0, 0, 0] (by omega) (by rfl)
  have s7 := put_step (k + 11) n 7 [0, 0, 0, 0, n / 16777216 % 256, n / 65536 % 256, n / 256 % 256, 0, 0, 0, 0, 0, 0, 0, 0, 0] (by omega) (by rfl)
  have z1 : n / 2 ^ (56 - 8 * 1) % 256 = 0 := by show n / 281474976710656 % 256 = 0; omega
  have z2 : n / 2 ^ (56 - 8 * 2) % 256 = 0 := by show n / 1099511627776 % 256 = 0; omega
  have z3 : n / 2 ^ (56 - 8 * 3) % 256 = 0 := by show n / 4294967296 % 256 = 0; omega
  have z7 : n / 2 ^ (56 - 8 * 7) % 256 = n % 256 := by show n / 1 % 256 = n % 256; omega
  rw [z1] at s1
  rw [z2] at s2
  rw [z3] at s3
  rw [z7] at s7
  refine s0.trans (s1.trans (s2.trans (s3.trans (s4.trans (s5.trans (s6.trans (s7.trans ?_)))))))
  show journal_Put.l0 (k + 10 + 1) n (hd8 n ++ [0, 0, 0, 0, 0, 0, 0, 0]) 8 = some (mark n, 0)
  simp only [journal_Put.l0]
  rw [if_neg (by omega), if_pos (show (8 : Int) ≤ (((hd8 n ++ [0, 0, 0, 0, 0, 0, 0, 0] : List Int).length : Nat) : Int) from (by decide : (8 : Int) ≤ 16)), show (hd8 n ++ [0, 0, 0, 0, 0, 0, 0, 0] : List Int).take 8 = hd8 n from rfl, sum_f _ (hd8_bytes n), Option.bind_some]
  have hs := sum_bounds _ (hd8_bytes n)
  unfold mark
  generalize sumOf (hd8 n) = s at hs ⊢
  have t0 := put_step1 (k + 9) s 0 (hd8 n ++ [0, 0, 0, 0, 0, 0, 0, 0]) (by omega) (by rfl)
  have t1 := put_step1 (k + 8) s 1 (hd8 n ++ [s / 16777216 % 256, 0, 0, 0, 0, 0, 0, 0]) (by omega) (by rfl)
  have t2 := put_step1 (k + 7) s 2 (hd8 n ++ [s / 16777216 % 256, s / 65536 % 256, 0, 0, 0, 0, 0, 0]) (by omega) (by rfl)
  have t3 := put_step1 (k + 6) s 3 (hd8 n ++ [s / 16777216 % 256, s / 65536 % 256, s / 256 % 256, 0, 0, 0, 0, 0]) (by omega) (by rfl)
  have y3 : s / 2 ^ (24 - 8 * 3) % 256 = s % 256 := by show s / 1 % 256 = s % 256; omega
  rw [y3] at t3
  refine t0.trans (t1.trans (t2.trans (t3.trans ?_)))
  show journal_Put.l1 (k + 5 + 1) (hd8 n ++ tl8 s) s 4 = some (hd8 n ++ tl8 s, 0)
  simp only [journal_Put.l1]
  rw [if_neg (by omega)]

def putV (n : Int) : List Int × Int := if 0 ≤ n ∧ n ≤ 65536 then (mark n, 0) else ([], 1)
theorem put_all (k : Nat) (hk : 100 ≤ k) (n : Int) : journal_Put.f k n = some (putV n) := by
  unfold putV
  by_cases h : 0 ≤ n ∧ n ≤ 65536
  · rw [if_pos h]; exact put_law k hk n h.1 h.2
  · rw [if_neg h]
    obtain ⟨k, rfl⟩ : ∃ m, k = m + 1 := ⟨k - 1, by omega⟩
    unfold journal_Put.f
    by_cases h0 : n < 0
    · rw [if_pos h0]; rfl
    · rw [if_neg h0, decide_eq_true (show n > 65536 by omega)]; rfl
theorem or_add (n c : Int) (h0 : 0 ≤ n) (h1 : n < 4294967296) (h2 : 0 ≤ c) (h3 : c < 256) : Go.bits .or .i64 (wrap64 (n * 256)) (wrap64 c) = 256 * n + c := by
  obtain ⟨a, rfl⟩ := Int.eq_ofNat_of_zero_le h0
  obtain ⟨b, rfl⟩ := Int.eq_ofNat_of_zero_le h2
  rw [wrap_in (show -9223372036854775808 ≤ (a : Int) * 256 by omega) (by omega), wrap_in (show -9223372036854775808 ≤ (b : Int) by omega) (by omega), show (a : Int) * 256 = ((a * 256 : Nat) : Int) by omega]
  have e : a * 256 ||| b = 2 ^ 8 * a + b := by
    rw [Nat.mul_comm, show (256 : Nat) = 2 ^ 8 from rfl, ← Nat.two_pow_add_eq_or_of_lt (show b < 2 ^ 8 by omega)]
  have ha' : (a * 256) % 2 ^ 64 = a * 256 := Nat.mod_eq_of_lt (by omega)
  have hb' : b % 2 ^ 64 = b := Nat.mod_eq_of_lt (by omega)
  simp only [bits, IntKind.bits, BitVec.ofInt_natCast]
  show IntKind.i64.wrap (((BitVec.ofNat 64 (a * 256) ||| BitVec.ofNat 64 b : BitVec 64).toNat : Nat) : Int) = _
  rw [BitVec.toNat_or, BitVec.toNat_ofNat, BitVec.toNat_ofNat, ha', hb', e, i64_w, wrap_in (show -9223372036854775808 ≤ ((2 ^ 8 * a + b : Nat) : Int) by omega) (by omega)]
  omega

def foldI (l : List Int) (n : Int) : Int := l.foldl (fun n c => Go.bits .or .i64 (wrap64 (n * 256)) (wrap64 c)) n
def getV (n : Int) (b : List Int) : Int × Int := if (putV n).2 = 0 then (if (strOfNums (putV n).1).toList = (strOfNums b).toList then (n, 0) else (0, 12)) else (0, 12)
theorem get_loop (b l : List Int) (hl : l.length ≤ 1000) : ∀ (d k i : Nat) (n : Int), i + d = l.length → d + 200 ≤ k → journal_Get.l0 k b n l (l.length : Int) (i : Int) = some (getV (foldI (l.drop i) n) b) := by
  intro d
  induction d with
  | zero =>
    intro k i n hi hk
    obtain ⟨k, rfl⟩ : ∃ m, k = m + 1 := ⟨k - 1, by omega⟩
    simp only [journal_Get.l0]
    rw [if_neg (show ¬ (i : Int) < (l.length : Int) by omega), List.drop_of_length_le (by omega), put_all k (by omega), Option.bind_some]
    unfold getV foldI
    rw [List.foldl_nil]
    by_cases h1 : (putV n).2 = 0
    · rw [if_pos h1, if_pos h1]
      unfold bytes_Equal.f
      rw [Option.bind_some]
      by_cases h2 : (strOfNums (putV n).1).toList = (strOfNums b).toList
      · rw [if_pos h2, h2, beq_self_eq_true, if_pos rfl]
      · rw [if_neg h2, beq_eq_false_iff_ne.2 h2, if_neg Bool.false_ne_true]
    · rw [if_neg h1, if_neg h1]
  | succ d ih =>
    intro k i n hi hk
    obtain ⟨k, rfl⟩ : ∃ m, k = m + 1 := ⟨k - 1, by omega⟩
    have hlt : i < l.length := by omega
    have hrd : rd l (i : Int) = l[i] := by
      unfold rd
      rw [Int.toNat_natCast, List.getD_eq_getElem?_getD, List.getElem?_eq_getElem hlt]
      rfl
    simp only [journal_Get.l0]
    rw [if_pos (show (i : Int) < (l.length : Int) by omega), if_pos (show 0 ≤ (i : Int) by omega), if_pos (show (i : Int) < (l.length : Int) by omega), hrd, wrap_in (show -9223372036854775808 ≤ (i : Int) + 1 by omega) (by omega), show (i : Int) + 1 = ((i + 1 : Nat) : Int) by omega, ih k (i + 1) _ (by omega) (by omega), List.drop_eq_getElem_cons hlt]
    rfl
theorem get_law (k : Nat) (hk : 300 ≤ k) (b : List Int) : journal_Get.f k b = some (if (b.length : Int) = 16 then getV (foldI (b.take 8) 0) b else (0, 12)) := by
  unfold journal_Get.f
  by_cases h : (b.length : Int) = 16
  · have hl : (b.take 8).length = 8 := by rw [List.length_take]; omega
    rw [if_pos h, if_pos h, if_pos (show (8 : Int) ≤ (b.length : Int) by omega)]
    have := get_loop b (b.take 8) (by omega) 8 k 0 0 (by omega) (by omega)
    exact this
  · rw [if_neg h, if_neg h]
theorem foldI_mark (m : Int) (h0 : 0 ≤ m) (h1 : m ≤ 65536) : foldI (hd8 m) 0 = m := by
  unfold foldI hd8
  simp only [List.foldl_cons, List.foldl_nil]
  rw [or_add 0 0 (by omega) (by omega) (by omega) (by omega)]
  simp only [Int.mul_zero, Int.add_zero]
  rw [or_add 0 0 (by omega) (by omega) (by omega) (by omega)]
  simp only [Int.mul_zero, Int.add_zero]
  rw [or_add 0 0 (by omega) (by omega) (by omega) (by omega)]
  simp only [Int.mul_zero, Int.add_zero]
  rw [or_add 0 0 (by omega) (by omega) (by omega) (by omega)]
  simp only [Int.mul_zero, Int.add_zero]
  rw [or_add 0 (m / 16777216 % 256) (by omega) (by omega) (by omega) (by omega), or_add (256 * 0 + m / 16777216 % 256) (m / 65536 % 256) (by omega) (by omega) (by omega) (by omega), or_add (256 * (256 * 0 + m / 16777216 % 256) + m / 65536 % 256) (m / 256 % 256) (by omega) (by omega) (by omega) (by omega), or_add (256 * (256 * (256 * 0 + m / 16777216 % 256) + m / 65536 % 256) + m / 256 % 256) (m % 256) (by omega) (by omega) (by omega) (by omega)]
  omega
theorem nums_inj {a b : List Int} (ha : ∀ x ∈ a, 0 ≤ x ∧ x < 256) (hb : ∀ x ∈ b, 0 ≤ x ∧ x < 256) (h : (strOfNums a).toList = (strOfNums b).toList) : a = b := by
  have e : ∀ l : List Int, (strOfNums l).toList = l.map fun n => UInt8.ofNat n.toNat := fun l => by
    rw [Go.ByteArray.toList_eq]
    exact strOfNums_data l
  rw [e, e] at h
  clear e
  induction a generalizing b with
  | nil => cases b with
    | nil => rfl
    | cons y b => simp at h
  | cons x a ih => cases b with
    | nil => simp at h
    | cons y b =>
      simp only [List.map_cons, List.cons.injEq] at h
      have hx := ha x List.mem_cons_self
      have hy := hb y List.mem_cons_self
      have h1 := congrArg UInt8.toNat h.1
      rw [UInt8.toNat_ofNat', UInt8.toNat_ofNat'] at h1
      rw [ih (fun z hz => ha z (List.mem_cons_of_mem _ hz)) (fun z hz => hb z (List.mem_cons_of_mem _ hz)) h.2, show x = y by omega]

theorem mark_bytes (n : Int) : ∀ x ∈ mark n, 0 ≤ x ∧ x < 256 := by
  have hs := sum_bounds _ (hd8_bytes n)
  intro x hx
  rcases List.mem_append.1 hx with h | h
  · exact hd8_bytes n x h
  · simp only [tl8, List.mem_cons, List.not_mem_nil, or_false] at h
    omega
theorem getV_none (n : Int) (b : List Int) (hb : ∀ x ∈ b, 0 ≤ x ∧ x < 256) (h : ¬ (0 ≤ n ∧ n ≤ 65536 ∧ mark n = b)) : getV n b = (0, 12) := by
  unfold getV putV
  by_cases h1 : 0 ≤ n ∧ n ≤ 65536
  · rw [if_pos h1, if_pos rfl, if_neg (fun e => h ⟨h1.1, h1.2, nums_inj (mark_bytes n) hb e⟩)]
  · rw [if_neg h1, if_neg (by decide)]

theorem getV_mark (m : Int) (h0 : 0 ≤ m) (h1 : m ≤ 65536) : getV m (mark m) = (m, 0) := by
  unfold getV putV
  rw [if_pos (And.intro h0 h1), if_pos rfl, if_pos rfl]
theorem get_mark (k : Nat) (hk : 300 ≤ k) (m : Int) (h0 : 0 ≤ m) (h1 : m ≤ 65536) : journal_Get.f k (mark m) = some (m, 0) := by
  rw [get_law k hk, if_pos (show ((mark m).length : Int) = 16 from (by decide : (16 : Int) = 16)), show (mark m).take 8 = hd8 m from rfl, foldI_mark m h0 h1, getV_mark m h0 h1]
theorem pieces16 (k : Nat) (hk : 10 ≤ k) (m : Int) : ∃ p, block_Pieces.f k 0 (mark m) = some ([p], 0) := by
  obtain ⟨k, rfl⟩ : ∃ q, k = q + 3 := ⟨k - 3, by omega⟩
  have hl : (mark m).length = 16 := rfl
  generalize mark m = x at hl
  unfold block_Pieces.f
  rw [if_neg (show ¬ (0 : Int) < 0 by omega), if_neg (show ¬ (0 : Int) > 65536 by omega), decide_eq_false (show ¬ (x.length : Int) > wrap64 (65536 - 0) by rw [hl, show wrap64 (65536 - 0) = 65536 by kernel_rfl]; omega)]
  simp only [block_Pieces.j0]
  rw [if_neg Bool.false_ne_true]
  simp only [block_Pieces.l0]
  have hm : mn (wrap64 (16 - (Int.tmod 0 16))) (x.length : Int) = 16 := by rw [hl]; kernel_rfl
  rw [hm, if_pos (show (x.length : Int) > 0 by omega), if_pos (show (0 : Int) ≤ 16 by omega), if_pos (show (16 : Int) ≤ (x.length : Int) by omega), show (16 : Int).toNat = 16 from rfl, List.take_of_length_le (show x.length ≤ 16 by omega), List.drop_of_length_le (show x.length ≤ 16 by omega)]
  unfold bytes_Clone.f
  rw [if_pos (show x.length < 140737488355328 by omega), Option.bind_some, if_pos (show ([] : List S115).length < 4398046511104 from (by decide : 0 < 4398046511104)), if_neg (show ¬ ((([] : List Int).length : Nat) : Int) > 0 from (by decide : ¬ ((0 : Nat) : Int) > 0))]
  exact ⟨_, rfl⟩
theorem get_back (n : Int) (b : List Int) (hb : ∀ x ∈ b, 0 ≤ x ∧ x < 256) : (getV n b = (0, 12)) ∨ (getV n b = (n, 0) ∧ putV n = (b, 0)) := by
  by_cases h : 0 ≤ n ∧ n ≤ 65536 ∧ mark n = b
  · obtain ⟨h0, h1, h2⟩ := h
    subst h2
    exact .inr ⟨getV_mark n h0 h1, by unfold putV; rw [if_pos (And.intro h0 h1)]⟩
  · exact .inl (getV_none n b hb h)
theorem awake_60 : newsreellaw37_awake.f 60 = some true := by kernel_rfl
theorem awake_true {k : Nat} (h : 60 ≤ k) : newsreellaw37_awake.f k = some true := at_rounds newsreellaw37_awake.mono h awake_60
theorem JournalBack_pure : newsreellaw37_JournalBack.Pure := by
  intro n b h0 h1
  have hb : ∀ x ∈ b, 0 ≤ x ∧ x < 256 := fun x hx => by have := bounds_u8 (h1.2 x hx); omega
  have hn := bounds_u32 h0
  obtain ⟨K, hK⟩ : ∃ K : Nat, K = 10000 := ⟨_, rfl⟩
  refine ⟨K + 1, ?_⟩
  unfold newsreellaw37_JournalBack.f
  by_cases hl : (b.length : Int) > 100
  · rw [if_pos hl, awake_true (by omega)]; rfl
  · have hm : wrap64 (Int.tmod n 65537) = n % 65537 := by
      rw [Int.tmod_eq_emod_of_nonneg (by omega), wrap_in (show -9223372036854775808 ≤ n % 65537 by omega) (by omega)]
    obtain ⟨p, hp⟩ := pieces16 (K + 1) (by omega) (n % 65537)
    rw [if_neg hl, hm, put_law (K + 1) (by omega) (n % 65537) (by omega) (by omega), Option.bind_some]
    show ((journal_Get.f (K + 1) (mark (n % 65537))).bind _) = _
    rw [get_mark (K + 1) (by omega) (n % 65537) (by omega) (by omega), Option.bind_some]
    show ((block_Pieces.f (K + 1) 0 (mark (n % 65537))).bind _) = _
    rw [hp, Option.bind_some, if_pos rfl, if_pos rfl, if_pos rfl, if_pos rfl]
    show newsreellaw37_JournalBack.j0 (K + 1) b false = _
    simp only [newsreellaw37_JournalBack.j0]
    rw [if_neg Bool.false_ne_true, get_law K (by omega), Option.bind_some]
    by_cases h16 : (b.length : Int) = 16
    · rw [if_pos h16]
      generalize foldI (b.take 8) 0 = v
      rcases get_back v b hb with h | ⟨h, g⟩
      · rw [h, if_neg (by decide), if_pos rfl, awake_true (by omega)]; rfl
      · rw [h, if_pos rfl, put_all K (by omega), Option.bind_some, g, if_pos rfl]
        unfold newsreelref01_Bytes.f
        rw [beq_self_eq_true, Option.bind_some, if_pos rfl, awake_true (by omega)]
        rfl
    · rw [if_neg h16, if_neg (by decide), if_pos rfl, awake_true (by omega)]; rfl

end Go.Proofs.Ytkkikdjfigffhab.XJoB
