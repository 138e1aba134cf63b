/- The pieces of any bytes and any file with pieces over it are what the document's answer says, for every input. -/
import Derived.Test.YtkkikdjfigffhaaXBltTellBlockTells
import Derived.OpenShut
namespace Go.Proofs.Ytkkikdjfigffhaa.XBlt
open Go.RowKit Go.Proofs.YtkkikdjfigffhaaW.PrintWords Go.Proofs.YtkkikdjfigffhaaW.PrintLast Go.Proofs.YtkkikdjfigffhaaW.PrintMore

theorem wrap_in {i : Int} (h0 : -9223372036854775808 ≤ i) (h : i < 9223372036854775808) : wrap64 i = i := by
  unfold wrap64; omega

theorem awake_30 : newsreellaw08_awake.f 30 = some true := by kernel_rfl
theorem awake_true {k : Nat} (h : 30 ≤ k) : newsreellaw08_awake.f k = some true := at_rounds newsreellaw08_awake.mono h awake_30

/-! ### few -/
theorem few_loop (l : List S46) (hl : l.length ≤ 60) : ∀ (d k i : Nat), i + d = l.length → d < k → ∃ b, newsreelref08_Few.l0 k l (i : Int) = some b ∧ (b = true → ∀ p ∈ l.drop i, p.f1.length ≤ 40 ∧ (p.f0 ≤ 2000 ∨ 65536 ≤ p.f0)) := by
  intro d
  induction d with
  | zero =>
    intro k i hi hk
    obtain ⟨k, rfl⟩ : ∃ m, k = m + 1 := ⟨k - 1, by omega⟩
    refine ⟨true, ?_, fun _ p hp => ?_⟩
    · simp only [newsreelref08_Few.l0]
      rw [if_neg (by omega)]
    · rw [List.drop_of_length_le (by omega)] at hp
      cases hp
  | succ d ih =>
    intro k i hi hk
    obtain ⟨k, rfl⟩ : ∃ m, k = m + 1 := ⟨k - 1, by omega⟩
    have hlt : i < l.length := by omega
    have hrd : rd_T46 l (i : Int) = l[i] := by
      unfold rd_T46
      rw [Int.toNat_natCast, List.getD_eq_getElem?_getD, List.getElem?_eq_getElem hlt]
      rfl
    obtain ⟨b, hb, hq⟩ := ih k (i + 1) (by omega) (by omega)
    have hd : l.drop i = l[i] :: l.drop (i + 1) := List.drop_eq_getElem_cons hlt
    rw [hd]
    simp only [newsreelref08_Few.l0]
    rw [hrd, wrap_in (show -9223372036854775808 ≤ (i : Int) + 1 by omega) (by omega), show (i : Int) + 1 = ((i + 1 : Nat) : Int) by omega, hb, if_pos (show (i : Int) < (l.length : Int) by omega), if_pos (show 0 ≤ (i : Int) by omega)]
    by_cases h1 : (l[i].f1.length : Int) > 40
    · exact ⟨false, by rw [if_pos h1], fun h => by cases h⟩
    · rw [if_neg h1]
      by_cases h2 : l[i].f0 > 2000
      · rw [if_pos h2]
        by_cases h3 : l[i].f0 < 65536
        · exact ⟨false, by rw [if_pos h3], fun h => by cases h⟩
        · refine ⟨b, by rw [if_neg h3], fun h p hp => ?_⟩
          rcases List.mem_cons.1 hp with e | hp
          · subst e; omega
          · exact hq h p hp
      · refine ⟨b, by rw [if_neg h2], fun h p hp => ?_⟩
        rcases List.mem_cons.1 hp with e | hp
        · subst e; omega
        · exact hq h p hp
theorem few_law (l : List S46) (k : Nat) (hk : 100 ≤ k) : ∃ b, newsreelref08_Few.f k l = some b ∧ (b = true → l.length ≤ 60 ∧ ∀ p ∈ l, p.f1.length ≤ 40 ∧ (p.f0 ≤ 2000 ∨ 65536 ≤ p.f0)) := by
  unfold newsreelref08_Few.f
  by_cases h : (l.length : Int) > 60
  · exact ⟨false, by rw [if_pos h], fun h => by cases h⟩
  · rw [if_neg h]
    obtain ⟨b, hb, hq⟩ := few_loop l (by omega) l.length k 0 (by omega) (by omega)
    exact ⟨b, hb, fun h2 => ⟨by omega, by simpa using hq h2⟩⟩

/-! ### pieces -/
def addP (out : List S46) (q : Int) (z : Int) : List S46 :=
  if q % 16 = 0 ∨ out = [] then out ++ [⟨q, [z]⟩] else out.dropLast ++ [⟨(rd_T46 out ((out.length : Int) - 1)).f0, (rd_T46 out ((out.length : Int) - 1)).f1 ++ [z]⟩]
def cutP : List S46 → Int → List Int → List S46
  | out, _, [] => out
  | out, q, z :: zs => cutP (addP out q z) (q + 1) zs
theorem rd_last (out : List S46) (p : S46) : rd_T46 (out ++ [p]) (((out ++ [p]).length : Int) - 1) = p := by
  unfold rd_T46
  rw [List.length_append, List.length_singleton, show (((out.length + 1 : Nat) : Int) - 1).toNat = out.length by omega, List.getD_eq_getElem?_getD, List.getElem?_append_right (Nat.le_refl _), Nat.sub_self]
  rfl
theorem set_last (out : List S46) (p r : S46) : (out ++ [p]).set ((((out ++ [p]).length : Int) - 1)).toNat r = out ++ [r] := by
  rw [List.length_append, List.length_singleton, show (((out.length + 1 : Nat) : Int) - 1).toNat = out.length by omega, List.set_append_right _ _ (Nat.le_refl _), Nat.sub_self]
  rfl
theorem addP_new (out : List S46) (q z : Int) (h : q % 16 = 0 ∨ out = []) : addP out q z = out ++ [⟨q, [z]⟩] := by
  unfold addP; rw [if_pos h]
theorem addP_old (out : List S46) (p : S46) (q z : Int) (h : ¬ q % 16 = 0) : addP (out ++ [p]) q z = out ++ [⟨p.f0, p.f1 ++ [z]⟩] := by
  unfold addP
  rw [if_neg (by rintro (h1 | h1); exact h h1; simp at h1), rd_last, List.dropLast_concat]
theorem cut_append (xs zs : List Int) : ∀ (out : List S46) (q : Int), cutP out q (xs ++ zs) = cutP (cutP out q xs) (q + xs.length) zs := by
  induction xs with
  | nil => intro out q; simp [cutP]
  | cons x xs ih =>
    intro out q
    simp only [List.cons_append, cutP]
    rw [ih, List.length_cons, show q + 1 + (xs.length : Int) = q + ((xs.length + 1 : Nat) : Int) by omega]
theorem cut_in (zs : List Int) : ∀ (out : List S46) (p : S46) (q : Int), zs = [] ∨ (¬ q % 16 = 0 ∧ (zs.length : Int) ≤ 16 - q % 16) → cutP (out ++ [p]) q zs = out ++ [⟨p.f0, p.f1 ++ zs⟩] := by
  induction zs with
  | nil => intro out p q _; simp [cutP]
  | cons z zs ih =>
    intro out p q h
    rcases h with h | ⟨h1, h2⟩
    · cases h
    · simp only [cutP]
      rw [addP_old out p q z h1, ih]
      · simp
      · rw [List.length_cons] at h2
        cases zs with
        | nil => exact Or.inl rfl
        | cons y ys => rw [List.length_cons] at h2 ⊢; right; omega
theorem cut_block (out : List S46) (q : Int) (zs : List Int) (n : Nat) (h : q % 16 = 0 ∨ out = []) (h0 : 0 < n) (h1 : n ≤ zs.length) (h2 : (n : Int) ≤ 16 - q % 16) : cutP out q zs = cutP (out ++ [⟨q, zs.take n⟩]) (q + n) (zs.drop n) := by
  have e : zs = zs.take n ++ zs.drop n := (List.take_append_drop n zs).symm
  have hl : (zs.take n).length = n := by rw [List.length_take]; omega
  have e2 : cutP out q (zs.take n) = out ++ [⟨q, zs.take n⟩] := by
    generalize zs.take n = ys at hl
    cases ys with
    | nil => simp at hl; omega
    | cons y ys =>
      simp only [cutP]
      rw [addP_new out q y h, cut_in]
      · rfl
      · rw [List.length_cons] at hl
        cases ys with
        | nil => exact Or.inl rfl
        | cons w ws => rw [List.length_cons] at hl ⊢; right; omega
  conv => lhs; rw [e]
  rw [cut_append, e2, hl]
theorem pieces_loop : ∀ (k : Nat) (zs : List Int) (q : Int) (out : List S46), zs.length < k → 0 ≤ q → q + zs.length ≤ 65536 → (q % 16 = 0 ∨ out = [] ∨ zs = []) → out.length + zs.length ≤ 1000000 → block_Pieces.l0 k q zs out = some (cutP out q zs, 0) := by
  intro k
  induction k with
  | zero => intro zs q out h; omega
  | succ k ih =>
    intro zs q out hk h0 h1 h2 h3
    simp only [block_Pieces.l0]
    by_cases hz : (zs.length : Int) > 0
    · have e1 : Int.tmod q 16 = q % 16 := Int.tmod_eq_emod_of_nonneg h0
      have e2 : wrap64 (16 - q % 16) = 16 - q % 16 := wrap_in (by omega) (by omega)
      obtain ⟨n, hn⟩ : ∃ n : Nat, (n : Int) = mn (16 - q % 16) (zs.length : Int) := ⟨(mn (16 - q % 16) (zs.length : Int)).toNat, by unfold mn; split <;> omega⟩
      have hn0 : 0 < n ∧ n ≤ zs.length ∧ (n : Int) ≤ 16 - q % 16 := by unfold mn at hn; split at hn <;> omega
      have h2' : q % 16 = 0 ∨ out = [] := by
        rcases h2 with h | h | h
        · exact Or.inl h
        · exact Or.inr h
        · subst h; simp at hz
      rw [if_pos hz, e1, e2, ← hn, if_pos (show (0 : Int) ≤ (n : Int) by omega), if_pos (show (n : Int) ≤ (zs.length : Int) by omega), Int.toNat_natCast]
      unfold bytes_Clone.f
      have hq : wrap64 (q + (n : Int)) = q + n := wrap_in (by omega) (by omega)
      rw [if_pos (show (zs.take n).length < 140737488355328 by rw [List.length_take]; omega), Option.bind_some, if_pos (show out.length < 4398046511104 by omega), hq]
      have hdl : (zs.drop n).length = zs.length - n := List.length_drop
      rw [ih]
      · rw [cut_block out q zs n h2' hn0.1 hn0.2.1 hn0.2.2]
      · omega
      · omega
      · omega
      · by_cases hd : zs.drop n = []
        · exact Or.inr (Or.inr hd)
        · left
          have : (zs.drop n).length ≠ 0 := fun h => hd (List.eq_nil_of_length_eq_zero h)
          unfold mn at hn; split at hn <;> omega
      · rw [List.length_append, List.length_singleton]; omega
    · rw [if_neg hz]
      have : zs = [] := List.eq_nil_of_length_eq_zero (by omega)
      subst this
      rfl
theorem addP_len (out : List S46) (q z : Int) : (addP out q z).length ≤ out.length + 1 ∧ addP out q z ≠ [] := by
  unfold addP
  split
  · exact ⟨by simp, by simp⟩
  · refine ⟨?_, by simp⟩
    rw [List.length_append, List.length_dropLast, List.length_singleton]; omega
theorem ref_pieces_loop (b : List Int) (at_ : Int) (h0 : 0 ≤ at_) (h1 : at_ + b.length ≤ 65536) : ∀ (k i : Nat) (out : List S46), b.length - i < k → i ≤ b.length → (i = 0 ↔ out = []) → out.length ≤ i → (∀ p ∈ out, p.f1.length ≤ i) → newsreelref08_Pieces.l0 k at_ b out (i : Int) = some (cutP out (at_ + i) (b.drop i), 0) := by
  intro k
  induction k with
  | zero => intro i out h; omega
  | succ k ih =>
    intro i out hk hi hne hol hpl
    simp only [newsreelref08_Pieces.l0]
    by_cases hz : (i : Int) < (b.length : Int)
    · have hlt : i < b.length := by omega
      have hrd : rd b (i : Int) = b[i] := by
        unfold rd
        rw [Int.toNat_natCast, List.getD_eq_getElem?_getD, List.getElem?_eq_getElem hlt]
        rfl
      have hd : b.drop i = b[i] :: b.drop (i + 1) := List.drop_eq_getElem_cons hlt
      have hq : wrap64 (at_ + (i : Int)) = at_ + i := wrap_in (by omega) (by omega)
      have hi1 : wrap64 ((i : Int) + 1) = ((i + 1 : Nat) : Int) := by rw [wrap_in (by omega) (by omega)]; omega
      have e1 : Int.tmod (at_ + (i : Int)) 16 = (at_ + i) % 16 := Int.tmod_eq_emod_of_nonneg (by omega)
      have hgo : ∀ o2 : List S46, o2 = addP out (at_ + i) b[i] → (∀ p ∈ o2, p.f1.length ≤ i + 1) → newsreelref08_Pieces.l0 k at_ b o2 (((i + 1 : Nat)) : Int) = some (cutP out (at_ + i) (b.drop i), 0) := by
        intro o2 he hp
        obtain ⟨g1, g2⟩ := addP_len out (at_ + i) b[i]
        rw [ih (i + 1) o2 (by omega) (by omega) ⟨fun h => by omega, fun h => by rw [he] at h; exact absurd h g2⟩ (by rw [he]; omega) hp, hd, he]
        simp only [cutP]
        rw [show at_ + ((i + 1 : Nat) : Int) = at_ + (i : Int) + 1 by omega]
      have hnew : out.length < 4398046511104 → (q : at_ + (i : Int) = at_ + (i : Int)) → ((at_ + (i : Int)) % 16 = 0 ∨ out = []) → ((some (out ++ [(⟨at_ + (i : Int), ([] : List Int)⟩ : S46)] : List S46)).bind fun y => (if 0 ≤ (wrap64 ((y.length : Int) - 1)) then (if (wrap64 ((y.length : Int) - 1)) < (y.length : Int) then (if 0 ≤ (i : Int) then (if ((rd_T46 y (wrap64 ((y.length : Int) - 1))).f1).length < 140737488355328 then (newsreelref08_Pieces.l0 k at_ b (y.set ((wrap64 ((y.length : Int) - 1)) : Int).toNat (⟨(rd_T46 y (wrap64 ((y.length : Int) - 1))).f0, (((rd_T46 y (wrap64 ((y.length : Int) - 1))).f1) ++ [b[i]])⟩ : S46)) ((i + 1 : Nat) : Int)) else (none)) else (none)) else (none)) else (none))) = some (cutP out (at_ + i) (b.drop i), 0) := by
        intro ho _ hnw
        rw [Option.bind_some]
        have hyl : (out ++ [(⟨at_ + (i : Int), ([] : List Int)⟩ : S46)]).length = out.length + 1 := by rw [List.length_append, List.length_singleton]
        have hw : wrap64 (((out ++ [(⟨at_ + (i : Int), ([] : List Int)⟩ : S46)]).length : Int) - 1) = ((out ++ [(⟨at_ + (i : Int), ([] : List Int)⟩ : S46)]).length : Int) - 1 := wrap_in (by omega) (by omega)
        rw [hw, if_pos (by omega), if_pos (by omega), if_pos (show 0 ≤ (i : Int) by omega), rd_last, set_last, if_pos (show ([] : List Int).length < 140737488355328 by rw [List.length_nil]; omega)]
        refine hgo _ (addP_new out _ _ hnw).symm (fun p hp => ?_)
        rcases List.mem_append.1 hp with h | h
        · have := hpl p h; omega
        · rw [List.mem_singleton.1 h]; simp
      rw [if_pos hz, hrd, hq, hi1, e1]
      by_cases hi0 : (i : Int) = 0
      · rw [if_pos hi0, if_pos (show out.length < 4398046511104 by omega)]
        exact hnew (by omega) rfl (Or.inr (hne.1 (by omega)))
      · rw [if_neg hi0]
        by_cases hm : (at_ + (i : Int)) % 16 = 0
        · rw [if_pos hm, if_pos (show out.length < 4398046511104 by omega)]
          exact hnew (by omega) rfl (Or.inl hm)
        · rw [if_neg hm]
          rcases List.eq_nil_or_concat out with h | ⟨o1, p, h⟩
          · exact absurd (hne.2 h) (by omega)
          · rw [List.concat_eq_append] at h
            subst h
            have hyl : (o1 ++ [p]).length = o1.length + 1 := by rw [List.length_append, List.length_singleton]
            have hw : wrap64 (((o1 ++ [p]).length : Int) - 1) = ((o1 ++ [p]).length : Int) - 1 := wrap_in (by omega) (by omega)
            have hpp := hpl p (List.mem_append_right _ (List.mem_singleton.2 rfl))
            rw [hw, if_pos (show 0 ≤ ((o1 ++ [p]).length : Int) - 1 by omega), if_pos (show ((o1 ++ [p]).length : Int) - 1 < ((o1 ++ [p]).length : Int) by omega), if_pos (show 0 ≤ (i : Int) by omega), rd_last, set_last, if_pos (show p.f1.length < 140737488355328 by omega)]
            refine hgo _ (addP_old o1 p _ _ hm).symm (fun r hr => ?_)
            rcases List.mem_append.1 hr with h | h
            · have := hpl r (List.mem_append_left _ h); omega
            · rw [List.mem_singleton.1 h]
              show (p.f1 ++ [b[i]]).length ≤ i + 1
              rw [List.length_append, List.length_singleton]; omega
    · rw [if_neg hz, List.drop_of_length_le (by omega)]
      rfl
theorem pieces_both (k : Nat) (at_ : Int) (b : List Int) (hb : b.length ≤ 400) (hw : at_ < 9223372036854775808) (hk : 1000 ≤ k) : ∃ r, block_Pieces.f k at_ b = some r ∧ newsreelref08_Pieces.f k at_ b = some r ∧ r.1.length ≤ 400 := by
  obtain ⟨k, rfl⟩ : ∃ m, k = m + 1 := ⟨k - 1, by omega⟩
  unfold block_Pieces.f newsreelref08_Pieces.f
  by_cases h0 : at_ < 0
  · exact ⟨_, by rw [if_pos h0], by rw [if_pos h0], by simp⟩
  · rw [if_neg h0, if_neg h0]
    by_cases h1 : at_ > 65536
    · refine ⟨(([] : List S46), 4), ?_, ?_, by simp⟩
      · rw [if_pos h1]; rfl
      · rw [if_pos h1]; rfl
    · rw [if_neg h1, if_neg h1, wrap_in (show -9223372036854775808 ≤ 65536 - at_ by omega) (by omega)]
      by_cases h2 : (b.length : Int) > 65536 - at_
      · rw [decide_eq_true h2]
        refine ⟨(([] : List S46), 4), ?_, ?_, by simp⟩
        · rfl
        · rfl
      · rw [decide_eq_false h2]
        refine ⟨(cutP [] at_ b, 0), ?_, ?_, ?_⟩
        · simp only [block_Pieces.j0]
          rw [if_neg Bool.false_ne_true]
          exact pieces_loop k b at_ [] (by omega) (by omega) (by omega) (Or.inr (Or.inl rfl)) (by rw [List.length_nil]; omega)
        · simp only [newsreelref08_Pieces.j0]
          rw [if_neg Bool.false_ne_true]
          have := ref_pieces_loop b at_ (by omega) (by omega) k 0 [] (by omega) (by omega) ⟨fun _ => rfl, fun _ => rfl⟩ (by simp) (by simp)
          simpa using this
        · have hlen : ∀ (zs : List Int) (out : List S46) (q : Int), (cutP out q zs).length ≤ out.length + zs.length := by
            intro zs
            induction zs with
            | nil => intro out q; simp [cutP]
            | cons z zs ih =>
              intro out q
              simp only [cutP]
              have h3 := ih (addP out q z) (q + 1)
              have h4 := (addP_len out q z).1
              rw [List.length_cons]; omega
          have := hlen b [] at_
          rw [List.length_nil] at this
          show (cutP [] at_ b).length ≤ 400
          omega
theorem same_loop (l : List S46) (hl : l.length ≤ 1000) : ∀ (d k i : Nat), i + d = l.length → d < k → newsreelref08_Same.l0 k l l (i : Int) = some true := by
  intro d
  induction d with
  | zero =>
    intro k i hi hk
    obtain ⟨k, rfl⟩ : ∃ m, k = m + 1 := ⟨k - 1, by omega⟩
    simp only [newsreelref08_Same.l0]
    rw [if_neg (by omega)]
  | succ d ih =>
    intro k i hi hk
    obtain ⟨k, rfl⟩ : ∃ m, k = m + 1 := ⟨k - 1, by omega⟩
    simp only [newsreelref08_Same.l0]
    rw [if_pos (show (i : Int) < (l.length : Int) by omega), if_pos (show 0 ≤ (i : Int) by omega), wrap_in (show -9223372036854775808 ≤ (i : Int) + 1 by omega) (by omega), show (i : Int) + 1 = ((i + 1 : Nat) : Int) by omega, ih k (i + 1) (by omega) (by omega)]
    rw [if_pos (show (i : Int) < (l.length : Int) by omega)]
    simp
theorem same_law (l : List S46) (k : Nat) (hl : l.length ≤ 400) (hk : 1000 ≤ k) : newsreelref08_Same.f k l l = some true := by
  unfold newsreelref08_Same.f
  rw [if_pos rfl]
  exact same_loop l (by omega) l.length k 0 (by omega) (by omega)

/-! ### right -/
theorem ref_right (p : S46) : newsreelref08_Right.f p.f0 p.f1 = some (block_Lay.rightB p) := by
  unfold newsreelref08_Right.f block_Lay.rightB
  by_cases h1 : p.f0 ≥ 0
  · rw [if_pos h1, decide_eq_true (by omega : 0 ≤ p.f0)]
    by_cases h2 : p.f0 < 65536
    · rw [if_pos h2, decide_eq_true h2]
      by_cases h3 : (p.f1.length : Int) > 0
      · rw [if_pos h3, decide_eq_true (by omega : 0 < p.f1.length), Int.tmod_eq_emod_of_nonneg (by omega), wrap_in (show -9223372036854775808 ≤ 16 - p.f0 % 16 by omega) (by omega)]
        rfl
      · rw [if_neg h3, decide_eq_false (by omega : ¬ 0 < p.f1.length)]; rfl
    · rw [if_neg h2, decide_eq_false h2]; rfl
  · rw [if_neg h1, decide_eq_false (by omega : ¬ 0 ≤ p.f0)]; rfl

/-! ### lay -/
theorem same_list {X Y : List Int} (hl : X.length = Y.length) (h : ∀ i, X.getD i 0 = Y.getD i 0) : X = Y := by
  apply List.ext_getElem hl
  intro i h1 h2
  have := h i
  rw [List.getD_eq_getElem?_getD, List.getD_eq_getElem?_getD, List.getElem?_eq_getElem h1, List.getElem?_eq_getElem h2] at this
  exact this
theorem get_app (X Y : List Int) (i : Nat) : (X ++ Y).getD i 0 = if i < X.length then X.getD i 0 else Y.getD (i - X.length) 0 := by
  rw [List.getD_eq_getElem?_getD, List.getD_eq_getElem?_getD, List.getD_eq_getElem?_getD]
  split
  · rw [List.getElem?_append_left (by omega)]
  · rw [List.getElem?_append_right (by omega)]
theorem get_rep (n i : Nat) : (List.replicate n (0 : Int)).getD i 0 = 0 := by
  rw [List.getD_eq_getElem?_getD, List.getElem?_replicate]
  split <;> rfl
theorem get_out (X : List Int) (i : Nat) (h : X.length ≤ i) : X.getD i 0 = 0 := by
  rw [List.getD_eq_getElem?_getD, List.getElem?_eq_none h]; rfl
theorem get_pad (X : List Int) (n i : Nat) : (X ++ List.replicate n 0).getD i 0 = X.getD i 0 := by
  rw [get_app, get_rep]
  split
  · rfl
  · rw [get_out X i (by omega)]
theorem get_take (X : List Int) (n i : Nat) : (X.take n).getD i 0 = if i < n then X.getD i 0 else 0 := by
  rw [List.getD_eq_getElem?_getD, List.getElem?_take, List.getD_eq_getElem?_getD]
  split <;> rfl
theorem get_drop (X : List Int) (n i : Nat) : (X.drop n).getD i 0 = X.getD (n + i) 0 := by
  rw [List.getD_eq_getElem?_getD, List.getElem?_drop, List.getD_eq_getElem?_getD]
theorem get_set (X : List Int) (n i : Nat) (v : Int) (h : n < X.length) : (X.set n v).getD i 0 = if i = n then v else X.getD i 0 := by
  rw [List.getD_eq_getElem?_getD, List.getElem?_set, List.getD_eq_getElem?_getD]
  by_cases e : n = i
  · subst e; rw [if_pos rfl, if_pos rfl, if_pos h]; rfl
  · rw [if_neg e, if_neg (fun h => e h.symm)]
def putB (out : List Int) (pos : Nat) (z : Int) : List Int := (out ++ List.replicate (pos + 1 - out.length) 0).set pos z
def putsB : List Int → Nat → List Int → List Int
  | out, _, [] => out
  | out, pos, z :: zs => putsB (putB out pos z) (pos + 1) zs
theorem putB_len (out : List Int) (pos : Nat) (z : Int) : (putB out pos z).length = max out.length (pos + 1) := by
  unfold putB; rw [List.length_set, List.length_append, List.length_replicate]; omega
theorem putB_get (out : List Int) (pos : Nat) (z : Int) (i : Nat) : (putB out pos z).getD i 0 = if i = pos then z else out.getD i 0 := by
  unfold putB
  rw [get_set _ _ _ _ (by rw [List.length_append, List.length_replicate]; omega), get_pad]
theorem puts_len (zs : List Int) : ∀ (out : List Int) (pos : Nat), zs ≠ [] → (putsB out pos zs).length = max out.length (pos + zs.length) := by
  induction zs with
  | nil => intro out pos h; exact absurd rfl h
  | cons z zs ih =>
    intro out pos _
    simp only [putsB]
    cases zs with
    | nil => simp only [putsB]; rw [putB_len]; rfl
    | cons y ys => rw [ih _ _ (by simp), putB_len, List.length_cons, List.length_cons, List.length_cons]; omega
theorem puts_get (zs : List Int) : ∀ (out : List Int) (pos i : Nat), (putsB out pos zs).getD i 0 = if pos ≤ i ∧ i < pos + zs.length then zs.getD (i - pos) 0 else out.getD i 0 := by
  induction zs with
  | nil => intro out pos i; simp only [putsB]; rw [if_neg (by rw [List.length_nil]; omega)]
  | cons z zs ih =>
    intro out pos i
    simp only [putsB]
    rw [ih, putB_get, List.length_cons]
    by_cases h1 : i = pos
    · subst h1
      rw [if_neg (by omega), if_pos rfl, if_pos (by omega), Nat.sub_self]
      rfl
    · by_cases h2 : pos + 1 ≤ i ∧ i < pos + 1 + zs.length
      · rw [if_pos h2, if_pos (by omega), show i - pos = i - (pos + 1) + 1 by omega]
        rfl
      · rw [if_neg h2, if_neg h1, if_neg (by omega)]
theorem puts_one (out : List Int) (p : S46) (h : block_Lay.rightB p = true) : putsB out p.f0.toNat p.f1 = block_Lay.one out p := by
  obtain ⟨h1, h2, h3, h4⟩ := block_Lay.right_b h
  have hne : p.f1 ≠ [] := fun e => by rw [e] at h3; simp at h3
  unfold block_Lay.one
  rw [if_pos h]
  generalize hp : p.f0.toNat = pos
  apply same_list
  · rw [puts_len _ _ _ hne]
    simp only [List.length_append, List.length_take, List.length_drop, List.length_replicate]
    omega
  · intro i
    rw [puts_get, get_app, get_app, get_take, get_drop, get_pad, get_pad]
    simp only [List.length_append, List.length_take, List.length_replicate]
    rw [show min pos (out.length + (pos + p.f1.length - out.length)) = pos by omega]
    by_cases c1 : i < pos
    · rw [if_neg (by omega), if_pos (by omega), if_pos c1, if_pos c1]
    · by_cases c2 : i < pos + p.f1.length
      · rw [if_pos (by omega), if_pos c2, if_neg c1]
      · rw [if_neg (by omega), if_neg c2, show pos + p.f1.length + (i - (pos + p.f1.length)) = i by omega]
theorem put_zero (out : List Int) (pos : Nat) (z : Int) (h : out.length ≤ pos) : putB (out ++ [0]) pos z = putB out pos z := by
  apply same_list
  · rw [putB_len, putB_len, List.length_append, List.length_singleton]; omega
  · intro i
    rw [putB_get, putB_get]
    have := get_pad out 1 i
    rw [show List.replicate 1 (0 : Int) = [0] from rfl] at this
    rw [this]
theorem lay_l2 (l : List S46) (x : Nat) (hx : x < l.length) (hx2 : x < 1000) (h0 : 0 ≤ l[x].f0) (h1 : l[x].f0 < 65536) (j : Nat) (hj : j < l[x].f1.length) (hj2 : j < 1000) (K : Nat) (r : Option (List Int)) : ∀ (d : Nat) (out : List Int), l[x].f0.toNat + j + 1 - out.length ≤ d → out.length ≤ 1000000 → (∀ k, K ≤ k → newsreelref08_Lay.l1 k l (putB out (l[x].f0.toNat + j) (l[x].f1[j])) (x : Int) ((j + 1 : Nat) : Int) = r) → ∀ k, K + d + 1 ≤ k → newsreelref08_Lay.l2 k l out (x : Int) (j : Int) = r := by
  have hrd : rd_T46 l (x : Int) = l[x] := by
    unfold rd_T46
    rw [Int.toNat_natCast, List.getD_eq_getElem?_getD, List.getElem?_eq_getElem hx]
    rfl
  have hrj : rd l[x].f1 (j : Int) = l[x].f1[j] := by
    unfold rd
    rw [Int.toNat_natCast, List.getD_eq_getElem?_getD, List.getElem?_eq_getElem hj]
    rfl
  have hw : wrap64 (l[x].f0 + (j : Int)) = l[x].f0 + j := wrap_in (by omega) (by omega)
  have hw1 : wrap64 ((j : Int) + 1) = ((j + 1 : Nat) : Int) := by rw [wrap_in (by omega) (by omega)]; omega
  intro d
  induction d with
  | zero =>
    intro out hd ho hr k hk
    obtain ⟨k, rfl⟩ : ∃ m, k = m + 1 := ⟨k - 1, by omega⟩
    simp only [newsreelref08_Lay.l2]
    have hset : out.set (l[x].f0 + (j : Int)).toNat l[x].f1[j] = putB out (l[x].f0.toNat + j) l[x].f1[j] := by
      unfold putB
      rw [show l[x].f0.toNat + j + 1 - out.length = 0 by omega, List.replicate_zero, List.append_nil, show (l[x].f0 + (j : Int)).toNat = l[x].f0.toNat + j by omega]
    rw [hrd, hw, hw1, hrj, if_pos (show 0 ≤ (x : Int) by omega), if_pos (show (x : Int) < (l.length : Int) by omega), if_neg (show ¬ (out.length : Int) ≤ l[x].f0 + (j : Int) by omega), if_pos (show 0 ≤ (j : Int) by omega), if_pos (show (j : Int) < (l[x].f1.length : Int) by omega), if_pos (show 0 ≤ l[x].f0 + (j : Int) by omega), if_pos (show l[x].f0 + (j : Int) < (out.length : Int) by omega), hset]
    exact hr k (by omega)
  | succ d ih =>
    intro out hd ho hr k hk
    by_cases hfit : l[x].f0.toNat + j + 1 - out.length ≤ d
    · exact ih out hfit ho hr k (by omega)
    · obtain ⟨k, rfl⟩ : ∃ m, k = m + 1 := ⟨k - 1, by omega⟩
      simp only [newsreelref08_Lay.l2]
      rw [hrd, hw, if_pos (show 0 ≤ (x : Int) by omega), if_pos (show (x : Int) < (l.length : Int) by omega), if_pos (show (out.length : Int) ≤ l[x].f0 + (j : Int) by omega), if_pos (show out.length < 140737488355328 by omega)]
      have hle : (out ++ [0]).length = out.length + 1 := by rw [List.length_append, List.length_singleton]
      refine ih (out ++ [0]) (by omega) (by omega) (fun k' hk' => ?_) k (by omega)
      rw [put_zero _ _ _ (by omega)]
      exact hr k' hk'
theorem lay_l1 (l : List S46) (x : Nat) (hx : x < l.length) (hx2 : x < 1000) (h0 : 0 ≤ l[x].f0) (h1 : l[x].f0 < 65536) (hj2 : l[x].f1.length < 1000) (K : Nat) (r : Option (List Int)) : ∀ (d : Nat) (j : Nat) (out : List Int), j + d = l[x].f1.length → out.length ≤ 100000 → (∀ k, K ≤ k → newsreelref08_Lay.l0 k l (putsB out (l[x].f0.toNat + j) (l[x].f1.drop j)) ((x + 1 : Nat) : Int) = r) → ∀ k, K + d * 70000 + 1 ≤ k → newsreelref08_Lay.l1 k l out (x : Int) (j : Int) = r := by
  have hrd : rd_T46 l (x : Int) = l[x] := by
    unfold rd_T46
    rw [Int.toNat_natCast, List.getD_eq_getElem?_getD, List.getElem?_eq_getElem hx]
    rfl
  intro d
  induction d with
  | zero =>
    intro j out hd ho hr k hk
    obtain ⟨k, rfl⟩ : ∃ m, k = m + 1 := ⟨k - 1, by omega⟩
    simp only [newsreelref08_Lay.l1]
    rw [hrd, if_pos (show 0 ≤ (x : Int) by omega), if_pos (show (x : Int) < (l.length : Int) by omega), if_neg (show ¬ (j : Int) < (l[x].f1.length : Int) by omega), wrap_in (show -9223372036854775808 ≤ (x : Int) + 1 by omega) (by omega)]
    have := hr k (by omega)
    rw [List.drop_of_length_le (by omega)] at this
    exact this
  | succ d ih =>
    intro j out hd ho hr k hk
    obtain ⟨k, rfl⟩ : ∃ m, k = m + 1 := ⟨k - 1, by omega⟩
    simp only [newsreelref08_Lay.l1]
    have hj : j < l[x].f1.length := by omega
    rw [hrd, if_pos (show 0 ≤ (x : Int) by omega), if_pos (show (x : Int) < (l.length : Int) by omega), if_pos (show (j : Int) < (l[x].f1.length : Int) by omega)]
    refine lay_l2 l x hx hx2 h0 h1 j hj (by omega) (K + d * 70000 + 1) r 66540 out (by omega) (by omega) (fun k' hk' => ?_) k (by omega)
    refine ih (j + 1) _ (by omega) (by rw [putB_len]; omega) (fun k2 hk2 => ?_) k' hk'
    have := hr k2 hk2
    rw [List.drop_eq_getElem_cons hj] at this
    simp only [putsB] at this
    exact this
theorem lay_l0 (C : Nat) (hC : 40 * 70000 + 10 ≤ C) (l : List S46) (hl : l.length ≤ 60) (hb : ∀ p ∈ l, p.f1.length ≤ 40) : ∀ (d k i : Nat) (out : List Int), i + d = l.length → out.length ≤ 100000 → d * C < k → newsreelref08_Lay.l0 k l out (i : Int) = some ((l.drop i).foldl block_Lay.one out) := by
  intro d
  induction d with
  | zero =>
    intro k i out hi ho hk
    obtain ⟨k, rfl⟩ : ∃ m, k = m + 1 := ⟨k - 1, by omega⟩
    simp only [newsreelref08_Lay.l0]
    rw [if_neg (by omega), List.drop_of_length_le (by omega)]
    rfl
  | succ d ih =>
    intro k i out hi ho hk
    obtain ⟨k, rfl⟩ : ∃ m, k = m + 1 := ⟨k - 1, by omega⟩
    rw [Nat.succ_mul] at hk
    have hk1 : d * C < k := by generalize d * C = D at hk ⊢; omega
    have hk2 : d * C + 1 + 40 * 70000 + 1 ≤ k := by generalize d * C = D at hk ⊢; omega
    clear hk
    have hlt : i < l.length := by omega
    have hrd : rd_T46 l (i : Int) = l[i] := by
      unfold rd_T46
      rw [Int.toNat_natCast, List.getD_eq_getElem?_getD, List.getElem?_eq_getElem hlt]
      rfl
    have hd : l.drop i = l[i] :: l.drop (i + 1) := List.drop_eq_getElem_cons hlt
    have hol := block_Lay.one_len out l[i]
    have hlen := hb l[i] (List.getElem_mem hlt)
    rw [hd, List.foldl_cons]
    simp only [newsreelref08_Lay.l0]
    rw [if_pos (show (i : Int) < (l.length : Int) by omega), if_pos (show 0 ≤ (i : Int) by omega), hrd, ref_right, Option.bind_some]
    cases hrb : block_Lay.rightB l[i] with
    | false =>
      rw [if_neg Bool.false_ne_true, wrap_in (show -9223372036854775808 ≤ (i : Int) + 1 by omega) (by omega), show (i : Int) + 1 = ((i + 1 : Nat) : Int) by omega, ih k (i + 1) out (by omega) ho hk1]
      have : block_Lay.one out l[i] = out := by unfold block_Lay.one; rw [hrb]; rfl
      rw [this]
    | true =>
      obtain ⟨h1, h2, h3, h4⟩ := block_Lay.right_b hrb
      rw [if_pos rfl]
      refine lay_l1 l i hlt (by omega) h1 h2 (by omega) (d * C + 1) _ l[i].f1.length 0 out (by omega) ho (fun k' hk' => ?_) k (Nat.le_trans (Nat.add_le_add_right (Nat.add_le_add_left (Nat.mul_le_mul_right _ hlen) _) _) hk2)
      rw [List.drop_zero, Nat.add_zero, puts_one out l[i] hrb]
      exact ih k' (i + 1) _ (by omega) (by omega) (by omega)
theorem lay_both (f : List Int) (l : List S46) (hf : f.length ≤ 400) (hl : l.length ≤ 60) (hb : ∀ p ∈ l, p.f1.length ≤ 40) (k : Nat) (hk : 200000000 ≤ k) : block_Lay.f f l = some (l.foldl block_Lay.one f) ∧ newsreelref08_Lay.f k f l = some (l.foldl block_Lay.one f) := by
  refine ⟨by unfold block_Lay.f; rw [if_pos (by omega)], ?_⟩
  unfold newsreelref08_Lay.f
  rw [Option.bind_some, if_pos (show ([] : List Int).length + f.length < 140737488355328 by rw [List.length_nil]; omega), List.nil_append]
  refine lay_l0 3000000 (by omega) l hl hb l.length k 0 f (by omega) (by omega) (Nat.lt_of_le_of_lt (Nat.mul_le_mul_right _ hl) (by omega))

/-! ### the law -/
theorem law_loop (l : List S46) (f : List Int) (x : List S46) (e : Int) (hf : f.length ≤ 400) (hl : l.length ≤ 60) (hx : x.length ≤ 400) (hb : ∀ p ∈ l, p.f1.length ≤ 40) : ∀ (d k i : Nat), i + d = l.length → 200000000 + d < k → newsreellaw08_BlockTells.l0 k l f x e x e (i : Int) = some true := by
  intro d
  induction d with
  | zero =>
    intro k i hi hk
    obtain ⟨k, rfl⟩ : ∃ m, k = m + 1 := ⟨k - 1, by omega⟩
    simp only [newsreellaw08_BlockTells.l0]
    obtain ⟨q1, q2⟩ := lay_both f l hf hl hb k (by omega)
    rw [if_neg (by omega), same_law x k hx (by omega), Option.bind_some, if_pos rfl, if_pos trivial, q1, q2, Option.bind_some, Option.bind_some]
    unfold newsreelref01_Bytes.f
    rw [beq_self_eq_true, Option.bind_some, if_pos rfl, awake_true (by omega)]
    rfl
  | succ d ih =>
    intro k i hi hk
    obtain ⟨k, rfl⟩ : ∃ m, k = m + 1 := ⟨k - 1, by omega⟩
    simp only [newsreellaw08_BlockTells.l0]
    rw [if_pos (show (i : Int) < (l.length : Int) by omega), if_pos (show 0 ≤ (i : Int) by omega), block_Lay.right_f, ref_right, Option.bind_some, Option.bind_some, if_neg (by simp), wrap_in (show -9223372036854775808 ≤ (i : Int) + 1 by omega) (by omega), show (i : Int) + 1 = ((i + 1 : Nat) : Int) by omega]
    exact ih k (i + 1) (by omega) (by omega)
theorem j0_true (k : Nat) (hk : 40 ≤ k) (a : Int) (l : List S46) (b f : List Int) : newsreellaw08_BlockTells.j0 k a l b f true = some true := by
  obtain ⟨k, rfl⟩ : ∃ m, k = m + 1 := ⟨k - 1, by omega⟩
  simp only [newsreellaw08_BlockTells.j0]
  rw [if_pos trivial, awake_true (by omega)]
  rfl
theorem BlockTells_pure : newsreellaw08_BlockTells.Pure := by
  intro y0 y1 y2 h0 _ _
  have b0 := bounds_i64 h0
  obtain ⟨K, hK⟩ : ∃ K : Nat, K = 300000000 := ⟨_, rfl⟩
  refine ⟨K, ?_⟩
  unfold newsreellaw08_BlockTells.f
  by_cases hl : (y1.f0.length : Int) > 400
  · rw [if_pos hl]
    exact j0_true K (by omega) _ _ _ _
  · rw [if_neg hl]
    by_cases hm : (y1.f1.length : Int) > 400
    · rw [if_pos hm]
      exact j0_true K (by omega) _ _ _ _
    · rw [if_neg hm]
      obtain ⟨b, hb, hq⟩ := few_law y2 K (by omega)
      rw [hb, Option.bind_some]
      cases b with
      | false => exact j0_true K (by omega) _ _ _ _
      | true =>
        obtain ⟨g1, g2⟩ := hq rfl
        obtain ⟨K, rfl⟩ : ∃ m, K = m + 1 := ⟨K - 1, by omega⟩
        show newsreellaw08_BlockTells.j0 (K + 1) y0 y2 y1.f0 y1.f1 false = some true
        simp only [newsreellaw08_BlockTells.j0]
        obtain ⟨r, hr1, hr2, hr3⟩ := pieces_both K y0 y1.f0 (by omega) (by omega) (by omega)
        rw [if_neg Bool.false_ne_true, hr1, hr2, Option.bind_some, Option.bind_some]
        exact law_loop y2 y1.f1 r.1 r.2 (by omega) g1 hr3 (fun p hp => (g2 p hp).1) y2.length K 0 (by omega) (by omega)

end Go.Proofs.Ytkkikdjfigffhaa.XBlt
