/- Which files may be, and any one with bytes written to it, made sure, and behind a crash, are the reference's: for every input. -/
import Derived.Test.YtkkikdjfigffhaaXFilTellFileTells
import Derived.OpenShut
import Derived.Laws.Strings
namespace Go.Proofs.Ytkkikdjfigffhaa.XFil
open Go.RowKit Go.Proofs.YtkkikdjfigffhaaW.PrintWords Go.Proofs.YtkkikdjfigffhaaW.PrintLast Go.Proofs.YtkkikdjfigffhaaW.PrintMore

theorem wrap_in {i : Int} (h0 : -9223372036854775808 ≤ i) (h : i < 9223372036854775808) : wrap64 i = i := by
  unfold wrap64; omega

/-! ### few -/
theorem few_loop (l : List S46) (hl : l.length ≤ 60) : ∀ (d k i : Nat), i + d = l.length → d < k → ∃ b, newsreelref08_Few.l0 k l (i : Int) = some b ∧ (b = true → ∀ p ∈ l.drop i, p.f1.length ≤ 40 ∧ (p.f0 ≤ 2000 ∨ 65536 ≤ p.f0)) := by
  intro d
  induction d with
  | zero =>
    intro k i hi hk
    obtain ⟨k, rfl⟩ : ∃ m, k = m + 1 := ⟨k - 1, by omega⟩
    refine ⟨true, ?_, fun _ p hp => ?_⟩
    · simp only [newsreelref08_Few.l0]
      rw [if_neg (by omega)]
    · rw [List.drop_of_length_le (by omega)] at hp
      cases hp
  | succ d ih =>
    intro k i hi hk
    obtain ⟨k, rfl⟩ : ∃ m, k = m + 1 := ⟨k - 1, by omega⟩
    have hlt : i < l.length := by omega
    have hrd : rd_T46 l (i : Int) = l[i] := by
      unfold rd_T46
      rw [Int.toNat_natCast, List.getD_eq_getElem?_getD, List.getElem?_eq_getElem hlt]
      rfl
    obtain ⟨b, hb, hq⟩ := ih k (i + 1) (by omega) (by omega)
    have hd : l.drop i = l[i] :: l.drop (i + 1) := List.drop_eq_getElem_cons hlt
    rw [hd]
    simp only [newsreelref08_Few.l0]
    rw [hrd, wrap_in (show -9223372036854775808 ≤ (i : Int) + 1 by omega) (by omega), show (i : Int) + 1 = ((i + 1 : Nat) : Int) by omega, hb, if_pos (show (i : Int) < (l.length : Int) by omega), if_pos (show 0 ≤ (i : Int) by omega)]
    by_cases h1 : (l[i].f1.length : Int) > 40
    · exact ⟨false, by rw [if_pos h1], fun h => by cases h⟩
    · rw [if_neg h1]
      by_cases h2 : l[i].f0 > 2000
      · rw [if_pos h2]
        by_cases h3 : l[i].f0 < 65536
        · exact ⟨false, by rw [if_pos h3], fun h => by cases h⟩
        · refine ⟨b, by rw [if_neg h3], fun h p hp => ?_⟩
          rcases List.mem_cons.1 hp with e | hp
          · subst e; omega
          · exact hq h p hp
      · refine ⟨b, by rw [if_neg h2], fun h p hp => ?_⟩
        rcases List.mem_cons.1 hp with e | hp
        · subst e; omega
        · exact hq h p hp
theorem few_law (l : List S46) (k : Nat) (hk : 100 ≤ k) : ∃ b, newsreelref08_Few.f k l = some b ∧ (b = true → l.length ≤ 60 ∧ ∀ p ∈ l, p.f1.length ≤ 40 ∧ (p.f0 ≤ 2000 ∨ 65536 ≤ p.f0)) := by
  unfold newsreelref08_Few.f
  by_cases h : (l.length : Int) > 60
  · exact ⟨false, by rw [if_pos h], fun h => by cases h⟩
  · rw [if_neg h]
    obtain ⟨b, hb, hq⟩ := few_loop l (by omega) l.length k 0 (by omega) (by omega)
    exact ⟨b, hb, fun h2 => ⟨by omega, by simpa using hq h2⟩⟩

/-! ### pieces -/
def addP (out : List S46) (q : Int) (z : Int) : List S46 :=
  if q % 16 = 0 ∨ out = [] then out ++ [⟨q, [z]⟩] else out.dropLast ++ [⟨(rd_T46 out ((out.length : Int) - 1)).f0, (rd_T46 out ((out.length : Int) - 1)).f1 ++ [z]⟩]
def cutP : List S46 → Int → List Int → List S46
  | out, _, [] => out
  | out, q, z :: zs => cutP (addP out q z) (q + 1) zs
theorem rd_last (out : List S46) (p : S46) : rd_T46 (out ++ [p]) (((out ++ [p]).length : Int) - 1) = p := by
  unfold rd_T46
  rw [List.length_append, List.length_singleton, show (((out.length + 1 : Nat) : Int) - 1).toNat = out.length by omega, List.getD_eq_getElem?_getD, List.getElem?_append_right (Nat.le_refl _), Nat.sub_self]
  rfl
theorem set_last (out : List S46) (p r : S46) : (out ++ [p]).set ((((out ++ [p]).length : Int) - 1)).toNat r = out ++ [r] := by
  rw [List.length_append, List.length_singleton, show (((out.length + 1 : Nat) : Int) - 1).toNat = out.length by omega, List.set_append_right _ _ (Nat.le_refl _), Nat.sub_self]
  rfl
theorem addP_new (out : List S46) (q z : Int) (h : q % 16 = 0 ∨ out = []) : addP out q z = out ++ [⟨q, [z]⟩] := by
  unfold addP; rw [if_pos h]
theorem addP_old (out : List S46) (p : S46) (q z : Int) (h : ¬ q % 16 = 0) : addP (out ++ [p]) q z = out ++ [⟨p.f0, p.f1 ++ [z]⟩] := by
  unfold addP
  rw [if_neg (by rintro (h1 | h1); exact h h1; simp at h1), rd_last, List.dropLast_concat]
theorem cut_append (xs zs : List Int) : ∀ (out : List S46) (q : Int), cutP out q (xs ++ zs) = cutP (cutP out q xs) (q + xs.length) zs := by
  induction xs with
  | nil => intro out q; simp [cutP]
  | cons x xs ih =>
    intro out q
    simp only [List.cons_append, cutP]
    rw [ih, List.length_cons, show q + 1 + (xs.length : Int) = q + ((xs.length + 1 : Nat) : Int) by omega]
theorem cut_in (zs : List Int) : ∀ (out : List S46) (p : S46) (q : Int), zs = [] ∨ (¬ q % 16 = 0 ∧ (zs.length : Int) ≤ 16 - q % 16) → cutP (out ++ [p]) q zs = out ++ [⟨p.f0, p.f1 ++ zs⟩] := by
  induction zs with
  | nil => intro out p q _; simp [cutP]
  | cons z zs ih =>
    intro out p q h
    rcases h with h | ⟨h1, h2⟩
    · cases h
    · simp only [cutP]
      rw [addP_old out p q z h1, ih]
      · simp
      · rw [List.length_cons] at h2
        cases zs with
        | nil => exact Or.inl rfl
        | cons y ys => rw [List.length_cons] at h2 ⊢; right; omega
theorem cut_block (out : List S46) (q : Int) (zs : List Int) (n : Nat) (h : q % 16 = 0 ∨ out = []) (h0 : 0 < n) (h1 : n ≤ zs.length) (h2 : (n : Int) ≤ 16 - q % 16) : cutP out q zs = cutP (out ++ [⟨q, zs.take n⟩]) (q + n) (zs.drop n) := by
  have e : zs = zs.take n ++ zs.drop n := (List.take_append_drop n zs).symm
  have hl : (zs.take n).length = n := by rw [List.length_take]; omega
  have e2 : cutP out q (zs.take n) = out ++ [⟨q, zs.take n⟩] := by
    generalize zs.take n = ys at hl
    cases ys with
    | nil => simp at hl; omega
    | cons y ys =>
      simp only [cutP]
      rw [addP_new out q y h, cut_in]
      · rfl
      · rw [List.length_cons] at hl
        cases ys with
        | nil => exact Or.inl rfl
        | cons w ws => rw [List.length_cons] at hl ⊢; right; omega
  conv => lhs; rw [e]
  rw [cut_append, e2, hl]
theorem pieces_loop : ∀ (k : Nat) (zs : List Int) (q : Int) (out : List S46), zs.length < k → 0 ≤ q → q + zs.length ≤ 65536 → (q % 16 = 0 ∨ out = [] ∨ zs = []) → out.length + zs.length ≤ 1000000 → block_Pieces.l0 k q zs out = some (cutP out q zs, 0) := by
  intro k
  induction k with
  | zero => intro zs q out h; omega
  | succ k ih =>
    intro zs q out hk h0 h1 h2 h3
    simp only [block_Pieces.l0]
    by_cases hz : (zs.length : Int) > 0
    · have e1 : Int.tmod q 16 = q % 16 := Int.tmod_eq_emod_of_nonneg h0
      have e2 : wrap64 (16 - q % 16) = 16 - q % 16 := wrap_in (by omega) (by omega)
      obtain ⟨n, hn⟩ : ∃ n : Nat, (n : Int) = mn (16 - q % 16) (zs.length : Int) := ⟨(mn (16 - q % 16) (zs.length : Int)).toNat, by unfold mn; split <;> omega⟩
      have hn0 : 0 < n ∧ n ≤ zs.length ∧ (n : Int) ≤ 16 - q % 16 := by unfold mn at hn; split at hn <;> omega
      have h2' : q % 16 = 0 ∨ out = [] := by
        rcases h2 with h | h | h
        · exact Or.inl h
        · exact Or.inr h
        · subst h; simp at hz
      rw [if_pos hz, e1, e2, ← hn, if_pos (show (0 : Int) ≤ (n : Int) by omega), if_pos (show (n : Int) ≤ (zs.length : Int) by omega), Int.toNat_natCast]
      unfold bytes_Clone.f
      have hq : wrap64 (q + (n : Int)) = q + n := wrap_in (by omega) (by omega)
      rw [if_pos (show (zs.take n).length < 140737488355328 by rw [List.length_take]; omega), Option.bind_some, if_pos (show out.length < 4398046511104 by omega), hq]
      have hdl : (zs.drop n).length = zs.length - n := List.length_drop
      rw [ih]
      · rw [cut_block out q zs n h2' hn0.1 hn0.2.1 hn0.2.2]
      · omega
      · omega
      · omega
      · by_cases hd : zs.drop n = []
        · exact Or.inr (Or.inr hd)
        · left
          have : (zs.drop n).length ≠ 0 := fun h => hd (List.eq_nil_of_length_eq_zero h)
          unfold mn at hn; split at hn <;> omega
      · rw [List.length_append, List.length_singleton]; omega
    · rw [if_neg hz]
      have : zs = [] := List.eq_nil_of_length_eq_zero (by omega)
      subst this
      rfl
theorem addP_len (out : List S46) (q z : Int) : (addP out q z).length ≤ out.length + 1 ∧ addP out q z ≠ [] := by
  unfold addP
  split
  · exact ⟨by simp, by simp⟩
  · refine ⟨?_, by simp⟩
    rw [List.length_append, List.length_dropLast, List.length_singleton]; omega
theorem ref_pieces_loop (b : List Int) (at_ : Int) (h0 : 0 ≤ at_) (h1 : at_ + b.length ≤ 65536) : ∀ (k i : Nat) (out : List S46), b.length - i < k → i ≤ b.length → (i = 0 ↔ out = []) → out.length ≤ i → (∀ p ∈ out, p.f1.length ≤ i) → newsreelref08_Pieces.l0 k at_ b out (i : Int) = some (cutP out (at_ + i) (b.drop i), 0) := by
  intro k
  induction k with
  | zero => intro i out h; omega
  | succ k ih =>
    intro i out hk hi hne hol hpl
    simp only [newsreelref08_Pieces.l0]
    by_cases hz : (i : Int) < (b.length : Int)
    · have hlt : i < b.length := by omega
      have hrd : rd b (i : Int) = b[i] := by
        unfold rd
        rw [Int.toNat_natCast, List.getD_eq_getElem?_getD, List.getElem?_eq_getElem hlt]
        rfl
      have hd : b.drop i = b[i] :: b.drop (i + 1) := List.drop_eq_getElem_cons hlt
      have hq : wrap64 (at_ + (i : Int)) = at_ + i := wrap_in (by omega) (by omega)
      have hi1 : wrap64 ((i : Int) + 1) = ((i + 1 : Nat) : Int) := by rw [wrap_in (by omega) (by omega)]; omega
      have e1 : Int.tmod (at_ + (i : Int)) 16 = (at_ + i) % 16 := Int.tmod_eq_emod_of_nonneg (by omega)
      have hgo : ∀ o2 : List S46, o2 = addP out (at_ + i) b[i] → (∀ p ∈ o2, p.f1.length ≤ i + 1) → newsreelref08_Pieces.l0 k at_ b o2 (((i + 1 : Nat)) : Int) = some (cutP out (at_ + i) (b.drop i), 0) := by
        intro o2 he hp
        obtain ⟨g1, g2⟩ := addP_len out (at_ + i) b[i]
        rw [ih (i + 1) o2 (by omega) (by omega) ⟨fun h => by omega, fun h => by rw [he] at h; exact absurd h g2⟩ (by rw [he]; omega) hp, hd, he]
        simp only [cutP]
        rw [show at_ + ((i + 1 : Nat) : Int) = at_ + (i : Int) + 1 by omega]
      have hnew : out.length < 4398046511104 → (q : at_ + (i : Int) = at_ + (i : Int)) → ((at_ + (i : Int)) % 16 = 0 ∨ out = []) → ((some (out ++ [(⟨at_ + (i : Int), ([] : List Int)⟩ : S46)] : List S46)).bind fun y => (if 0 ≤ (wrap64 ((y.length : Int) - 1)) then (if (wrap64 ((y.length : Int) - 1)) < (y.length : Int) then (if 0 ≤ (i : Int) then (if ((rd_T46 y (wrap64 ((y.length : Int) - 1))).f1).length < 140737488355328 then (newsreelref08_Pieces.l0 k at_ b (y.set ((wrap64 ((y.length : Int) - 1)) : Int).toNat (⟨(rd_T46 y (wrap64 ((y.length : Int) - 1))).f0, (((rd_T46 y (wrap64 ((y.length : Int) - 1))).f1) ++ [b[i]])⟩ : S46)) ((i + 1 : Nat) : Int)) else (none)) else (none)) else (none)) else (none))) = some (cutP out (at_ + i) (b.drop i), 0) := by
        intro ho _ hnw
        rw [Option.bind_some]
        have hyl : (out ++ [(⟨at_ + (i : Int), ([] : List Int)⟩ : S46)]).length = out.length + 1 := by rw [List.length_append, List.length_singleton]
        have hw : wrap64 (((out ++ [(⟨at_ + (i : Int), ([] : List Int)⟩ : S46)]).length : Int) - 1) = ((out ++ [(⟨at_ + (i : Int), ([] : List Int)⟩ : S46)]).length : Int) - 1 := wrap_in (by omega) (by omega)
        rw [hw, if_pos (by omega), if_pos (by omega), if_pos (show 0 ≤ (i : Int) by omega), rd_last, set_last, if_pos (show ([] : List Int).length < 140737488355328 by rw [List.length_nil]; omega)]
        refine hgo _ (addP_new out _ _ hnw).symm (fun p hp => ?_)
        rcases List.mem_append.1 hp with h | h
        · have := hpl p h; omega
        · rw [List.mem_singleton.1 h]; simp
      rw [if_pos hz, hrd, hq, hi1, e1]
      by_cases hi0 : (i : Int) = 0
      · rw [if_pos hi0, if_pos (show out.length < 4398046511104 by omega)]
        exact hnew (by omega) rfl (Or.inr (hne.1 (by omega)))
      · rw [if_neg hi0]
        by_cases hm : (at_ + (i : Int)) % 16 = 0
        · rw [if_pos hm, if_pos (show out.length < 4398046511104 by omega)]
          exact hnew (by omega) rfl (Or.inl hm)
        · rw [if_neg hm]
          rcases List.eq_nil_or_concat out with h | ⟨o1, p, h⟩
          · exact absurd (hne.2 h) (by omega)
          · rw [List.concat_eq_append] at h
            subst h
            have hyl : (o1 ++ [p]).length = o1.length + 1 := by rw [List.length_append, List.length_singleton]
            have hw : wrap64 (((o1 ++ [p]).length : Int) - 1) = ((o1 ++ [p]).length : Int) - 1 := wrap_in (by omega) (by omega)
            have hpp := hpl p (List.mem_append_right _ (List.mem_singleton.2 rfl))
            rw [hw, if_pos (show 0 ≤ ((o1 ++ [p]).length : Int) - 1 by omega), if_pos (show ((o1 ++ [p]).length : Int) - 1 < ((o1 ++ [p]).length : Int) by omega), if_pos (show 0 ≤ (i : Int) by omega), rd_last, set_last, if_pos (show p.f1.length < 140737488355328 by omega)]
            refine hgo _ (addP_old o1 p _ _ hm).symm (fun r hr => ?_)
            rcases List.mem_append.1 hr with h | h
            · have := hpl r (List.mem_append_left _ h); omega
            · rw [List.mem_singleton.1 h]
              show (p.f1 ++ [b[i]]).length ≤ i + 1
              rw [List.length_append, List.length_singleton]; omega
    · rw [if_neg hz, List.drop_of_length_le (by omega)]
      rfl
theorem add_small (out : List S46) (q z : Int) (m : Nat) (h : ∀ p ∈ out, p.f1.length ≤ m) : ∀ p ∈ addP out q z, p.f1.length ≤ m + 1 := by
  intro p hp
  unfold addP at hp
  split at hp
  · rcases List.mem_append.1 hp with h1 | h1
    · have := h p h1; omega
    · rw [List.mem_singleton.1 h1]; show ([z] : List Int).length ≤ m + 1; rw [List.length_singleton]; omega
  · rename_i hne
    rcases List.mem_append.1 hp with h1 | h1
    · have := h p (List.dropLast_subset _ h1); omega
    · rw [List.mem_singleton.1 h1]
      rcases List.eq_nil_or_concat out with e | ⟨o1, p1, e⟩
      · exact absurd (Or.inr e) hne
      · rw [List.concat_eq_append] at e
        subst e
        rw [rd_last]
        have := h p1 (List.mem_append_right _ (List.mem_singleton.2 rfl))
        show (p1.f1 ++ [z]).length ≤ m + 1
        rw [List.length_append, List.length_singleton]; omega
theorem cut_small (zs : List Int) : ∀ (out : List S46) (q : Int) (m : Nat), (∀ p ∈ out, p.f1.length ≤ m) → ∀ p ∈ cutP out q zs, p.f1.length ≤ m + zs.length := by
  induction zs with
  | nil => intro out q m h p hp; simp only [cutP] at hp; have := h p hp; omega
  | cons z zs ih =>
    intro out q m h p hp
    simp only [cutP] at hp
    have := ih (addP out q z) (q + 1) (m + 1) (add_small out q z m h) p hp
    rw [List.length_cons]; omega
theorem pieces_both (k : Nat) (at_ : Int) (b : List Int) (hb : b.length ≤ 400) (hw : at_ < 9223372036854775808) (hk : 1000 ≤ k) : ∃ r, block_Pieces.f k at_ b = some r ∧ newsreelref08_Pieces.f k at_ b = some r ∧ r.1.length ≤ b.length ∧ ∀ p ∈ r.1, p.f1.length ≤ b.length := by
  obtain ⟨k, rfl⟩ : ∃ m, k = m + 1 := ⟨k - 1, by omega⟩
  unfold block_Pieces.f newsreelref08_Pieces.f
  by_cases h0 : at_ < 0
  · exact ⟨_, by rw [if_pos h0], by rw [if_pos h0], by simp, by simp⟩
  · rw [if_neg h0, if_neg h0]
    by_cases h1 : at_ > 65536
    · refine ⟨(([] : List S46), 4), ?_, ?_, by simp, by simp⟩
      · rw [if_pos h1]; rfl
      · rw [if_pos h1]; rfl
    · rw [if_neg h1, if_neg h1, wrap_in (show -9223372036854775808 ≤ 65536 - at_ by omega) (by omega)]
      by_cases h2 : (b.length : Int) > 65536 - at_
      · rw [decide_eq_true h2]
        refine ⟨(([] : List S46), 4), ?_, ?_, by simp, by simp⟩
        · rfl
        · rfl
      · rw [decide_eq_false h2]
        refine ⟨(cutP [] at_ b, 0), ?_, ?_, ?_, fun p hp => by have := cut_small b [] at_ 0 (by simp) p hp; omega⟩
        · simp only [block_Pieces.j0]
          rw [if_neg Bool.false_ne_true]
          exact pieces_loop k b at_ [] (by omega) (by omega) (by omega) (Or.inr (Or.inl rfl)) (by rw [List.length_nil]; omega)
        · simp only [newsreelref08_Pieces.j0]
          rw [if_neg Bool.false_ne_true]
          have := ref_pieces_loop b at_ (by omega) (by omega) k 0 [] (by omega) (by omega) ⟨fun _ => rfl, fun _ => rfl⟩ (by simp) (by simp)
          simpa using this
        · have hlen : ∀ (zs : List Int) (out : List S46) (q : Int), (cutP out q zs).length ≤ out.length + zs.length := by
            intro zs
            induction zs with
            | nil => intro out q; simp [cutP]
            | cons z zs ih =>
              intro out q
              simp only [cutP]
              have h3 := ih (addP out q z) (q + 1)
              have h4 := (addP_len out q z).1
              rw [List.length_cons]; omega
          have := hlen b [] at_
          rw [List.length_nil] at this
          show (cutP [] at_ b).length ≤ b.length
          omega
theorem same_loop (l : List S46) (hl : l.length ≤ 1000) : ∀ (d k i : Nat), i + d = l.length → d < k → newsreelref08_Same.l0 k l l (i : Int) = some true := by
  intro d
  induction d with
  | zero =>
    intro k i hi hk
    obtain ⟨k, rfl⟩ : ∃ m, k = m + 1 := ⟨k - 1, by omega⟩
    simp only [newsreelref08_Same.l0]
    rw [if_neg (by omega)]
  | succ d ih =>
    intro k i hi hk
    obtain ⟨k, rfl⟩ : ∃ m, k = m + 1 := ⟨k - 1, by omega⟩
    simp only [newsreelref08_Same.l0]
    rw [if_pos (show (i : Int) < (l.length : Int) by omega), if_pos (show 0 ≤ (i : Int) by omega), wrap_in (show -9223372036854775808 ≤ (i : Int) + 1 by omega) (by omega), show (i : Int) + 1 = ((i + 1 : Nat) : Int) by omega, ih k (i + 1) (by omega) (by omega)]
    rw [if_pos (show (i : Int) < (l.length : Int) by omega)]
    simp
theorem same_law (l : List S46) (k : Nat) (hl : l.length ≤ 400) (hk : 1000 ≤ k) : newsreelref08_Same.f k l l = some true := by
  unfold newsreelref08_Same.f
  rw [if_pos rfl]
  exact same_loop l (by omega) l.length k 0 (by omega) (by omega)

/-! ### right -/
theorem ref_right (p : S46) : newsreelref08_Right.f p.f0 p.f1 = some (block_Lay.rightB p) := by
  unfold newsreelref08_Right.f block_Lay.rightB
  by_cases h1 : p.f0 ≥ 0
  · rw [if_pos h1, decide_eq_true (by omega : 0 ≤ p.f0)]
    by_cases h2 : p.f0 < 65536
    · rw [if_pos h2, decide_eq_true h2]
      by_cases h3 : (p.f1.length : Int) > 0
      · rw [if_pos h3, decide_eq_true (by omega : 0 < p.f1.length), Int.tmod_eq_emod_of_nonneg (by omega), wrap_in (show -9223372036854775808 ≤ 16 - p.f0 % 16 by omega) (by omega)]
        rfl
      · rw [if_neg h3, decide_eq_false (by omega : ¬ 0 < p.f1.length)]; rfl
    · rw [if_neg h2, decide_eq_false h2]; rfl
  · rw [if_neg h1, decide_eq_false (by omega : ¬ 0 ≤ p.f0)]; rfl

/-! ### lay -/
theorem same_list {X Y : List Int} (hl : X.length = Y.length) (h : ∀ i, X.getD i 0 = Y.getD i 0) : X = Y := by
  apply List.ext_getElem hl
  intro i h1 h2
  have := h i
  rw [List.getD_eq_getElem?_getD, List.getD_eq_getElem?_getD, List.getElem?_eq_getElem h1, List.getElem?_eq_getElem h2] at this
  exact this
theorem get_app (X Y : List Int) (i : Nat) : (X ++ Y).getD i 0 = if i < X.length then X.getD i 0 else Y.getD (i - X.length) 0 := by
  rw [List.getD_eq_getElem?_getD, List.getD_eq_getElem?_getD, List.getD_eq_getElem?_getD]
  split
  · rw [List.getElem?_append_left (by omega)]
  · rw [List.getElem?_append_right (by omega)]
theorem get_rep (n i : Nat) : (List.replicate n (0 : Int)).getD i 0 = 0 := by
  rw [List.getD_eq_getElem?_getD, List.getElem?_replicate]
  split <;> rfl
theorem get_out (X : List Int) (i : Nat) (h : X.length ≤ i) : X.getD i 0 = 0 := by
  rw [List.getD_eq_getElem?_getD, List.getElem?_eq_none h]; rfl
theorem get_pad (X : List Int) (n i : Nat) : (X ++ List.replicate n 0).getD i 0 = X.getD i 0 := by
  rw [get_app, get_rep]
  split
  · rfl
  · rw [get_out X i (by omega)]
theorem get_take (X : List Int) (n i : Nat) : (X.take n).getD i 0 = if i < n then X.getD i 0 else 0 := by
  rw [List.getD_eq_getElem?_getD, List.getElem?_take, List.getD_eq_getElem?_getD]
  split <;> rfl
theorem get_drop (X : List Int) (n i : Nat) : (X.drop n).getD i 0 = X.getD (n + i) 0 := by
  rw [List.getD_eq_getElem?_getD, List.getElem?_drop, List.getD_eq_getElem?_getD]
theorem get_set (X : List Int) (n i : Nat) (v : Int) (h : n < X.length) : (X.set n v).getD i 0 = if i = n then v else X.getD i 0 := by
  rw [List.getD_eq_getElem?_getD, List.getElem?_set, List.getD_eq_getElem?_getD]
  by_cases e : n = i
  · subst e; rw [if_pos rfl, if_pos rfl, if_pos h]; rfl
  · rw [if_neg e, if_neg (fun h => e h.symm)]
def putB (out : List Int) (pos : Nat) (z : Int) : List Int := (out ++ List.replicate (pos + 1 - out.length) 0).set pos z
def putsB : List Int → Nat → List Int → List Int
  | out, _, [] => out
  | out, pos, z :: zs => putsB (putB out pos z) (pos + 1) zs
theorem putB_len (out : List Int) (pos : Nat) (z : Int) : (putB out pos z).length = max out.length (pos + 1) := by
  unfold putB; rw [List.length_set, List.length_append, List.length_replicate]; omega
theorem putB_get (out : List Int) (pos : Nat) (z : Int) (i : Nat) : (putB out pos z).getD i 0 = if i = pos then z else out.getD i 0 := by
  unfold putB
  rw [get_set _ _ _ _ (by rw [List.length_append, List.length_replicate]; omega), get_pad]
theorem puts_len (zs : List Int) : ∀ (out : List Int) (pos : Nat), zs ≠ [] → (putsB out pos zs).length = max out.length (pos + zs.length) := by
  induction zs with
  | nil => intro out pos h; exact absurd rfl h
  | cons z zs ih =>
    intro out pos _
    simp only [putsB]
    cases zs with
    | nil => simp only [putsB]; rw [putB_len]; rfl
    | cons y ys => rw [ih _ _ (by simp), putB_len, List.length_cons, List.length_cons, List.length_cons]; omega
theorem puts_get (zs : List Int) : ∀ (out : List Int) (pos i : Nat), (putsB out pos zs).getD i 0 = if pos ≤ i ∧ i < pos + zs.length then zs.getD (i - pos) 0 else out.getD i 0 := by
  induction zs with
  | nil => intro out pos i; simp only [putsB]; rw [if_neg (by rw [List.length_nil]; omega)]
  | cons z zs ih =>
    intro out pos i
    simp only [putsB]
    rw [ih, putB_get, List.length_cons]
    by_cases h1 : i = pos
    · subst h1
      rw [if_neg (by omega), if_pos rfl, if_pos (by omega), Nat.sub_self]
      rfl
    · by_cases h2 : pos + 1 ≤ i ∧ i < pos + 1 + zs.length
      · rw [if_pos h2, if_pos (by omega), show i - pos = i - (pos + 1) + 1 by omega]
        rfl
      · rw [if_neg h2, if_neg h1, if_neg (by omega)]
theorem puts_one (out : List Int) (p : S46) (h : block_Lay.rightB p = true) : putsB out p.f0.toNat p.f1 = block_Lay.one out p := by
  obtain ⟨h1, h2, h3, h4⟩ := block_Lay.right_b h
  have hne : p.f1 ≠ [] := fun e => by rw [e] at h3; simp at h3
  unfold block_Lay.one
  rw [if_pos h]
  generalize hp : p.f0.toNat = pos
  apply same_list
  · rw [puts_len _ _ _ hne]
    simp only [List.length_append, List.length_take, List.length_drop, List.length_replicate]
    omega
  · intro i
    rw [puts_get, get_app, get_app, get_take, get_drop, get_pad, get_pad]
    simp only [List.length_append, List.length_take, List.length_replicate]
    rw [show min pos (out.length + (pos + p.f1.length - out.length)) = pos by omega]
    by_cases c1 : i < pos
    · rw [if_neg (by omega), if_pos (by omega), if_pos c1, if_pos c1]
    · by_cases c2 : i < pos + p.f1.length
      · rw [if_pos (by omega), if_pos c2, if_neg c1]
      · rw [if_neg (by omega), if_neg c2, show pos + p.f1.length + (i - (pos + p.f1.length)) = i by omega]
theorem put_zero (out : List Int) (pos : Nat) (z : Int) (h : out.length ≤ pos) : putB (out ++ [0]) pos z = putB out pos z := by
  apply same_list
  · rw [putB_len, putB_len, List.length_append, List.length_singleton]; omega
  · intro i
    rw [putB_get, putB_get]
    have := get_pad out 1 i
    rw [show List.replicate 1 (0 : Int) = [0] from rfl] at this
    rw [this]
theorem lay_l2 (l : List S46) (x : Nat) (hx : x < l.length) (hx2 : x < 1000) (h0 : 0 ≤ l[x].f0) (h1 : l[x].f0 < 65536) (j : Nat) (hj : j < l[x].f1.length) (hj2 : j < 1000) (K : Nat) (r : Option (List Int)) : ∀ (d : Nat) (out : List Int), l[x].f0.toNat + j + 1 - out.length ≤ d → out.length ≤ 1000000 → (∀ k, K ≤ k → newsreelref08_Lay.l1 k l (putB out (l[x].f0.toNat + j) (l[x].f1[j])) (x : Int) ((j + 1 : Nat) : Int) = r) → ∀ k, K + d + 1 ≤ k → newsreelref08_Lay.l2 k l out (x : Int) (j : Int) = r := by
  have hrd : rd_T46 l (x : Int) = l[x] := by
    unfold rd_T46
    rw [Int.toNat_natCast, List.getD_eq_getElem?_getD, List.getElem?_eq_getElem hx]
    rfl
  have hrj : rd l[x].f1 (j : Int) = l[x].f1[j] := by
    unfold rd
    rw [Int.toNat_natCast, List.getD_eq_getElem?_getD, List.getElem?_eq_getElem hj]
    rfl
  have hw : wrap64 (l[x].f0 + (j : Int)) = l[x].f0 + j := wrap_in (by omega) (by omega)
  have hw1 : wrap64 ((j : Int) + 1) = ((j + 1 : Nat) : Int) := by rw [wrap_in (by omega) (by omega)]; omega
  intro d
  induction d with
  | zero =>
    intro out hd ho hr k hk
    obtain ⟨k, rfl⟩ : ∃ m, k = m + 1 := ⟨k - 1, by omega⟩
    simp only [newsreelref08_Lay.l2]
    have hset : out.set (l[x].f0 + (j : Int)).toNat l[x].f1[j] = putB out (l[x].f0.toNat + j) l[x].f1[j] := by
      unfold putB
      rw [show l[x].f0.toNat + j + 1 - out.length = 0 by omega, List.replicate_zero, List.append_nil, show (l[x].f0 + (j : Int)).toNat = l[x].f0.toNat + j by omega]
    rw [hrd, hw, hw1, hrj, if_pos (show 0 ≤ (x : Int) by omega), if_pos (show (x : Int) < (l.length : Int) by omega), if_neg (show ¬ (out.length : Int) ≤ l[x].f0 + (j : Int) by omega), if_pos (show 0 ≤ (j : Int) by omega), if_pos (show (j : Int) < (l[x].f1.length : Int) by omega), if_pos (show 0 ≤ l[x].f0 + (j : Int) by omega), if_pos (show l[x].f0 + (j : Int) < (out.length : Int) by omega), hset]
    exact hr k (by omega)
  | succ d ih =>
    intro out hd ho hr k hk
    by_cases hfit : l[x].f0.toNat + j + 1 - out.length ≤ d
    · exact ih out hfit ho hr k (by omega)
    · obtain ⟨k, rfl⟩ : ∃ m, k = m + 1 := ⟨k - 1, by omega⟩
      simp only [newsreelref08_Lay.l2]
      rw [hrd, hw, if_pos (show 0 ≤ (x : Int) by omega), if_pos (show (x : Int) < (l.length : Int) by omega), if_pos (show (out.length : Int) ≤ l[x].f0 + (j : Int) by omega), if_pos (show out.length < 140737488355328 by omega)]
      have hle : (out ++ [0]).length = out.length + 1 := by rw [List.length_append, List.length_singleton]
      refine ih (out ++ [0]) (by omega) (by omega) (fun k' hk' => ?_) k (by omega)
      rw [put_zero _ _ _ (by omega)]
      exact hr k' hk'
theorem lay_l1 (l : List S46) (x : Nat) (hx : x < l.length) (hx2 : x < 1000) (h0 : 0 ≤ l[x].f0) (h1 : l[x].f0 < 65536) (hj2 : l[x].f1.length < 1000) (K : Nat) (r : Option (List Int)) : ∀ (d : Nat) (j : Nat) (out : List Int), j + d = l[x].f1.length → out.length ≤ 100000 → (∀ k, K ≤ k → newsreelref08_Lay.l0 k l (putsB out (l[x].f0.toNat + j) (l[x].f1.drop j)) ((x + 1 : Nat) : Int) = r) → ∀ k, K + d * 70000 + 1 ≤ k → newsreelref08_Lay.l1 k l out (x : Int) (j : Int) = r := by
  have hrd : rd_T46 l (x : Int) = l[x] := by
    unfold rd_T46
    rw [Int.toNat_natCast, List.getD_eq_getElem?_getD, List.getElem?_eq_getElem hx]
    rfl
  intro d
  induction d with
  | zero =>
    intro j out hd ho hr k hk
    obtain ⟨k, rfl⟩ : ∃ m, k = m + 1 := ⟨k - 1, by omega⟩
    simp only [newsreelref08_Lay.l1]
    rw [hrd, if_pos (show 0 ≤ (x : Int) by omega), if_pos (show (x : Int) < (l.length : Int) by omega), if_neg (show ¬ (j : Int) < (l[x].f1.length : Int) by omega), wrap_in (show -9223372036854775808 ≤ (x : Int) + 1 by omega) (by omega)]
    have := hr k (by omega)
    rw [List.drop_of_length_le (by omega)] at this
    exact this
  | succ d ih =>
    intro j out hd ho hr k hk
    obtain ⟨k, rfl⟩ : ∃ m, k = m + 1 := ⟨k - 1, by omega⟩
    simp only [newsreelref08_Lay.l1]
    have hj : j < l[x].f1.length := by omega
    rw [hrd, if_pos (show 0 ≤ (x : Int) by omega), if_pos (show (x : Int) < (l.length : Int) by omega), if_pos (show (j : Int) < (l[x].f1.length : Int) by omega)]
    refine lay_l2 l x hx hx2 h0 h1 j hj (by omega) (K + d * 70000 + 1) r 66540 out (by omega) (by omega) (fun k' hk' => ?_) k (by omega)
    refine ih (j + 1) _ (by omega) (by rw [putB_len]; omega) (fun k2 hk2 => ?_) k' hk'
    have := hr k2 hk2
    rw [List.drop_eq_getElem_cons hj] at this
    simp only [putsB] at this
    exact this
theorem lay_l0 (C : Nat) (hC : 100 * 70000 + 10 ≤ C) (l : List S46) (hl : l.length ≤ 200) (hb : ∀ p ∈ l, p.f1.length ≤ 100) : ∀ (d k i : Nat) (out : List Int), i + d = l.length → out.length ≤ 100000 → d * C < k → newsreelref08_Lay.l0 k l out (i : Int) = some ((l.drop i).foldl block_Lay.one out) := by
  intro d
  induction d with
  | zero =>
    intro k i out hi ho hk
    obtain ⟨k, rfl⟩ : ∃ m, k = m + 1 := ⟨k - 1, by omega⟩
    simp only [newsreelref08_Lay.l0]
    rw [if_neg (by omega), List.drop_of_length_le (by omega)]
    rfl
  | succ d ih =>
    intro k i out hi ho hk
    obtain ⟨k, rfl⟩ : ∃ m, k = m + 1 := ⟨k - 1, by omega⟩
    rw [Nat.succ_mul] at hk
    have hk1 : d * C < k := by generalize d * C = D at hk ⊢; omega
    have hk2 : d * C + 1 + 100 * 70000 + 1 ≤ k := by generalize d * C = D at hk ⊢; omega
    clear hk
    have hlt : i < l.length := by omega
    have hrd : rd_T46 l (i : Int) = l[i] := by
      unfold rd_T46
      rw [Int.toNat_natCast, List.getD_eq_getElem?_getD, List.getElem?_eq_getElem hlt]
      rfl
    have hd : l.drop i = l[i] :: l.drop (i + 1) := List.drop_eq_getElem_cons hlt
    have hol := block_Lay.one_len out l[i]
    have hlen := hb l[i] (List.getElem_mem hlt)
    rw [hd, List.foldl_cons]
    simp only [newsreelref08_Lay.l0]
    rw [if_pos (show (i : Int) < (l.length : Int) by omega), if_pos (show 0 ≤ (i : Int) by omega), hrd, ref_right, Option.bind_some]
    cases hrb : block_Lay.rightB l[i] with
    | false =>
      rw [if_neg Bool.false_ne_true, wrap_in (show -9223372036854775808 ≤ (i : Int) + 1 by omega) (by omega), show (i : Int) + 1 = ((i + 1 : Nat) : Int) by omega, ih k (i + 1) out (by omega) ho hk1]
      have : block_Lay.one out l[i] = out := by unfold block_Lay.one; rw [hrb]; rfl
      rw [this]
    | true =>
      obtain ⟨h1, h2, h3, h4⟩ := block_Lay.right_b hrb
      rw [if_pos rfl]
      refine lay_l1 l i hlt (by omega) h1 h2 (by omega) (d * C + 1) _ l[i].f1.length 0 out (by omega) ho (fun k' hk' => ?_) k (Nat.le_trans (Nat.add_le_add_right (Nat.add_le_add_left (Nat.mul_le_mul_right _ hlen) _) _) hk2)
      rw [List.drop_zero, Nat.add_zero, puts_one out l[i] hrb]
      exact ih k' (i + 1) _ (by omega) (by omega) (by omega)
theorem lay_both (f : List Int) (l : List S46) (hf : f.length ≤ 70000) (hl : l.length ≤ 200) (hb : ∀ p ∈ l, p.f1.length ≤ 100) (k : Nat) (hk : 2000000000 ≤ k) : block_Lay.f f l = some (l.foldl block_Lay.one f) ∧ newsreelref08_Lay.f k f l = some (l.foldl block_Lay.one f) := by
  refine ⟨by unfold block_Lay.f; rw [if_pos (by omega)], ?_⟩
  unfold newsreelref08_Lay.f
  rw [Option.bind_some, if_pos (show ([] : List Int).length + f.length < 140737488355328 by rw [List.length_nil]; omega), List.nil_append]
  refine lay_l0 8000000 (by omega) l hl hb l.length k 0 f (by omega) (by omega) (Nat.lt_of_le_of_lt (Nat.mul_le_mul_right _ hl) (by omega))

theorem nums_inj {a b : List Int} (ha : ∀ x ∈ a, 0 ≤ x ∧ x < 256) (hb : ∀ x ∈ b, 0 ≤ x ∧ x < 256) (h : (strOfNums a).toList = (strOfNums b).toList) : a = b := by
  have e : ∀ l : List Int, (strOfNums l).toList = l.map fun n => UInt8.ofNat n.toNat := fun l => by
    rw [Go.ByteArray.toList_eq]
    exact strOfNums_data l
  rw [e, e] at h
  clear e
  induction a generalizing b with
  | nil => cases b with
    | nil => rfl
    | cons y b => simp at h
  | cons x a ih => cases b with
    | nil => simp at h
    | cons y b =>
      simp only [List.map_cons, List.cons.injEq] at h
      have hx := ha x List.mem_cons_self
      have hy := hb y List.mem_cons_self
      have h1 := congrArg UInt8.toNat h.1
      rw [UInt8.toNat_ofNat', UInt8.toNat_ofNat'] at h1
      rw [ih (fun z hz => ha z (List.mem_cons_of_mem _ hz)) (fun z hz => hb z (List.mem_cons_of_mem _ hz)) h.2, show x = y by omega]


/-! ### files -/
def Bytes (l : List Int) : Prop := ∀ x ∈ l, 0 ≤ x ∧ x < 256
def BytesP (l : List S46) : Prop := ∀ p ∈ l, Bytes p.f1
theorem one_bytes (out : List Int) (p : S46) (ho : Bytes out) (hp : Bytes p.f1) : Bytes (block_Lay.one out p) := by
  unfold block_Lay.one
  split
  · have hr : Bytes (out ++ List.replicate (p.f0.toNat + p.f1.length - out.length) 0) := by
      intro x hx
      rcases List.mem_append.1 hx with h | h
      · exact ho x h
      · rw [List.eq_of_mem_replicate h]; omega
    intro x hx
    rcases List.mem_append.1 hx with h | h
    · rcases List.mem_append.1 h with h | h
      · exact hr x (List.mem_of_mem_take h)
      · exact hp x h
    · exact hr x (List.mem_of_mem_drop h)
  · exact ho
theorem fold_bytes (l : List S46) : ∀ (out : List Int), Bytes out → BytesP l → Bytes (l.foldl block_Lay.one out) := by
  induction l with
  | nil => intro out ho _; exact ho
  | cons p l ih => intro out ho hl; exact ih _ (one_bytes out p ho (hl p List.mem_cons_self)) (fun q hq => hl q (List.mem_cons_of_mem _ hq))
theorem fold_len2 (l : List S46) : ∀ (out : List Int), out.length ≤ 65552 → (l.foldl block_Lay.one out).length ≤ 65552 := by
  induction l with
  | nil => intro out h; exact h
  | cons p l ih => intro out h; exact ih _ (by have := block_Lay.one_len out p; omega)
/-- May a file be? -/
def rt (now sure : List Int) (pend : List S46) : Bool := if (pend.all fun p => block_Lay.rightB p) = true then (strOfNums now).toList == (strOfNums (pend.foldl block_Lay.one sure)).toList else false
theorem contains_f (l : List S46) : file_Right_1_ContainsFunc.f l = some (!(l.all fun p => block_Lay.rightB p)) := by
  have hp : ∀ x : S46, file_Right_1_ContainsFunc.p x = some (!(block_Lay.rightB x)) := fun x => by
    unfold file_Right_1_ContainsFunc.p file_Right_1.f
    rw [block_Lay.right_f]
    rfl
  unfold file_Right_1_ContainsFunc.f
  rw [if_pos (List.all_eq_true.2 fun x _ => by rw [hp]; rfl)]
  congr 1
  induction l with
  | nil => rfl
  | cons x l ih =>
    rw [List.any_cons, List.all_cons, ih, hp]
    cases block_Lay.rightB x <;> rfl
theorem right_law (k : Nat) (hk : 1 ≤ k) (now sure : List Int) (pend : List S46) (hs : sure.length ≤ 65536) : file_Right.f k now sure pend = some (rt now sure pend) := by
  obtain ⟨k, rfl⟩ : ∃ m, k = m + 1 := ⟨k - 1, by omega⟩
  unfold file_Right.f rt
  rw [if_neg (show ¬ (sure.length : Int) > 65536 by omega), contains_f, Option.bind_some]
  simp only [file_Right.j0]
  cases (pend.all fun p => block_Lay.rightB p) with
  | false => rfl
  | true =>
    rw [if_neg (by decide), if_pos rfl]
    unfold block_Lay.f bytes_Equal.f
    rw [if_pos (show sure.length < 1000000000000 by omega), Option.bind_some, Option.bind_some]
theorem ref_right_loop (now sure : List Int) (pend : List S46) (hs : sure.length ≤ 65536) (hl : pend.length ≤ 200) (hb : ∀ p ∈ pend, p.f1.length ≤ 100) : ∀ (d k i : Nat), i + d = pend.length → 2000000000 + d < k → newsreelref09_Right.l0 k (i : Int) now sure pend = some (if ((pend.drop i).all fun p => block_Lay.rightB p) = true then (strOfNums now).toList == (strOfNums (pend.foldl block_Lay.one sure)).toList else false) := by
  intro d
  induction d with
  | zero =>
    intro k i hi hk
    obtain ⟨k, rfl⟩ : ∃ m, k = m + 1 := ⟨k - 1, by omega⟩
    simp only [newsreelref09_Right.l0]
    rw [if_neg (show ¬ (i : Int) < (pend.length : Int) by omega), if_pos (show (sure.length : Int) ≤ 65536 by omega), (lay_both sure pend (by omega) hl hb k (by omega)).2, Option.bind_some, List.drop_of_length_le (by omega)]
    rfl
  | succ d ih =>
    intro k i hi hk
    obtain ⟨k, rfl⟩ : ∃ m, k = m + 1 := ⟨k - 1, by omega⟩
    have hlt : i < pend.length := by omega
    have hrd : rd_T46 pend (i : Int) = pend[i] := by
      unfold rd_T46
      rw [Int.toNat_natCast, List.getD_eq_getElem?_getD, List.getElem?_eq_getElem hlt]
      rfl
    simp only [newsreelref09_Right.l0]
    rw [if_pos (show (i : Int) < (pend.length : Int) by omega), if_pos (show 0 ≤ (i : Int) by omega), hrd, ref_right, Option.bind_some, List.drop_eq_getElem_cons hlt, List.all_cons]
    cases hrb : block_Lay.rightB pend[i] with
    | false => rfl
    | true =>
      rw [if_pos rfl, Bool.true_and, wrap_in (show -9223372036854775808 ≤ (i : Int) + 1 by omega) (by omega), show (i : Int) + 1 = ((i + 1 : Nat) : Int) by omega]
      exact ih k (i + 1) (by omega) (by omega)
theorem ref_right_law (k : Nat) (hk : 2000001000 ≤ k) (now sure : List Int) (pend : List S46) (hs : sure.length ≤ 65536) (hl : pend.length ≤ 200) (hb : ∀ p ∈ pend, p.f1.length ≤ 100) : newsreelref09_Right.f k now sure pend = some (rt now sure pend) := by
  unfold newsreelref09_Right.f rt
  have := ref_right_loop now sure pend hs hl hb pend.length k 0 (by omega) (by omega)
  rw [List.drop_zero] at this
  exact this
theorem rt_now (now sure : List Int) (pend : List S46) (hn : Bytes now) (hs : Bytes sure) (hp : BytesP pend) (h : rt now sure pend = true) : now = pend.foldl block_Lay.one sure := by
  unfold rt at h
  split at h
  · exact nums_inj hn (fold_bytes pend sure hs hp) (by simpa using h)
  · cases h
theorem clone_f (l : List Int) (h : l.length ≤ 1000000) : bytes_Clone.f l = some l := by
  unfold bytes_Clone.f
  rw [if_pos (show l.length < 140737488355328 by omega)]
theorem copied_loop (l : List S46) (hl : l.length ≤ 1000) (hb : ∀ p ∈ l, p.f1.length ≤ 100) : ∀ (d k i : Nat), i + d = l.length → d < k → file_copied.l0 k (l.take i) l (l.length : Int) (i : Int) = some l := by
  intro d
  induction d with
  | zero =>
    intro k i hi hk
    obtain ⟨k, rfl⟩ : ∃ m, k = m + 1 := ⟨k - 1, by omega⟩
    simp only [file_copied.l0]
    rw [if_neg (show ¬ (i : Int) < (l.length : Int) by omega), List.take_of_length_le (by omega)]
  | succ d ih =>
    intro k i hi hk
    obtain ⟨k, rfl⟩ : ∃ m, k = m + 1 := ⟨k - 1, by omega⟩
    have hlt : i < l.length := by omega
    have hrd : rd_T46 l (i : Int) = l[i] := by
      unfold rd_T46
      rw [Int.toNat_natCast, List.getD_eq_getElem?_getD, List.getElem?_eq_getElem hlt]
      rfl
    have hbi := hb l[i] (List.getElem_mem hlt)
    simp only [file_copied.l0]
    rw [if_pos (show (i : Int) < (l.length : Int) by omega), if_pos (show 0 ≤ (i : Int) by omega), if_pos (show (i : Int) < (l.length : Int) by omega), hrd, clone_f _ (by omega), Option.bind_some, if_pos (show (l.take i).length < 4398046511104 by rw [List.length_take]; omega), wrap_in (show -9223372036854775808 ≤ (i : Int) + 1 by omega) (by omega), show (i : Int) + 1 = ((i + 1 : Nat) : Int) by omega]
    have e : l.take i ++ [(⟨(l[i]).f0, (l[i]).f1⟩ : S46)] = l.take (i + 1) := by rw [List.take_add_one, List.getElem?_eq_getElem hlt]; rfl
    rw [e]
    exact ih k (i + 1) (by omega) (by omega)
theorem copied_law (l : List S46) (hl : l.length ≤ 1000) (hb : ∀ p ∈ l, p.f1.length ≤ 100) (k : Nat) (hk : 1001 ≤ k) : file_copied.f k l = some l := by
  unfold file_copied.f
  exact copied_loop l hl hb l.length k 0 (by omega) (by omega)
abbrev FileI := List Int × List Int × List S46 × Int
/-- A file with bytes written to it, both ways. -/
theorem write_both (k : Nat) (hk : 2000002000 ≤ k) (now sure : List Int) (pend : List S46) (at_ : Int) (b : List Int) (hn : Bytes now) (hs : Bytes sure) (hp : BytesP pend) (hnl : now.length ≤ 3000) (hsl : sure.length ≤ 3000) (hl : pend.length ≤ 60) (hb : ∀ p ∈ pend, p.f1.length ≤ 40) (hbl : b.length ≤ 100) (hw : at_ < 9223372036854775808) :
    ∃ r : FileI, file_Write.f k now sure pend at_ b = some r ∧ newsreelref09_Write.f k now sure pend at_ b = some r ∧ r.2.2.1.length ≤ 400 := by
  have hb1 : ∀ p ∈ pend, p.f1.length ≤ 100 := fun p h => by have := hb p h; omega
  unfold file_Write.f newsreelref09_Write.f
  rw [right_law k (by omega) now sure pend (by omega), Option.bind_some, ref_right_law k (by omega) now sure pend (by omega) (by omega) hb1, Option.bind_some]
  cases hr : rt now sure pend with
  | false => exact ⟨([], [], [], 10), rfl, rfl, by show 0 ≤ 400; omega⟩
  | true =>
    obtain ⟨q, q1, q2, q3, q4⟩ := pieces_both k at_ b (by omega) hw (by omega)
    rw [if_pos rfl, if_pos rfl, q1, Option.bind_some, q2, Option.bind_some]
    by_cases he : q.2 = 0
    · have hnow := rt_now now sure pend hn hs hp hr
      have hL := lay_both now q.1 (by omega) (by omega) (fun p h => by have := q4 p h; omega) k (by omega)
      have hR := lay_both sure (pend ++ q.1) (by omega) (by rw [List.length_append]; omega) (fun p h => by
        rcases List.mem_append.1 h with h | h
        · exact hb1 p h
        · have := q4 p h; omega) k (by omega)
      rw [if_pos he, if_pos he, hL.1, Option.bind_some, clone_f sure (by omega), Option.bind_some, copied_law pend (by omega) hb1 k (by omega), Option.bind_some, if_pos (show pend.length + q.1.length < 4398046511104 by omega), Option.bind_some, if_pos (show ([] : List S46).length + pend.length < 4398046511104 by rw [List.length_nil]; omega), Option.bind_some, List.nil_append, if_pos (show pend.length + q.1.length < 4398046511104 by omega), Option.bind_some, hR.2, Option.bind_some]
      refine ⟨_, rfl, ?_, by show (pend ++ q.1).length ≤ 400; rw [List.length_append]; omega⟩
      rw [List.foldl_append, ← hnow]
    · rw [if_neg he, if_neg he]
      exact ⟨([], [], [], q.2), rfl, rfl, by show 0 ≤ 400; omega⟩
theorem still_f (l : List Int) (h : l.length ≤ 1000000) : file_still.f l = some (l, l, []) := by
  unfold file_still.f
  rw [clone_f l h, Option.bind_some, Option.bind_some]
theorem sync_both (k : Nat) (hk : 2000002000 ≤ k) (now sure : List Int) (pend : List S46) (hnl : now.length ≤ 3000) (hsl : sure.length ≤ 3000) (hl : pend.length ≤ 60) (hb : ∀ p ∈ pend, p.f1.length ≤ 40) :
    ∃ a : List Int, file_Sync.f k now sure pend = some (a, a, []) ∧ newsreelref09_Sync.f k now sure pend = some (a, a, []) := by
  have hb1 : ∀ p ∈ pend, p.f1.length ≤ 100 := fun p h => by have := hb p h; omega
  unfold file_Sync.f newsreelref09_Sync.f
  rw [right_law k (by omega) now sure pend (by omega), Option.bind_some, ref_right_law k (by omega) now sure pend (by omega) (by omega) hb1, Option.bind_some]
  cases rt now sure pend with
  | false => exact ⟨[], rfl, rfl⟩
  | true =>
    rw [if_pos rfl, if_pos rfl, still_f now (by omega), Option.bind_some]
    exact ⟨now, rfl, rfl⟩
/-- The pieces that a crash keeps. -/
def keptP (bits : List Bool) : Nat → List S46 → List S46
  | _, [] => []
  | i, p :: l => if i < bits.length ∧ rdOf false bits (i : Int) = true then p :: keptP bits (i + 1) l else keptP bits (i + 1) l
theorem kept_len (bits : List Bool) (l : List S46) : ∀ i, (keptP bits i l).length ≤ l.length := by
  induction l with
  | nil => intro i; exact Nat.le_refl 0
  | cons p l ih =>
    intro i
    have := ih (i + 1)
    unfold keptP
    split
    · rw [List.length_cons, List.length_cons]; omega
    · rw [List.length_cons]; omega
theorem kept_sub (bits : List Bool) (l : List S46) : ∀ i, ∀ p ∈ keptP bits i l, p ∈ l := by
  induction l with
  | nil => intro i p hp; exact hp
  | cons q l ih =>
    intro i p hp
    unfold keptP at hp
    split at hp
    · rcases List.mem_cons.1 hp with h | h
      · rw [h]; exact List.mem_cons_self
      · exact List.mem_cons_of_mem _ (ih _ p h)
    · exact List.mem_cons_of_mem _ (ih _ p hp)
theorem crash_loop (bits : List Bool) (now sure : List Int) (pend : List S46) (hl : pend.length ≤ 200) : ∀ (d k i : Nat) (out : List Int), i + d = pend.length → out.length ≤ 65552 → d < k → file_Crash.l0 k bits out pend (pend.length : Int) (i : Int) now sure pend = some ((keptP bits i (pend.drop i)).foldl block_Lay.one out, (keptP bits i (pend.drop i)).foldl block_Lay.one out, [], (pend.length : Int)) := by
  intro d
  induction d with
  | zero =>
    intro k i out hi ho hk
    obtain ⟨k, rfl⟩ : ∃ m, k = m + 1 := ⟨k - 1, by omega⟩
    simp only [file_Crash.l0]
    rw [if_neg (show ¬ (i : Int) < (pend.length : Int) by omega), still_f out (by omega), Option.bind_some, List.drop_of_length_le (by omega)]
    rfl
  | succ d ih =>
    intro k i out hi ho hk
    obtain ⟨k, rfl⟩ : ∃ m, k = m + 1 := ⟨k - 1, by omega⟩
    have hlt : i < pend.length := by omega
    have hrd : rd_T46 pend (i : Int) = pend[i] := by
      unfold rd_T46
      rw [Int.toNat_natCast, List.getD_eq_getElem?_getD, List.getElem?_eq_getElem hlt]
      rfl
    have hw : wrap64 ((i : Int) + 1) = ((i + 1 : Nat) : Int) := by rw [wrap_in (by omega) (by omega)]; omega
    have hsk : ∀ o, ¬ (i < bits.length ∧ rdOf false bits (i : Int) = true) → o = out → file_Crash.l0 k bits o pend (pend.length : Int) ((i + 1 : Nat) : Int) now sure pend = some ((keptP bits i (pend.drop i)).foldl block_Lay.one out, (keptP bits i (pend.drop i)).foldl block_Lay.one out, [], (pend.length : Int)) := by
      intro o hn ho2
      subst ho2
      rw [List.drop_eq_getElem_cons hlt]
      simp only [keptP]
      rw [if_neg hn]
      exact ih k (i + 1) o (by omega) ho (by omega)
    simp only [file_Crash.l0]
    rw [if_pos (show (i : Int) < (pend.length : Int) by omega), if_pos (show 0 ≤ (i : Int) by omega), if_pos (show (i : Int) < (pend.length : Int) by omega), hw]
    by_cases hbl : i < bits.length
    · rw [if_pos (show (i : Int) < (bits.length : Int) by omega)]
      by_cases hbt : rdOf false bits (i : Int) = true
      · rw [if_pos hbt, hrd]
        unfold block_Lay.f
        rw [if_pos (show out.length < 1000000000000 by omega), Option.bind_some]
        show file_Crash.l0 k bits (block_Lay.one out pend[i]) pend (pend.length : Int) ((i + 1 : Nat) : Int) now sure pend = _
        rw [ih k (i + 1) _ (by omega) (by have := block_Lay.one_len out pend[i]; omega) (by omega), List.drop_eq_getElem_cons hlt]
        simp only [keptP]
        rw [if_pos (And.intro hbl hbt), List.foldl_cons]
      · rw [if_neg hbt]
        exact hsk out (fun h => hbt h.2) rfl
    · rw [if_neg (show ¬ (i : Int) < (bits.length : Int) by omega)]
      exact hsk out (fun h => hbl h.1) rfl
theorem ref_crash_loop (bits : List Bool) (now sure : List Int) (pend : List S46) (hs : sure.length ≤ 65536) (hl : pend.length ≤ 200) (hb : ∀ p ∈ pend, p.f1.length ≤ 100) : ∀ (d k i : Nat) (kept : List S46), i + d = pend.length → kept.length ≤ i → (∀ p ∈ kept, p.f1.length ≤ 100) → 2000000000 + d < k → newsreelref09_Crash.l0 k bits kept (i : Int) now sure pend = some ((kept ++ keptP bits i (pend.drop i)).foldl block_Lay.one sure, (kept ++ keptP bits i (pend.drop i)).foldl block_Lay.one sure, [], (pend.length : Int)) := by
  intro d
  induction d with
  | zero =>
    intro k i kept hi hkl hkb hk
    obtain ⟨k, rfl⟩ : ∃ m, k = m + 1 := ⟨k - 1, by omega⟩
    simp only [newsreelref09_Crash.l0]
    rw [if_neg (show ¬ (i : Int) < (pend.length : Int) by omega), (lay_both sure kept (by omega) (by omega) hkb k (by omega)).2, Option.bind_some, List.drop_of_length_le (by omega)]
    show _ = some ((kept ++ []).foldl block_Lay.one sure, (kept ++ []).foldl block_Lay.one sure, [], (pend.length : Int))
    rw [List.append_nil]
  | succ d ih =>
    intro k i kept hi hkl hkb hk
    obtain ⟨k, rfl⟩ : ∃ m, k = m + 1 := ⟨k - 1, by omega⟩
    have hlt : i < pend.length := by omega
    have hrd : rd_T46 pend (i : Int) = pend[i] := by
      unfold rd_T46
      rw [Int.toNat_natCast, List.getD_eq_getElem?_getD, List.getElem?_eq_getElem hlt]
      rfl
    have hw : wrap64 ((i : Int) + 1) = ((i + 1 : Nat) : Int) := by rw [wrap_in (by omega) (by omega)]; omega
    have hsk : ¬ (i < bits.length ∧ rdOf false bits (i : Int) = true) → newsreelref09_Crash.l0 k bits kept ((i + 1 : Nat) : Int) now sure pend = some ((kept ++ keptP bits i (pend.drop i)).foldl block_Lay.one sure, (kept ++ keptP bits i (pend.drop i)).foldl block_Lay.one sure, [], (pend.length : Int)) := by
      intro hn
      rw [List.drop_eq_getElem_cons hlt]
      simp only [keptP]
      rw [if_neg hn]
      exact ih k (i + 1) kept (by omega) (by omega) hkb (by omega)
    simp only [newsreelref09_Crash.l0]
    rw [if_pos (show (i : Int) < (pend.length : Int) by omega), hw]
    by_cases hbl : i < bits.length
    · rw [if_pos (show (i : Int) < (bits.length : Int) by omega), if_pos (show 0 ≤ (i : Int) by omega)]
      by_cases hbt : rdOf false bits (i : Int) = true
      · rw [if_pos hbt, hrd, if_pos (show kept.length < 4398046511104 by omega)]
        show newsreelref09_Crash.l0 k bits (kept ++ [pend[i]]) ((i + 1 : Nat) : Int) now sure pend = _
        rw [ih k (i + 1) (kept ++ [pend[i]]) (by omega) (by rw [List.length_append, List.length_singleton]; omega) (fun p hp => by
          rcases List.mem_append.1 hp with h | h
          · exact hkb p h
          · rw [List.mem_singleton.1 h]; exact hb _ (List.getElem_mem hlt)) (by omega), List.drop_eq_getElem_cons hlt]
        simp only [keptP]
        rw [if_pos (And.intro hbl hbt), List.append_assoc, List.singleton_append]
      · rw [if_neg hbt]
        exact hsk (fun h => hbt h.2)
    · rw [if_neg (show ¬ (i : Int) < (bits.length : Int) by omega)]
      exact hsk (fun h => hbl h.1)
theorem crash_both (k : Nat) (hk : 2000002000 ≤ k) (now sure : List Int) (pend : List S46) (bits : List Bool) (hsl : sure.length ≤ 3000) (hl : pend.length ≤ 60) (hb : ∀ p ∈ pend, p.f1.length ≤ 40) :
    ∃ (a : List Int) (n : Int), file_Crash.f k now sure pend bits = some (a, a, [], n) ∧ newsreelref09_Crash.f k now sure pend bits = some (a, a, [], n) := by
  have hb1 : ∀ p ∈ pend, p.f1.length ≤ 100 := fun p h => by have := hb p h; omega
  unfold file_Crash.f newsreelref09_Crash.f
  rw [right_law k (by omega) now sure pend (by omega), Option.bind_some, ref_right_law k (by omega) now sure pend (by omega) (by omega) hb1, Option.bind_some]
  cases rt now sure pend with
  | false => exact ⟨[], 0, rfl, rfl⟩
  | true =>
    have e1 := crash_loop bits now sure pend (by omega) pend.length k 0 sure (by omega) (by omega) (by omega)
    have e2 := ref_crash_loop bits now sure pend (by omega) (by omega) hb1 pend.length k 0 [] (by omega) (by show 0 ≤ 0; omega) (fun p hp => by cases hp) (by omega)
    rw [List.nil_append] at e2
    exact ⟨_, _, e1, e2⟩
theorem same_file (k : Nat) (hk : 1000 ≤ k) (a b : List Int) (p : List S46) (hp : p.length ≤ 400) : newsreelref09_Same.f k a b p a b p = some true := by
  unfold newsreelref09_Same.f
  rw [if_pos rfl, if_pos rfl, same_law p k hp hk, Option.bind_some]
theorem light_one (k : Nat) (hk : 10 ≤ k) (x : S78) : ∃ b, newsreelref09_Light.f k [x] = some b ∧ (b = true → x.f2.length ≤ 100) := by
  obtain ⟨k, rfl⟩ : ∃ m, k = m + 2 := ⟨k - 2, by omega⟩
  unfold newsreelref09_Light.f
  have hrd : rd_T78 [x] 0 = x := rfl
  have hnext : newsreelref09_Light.l0 (k + 1) [x] (wrap64 (0 + 1)) = some true := by
    simp only [newsreelref09_Light.l0]
    rw [if_neg (show ¬ wrap64 (0 + 1) < (([x] : List S78).length : Int) by rw [List.length_singleton, show wrap64 (0 + 1) = 1 by kernel_rfl]; omega)]
  rw [if_neg (show ¬ (([x] : List S78).length : Int) > 20 by rw [List.length_singleton]; omega)]
  show ∃ b, newsreelref09_Light.l0 (k + 1 + 1) [x] 0 = some b ∧ _
  simp only [newsreelref09_Light.l0] at hnext ⊢
  rw [if_pos (show (0 : Int) < (([x] : List S78).length : Int) by rw [List.length_singleton]; omega), if_pos (show (0 : Int) ≤ 0 by omega), hrd]
  by_cases h : (x.f2.length : Int) > 100
  · rw [if_pos h]
    exact ⟨false, rfl, fun h => by cases h⟩
  · rw [if_neg h]
    by_cases h1 : x.f1 > 2000
    · rw [if_pos h1]
      by_cases h2 : x.f1 ≤ 65536
      · rw [if_pos h2]
        exact ⟨false, rfl, fun h => by cases h⟩
      · rw [if_neg h2]
        exact ⟨true, hnext, fun _ => by omega⟩
    · rw [if_neg h1]
      exact ⟨true, hnext, fun _ => by omega⟩
theorem awake_100 : newsreellaw09_awake.f 100 = some true := by kernel_rfl
theorem awake_true {k : Nat} (h : 100 ≤ k) : newsreellaw09_awake.f k = some true := at_rounds newsreellaw09_awake.mono h awake_100
theorem FileTells_pure : newsreellaw09_FileTells.Pure := by
  intro y0 y1 y2 h0 h1 _
  obtain ⟨now, sure, pend⟩ := y0
  obtain ⟨s, at_, b⟩ := y1
  obtain ⟨g0, g1, g2⟩ := h0
  obtain ⟨_, g4, g5⟩ := h1
  show ∃ k, newsreellaw09_FileTells.f k now sure pend s at_ b y2 = some true
  have hn : Bytes now := fun x hx => by have := bounds_u8 (g0.2 x hx); omega
  have hs : Bytes sure := fun x hx => by have := bounds_u8 (g1.2 x hx); omega
  have hp : BytesP pend := fun p hp x hx => by have := bounds_u8 ((g2.2 p hp).2.2 x hx); omega
  have hat : -9223372036854775808 ≤ at_ ∧ at_ ≤ 9223372036854775807 := bounds_i64 g4
  obtain ⟨K, hK⟩ : ∃ K : Nat, K = 3000000000 := ⟨_, rfl⟩
  refine ⟨K + 1, ?_⟩
  have hj : newsreellaw09_FileTells.j0 (K + 1) y2 true now sure pend s at_ b = some true := by
    simp only [newsreellaw09_FileTells.j0]
    rw [if_pos trivial, awake_true (by omega)]
    rfl
  unfold newsreellaw09_FileTells.f newsreelref09_Few.f
  by_cases hnl : (now.length : Int) ≤ 3000
  · rw [if_pos hnl]
    by_cases hsl : (sure.length : Int) ≤ 3000
    · rw [if_pos hsl]
      obtain ⟨f, hf, hfp⟩ := few_law pend (K + 1) (by omega)
      rw [hf, Option.bind_some, Option.bind_some]
      cases f with
      | false => rw [if_neg Bool.false_ne_true]; exact hj
      | true =>
        obtain ⟨q1, q2⟩ := hfp rfl
        have hb : ∀ p ∈ pend, p.f1.length ≤ 40 := fun p hp => (q2 p hp).1
        obtain ⟨t, ht, htp⟩ := light_one (K + 1) (by omega) ⟨s, at_, b⟩
        rw [if_pos rfl, ht, Option.bind_some]
        cases t with
        | false => exact hj
        | true =>
          have hbl : b.length ≤ 100 := htp rfl
          have hb1 : ∀ p ∈ pend, p.f1.length ≤ 100 := fun p h => by have := hb p h; omega
          obtain ⟨w, w1, w2, w3⟩ := write_both K (by omega) now sure pend at_ b hn hs hp (by omega) (by omega) q1 hb hbl (by omega)
          obtain ⟨a, a1, a2⟩ := sync_both K (by omega) now sure pend (by omega) (by omega) q1 hb
          obtain ⟨c, n, c1, c2⟩ := crash_both K (by omega) now sure pend y2 (by omega) q1 hb
          show newsreellaw09_FileTells.j0 (K + 1) y2 false now sure pend s at_ b = some true
          simp only [newsreellaw09_FileTells.j0]
          rw [if_neg Bool.false_ne_true, w1, Option.bind_some, w2, Option.bind_some, c1, Option.bind_some, c2, Option.bind_some, right_law K (by omega) now sure pend (by omega), Option.bind_some, ref_right_law K (by omega) now sure pend (by omega) (by omega) hb1, Option.bind_some, if_pos (by simp), same_file K (by omega) _ _ _ w3, Option.bind_some, if_pos rfl, if_pos rfl, a1, Option.bind_some, a2, Option.bind_some]
          rw [same_file K (by omega) _ _ _ (by show 0 ≤ 400; omega), Option.bind_some, if_pos rfl, same_file K (by omega) _ _ _ (by show 0 ≤ 400; omega), Option.bind_some, if_pos rfl, if_pos rfl, awake_true (by omega)]
          rfl
    · rw [if_neg hsl]; exact hj
  · rw [if_neg hnl]; exact hj

end Go.Proofs.Ytkkikdjfigffhaa.XFil
