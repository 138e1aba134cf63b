/- Of a file behind any acts: what was made sure stays behind a crash, with all bits it is what it was, without any what was sure; what was written within one block since is there, or not: for every input. -/
import Derived.Test.YtkkikdjfigffhaaXFicTellFileCrash
import Derived.OpenShut
import Derived.Laws.Strings
namespace Go.Proofs.Ytkkikdjfigffhaa.XFic
open Go.RowKit Go.Proofs.YtkkikdjfigffhaaW.PrintWords Go.Proofs.YtkkikdjfigffhaaW.PrintLast Go.Proofs.YtkkikdjfigffhaaW.PrintMore

theorem wrap_in {i : Int} (h0 : -9223372036854775808 ≤ i) (h : i < 9223372036854775808) : wrap64 i = i := by
  unfold wrap64; omega

def addP (out : List S46) (q : Int) (z : Int) : List S46 :=
  if q % 16 = 0 ∨ out = [] then out ++ [⟨q, [z]⟩] else out.dropLast ++ [⟨(rd_T46 out ((out.length : Int) - 1)).f0, (rd_T46 out ((out.length : Int) - 1)).f1 ++ [z]⟩]
def cutP : List S46 → Int → List Int → List S46
  | out, _, [] => out
  | out, q, z :: zs => cutP (addP out q z) (q + 1) zs
theorem rd_last (out : List S46) (p : S46) : rd_T46 (out ++ [p]) (((out ++ [p]).length : Int) - 1) = p := by
  unfold rd_T46
  rw [List.length_append, List.length_singleton, show (((out.length + 1 : Nat) : Int) - 1).toNat = out.length by omega, List.getD_eq_getElem?_getD, List.getElem?_append_right (Nat.le_refl _), Nat.sub_self]
  rfl
theorem set_last (out : List S46) (p r : S46) : (out ++ [p]).set ((((out ++ [p]).length : Int) - 1)).toNat r = out ++ [r] := by
  rw [List.length_append, List.length_singleton, show (((out.length + 1 : Nat) : Int) - 1).toNat = out.length by omega, List.set_append_right _ _ (Nat.le_refl _), Nat.sub_self]
  rfl
theorem addP_new (out : List S46) (q z : Int) (h : q % 16 = 0 ∨ out = []) : addP out q z = out ++ [⟨q, [z]⟩] := by
  unfold addP; rw [if_pos h]
theorem addP_old (out : List S46) (p : S46) (q z : Int) (h : ¬ q % 16 = 0) : addP (out ++ [p]) q z = out ++ [⟨p.f0, p.f1 ++ [z]⟩] := by
  unfold addP
  rw [if_neg (by rintro (h1 | h1); exact h h1; simp at h1), rd_last, List.dropLast_concat]
theorem cut_append (xs zs : List Int) : ∀ (out : List S46) (q : Int), cutP out q (xs ++ zs) = cutP (cutP out q xs) (q + xs.length) zs := by
  induction xs with
  | nil => intro out q; simp [cutP]
  | cons x xs ih =>
    intro out q
    simp only [List.cons_append, cutP]
    rw [ih, List.length_cons, show q + 1 + (xs.length : Int) = q + ((xs.length + 1 : Nat) : Int) by omega]
theorem cut_in (zs : List Int) : ∀ (out : List S46) (p : S46) (q : Int), zs = [] ∨ (¬ q % 16 = 0 ∧ (zs.length : Int) ≤ 16 - q % 16) → cutP (out ++ [p]) q zs = out ++ [⟨p.f0, p.f1 ++ zs⟩] := by
  induction zs with
  | nil => intro out p q _; simp [cutP]
  | cons z zs ih =>
    intro out p q h
    rcases h with h | ⟨h1, h2⟩
    · cases h
    · simp only [cutP]
      rw [addP_old out p q z h1, ih]
      · simp
      · rw [List.length_cons] at h2
        cases zs with
        | nil => exact Or.inl rfl
        | cons y ys => rw [List.length_cons] at h2 ⊢; right; omega
theorem cut_block (out : List S46) (q : Int) (zs : List Int) (n : Nat) (h : q % 16 = 0 ∨ out = []) (h0 : 0 < n) (h1 : n ≤ zs.length) (h2 : (n : Int) ≤ 16 - q % 16) : cutP out q zs = cutP (out ++ [⟨q, zs.take n⟩]) (q + n) (zs.drop n) := by
  have e : zs = zs.take n ++ zs.drop n := (List.take_append_drop n zs).symm
  have hl : (zs.take n).length = n := by rw [List.length_take]; omega
  have e2 : cutP out q (zs.take n) = out ++ [⟨q, zs.take n⟩] := by
    generalize zs.take n = ys at hl
    cases ys with
    | nil => simp at hl; omega
    | cons y ys =>
      simp only [cutP]
      rw [addP_new out q y h, cut_in]
      · rfl
      · rw [List.length_cons] at hl
        cases ys with
        | nil => exact Or.inl rfl
        | cons w ws => rw [List.length_cons] at hl ⊢; right; omega
  conv => lhs; rw [e]
  rw [cut_append, e2, hl]
theorem pieces_loop : ∀ (k : Nat) (zs : List Int) (q : Int) (out : List S46), zs.length < k → 0 ≤ q → q + zs.length ≤ 65536 → (q % 16 = 0 ∨ out = [] ∨ zs = []) → out.length + zs.length ≤ 1000000 → block_Pieces.l0 k q zs out = some (cutP out q zs, 0) := by
  intro k
  induction k with
  | zero => intro zs q out h; omega
  | succ k ih =>
    intro zs q out hk h0 h1 h2 h3
    simp only [block_Pieces.l0]
    by_cases hz : (zs.length : Int) > 0
    · have e1 : Int.tmod q 16 = q % 16 := Int.tmod_eq_emod_of_nonneg h0
      have e2 : wrap64 (16 - q % 16) = 16 - q % 16 := wrap_in (by omega) (by omega)
      obtain ⟨n, hn⟩ : ∃ n : Nat, (n : Int) = mn (16 - q % 16) (zs.length : Int) := ⟨(mn (16 - q % 16) (zs.length : Int)).toNat, by unfold mn; split <;> omega⟩
      have hn0 : 0 < n ∧ n ≤ zs.length ∧ (n : Int) ≤ 16 - q % 16 := by unfold mn at hn; split at hn <;> omega
      have h2' : q % 16 = 0 ∨ out = [] := by
        rcases h2 with h | h | h
        · exact Or.inl h
        · exact Or.inr h
        · subst h; simp at hz
      rw [if_pos hz, e1, e2, ← hn, if_pos (show (0 : Int) ≤ (n : Int) by omega), if_pos (show (n : Int) ≤ (zs.length : Int) by omega), Int.toNat_natCast]
      unfold bytes_Clone.f
      have hq : wrap64 (q + (n : Int)) = q + n := wrap_in (by omega) (by omega)
      rw [if_pos (show (zs.take n).length < 140737488355328 by rw [List.length_take]; omega), Option.bind_some, if_pos (show out.length < 4398046511104 by omega), hq]
      have hdl : (zs.drop n).length = zs.length - n := List.length_drop
      rw [ih]
      · rw [cut_block out q zs n h2' hn0.1 hn0.2.1 hn0.2.2]
      · omega
      · omega
      · omega
      · by_cases hd : zs.drop n = []
        · exact Or.inr (Or.inr hd)
        · left
          have : (zs.drop n).length ≠ 0 := fun h => hd (List.eq_nil_of_length_eq_zero h)
          unfold mn at hn; split at hn <;> omega
      · rw [List.length_append, List.length_singleton]; omega
    · rw [if_neg hz]
      have : zs = [] := List.eq_nil_of_length_eq_zero (by omega)
      subst this
      rfl
theorem addP_len (out : List S46) (q z : Int) : (addP out q z).length ≤ out.length + 1 ∧ addP out q z ≠ [] := by
  unfold addP
  split
  · exact ⟨by simp, by simp⟩
  · refine ⟨?_, by simp⟩
    rw [List.length_append, List.length_dropLast, List.length_singleton]; omega
theorem ref_pieces_loop (b : List Int) (at_ : Int) (h0 : 0 ≤ at_) (h1 : at_ + b.length ≤ 65536) : ∀ (k i : Nat) (out : List S46), b.length - i < k → i ≤ b.length → (i = 0 ↔ out = []) → out.length ≤ i → (∀ p ∈ out, p.f1.length ≤ i) → newsreelref08_Pieces.l0 k at_ b out (i : Int) = some (cutP out (at_ + i) (b.drop i), 0) := by
  intro k
  induction k with
  | zero => intro i out h; omega
  | succ k ih =>
    intro i out hk hi hne hol hpl
    simp only [newsreelref08_Pieces.l0]
    by_cases hz : (i : Int) < (b.length : Int)
    · have hlt : i < b.length := by omega
      have hrd : rd b (i : Int) = b[i] := by
        unfold rd
        rw [Int.toNat_natCast, List.getD_eq_getElem?_getD, List.getElem?_eq_getElem hlt]
        rfl
      have hd : b.drop i = b[i] :: b.drop (i + 1) := List.drop_eq_getElem_cons hlt
      have hq : wrap64 (at_ + (i : Int)) = at_ + i := wrap_in (by omega) (by omega)
      have hi1 : wrap64 ((i : Int) + 1) = ((i + 1 : Nat) : Int) := by rw [wrap_in (by omega) (by omega)]; omega
      have e1 : Int.tmod (at_ + (i : Int)) 16 = (at_ + i) % 16 := Int.tmod_eq_emod_of_nonneg (by omega)
      have hgo : ∀ o2 : List S46, o2 = addP out (at_ + i) b[i] → (∀ p ∈ o2, p.f1.length ≤ i + 1) → newsreelref08_Pieces.l0 k at_ b o2 (((i + 1 : Nat)) : Int) = some (cutP out (at_ + i) (b.drop i), 0) := by
        intro o2 he hp
        obtain ⟨g1, g2⟩ := addP_len out (at_ + i) b[i]
        rw [ih (i + 1) o2 (by omega) (by omega) ⟨fun h => by omega, fun h => by rw [he] at h; exact absurd h g2⟩ (by rw [he]; omega) hp, hd, he]
        simp only [cutP]
        rw [show at_ + ((i + 1 : Nat) : Int) = at_ + (i : Int) + 1 by omega]
      have hnew : out.length < 4398046511104 → (q : at_ + (i : Int) = at_ + (i : Int)) → ((at_ + (i : Int)) % 16 = 0 ∨ out = []) → ((some (out ++ [(⟨at_ + (i : Int), ([] : List Int)⟩ : S46)] : List S46)).bind fun y => (if 0 ≤ (wrap64 ((y.length : Int) - 1)) then (if (wrap64 ((y.length : Int) - 1)) < (y.length : Int) then (if 0 ≤ (i : Int) then (if ((rd_T46 y (wrap64 ((y.length : Int) - 1))).f1).length < 140737488355328 then (newsreelref08_Pieces.l0 k at_ b (y.set ((wrap64 ((y.length : Int) - 1)) : Int).toNat (⟨(rd_T46 y (wrap64 ((y.length : Int) - 1))).f0, (((rd_T46 y (wrap64 ((y.length : Int) - 1))).f1) ++ [b[i]])⟩ : S46)) ((i + 1 : Nat) : Int)) else (none)) else (none)) else (none)) else (none))) = some (cutP out (at_ + i) (b.drop i), 0) := by
        intro ho _ hnw
        rw [Option.bind_some]
        have hyl : (out ++ [(⟨at_ + (i : Int), ([] : List Int)⟩ : S46)]).length = out.length + 1 := by rw [List.length_append, List.length_singleton]
        have hw : wrap64 (((out ++ [(⟨at_ + (i : Int), ([] : List Int)⟩ : S46)]).length : Int) - 1) = ((out ++ [(⟨at_ + (i : Int), ([] : List Int)⟩ : S46)]).length : Int) - 1 := wrap_in (by omega) (by omega)
        rw [hw, if_pos (by omega), if_pos (by omega), if_pos (show 0 ≤ (i : Int) by omega), rd_last, set_last, if_pos (show ([] : List Int).length < 140737488355328 by rw [List.length_nil]; omega)]
        refine hgo _ (addP_new out _ _ hnw).symm (fun p hp => ?_)
        rcases List.mem_append.1 hp with h | h
        · have := hpl p h; omega
        · rw [List.mem_singleton.1 h]; simp
      rw [if_pos hz, hrd, hq, hi1, e1]
      by_cases hi0 : (i : Int) = 0
      · rw [if_pos hi0, if_pos (show out.length < 4398046511104 by omega)]
        exact hnew (by omega) rfl (Or.inr (hne.1 (by omega)))
      · rw [if_neg hi0]
        by_cases hm : (at_ + (i : Int)) % 16 = 0
        · rw [if_pos hm, if_pos (show out.length < 4398046511104 by omega)]
          exact hnew (by omega) rfl (Or.inl hm)
        · rw [if_neg hm]
          rcases List.eq_nil_or_concat out with h | ⟨o1, p, h⟩
          · exact absurd (hne.2 h) (by omega)
          · rw [List.concat_eq_append] at h
            subst h
            have hyl : (o1 ++ [p]).length = o1.length + 1 := by rw [List.length_append, List.length_singleton]
            have hw : wrap64 (((o1 ++ [p]).length : Int) - 1) = ((o1 ++ [p]).length : Int) - 1 := wrap_in (by omega) (by omega)
            have hpp := hpl p (List.mem_append_right _ (List.mem_singleton.2 rfl))
            rw [hw, if_pos (show 0 ≤ ((o1 ++ [p]).length : Int) - 1 by omega), if_pos (show ((o1 ++ [p]).length : Int) - 1 < ((o1 ++ [p]).length : Int) by omega), if_pos (show 0 ≤ (i : Int) by omega), rd_last, set_last, if_pos (show p.f1.length < 140737488355328 by omega)]
            refine hgo _ (addP_old o1 p _ _ hm).symm (fun r hr => ?_)
            rcases List.mem_append.1 hr with h | h
            · have := hpl r (List.mem_append_left _ h); omega
            · rw [List.mem_singleton.1 h]
              show (p.f1 ++ [b[i]]).length ≤ i + 1
              rw [List.length_append, List.length_singleton]; omega
    · rw [if_neg hz, List.drop_of_length_le (by omega)]
      rfl
theorem add_small (out : List S46) (q z : Int) (m : Nat) (h : ∀ p ∈ out, p.f1.length ≤ m) : ∀ p ∈ addP out q z, p.f1.length ≤ m + 1 := by
  intro p hp
  unfold addP at hp
  split at hp
  · rcases List.mem_append.1 hp with h1 | h1
    · have := h p h1; omega
    · rw [List.mem_singleton.1 h1]; show ([z] : List Int).length ≤ m + 1; rw [List.length_singleton]; omega
  · rename_i hne
    rcases List.mem_append.1 hp with h1 | h1
    · have := h p (List.dropLast_subset _ h1); omega
    · rw [List.mem_singleton.1 h1]
      rcases List.eq_nil_or_concat out with e | ⟨o1, p1, e⟩
      · exact absurd (Or.inr e) hne
      · rw [List.concat_eq_append] at e
        subst e
        rw [rd_last]
        have := h p1 (List.mem_append_right _ (List.mem_singleton.2 rfl))
        show (p1.f1 ++ [z]).length ≤ m + 1
        rw [List.length_append, List.length_singleton]; omega
theorem cut_small (zs : List Int) : ∀ (out : List S46) (q : Int) (m : Nat), (∀ p ∈ out, p.f1.length ≤ m) → ∀ p ∈ cutP out q zs, p.f1.length ≤ m + zs.length := by
  induction zs with
  | nil => intro out q m h p hp; simp only [cutP] at hp; have := h p hp; omega
  | cons z zs ih =>
    intro out q m h p hp
    simp only [cutP] at hp
    have := ih (addP out q z) (q + 1) (m + 1) (add_small out q z m h) p hp
    rw [List.length_cons]; omega
theorem pieces_both (k : Nat) (at_ : Int) (b : List Int) (hb : b.length ≤ 400) (hw : at_ < 9223372036854775808) (hk : 1000 ≤ k) : ∃ r, block_Pieces.f k at_ b = some r ∧ newsreelref08_Pieces.f k at_ b = some r ∧ r.1.length ≤ b.length ∧ ∀ p ∈ r.1, p.f1.length ≤ b.length := by
  obtain ⟨k, rfl⟩ : ∃ m, k = m + 1 := ⟨k - 1, by omega⟩
  unfold block_Pieces.f newsreelref08_Pieces.f
  by_cases h0 : at_ < 0
  · exact ⟨_, by rw [if_pos h0], by rw [if_pos h0], by simp, by simp⟩
  · rw [if_neg h0, if_neg h0]
    by_cases h1 : at_ > 65536
    · refine ⟨(([] : List S46), 4), ?_, ?_, by simp, by simp⟩
      · rw [if_pos h1]; rfl
      · rw [if_pos h1]; rfl
    · rw [if_neg h1, if_neg h1, wrap_in (show -9223372036854775808 ≤ 65536 - at_ by omega) (by omega)]
      by_cases h2 : (b.length : Int) > 65536 - at_
      · rw [decide_eq_true h2]
        refine ⟨(([] : List S46), 4), ?_, ?_, by simp, by simp⟩
        · rfl
        · rfl
      · rw [decide_eq_false h2]
        refine ⟨(cutP [] at_ b, 0), ?_, ?_, ?_, fun p hp => by have := cut_small b [] at_ 0 (by simp) p hp; omega⟩
        · simp only [block_Pieces.j0]
          rw [if_neg Bool.false_ne_true]
          exact pieces_loop k b at_ [] (by omega) (by omega) (by omega) (Or.inr (Or.inl rfl)) (by rw [List.length_nil]; omega)
        · simp only [newsreelref08_Pieces.j0]
          rw [if_neg Bool.false_ne_true]
          have := ref_pieces_loop b at_ (by omega) (by omega) k 0 [] (by omega) (by omega) ⟨fun _ => rfl, fun _ => rfl⟩ (by simp) (by simp)
          simpa using this
        · have hlen : ∀ (zs : List Int) (out : List S46) (q : Int), (cutP out q zs).length ≤ out.length + zs.length := by
            intro zs
            induction zs with
            | nil => intro out q; simp [cutP]
            | cons z zs ih =>
              intro out q
              simp only [cutP]
              have h3 := ih (addP out q z) (q + 1)
              have h4 := (addP_len out q z).1
              rw [List.length_cons]; omega
          have := hlen b [] at_
          rw [List.length_nil] at this
          show (cutP [] at_ b).length ≤ b.length
          omega
theorem ref_right (p : S46) : newsreelref08_Right.f p.f0 p.f1 = some (block_Lay.rightB p) := by
  unfold newsreelref08_Right.f block_Lay.rightB
  by_cases h1 : p.f0 ≥ 0
  · rw [if_pos h1, decide_eq_true (by omega : 0 ≤ p.f0)]
    by_cases h2 : p.f0 < 65536
    · rw [if_pos h2, decide_eq_true h2]
      by_cases h3 : (p.f1.length : Int) > 0
      · rw [if_pos h3, decide_eq_true (by omega : 0 < p.f1.length), Int.tmod_eq_emod_of_nonneg (by omega), wrap_in (show -9223372036854775808 ≤ 16 - p.f0 % 16 by omega) (by omega)]
        rfl
      · rw [if_neg h3, decide_eq_false (by omega : ¬ 0 < p.f1.length)]; rfl
    · rw [if_neg h2, decide_eq_false h2]; rfl
  · rw [if_neg h1, decide_eq_false (by omega : ¬ 0 ≤ p.f0)]; rfl

theorem same_list {X Y : List Int} (hl : X.length = Y.length) (h : ∀ i, X.getD i 0 = Y.getD i 0) : X = Y := by
  apply List.ext_getElem hl
  intro i h1 h2
  have := h i
  rw [List.getD_eq_getElem?_getD, List.getD_eq_getElem?_getD, List.getElem?_eq_getElem h1, List.getElem?_eq_getElem h2] at this
  exact this
theorem get_app (X Y : List Int) (i : Nat) : (X ++ Y).getD i 0 = if i < X.length then X.getD i 0 else Y.getD (i - X.length) 0 := by
  rw [List.getD_eq_getElem?_getD, List.getD_eq_getElem?_getD, List.getD_eq_getElem?_getD]
  split
  · rw [List.getElem?_append_left (by omega)]
  · rw [List.getElem?_append_right (by omega)]
theorem get_rep (n i : Nat) : (List.replicate n (0 : Int)).getD i 0 = 0 := by
  rw [List.getD_eq_getElem?_getD, List.getElem?_replicate]
  split <;> rfl
theorem get_out (X : List Int) (i : Nat) (h : X.length ≤ i) : X.getD i 0 = 0 := by
  rw [List.getD_eq_getElem?_getD, List.getElem?_eq_none h]; rfl
theorem get_pad (X : List Int) (n i : Nat) : (X ++ List.replicate n 0).getD i 0 = X.getD i 0 := by
  rw [get_app, get_rep]
  split
  · rfl
  · rw [get_out X i (by omega)]
theorem get_take (X : List Int) (n i : Nat) : (X.take n).getD i 0 = if i < n then X.getD i 0 else 0 := by
  rw [List.getD_eq_getElem?_getD, List.getElem?_take, List.getD_eq_getElem?_getD]
  split <;> rfl
theorem get_drop (X : List Int) (n i : Nat) : (X.drop n).getD i 0 = X.getD (n + i) 0 := by
  rw [List.getD_eq_getElem?_getD, List.getElem?_drop, List.getD_eq_getElem?_getD]
theorem get_set (X : List Int) (n i : Nat) (v : Int) (h : n < X.length) : (X.set n v).getD i 0 = if i = n then v else X.getD i 0 := by
  rw [List.getD_eq_getElem?_getD, List.getElem?_set, List.getD_eq_getElem?_getD]
  by_cases e : n = i
  · subst e; rw [if_pos rfl, if_pos rfl, if_pos h]; rfl
  · rw [if_neg e, if_neg (fun h => e h.symm)]
def putB (out : List Int) (pos : Nat) (z : Int) : List Int := (out ++ List.replicate (pos + 1 - out.length) 0).set pos z
def putsB : List Int → Nat → List Int → List Int
  | out, _, [] => out
  | out, pos, z :: zs => putsB (putB out pos z) (pos + 1) zs
theorem putB_len (out : List Int) (pos : Nat) (z : Int) : (putB out pos z).length = max out.length (pos + 1) := by
  unfold putB; rw [List.length_set, List.length_append, List.length_replicate]; omega
theorem putB_get (out : List Int) (pos : Nat) (z : Int) (i : Nat) : (putB out pos z).getD i 0 = if i = pos then z else out.getD i 0 := by
  unfold putB
  rw [get_set _ _ _ _ (by rw [List.length_append, List.length_replicate]; omega), get_pad]
theorem puts_len (zs : List Int) : ∀ (out : List Int) (pos : Nat), zs ≠ [] → (putsB out pos zs).length = max out.length (pos + zs.length) := by
  induction zs with
  | nil => intro out pos h; exact absurd rfl h
  | cons z zs ih =>
    intro out pos _
    simp only [putsB]
    cases zs with
    | nil => simp only [putsB]; rw [putB_len]; rfl
    | cons y ys => rw [ih _ _ (by simp), putB_len, List.length_cons, List.length_cons, List.length_cons]; omega
theorem puts_get (zs : List Int) : ∀ (out : List Int) (pos i : Nat), (putsB out pos zs).getD i 0 = if pos ≤ i ∧ i < pos + zs.length then zs.getD (i - pos) 0 else out.getD i 0 := by
  induction zs with
  | nil => intro out pos i; simp only [putsB]; rw [if_neg (by rw [List.length_nil]; omega)]
  | cons z zs ih =>
    intro out pos i
    simp only [putsB]
    rw [ih, putB_get, List.length_cons]
    by_cases h1 : i = pos
    · subst h1
      rw [if_neg (by omega), if_pos rfl, if_pos (by omega), Nat.sub_self]
      rfl
    · by_cases h2 : pos + 1 ≤ i ∧ i < pos + 1 + zs.length
      · rw [if_pos h2, if_pos (by omega), show i - pos = i - (pos + 1) + 1 by omega]
        rfl
      · rw [if_neg h2, if_neg h1, if_neg (by omega)]
theorem puts_one (out : List Int) (p : S46) (h : block_Lay.rightB p = true) : putsB out p.f0.toNat p.f1 = block_Lay.one out p := by
  obtain ⟨h1, h2, h3, h4⟩ := block_Lay.right_b h
  have hne : p.f1 ≠ [] := fun e => by rw [e] at h3; simp at h3
  unfold block_Lay.one
  rw [if_pos h]
  generalize hp : p.f0.toNat = pos
  apply same_list
  · rw [puts_len _ _ _ hne]
    simp only [List.length_append, List.length_take, List.length_drop, List.length_replicate]
    omega
  · intro i
    rw [puts_get, get_app, get_app, get_take, get_drop, get_pad, get_pad]
    simp only [List.length_append, List.length_take, List.length_replicate]
    rw [show min pos (out.length + (pos + p.f1.length - out.length)) = pos by omega]
    by_cases c1 : i < pos
    · rw [if_neg (by omega), if_pos (by omega), if_pos c1, if_pos c1]
    · by_cases c2 : i < pos + p.f1.length
      · rw [if_pos (by omega), if_pos c2, if_neg c1]
      · rw [if_neg (by omega), if_neg c2, show pos + p.f1.length + (i - (pos + p.f1.length)) = i by omega]
theorem put_zero (out : List Int) (pos : Nat) (z : Int) (h : out.length ≤ pos) : putB (out ++ [0]) pos z = putB out pos z := by
  apply same_list
  · rw [putB_len, putB_len, List.length_append, List.length_singleton]; omega
  · intro i
    rw [putB_get, putB_get]
    have := get_pad out 1 i
    rw [show List.replicate 1 (0 : Int) = [0] from rfl] at this
    rw [this]
theorem lay_l2 (l : List S46) (x : Nat) (hx : x < l.length) (hx2 : x < 10000) (h0 : 0 ≤ l[x].f0) (h1 : l[x].f0 < 65536) (j : Nat) (hj : j < l[x].f1.length) (hj2 : j < 1000) (K : Nat) (r : Option (List Int)) : ∀ (d : Nat) (out : List Int), l[x].f0.toNat + j + 1 - out.length ≤ d → out.length ≤ 1000000 → (∀ k, K ≤ k → newsreelref08_Lay.l1 k l (putB out (l[x].f0.toNat + j) (l[x].f1[j])) (x : Int) ((j + 1 : Nat) : Int) = r) → ∀ k, K + d + 1 ≤ k → newsreelref08_Lay.l2 k l out (x : Int) (j : Int) = r := by
  have hrd : rd_T46 l (x : Int) = l[x] := by
    unfold rd_T46
    rw [Int.toNat_natCast, List.getD_eq_getElem?_getD, List.getElem?_eq_getElem hx]
    rfl
  have hrj : rd l[x].f1 (j : Int) = l[x].f1[j] := by
    unfold rd
    rw [Int.toNat_natCast, List.getD_eq_getElem?_getD, List.getElem?_eq_getElem hj]
    rfl
  have hw : wrap64 (l[x].f0 + (j : Int)) = l[x].f0 + j := wrap_in (by omega) (by omega)
  have hw1 : wrap64 ((j : Int) + 1) = ((j + 1 : Nat) : Int) := by rw [wrap_in (by omega) (by omega)]; omega
  intro d
  induction d with
  | zero =>
    intro out hd ho hr k hk
    obtain ⟨k, rfl⟩ : ∃ m, k = m + 1 := ⟨k - 1, by omega⟩
    simp only [newsreelref08_Lay.l2]
    have hset : out.set (l[x].f0 + (j : Int)).toNat l[x].f1[j] = putB out (l[x].f0.toNat + j) l[x].f1[j] := by
      unfold putB
      rw [show l[x].f0.toNat + j + 1 - out.length = 0 by omega, List.replicate_zero, List.append_nil, show (l[x].f0 + (j : Int)).toNat = l[x].f0.toNat + j by omega]
    rw [hrd, hw, hw1, hrj, if_pos (show 0 ≤ (x : Int) by omega), if_pos (show (x : Int) < (l.length : Int) by omega), if_neg (show ¬ (out.length : Int) ≤ l[x].f0 + (j : Int) by omega), if_pos (show 0 ≤ (j : Int) by omega), if_pos (show (j : Int) < (l[x].f1.length : Int) by omega), if_pos (show 0 ≤ l[x].f0 + (j : Int) by omega), if_pos (show l[x].f0 + (j : Int) < (out.length : Int) by omega), hset]
    exact hr k (by omega)
  | succ d ih =>
    intro out hd ho hr k hk
    by_cases hfit : l[x].f0.toNat + j + 1 - out.length ≤ d
    · exact ih out hfit ho hr k (by omega)
    · obtain ⟨k, rfl⟩ : ∃ m, k = m + 1 := ⟨k - 1, by omega⟩
      simp only [newsreelref08_Lay.l2]
      rw [hrd, hw, if_pos (show 0 ≤ (x : Int) by omega), if_pos (show (x : Int) < (l.length : Int) by omega), if_pos (show (out.length : Int) ≤ l[x].f0 + (j : Int) by omega), if_pos (show out.length < 140737488355328 by omega)]
      have hle : (out ++ [0]).length = out.length + 1 := by rw [List.length_append, List.length_singleton]
      refine ih (out ++ [0]) (by omega) (by omega) (fun k' hk' => ?_) k (by omega)
      rw [put_zero _ _ _ (by omega)]
      exact hr k' hk'
theorem lay_l1 (l : List S46) (x : Nat) (hx : x < l.length) (hx2 : x < 10000) (h0 : 0 ≤ l[x].f0) (h1 : l[x].f0 < 65536) (hj2 : l[x].f1.length < 1000) (K : Nat) (r : Option (List Int)) : ∀ (d : Nat) (j : Nat) (out : List Int), j + d = l[x].f1.length → out.length ≤ 100000 → (∀ k, K ≤ k → newsreelref08_Lay.l0 k l (putsB out (l[x].f0.toNat + j) (l[x].f1.drop j)) ((x + 1 : Nat) : Int) = r) → ∀ k, K + d * 70000 + 1 ≤ k → newsreelref08_Lay.l1 k l out (x : Int) (j : Int) = r := by
  have hrd : rd_T46 l (x : Int) = l[x] := by
    unfold rd_T46
    rw [Int.toNat_natCast, List.getD_eq_getElem?_getD, List.getElem?_eq_getElem hx]
    rfl
  intro d
  induction d with
  | zero =>
    intro j out hd ho hr k hk
    obtain ⟨k, rfl⟩ : ∃ m, k = m + 1 := ⟨k - 1, by omega⟩
    simp only [newsreelref08_Lay.l1]
    rw [hrd, if_pos (show 0 ≤ (x : Int) by omega), if_pos (show (x : Int) < (l.length : Int) by omega), if_neg (show ¬ (j : Int) < (l[x].f1.length : Int) by omega), wrap_in (show -9223372036854775808 ≤ (x : Int) + 1 by omega) (by omega)]
    have := hr k (by omega)
    rw [List.drop_of_length_le (by omega)] at this
    exact this
  | succ d ih =>
    intro j out hd ho hr k hk
    obtain ⟨k, rfl⟩ : ∃ m, k = m + 1 := ⟨k - 1, by omega⟩
    simp only [newsreelref08_Lay.l1]
    have hj : j < l[x].f1.length := by omega
    rw [hrd, if_pos (show 0 ≤ (x : Int) by omega), if_pos (show (x : Int) < (l.length : Int) by omega), if_pos (show (j : Int) < (l[x].f1.length : Int) by omega)]
    refine lay_l2 l x hx hx2 h0 h1 j hj (by omega) (K + d * 70000 + 1) r 66540 out (by omega) (by omega) (fun k' hk' => ?_) k (by omega)
    refine ih (j + 1) _ (by omega) (by rw [putB_len]; omega) (fun k2 hk2 => ?_) k' hk'
    have := hr k2 hk2
    rw [List.drop_eq_getElem_cons hj] at this
    simp only [putsB] at this
    exact this
theorem lay_l0 (C : Nat) (hC : 100 * 70000 + 10 ≤ C) (l : List S46) (hl : l.length ≤ 3000) (hb : ∀ p ∈ l, p.f1.length ≤ 100) : ∀ (d k i : Nat) (out : List Int), i + d = l.length → out.length ≤ 100000 → d * C < k → newsreelref08_Lay.l0 k l out (i : Int) = some ((l.drop i).foldl block_Lay.one out) := by
  intro d
  induction d with
  | zero =>
    intro k i out hi ho hk
    obtain ⟨k, rfl⟩ : ∃ m, k = m + 1 := ⟨k - 1, by omega⟩
    simp only [newsreelref08_Lay.l0]
    rw [if_neg (by omega), List.drop_of_length_le (by omega)]
    rfl
  | succ d ih =>
    intro k i out hi ho hk
    obtain ⟨k, rfl⟩ : ∃ m, k = m + 1 := ⟨k - 1, by omega⟩
    rw [Nat.succ_mul] at hk
    have hk1 : d * C < k := by generalize d * C = D at hk ⊢; omega
    have hk2 : d * C + 1 + 100 * 70000 + 1 ≤ k := by generalize d * C = D at hk ⊢; omega
    clear hk
    have hlt : i < l.length := by omega
    have hrd : rd_T46 l (i : Int) = l[i] := by
      unfold rd_T46
      rw [Int.toNat_natCast, List.getD_eq_getElem?_getD, List.getElem?_eq_getElem hlt]
      rfl
    have hd : l.drop i = l[i] :: l.drop (i + 1) := List.drop_eq_getElem_cons hlt
    have hol := block_Lay.one_len out l[i]
    have hlen := hb l[i] (List.getElem_mem hlt)
    rw [hd, List.foldl_cons]
    simp only [newsreelref08_Lay.l0]
    rw [if_pos (show (i : Int) < (l.length : Int) by omega), if_pos (show 0 ≤ (i : Int) by omega), hrd, ref_right, Option.bind_some]
    cases hrb : block_Lay.rightB l[i] with
    | false =>
      rw [if_neg Bool.false_ne_true, wrap_in (show -9223372036854775808 ≤ (i : Int) + 1 by omega) (by omega), show (i : Int) + 1 = ((i + 1 : Nat) : Int) by omega, ih k (i + 1) out (by omega) ho hk1]
      have : block_Lay.one out l[i] = out := by unfold block_Lay.one; rw [hrb]; rfl
      rw [this]
    | true =>
      obtain ⟨h1, h2, h3, h4⟩ := block_Lay.right_b hrb
      rw [if_pos rfl]
      refine lay_l1 l i hlt (by omega) h1 h2 (by omega) (d * C + 1) _ l[i].f1.length 0 out (by omega) ho (fun k' hk' => ?_) k (Nat.le_trans (Nat.add_le_add_right (Nat.add_le_add_left (Nat.mul_le_mul_right _ hlen) _) _) hk2)
      rw [List.drop_zero, Nat.add_zero, puts_one out l[i] hrb]
      exact ih k' (i + 1) _ (by omega) (by omega) (by omega)
theorem lay_both (f : List Int) (l : List S46) (hf : f.length ≤ 70000) (hl : l.length ≤ 3000) (hb : ∀ p ∈ l, p.f1.length ≤ 100) (k : Nat) (hk : 30000000000 ≤ k) : block_Lay.f f l = some (l.foldl block_Lay.one f) ∧ newsreelref08_Lay.f k f l = some (l.foldl block_Lay.one f) := by
  refine ⟨by unfold block_Lay.f; rw [if_pos (by omega)], ?_⟩
  unfold newsreelref08_Lay.f
  rw [Option.bind_some, if_pos (show ([] : List Int).length + f.length < 140737488355328 by rw [List.length_nil]; omega), List.nil_append]
  refine lay_l0 8000000 (by omega) l hl hb l.length k 0 f (by omega) (by omega) (Nat.lt_of_le_of_lt (Nat.mul_le_mul_right _ hl) (by omega))

theorem nums_inj {a b : List Int} (ha : ∀ x ∈ a, 0 ≤ x ∧ x < 256) (hb : ∀ x ∈ b, 0 ≤ x ∧ x < 256) (h : (strOfNums a).toList = (strOfNums b).toList) : a = b := by
  have e : ∀ l : List Int, (strOfNums l).toList = l.map fun n => UInt8.ofNat n.toNat := fun l => by
    rw [Go.ByteArray.toList_eq]
    exact strOfNums_data l
  rw [e, e] at h
  clear e
  induction a generalizing b with
  | nil => cases b with
    | nil => rfl
    | cons y b => simp at h
  | cons x a ih => cases b with
    | nil => simp at h
    | cons y b =>
      simp only [List.map_cons, List.cons.injEq] at h
      have hx := ha x List.mem_cons_self
      have hy := hb y List.mem_cons_self
      have h1 := congrArg UInt8.toNat h.1
      rw [UInt8.toNat_ofNat', UInt8.toNat_ofNat'] at h1
      rw [ih (fun z hz => ha z (List.mem_cons_of_mem _ hz)) (fun z hz => hb z (List.mem_cons_of_mem _ hz)) h.2, show x = y by omega]


def Bytes (l : List Int) : Prop := ∀ x ∈ l, 0 ≤ x ∧ x < 256
def BytesP (l : List S46) : Prop := ∀ p ∈ l, Bytes p.f1
theorem one_bytes (out : List Int) (p : S46) (ho : Bytes out) (hp : Bytes p.f1) : Bytes (block_Lay.one out p) := by
  unfold block_Lay.one
  split
  · have hr : Bytes (out ++ List.replicate (p.f0.toNat + p.f1.length - out.length) 0) := by
      intro x hx
      rcases List.mem_append.1 hx with h | h
      · exact ho x h
      · rw [List.eq_of_mem_replicate h]; omega
    intro x hx
    rcases List.mem_append.1 hx with h | h
    · rcases List.mem_append.1 h with h | h
      · exact hr x (List.mem_of_mem_take h)
      · exact hp x h
    · exact hr x (List.mem_of_mem_drop h)
  · exact ho
theorem fold_bytes (l : List S46) : ∀ (out : List Int), Bytes out → BytesP l → Bytes (l.foldl block_Lay.one out) := by
  induction l with
  | nil => intro out ho _; exact ho
  | cons p l ih => intro out ho hl; exact ih _ (one_bytes out p ho (hl p List.mem_cons_self)) (fun q hq => hl q (List.mem_cons_of_mem _ hq))
theorem fold_len2 (l : List S46) : ∀ (out : List Int), out.length ≤ 65552 → (l.foldl block_Lay.one out).length ≤ 65552 := by
  induction l with
  | nil => intro out h; exact h
  | cons p l ih => intro out h; exact ih _ (by have := block_Lay.one_len out p; omega)
def rt (now sure : List Int) (pend : List S46) : Bool := if (pend.all fun p => block_Lay.rightB p) = true then (strOfNums now).toList == (strOfNums (pend.foldl block_Lay.one sure)).toList else false
theorem contains_f (l : List S46) : file_Right_1_ContainsFunc.f l = some (!(l.all fun p => block_Lay.rightB p)) := by
  have hp : ∀ x : S46, file_Right_1_ContainsFunc.p x = some (!(block_Lay.rightB x)) := fun x => by
    unfold file_Right_1_ContainsFunc.p file_Right_1.f
    rw [block_Lay.right_f]
    rfl
  unfold file_Right_1_ContainsFunc.f
  rw [if_pos (List.all_eq_true.2 fun x _ => by rw [hp]; rfl)]
  congr 1
  induction l with
  | nil => rfl
  | cons x l ih =>
    rw [List.any_cons, List.all_cons, ih, hp]
    cases block_Lay.rightB x <;> rfl
theorem right_law (k : Nat) (hk : 1 ≤ k) (now sure : List Int) (pend : List S46) (hs : sure.length ≤ 65536) : file_Right.f k now sure pend = some (rt now sure pend) := by
  obtain ⟨k, rfl⟩ : ∃ m, k = m + 1 := ⟨k - 1, by omega⟩
  unfold file_Right.f rt
  rw [if_neg (show ¬ (sure.length : Int) > 65536 by omega), contains_f, Option.bind_some]
  simp only [file_Right.j0]
  cases (pend.all fun p => block_Lay.rightB p) with
  | false => rfl
  | true =>
    rw [if_neg (by decide), if_pos rfl]
    unfold block_Lay.f bytes_Equal.f
    rw [if_pos (show sure.length < 1000000000000 by omega), Option.bind_some, Option.bind_some]
theorem ref_right_loop (now sure : List Int) (pend : List S46) (hs : sure.length ≤ 65536) (hl : pend.length ≤ 3000) (hb : ∀ p ∈ pend, p.f1.length ≤ 100) : ∀ (d k i : Nat), i + d = pend.length → 30000000000 + d < k → newsreelref09_Right.l0 k (i : Int) now sure pend = some (if ((pend.drop i).all fun p => block_Lay.rightB p) = true then (strOfNums now).toList == (strOfNums (pend.foldl block_Lay.one sure)).toList else false) := by
  intro d
  induction d with
  | zero =>
    intro k i hi hk
    obtain ⟨k, rfl⟩ : ∃ m, k = m + 1 := ⟨k - 1, by omega⟩
    simp only [newsreelref09_Right.l0]
    rw [if_neg (show ¬ (i : Int) < (pend.length : Int) by omega), if_pos (show (sure.length : Int) ≤ 65536 by omega), (lay_both sure pend (by omega) hl hb k (by omega)).2, Option.bind_some, List.drop_of_length_le (by omega)]
    rfl
  | succ d ih =>
    intro k i hi hk
    obtain ⟨k, rfl⟩ : ∃ m, k = m + 1 := ⟨k - 1, by omega⟩
    have hlt : i < pend.length := by omega
    have hrd : rd_T46 pend (i : Int) = pend[i] := by
      unfold rd_T46
      rw [Int.toNat_natCast, List.getD_eq_getElem?_getD, List.getElem?_eq_getElem hlt]
      rfl
    simp only [newsreelref09_Right.l0]
    rw [if_pos (show (i : Int) < (pend.length : Int) by omega), if_pos (show 0 ≤ (i : Int) by omega), hrd, ref_right, Option.bind_some, List.drop_eq_getElem_cons hlt, List.all_cons]
    cases hrb : block_Lay.rightB pend[i] with
    | false => rfl
    | true =>
      rw [if_pos rfl, Bool.true_and, wrap_in (show -9223372036854775808 ≤ (i : Int) + 1 by omega) (by omega), show (i : Int) + 1 = ((i + 1 : Nat) : Int) by omega]
      exact ih k (i + 1) (by omega) (by omega)
theorem ref_right_law (k : Nat) (hk : 30000010000 ≤ k) (now sure : List Int) (pend : List S46) (hs : sure.length ≤ 65536) (hl : pend.length ≤ 3000) (hb : ∀ p ∈ pend, p.f1.length ≤ 100) : newsreelref09_Right.f k now sure pend = some (rt now sure pend) := by
  unfold newsreelref09_Right.f rt
  have := ref_right_loop now sure pend hs hl hb pend.length k 0 (by omega) (by omega)
  rw [List.drop_zero] at this
  exact this
theorem rt_now (now sure : List Int) (pend : List S46) (hn : Bytes now) (hs : Bytes sure) (hp : BytesP pend) (h : rt now sure pend = true) : now = pend.foldl block_Lay.one sure := by
  unfold rt at h
  split at h
  · exact nums_inj hn (fold_bytes pend sure hs hp) (by simpa using h)
  · cases h
theorem clone_f (l : List Int) (h : l.length ≤ 1000000) : bytes_Clone.f l = some l := by
  unfold bytes_Clone.f
  rw [if_pos (show l.length < 140737488355328 by omega)]
theorem copied_loop (l : List S46) (hl : l.length ≤ 10000) (hb : ∀ p ∈ l, p.f1.length ≤ 100) : ∀ (d k i : Nat), i + d = l.length → d < k → file_copied.l0 k (l.take i) l (l.length : Int) (i : Int) = some l := by
  intro d
  induction d with
  | zero =>
    intro k i hi hk
    obtain ⟨k, rfl⟩ : ∃ m, k = m + 1 := ⟨k - 1, by omega⟩
    simp only [file_copied.l0]
    rw [if_neg (show ¬ (i : Int) < (l.length : Int) by omega), List.take_of_length_le (by omega)]
  | succ d ih =>
    intro k i hi hk
    obtain ⟨k, rfl⟩ : ∃ m, k = m + 1 := ⟨k - 1, by omega⟩
    have hlt : i < l.length := by omega
    have hrd : rd_T46 l (i : Int) = l[i] := by
      unfold rd_T46
      rw [Int.toNat_natCast, List.getD_eq_getElem?_getD, List.getElem?_eq_getElem hlt]
      rfl
    have hbi := hb l[i] (List.getElem_mem hlt)
    simp only [file_copied.l0]
    rw [if_pos (show (i : Int) < (l.length : Int) by omega), if_pos (show 0 ≤ (i : Int) by omega), if_pos (show (i : Int) < (l.length : Int) by omega), hrd, clone_f _ (by omega), Option.bind_some, if_pos (show (l.take i).length < 4398046511104 by rw [List.length_take]; omega), wrap_in (show -9223372036854775808 ≤ (i : Int) + 1 by omega) (by omega), show (i : Int) + 1 = ((i + 1 : Nat) : Int) by omega]
    have e : l.take i ++ [(⟨(l[i]).f0, (l[i]).f1⟩ : S46)] = l.take (i + 1) := by rw [List.take_add_one, List.getElem?_eq_getElem hlt]; rfl
    rw [e]
    exact ih k (i + 1) (by omega) (by omega)
theorem copied_law (l : List S46) (hl : l.length ≤ 10000) (hb : ∀ p ∈ l, p.f1.length ≤ 100) (k : Nat) (hk : 10001 ≤ k) : file_copied.f k l = some l := by
  unfold file_copied.f
  exact copied_loop l hl hb l.length k 0 (by omega) (by omega)
theorem still_f (l : List Int) (h : l.length ≤ 1000000) : file_still.f l = some (l, l, []) := by
  unfold file_still.f
  rw [clone_f l h, Option.bind_some, Option.bind_some]
def keptP (bits : List Bool) : Nat → List S46 → List S46
  | _, [] => []
  | i, p :: l => if i < bits.length ∧ rdOf false bits (i : Int) = true then p :: keptP bits (i + 1) l else keptP bits (i + 1) l
theorem kept_len (bits : List Bool) (l : List S46) : ∀ i, (keptP bits i l).length ≤ l.length := by
  induction l with
  | nil => intro i; exact Nat.le_refl 0
  | cons p l ih =>
    intro i
    have := ih (i + 1)
    unfold keptP
    split
    · rw [List.length_cons, List.length_cons]; omega
    · rw [List.length_cons]; omega
theorem kept_sub (bits : List Bool) (l : List S46) : ∀ i, ∀ p ∈ keptP bits i l, p ∈ l := by
  induction l with
  | nil => intro i p hp; exact hp
  | cons q l ih =>
    intro i p hp
    unfold keptP at hp
    split at hp
    · rcases List.mem_cons.1 hp with h | h
      · rw [h]; exact List.mem_cons_self
      · exact List.mem_cons_of_mem _ (ih _ p h)
    · exact List.mem_cons_of_mem _ (ih _ p hp)
theorem crash_loop (bits : List Bool) (now sure : List Int) (pend : List S46) (hl : pend.length ≤ 3000) : ∀ (d k i : Nat) (out : List Int), i + d = pend.length → out.length ≤ 65552 → d < k → file_Crash.l0 k bits out pend (pend.length : Int) (i : Int) now sure pend = some ((keptP bits i (pend.drop i)).foldl block_Lay.one out, (keptP bits i (pend.drop i)).foldl block_Lay.one out, [], (pend.length : Int)) := by
  intro d
  induction d with
  | zero =>
    intro k i out hi ho hk
    obtain ⟨k, rfl⟩ : ∃ m, k = m + 1 := ⟨k - 1, by omega⟩
    simp only [file_Crash.l0]
    rw [if_neg (show ¬ (i : Int) < (pend.length : Int) by omega), still_f out (by omega), Option.bind_some, List.drop_of_length_le (by omega)]
    rfl
  | succ d ih =>
    intro k i out hi ho hk
    obtain ⟨k, rfl⟩ : ∃ m, k = m + 1 := ⟨k - 1, by omega⟩
    have hlt : i < pend.length := by omega
    have hrd : rd_T46 pend (i : Int) = pend[i] := by
      unfold rd_T46
      rw [Int.toNat_natCast, List.getD_eq_getElem?_getD, List.getElem?_eq_getElem hlt]
      rfl
    have hw : wrap64 ((i : Int) + 1) = ((i + 1 : Nat) : Int) := by rw [wrap_in (by omega) (by omega)]; omega
    have hsk : ∀ o, ¬ (i < bits.length ∧ rdOf false bits (i : Int) = true) → o = out → file_Crash.l0 k bits o pend (pend.length : Int) ((i + 1 : Nat) : Int) now sure pend = some ((keptP bits i (pend.drop i)).foldl block_Lay.one out, (keptP bits i (pend.drop i)).foldl block_Lay.one out, [], (pend.length : Int)) := by
      intro o hn ho2
      subst ho2
      rw [List.drop_eq_getElem_cons hlt]
      simp only [keptP]
      rw [if_neg hn]
      exact ih k (i + 1) o (by omega) ho (by omega)
    simp only [file_Crash.l0]
    rw [if_pos (show (i : Int) < (pend.length : Int) by omega), if_pos (show 0 ≤ (i : Int) by omega), if_pos (show (i : Int) < (pend.length : Int) by omega), hw]
    by_cases hbl : i < bits.length
    · rw [if_pos (show (i : Int) < (bits.length : Int) by omega)]
      by_cases hbt : rdOf false bits (i : Int) = true
      · rw [if_pos hbt, hrd]
        unfold block_Lay.f
        rw [if_pos (show out.length < 1000000000000 by omega), Option.bind_some]
        show file_Crash.l0 k bits (block_Lay.one out pend[i]) pend (pend.length : Int) ((i + 1 : Nat) : Int) now sure pend = _
        rw [ih k (i + 1) _ (by omega) (by have := block_Lay.one_len out pend[i]; omega) (by omega), List.drop_eq_getElem_cons hlt]
        simp only [keptP]
        rw [if_pos (And.intro hbl hbt), List.foldl_cons]
      · rw [if_neg hbt]
        exact hsk out (fun h => hbt h.2) rfl
    · rw [if_neg (show ¬ (i : Int) < (bits.length : Int) by omega)]
      exact hsk out (fun h => hbl h.1) rfl
theorem awake_100 : newsreellaw09_awake.f 100 = some true := by kernel_rfl
theorem awake_true {k : Nat} (h : 100 ≤ k) : newsreellaw09_awake.f k = some true := at_rounds newsreellaw09_awake.mono h awake_100
inductive Cut : Int → List Int → List S46 → Prop where
  | nil (q : Int) : Cut q [] []
  | cons (q : Int) (zs : List Int) (n : Nat) (l : List S46) : 0 < n → n ≤ zs.length → (n : Int) ≤ 16 - q % 16 → (zs.drop n = [] ∨ (q + n) % 16 = 0) → Cut (q + n) (zs.drop n) l → Cut q zs (⟨q, zs.take n⟩ :: l)
theorem pieces_loopC : ∀ (k : Nat) (zs : List Int) (q : Int) (out : List S46), zs.length < k → 0 ≤ q → q + zs.length ≤ 65536 → out.length + zs.length ≤ 1000000 → ∃ l, block_Pieces.l0 k q zs out = some (out ++ l, 0) ∧ Cut q zs l ∧ l.length ≤ zs.length := by
  intro k
  induction k with
  | zero => intro zs q out h; omega
  | succ k ih =>
    intro zs q out hk h0 h1 h3
    simp only [block_Pieces.l0]
    by_cases hz : (zs.length : Int) > 0
    · have e1 : Int.tmod q 16 = q % 16 := Int.tmod_eq_emod_of_nonneg h0
      have e2 : wrap64 (16 - q % 16) = 16 - q % 16 := wrap_in (by omega) (by omega)
      obtain ⟨n, hn⟩ : ∃ n : Nat, (n : Int) = mn (16 - q % 16) (zs.length : Int) := ⟨(mn (16 - q % 16) (zs.length : Int)).toNat, by unfold mn; split <;> omega⟩
      have hn0 : 0 < n ∧ n ≤ zs.length ∧ (n : Int) ≤ 16 - q % 16 := by unfold mn at hn; split at hn <;> omega
      rw [if_pos hz, e1, e2, ← hn, if_pos (show (0 : Int) ≤ (n : Int) by omega), if_pos (show (n : Int) ≤ (zs.length : Int) by omega), Int.toNat_natCast]
      unfold bytes_Clone.f
      have hq : wrap64 (q + (n : Int)) = q + n := wrap_in (by omega) (by omega)
      rw [if_pos (show (zs.take n).length < 140737488355328 by rw [List.length_take]; omega), Option.bind_some, if_pos (show out.length < 4398046511104 by omega), hq]
      have hdl : (zs.drop n).length = zs.length - n := List.length_drop
      obtain ⟨l, hl1, hl2, hl3⟩ := ih (zs.drop n) (q + n) (out ++ [(⟨q, zs.take n⟩ : S46)]) (by omega) (by omega) (by omega) (by rw [List.length_append, List.length_singleton]; omega)
      refine ⟨⟨q, zs.take n⟩ :: l, ?_, Cut.cons q zs n l hn0.1 hn0.2.1 hn0.2.2 ?_ hl2, ?_⟩
      · rw [hl1, List.append_assoc, List.singleton_append]
      · by_cases hd : zs.drop n = []
        · exact Or.inl hd
        · right
          have : (zs.drop n).length ≠ 0 := fun h => hd (List.eq_nil_of_length_eq_zero h)
          unfold mn at hn; split at hn <;> omega
      · rw [List.length_cons]; omega
    · rw [if_neg hz]
      have : zs = [] := List.eq_nil_of_length_eq_zero (by omega)
      subst this
      exact ⟨[], by rw [List.append_nil], Cut.nil q, by simp⟩
theorem cut_right {q : Int} {zs : List Int} {l : List S46} (h : Cut q zs l) : 0 ≤ q → q + zs.length ≤ 65536 → ∀ p ∈ l, block_Lay.rightB p = true ∧ 0 ≤ p.f0 ∧ p.f0 < 65536 := by
  induction h with
  | nil q => intro _ _ p hp; cases hp
  | cons q zs n l h1 h2 h3 h4 h5 ih =>
    intro h0 hq p hp
    have hdl : (zs.drop n).length = zs.length - n := List.length_drop
    rcases List.mem_cons.1 hp with e | hp
    · subst e
      have htl : (zs.take n).length = n := by rw [List.length_take]; omega
      refine ⟨?_, h0, ?_⟩
      · unfold block_Lay.rightB
        show (decide (0 ≤ q) && decide (q < 65536) && decide (0 < (zs.take n).length) && decide (((zs.take n).length : Int) ≤ 16 - q % 16)) = true
        rw [htl, decide_eq_true h0, decide_eq_true (show q < 65536 by omega), decide_eq_true h1, decide_eq_true h3]
        rfl
      · show q < 65536
        omega
    · exact ih (by omega) (by omega) p hp
theorem puts_app (xs zs : List Int) : ∀ (out : List Int) (pos : Nat), putsB out pos (xs ++ zs) = putsB (putsB out pos xs) (pos + xs.length) zs := by
  induction xs with
  | nil => intro out pos; rfl
  | cons x xs ih =>
    intro out pos
    simp only [List.cons_append, putsB]
    rw [ih, List.length_cons, show pos + 1 + xs.length = pos + (xs.length + 1) by omega]
theorem cut_fold {q : Int} {zs : List Int} {l : List S46} (h : Cut q zs l) : 0 ≤ q → q + zs.length ≤ 65536 → ∀ f : List Int, l.foldl block_Lay.one f = putsB f q.toNat zs := by
  induction h with
  | nil q => intro _ _ f; rfl
  | cons q zs n l h1 h2 h3 h4 h5 ih =>
    intro h0 hq f
    have hr := (cut_right (Cut.cons q zs n l h1 h2 h3 h4 h5) h0 hq _ List.mem_cons_self).1
    have hdl : (zs.drop n).length = zs.length - n := List.length_drop
    have htl : (zs.take n).length = n := by rw [List.length_take]; omega
    rw [List.foldl_cons, ih (by omega) (by omega), ← puts_one f _ hr]
    show putsB (putsB f q.toNat (zs.take n)) (q + n).toNat (zs.drop n) = putsB f q.toNat zs
    conv => rhs; rw [← List.take_append_drop n zs]
    rw [puts_app, htl, show (q + (n : Int)).toNat = q.toNat + n by omega]
theorem pieces_law (k : Nat) (q : Int) (b : List Int) (hb : b.length ≤ 300) (h0 : 0 ≤ q) (h1 : q ≤ 2000) (hk : 1000 ≤ k) : ∃ l, block_Pieces.f k q b = some (l, 0) ∧ Cut q b l ∧ l.length ≤ 300 := by
  obtain ⟨k, rfl⟩ : ∃ m, k = m + 1 := ⟨k - 1, by omega⟩
  obtain ⟨l, e1, e2, e3⟩ := pieces_loopC k b q [] (by omega) h0 (by omega) (by rw [List.length_nil]; omega)
  refine ⟨l, ?_, e2, by omega⟩
  unfold block_Pieces.f
  rw [if_neg (show ¬ q < 0 by omega), if_neg (show ¬ q > 65536 by omega), wrap_in (show -9223372036854775808 ≤ 65536 - q by omega) (by omega), decide_eq_false (show ¬ (b.length : Int) > 65536 - q by omega)]
  simp only [block_Pieces.j0]
  rw [if_neg Bool.false_ne_true, e1, List.nil_append]


/-! ### a file behind acts -/
theorem cut_parts {q : Int} {zs : List Int} {l : List S46} (h : Cut q zs l) : Bytes zs → BytesP l ∧ (∀ p ∈ l, p.f1.length ≤ zs.length) := by
  induction h with
  | nil q => intro _; exact ⟨fun p hp => (by cases hp), fun p hp => (by cases hp)⟩
  | cons q zs n l h1 h2 h3 h4 h5 ih =>
    intro hb
    obtain ⟨i1, i2⟩ := ih (fun x hx => hb x (List.mem_of_mem_drop hx))
    have hdl : (zs.drop n).length = zs.length - n := List.length_drop
    refine ⟨fun p hp => ?_, fun p hp => ?_⟩
    · rcases List.mem_cons.1 hp with h | h
      · rw [h]; exact fun x hx => hb x (List.mem_of_mem_take hx)
      · exact i1 p h
    · rcases List.mem_cons.1 hp with h | h
      · rw [h]; show (zs.take n).length ≤ zs.length; rw [List.length_take]; omega
      · have := i2 p h; omega
theorem puts_le (b : List Int) (f : List Int) (q : Nat) (hf : f.length ≤ 2200) (hq : q + b.length ≤ 2200) : (putsB f q b).length ≤ 2200 := by
  by_cases h : b = []
  · subst h; exact hf
  · rw [puts_len b f q h]; omega
/-- What holds of a file behind acts. -/
structure Inv (m : Nat) (now sure : List Int) (pend : List S46) : Prop where
  bn : Bytes now
  bs : Bytes sure
  bp : BytesP pend
  ln : now.length ≤ 2200
  ls : sure.length ≤ 2200
  lp : pend.length ≤ m
  pp : ∀ p ∈ pend, p.f1.length ≤ 100
  pr : ∀ p ∈ pend, block_Lay.rightB p = true
  is : now = pend.foldl block_Lay.one sure
theorem Inv.right {m : Nat} {now sure : List Int} {pend : List S46} (h : Inv m now sure pend) : rt now sure pend = true := by
  unfold rt
  rw [if_pos (List.all_eq_true.2 h.pr), ← h.is, beq_self_eq_true]
theorem Inv.still {m : Nat} {now sure : List Int} {pend : List S46} (h : Inv m now sure pend) (m' : Nat) : Inv m' now now [] :=
  ⟨h.bn, h.bn, fun p hp => (by cases hp), h.ln, h.ln, Nat.zero_le _, fun p hp => (by cases hp), fun p hp => (by cases hp), rfl⟩
/-- What a write answers: refused, or the pieces behind what waits. -/
theorem write_two (k : Nat) (hk : 30000020000 ≤ k) (m : Nat) (hm : m ≤ 2000) (now sure : List Int) (pend : List S46) (h : Inv m now sure pend) (at_ : Int) (b : List Int) (hb : Bytes b) (hbl : b.length ≤ 100) (hw : at_ < 9223372036854775808) (hat : at_ ≤ 2000 ∨ at_ > 65536) :
    (∃ e, e ≠ 0 ∧ file_Write.f k now sure pend at_ b = some ([], [], [], e) ∧ newsreelref09_Write.f k now sure pend at_ b = some ([], [], [], e)) ∨
    (∃ l, Cut at_ b l ∧ l.length ≤ 100 ∧ Inv (m + 100) (l.foldl block_Lay.one now) sure (pend ++ l) ∧ file_Write.f k now sure pend at_ b = some (l.foldl block_Lay.one now, sure, pend ++ l, 0) ∧ newsreelref09_Write.f k now sure pend at_ b = some (l.foldl block_Lay.one now, sure, pend ++ l, 0)) := by
  have h1 := h.ls
  have h2 := h.ln
  have h3 := h.lp
  unfold file_Write.f newsreelref09_Write.f
  rw [right_law k (by omega) now sure pend (by omega), Option.bind_some, ref_right_law k (by omega) now sure pend (by omega) (by omega) h.pp, Option.bind_some, h.right, if_pos rfl, if_pos rfl]
  obtain ⟨q, q1, q2, q3, q4⟩ := pieces_both k at_ b (by omega) hw (by omega)
  by_cases hin : 0 ≤ at_ ∧ at_ ≤ 2000
  · obtain ⟨l, p1, p2, p3⟩ := pieces_law k at_ b (by omega) hin.1 hin.2 (by omega)
    rw [p1] at q1
    obtain rfl := Option.some.inj q1
    obtain ⟨c1, c2⟩ := cut_parts p2 hb
    have c3 := cut_right p2 hin.1 (by omega)
    have c4 := cut_fold p2 hin.1 (by omega) now
    have c5 := puts_le b now at_.toNat h2 (by omega)
    have hl2 : ∀ p ∈ l, p.f1.length ≤ 100 := fun p hp => by have := c2 p hp; omega
    have hpl : ∀ p ∈ pend ++ l, p.f1.length ≤ 100 := fun p hp => by
      rcases List.mem_append.1 hp with h' | h'
      · exact h.pp p h'
      · exact hl2 p h'
    have hfold : (pend ++ l).foldl block_Lay.one sure = l.foldl block_Lay.one now := by rw [List.foldl_append, ← h.is]
    have hL := lay_both now l (by omega) (by have : l.length ≤ b.length := q3; omega) hl2 k (by omega)
    have hR := lay_both sure (pend ++ l) (by omega) (by have : l.length ≤ b.length := q3; rw [List.length_append]; omega) hpl k (by omega)
    have hq3 : l.length ≤ b.length := q3
    refine .inr ⟨l, p2, by omega, ⟨?_, h.bs, ?_, ?_, h1, ?_, hpl, ?_, hfold.symm⟩, ?_, ?_⟩
    · exact fold_bytes l now h.bn c1
    · intro p hp
      rcases List.mem_append.1 hp with h' | h'
      · exact h.bp p h'
      · exact c1 p h'
    · rw [c4]; exact c5
    · rw [List.length_append]; omega
    · intro p hp
      rcases List.mem_append.1 hp with h' | h'
      · exact h.pr p h'
      · exact (c3 p h').1
    · rw [p1, Option.bind_some, if_pos rfl, hL.1, Option.bind_some, clone_f sure (by omega), Option.bind_some, copied_law pend (by omega) h.pp k (by omega), Option.bind_some, if_pos (show pend.length + l.length < 4398046511104 by omega)]
    · rw [q2, Option.bind_some, if_pos rfl, Option.bind_some, if_pos (show ([] : List S46).length + pend.length < 4398046511104 by rw [List.length_nil]; omega), Option.bind_some, List.nil_append, if_pos (show pend.length + l.length < 4398046511104 by omega), Option.bind_some, hR.2, Option.bind_some, hfold]
  · have he : q.2 ≠ 0 ∧ True := by
      obtain ⟨k, rfl⟩ : ∃ m, k = m + 1 := ⟨k - 1, by omega⟩
      unfold block_Pieces.f at q1
      by_cases h0 : at_ < 0
      · rw [if_pos h0] at q1
        rw [← Option.some.inj q1]
        exact ⟨by decide, trivial⟩
      · rw [if_neg h0, if_pos (show at_ > 65536 by omega)] at q1
        simp only [block_Pieces.j0] at q1
        rw [if_pos trivial] at q1
        rw [← Option.some.inj q1]
        exact ⟨by decide, trivial⟩
    refine .inl ⟨q.2, he.1, ?_, ?_⟩
    · rw [q1, Option.bind_some, if_neg he.1]
    · rw [q2, Option.bind_some, if_neg he.1]
theorem ref_sync_law (k : Nat) (hk : 30000020000 ≤ k) (m : Nat) (hm : m ≤ 3000) (now sure : List Int) (pend : List S46) (h : Inv m now sure pend) : newsreelref09_Sync.f k now sure pend = some (now, now, []) := by
  have h1 := h.ls
  have h3 := h.lp
  unfold newsreelref09_Sync.f
  rw [ref_right_law k (by omega) now sure pend (by omega) (by omega) h.pp, Option.bind_some, h.right, if_pos rfl]
theorem sync_law (k : Nat) (hk : 1 ≤ k) (m : Nat) (now sure : List Int) (pend : List S46) (h : Inv m now sure pend) : file_Sync.f k now sure pend = some (now, now, []) := by
  have h1 := h.ls
  have h2 := h.ln
  unfold file_Sync.f
  rw [right_law k hk now sure pend (by omega), Option.bind_some, h.right, if_pos rfl, still_f now (by omega), Option.bind_some]
/-- What is known of light acts. -/
def LightA (x : S78) : Prop := x.f2.length ≤ 100 ∧ (x.f1 ≤ 2000 ∨ x.f1 > 65536)
theorem light_loop (l : List S78) (hl : l.length ≤ 20) : ∀ (d k i : Nat), i + d = l.length → d < k → ∃ b, newsreelref09_Light.l0 k l (i : Int) = some b ∧ (b = true → ∀ x ∈ l.drop i, LightA x) := by
  intro d
  induction d with
  | zero =>
    intro k i hi hk
    obtain ⟨k, rfl⟩ : ∃ m, k = m + 1 := ⟨k - 1, by omega⟩
    simp only [newsreelref09_Light.l0]
    rw [if_neg (show ¬ (i : Int) < (l.length : Int) by omega), List.drop_of_length_le (by omega)]
    exact ⟨true, rfl, fun _ x hx => (by cases hx)⟩
  | succ d ih =>
    intro k i hi hk
    obtain ⟨k, rfl⟩ : ∃ m, k = m + 1 := ⟨k - 1, by omega⟩
    have hlt : i < l.length := by omega
    have hrd : rd_T78 l (i : Int) = l[i] := by
      unfold rd_T78
      rw [Int.toNat_natCast, List.getD_eq_getElem?_getD, List.getElem?_eq_getElem hlt]
      rfl
    obtain ⟨b, hb, hp⟩ := ih k (i + 1) (by omega) (by omega)
    have hall : ∀ x, x = l[i] → LightA x → b = true → ∀ y ∈ l.drop i, LightA y := by
      intro x hx hL ht y hy
      rw [List.drop_eq_getElem_cons hlt] at hy
      rcases List.mem_cons.1 hy with h | h
      · rw [h, ← hx]; exact hL
      · exact hp ht y h
    simp only [newsreelref09_Light.l0]
    rw [if_pos (show (i : Int) < (l.length : Int) by omega), if_pos (show 0 ≤ (i : Int) by omega), hrd, wrap_in (show -9223372036854775808 ≤ (i : Int) + 1 by omega) (by omega), show (i : Int) + 1 = ((i + 1 : Nat) : Int) by omega, hb]
    by_cases h1 : ((l[i]).f2.length : Int) > 100
    · rw [if_pos h1]
      exact ⟨false, rfl, fun h => by cases h⟩
    · rw [if_neg h1]
      by_cases h2 : (l[i]).f1 > 2000
      · rw [if_pos h2]
        by_cases h3 : (l[i]).f1 ≤ 65536
        · rw [if_pos h3]
          exact ⟨false, rfl, fun h => by cases h⟩
        · rw [if_neg h3]
          exact ⟨b, rfl, hall _ rfl ⟨by omega, .inr (by omega)⟩⟩
      · rw [if_neg h2]
        exact ⟨b, rfl, hall _ rfl ⟨by omega, .inl (by omega)⟩⟩
theorem light_law (l : List S78) (k : Nat) (hk : 30 ≤ k) : ∃ b, newsreelref09_Light.f k l = some b ∧ (b = true → l.length ≤ 20 ∧ ∀ x ∈ l, LightA x) := by
  unfold newsreelref09_Light.f
  by_cases h : (l.length : Int) > 20
  · rw [if_pos h]
    exact ⟨false, rfl, fun h => by cases h⟩
  · rw [if_neg h]
    obtain ⟨b, hb, hp⟩ := light_loop l (by omega) l.length k 0 (by omega) (by omega)
    exact ⟨b, hb, fun ht => ⟨by omega, fun x hx => hp ht x (by rw [List.drop_zero]; exact hx)⟩⟩
theorem made_loop (l : List S78) (hl : l.length ≤ 20) (hL : ∀ x ∈ l, LightA x) (hB : ∀ x ∈ l, Bytes x.f2 ∧ x.f1 < 9223372036854775808) : ∀ (d k i : Nat) (now sure : List Int) (pend : List S46), i + d = l.length → Inv (100 * i) now sure pend → 30000020000 + d < k → ∃ now' sure' pend', newsreelref09_Made.l0 k l (i : Int) now sure pend = some (now', sure', pend') ∧ Inv 2000 now' sure' pend' := by
  intro d
  induction d with
  | zero =>
    intro k i now sure pend hi hinv hk
    obtain ⟨k, rfl⟩ : ∃ m, k = m + 1 := ⟨k - 1, by omega⟩
    simp only [newsreelref09_Made.l0]
    rw [if_neg (show ¬ (i : Int) < (l.length : Int) by omega)]
    exact ⟨now, sure, pend, rfl, { hinv with lp := by have := hinv.lp; omega }⟩
  | succ d ih =>
    intro k i now sure pend hi hinv hk
    obtain ⟨k, rfl⟩ : ∃ m, k = m + 1 := ⟨k - 1, by omega⟩
    have hlt : i < l.length := by omega
    have hrd : rd_T78 l (i : Int) = l[i] := by
      unfold rd_T78
      rw [Int.toNat_natCast, List.getD_eq_getElem?_getD, List.getElem?_eq_getElem hlt]
      rfl
    have hx := hL l[i] (List.getElem_mem hlt)
    have hxb := hB l[i] (List.getElem_mem hlt)
    have hm : 100 * i ≤ 2000 := by omega
    simp only [newsreelref09_Made.l0]
    rw [if_pos (show (i : Int) < (l.length : Int) by omega), if_pos (show 0 ≤ (i : Int) by omega), hrd, wrap_in (show -9223372036854775808 ≤ (i : Int) + 1 by omega) (by omega), show (i : Int) + 1 = ((i + 1 : Nat) : Int) by omega]
    by_cases hs : (l[i]).f0 = true
    · rw [if_pos hs, ref_sync_law k (by omega) (100 * i) (by omega) now sure pend hinv, Option.bind_some]
      exact ih k (i + 1) now now [] (by omega) (hinv.still _) (by omega)
    · rw [if_neg hs]
      rcases write_two k (by omega) (100 * i) hm now sure pend hinv (l[i]).f1 (l[i]).f2 hxb.1 hx.1 hxb.2 hx.2 with ⟨e, he, _, w2⟩ | ⟨p, _, _, w1, _, w3⟩
      · rw [w2, Option.bind_some, if_neg he]
        exact ih k (i + 1) now sure pend (by omega) { hinv with lp := by have := hinv.lp; omega } (by omega)
      · rw [w3, Option.bind_some, if_pos rfl]
        exact ih k (i + 1) _ sure _ (by omega) { w1 with lp := by have := w1.lp; omega } (by omega)
theorem crash_law (k : Nat) (hk : 5000 ≤ k) (m : Nat) (hm : m ≤ 3000) (now sure : List Int) (pend : List S46) (h : Inv m now sure pend) (bits : List Bool) : file_Crash.f k now sure pend bits = some ((keptP bits 0 pend).foldl block_Lay.one sure, (keptP bits 0 pend).foldl block_Lay.one sure, [], (pend.length : Int)) := by
  have h1 := h.ls
  have h3 := h.lp
  unfold file_Crash.f
  rw [right_law k (by omega) now sure pend (by omega), Option.bind_some, h.right, if_pos rfl]
  have e1 := crash_loop bits now sure pend (by omega) pend.length k 0 sure (by omega) (by omega) (by omega)
  rw [List.drop_zero] at e1
  exact e1
theorem kept_none (l : List S46) : ∀ i, keptP [] i l = [] := by
  induction l with
  | nil => intro i; rfl
  | cons p l ih =>
    intro i
    unfold keptP
    rw [if_neg (fun h => by have := h.1; simp at this)]
    exact ih (i + 1)
theorem kept_all (N : Nat) (l : List S46) : ∀ i, i + l.length ≤ N → keptP (List.replicate N true) i l = l := by
  induction l with
  | nil => intro i _; rfl
  | cons p l ih =>
    intro i hi
    rw [List.length_cons] at hi
    unfold keptP
    have hr : rdOf false (List.replicate N true) (i : Int) = true := by
      unfold rdOf
      rw [Int.toNat_natCast, List.getD_eq_getElem?_getD, List.getElem?_replicate, if_pos (by omega)]
      rfl
    rw [if_pos ⟨by rw [List.length_replicate]; omega, hr⟩, ih (i + 1) (by omega)]
theorem all_loop (bits : List Bool) (s : Bool) (at_ : Int) (b now sure snow ssure : List Int) (pend spend : List S46) (hl : pend.length ≤ 3000) (C : Nat) (r : Option Bool) (hend : ∀ k, C ≤ k → ((file_Crash.f k now sure pend (List.replicate pend.length true)).bind fun bt393 => ((file_Crash.f k now sure pend ([] : List Bool)).bind fun bt404 => ((newsreelref01_Bytes.f bt393.1 now).bind fun t415 => (if t415 = true then ((newsreelref01_Bytes.f bt404.1 sure).bind fun t416 => (newsreellaw09_FileCrash.j3 k bits (!t416) s at_ b snow ssure spend)) else (newsreellaw09_FileCrash.j3 k bits true s at_ b snow ssure spend))))) = r) :
    ∀ (d k i : Nat), i + d = pend.length → C + d < k → newsreellaw09_FileCrash.l0 k bits (List.replicate i true) (i : Int) s at_ b now sure pend snow ssure spend = r := by
  intro d
  induction d with
  | zero =>
    intro k i hi hk
    obtain ⟨k, rfl⟩ : ∃ m, k = m + 1 := ⟨k - 1, by omega⟩
    obtain rfl : i = pend.length := by omega
    simp only [newsreellaw09_FileCrash.l0]
    rw [if_neg (show ¬ (pend.length : Int) < (pend.length : Int) by omega)]
    exact hend k (by omega)
  | succ d ih =>
    intro k i hi hk
    obtain ⟨k, rfl⟩ : ∃ m, k = m + 1 := ⟨k - 1, by omega⟩
    simp only [newsreellaw09_FileCrash.l0]
    rw [if_pos (show (i : Int) < (pend.length : Int) by omega), if_pos (show (List.replicate i true).length < 140737488355328 by rw [List.length_replicate]; omega), wrap_in (show -9223372036854775808 ≤ (i : Int) + 1 by omega) (by omega), show (i : Int) + 1 = ((i + 1 : Nat) : Int) by omega, show List.replicate i true ++ [true] = List.replicate (i + 1) true from List.replicate_succ'.symm]
    exact ih k (i + 1) (by omega) (by omega)
theorem bytes_same (l : List Int) : newsreelref01_Bytes.f l l = some true := by
  unfold newsreelref01_Bytes.f
  rw [beq_self_eq_true]
theorem FileCrash_pure : newsreellaw09_FileCrash.Pure := by
  intro l y1 bits h0 h1 _
  obtain ⟨s, at_, b⟩ := y1
  obtain ⟨_, g4, g5⟩ := h1
  show ∃ k, newsreellaw09_FileCrash.f k l s at_ b bits = some true
  have hat : -9223372036854775808 ≤ at_ ∧ at_ ≤ 9223372036854775807 := bounds_i64 g4
  have hbb : Bytes b := fun x hx => by have := bounds_u8 (g5.2 x hx); omega
  have hB : ∀ x ∈ l, Bytes x.f2 ∧ x.f1 < 9223372036854775808 := fun x hx => by
    obtain ⟨_, q4, q5⟩ := h0.2 x hx
    have q6 := bounds_i64 q4
    exact ⟨fun y hy => by have := bounds_u8 (q5.2 y hy); omega, by omega⟩
  obtain ⟨K, hK⟩ : ∃ K : Nat, K = 40000000000 := ⟨_, rfl⟩
  refine ⟨K + 1, ?_⟩
  have hj : newsreellaw09_FileCrash.j0 (K + 1) l bits true s at_ b = some true := by
    simp only [newsreellaw09_FileCrash.j0]
    rw [if_pos trivial, awake_true (by omega)]
    rfl
  unfold newsreellaw09_FileCrash.f
  obtain ⟨t, ht, htp⟩ := light_law l (K + 1) (by omega)
  rw [ht, Option.bind_some]
  cases t with
  | false => rw [if_neg Bool.false_ne_true]; exact hj
  | true =>
    obtain ⟨hl, hL⟩ := htp rfl
    obtain ⟨u, hu, hup⟩ := light_law [⟨s, at_, b⟩] (K + 1) (by omega)
    rw [if_pos rfl, hu, Option.bind_some]
    cases u with
    | false => exact hj
    | true =>
      obtain ⟨_, hx⟩ := hup rfl
      have hxx : b.length ≤ 100 ∧ (at_ ≤ 2000 ∨ at_ > 65536) := hx _ (List.mem_singleton.2 rfl)
      obtain ⟨now, sure, pend, hmade, hinv⟩ : ∃ now sure pend, newsreelref09_Made.f K l = some (now, sure, pend) ∧ Inv 2000 now sure pend := made_loop l hl hL hB l.length K 0 [] [] [] (by omega) ⟨fun x hx => (by cases hx), fun x hx => (by cases hx), fun x hx => (by cases hx), by decide, by decide, by decide, fun x hx => (by cases hx), fun x hx => (by cases hx), rfl⟩ (by omega)
      have hst := hinv.still 2000
      show newsreellaw09_FileCrash.j0 (K + 1) l bits false s at_ b = some true
      simp only [newsreellaw09_FileCrash.j0]
      rw [if_neg Bool.false_ne_true, hmade, Option.bind_some, sync_law K (by omega) 2000 now sure pend hinv, Option.bind_some, crash_law K (by omega) 2000 (by omega) now now [] hst bits, Option.bind_some, right_law K (by omega) now sure pend (by have := hinv.ls; omega), Option.bind_some, hinv.right, if_pos rfl]
      show ((newsreelref01_Bytes.f now now).bind _) = _
      rw [bytes_same, Option.bind_some, if_pos rfl]
      show ((newsreelref01_Bytes.f now now).bind _) = _
      rw [bytes_same, Option.bind_some]
      show newsreellaw09_FileCrash.j1 K bits false s at_ b now sure pend now now [] = some true
      obtain ⟨K, rfl⟩ : ∃ q, K = q + 1 := ⟨K - 1, by omega⟩
      simp only [newsreellaw09_FileCrash.j1]
      rw [if_neg Bool.false_ne_true]
      refine all_loop bits s at_ b now sure now now pend [] (by have := hinv.lp; omega) (K - 5000) _ (fun k hk => ?_) pend.length K 0 (by omega) (by have := hinv.lp; omega)
      rw [crash_law k (by omega) 2000 (by omega) now sure pend hinv, Option.bind_some, crash_law k (by omega) 2000 (by omega) now sure pend hinv, Option.bind_some, kept_all _ pend 0 (by omega), kept_none, ← hinv.is]
      show ((newsreelref01_Bytes.f now now).bind _) = _
      rw [bytes_same, Option.bind_some, if_pos rfl]
      show ((newsreelref01_Bytes.f sure sure).bind _) = _
      rw [bytes_same, Option.bind_some]
      show newsreellaw09_FileCrash.j3 k bits false s at_ b now now [] = some true
      obtain ⟨k, rfl⟩ : ∃ q, k = q + 2 := ⟨k - 2, by omega⟩
      have hj4 : ∀ (x y : List Int) (z : List S46) (x2 y2 : List Int) (z2 : List S46), newsreellaw09_FileCrash.j4 (k + 1) bits true x y z x2 y2 z2 = some true := by
        intro x y z x2 y2 z2
        simp only [newsreellaw09_FileCrash.j4]
        rw [if_pos trivial, awake_true (by omega)]
        rfl
      simp only [newsreellaw09_FileCrash.j3]
      rw [if_neg Bool.false_ne_true]
      rcases write_two (k + 1) (by omega) 100 (by omega) now now [] (hinv.still 100) at_ b hbb hxx.1 (by omega) hxx.2 with ⟨e, he, w1, _⟩ | ⟨p, pc, pl, pinv, w1, _⟩
      · rw [w1, Option.bind_some, if_neg he]
        exact hj4 _ _ _ _ _ _
      · rw [w1, Option.bind_some, if_pos rfl]
        by_cases hone : ((([] ++ p : List S46).length : Nat) : Int) > 1
        · show newsreellaw09_FileCrash.j4 (k + 1) bits (decide ((([] ++ p : List S46).length : Int) > 1)) _ _ _ _ _ _ = _
          rw [decide_eq_true hone]
          exact hj4 _ _ _ _ _ _
        · show newsreellaw09_FileCrash.j4 (k + 1) bits (decide ((([] ++ p : List S46).length : Int) > 1)) _ _ _ _ _ _ = _
          rw [decide_eq_false hone]
          simp only [newsreellaw09_FileCrash.j4]
          rw [if_neg Bool.false_ne_true, crash_law k (by omega) 200 (by omega) _ now _ pinv, Option.bind_some]
          rw [List.nil_append] at hone ⊢
          have hcase : (keptP bits 0 p).foldl block_Lay.one now = now ∨ (keptP bits 0 p).foldl block_Lay.one now = p.foldl block_Lay.one now := by
            match p, hone with
            | [], _ => exact .inl rfl
            | [x], _ =>
              unfold keptP
              split
              · exact .inr rfl
              · exact .inl rfl
            | x :: y :: z, h => exact absurd (show (((x :: y :: z).length : Nat) : Int) > 1 by rw [List.length_cons, List.length_cons]; omega) h
          show ((newsreelref01_Bytes.f ((keptP bits 0 p).foldl block_Lay.one now) now).bind _) = _
          rcases hcase with hc | hc
          · rw [hc, bytes_same, Option.bind_some, if_pos rfl, awake_true (by omega)]
            rfl
          · rw [hc]
            unfold newsreelref01_Bytes.f
            rw [Option.bind_some]
            by_cases hq : ((strOfNums (p.foldl block_Lay.one now)).toList == (strOfNums now).toList) = true
            · rw [if_pos hq, awake_true (by omega)]
              rfl
            · rw [if_neg hq, beq_self_eq_true, Option.bind_some, if_pos rfl, awake_true (by omega)]
              rfl

end Go.Proofs.Ytkkikdjfigffhaa.XFic
