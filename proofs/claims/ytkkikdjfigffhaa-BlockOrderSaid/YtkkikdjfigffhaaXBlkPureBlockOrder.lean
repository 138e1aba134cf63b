/- The pieces of any bytes, laid in order and laid backwards, make what the bytes make; each may be, and no two are in one block, for every input. -/
import Derived.Test.YtkkikdjfigffhaaXBlkTellBlockOrder
import Derived.OpenShut
namespace Go.Proofs.Ytkkikdjfigffhaa.XBlk
open Go.RowKit Go.Proofs.YtkkikdjfigffhaaW.PrintWords Go.Proofs.YtkkikdjfigffhaaW.PrintLast Go.Proofs.YtkkikdjfigffhaaW.PrintMore

theorem wrap_in {i : Int} (h0 : -9223372036854775808 ≤ i) (h : i < 9223372036854775808) : wrap64 i = i := by
  unfold wrap64; omega

theorem awake_30 : newsreellaw08_awake.f 30 = some true := by kernel_rfl
theorem awake_true {k : Nat} (h : 30 ≤ k) : newsreellaw08_awake.f k = some true := at_rounds newsreellaw08_awake.mono h awake_30

/-! ### lay -/
theorem same_list {X Y : List Int} (hl : X.length = Y.length) (h : ∀ i, X.getD i 0 = Y.getD i 0) : X = Y := by
  apply List.ext_getElem hl
  intro i h1 h2
  have := h i
  rw [List.getD_eq_getElem?_getD, List.getD_eq_getElem?_getD, List.getElem?_eq_getElem h1, List.getElem?_eq_getElem h2] at this
  exact this
theorem get_app (X Y : List Int) (i : Nat) : (X ++ Y).getD i 0 = if i < X.length then X.getD i 0 else Y.getD (i - X.length) 0 := by
  rw [List.getD_eq_getElem?_getD, List.getD_eq_getElem?_getD, List.getD_eq_getElem?_getD]
  split
  · rw [List.getElem?_append_left (by omega)]
  · rw [List.getElem?_append_right (by omega)]
theorem get_rep (n i : Nat) : (List.replicate n (0 : Int)).getD i 0 = 0 := by
  rw [List.getD_eq_getElem?_getD, List.getElem?_replicate]
  split <;> rfl
theorem get_out (X : List Int) (i : Nat) (h : X.length ≤ i) : X.getD i 0 = 0 := by
  rw [List.getD_eq_getElem?_getD, List.getElem?_eq_none h]; rfl
theorem get_pad (X : List Int) (n i : Nat) : (X ++ List.replicate n 0).getD i 0 = X.getD i 0 := by
  rw [get_app, get_rep]
  split
  · rfl
  · rw [get_out X i (by omega)]
theorem get_take (X : List Int) (n i : Nat) : (X.take n).getD i 0 = if i < n then X.getD i 0 else 0 := by
  rw [List.getD_eq_getElem?_getD, List.getElem?_take, List.getD_eq_getElem?_getD]
  split <;> rfl
theorem get_drop (X : List Int) (n i : Nat) : (X.drop n).getD i 0 = X.getD (n + i) 0 := by
  rw [List.getD_eq_getElem?_getD, List.getElem?_drop, List.getD_eq_getElem?_getD]
theorem get_set (X : List Int) (n i : Nat) (v : Int) (h : n < X.length) : (X.set n v).getD i 0 = if i = n then v else X.getD i 0 := by
  rw [List.getD_eq_getElem?_getD, List.getElem?_set, List.getD_eq_getElem?_getD]
  by_cases e : n = i
  · subst e; rw [if_pos rfl, if_pos rfl, if_pos h]; rfl
  · rw [if_neg e, if_neg (fun h => e h.symm)]
def putB (out : List Int) (pos : Nat) (z : Int) : List Int := (out ++ List.replicate (pos + 1 - out.length) 0).set pos z
def putsB : List Int → Nat → List Int → List Int
  | out, _, [] => out
  | out, pos, z :: zs => putsB (putB out pos z) (pos + 1) zs
theorem putB_len (out : List Int) (pos : Nat) (z : Int) : (putB out pos z).length = max out.length (pos + 1) := by
  unfold putB; rw [List.length_set, List.length_append, List.length_replicate]; omega
theorem putB_get (out : List Int) (pos : Nat) (z : Int) (i : Nat) : (putB out pos z).getD i 0 = if i = pos then z else out.getD i 0 := by
  unfold putB
  rw [get_set _ _ _ _ (by rw [List.length_append, List.length_replicate]; omega), get_pad]
theorem puts_len (zs : List Int) : ∀ (out : List Int) (pos : Nat), zs ≠ [] → (putsB out pos zs).length = max out.length (pos + zs.length) := by
  induction zs with
  | nil => intro out pos h; exact absurd rfl h
  | cons z zs ih =>
    intro out pos _
    simp only [putsB]
    cases zs with
    | nil => simp only [putsB]; rw [putB_len]; rfl
    | cons y ys => rw [ih _ _ (by simp), putB_len, List.length_cons, List.length_cons, List.length_cons]; omega
theorem puts_get (zs : List Int) : ∀ (out : List Int) (pos i : Nat), (putsB out pos zs).getD i 0 = if pos ≤ i ∧ i < pos + zs.length then zs.getD (i - pos) 0 else out.getD i 0 := by
  induction zs with
  | nil => intro out pos i; simp only [putsB]; rw [if_neg (by rw [List.length_nil]; omega)]
  | cons z zs ih =>
    intro out pos i
    simp only [putsB]
    rw [ih, putB_get, List.length_cons]
    by_cases h1 : i = pos
    · subst h1
      rw [if_neg (by omega), if_pos rfl, if_pos (by omega), Nat.sub_self]
      rfl
    · by_cases h2 : pos + 1 ≤ i ∧ i < pos + 1 + zs.length
      · rw [if_pos h2, if_pos (by omega), show i - pos = i - (pos + 1) + 1 by omega]
        rfl
      · rw [if_neg h2, if_neg h1, if_neg (by omega)]
theorem puts_one (out : List Int) (p : S46) (h : block_Lay.rightB p = true) : putsB out p.f0.toNat p.f1 = block_Lay.one out p := by
  obtain ⟨h1, h2, h3, h4⟩ := block_Lay.right_b h
  have hne : p.f1 ≠ [] := fun e => by rw [e] at h3; simp at h3
  unfold block_Lay.one
  rw [if_pos h]
  generalize hp : p.f0.toNat = pos
  apply same_list
  · rw [puts_len _ _ _ hne]
    simp only [List.length_append, List.length_take, List.length_drop, List.length_replicate]
    omega
  · intro i
    rw [puts_get, get_app, get_app, get_take, get_drop, get_pad, get_pad]
    simp only [List.length_append, List.length_take, List.length_replicate]
    rw [show min pos (out.length + (pos + p.f1.length - out.length)) = pos by omega]
    by_cases c1 : i < pos
    · rw [if_neg (by omega), if_pos (by omega), if_pos c1, if_pos c1]
    · by_cases c2 : i < pos + p.f1.length
      · rw [if_pos (by omega), if_pos c2, if_neg c1]
      · rw [if_neg (by omega), if_neg c2, show pos + p.f1.length + (i - (pos + p.f1.length)) = i by omega]

/-! ### pieces -/
inductive Cut : Int → List Int → List S46 → Prop where
  | nil (q : Int) : Cut q [] []
  | cons (q : Int) (zs : List Int) (n : Nat) (l : List S46) : 0 < n → n ≤ zs.length → (n : Int) ≤ 16 - q % 16 → (zs.drop n = [] ∨ (q + n) % 16 = 0) → Cut (q + n) (zs.drop n) l → Cut q zs (⟨q, zs.take n⟩ :: l)
theorem pieces_loop : ∀ (k : Nat) (zs : List Int) (q : Int) (out : List S46), zs.length < k → 0 ≤ q → q + zs.length ≤ 65536 → out.length + zs.length ≤ 1000000 → ∃ l, block_Pieces.l0 k q zs out = some (out ++ l, 0) ∧ Cut q zs l ∧ l.length ≤ zs.length := by
  intro k
  induction k with
  | zero => intro zs q out h; omega
  | succ k ih =>
    intro zs q out hk h0 h1 h3
    simp only [block_Pieces.l0]
    by_cases hz : (zs.length : Int) > 0
    · have e1 : Int.tmod q 16 = q % 16 := Int.tmod_eq_emod_of_nonneg h0
      have e2 : wrap64 (16 - q % 16) = 16 - q % 16 := wrap_in (by omega) (by omega)
      obtain ⟨n, hn⟩ : ∃ n : Nat, (n : Int) = mn (16 - q % 16) (zs.length : Int) := ⟨(mn (16 - q % 16) (zs.length : Int)).toNat, by unfold mn; split <;> omega⟩
      have hn0 : 0 < n ∧ n ≤ zs.length ∧ (n : Int) ≤ 16 - q % 16 := by unfold mn at hn; split at hn <;> omega
      rw [if_pos hz, e1, e2, ← hn, if_pos (show (0 : Int) ≤ (n : Int) by omega), if_pos (show (n : Int) ≤ (zs.length : Int) by omega), Int.toNat_natCast]
      unfold bytes_Clone.f
      have hq : wrap64 (q + (n : Int)) = q + n := wrap_in (by omega) (by omega)
      rw [if_pos (show (zs.take n).length < 140737488355328 by rw [List.length_take]; omega), Option.bind_some, if_pos (show out.length < 4398046511104 by omega), hq]
      have hdl : (zs.drop n).length = zs.length - n := List.length_drop
      obtain ⟨l, hl1, hl2, hl3⟩ := ih (zs.drop n) (q + n) (out ++ [(⟨q, zs.take n⟩ : S46)]) (by omega) (by omega) (by omega) (by rw [List.length_append, List.length_singleton]; omega)
      refine ⟨⟨q, zs.take n⟩ :: l, ?_, Cut.cons q zs n l hn0.1 hn0.2.1 hn0.2.2 ?_ hl2, ?_⟩
      · rw [hl1, List.append_assoc, List.singleton_append]
      · by_cases hd : zs.drop n = []
        · exact Or.inl hd
        · right
          have : (zs.drop n).length ≠ 0 := fun h => hd (List.eq_nil_of_length_eq_zero h)
          unfold mn at hn; split at hn <;> omega
      · rw [List.length_cons]; omega
    · rw [if_neg hz]
      have : zs = [] := List.eq_nil_of_length_eq_zero (by omega)
      subst this
      exact ⟨[], by rw [List.append_nil], Cut.nil q, by simp⟩
theorem cut_right {q : Int} {zs : List Int} {l : List S46} (h : Cut q zs l) : 0 ≤ q → q + zs.length ≤ 65536 → ∀ p ∈ l, block_Lay.rightB p = true ∧ 0 ≤ p.f0 ∧ p.f0 < 65536 := by
  induction h with
  | nil q => intro _ _ p hp; cases hp
  | cons q zs n l h1 h2 h3 h4 h5 ih =>
    intro h0 hq p hp
    have hdl : (zs.drop n).length = zs.length - n := List.length_drop
    rcases List.mem_cons.1 hp with e | hp
    · subst e
      have htl : (zs.take n).length = n := by rw [List.length_take]; omega
      refine ⟨?_, h0, ?_⟩
      · unfold block_Lay.rightB
        show (decide (0 ≤ q) && decide (q < 65536) && decide (0 < (zs.take n).length) && decide (((zs.take n).length : Int) ≤ 16 - q % 16)) = true
        rw [htl, decide_eq_true h0, decide_eq_true (show q < 65536 by omega), decide_eq_true h1, decide_eq_true h3]
        rfl
      · show q < 65536
        omega
    · exact ih (by omega) (by omega) p hp
theorem cut_nil {q : Int} {l : List S46} (h : Cut q [] l) : l = [] := by
  cases h with
  | nil => rfl
  | cons _ _ n _ h1 h2 => rw [List.length_nil] at h2; omega
theorem cut_chain {q : Int} {zs : List Int} {l : List S46} (h : Cut q zs l) : 0 ≤ q → (∀ (hh : 0 < l.length), l[0].f0 = q) ∧ ∀ i (hi : i + 1 < l.length), l[i].f0 / 16 < l[i + 1].f0 / 16 := by
  induction h with
  | nil q => intro _; exact ⟨fun hh => by simp at hh, fun i hi => by simp at hi⟩
  | cons q zs n l h1 h2 h3 h4 h5 ih =>
    intro h0
    obtain ⟨g1, g2⟩ := ih (by omega)
    refine ⟨fun _ => rfl, fun i hi => ?_⟩
    cases i with
    | zero =>
      have hl : 0 < l.length := by rw [List.length_cons] at hi; omega
      have e := g1 hl
      show q / 16 < l[0].f0 / 16
      rw [e]
      rcases h4 with h4 | h4
      · rw [h4] at h5
        rw [cut_nil h5] at hl
        simp at hl
      · omega
    | succ i => exact g2 i (by rw [List.length_cons] at hi; omega)
theorem puts_app (xs zs : List Int) : ∀ (out : List Int) (pos : Nat), putsB out pos (xs ++ zs) = putsB (putsB out pos xs) (pos + xs.length) zs := by
  induction xs with
  | nil => intro out pos; rfl
  | cons x xs ih =>
    intro out pos
    simp only [List.cons_append, putsB]
    rw [ih, List.length_cons, show pos + 1 + xs.length = pos + (xs.length + 1) by omega]
theorem cut_fold {q : Int} {zs : List Int} {l : List S46} (h : Cut q zs l) : 0 ≤ q → q + zs.length ≤ 65536 → ∀ f : List Int, l.foldl block_Lay.one f = putsB f q.toNat zs := by
  induction h with
  | nil q => intro _ _ f; rfl
  | cons q zs n l h1 h2 h3 h4 h5 ih =>
    intro h0 hq f
    have hr := (cut_right (Cut.cons q zs n l h1 h2 h3 h4 h5) h0 hq _ List.mem_cons_self).1
    have hdl : (zs.drop n).length = zs.length - n := List.length_drop
    have htl : (zs.take n).length = n := by rw [List.length_take]; omega
    rw [List.foldl_cons, ih (by omega) (by omega), ← puts_one f _ hr]
    show putsB (putsB f q.toNat (zs.take n)) (q + n).toNat (zs.drop n) = putsB f q.toNat zs
    conv => rhs; rw [← List.take_append_drop n zs]
    rw [puts_app, htl, show (q + (n : Int)).toNat = q.toNat + n by omega]
theorem cut_back {q : Int} {zs : List Int} {l : List S46} (h : Cut q zs l) : 0 ≤ q → q + zs.length ≤ 65536 → ∀ f : List Int, l.reverse.foldl block_Lay.one f = putsB f q.toNat zs := by
  induction h with
  | nil q => intro _ _ f; rfl
  | cons q zs n l h1 h2 h3 h4 h5 ih =>
    intro h0 hq f
    have hr := (cut_right (Cut.cons q zs n l h1 h2 h3 h4 h5) h0 hq _ List.mem_cons_self).1
    have hdl : (zs.drop n).length = zs.length - n := List.length_drop
    have htl : (zs.take n).length = n := by rw [List.length_take]; omega
    rw [List.reverse_cons, List.foldl_append, ih (by omega) (by omega), List.foldl_cons, List.foldl_nil, ← puts_one _ _ hr]
    show putsB (putsB f (q + n).toNat (zs.drop n)) q.toNat (zs.take n) = putsB f q.toNat zs
    have hne : zs.take n ≠ [] := fun e => by rw [e] at htl; simp at htl; omega
    have hne2 : zs ≠ [] := fun e => by rw [e] at h2; simp at h2; omega
    rw [show (q + (n : Int)).toNat = q.toNat + n by omega]
    apply same_list
    · rw [puts_len _ _ _ hne, puts_len _ _ _ hne2, htl]
      by_cases hd : zs.drop n = []
      · rw [hd] at hdl ⊢
        simp only [putsB]
        rw [List.length_nil] at hdl
        omega
      · rw [puts_len _ _ _ hd, hdl]
        omega
    · intro i
      rw [puts_get, puts_get, puts_get, htl, hdl, get_take, get_drop]
      by_cases c1 : q.toNat ≤ i ∧ i < q.toNat + n
      · rw [if_pos c1, if_pos (by omega), if_pos (by omega)]
      · rw [if_neg c1]
        by_cases c2 : q.toNat + n ≤ i ∧ i < q.toNat + n + (zs.length - n)
        · rw [if_pos c2, if_pos (by omega), show n + (i - (q.toNat + n)) = i - q.toNat by omega]
        · rw [if_neg c2, if_neg (by omega)]
theorem pieces_law (k : Nat) (q : Int) (b : List Int) (hb : b.length ≤ 300) (h0 : 0 ≤ q) (h1 : q ≤ 2000) (hk : 1000 ≤ k) : ∃ l, block_Pieces.f k q b = some (l, 0) ∧ Cut q b l ∧ l.length ≤ 300 := by
  obtain ⟨k, rfl⟩ : ∃ m, k = m + 1 := ⟨k - 1, by omega⟩
  obtain ⟨l, e1, e2, e3⟩ := pieces_loop k b q [] (by omega) h0 (by omega) (by rw [List.length_nil]; omega)
  refine ⟨l, ?_, e2, by omega⟩
  unfold block_Pieces.f
  rw [if_neg (show ¬ q < 0 by omega), if_neg (show ¬ q > 65536 by omega), wrap_in (show -9223372036854775808 ≤ 65536 - q by omega) (by omega), decide_eq_false (show ¬ (b.length : Int) > 65536 - q by omega)]
  simp only [block_Pieces.j0]
  rw [if_neg Bool.false_ne_true, e1, List.nil_append]

/-! ### the law -/
theorem l2_loop (f : List Int) (hf : f.length ≤ 300) (l : List S46) (hl : l.length ≤ 300) (W : List Int) (H1 : ∀ p ∈ l, block_Lay.rightB p = true ∧ 0 ≤ p.f0 ∧ p.f0 < 65536) (H2 : ∀ i (hi : i + 1 < l.length), l[i].f0 / 16 < l[i + 1].f0 / 16) (H3 : l.foldl block_Lay.one f = W) (H4 : l.reverse.foldl block_Lay.one f = W) : ∀ (m k : Nat), m ≤ l.length → m + 40 < k → newsreellaw08_BlockOrder.l2 k f l ((l.drop m).reverse) W ((m : Int) - 1) = some true := by
  intro m
  induction m with
  | zero =>
    intro k hm hk
    obtain ⟨k, rfl⟩ : ∃ j, k = j + 1 := ⟨k - 1, by omega⟩
    simp only [newsreellaw08_BlockOrder.l2]
    have hlay : ∀ x : List S46, block_Lay.f f x = some (x.foldl block_Lay.one f) := fun x => by unfold block_Lay.f; rw [if_pos (show f.length < 1000000000000 by omega)]
    have hby : newsreelref01_Bytes.f W W = some true := by unfold newsreelref01_Bytes.f; rw [beq_self_eq_true]
    rw [if_neg (show ¬ ((0 : Nat) : Int) - 1 ≥ 0 by omega), hlay, hlay, List.drop_zero, H3, H4, Option.bind_some, hby, Option.bind_some, if_pos rfl, Option.bind_some, hby, Option.bind_some, if_pos rfl, awake_true (by omega)]
    rfl
  | succ m ih =>
    intro k hm hk
    obtain ⟨k, rfl⟩ : ∃ j, k = j + 1 := ⟨k - 1, by omega⟩
    have hlt : m < l.length := by omega
    have hrd : ∀ (j : Nat) (hj : j < l.length), rd_T46 l (j : Int) = l[j] := fun j hj => by
      unfold rd_T46
      rw [Int.toNat_natCast, List.getD_eq_getElem?_getD, List.getElem?_eq_getElem hj]
      rfl
    obtain ⟨r1, r2, r3⟩ := H1 l[m] (List.getElem_mem hlt)
    have hrev : (l.drop (m + 1)).reverse ++ [(⟨l[m].f0, l[m].f1⟩ : S46)] = (l.drop m).reverse := by
      rw [List.drop_eq_getElem_cons hlt, List.reverse_cons]
    have hrl : (l.drop (m + 1)).reverse.length = l.length - (m + 1) := by rw [List.length_reverse, List.length_drop]
    have hgo := ih k (by omega) (by omega)
    simp only [newsreellaw08_BlockOrder.l2]
    rw [show ((m + 1 : Nat) : Int) - 1 = (m : Int) by omega, if_pos (show (m : Int) ≥ 0 by omega), if_pos (show 0 ≤ (m : Int) by omega), if_pos (show (m : Int) < (l.length : Int) by omega), hrd m hlt, block_Lay.right_f, r1, Option.bind_some, if_pos rfl, wrap_in (show -9223372036854775808 ≤ (m : Int) - 1 by omega) (by omega), hrev, hgo]
    by_cases hm0 : (m : Int) > 0
    · obtain ⟨j, rfl⟩ : ∃ j, m = j + 1 := ⟨m - 1, by omega⟩
      have hjl : j < l.length := by omega
      obtain ⟨s1, s2, s3⟩ := H1 l[j] (List.getElem_mem hjl)
      have hch := H2 j (by omega)
      rw [if_pos hm0, show ((j + 1 : Nat) : Int) - 1 = (j : Int) by omega, if_pos (show 0 ≤ (j : Int) by omega), if_pos (show (j : Int) < (l.length : Int) by omega), hrd j hjl, Int.tdiv_eq_ediv_of_nonneg s2, Int.tdiv_eq_ediv_of_nonneg r2, wrap_in (show -9223372036854775808 ≤ l[j].f0 / 16 by omega) (by omega), wrap_in (show -9223372036854775808 ≤ l[j + 1].f0 / 16 by omega) (by omega), if_neg (show ¬ l[j].f0 / 16 ≥ l[j + 1].f0 / 16 by omega), if_pos (show (l.drop (j + 1 + 1)).reverse.length < 4398046511104 by omega)]
    · rw [if_neg hm0, if_pos (show (l.drop (m + 1)).reverse.length < 4398046511104 by omega)]
theorem l1_loop (a : Nat) (ha : a ≤ 2000) (b f : List Int) (l back : List S46) (hb : b.length ≤ 300) (K : Nat) : ∀ (d i : Nat) (X : List Int), i + d = b.length → (b ≠ [] → a + i ≤ X.length) → X.length ≤ 100000 → (∀ k, K ≤ k → newsreellaw08_BlockOrder.l2 k f l back (putsB X (a + i) (b.drop i)) (wrap64 ((l.length : Int) - 1)) = some true) → ∀ k, K + d + 1 ≤ k → newsreellaw08_BlockOrder.l1 k (a : Int) b f l back X (i : Int) = some true := by
  intro d
  induction d with
  | zero =>
    intro i X hd hX hXl hr k hk
    obtain ⟨k, rfl⟩ : ∃ j, k = j + 1 := ⟨k - 1, by omega⟩
    simp only [newsreellaw08_BlockOrder.l1]
    rw [if_neg (show ¬ (i : Int) < (b.length : Int) by omega)]
    have := hr k (by omega)
    rw [List.drop_of_length_le (by omega)] at this
    exact this
  | succ d ih =>
    intro i X hd hX hXl hr k hk
    obtain ⟨k, rfl⟩ : ∃ j, k = j + 1 := ⟨k - 1, by omega⟩
    have hlt : i < b.length := by omega
    have hX2 := hX (fun e => by rw [e] at hlt; simp at hlt)
    have hrd : rd b (i : Int) = b[i] := by
      unfold rd
      rw [Int.toNat_natCast, List.getD_eq_getElem?_getD, List.getElem?_eq_getElem hlt]
      rfl
    have hgo := ih (i + 1) (putB X (a + i) b[i]) (by omega) (fun _ => by rw [putB_len]; omega) (by rw [putB_len]; omega) (fun k' hk' => by
      have := hr k' hk'
      rw [List.drop_eq_getElem_cons hlt] at this
      simp only [putsB] at this
      exact this) k (by omega)
    simp only [newsreellaw08_BlockOrder.l1]
    rw [if_pos (show (i : Int) < (b.length : Int) by omega), wrap_in (show -9223372036854775808 ≤ (a : Int) by omega) (by omega), wrap_in (show -9223372036854775808 ≤ (a : Int) + (i : Int) by omega) (by omega), wrap_in (show -9223372036854775808 ≤ (i : Int) + 1 by omega) (by omega), hrd, show (i : Int) + 1 = ((i + 1 : Nat) : Int) by omega, if_pos (show 0 ≤ (i : Int) by omega)]
    by_cases hin : (a : Int) + (i : Int) < (X.length : Int)
    · have hset : X.set ((a : Int) + (i : Int)).toNat b[i] = putB X (a + i) b[i] := by
        unfold putB
        rw [show a + i + 1 - X.length = 0 by omega, List.replicate_zero, List.append_nil, show ((a : Int) + (i : Int)).toNat = a + i by omega]
      rw [if_pos hin, if_pos (show 0 ≤ (a : Int) + (i : Int) by omega), hset]
      exact hgo
    · have happ : X ++ [b[i]] = putB X (a + i) b[i] := by
        unfold putB
        rw [show a + i + 1 - X.length = 1 by omega, show a + i = X.length by omega, List.set_append_right _ _ (Nat.le_refl _), Nat.sub_self]
        rfl
      rw [if_neg hin, if_pos (show X.length < 140737488355328 by omega), happ]
      exact hgo
theorem l0_loop (a : Nat) (ha : a ≤ 2000) (b f : List Int) (l back : List S46) (K : Nat) : ∀ (d : Nat) (X : List Int), a - X.length ≤ d → X.length ≤ 3000 → (∀ (Y : List Int), (b ≠ [] → a ≤ Y.length) → Y.length ≤ 3000 → (b = [] → Y = X) → Y = X ++ List.replicate (Y.length - X.length) 0 → (b ≠ [] → Y.length = max X.length a) → ∀ k, K ≤ k → newsreellaw08_BlockOrder.l1 k (a : Int) b f l back Y 0 = some true) → ∀ k, K + d + 3 ≤ k → newsreellaw08_BlockOrder.l0 k (a : Int) b f l back X = some true := by
  intro d
  induction d with
  | zero =>
    intro X hd hX hr k hk
    obtain ⟨k, rfl⟩ : ∃ j, k = j + 1 := ⟨k - 1, by omega⟩
    simp only [newsreellaw08_BlockOrder.l0]
    rw [wrap_in (show -9223372036854775808 ≤ (a : Int) by omega) (by omega), if_neg (show ¬ (X.length : Int) < (a : Int) by omega)]
    obtain ⟨k, rfl⟩ : ∃ j, k = j + 1 := ⟨k - 1, by omega⟩
    simp only [newsreellaw08_BlockOrder.j2]
    exact hr X (fun _ => by omega) hX (fun _ => rfl) (by rw [Nat.sub_self, List.replicate_zero, List.append_nil]) (fun _ => by omega) k (by omega)
  | succ d ih =>
    intro X hd hX hr k hk
    by_cases hfit : a - X.length ≤ d
    · exact ih X hfit hX hr k (by omega)
    · obtain ⟨k, rfl⟩ : ∃ j, k = j + 1 := ⟨k - 1, by omega⟩
      simp only [newsreellaw08_BlockOrder.l0]
      rw [wrap_in (show -9223372036854775808 ≤ (a : Int) by omega) (by omega), if_pos (show (X.length : Int) < (a : Int) by omega)]
      by_cases hb0 : (b.length : Int) > 0
      · rw [if_pos hb0, if_pos (show X.length < 140737488355328 by omega)]
        have hXl : (X ++ [0]).length = X.length + 1 := by rw [List.length_append, List.length_singleton]
        refine ih (X ++ [0]) (by omega) (by omega) (fun Y h1 h2 h3 h4 h5 k' hk' => ?_) k (by omega)
        have hbn : b ≠ [] := fun e => by rw [e] at hb0; simp at hb0
        have hYl := h5 hbn
        refine hr Y h1 h2 (fun e => absurd e hbn) ?_ (fun _ => by omega) k' hk'
        have h6 := h4
        rw [List.append_assoc] at h6
        exact h6.trans (by rw [hXl, show Y.length - X.length = (Y.length - (X.length + 1)) + 1 by omega, List.replicate_succ]; rfl)
      · rw [if_neg hb0]
        obtain ⟨k, rfl⟩ : ∃ j, k = j + 1 := ⟨k - 1, by omega⟩
        simp only [newsreellaw08_BlockOrder.j2]
        have hbn : b = [] := List.eq_nil_of_length_eq_zero (by omega)
        exact hr X (fun h => absurd hbn h) hX (fun _ => rfl) (by rw [Nat.sub_self, List.replicate_zero, List.append_nil]) (fun h => absurd hbn h) k (by omega)
theorem j0_true (k : Nat) (hk : 40 ≤ k) (a : Int) (b f : List Int) : newsreellaw08_BlockOrder.j0 k a b f true = some true := by
  obtain ⟨k, rfl⟩ : ∃ m, k = m + 1 := ⟨k - 1, by omega⟩
  simp only [newsreellaw08_BlockOrder.j0]
  rw [if_pos trivial, awake_true (by omega)]
  rfl
theorem BlockOrder_pure : newsreellaw08_BlockOrder.Pure := by
  intro y0 b f h0 _ _
  have b0 := bounds_u16 h0
  obtain ⟨a, rfl⟩ := Int.eq_ofNat_of_zero_le b0.1
  obtain ⟨K, hK⟩ : ∃ K : Nat, K = 10000 := ⟨_, rfl⟩
  refine ⟨K, ?_⟩
  unfold newsreellaw08_BlockOrder.f
  by_cases hl : (b.length : Int) > 300
  · rw [if_pos hl]
    exact j0_true K (by omega) _ _ _
  · rw [if_neg hl]
    by_cases hm : (f.length : Int) > 300
    · rw [if_pos hm]
      exact j0_true K (by omega) _ _ _
    · rw [if_neg hm]
      by_cases hn : (a : Int) > 2000
      · rw [decide_eq_true hn]
        exact j0_true K (by omega) _ _ _
      · rw [decide_eq_false hn]
        obtain ⟨K, rfl⟩ : ∃ m, K = m + 1 := ⟨K - 1, by omega⟩
        simp only [newsreellaw08_BlockOrder.j0]
        obtain ⟨l, e1, e2, e3⟩ := pieces_law K (a : Int) b (by omega) (by omega) (by omega) (by omega)
        rw [if_neg Bool.false_ne_true, wrap_in (show -9223372036854775808 ≤ (a : Int) by omega) (by omega), e1, Option.bind_some, if_pos rfl, Option.bind_some, if_pos (show ([] : List Int).length + f.length < 140737488355328 by rw [List.length_nil]; omega), List.nil_append]
        refine l0_loop a (by omega) b f l [] 1000 2001 f (by omega) (by omega) (fun Y h1 h2 h3 h4 h5 k hk => ?_) K (by omega)
        refine l1_loop a (by omega) b f l [] (by omega) 400 b.length 0 Y (by omega) (fun h => by have := h1 h; omega) (by omega) (fun k' hk' => ?_) k (by omega)
        rw [List.drop_zero, Nat.add_zero]
        have hW : putsB Y a b = putsB f a b := by
          by_cases hbn : b = []
          · rw [h3 hbn]
          · have hYl := h5 hbn
            have hbl : 0 < b.length := Nat.pos_of_ne_zero (fun e => hbn (List.eq_nil_of_length_eq_zero e))
            apply same_list
            · rw [puts_len _ _ _ hbn, puts_len _ _ _ hbn]; omega
            · intro i
              rw [puts_get, puts_get, h4, get_pad]
        have hlr := l2_loop f (by omega) l e3 (putsB f a b) (cut_right e2 (by omega) (by omega)) (cut_chain e2 (by omega)).2 (by rw [cut_fold e2 (by omega) (by omega)]; rfl) (by rw [cut_back e2 (by omega) (by omega)]; rfl) l.length k' (Nat.le_refl _) (by omega)
        rw [List.drop_of_length_le (Nat.le_refl _), List.reverse_nil] at hlr
        rw [hW, wrap_in (show -9223372036854775808 ≤ (l.length : Int) - 1 by omega) (by omega)]
        exact hlr

end Go.Proofs.Ytkkikdjfigffhaa.XBlk
