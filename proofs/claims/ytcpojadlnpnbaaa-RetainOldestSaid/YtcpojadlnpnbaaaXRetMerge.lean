/- The symmetric merge of retain's sort, as lists. -/
import Derived.Test.YtcpojadlnpnbaaaXRetSort
namespace Go.Proofs.Ytcpojadlnpnbaaa.XRet
open Go.RowKit Go.Proofs.YtcpojadlnpnbaaaW.PrintWords Go.Proofs.YtcpojadlnpnbaaaW.PrintLast Go.Proofs.YtcpojadlnpnbaaaW.PrintMore
set_option linter.unusedVariables false
set_option linter.unusedSimpArgs false

/-! ### the merge -/
def g (X : List E) (n : Nat) : E := X.getD n z29
theorem rd_g (X : List E) (n : Nat) {z : Int} (e : z = (n : Int) := by omega) : rd_T29 X z = g X n := by subst e; rfl
theorem g_in {X : List E} {n : Nat} (h : n < X.length) : g X n = X[n] := by unfold g; simp [h]
theorem g_right (L M : List E) (i : Nat) : g (L ++ M) (L.length + i) = g M i := by
  unfold g
  rw [List.getD_eq_getElem?_getD, List.getD_eq_getElem?_getD, List.getElem?_append_right (by omega), show L.length + i - L.length = i by omega]
theorem g_left (L M : List E) (i : Nat) (h : i < L.length) : g (L ++ M) i = g L i := by
  unfold g
  rw [List.getD_eq_getElem?_getD, List.getD_eq_getElem?_getD, List.getElem?_append_left h]
theorem sorted_g {U : List E} (hU : U.Pairwise le) {p q : Nat} (h : p ≤ q) (hq : q < U.length) : le (g U p) (g U q) := by
  rw [g_in hq, g_in (show p < U.length by omega)]
  rcases Nat.lt_or_ge p q with h1 | h1
  · exact List.pairwise_iff_getElem.mp hU p q (by omega) hq h1
  · obtain rfl : p = q := by omega
    exact le_rfl _
theorem take_all {U : List E} (hU : U.Pairwise le) {t : Nat} (ht : t ≤ U.length) {Q : E → Prop} (hQ : ∀ x y, le x y → Q y → Q x) (h : 0 < t → Q (g U (t - 1))) : ∀ y ∈ U.take t, Q y := by
  intro y hy
  obtain ⟨p, hp, rfl⟩ := List.mem_iff_getElem.mp hy
  rw [List.length_take] at hp
  rw [List.getElem_take, ← g_in]
  exact hQ _ _ (sorted_g hU (by omega) (by omega)) (h (by omega))
theorem drop_all {U : List E} (hU : U.Pairwise le) {t : Nat} {Q : E → Prop} (hQ : ∀ x y, le x y → Q x → Q y) (h : t < U.length → Q (g U t)) : ∀ y ∈ U.drop t, Q y := by
  intro y hy
  obtain ⟨p, hp, rfl⟩ := List.mem_iff_getElem.mp hy
  rw [List.length_drop] at hp
  rw [List.getElem_drop, ← g_in]
  exact hQ _ _ (sorted_g hU (by omega) (by omega)) (h (by omega))
theorem mv_r (i : Int) (R : List E) : ∀ (W L : List E) (v : E), i = L.length + W.length + 1 → L.length + W.length + R.length ≤ 1000 →
    T (fun k => api_Ep_33.l1 k (L ++ v :: (W ++ R)) i (L.length : Int)) (fun r => r = L ++ (W ++ v :: R)) := by
  intro W
  induction W with
  | nil =>
    intro L v hi hN
    refine T.succ (fun k => by rw [api_Ep_33.l1]) ?_
    rw [w64 (n := i - 1)]
    exact T.no (by simp at hi; omega) (T.ret (by simp))
  | cons u W ih =>
    intro L v hi hN
    simp only [List.length_cons] at hi hN
    refine T.succ (fun k => by rw [api_Ep_33.l1]) ?_
    rw [w64 (n := i - 1), w64 (n := (L.length : Int) + 1)]
    have hl : ((L ++ v :: (u :: W ++ R)).length : Int) = L.length + 2 + W.length + R.length := by simp; omega
    rw [show rd_T29 (L ++ v :: (u :: W ++ R)) ((L.length : Int) + 1) = u by rw [get_at _ _ 1 (by simp) (by omega)]; rfl, show rd_T29 (L ++ v :: (u :: W ++ R)) (L.length : Int) = v by rw [get_at _ _ 0 (by simp) (by omega)]; rfl]
    refine T.yes (by omega) (T.yes (by omega) (T.yes (by omega) (T.yes (by omega) (T.yes (by omega) ?_))))
    show T (fun k => api_Ep_33.l1 k (((L ++ v :: (u :: W ++ R)).set (L.length : Int).toNat u).set ((L.length : Int) + 1).toNat v) i ((L.length : Int) + 1)) _
    rw [set_at _ _ 0 _ (by omega), set_at _ _ 1 _ (by omega)]
    have := ih (L ++ [u]) v (by simp; omega) (by simp; omega)
    rw [show (((L ++ [u]).length : Nat) : Int) = (L.length : Int) + 1 by simp] at this
    simpa using this
theorem mv_l (i : Int) (L : List E) (hi : i = L.length) : ∀ (n : Nat) (W R : List E) (v : E), W.length = n → L.length + W.length + R.length ≤ 1000 →
    T (fun k => api_Ep_33.l3 k (L ++ (W ++ v :: R)) i ((L.length + W.length : Nat) : Int)) (fun r => r = L ++ v :: (W ++ R)) := by
  intro n
  induction n with
  | zero =>
    intro W R v hW hN
    obtain rfl := List.length_eq_zero_iff.mp hW
    refine T.succ (fun k => by rw [api_Ep_33.l3]) ?_
    exact T.no (by simp; omega) (T.ret (by simp))
  | succ n ih =>
    intro W R v hW hN
    obtain ⟨P', u, rfl⟩ : ∃ P' u, W = P' ++ [u] := ⟨W.dropLast, W.getLast (by intro h; simp [h] at hW), (List.dropLast_concat_getLast _).symm⟩
    simp only [List.length_append, List.length_singleton] at hW hN
    have e1 : L ++ (P' ++ [u] ++ v :: R) = (L ++ P') ++ u :: v :: R := by simp
    have e2 : ((L.length + (P' ++ [u]).length : Nat) : Int) = (((L ++ P').length + 1 : Nat) : Int) := by simp; omega
    rw [e1, e2]
    generalize hz : (((L ++ P').length + 1 : Nat) : Int) = z
    have hz' : z = L.length + P'.length + 1 := by rw [← hz]; simp
    have hl : (((L ++ P') ++ u :: v :: R).length : Int) = L.length + P'.length + 2 + R.length := by simp; omega
    refine T.succ (fun k => by rw [api_Ep_33.l3]) ?_
    rw [w64 (n := z - 1)]
    rw [get_at (L ++ P') (u :: v :: R) 1 (by simp) hz.symm, get_at (L ++ P') (u :: v :: R) 0 (by simp) (z := z - 1) (by omega)]
    refine T.yes (by omega) (T.yes (by omega) (T.yes (by omega) (T.yes (by omega) (T.yes (by omega) ?_))))
    show T (fun k => api_Ep_33.l3 k ((((L ++ P') ++ u :: v :: R).set z.toNat u).set (z - 1).toNat v) i (z - 1)) _
    rw [set_at (L ++ P') _ 1 u hz.symm, set_at (L ++ P') _ 0 v (z := z - 1) (by omega)]
    have := ih P' (u :: R) v (by omega) (by simp; omega)
    rw [show ((L.length + P'.length : Nat) : Int) = z - 1 by omega] at this
    simpa using this
theorem bs0 (X : List E) (hN : X.length ≤ 1000) (a i0 j0 : Nat) (ha : a < X.length) (hj : j0 ≤ X.length) (G : List E → Prop)
    (hn : ∀ i : Nat, i0 ≤ i → i ≤ j0 → (i0 < i → lt (g X (i - 1)) (g X a)) → (i < j0 → ¬ lt (g X i) (g X a)) → T (fun k => api_Ep_33.l1 k X (i : Int) (a : Int)) G) :
    ∀ (d i j : Nat), j - i ≤ d → i0 ≤ i → i ≤ j → j ≤ j0 → (i0 < i → lt (g X (i - 1)) (g X a)) → (j < j0 → ¬ lt (g X j) (g X a)) → T (fun k => api_Ep_33.l0 k X (a : Int) (i : Int) (j : Int)) G := by
  intro d
  induction d with
  | zero =>
    intro i j hd h1 h2 h3 f1 f2
    obtain rfl : i = j := by omega
    refine T.succ (fun k => by rw [api_Ep_33.l0]) ?_
    exact T.no (by omega) (hn i h1 h3 f1 f2)
  | succ d ih =>
    intro i j hd h1 h2 h3 f1 f2
    refine T.succ (fun k => by rw [api_Ep_33.l0]) ?_
    refine T.ite (fun c => ?_) (fun c => ?_)
    · obtain ⟨h, hh⟩ : ∃ h : Nat, h = (i + j) / 2 := ⟨_, rfl⟩
      rw [u64d (n := (i : Int) + j), show ((i : Int) + j) / 2 = (h : Int) by omega, rd_g X h rfl, rd_g X a rfl, w64 (n := (h : Int) + 1)]
      refine T.yes (by omega) (T.yes (by omega) (T.yes (by omega) (T.yes (by omega) ?_)))
      refine T.bind (old_law (g X h) (g X a)) (fun c hc => ?_)
      refine T.ite (fun c0 => ?_) (fun c0 => ?_)
      · have := ih (h + 1) j (by omega) (by omega) (by omega) h3 (fun _ => hc.mp c0) f2
        simpa using this
      · exact ih i h (by omega) h1 (by omega) (by omega) f1 (fun _ hh => c0 (hc.mpr hh))
    · obtain rfl : i = j := by omega
      exact hn i h1 h3 f1 f2
theorem bs2 (X : List E) (hN : X.length ≤ 1000) (m i0 j0 : Nat) (ha : m < X.length) (hj : j0 ≤ X.length) (G : List E → Prop)
    (hn : ∀ i : Nat, i0 ≤ i → i ≤ j0 → (i0 < i → ¬ lt (g X m) (g X (i - 1))) → (i < j0 → lt (g X m) (g X i)) → T (fun k => api_Ep_33.l3 k X (i : Int) (m : Int)) G) :
    ∀ (d i j : Nat), j - i ≤ d → i0 ≤ i → i ≤ j → j ≤ j0 → (i0 < i → ¬ lt (g X m) (g X (i - 1))) → (j < j0 → lt (g X m) (g X j)) → T (fun k => api_Ep_33.l2 k X (m : Int) (i : Int) (j : Int)) G := by
  intro d
  induction d with
  | zero =>
    intro i j hd h1 h2 h3 f1 f2
    obtain rfl : i = j := by omega
    refine T.succ (fun k => by rw [api_Ep_33.l2]) ?_
    exact T.no (by omega) (hn i h1 h3 f1 f2)
  | succ d ih =>
    intro i j hd h1 h2 h3 f1 f2
    refine T.succ (fun k => by rw [api_Ep_33.l2]) ?_
    refine T.ite (fun c => ?_) (fun c => ?_)
    · obtain ⟨h, hh⟩ : ∃ h : Nat, h = (i + j) / 2 := ⟨_, rfl⟩
      rw [u64d (n := (i : Int) + j), show ((i : Int) + j) / 2 = (h : Int) by omega, rd_g X h rfl, rd_g X m rfl, w64 (n := (h : Int) + 1)]
      refine T.yes (by omega) (T.yes (by omega) (T.yes (by omega) (T.yes (by omega) ?_)))
      refine T.bind (old_law (g X m) (g X h)) (fun c hc => ?_)
      refine T.ite (fun c0 => ?_) (fun c0 => ?_)
      · exact ih i h (by omega) h1 (by omega) (by omega) f1 (fun _ => hc.mp c0)
      · have := ih (h + 1) j (by omega) (by omega) (by omega) h3 (fun _ hh => c0 (hc.mpr hh)) f2
        simpa using this
    · obtain rfl : i = j := by omega
      exact hn i h1 h3 f1 f2
theorem bs4 (X : List E) (hN : X.length ≤ 1000) (a m b mid n : Int) (p s0 r0 : Nat) (hp : ∀ c, s0 ≤ c → c < r0 → c ≤ p ∧ p - c < X.length ∧ c < X.length) (G : List E → Prop)
    (hn : ∀ s : Nat, s0 ≤ s → s ≤ r0 → (s0 < s → ¬ lt (g X (p - (s - 1))) (g X (s - 1))) → (s < r0 → lt (g X (p - s)) (g X s)) →
      T (fun k => if (s : Int) < m then api_Ep_33.j6 k X a m b mid s (wrap64 (n - s)) (decide (m < wrap64 (n - s))) else api_Ep_33.j6 k X a m b mid s (wrap64 (n - s)) false) G) :
    ∀ (d s r : Nat), r - s ≤ d → s0 ≤ s → s ≤ r → r ≤ r0 → r0 ≤ 1000 → p ≤ 3000 → (s0 < s → ¬ lt (g X (p - (s - 1))) (g X (s - 1))) → (r < r0 → lt (g X (p - r)) (g X r)) → T (fun k => api_Ep_33.l4 k X a m b mid n (s : Int) (r : Int) (p : Int)) G := by
  intro d
  induction d with
  | zero =>
    intro i j hd h1 h2 h3 h4 h5 f1 f2
    obtain rfl : i = j := by omega
    refine T.succ (fun k => by rw [api_Ep_33.l4]) ?_
    exact T.no (by omega) (hn i h1 h3 f1 f2)
  | succ d ih =>
    intro i j hd h1 h2 h3 h4 h5 f1 f2
    refine T.succ (fun k => by rw [api_Ep_33.l4]) ?_
    refine T.ite (fun c => ?_) (fun c => ?_)
    · obtain ⟨h, hh⟩ : ∃ h : Nat, h = (i + j) / 2 := ⟨_, rfl⟩
      obtain ⟨q1, q2, q3⟩ := hp h (by omega) (by omega)
      rw [u64d (n := (i : Int) + j), show ((i : Int) + j) / 2 = (h : Int) by omega, w64 (n := (p : Int) - h), rd_g X (p - h), rd_g X h rfl, w64 (n := (h : Int) + 1)]
      refine T.yes (by omega) (T.yes (by omega) (T.yes (by omega) (T.yes (by omega) ?_)))
      refine T.bind (old_law (g X (p - h)) (g X h)) (fun c hc => ?_)
      refine T.ite (fun c0 => ?_) (fun c0 => ?_)
      · exact ih i h (by omega) h1 (by omega) (by omega) h4 h5 f1 (fun _ => hc.mp c0)
      · have := ih (h + 1) j (by omega) (by omega) (by omega) h3 h4 h5 (fun _ hh => c0 (hc.mpr hh)) f2
        simpa using this
    · obtain rfl : i = j := by omega
      exact hn i h1 h3 f1 f2
/-- The right half, if there is something to merge. -/
theorem j9_law (P S U B : List E) (hS : S.Pairwise le) (hU : U.Pairwise le) (b mid e : Int) (hm : mid = P.length) (he : e = P.length + S.length) (hb : b = P.length + S.length + U.length)
    (hM : 0 < S.length → 0 < U.length → T (fun k => api_Ep_33.f k (P ++ S ++ U ++ B) mid e b) (fun r => ∃ R : List E, R.Perm (S ++ U) ∧ R.Pairwise le ∧ r = P ++ R ++ B)) :
    T (fun k => api_Ep_33.j9 k (P ++ S ++ U ++ B) b mid e) (fun r => ∃ R : List E, R.Perm (S ++ U) ∧ R.Pairwise le ∧ r = P ++ R ++ B) := by
  refine T.succ (fun k => by rw [api_Ep_33.j9]) ?_
  refine T.ite (fun c => T.ite (fun c1 => ?_) (fun c1 => ?_)) (fun c => ?_)
  · exact T.bind (hM (by omega) (by omega)) (fun r hr => T.ret hr)
  · obtain rfl := List.length_eq_zero_iff.mp (show U.length = 0 by omega)
    exact T.ret ⟨S, by simp, hS, by simp⟩
  · obtain rfl := List.length_eq_zero_iff.mp (show S.length = 0 by omega)
    exact T.ret ⟨U, by simp, hU, by simp⟩
/-- The left half, then the right one. -/
theorem j7_law (A S U Z : List E) (hS : S.Pairwise le) (hU : U.Pairwise le) (a b mid s e : Int) (G : List E → Prop) (ha : a = A.length) (hs : s = A.length + S.length) (hm : mid = A.length + S.length + U.length)
    (hM : 0 < S.length → 0 < U.length → T (fun k => api_Ep_33.f k (A ++ S ++ U ++ Z) a s mid) (fun r => ∃ R : List E, R.Perm (S ++ U) ∧ R.Pairwise le ∧ r = A ++ R ++ Z))
    (hn : ∀ R : List E, R.Perm (S ++ U) → R.Pairwise le → T (fun k => api_Ep_33.j9 k (A ++ R ++ Z) b mid e) G) :
    T (fun k => api_Ep_33.j7 k (A ++ S ++ U ++ Z) a b mid s e) G := by
  refine T.succ (fun k => by rw [api_Ep_33.j7]) ?_
  have no : S.length = 0 ∨ U.length = 0 → T (fun k => api_Ep_33.j9 k (A ++ S ++ U ++ Z) b mid e) G := by
    rintro (h | h)
    · obtain rfl := List.length_eq_zero_iff.mp h
      simpa using hn U (by simp) hU
    · obtain rfl := List.length_eq_zero_iff.mp h
      simpa using hn S (by simp) hS
  refine T.ite (fun c => ?_) (fun c => ?_)
  · by_cases c1 : s < mid
    · rw [decide_eq_true c1]
      refine T.succ (fun k => by rw [api_Ep_33.j8]) (T.yes rfl ?_)
      refine T.bind (hM (by omega) (by omega)) (fun r hr => ?_)
      obtain ⟨R, h1, h2, rfl⟩ := hr
      exact hn R h1 h2
    · rw [decide_eq_false c1]
      exact T.succ (fun k => by rw [api_Ep_33.j8]) (T.no (by decide) (no (by omega)))
  · exact T.succ (fun k => by rw [api_Ep_33.j8]) (T.no (by decide) (no (by omega)))
theorem perm_mid (S1 S2 U1 U2 R1 R2 : List E) (h1 : R1.Perm (S1 ++ U1)) (h2 : R2.Perm (S2 ++ U2)) : (R1 ++ R2).Perm ((S1 ++ S2) ++ (U1 ++ U2)) := by
  refine (h1.append h2).trans ?_
  rw [List.append_assoc, List.append_assoc]
  refine List.Perm.append_left S1 ?_
  rw [← List.append_assoc, ← List.append_assoc]
  exact List.Perm.append_right U2 List.perm_append_comm
theorem merge_law : ∀ (N : Nat) (A S U B : List E) (a m b : Int), S.length + U.length ≤ N → 0 < S.length → 0 < U.length → S.Pairwise le → U.Pairwise le → a = A.length → m = A.length + S.length → b = A.length + S.length + U.length →
    A.length + S.length + U.length + B.length ≤ 1000 →
    T (fun k => api_Ep_33.f k (A ++ S ++ U ++ B) a m b) (fun r => ∃ R : List E, R.Perm (S ++ U) ∧ R.Pairwise le ∧ r = A ++ R ++ B) := by
  intro N
  induction N with
  | zero => intro A S U B a m b h1 h2; omega
  | succ N ih =>
    intro A S U B a m b hN hS0 hU0 hS hU ha hm hb hl
    have hlen : (A ++ S ++ U ++ B).length = A.length + S.length + U.length + B.length := by simp; omega
    have gS : ∀ i, i < S.length → g (A ++ S ++ U ++ B) (A.length + i) = g S i := fun i hi => by
      rw [show A ++ S ++ U ++ B = A ++ (S ++ (U ++ B)) by simp, g_right, g_left _ _ _ hi]
    have gU : ∀ i, i < U.length → g (A ++ S ++ U ++ B) (A.length + S.length + i) = g U i := fun i hi => by
      rw [show A ++ S ++ U ++ B = (A ++ S) ++ (U ++ B) by simp, show A.length + S.length + i = (A ++ S).length + i by simp, g_right, g_left _ _ _ hi]
    refine T.succ (fun k => by rw [api_Ep_33.f]) ?_
    rw [w64 (n := m - a), w64 (n := b - m), u64d (n := a + b)]
    refine T.ite (fun c => ?_) (fun c => T.ite (fun c1 => ?_) (fun c1 => ?_))
    · -- one on the left
      obtain ⟨v, rfl⟩ : ∃ v, S = [v] := List.length_eq_one_iff.mp (by omega)
      simp only [List.length_singleton] at *
      have hv : g (A ++ [v] ++ U ++ B) A.length = v := by
        simp [g]
      have := bs0 (A ++ [v] ++ U ++ B) (by omega) A.length (A.length + 1) (A.length + 1 + U.length) (by omega) (by omega) (fun r => ∃ R : List E, R.Perm ([v] ++ U) ∧ R.Pairwise le ∧ r = A ++ R ++ B) ?_ (U.length) (A.length + 1) (A.length + 1 + U.length) (by omega) (by omega) (by omega) (by omega) (by omega) (by omega)
      · rw [show m = ((A.length + 1 : Nat) : Int) by omega, show b = ((A.length + 1 + U.length : Nat) : Int) by omega, ha]
        exact this
      · intro i h1 h2 f1 f2
        obtain ⟨t, rfl⟩ : ∃ t, i = A.length + 1 + t := ⟨i - (A.length + 1), by omega⟩
        rw [hv] at f1 f2
        have hlt : ∀ y ∈ U.take t, lt y v := take_all hU (by omega) (fun x y hx hy => le_lt hx hy) (fun h0 => by
          have := f1 (by omega)
          rw [show A.length + 1 + t - 1 = A.length + 1 + (t - 1) by omega, gU (t - 1) (by omega)] at this
          exact this)
        have hge : ∀ y ∈ U.drop t, le v y := drop_all hU (fun x y hx hy => le_trans hy hx) (fun h0 => by
          have := f2 (by omega)
          rw [gU t (by omega)] at this
          exact this)
        have hU' := hU
        rw [← List.take_append_drop t U] at hU'
        rw [List.pairwise_append] at hU'
        have h3 := mv_r ((A.length + 1 + t : Nat) : Int) (U.drop t ++ B) (U.take t) A v (by rw [List.length_take]; omega) (by simp; omega)
        rw [show A ++ [v] ++ U ++ B = A ++ v :: (U.take t ++ (U.drop t ++ B)) by rw [← List.append_assoc (U.take t), List.take_append_drop]; simp]
        refine T.mono h3 (fun r hr => ⟨U.take t ++ v :: U.drop t, ?_, ?_, ?_⟩)
        · exact List.perm_middle.trans (by rw [List.take_append_drop]; simp)
        · rw [List.pairwise_append]
          refine ⟨hU'.1, List.pairwise_cons.mpr ⟨hge, hU'.2.1⟩, fun x hx y hy => ?_⟩
          rcases List.mem_cons.mp hy with rfl | h
          · exact lt_le (hlt x hx)
          · exact hU'.2.2 x hx y h
        · rw [hr]; simp
    · -- one on the right
      obtain ⟨v, rfl⟩ : ∃ v, U = [v] := List.length_eq_one_iff.mp (by omega)
      simp only [List.length_singleton] at *
      have hv : g (A ++ S ++ [v] ++ B) (A.length + S.length) = v := by
        simp [g]
      have := bs2 (A ++ S ++ [v] ++ B) (by omega) (A.length + S.length) A.length (A.length + S.length) (by omega) (by omega) (fun r => ∃ R : List E, R.Perm (S ++ [v]) ∧ R.Pairwise le ∧ r = A ++ R ++ B) ?_ (S.length) A.length (A.length + S.length) (by omega) (by omega) (by omega) (by omega) (by omega) (by omega)
      · rw [show m = ((A.length + S.length : Nat) : Int) by omega, ha]
        exact this
      · intro i h1 h2 f1 f2
        obtain ⟨t, rfl⟩ : ∃ t, i = A.length + t := ⟨i - A.length, by omega⟩
        rw [hv] at f1 f2
        have hlt : ∀ y ∈ S.take t, le y v := take_all hS (by omega) (fun x y hx hy => le_trans hx hy) (fun h0 => by
          have := f1 (by omega)
          rw [show A.length + t - 1 = A.length + (t - 1) by omega, gS (t - 1) (by omega)] at this
          exact this)
        have hge : ∀ y ∈ S.drop t, lt v y := drop_all hS (fun x y hx hy => by unfold le lt at *; omega) (fun h0 => by
          have := f2 (by omega)
          rw [gS t (by omega)] at this
          exact this)
        have hS' := hS
        rw [← List.take_append_drop t S] at hS'
        rw [List.pairwise_append] at hS'
        have h3 := mv_l ((A.length + t : Nat) : Int) (A ++ S.take t) (by simp; omega) _ (S.drop t) B v rfl (by simp; omega)
        rw [show (((A ++ S.take t).length + (S.drop t).length : Nat) : Int) = ((A.length + S.length : Nat) : Int) by simp; omega] at h3
        rw [show A ++ S ++ [v] ++ B = A ++ S.take t ++ (S.drop t ++ v :: B) by rw [show A ++ S.take t ++ (S.drop t ++ v :: B) = A ++ (S.take t ++ S.drop t) ++ (v :: B) by simp only [List.append_assoc], List.take_append_drop]; simp]
        refine T.mono h3 (fun r hr => ⟨S.take t ++ v :: S.drop t, ?_, ?_, ?_⟩)
        · refine List.perm_middle.trans ?_
          rw [List.take_append_drop]
          exact (List.perm_append_singleton v S).symm
        · rw [List.pairwise_append]
          refine ⟨hS'.1, List.pairwise_cons.mpr ⟨fun y hy => lt_le (hge y hy), hS'.2.1⟩, fun x hx y hy => ?_⟩
          rcases List.mem_cons.mp hy with rfl | h
          · exact hlt x hx
          · exact hS'.2.2 x hx y h
        · rw [hr]; simp
    · -- both longer
      obtain ⟨mid, hmid⟩ : ∃ mid : Nat, mid = (A.length + (A.length + S.length + U.length)) / 2 := ⟨_, rfl⟩
      have hmid' : (a + b) / 2 = (mid : Int) := by omega
      rw [hmid', w64 (n := (mid : Int) + m), w64 (n := (mid : Int) + m - b)]
      have key : ∀ s0 r0 : Nat, A.length ≤ s0 → s0 ≤ r0 → r0 ≤ A.length + S.length → r0 ≤ mid → mid + (A.length + S.length) ≤ A.length + S.length + U.length + s0 → (s0 = A.length ∨ mid + (A.length + S.length) = A.length + S.length + U.length + s0) → (r0 = mid ∨ r0 = A.length + S.length) →
          T (fun k => api_Ep_33.j4 k (A ++ S ++ U ++ B) a m b mid ((mid : Int) + m) (s0 : Int) (r0 : Int)) (fun r => ∃ R : List E, R.Perm (S ++ U) ∧ R.Pairwise le ∧ r = A ++ R ++ B) := by
        intro s0 r0 q1 q2 q3 q4 q5 q6 q7
        refine T.succ (fun k => by rw [api_Ep_33.j4]) ?_
        rw [w64 (n := (mid : Int) + m - 1), show (mid : Int) + m - 1 = ((mid + (A.length + S.length) - 1 : Nat) : Int) by omega]
        refine bs4 (A ++ S ++ U ++ B) (by omega) a m b mid _ (mid + (A.length + S.length) - 1) s0 r0 (fun c h1 h2 => by omega) _ ?_ (r0 - s0) s0 r0 (by omega) (by omega) (by omega) (by omega) (by omega) (by omega) (by omega) (by omega)
        intro s h1 h2 f1 f2
        -- the four parts
        obtain ⟨e, he⟩ : ∃ e : Nat, e = mid + (A.length + S.length) - s := ⟨_, rfl⟩
        rw [w64 (n := (mid : Int) + m - s), show (mid : Int) + m - s = (e : Int) by omega]
        obtain ⟨S1, S2, hS12, l1, l2⟩ : ∃ S1 S2, S = S1 ++ S2 ∧ S1 = S.take (s - A.length) ∧ S2 = S.drop (s - A.length) := ⟨_, _, (List.take_append_drop _ _).symm, rfl, rfl⟩
        obtain ⟨U1, U2, hU12, l3, l4⟩ : ∃ U1 U2, U = U1 ++ U2 ∧ U1 = U.take (e - (A.length + S.length)) ∧ U2 = U.drop (e - (A.length + S.length)) := ⟨_, _, (List.take_append_drop _ _).symm, rfl, rfl⟩
        have n1 : S1.length = s - A.length := by rw [l1, List.length_take]; omega
        have n2 : S2.length = A.length + S.length - s := by rw [l2, List.length_drop]; omega
        have n3 : U1.length = e - (A.length + S.length) := by rw [l3, List.length_take]; omega
        have n4 : U2.length = A.length + S.length + U.length - e := by rw [l4, List.length_drop]; omega
        have cr1 : ∀ x ∈ S1, ∀ y ∈ U2, le x y := by
          intro x hx y hy
          rw [l1] at hx
          rw [l4] at hy
          refine take_all hS (Q := fun x => le x y) (t := s - A.length) (by omega) (fun x z hx hz => le_trans hx hz) (fun h0 => ?_) x hx
          refine drop_all hU (Q := fun y => le (g S (s - A.length - 1)) y) (t := e - (A.length + S.length)) (fun x z hx hz => le_trans hz hx) (fun h0 => ?_) y hy
          have := f1 (by omega)
          rw [show mid + (A.length + S.length) - 1 - (s - 1) = A.length + S.length + (e - (A.length + S.length)) by omega, gU _ h0, show s - 1 = A.length + (s - A.length - 1) by omega, gS _ (by omega)] at this
          exact this
        have cr2 : ∀ x ∈ U1, ∀ y ∈ S2, le x y := by
          intro x hx y hy
          rw [l3] at hx
          rw [l2] at hy
          refine take_all hU (Q := fun x => le x y) (t := e - (A.length + S.length)) (by omega) (fun x z hx hz => le_trans hx hz) (fun h0 => ?_) x hx
          refine drop_all hS (Q := fun y => le (g U (e - (A.length + S.length) - 1)) y) (t := s - A.length) (fun x z hx hz => le_trans hz hx) (fun h0 => ?_) y hy
          have := f2 (by omega)
          rw [show mid + (A.length + S.length) - 1 - s = A.length + S.length + (e - (A.length + S.length) - 1) by omega, gU _ (by omega), show s = A.length + (s - A.length) by omega, gS _ h0] at this
          exact lt_le this
        have hS' := hS
        have hU' := hU
        rw [hS12, List.pairwise_append] at hS'
        rw [hU12, List.pairwise_append] at hU'
        -- behind the rotation
        have h7 : T (fun k => api_Ep_33.j7 k (A ++ S1 ++ U1 ++ (S2 ++ U2 ++ B)) a b mid s e) (fun r => ∃ R : List E, R.Perm (S ++ U) ∧ R.Pairwise le ∧ r = A ++ R ++ B) := by
          refine j7_law A S1 U1 (S2 ++ U2 ++ B) hS'.1 hU'.1 a b mid s e _ ha (by omega) (by omega) (fun z1 z2 => ?_) (fun R hR hRs => ?_)
          · exact ih A S1 U1 (S2 ++ U2 ++ B) a s mid (by omega) z1 z2 hS'.1 hU'.1 ha (by omega) (by omega) (by simp; omega)
          · have hRl := hR.length_eq
            rw [List.length_append] at hRl
            have := j9_law (A ++ R) S2 U2 B hS'.2.1 hU'.2.1 b mid e (by simp; omega) (by simp; omega) (by simp; omega) (fun z1 z2 => ih (A ++ R) S2 U2 B mid e b (by omega) z1 z2 hS'.2.1 hU'.2.1 (by simp; omega) (by simp; omega) (by simp; omega) (by simp; omega))
            rw [show A ++ R ++ (S2 ++ U2 ++ B) = A ++ R ++ S2 ++ U2 ++ B by simp]
            refine T.mono this (fun r hr => ?_)
            obtain ⟨R2, p1, p2, p3⟩ := hr
            refine ⟨R ++ R2, ?_, ?_, by rw [p3]; simp⟩
            · rw [hS12, hU12]
              exact perm_mid S1 S2 U1 U2 R R2 hR p1
            · rw [List.pairwise_append]
              refine ⟨hRs, p2, fun x hx y hy => ?_⟩
              rcases List.mem_append.mp (hR.mem_iff.mp hx) with h | h <;> rcases List.mem_append.mp (p1.mem_iff.mp hy) with h' | h'
              · exact hS'.2.2 x h y h'
              · exact cr1 x h y h'
              · exact cr2 x h y h'
              · exact hU'.2.2 x h y h'
        have no : S2.length = 0 ∨ U1.length = 0 → T (fun k => api_Ep_33.j7 k (A ++ S ++ U ++ B) a b mid s e) (fun r => ∃ R : List E, R.Perm (S ++ U) ∧ R.Pairwise le ∧ r = A ++ R ++ B) := by
          have e0 : A ++ S ++ U ++ B = A ++ (S1 ++ S2) ++ (U1 ++ U2) ++ B := by rw [← hS12, ← hU12]
          rintro (h | h)
          · rw [e0, List.length_eq_zero_iff.mp h]
            rw [List.length_eq_zero_iff.mp h] at h7
            simpa using h7
          · rw [e0, List.length_eq_zero_iff.mp h]
            rw [List.length_eq_zero_iff.mp h] at h7
            simpa using h7
        refine T.ite (fun d => ?_) (fun d => ?_)
        · by_cases d1 : m < (e : Int)
          · rw [decide_eq_true d1]
            refine T.succ (fun k => by rw [api_Ep_33.j6]) (T.yes rfl ?_)
            have hr := rot_law (A ++ S1) S2 U1 (U2 ++ B) s m e (by simp; omega) (by simp; omega) (by simp; omega) (by omega) (by omega) (by simp; omega)
            rw [show A ++ S ++ U ++ B = A ++ S1 ++ S2 ++ U1 ++ (U2 ++ B) by rw [hS12, hU12]; simp]
            refine T.bind hr (fun r hr => ?_)
            subst hr
            simpa using h7
          · rw [decide_eq_false d1]
            exact T.succ (fun k => by rw [api_Ep_33.j6]) (T.no (by decide) (no (by omega)))
        · exact T.succ (fun k => by rw [api_Ep_33.j6]) (T.no (by decide) (no (by omega)))
      refine T.ite (fun d => ?_) (fun d => ?_)
      · have := key (mid + (A.length + S.length) - (A.length + S.length + U.length)) mid (by omega) (by omega) (by omega) (by omega) (by omega) (by omega) (by omega)
        rw [show (mid : Int) + m - b = ((mid + (A.length + S.length) - (A.length + S.length + U.length) : Nat) : Int) by omega]
        exact this
      · have := key A.length (A.length + S.length) (by omega) (by omega) (by omega) (by omega) (by omega) (by omega) (by omega)
        rw [show m = ((A.length + S.length : Nat) : Int) by omega] at this ⊢
        rw [ha] at this ⊢
        exact this
/-- The whole sort, of up to 34 elements. -/
theorem sort_law (l : List E) (hl : l.length ≤ 34) : T (fun k => api_Ep_21.f k l) (fun r => r.Perm l ∧ r.Pairwise le) := by
  have h : T (fun k => api_Ep_26.f k l (l.length : Int)) (fun r => r.Perm l ∧ r.Pairwise le) := by
    show T (fun k => api_Ep_26.l0 k l (l.length : Int) 20 0 20) _
    refine T.succ (fun k => by rw [api_Ep_26.l0]) ?_
    refine T.ite (fun c => ?_) (fun c => ?_)
    · have h1 := ins_law [] (l.take 20) (l.drop 20) 0 20 (by simp) (by simp; omega) (by simp; omega)
      rw [List.nil_append, List.take_append_drop] at h1
      refine T.bind h1 (fun r hr => ?_)
      obtain ⟨R, p1, p2, rfl⟩ := hr
      have hRl : R.length = 20 := by rw [p1.length_eq, List.length_take]; omega
      rw [List.nil_append]
      refine T.succ (fun k => by rw [api_Ep_26.l0]) ?_
      refine T.no (by rw [w64]; omega) ?_
      have h2 := ins_law R (l.drop 20) [] 20 (l.length : Int) (by omega) (by rw [List.length_drop]; omega) (by simp; omega)
      rw [List.append_nil] at h2
      refine T.bind h2 (fun r hr => ?_)
      obtain ⟨R2, p3, p4, rfl⟩ := hr
      rw [List.append_nil]
      have hR2 : R2.length = l.length - 20 := by rw [p3.length_eq, List.length_drop]
      have hp : (R ++ R2).Perm l := (p1.append p3).trans (by rw [List.take_append_drop])
      refine T.succ (fun k => by rw [api_Ep_26.l1]) ?_
      refine T.ite (fun c2 => ?_) (fun c2 => ?_)
      · refine T.succ (fun k => by rw [api_Ep_26.l2]) ?_
        rw [w64 (n := 2 * (20 : Int)), w64 (n := (0 : Int) + 20), w64 (n := (20 : Int) * 2)]
        refine T.no (by omega) (T.yes (by omega) ?_)
        have h3 := merge_law _ [] R R2 [] 0 20 (l.length : Int) (Nat.le_refl _) (by omega) (by omega) p2 p4 (by simp) (by simp; omega) (by simp; omega) (by simp; omega)
        rw [List.nil_append, List.append_nil] at h3
        refine T.bind (show T (fun k => _) _ from h3) (fun r hr => ?_)
        obtain ⟨R3, p5, p6, rfl⟩ := hr
        refine T.succ (fun k => by rw [api_Ep_26.l1]) ?_
        refine T.no (by omega) (T.ret ⟨?_, ?_⟩)
        · simpa using p5.trans hp
        · simpa using p6
      · obtain rfl := List.length_eq_zero_iff.mp (show R2.length = 0 by omega)
        exact T.ret ⟨hp, by simpa using p2⟩
    · have h1 := ins_law [] l [] 0 (l.length : Int) (by simp) (by simp) (by simp; omega)
      rw [List.nil_append, List.append_nil] at h1
      refine T.bind h1 (fun r hr => ?_)
      obtain ⟨R, p1, p2, rfl⟩ := hr
      refine T.succ (fun k => by rw [api_Ep_26.l1]) ?_
      refine T.no (by omega) (T.ret ⟨by simpa using p1, by simpa using p2⟩)
  exact T.bind h (fun r hr => T.ret hr)
end Go.Proofs.Ytcpojadlnpnbaaa.XRet
