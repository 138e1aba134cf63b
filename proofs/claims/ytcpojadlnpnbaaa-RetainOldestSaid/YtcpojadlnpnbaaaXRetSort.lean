/- The sort that retain calls (insertion, rotation, symmetric merge), as lists: what comes out is the same elements, in order. -/
import Derived.Test.YtcpojadlnpnbaaaXRetx20
namespace Go.Proofs.Ytcpojadlnpnbaaa.XRet
open Go.RowKit Go.Proofs.YtcpojadlnpnbaaaW.PrintWords Go.Proofs.YtcpojadlnpnbaaaW.PrintLast Go.Proofs.YtcpojadlnpnbaaaW.PrintMore
set_option linter.unusedVariables false
set_option linter.unusedSimpArgs false

abbrev E := S29
/-- From some fuel on there is an answer, and it is good. -/
def T {α : Type} (f : Nat → Option α) (G : α → Prop) : Prop := ∃ r, G r ∧ ∃ K, ∀ k, K ≤ k → f k = some r
theorem T.succ {α : Type} {f g : Nat → Option α} {G : α → Prop} (h : ∀ k, f (k + 1) = g k) (hg : T g G) : T f G := by
  obtain ⟨r, hr, K, hK⟩ := hg
  refine ⟨r, hr, K + 1, fun k hk => ?_⟩
  obtain ⟨j, rfl⟩ : ∃ j, k = j + 1 := ⟨k - 1, by omega⟩
  rw [h]
  exact hK j (by omega)
theorem T.bind {α β : Type} {f : Nat → Option α} {g : α → Nat → Option β} {F : α → Prop} {G : β → Prop} (hf : T f F) (hg : ∀ a, F a → T (g a) G) : T (fun k => (f k).bind fun x => g x k) G := by
  obtain ⟨a, ha, K, hK⟩ := hf
  obtain ⟨b, hb, J, hJ⟩ := hg a ha
  refine ⟨b, hb, K + J, fun k hk => ?_⟩
  show (f k).bind _ = _
  rw [hK k (by omega)]
  exact hJ k (by omega)
theorem T.ret {α : Type} {a : α} {G : α → Prop} (h : G a) : T (fun _ => some a) G := ⟨a, h, 0, fun _ _ => rfl⟩
theorem T.mono {α : Type} {f : Nat → Option α} {F G : α → Prop} (hf : T f F) (h : ∀ a, F a → G a) : T f G := by
  obtain ⟨a, ha, K⟩ := hf
  exact ⟨a, h a ha, K⟩
theorem T.ite {α : Type} {c : Prop} [Decidable c] {f g : Nat → Option α} {G : α → Prop} (h1 : c → T f G) (h2 : ¬ c → T g G) : T (fun k => if c then f k else g k) G := by
  by_cases h : c
  · obtain ⟨a, ha, K, hK⟩ := h1 h
    exact ⟨a, ha, K, fun k hk => (if_pos h).trans (hK k hk)⟩
  · obtain ⟨a, ha, K, hK⟩ := h2 h
    exact ⟨a, ha, K, fun k hk => (if_neg h).trans (hK k hk)⟩
theorem T.yes {α : Type} {c : Prop} [Decidable c] {f g : Nat → Option α} {G : α → Prop} (h : c) (h1 : T f G) : T (fun k => if c then f k else g k) G := T.ite (fun _ => h1) (fun n => absurd h n)
theorem T.no {α : Type} {c : Prop} [Decidable c] {f g : Nat → Option α} {G : α → Prop} (h : ¬ c) (h1 : T g G) : T (fun k => if c then f k else g k) G := T.ite (fun n => absurd n h) (fun _ => h1)
theorem T.of {α : Type} {f : Nat → Option α} {G : α → Prop} {a : α} (K : Nat) (h : ∀ k, K ≤ k → f k = some a) (hG : G a) : T f G := ⟨a, hG, K, h⟩

theorem w64 {n : Int} (h1 : -9223372036854775808 ≤ n := by omega) (h2 : n ≤ 9223372036854775807 := by omega) : wrap64 n = n := by unfold wrap64; omega
theorem u64d {n : Int} (h1 : 0 ≤ n := by omega) (h2 : n ≤ 9223372036854775807 := by omega) : wrap64 (IntKind.u64.wrap (wrap64 n) / 2) = n / 2 := by
  rw [w64 (by omega) h2]
  have : IntKind.u64.wrap n = n := by
    unfold IntKind.wrap
    simp [IntKind.bits, IntKind.signed]
    omega
  rw [this]
  exact w64 (by omega) (by omega)

/-! ### the order -/
def lt (x y : E) : Prop := x.f5 < y.f5 ∨ (x.f5 = y.f5 ∧ x.f0 < y.f0)
instance (x y : E) : Decidable (lt x y) := by unfold lt; infer_instance
def le (x y : E) : Prop := ¬ lt y x
theorem lt_le {x y : E} (h : lt x y) : le x y := by unfold le; unfold lt at *; omega
theorem le_trans {x y z : E} (h : le x y) (g : le y z) : le x z := by unfold le lt at *; omega
theorem le_lt {x y z : E} (h : le x y) (g : lt y z) : lt x z := by unfold le lt at *; omega
theorem lt_lt {x y z : E} (h : lt x y) (g : lt y z) : lt x z := by unfold lt at *; omega
theorem le_rfl (x : E) : le x x := by unfold le lt; omega
def old (k : Nat) (x y : E) : Option Int := retain_older.f k x.f0 x.f1 x.f2 x.f3 x.f4 x.f5 x.f6 x.f7 x.f8 x.f9 x.f10 x.f11 x.f12 x.f13 x.f14 x.f15 x.f16 x.f17 x.f18 x.f19 y.f0 y.f1 y.f2 y.f3 y.f4 y.f5 y.f6 y.f7 y.f8 y.f9 y.f10 y.f11 y.f12 y.f13 y.f14 y.f15 y.f16 y.f17 y.f18 y.f19
theorem cmp64 (a b : Int) : cmp_Compare_int64.f a b = some (if a < b then -1 else if a > b then 1 else 0) := by
  unfold cmp_Compare_int64.f cmp_isNaN_int64.f
  simp
  split <;> (try split) <;> simp_all
theorem cmpI (a b : Int) : cmp_Compare_int.f a b = some (if a < b then -1 else if a > b then 1 else 0) := by
  unfold cmp_Compare_int.f cmp_isNaN_int.f
  simp
  split <;> (try split) <;> simp_all
theorem or_two (k : Nat) (a b : Int) : cmp_Or_int.f (k + 4) [a, b] = some (if a = 0 then b else a) := by
  unfold cmp_Or_int.f
  simp [cmp_Or_int.l0, rd, w64]
  by_cases ha : a = 0 <;> by_cases hb : b = 0 <;> simp [ha, hb]
theorem old_law (x y : E) : T (fun k => old k x y) (fun c => c < 0 ↔ lt x y) := by
  refine T.of (a := if (if x.f5 < y.f5 then (-1 : Int) else if x.f5 > y.f5 then 1 else 0) = 0 then (if x.f0 < y.f0 then -1 else if x.f0 > y.f0 then 1 else 0) else (if x.f5 < y.f5 then -1 else if x.f5 > y.f5 then 1 else 0)) 4 (fun k hk => ?_) ?_
  · obtain ⟨k, rfl⟩ : ∃ j, k = j + 4 := ⟨k - 4, by omega⟩
    unfold old retain_older.f
    rw [cmp64, Option.bind_some, cmpI, Option.bind_some, or_two, Option.bind_some]
  · unfold lt
    split <;> split <;> (try split) <;> (try split) <;> omega
theorem rd_in {l : List E} {i : Nat} (h : i < l.length) {z : Int} (e : z = (i : Int) := by omega) : rd_T29 l z = l[i] := by
  subst e
  unfold rd_T29
  simp [h]
theorem get_at (L M : List E) (i : Nat) (h : i < M.length) {z : Int} (e : z = ((L.length + i : Nat) : Int)) : rd_T29 (L ++ M) z = M[i] := by
  rw [rd_in (i := L.length + i) (by simp; omega) e, List.getElem_append_right (by omega)]
  simp
theorem set_at (L M : List E) (i : Nat) (x : E) {z : Int} (e : z = ((L.length + i : Nat) : Int)) : (L ++ M).set z.toNat x = L ++ M.set i x := by
  subst e
  rw [Int.toNat_natCast, List.set_append_right _ _ (by omega), show L.length + i - L.length = i by omega]

/-! ### the insertion -/
theorem ins_l1 (a b x8 : Int) (A B : List E) (G : List E → Prop) (ha : a = (A.length : Int)) : ∀ (n : Nat) (P P2 : List E) (v : E), P.length = n → A.length + (P.length + P2.length) + B.length ≤ 1000 →
    (P ++ P2).Pairwise le → (∀ y ∈ P2, lt v y) →
    (∀ S : List E, S.Perm (P ++ v :: P2) → S.Pairwise le → T (fun k => api_Ep_32.l0 k (A ++ S ++ B) a b (wrap64 (x8 + 1))) G) →
    T (fun k => api_Ep_32.l1 k (A ++ (P ++ v :: P2) ++ B) a b x8 ((A.length + P.length : Nat) : Int)) G := by
  intro n
  induction n with
  | zero =>
    intro P P2 v hP hN hs hv hn
    obtain rfl := List.length_eq_zero_iff.mp hP
    refine T.succ (fun k => by rw [api_Ep_32.l1]) ?_
    refine T.no (by simp; omega) ?_
    exact hn (v :: P2) (List.Perm.refl _) (List.pairwise_cons.mpr ⟨fun y hy => lt_le (hv y hy), hs⟩)
  | succ n ih =>
    intro P P2 v hP hN hs hv hn
    obtain ⟨P', u, rfl⟩ : ∃ P' u, P = P' ++ [u] := ⟨P.dropLast, P.getLast (by intro h; simp [h] at hP), (List.dropLast_concat_getLast _).symm⟩
    simp only [List.length_append, List.length_singleton] at hP hN
    have e1 : A ++ (P' ++ [u] ++ v :: P2) ++ B = (A ++ P') ++ u :: v :: (P2 ++ B) := by simp
    have e2 : ((A.length + (P' ++ [u]).length : Nat) : Int) = (((A ++ P').length + 1 : Nat) : Int) := by simp; omega
    rw [e1, e2]
    generalize hz : (((A ++ P').length + 1 : Nat) : Int) = z
    have hz' : z = A.length + P'.length + 1 := by rw [← hz]; simp
    have hl : (((A ++ P') ++ u :: v :: (P2 ++ B)).length : Int) = A.length + P'.length + 2 + P2.length + B.length := by simp; omega
    refine T.succ (fun k => by rw [api_Ep_32.l1]) ?_
    rw [w64 (n := z - 1)]
    rw [get_at (A ++ P') (u :: v :: (P2 ++ B)) 1 (by simp) hz.symm, get_at (A ++ P') (u :: v :: (P2 ++ B)) 0 (by simp) (z := z - 1) (by omega)]
    refine T.yes (by omega) (T.yes (by omega) (T.yes (by omega) (T.yes (by omega) (T.yes (by omega) ?_))))
    refine T.bind (old_law v u) (fun c hc => ?_)
    refine T.ite (fun c0 => ?_) (fun c0 => ?_)
    · have hvu := hc.mp c0
      show T (fun k => api_Ep_32.l1 k ((((A ++ P') ++ u :: v :: (P2 ++ B)).set z.toNat u).set (z - 1).toNat v) a b x8 (z - 1)) G
      rw [set_at (A ++ P') _ 1 u hz.symm, set_at (A ++ P') _ 0 v (z := z - 1) (by omega)]
      have := ih P' (u :: P2) v (by omega) (by simp; omega) (by simpa using hs) (fun y hy => by
        rcases List.mem_cons.mp hy with rfl | h
        · exact hvu
        · exact hv y h) (fun S hp hS => hn S (hp.trans (by
          rw [List.append_assoc]
          exact List.Perm.append_left P' (List.Perm.swap _ _ _))) hS)
      rw [show ((A.length + P'.length : Nat) : Int) = z - 1 by omega] at this
      simpa using this
    · have huv : le u v := fun h => c0 (hc.mpr h)
      rw [← e1]
      refine hn _ (List.Perm.refl _) ?_
      rw [List.pairwise_append] at hs ⊢
      refine ⟨hs.1, List.pairwise_cons.mpr ⟨fun y hy => lt_le (hv y hy), hs.2.1⟩, fun x hx y hy => ?_⟩
      have hxu : le x u := by
        have hp := hs.1
        rw [List.pairwise_append] at hp
        rcases List.mem_append.mp hx with h | h
        · exact hp.2.2 x h u (by simp)
        · rw [List.mem_singleton] at h; rw [h]; exact le_rfl u
      rcases List.mem_cons.mp hy with rfl | h
      · exact le_trans hxu huv
      · exact hs.2.2 x hx y h
theorem ins_l0 (a b : Int) (A B : List E) (ha : a = (A.length : Int)) : ∀ (n : Nat) (Q P : List E), Q.length = n → b = A.length + P.length + Q.length → A.length + (P.length + Q.length) + B.length ≤ 1000 → P.Pairwise le →
    T (fun k => api_Ep_32.l0 k (A ++ P ++ (Q ++ B)) a b ((A.length + P.length : Nat) : Int)) (fun r => ∃ S : List E, S.Perm (P ++ Q) ∧ S.Pairwise le ∧ r = A ++ S ++ B) := by
  intro n
  induction n with
  | zero =>
    intro Q P hQ hb hN hs
    obtain rfl := List.length_eq_zero_iff.mp hQ
    refine T.succ (fun k => by rw [api_Ep_32.l0]) ?_
    refine T.no (by simp at hb ⊢; omega) (T.ret ⟨P, by simp, hs, by simp⟩)
  | succ n ih =>
    intro Q P hQ hb hN hs
    obtain ⟨v, Q', rfl⟩ : ∃ v Q', Q = v :: Q' := by
      cases Q with
      | nil => simp at hQ
      | cons v q => exact ⟨v, q, rfl⟩
    simp only [List.length_cons] at hQ hb hN
    refine T.succ (fun k => by rw [api_Ep_32.l0]) ?_
    refine T.yes (by omega) ?_
    have := ins_l1 a b ((A.length + P.length : Nat) : Int) A (Q' ++ B) (fun r => ∃ S : List E, S.Perm (P ++ v :: Q') ∧ S.Pairwise le ∧ r = A ++ S ++ B) ha P.length P [] v rfl (by simp; omega) (by simpa using hs) (by simp) (fun S hp hS => ?_)
    · simpa using this
    · have hlen := hp.length_eq
      simp only [List.length_append, List.length_cons, List.length_nil] at hlen
      have h2 := ih Q' S (by omega) (by omega) (by omega) hS
      rw [w64, show ((A.length + P.length : Nat) : Int) + 1 = ((A.length + S.length : Nat) : Int) by omega]
      refine T.mono h2 (fun r hr => ?_)
      obtain ⟨R, h3, h4, h5⟩ := hr
      exact ⟨R, h3.trans ((hp.append_right Q').trans (by simp)), h4, h5⟩
theorem ins_law (A S B : List E) (a b : Int) (ha : a = A.length) (hb : b = A.length + S.length) (hN : A.length + S.length + B.length ≤ 1000) :
    T (fun k => api_Ep_32.f k (A ++ S ++ B) a b) (fun r => ∃ R : List E, R.Perm S ∧ R.Pairwise le ∧ r = A ++ R ++ B) := by
  show T (fun k => api_Ep_32.l0 k (A ++ S ++ B) a b (wrap64 (a + 1))) _
  rw [w64]
  cases S with
  | nil =>
    refine T.succ (fun k => by rw [api_Ep_32.l0]) ?_
    refine T.no (by simp at hb; omega) (T.ret ⟨[], by simp, List.Pairwise.nil, rfl⟩)
  | cons v Q =>
    have := ins_l0 a b A B ha Q.length Q [v] rfl (by simp at hb ⊢; omega) (by simp at hN ⊢; omega) (by simp)
    rw [show ((A.length + [v].length : Nat) : Int) = a + 1 by simp; omega] at this
    simpa using this

/-! ### the rotation -/
theorem swp_l0 (a b n : Int) (A M B : List E) (ha : a = A.length) : ∀ (m : Nat) (X2 Y2 X1 Y1 : List E), X2.length = m → Y2.length = m → X1.length = Y1.length → b = A.length + X1.length + X2.length + M.length → n = X1.length + X2.length →
    A.length + (X1.length + X2.length) + M.length + (Y1.length + Y2.length) + B.length ≤ 1000 →
    T (fun k => api_Ep_37.l0 k (A ++ Y1 ++ X2 ++ M ++ X1 ++ Y2 ++ B) a b n (X1.length : Int)) (fun r => r = A ++ Y1 ++ Y2 ++ M ++ X1 ++ X2 ++ B) := by
  intro m
  induction m with
  | zero =>
    intro X2 Y2 X1 Y1 hx hy hl hb hn hN
    obtain rfl := List.length_eq_zero_iff.mp hx
    obtain rfl := List.length_eq_zero_iff.mp hy
    refine T.succ (fun k => by rw [api_Ep_37.l0]) ?_
    refine T.no (by simp at hn; omega) (T.ret (by simp))
  | succ m ih =>
    intro X2 Y2 X1 Y1 hx hy hl hb hn hN
    obtain ⟨x, X2, rfl⟩ : ∃ v Q', X2 = v :: Q' := by
      cases X2 with
      | nil => simp at hx
      | cons v q => exact ⟨v, q, rfl⟩
    obtain ⟨y, Y2, rfl⟩ : ∃ v Q', Y2 = v :: Q' := by
      cases Y2 with
      | nil => simp at hy
      | cons v q => exact ⟨v, q, rfl⟩
    simp only [List.length_cons] at hx hy hb hn hN
    have hlen : ((A ++ Y1 ++ (x :: X2) ++ M ++ X1 ++ (y :: Y2) ++ B).length : Int) = A.length + Y1.length + X2.length + M.length + X1.length + Y2.length + B.length + 2 := by simp; omega
    refine T.succ (fun k => by rw [api_Ep_37.l0]) ?_
    rw [w64 (n := b + (X1.length : Int)), w64 (n := a + (X1.length : Int)), w64 (n := (X1.length : Int) + 1)]
    refine T.yes (by omega) (T.yes (by omega) (T.yes (by omega) (T.yes (by omega) (T.yes (by omega) ?_))))
    have e1 : A ++ Y1 ++ (x :: X2) ++ M ++ X1 ++ (y :: Y2) ++ B = (A ++ Y1) ++ (x :: (X2 ++ M ++ X1 ++ y :: (Y2 ++ B))) := by simp
    have e2 : A ++ Y1 ++ (x :: X2) ++ M ++ X1 ++ (y :: Y2) ++ B = (A ++ Y1 ++ x :: X2 ++ M ++ X1) ++ (y :: (Y2 ++ B)) := by simp
    have hx0 : rd_T29 (A ++ Y1 ++ (x :: X2) ++ M ++ X1 ++ (y :: Y2) ++ B) (a + (X1.length : Int)) = x := by
      rw [e1, get_at _ _ 0 (by simp) (by simp; omega)]; rfl
    have hy0 : rd_T29 (A ++ Y1 ++ (x :: X2) ++ M ++ X1 ++ (y :: Y2) ++ B) (b + (X1.length : Int)) = y := by
      rw [e2, get_at _ _ 0 (by simp) (by simp; omega)]; rfl
    rw [hx0, hy0]
    show T (fun k => api_Ep_37.l0 k (((A ++ Y1 ++ (x :: X2) ++ M ++ X1 ++ (y :: Y2) ++ B).set (a + (X1.length : Int)).toNat y).set (b + (X1.length : Int)).toNat x) a b n ((X1.length : Int) + 1)) _
    have e3 : ((A ++ Y1 ++ (x :: X2) ++ M ++ X1 ++ (y :: Y2) ++ B).set (a + (X1.length : Int)).toNat y).set (b + (X1.length : Int)).toNat x = A ++ (Y1 ++ [y]) ++ X2 ++ M ++ (X1 ++ [x]) ++ Y2 ++ B := by
      rw [e1, set_at _ _ 0 _ (by simp; omega), show (x :: (X2 ++ M ++ X1 ++ y :: (Y2 ++ B))).set 0 y = y :: (X2 ++ M ++ X1 ++ y :: (Y2 ++ B)) from rfl,
        show (A ++ Y1) ++ (y :: (X2 ++ M ++ X1 ++ y :: (Y2 ++ B))) = (A ++ Y1 ++ y :: X2 ++ M ++ X1) ++ (y :: (Y2 ++ B)) by simp, set_at _ _ 0 _ (by simp; omega)]
      simp
    rw [e3]
    have := ih X2 Y2 (X1 ++ [x]) (Y1 ++ [y]) (by omega) (by omega) (by simp; omega) (by simp; omega) (by simp; omega) (by simp; omega)
    rw [show (((X1 ++ [x]).length : Nat) : Int) = (X1.length : Int) + 1 by simp] at this
    refine T.mono this (fun r hr => ?_)
    rw [hr]
    simp
theorem swp_law (A X M Y B : List E) (a b n : Int) (ha : a = A.length) (hb : b = A.length + X.length + M.length) (hn : n = X.length) (hl : Y.length = X.length) (hN : A.length + X.length + M.length + Y.length + B.length ≤ 1000) :
    T (fun k => api_Ep_37.f k (A ++ X ++ M ++ Y ++ B) a b n) (fun r => r = A ++ Y ++ M ++ X ++ B) := by
  have := swp_l0 a b n A M B ha X.length X Y [] [] rfl hl rfl (by simpa using hb) (by simpa using hn) (by simp; omega)
  show T (fun k => api_Ep_37.l0 k (A ++ X ++ M ++ Y ++ B) a b n 0) _
  simpa using this
theorem rot_l0 (m : Int) : ∀ (N : Nat) (A U V B : List E) (i j : Int), U.length + V.length ≤ N → 0 < U.length → 0 < V.length → m = A.length + U.length → i = U.length → j = V.length → A.length + U.length + V.length + B.length ≤ 1000 →
    T (fun k => api_Ep_36.l0 k (A ++ U ++ V ++ B) m i j) (fun r => r = A ++ V ++ U ++ B) := by
  intro N
  induction N with
  | zero => intro A U V B i j h1 h2; omega
  | succ N ih =>
    intro A U V B i j h1 h2 h3 hm hi hj hN
    refine T.succ (fun k => by rw [api_Ep_36.l0]) ?_
    rw [w64 (n := m - i)]
    refine T.ite (fun c => ?_) (fun c => ?_)
    · have h := swp_law A U [] V B (m - i) m i (by omega) (by simp; omega) (by omega) (by omega) (by simp; omega)
      simp only [List.append_nil] at h
      exact T.bind h (fun r hr => T.ret hr)
    · refine T.ite (fun c1 => ?_) (fun c1 => ?_)
      · obtain ⟨U1, U2, rfl, hu⟩ : ∃ U1 U2, U = U1 ++ U2 ∧ U1.length = V.length := ⟨U.take V.length, U.drop V.length, (List.take_append_drop _ _).symm, by rw [List.length_take]; omega⟩
        simp only [List.length_append] at *
        have h := swp_law A U1 U2 V B (m - i) m j (by omega) (by omega) (by omega) (by omega) (by omega)
        rw [show A ++ (U1 ++ U2) ++ V ++ B = A ++ U1 ++ U2 ++ V ++ B by simp]
        refine T.bind h (fun r hr => ?_)
        subst hr
        rw [w64 (n := i - j)]
        have := ih (A ++ V) U2 U1 B (i - j) j (by omega) (by omega) (by omega) (by simp; omega) (by omega) (by omega) (by simp; omega)
        refine T.mono this (fun r hr => ?_)
        rw [hr]
        simp
      · obtain ⟨V1, V2, rfl, hv⟩ : ∃ V1 V2, V = V1 ++ V2 ∧ V2.length = U.length := ⟨V.take (V.length - U.length), V.drop (V.length - U.length), (List.take_append_drop _ _).symm, by rw [List.length_drop]; omega⟩
        simp only [List.length_append] at *
        rw [w64 (n := m + j), w64 (n := m + j - i)]
        have h := swp_law A U V1 V2 B (m - i) (m + j - i) i (by omega) (by omega) (by omega) (by omega) (by omega)
        rw [show A ++ U ++ (V1 ++ V2) ++ B = A ++ U ++ V1 ++ V2 ++ B by simp]
        refine T.bind h (fun r hr => ?_)
        subst hr
        rw [w64 (n := j - i)]
        have := ih A V2 V1 (U ++ B) i (j - i) (by omega) (by omega) (by omega) (by omega) (by omega) (by omega) (by simp; omega)
        rw [show A ++ V2 ++ V1 ++ U ++ B = A ++ V2 ++ V1 ++ (U ++ B) by simp]
        refine T.mono this (fun r hr => ?_)
        rw [hr]
        simp
theorem rot_law (A U V B : List E) (a m b : Int) (ha : a = A.length) (hm : m = A.length + U.length) (hb : b = A.length + U.length + V.length) (h2 : 0 < U.length) (h3 : 0 < V.length) (hN : A.length + U.length + V.length + B.length ≤ 1000) :
    T (fun k => api_Ep_36.f k (A ++ U ++ V ++ B) a m b) (fun r => r = A ++ V ++ U ++ B) := by
  show T (fun k => api_Ep_36.l0 k (A ++ U ++ V ++ B) m (wrap64 (m - a)) (wrap64 (b - m))) _
  rw [w64, w64]
  exact rot_l0 m _ A U V B _ _ (Nat.le_refl _) h2 h3 (by omega) (by omega) (by omega) hN

end Go.Proofs.Ytcpojadlnpnbaaa.XRet
