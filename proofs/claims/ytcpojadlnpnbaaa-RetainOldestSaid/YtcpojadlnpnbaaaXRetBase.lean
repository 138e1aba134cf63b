/- What the two laws of retention share: light states, numbers that are there once, lists of numbers, the episode of a number. -/
import Derived.Test.YtcpojadlnpnbaaaXRetOver
import Derived.Test.YtcpojadlnpnbaaaXRetx5
import Derived.Test.YtcpojadlnpnbaaaXRetx6
import Derived.Test.YtcpojadlnpnbaaaXRetx26
import Derived.Test.YtcpojadlnpnbaaaXRetx32
namespace Go.Proofs.Ytcpojadlnpnbaaa.XRet
open Go.RowKit Go.Proofs.YtcpojadlnpnbaaaW.PrintWords Go.Proofs.YtcpojadlnpnbaaaW.PrintLast Go.Proofs.YtcpojadlnpnbaaaW.PrintMore
set_option linter.unusedVariables false
set_option linter.unusedSimpArgs false

/-- An answer that needs no fuel. -/
theorem T.now {α : Type} {o : Option α} {G : α → Prop} {a : α} (h : o = some a) (hG : G a) : T (fun _ => o) G := ⟨a, hG, 0, fun _ _ => h⟩
theorem short_some (a b : Int) (c d : ByteArray) (e : Int) : ∃ r, newsreelref14_Short.f a c d b e = some r := by
  unfold newsreelref14_Short.f
  split
  · exact ⟨_, rfl⟩
  · exact ⟨_, rfl⟩
theorem shortEp_some (x : E) : ∃ r, newsreelref14_ShortEp.f x.f0 x.f1 x.f2 x.f3 x.f4 x.f5 x.f6 x.f7 x.f8 x.f9 x.f10 x.f11 x.f12 x.f13 x.f14 x.f15 x.f16 x.f17 x.f18 x.f19 = some r := by
  unfold newsreelref14_ShortEp.f
  repeat' split
  all_goals exact ⟨_, rfl⟩
theorem light_l1 (a b c d : Int) (l4 : List S43) (l : List E) (hl : l.length ≤ 34) : ∀ (n i : Nat), i + n = l.length → T (fun k => newsreelref15_Light.l1 k (i : Int) a b c d l4 l) (fun _ => True) := by
  intro n
  induction n with
  | zero =>
    intro i hi
    exact T.succ (fun k => by rw [newsreelref15_Light.l1]) (T.no (by omega) (T.ret trivial))
  | succ n ih =>
    intro i hi
    refine T.succ (fun k => by rw [newsreelref15_Light.l1]) ?_
    rw [w64 (n := (i : Int) + 1)]
    obtain ⟨r, hr⟩ := shortEp_some (rd_T29 l (i : Int))
    refine T.yes (by omega) (T.yes (by omega) (T.bind (f := fun _ => newsreelref14_ShortEp.f _ _ _ _ _ _ _ _ _ _ _ _ _ _ _ _ _ _ _ _) (T.now hr (G := fun _ => True) trivial) (fun t _ => T.ite (fun _ => ?_) (fun _ => T.ret trivial))))
    have := ih (i + 1) (by omega)
    rw [show ((i + 1 : Nat) : Int) = (i : Int) + 1 by omega] at this
    exact this
theorem light_l0 (a b c d : Int) (l4 : List S43) (l : List E) (h4 : l4.length ≤ 6) (hl : l.length ≤ 34) : ∀ (n i : Nat), i + n = l4.length → T (fun k => newsreelref15_Light.l0 k (i : Int) a b c d l4 l) (fun _ => True) := by
  intro n
  induction n with
  | zero =>
    intro i hi
    refine T.succ (fun k => by rw [newsreelref15_Light.l0]) ?_
    have := light_l1 a b c d l4 l hl l.length 0 (by omega)
    refine T.no (by omega) ?_
    exact this
  | succ n ih =>
    intro i hi
    refine T.succ (fun k => by rw [newsreelref15_Light.l0]) ?_
    rw [w64 (n := (i : Int) + 1)]
    obtain ⟨r, hr⟩ := short_some (rd_T43 l4 (i : Int)).f0 (rd_T43 l4 (i : Int)).f3 (rd_T43 l4 (i : Int)).f1 (rd_T43 l4 (i : Int)).f2 (rd_T43 l4 (i : Int)).f4
    obtain ⟨r, hr⟩ : ∃ r, newsreelref14_Short.f (rd_T43 l4 (i : Int)).f0 (rd_T43 l4 (i : Int)).f1 (rd_T43 l4 (i : Int)).f2 (rd_T43 l4 (i : Int)).f3 (rd_T43 l4 (i : Int)).f4 = some r := short_some _ _ _ _ _
    refine T.yes (by omega) (T.yes (by omega) (T.bind (f := fun _ => newsreelref14_Short.f _ _ _ _ _) (T.now hr (G := fun _ => True) trivial) (fun t _ => T.ite (fun _ => ?_) (fun _ => T.ret trivial))))
    have := ih (i + 1) (by omega)
    rw [show ((i + 1 : Nat) : Int) = (i : Int) + 1 by omega] at this
    exact this
theorem light_law (a b c d : Int) (l4 : List S43) (l : List E) : T (fun k => newsreelref15_Light.f k a b c d l4 l) (fun r => r = true → l.length ≤ 34) := by
  unfold newsreelref15_Light.f
  refine T.ite (fun c => ?_) (fun c => ?_)
  · exact T.succ (fun k => by rw [newsreelref15_Light.j0]) (T.yes rfl (T.ret (by simp)))
  · refine T.succ (fun k => by rw [newsreelref15_Light.j0]) (T.ite (fun _ => T.ret (by simp)) (fun c1 => ?_))
    have h5 : l.length ≤ 34 := by simp at c1; omega
    exact T.mono (light_l0 _ _ _ _ l4 l (by omega) h5 l4.length 0 (by omega)) (fun _ _ _ => h5)
theorem once_l0 (a b c d : Int) (l4 : List S43) (l : List E) (hl : l.length ≤ 34) : ∀ (n i : Nat), i + n = l.length → ((l.take i).map (·.f0)).Nodup →
    T (fun k => newsreelref41_Once.l0 k (i : Int) a b c d l4 l) (fun r => r = true → (l.map (·.f0)).Nodup) := by
  intro n
  induction n with
  | zero =>
    intro i hi hd
    refine T.succ (fun k => by rw [newsreelref41_Once.l0]) (T.no (by omega) (T.ret (fun _ => ?_)))
    rw [List.take_of_length_le (by omega)] at hd
    exact hd
  | succ n ih =>
    intro i hi hd
    refine T.succ (fun k => by rw [newsreelref41_Once.l0]) (T.yes (by omega) ?_)
    have inner : ∀ (m j : Nat), j + m = i → (∀ q, q < j → (g l q).f0 ≠ (g l i).f0) → T (fun k => newsreelref41_Once.l1 k (i : Int) (j : Int) a b c d l4 l) (fun r => r = true → (l.map (·.f0)).Nodup) := by
      intro m
      induction m with
      | zero =>
        intro j hj hq
        refine T.succ (fun k => by rw [newsreelref41_Once.l1]) (T.no (by omega) ?_)
        rw [w64 (n := (i : Int) + 1)]
        have := ih (i + 1) (by omega) (by
          rw [List.take_succ_eq_append_getElem (show i < l.length by omega), List.map_append, List.nodup_append]
          refine ⟨hd, by simp, fun x hx y hy => ?_⟩
          obtain ⟨z, hz, rfl⟩ := List.mem_map.mp hx
          obtain ⟨p, hp, rfl⟩ := List.mem_iff_getElem.mp hz
          rw [List.length_take] at hp
          simp only [List.map_cons, List.map_nil, List.mem_singleton] at hy
          rw [hy, List.getElem_take]
          have := hq p (by omega)
          rw [g_in (show p < l.length by omega), g_in (show i < l.length by omega)] at this
          exact this)
        rw [show ((i + 1 : Nat) : Int) = (i : Int) + 1 by omega] at this
        exact this
      | succ m ihm =>
        intro j hj hq
        refine T.succ (fun k => by rw [newsreelref41_Once.l1]) ?_
        rw [w64 (n := (j : Int) + 1), rd_g l j rfl, rd_g l i rfl]
        refine T.yes (by omega) (T.yes (by omega) (T.yes (by omega) (T.yes (by omega) (T.yes (by omega) (T.ite (fun _ => T.ret (by simp)) (fun c => ?_))))))
        have := ihm (j + 1) (by omega) (fun q hqq => by
          rcases Nat.lt_or_ge q j with h | h
          · exact hq q h
          · obtain rfl : q = j := by omega
            exact c)
        rw [show ((j + 1 : Nat) : Int) = (j : Int) + 1 by omega] at this
        exact this
    exact inner i 0 (by omega) (fun q hq => by omega)
theorem once_law (a b c d : Int) (l4 : List S43) (l : List E) (hl : l.length ≤ 34) : T (fun k => newsreelref41_Once.f k a b c d l4 l) (fun r => r = true → (l.map (·.f0)).Nodup) :=
  once_l0 a b c d l4 l hl l.length 0 (by omega) (by simp)
theorem strict {S : List E} (h : S.Pairwise le) (hd : (S.map (·.f0)).Nodup) : S.Pairwise lt := by
  induction S with
  | nil => exact List.Pairwise.nil
  | cons x S ih =>
    rw [List.map_cons, List.nodup_cons] at hd
    rw [List.pairwise_cons] at h ⊢
    refine ⟨fun y hy => ?_, ih h.2 hd.2⟩
    have h1 := h.1 y hy
    have h2 : x.f0 ≠ y.f0 := fun e => hd.1 (List.mem_map.mpr ⟨y, hy, e.symm⟩)
    unfold le lt at *
    omega
theorem cand_strict {feed : Int} {l S : List E} (hp : S.Perm (cand feed l)) (hs : S.Pairwise le) (hd : (l.map (·.f0)).Nodup) : S.Pairwise lt := by
  refine strict hs ?_
  rw [(hp.map (·.f0)).nodup_iff]
  exact hd.sublist (List.Sublist.map _ List.filter_sublist)
theorem awake_law : T (fun k => newsreellaw41_awake.f k) (fun r => r = true) :=
  have h1 : newsreellaw41_awake.f 1000 = some true := by kernel_rfl
  ⟨true, rfl, 1000, fun k hk => at_rounds newsreellaw41_awake.mono hk h1⟩
abbrev Tup := Int × Int × ByteArray × ByteArray × ByteArray × Int × Int × Int × Int × Bool × Int × Int × Int × ByteArray × Int × Int × ByteArray × Int × Int × ByteArray × Bool
def tup : Option E → Tup
  | some x => (x.f0, x.f1, x.f2, x.f3, x.f4, x.f5, x.f6, x.f7, x.f8, x.f9, x.f10, x.f11, x.f12, x.f13, x.f14, x.f15, x.f16, x.f17, x.f18, x.f19, true)
  | none => (0, 0, (⟨#[]⟩ : ByteArray), (⟨#[]⟩ : ByteArray), (⟨#[]⟩ : ByteArray), 0, 0, 0, 0, false, 0, 0, 0, (⟨#[]⟩ : ByteArray), 0, 0, (⟨#[]⟩ : ByteArray), 0, 0, (⟨#[]⟩ : ByteArray), false)
theorem ep_l0 (id a b c d : Int) (l4 : List S43) (l : List E) (hl : l.length ≤ 34) : ∀ (R P : List E), l = P ++ R → T (fun k => newsreelref15_Ep.l0 k id (P.length : Int) a b c d l4 l) (fun t => t = tup (R.find? (fun x => x.f0 == id))) := by
  intro R
  induction R with
  | nil =>
    intro P hP
    have hP' : P = l := by rw [hP]; simp
    subst hP'
    refine T.succ (fun k => by rw [newsreelref15_Ep.l0]) ?_
    refine T.no (by omega) ?_
    refine T.ret ?_
    rfl
  | cons x R ih =>
    intro P hP
    have hlen : l.length = P.length + R.length + 1 := by rw [hP]; simp; omega
    have ih' := ih (P ++ [x]) (by rw [hP]; simp)
    rw [show (((P ++ [x]).length : Nat) : Int) = (P.length : Int) + 1 by simp] at ih'
    refine T.succ (fun k => by rw [newsreelref15_Ep.l0]) ?_
    rw [show rd_T29 l (P.length : Int) = x by rw [hP]; exact rd_mid P R x rfl, w64 (n := (P.length : Int) + 1)]
    refine T.yes (by omega) (T.yes (by omega) (T.ite (fun c => T.ret ?_) (fun c => ?_)))
    · rw [List.find?_cons_of_pos (by simp [c])]; rfl
    · rw [List.find?_cons_of_neg (by simp [c])]; exact ih'
theorem ep_law (id a b c d : Int) (l4 : List S43) (l : List E) (hl : l.length ≤ 34) : T (fun k => newsreelref15_Ep.f k a b c d l4 l id) (fun t => t = tup (l.find? (fun x => x.f0 == id))) := ep_l0 id a b c d l4 l hl l [] rfl
end Go.Proofs.Ytcpojadlnpnbaaa.XRet
