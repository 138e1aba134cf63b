/- Which episodes are removed, and by which changes, is what the reference says: for every state and feed. -/
import Derived.Test.YtcpojadlnpnbaaaXRetTellRetainTells
import Derived.Test.YtcpojadlnpnbaaaXRetBase
namespace Go.Proofs.Ytcpojadlnpnbaaa.XRet
open Go.RowKit Go.Proofs.YtcpojadlnpnbaaaW.PrintWords Go.Proofs.YtcpojadlnpnbaaaW.PrintLast Go.Proofs.YtcpojadlnpnbaaaW.PrintMore
set_option linter.unusedVariables false
set_option linter.unusedSimpArgs false

theorem ints_l0 (a : List Int) (ha : a.length ≤ 1000) : ∀ (n i : Nat), i + n = a.length → T (fun k => newsreelref21_Ints.l0 k a a (i : Int)) (fun r => r = true) := by
  intro n
  induction n with
  | zero =>
    intro i hi
    exact T.succ (fun k => by rw [newsreelref21_Ints.l0]) (T.no (by omega) (T.ret rfl))
  | succ n ih =>
    intro i hi
    refine T.succ (fun k => by rw [newsreelref21_Ints.l0]) ?_
    rw [w64 (n := (i : Int) + 1)]
    refine T.yes (by omega) (T.yes (by omega) (T.yes (by omega) (T.yes rfl ?_)))
    have := ih (i + 1) (by omega)
    rw [show ((i + 1 : Nat) : Int) = (i : Int) + 1 by omega] at this
    exact this
theorem ints_law (a : List Int) (ha : a.length ≤ 1000) : T (fun k => newsreelref21_Ints.f k a a) (fun r => r = true) := by
  unfold newsreelref21_Ints.f
  exact T.yes rfl (ints_l0 a ha a.length 0 (by omega))
theorem eqS_refl (x : S46) : eqS46 x x = true := by
  unfold eqS46
  simp
theorem changes_l0 (a : List S46) (ha : a.length ≤ 1000) : ∀ (n i : Nat), i + n = a.length → T (fun k => newsreelref15_Changes.l0 k a a (i : Int)) (fun r => r = true) := by
  intro n
  induction n with
  | zero =>
    intro i hi
    exact T.succ (fun k => by rw [newsreelref15_Changes.l0]) (T.no (by omega) (T.ret rfl))
  | succ n ih =>
    intro i hi
    refine T.succ (fun k => by rw [newsreelref15_Changes.l0]) ?_
    rw [w64 (n := (i : Int) + 1), eqS_refl]
    refine T.yes (by omega) (T.yes (by omega) (T.yes (by omega) (T.no (by decide) ?_)))
    have := ih (i + 1) (by omega)
    rw [show ((i + 1 : Nat) : Int) = (i : Int) + 1 by omega] at this
    exact this
theorem changes_law (a : List S46) (ha : a.length ≤ 1000) : T (fun k => newsreelref15_Changes.f k a a) (fun r => r = true) := by
  unfold newsreelref15_Changes.f
  exact T.yes rfl (changes_l0 a ha a.length 0 (by omega))
def chg (t : Tup) : S46 := ⟨3, ⟨0, (⟨#[]⟩ : ByteArray), (⟨#[]⟩ : ByteArray), 0, 0⟩, ⟨t.1, t.2.1, t.2.2.1, t.2.2.2.1, t.2.2.2.2.1, t.2.2.2.2.2.1, t.2.2.2.2.2.2.1, 5, 0, t.2.2.2.2.2.2.2.2.2.1, t.2.2.2.2.2.2.2.2.2.2.1, 0, 0, (⟨#[]⟩ : ByteArray), 0, t.2.2.2.2.2.2.2.2.2.2.2.2.2.2.2.1, (⟨#[]⟩ : ByteArray), (-1), 0, (⟨#[]⟩ : ByteArray)⟩, 0, 0⟩
theorem apply_l0 (a b c d : Int) (l4 : List S43) (l : List E) (ids : List Int) (hi : ids.length ≤ 1000) : ∀ (n i : Nat) (acc : List S46), i + n = ids.length → acc.length ≤ i →
    T (fun k => retain_Apply.l0 k acc ids (ids.length : Int) (i : Int) a b c d l4 l) (fun r => r = acc ++ (ids.drop i).map (fun id => chg (tup (l.find? (fun x => x.f0 == id))))) := by
  intro n
  induction n with
  | zero =>
    intro i acc h ha
    exact T.succ (fun k => by rw [retain_Apply.l0]) (T.no (by omega) (T.ret (by rw [List.drop_of_length_le (by omega)]; simp)))
  | succ n ih =>
    intro i acc h ha
    refine T.succ (fun k => by rw [retain_Apply.l0]) ?_
    rw [w64 (n := (i : Int) + 1), rdi (l := ids) (i := i) (by omega)]
    refine T.yes (by omega) (T.yes (by omega) (T.yes (by omega) ?_))
    refine T.bind (f := fun _ => change_Find.f a b c d l4 l _) (F := fun t => t = tup (l.find? (fun x => x.f0 == ids[i]))) (T.now rfl (by unfold tup; rfl)) (fun t ht => ?_)
    refine T.bind (f := fun _ => retain_Gone.f _ _ _ _ _ _ _ _ _ _ _ _ _ _ _ _ _ _ _ _) (F := fun u => some u = retain_Gone.f t.1 t.2.1 t.2.2.1 t.2.2.2.1 t.2.2.2.2.1 t.2.2.2.2.2.1 t.2.2.2.2.2.2.1 t.2.2.2.2.2.2.2.1 t.2.2.2.2.2.2.2.2.1 t.2.2.2.2.2.2.2.2.2.1 t.2.2.2.2.2.2.2.2.2.2.1 t.2.2.2.2.2.2.2.2.2.2.2.1 t.2.2.2.2.2.2.2.2.2.2.2.2.1 t.2.2.2.2.2.2.2.2.2.2.2.2.2.1 t.2.2.2.2.2.2.2.2.2.2.2.2.2.2.1 t.2.2.2.2.2.2.2.2.2.2.2.2.2.2.2.1 t.2.2.2.2.2.2.2.2.2.2.2.2.2.2.2.2.1 t.2.2.2.2.2.2.2.2.2.2.2.2.2.2.2.2.2.1 t.2.2.2.2.2.2.2.2.2.2.2.2.2.2.2.2.2.2.1 t.2.2.2.2.2.2.2.2.2.2.2.2.2.2.2.2.2.2.2.1) (T.now rfl rfl) (fun u hu => T.yes (by omega) ?_)
    obtain rfl := Option.some.inj hu
    have := ih (i + 1) (acc ++ [chg t]) (by omega) (by simp; omega)
    rw [show ((i + 1 : Nat) : Int) = (i : Int) + 1 by omega] at this
    refine T.mono (show T (fun k => retain_Apply.l0 k (acc ++ [chg t]) ids (ids.length : Int) ((i : Int) + 1) a b c d l4 l) _ from this) (fun r hr => ?_)
    rw [hr, ht, List.drop_eq_getElem_cons (show i < ids.length by omega), List.map_cons, List.append_assoc]
    rfl
theorem rapply_l0 (a b c d : Int) (l4 : List S43) (l : List E) (hl : l.length ≤ 34) (ids : List Int) (hi : ids.length ≤ 1000) : ∀ (n i : Nat) (acc : List S46), i + n = ids.length → acc.length ≤ i →
    T (fun k => newsreelref41_Apply.l0 k ids acc (i : Int) a b c d l4 l) (fun r => r = acc ++ (ids.drop i).map (fun id => chg (tup (l.find? (fun x => x.f0 == id))))) := by
  intro n
  induction n with
  | zero =>
    intro i acc h ha
    exact T.succ (fun k => by rw [newsreelref41_Apply.l0]) (T.no (by omega) (T.ret (by rw [List.drop_of_length_le (by omega)]; simp)))
  | succ n ih =>
    intro i acc h ha
    refine T.succ (fun k => by rw [newsreelref41_Apply.l0]) ?_
    rw [w64 (n := (i : Int) + 1), rdi (l := ids) (i := i) (by omega)]
    refine T.yes (by omega) (T.yes (by omega) ?_)
    refine T.bind (ep_law ids[i] a b c d l4 l hl) (fun t ht => ?_)
    refine T.bind (f := fun _ => newsreelref41_Gone.f _ _ _ _ _ _ _ _ _ _ _ _ _ _ _ _ _ _ _ _) (F := fun u => some u = newsreelref41_Gone.f t.1 t.2.1 t.2.2.1 t.2.2.2.1 t.2.2.2.2.1 t.2.2.2.2.2.1 t.2.2.2.2.2.2.1 t.2.2.2.2.2.2.2.1 t.2.2.2.2.2.2.2.2.1 t.2.2.2.2.2.2.2.2.2.1 t.2.2.2.2.2.2.2.2.2.2.1 t.2.2.2.2.2.2.2.2.2.2.2.1 t.2.2.2.2.2.2.2.2.2.2.2.2.1 t.2.2.2.2.2.2.2.2.2.2.2.2.2.1 t.2.2.2.2.2.2.2.2.2.2.2.2.2.2.1 t.2.2.2.2.2.2.2.2.2.2.2.2.2.2.2.1 t.2.2.2.2.2.2.2.2.2.2.2.2.2.2.2.2.1 t.2.2.2.2.2.2.2.2.2.2.2.2.2.2.2.2.2.1 t.2.2.2.2.2.2.2.2.2.2.2.2.2.2.2.2.2.2.1 t.2.2.2.2.2.2.2.2.2.2.2.2.2.2.2.2.2.2.2.1) (T.now rfl rfl) (fun u hu => T.yes (by omega) ?_)
    obtain rfl := Option.some.inj hu
    have := ih (i + 1) (acc ++ [chg t]) (by omega) (by simp; omega)
    rw [show ((i + 1 : Nat) : Int) = (i : Int) + 1 by omega] at this
    refine T.mono (show T (fun k => newsreelref41_Apply.l0 k ids (acc ++ [chg t]) ((i : Int) + 1) a b c d l4 l) _ from this) (fun r hr => ?_)
    rw [hr, ht, List.drop_eq_getElem_cons (show i < ids.length by omega), List.map_cons, List.append_assoc]
    rfl
theorem gone_l0 (feed keep q nf ne : Int) (l4 : List S43) (l : List E) (hl : l.length ≤ 34) (hkeep : keep ≤ 9223372036854775807) (hd : (l.map (·.f0)).Nodup) : ∀ (n i : Nat), i + n = l.length →
    T (fun k => newsreellaw41_RetainTells.l0 k feed (i : Int) keep q nf ne l4 l) (fun r => r = true) := by
  intro n
  induction n with
  | zero =>
    intro i hi
    refine T.succ (fun k => by rw [newsreellaw41_RetainTells.l0]) (T.no (by omega) ?_)
    obtain ⟨S, h1, h2, h3, h4⟩ := over_both feed keep q nf ne hkeep l4 l hl hd
    have hS := h1.length_eq
    have hc := cand_le feed l
    generalize hids : (S.take ((npub feed l : Int) - mx 0 keep).toNat).map (·.f0) = ids at h3 h4
    have hil : ids.length ≤ 1000 := by rw [← hids]; simp; omega
    refine T.bind h3 (fun r hr => ?_)
    subst hr
    refine T.bind h4 (fun r hr => ?_)
    subst hr
    refine T.bind (ints_law r hil) (fun b hb => T.yes hb ?_)
    have ap : T (fun k => retain_Apply.f k keep q nf ne l4 l feed) (fun z => z = r.map (fun id => chg (tup (l.find? (fun x => x.f0 == id))))) := by
      refine T.bind h3 (fun r' hr' => ?_)
      subst hr'
      have := apply_l0 keep q nf ne l4 l r' hil r'.length 0 [] (by omega) (by simp)
      simpa using this
    have rp : T (fun k => newsreelref41_Apply.f k keep q nf ne l4 l feed) (fun z => z = r.map (fun id => chg (tup (l.find? (fun x => x.f0 == id))))) := by
      refine T.bind h4 (fun r' hr' => ?_)
      subst hr'
      have := rapply_l0 keep q nf ne l4 l hl r' hil r'.length 0 [] (by omega) (by simp)
      simpa using this
    refine T.bind ap (fun z hz => ?_)
    subst hz
    refine T.bind rp (fun z hz => ?_)
    subst hz
    refine T.bind (changes_law _ (by simpa using hil)) (fun b hb => T.yes hb ?_)
    exact T.bind awake_law (fun b hb => T.ret hb)
  | succ n ih =>
    intro i hi
    refine T.succ (fun k => by rw [newsreellaw41_RetainTells.l0]) ?_
    rw [w64 (n := (i : Int) + 1)]
    refine T.yes (by omega) (T.yes (by omega) ?_)
    generalize rd_T29 l (i : Int) = x
    refine T.bind (f := fun _ => retain_Gone.f _ _ _ _ _ _ _ _ _ _ _ _ _ _ _ _ _ _ _ _) (F := fun u => some u = retain_Gone.f x.f0 x.f1 x.f2 x.f3 x.f4 x.f5 x.f6 x.f7 x.f8 x.f9 x.f10 x.f11 x.f12 x.f13 x.f14 x.f15 x.f16 x.f17 x.f18 x.f19) (T.now rfl rfl) (fun u hu => ?_)
    refine T.bind (f := fun _ => newsreelref41_Gone.f _ _ _ _ _ _ _ _ _ _ _ _ _ _ _ _ _ _ _ _) (F := fun v => some v = newsreelref41_Gone.f x.f0 x.f1 x.f2 x.f3 x.f4 x.f5 x.f6 x.f7 x.f8 x.f9 x.f10 x.f11 x.f12 x.f13 x.f14 x.f15 x.f16 x.f17 x.f18 x.f19) (T.now rfl rfl) (fun v hv => ?_)
    obtain rfl : u = v := by rw [← Option.some.injEq, hu, hv]; rfl
    refine T.no (by simp) ?_
    have := ih (i + 1) (by omega)
    rw [show ((i + 1 : Nat) : Int) = (i : Int) + 1 by omega] at this
    exact this
theorem RetainTells_pure : newsreellaw41_RetainTells.Pure := by
  intro y0 y1 hg _
  obtain ⟨a, b, c, d, l4, l⟩ := y0
  have hkeep : a ≤ 9223372036854775807 := by
    have h1 : (decide (IntKind.min .i64 ≤ a) && decide (a ≤ IntKind.max .i64)) = true := hg.1
    rw [Bool.and_eq_true] at h1
    have h2 : a ≤ IntKind.max .i64 := of_decide_eq_true h1.2
    exact h2
  have h : T (fun k => newsreellaw41_RetainTells.f k a b c d l4 l y1) (fun r => r = true) := by
    refine T.bind (light_law a b c d l4 l) (fun t ht => ?_)
    have no : ∀ fl : Bool, fl = true → T (fun k => newsreellaw41_RetainTells.j0 k y1 fl a b c d l4 l) (fun r => r = true) := fun fl hf => by
      subst hf
      exact T.succ (fun k => by rw [newsreellaw41_RetainTells.j0]) (T.yes rfl (T.bind awake_law (fun b hb => T.ret hb)))
    refine T.ite (fun c1 => ?_) (fun c1 => no _ rfl)
    have hl := ht c1
    refine T.bind (once_law a b c d l4 l hl) (fun o ho => ?_)
    by_cases co : o = true
    · rw [co]
      refine T.succ (fun k => by rw [newsreellaw41_RetainTells.j0]) (T.no (by decide) ?_)
      exact gone_l0 y1 a b c d l4 l hl hkeep (ho co) l.length 0 (by omega)
    · exact no _ (by simpa using co)
  obtain ⟨r, hr, K, hK⟩ := h
  subst hr
  exact ⟨K, hK K (Nat.le_refl _)⟩
end Go.Proofs.Ytcpojadlnpnbaaa.XRet
