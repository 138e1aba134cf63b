/- Directories answer as the document says: which may be, which node any name has, anything done, made sure, behind a crash: for every directory, deed and crash. -/
import Derived.Test.YtkkikdjfigffhabXDirTellDirTells
import Derived.Test.YtkkikdjfigffhabXDirBase2
namespace Go.Proofs.Ytkkikdjfigffhab.XDir
open Go.RowKit Go.Proofs.YtkkikdjfigffhabW.PrintWords Go.Proofs.YtkkikdjfigffhabW.PrintLast Go.Proofs.YtkkikdjfigffhabW.PrintMore

theorem rcrash (k : Nat) (now sure : List S77) (pend : List S69) (n : Int) (hsu : sure.length ≤ 900) (hp : pend.length ≤ 900) (M : Nat) (hM : Named M sure) (hF : ∀ op ∈ pend, Fit M op) (hk : M + 7000 < k) : newsreelref10_Crash.f k now sure pend n = some (specCrash now sure pend n) := by
  unfold newsreelref10_Crash.f specCrash
  rw [rright k now sure pend (by omega) (by omega) M hM hF (by omega), Option.bind_some]
  by_cases c : specRight now sure pend = true
  · obtain ⟨hs, hl, _, _, _⟩ := right_spec c
    have hall := fun m : Nat => rall k sure (pend.take m) (by rw [List.length_take]; omega) M (fun op ho => hF op (List.mem_of_mem_take ho)) (by omega) hs hl
    rw [if_pos c, if_pos c]
    by_cases c1 : n < 0
    · rw [if_pos c1, if_neg (by omega), if_pos (by omega), hall, show n.toNat = 0 by omega]
      rfl
    · rw [if_neg c1]
      by_cases c2 : n > (pend.length : Int)
      · rw [if_pos c2, if_pos (by omega), if_pos (by omega), hall, Int.toNat_natCast, List.take_length, List.take_of_length_le (show pend.length ≤ n.toNat by omega)]
        rfl
      · rw [if_neg c2, if_pos (by omega), if_pos (by omega), hall]
        rfl
  · rw [if_neg c, if_neg c]
theorem same_loop (n s : List S77) (p : List S69) (hn : n.length ≤ 1000) (hs : s.length ≤ 1000) (hp : p.length ≤ 1000) : ∀ (d k i : Nat), i + d = p.length → d + 2000 < k → newsreelref10_Same.l0 k (i : Int) n s p n s p = some true := by
  intro d
  induction d with
  | zero =>
    intro k i hi hk
    obtain ⟨k, rfl⟩ : ∃ m, k = m + 1 := ⟨k - 1, by omega⟩
    simp only [newsreelref10_Same.l0]
    rw [if_neg (by omega), req k n n hn (by omega), Option.bind_some, eqL_refl, if_pos rfl, req k s s hs (by omega), eqL_refl]
    rfl
  | succ d ih =>
    intro k i hi hk
    obtain ⟨k, rfl⟩ : ∃ m, k = m + 1 := ⟨k - 1, by omega⟩
    simp only [newsreelref10_Same.l0]
    rw [if_pos (show (i : Int) < (p.length : Int) by omega), if_pos (show 0 ≤ (i : Int) by omega), if_pos (show (i : Int) < (p.length : Int) by omega), inc (by omega), ih k (i + 1) (by omega) (by omega)]
    rw [if_neg (by simp)]
theorem same_refl (k : Nat) (n s : List S77) (p : List S69) (hn : n.length ≤ 1000) (hs : s.length ≤ 1000) (hp : p.length ≤ 1000) (hk : 4000 < k) : newsreelref10_Same.f k n s p n s p = some true := by
  unfold newsreelref10_Same.f
  rw [if_pos rfl]
  exact same_loop n s p hn hs hp p.length k 0 (by omega) (by omega)
theorem few_loop (now sure : List S77) (pend : List S69) (hl : sure.length ≤ 1000) : ∀ (d k i : Nat), i + d = sure.length → d < k → ∃ t, newsreelref10_Few.l0 k (i : Int) now sure pend = some t := by
  intro d
  induction d with
  | zero =>
    intro k i hi hk
    obtain ⟨k, rfl⟩ : ∃ m, k = m + 1 := ⟨k - 1, by omega⟩
    refine ⟨true, ?_⟩
    simp only [newsreelref10_Few.l0]
    rw [if_neg (by omega)]
  | succ d ih =>
    intro k i hi hk
    obtain ⟨k, rfl⟩ : ∃ m, k = m + 1 := ⟨k - 1, by omega⟩
    have hlt : i < sure.length := by omega
    simp only [newsreelref10_Few.l0]
    rw [if_pos (show (i : Int) < (sure.length : Int) by omega), if_pos (show 0 ≤ (i : Int) by omega), inc (by omega)]
    by_cases c : ((rd_T77 sure (i : Int)).f0.size : Int) > 100
    · exact ⟨false, by rw [if_pos c]⟩
    · rw [if_neg c]
      exact ih k (i + 1) (by omega) (by omega)
theorem few_law (k : Nat) (now sure : List S77) (pend : List S69) (hk : 2000 < k) : ∃ t, newsreelref10_Few.f k now sure pend = some t ∧ (t = true → now.length ≤ 110 ∧ sure.length ≤ 110 ∧ pend.length ≤ 40) := by
  obtain ⟨k, rfl⟩ : ∃ m, k = m + 1 := ⟨k - 1, by omega⟩
  have hj : newsreelref10_Few.j0 (k + 1) true now sure pend = some false := by
    simp only [newsreelref10_Few.j0]
    rw [if_pos trivial]
  unfold newsreelref10_Few.f
  by_cases c1 : (now.length : Int) > 110
  · exact ⟨false, by rw [if_pos c1, hj], fun h => by cases h⟩
  · rw [if_neg c1]
    by_cases c2 : (sure.length : Int) > 110
    · exact ⟨false, by rw [if_pos c2, hj], fun h => by cases h⟩
    · rw [if_neg c2]
      by_cases c3 : (pend.length : Int) > 40
      · exact ⟨false, by rw [decide_eq_true c3, hj], fun h => by cases h⟩
      · rw [decide_eq_false c3]
        obtain ⟨t, ht⟩ := few_loop now sure pend (by omega) sure.length k 0 (by omega) (by omega)
        refine ⟨t, ?_, fun _ => ⟨by omega, by omega, by omega⟩⟩
        simp only [newsreelref10_Few.j0]
        rw [if_neg Bool.false_ne_true]
        exact ht
theorem DirTells_pure : newsreellaw10_DirTells.Pure := by
  intro y0 y1 n h0 h1 _
  obtain ⟨now, sure, pend⟩ := y0
  obtain ⟨⟨_, _⟩, ⟨_, hsure⟩, ⟨_, hpend⟩⟩ := h0
  obtain ⟨M1, hM1⟩ := exists_bound (fun x : S77 => x.f0.size) sure
  obtain ⟨M2, hM2⟩ := exists_bound (fun x : S69 => x.f1.size + x.f2.size + 10) pend
  obtain ⟨M, hM⟩ : ∃ M, M = M1 + M2 + y1.f1.size + y1.f2.size + 20 := ⟨_, rfl⟩
  have hN : Named M sure := fun x hx => ⟨(hsure x hx).1, by have := hM1 x hx; omega⟩
  have hF : ∀ op ∈ pend, Fit M op := fun op ho => ⟨⟨(hpend op ho).2.1, (hpend op ho).2.2.1⟩, by have := hM2 op ho; omega, by have := hM2 op ho; omega⟩
  have hO : Fit M y1 := ⟨⟨h1.2.1, h1.2.2.1⟩, by omega, by omega⟩
  clear hM hM1 hM2
  obtain ⟨K, hK⟩ : ∃ K : Nat, K = M + 9000 := ⟨_, rfl⟩
  refine ⟨K + 2, ?_⟩
  show newsreellaw10_DirTells.f (K + 2) now sure pend y1.f0 y1.f1 y1.f2 y1.f3 n = some true
  unfold newsreellaw10_DirTells.f
  obtain ⟨t, ht, hl⟩ := few_law (K + 2) now sure pend (by omega)
  rw [ht, Option.bind_some]
  have hj0 : newsreellaw10_DirTells.j0 (K + 2) n true now sure pend y1.f0 y1.f1 y1.f2 y1.f3 = some true := by
    simp only [newsreellaw10_DirTells.j0]
    rw [if_pos trivial, awake_true (by omega)]
    rfl
  cases t with
  | false => rw [if_neg Bool.false_ne_true, hj0]
  | true =>
    obtain ⟨hl0, hl1, hl2⟩ := hl rfl
    rw [if_pos rfl]
    have hj1 : newsreellaw10_DirTells.j0 (K + 2) n false now sure pend y1.f0 y1.f1 y1.f2 y1.f3 = some true := by
      simp only [newsreellaw10_DirTells.j0]
      rw [if_neg Bool.false_ne_true, ddo (K + 1) now sure pend y1 (by omega) (by omega) M hN hF hO (by omega), Option.bind_some, rdo (K + 1) now sure pend y1 (by omega) (by omega) M hN hF hO (by omega), Option.bind_some]
      have hd : (specDo now sure pend y1).1.length ≤ 900 ∧ (specDo now sure pend y1).2.1.length ≤ 900 ∧ (specDo now sure pend y1).2.2.1.length ≤ 900 := by
        unfold specDo
        by_cases c : specRight now sure pend = true
        · obtain ⟨_, _, _, hs, hl⟩ := right_spec c
          have hg := (done_good y1 hs hl).2
          rw [if_pos c]
          split
          · refine ⟨by dsimp only; omega, by dsimp only; omega, ?_⟩
            dsimp only
            rw [List.length_append, List.length_singleton]
            omega
          · exact ⟨by simp, by simp, by simp⟩
        · rw [if_neg c]
          exact ⟨by simp, by simp, by simp⟩
      have hsy : (specSync now sure pend).1.length ≤ 900 ∧ (specSync now sure pend).2.1.length ≤ 900 ∧ (specSync now sure pend).2.2.length ≤ 900 := by
        unfold specSync
        split
        · exact ⟨by dsimp only; omega, by dsimp only; omega, by simp⟩
        · exact ⟨by simp, by simp, by simp⟩
      have hcr : (specCrash now sure pend n).1.length ≤ 900 ∧ (specCrash now sure pend n).2.1.length ≤ 900 ∧ (specCrash now sure pend n).2.2.length ≤ 900 := by
        unfold specCrash
        by_cases c : specRight now sure pend = true
        · obtain ⟨hs, hl, _, _, _⟩ := right_spec c
          have hg := (all_good (pend.take n.toNat) hs hl).2
          rw [if_pos c]
          exact ⟨by dsimp only; omega, by dsimp only; omega, by simp⟩
        · rw [if_neg c]
          exact ⟨by simp, by simp, by simp⟩
      generalize specDo now sure pend y1 = D at hd
      have hfin : newsreellaw10_DirTells.j1 (K + 1) n D.2.2.2 D.2.2.2 false now sure pend y1.f0 y1.f1 y1.f2 y1.f3 D.1 D.2.1 D.2.2.1 D.1 D.2.1 D.2.2.1 = some true := by
        simp only [newsreellaw10_DirTells.j1]
        rw [if_neg Bool.false_ne_true, dname K y1.f1 hO.1.1 (by have := hO.2.1; omega), Option.bind_some, rname K y1.f1 hO.1.1 (by have := hO.2.1; omega), Option.bind_some, if_pos (by simp)]
        rw [dright K now sure pend (by omega) (by omega) M hN hF (by omega), Option.bind_some, rright K now sure pend (by omega) (by omega) M hN hF (by omega), Option.bind_some, if_pos (by simp)]
        rw [same_refl K _ _ _ (by omega) (by omega) (by omega) (by omega), Option.bind_some, if_pos rfl, if_pos trivial]
        rw [dsync K now sure pend (by omega) (by omega) M hN hF (by omega), Option.bind_some, rsync K now sure pend (by omega) (by omega) M hN hF (by omega), Option.bind_some]
        rw [same_refl K _ _ _ (by omega) (by omega) (by omega) (by omega), Option.bind_some, if_pos rfl]
        rw [dcrash K now sure pend n (by omega) (by omega) M hN hF (by omega), Option.bind_some, rcrash K now sure pend n (by omega) (by omega) M hN hF (by omega), Option.bind_some]
        rw [same_refl K _ _ _ (by omega) (by omega) (by omega) (by omega), Option.bind_some, if_pos rfl, awake_true (by omega)]
        rfl
      rw [ref_at (K + 1) now (by omega) (by omega)]
      rcases find_at_law now sure pend y1.f1 with ⟨e1, e2⟩ | ⟨j, hj, e1, e2⟩
      · rw [e1, e2, Option.bind_some, Option.bind_some]
        rw [if_neg (by decide), if_neg (by decide)]
        exact hfin
      · rw [e1, e2, Option.bind_some, Option.bind_some]
        rw [if_neg (by rw [decide_eq_true (by omega)]; simp), if_pos rfl, if_pos (by omega), if_pos (by omega), rdE hj, if_pos rfl]
        exact hfin
    by_cases c : (y1.f1.size : Int) > 100
    · rw [if_pos c, hj0]
    · rw [if_neg c]
      by_cases c2 : (y1.f2.size : Int) > 100
      · rw [decide_eq_true c2, hj0]
      · rw [decide_eq_false c2, hj1]
end Go.Proofs.Ytkkikdjfigffhab.XDir
