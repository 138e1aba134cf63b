/- What comes of any bytes by any bends is the document's; the bends that are left, their honesty and the beginning of honest ones are told right: the one pure statement of WireBends, for every input. -/
import Derived.Test.YtkkikdjfigffhaaXWirTellWireBends
namespace Go.Proofs.Ytkkikdjfigffhaa.XWir
open Go.RowKit Go.Proofs.YtkkikdjfigffhaaW.PrintWords Go.Proofs.YtkkikdjfigffhaaW.PrintLast Go.Proofs.YtkkikdjfigffhaaW.PrintMore

theorem wrap_succ {i : Nat} (h : i < 1000000) : wrap64 ((i : Int) + 1) = ((i + 1 : Nat) : Int) := by
  unfold wrap64; omega
theorem rd_at (l : List S29) (i : Nat) (h : i < l.length) : rd_T29 l (i : Int) = l[i] := by
  unfold rd_T29
  rw [Int.toNat_natCast, List.getD_eq_getElem?_getD, List.getElem?_eq_getElem h]
  rfl
def short (x : S29) : Bool := decide (x.f1.length ≤ 1500)
theorem few_loop (l : List S29) (hl : l.length ≤ 30) (d : Nat) : ∀ (k i : Nat), i + d = l.length → d < k → newsreelref36_Few.l0 k l (i : Int) = some ((l.drop i).all short) := by
  induction d with
  | zero =>
    intro k i hi hk
    obtain ⟨k, rfl⟩ : ∃ m, k = m + 1 := ⟨k - 1, by omega⟩
    simp only [newsreelref36_Few.l0]
    rw [if_neg (by omega), List.drop_of_length_le (by omega)]
    rfl
  | succ d ih =>
    intro k i hi hk
    obtain ⟨k, rfl⟩ : ∃ m, k = m + 1 := ⟨k - 1, by omega⟩
    have hlt : i < l.length := by omega
    simp only [newsreelref36_Few.l0]
    rw [if_pos (by omega), if_pos (by omega), rd_at l i hlt, List.drop_eq_getElem_cons hlt, List.all_cons]
    by_cases h : (l[i].f1.length : Int) > 1500
    · rw [if_pos h, show short l[i] = false from decide_eq_false (by omega)]
      rfl
    · rw [if_neg h, show short l[i] = true from decide_eq_true (by omega), wrap_succ (by omega), ih k (i + 1) (by omega) (by omega)]
      rfl
def fewB (l : List S29) : Bool := decide (l.length ≤ 30) && l.all short
theorem few_f (l : List S29) (k : Nat) (hk : 31 < k) : newsreelref36_Few.f k l = some (fewB l) := by
  unfold newsreelref36_Few.f fewB
  by_cases h : (l.length : Int) > 30
  · rw [if_pos h, decide_eq_false (by omega)]; rfl
  · rw [if_neg h, decide_eq_true (by omega)]
    exact few_loop l (by omega) l.length k 0 (by omega) (by omega)
def ofV (l : List Int) (a : Int) (raw : List Int) : List Int := if 0 < raw.length then raw else if 0 ≤ a ∧ a ≤ l.length then l.take a.toNat else l
theorem clone_f (l : List Int) (h : l.length ≤ 2000) : bytes_Clone.f l = some l := by
  unfold bytes_Clone.f
  rw [if_pos (by omega)]
theorem of_f (l : List Int) (a : Int) (raw : List Int) (hl : l.length ≤ 1000) (hr : raw.length ≤ 1500) : wire_Of.f l a raw = some (ofV l a raw) := by
  unfold wire_Of.f ofV
  by_cases h : (raw.length : Int) > 0
  · rw [if_pos h, if_pos (by omega), clone_f _ (by omega)]; rfl
  · rw [if_neg h, if_neg (show ¬ 0 < raw.length by omega)]
    by_cases ha : a ≥ 0
    · rw [if_pos ha]
      by_cases hb : a ≤ l.length
      · rw [if_pos (show 0 ≤ a ∧ a ≤ (l.length : Int) from ⟨ha, hb⟩)]
        have e : mn a (l.length : Int) = a := by unfold mn; rw [if_neg (by omega)]
        rw [e, if_pos (show 0 ≤ a from ha), if_pos hb, clone_f _ (by rw [List.length_take]; omega)]; rfl
      · rw [if_neg (show ¬ (0 ≤ a ∧ a ≤ (l.length : Int)) by omega)]
        have e : mn a (l.length : Int) = l.length := by unfold mn; rw [if_pos (by omega)]
        rw [e, if_pos (by omega), if_pos (Int.le_refl _), Int.toNat_natCast, List.take_length, clone_f _ (by omega)]; rfl
    · rw [if_neg ha, if_neg (show ¬ (0 ≤ a ∧ a ≤ (l.length : Int)) by omega), clone_f _ (by omega)]; rfl
theorem refof_f (l : List Int) (a : Int) (raw : List Int) : newsreelref36_Of.f l a raw = some (ofV l a raw) := by
  unfold newsreelref36_Of.f ofV
  by_cases h : (raw.length : Int) > 0
  · rw [if_pos h, if_pos (by omega)]
  · rw [if_neg h, if_neg (show ¬ 0 < raw.length by omega)]
    by_cases ha : a < 0
    · rw [if_pos ha, if_neg (show ¬ (0 ≤ a ∧ a ≤ (l.length : Int)) by omega)]
    · rw [if_neg ha]
      by_cases hb : a > (l.length : Int)
      · rw [if_pos hb, if_neg (show ¬ (0 ≤ a ∧ a ≤ (l.length : Int)) by omega)]
      · rw [if_neg hb, if_pos (show 0 ≤ a by omega), if_pos (show a ≤ (l.length : Int) by omega), if_pos (show 0 ≤ a ∧ a ≤ (l.length : Int) by omega)]
theorem next_loop (x0 : List Int) (x1 l : List S29) (h1 : 0 < x1.length) (v : List Int) (hv : wire_Of.f x0 (rd_T29 x1 0).f0 (rd_T29 x1 0).f1 = some v) (hl : l.length ≤ 30) (hs : ∀ x ∈ l, x.f1.length ≤ 1500) (d : Nat) :
    ∀ (k i : Nat) (acc : List S29), i + d = l.length → acc.length ≤ i → d < k → wire_Next.l0 k x0 x1 acc l (l.length : Int) (i : Int) = some (v, acc ++ l.drop i) := by
  induction d with
  | zero =>
    intro k i acc hi ha hk
    obtain ⟨k, rfl⟩ : ∃ m, k = m + 1 := ⟨k - 1, by omega⟩
    simp only [wire_Next.l0]
    rw [if_neg (by omega), if_pos (by omega), hv, List.drop_of_length_le (by omega), List.append_nil]
    rfl
  | succ d ih =>
    intro k i acc hi ha hk
    obtain ⟨k, rfl⟩ : ∃ m, k = m + 1 := ⟨k - 1, by omega⟩
    have hlt : i < l.length := by omega
    have hx := hs l[i] (List.getElem_mem hlt)
    simp only [wire_Next.l0]
    rw [if_pos (by omega), if_pos (by omega), if_pos (by omega), rd_at l i hlt, clone_f _ (by omega)]
    simp only [Option.bind_some]
    rw [if_pos (by omega), wrap_succ (by omega), ih k (i + 1) _ (by omega) (by simp; omega) (by omega), List.append_assoc, List.drop_eq_getElem_cons hlt]
    rfl
theorem next_f (x0 : List Int) (x : S29) (l : List S29) (h0 : x0.length ≤ 1000) (hx : x.f1.length ≤ 1500) (hl : l.length ≤ 30) (hs : ∀ x ∈ l, x.f1.length ≤ 1500) (k : Nat) (hk : 31 < k) :
    wire_Next.f k x0 (x :: l) = some (ofV x0 x.f0 x.f1, l) := by
  unfold wire_Next.f
  rw [if_neg (by simp; omega), if_pos (by simp; omega)]
  simp only [Option.bind_some, List.drop_succ_cons, List.drop_zero]
  exact (next_loop x0 (x :: l) l (by simp) (ofV x0 x.f0 x.f1) (of_f x0 x.f0 x.f1 h0 hx) hl hs l.length k 0 [] (by omega) (by simp) (by omega)).trans (by simp)
theorem same_loop (l : List S29) (hl : l.length ≤ 30) (d : Nat) : ∀ (k i : Nat), i + d = l.length → d < k → newsreelref36_Same.l0 k l l (i : Int) = some true := by
  induction d with
  | zero =>
    intro k i hi hk
    obtain ⟨k, rfl⟩ : ∃ m, k = m + 1 := ⟨k - 1, by omega⟩
    simp only [newsreelref36_Same.l0]
    rw [if_neg (by omega)]
  | succ d ih =>
    intro k i hi hk
    obtain ⟨k, rfl⟩ : ∃ m, k = m + 1 := ⟨k - 1, by omega⟩
    simp only [newsreelref36_Same.l0]
    rw [if_pos (by omega), if_pos (by omega), if_pos (by omega), if_true, if_true, wrap_succ (by omega)]
    exact ih k (i + 1) (by omega) (by omega)
theorem same_f (l : List S29) (hl : l.length ≤ 30) (k : Nat) (hk : 31 < k) : newsreelref36_Same.f k l l = some true := by
  unfold newsreelref36_Same.f
  rw [if_pos rfl]
  exact same_loop l hl l.length k 0 (by omega) (by omega)
theorem bytes_same (l : List Int) : newsreelref01_Bytes.f l l = some true := by
  unfold newsreelref01_Bytes.f
  rw [beq_self_eq_true]
theorem j0_true (k : Nat) (x0 : List Int) (x2 : List S29) (a : Int) (r : List Int) : newsreellaw36_WireBends.j0 (k + 1) x0 x2 true a r = some true := by
  simp only [newsreellaw36_WireBends.j0]
  rfl
theorem j2_false (k : Nat) (x0 : List Int) (a : Int) (r : List Int) : newsreellaw36_WireBends.j2 (k + 1) x0 (ofV x0 a r) false a r = some true := by
  simp only [newsreellaw36_WireBends.j2]
  rw [if_neg (by simp)]
  by_cases h : (r.length : Int) > 0
  · rw [if_pos h]; rfl
  · rw [if_neg h]
    have e : (ofV x0 a r).length ≤ x0.length ∧ x0.take (ofV x0 a r).length = ofV x0 a r := by
      unfold ofV
      rw [if_neg (by omega)]
      split
      · rw [List.length_take]
        exact ⟨by omega, by rw [List.take_eq_take_iff]; omega⟩
      · exact ⟨Nat.le_refl _, List.take_length⟩
    rw [if_pos (by omega), if_pos (by omega), Int.toNat_natCast, e.2, bytes_same]
    rfl
theorem main_loop (x0 : List Int) (l : List S29) (h0 : x0.length ≤ 1000) (a : Int) (r : List Int) (hr : r.length ≤ 1500) (hl : l.length ≤ 30) (d : Nat) :
    ∀ (k i : Nat), i + d = l.length → d + 40 < k → newsreellaw36_WireBends.l0 k x0 l (ofV x0 a r) l ((l.take i).all fun x => decide (x.f1.length = 0)) (i : Int) a r = some true := by
  induction d with
  | zero =>
    intro k i hi hk
    obtain ⟨k, rfl⟩ : ∃ m, k = m + 1 := ⟨k - 1, by omega⟩
    obtain ⟨k2, rfl⟩ : ∃ m, k = m + 1 := ⟨k - 1, by omega⟩
    simp only [newsreellaw36_WireBends.l0]
    rw [if_neg (by omega), refof_f]
    simp only [Option.bind_some]
    rw [bytes_same]
    simp only [Option.bind_some, if_true]
    rw [of_f x0 a r h0 hr]
    simp only [Option.bind_some]
    rw [bytes_same]
    simp only [Option.bind_some, if_true]
    rw [same_f l hl _ (by omega)]
    simp only [Option.bind_some, if_true]
    unfold wire_Honest.f
    simp only [Option.bind_some]
    rw [List.take_of_length_le (by omega)]
    have e : (!(l.any fun x => decide (0 < (x.f1.length : Int)))) = (l.all fun x => decide (x.f1.length = 0)) := by
      rw [List.not_any_eq_all_not]
      congr 1
      funext x
      rw [← decide_not]
      exact decide_eq_decide.2 (by omega)
    rw [e, bne_self_eq_false]
    exact j2_false k2 x0 a r
  | succ d ih =>
    intro k i hi hk
    obtain ⟨k, rfl⟩ : ∃ m, k = m + 1 := ⟨k - 1, by omega⟩
    have hlt : i < l.length := by omega
    have e : (l.take (i + 1)).all (fun x => decide (x.f1.length = 0)) = ((l.take i).all (fun x => decide (x.f1.length = 0)) && decide (l[i].f1.length = 0)) := by
      rw [List.take_succ_eq_append_getElem hlt, List.all_append]; simp
    have hi2 := ih k (i + 1) (by omega) (by omega)
    rw [e] at hi2
    simp only [newsreellaw36_WireBends.l0]
    rw [if_pos (by omega), wrap_succ (by omega)]
    cases hb : (l.take i).all (fun x => decide (x.f1.length = 0)) with
    | true =>
      rw [if_pos rfl, if_pos (by omega), rd_at l i hlt]
      rw [hb, Bool.true_and] at hi2
      have e2 : ((l[i].f1.length : Int) == 0) = decide (l[i].f1.length = 0) := by
        rw [Bool.eq_iff_iff, beq_iff_eq, decide_eq_true_iff]; omega
      rw [e2]
      exact hi2
    | false =>
      rw [if_neg (by simp)]
      rw [hb, Bool.false_and] at hi2
      exact hi2
theorem WireBends_pure : newsreellaw36_WireBends.Pure := by
  intro y0 y1 y2 _ _ _
  refine ⟨200, ?_⟩
  unfold newsreellaw36_WireBends.f
  by_cases h0 : (y0.length : Int) > 1000
  · rw [if_pos h0]
    exact j0_true 199 _ _ _ _
  · rw [if_neg h0, few_f y2 200 (by omega)]
    simp only [Option.bind_some]
    cases h2 : fewB y2 with
    | false =>
      rw [if_neg (by simp)]
      exact j0_true 199 _ _ _ _
    | true =>
      rw [if_pos rfl, few_f _ 200 (by omega)]
      simp only [Option.bind_some]
      cases h1 : fewB [(⟨y1.f0, y1.f1⟩ : S29)] with
      | false => exact j0_true 199 _ _ _ _
      | true =>
        unfold fewB at h1 h2
        rw [Bool.and_eq_true, decide_eq_true_iff, List.all_eq_true] at h1 h2
        have hx : y1.f1.length ≤ 1500 := of_decide_eq_true (h1.2 _ (List.mem_singleton.2 rfl))
        have hs : ∀ x ∈ y2, x.f1.length ≤ 1500 := fun x hx => of_decide_eq_true (h2.2 x hx)
        show newsreellaw36_WireBends.j0 (199 + 1) _ _ false _ _ = _
        simp only [newsreellaw36_WireBends.j0]
        rw [if_neg (by simp)]
        simp only [Option.bind_some]
        rw [if_pos (by simp; omega)]
        show ((wire_Next.f 199 y0 ((⟨y1.f0, y1.f1⟩ : S29) :: y2)).bind _) = _
        rw [next_f y0 ⟨y1.f0, y1.f1⟩ y2 (by omega) hx h2.1 hs 199 (by omega)]
        simp only [Option.bind_some]
        exact main_loop y0 y2 (by omega) y1.f0 y1.f1 hx h2.1 y2.length 199 0 (by omega) (by omega)

end Go.Proofs.Ytkkikdjfigffhaa.XWir
