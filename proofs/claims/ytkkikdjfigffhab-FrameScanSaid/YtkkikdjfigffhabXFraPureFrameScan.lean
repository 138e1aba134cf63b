/- Of records, framed one behind the other and cut off anywhere, those whose frames are whole are scanned, in order: for every input. -/
import Derived.Test.YtkkikdjfigffhabXFraTellFrameScan
import Derived.Test.YtkkikdjfigffhabXFraBase
namespace Go.Proofs.Ytkkikdjfigffhab.XFra
open Go.RowKit Go.Proofs.YtkkikdjfigffhabW.PrintWords Go.Proofs.YtkkikdjfigffhabW.PrintLast Go.Proofs.YtkkikdjfigffhabW.PrintMore

theorem light_loop (l : List (List Int)) (hl : l.length ≤ 40) : ∀ (d k i : Nat), i + d = l.length → d < k → ∃ b, newsreelref12_Light.l0 k l (i : Int) = some b ∧ (b = true → ∀ x ∈ l.drop i, x.length ≤ 300) := by
  intro d
  induction d with
  | zero =>
    intro k i hi hk
    obtain ⟨k, rfl⟩ : ∃ m, k = m + 1 := ⟨k - 1, by omega⟩
    simp only [newsreelref12_Light.l0]
    rw [if_neg (show ¬ (i : Int) < (l.length : Int) by omega), List.drop_of_length_le (by omega)]
    exact ⟨true, rfl, fun _ x hx => by cases hx⟩
  | succ d ih =>
    intro k i hi hk
    obtain ⟨k, rfl⟩ : ∃ m, k = m + 1 := ⟨k - 1, by omega⟩
    have hlt : i < l.length := by omega
    have hrd : rd_L2 l (i : Int) = l[i] := by
      unfold rd_L2
      rw [Int.toNat_natCast, List.getD_eq_getElem?_getD, List.getElem?_eq_getElem hlt]
      rfl
    simp only [newsreelref12_Light.l0]
    rw [if_pos (show (i : Int) < (l.length : Int) by omega), if_pos (show 0 ≤ (i : Int) by omega), hrd]
    by_cases h3 : ((l[i]).length : Int) > 300
    · rw [if_pos h3]
      exact ⟨false, rfl, fun h => by cases h⟩
    · rw [if_neg h3, show wrap64 ((i : Int) + 1) = ((i + 1 : Nat) : Int) by rw [wrap_in (by omega) (by omega)]; omega]
      obtain ⟨b, hb, hp⟩ := ih k (i + 1) (by omega) (by omega)
      refine ⟨b, hb, fun ht x hx => ?_⟩
      rw [List.drop_eq_getElem_cons hlt] at hx
      rcases List.mem_cons.1 hx with h | h
      · rw [h]; omega
      · exact hp ht x h
theorem light_law (l : List (List Int)) (k : Nat) (hk : 50 ≤ k) : ∃ b, newsreelref12_Light.f k l = some b ∧ (b = true → l.length ≤ 40 ∧ ∀ x ∈ l, x.length ≤ 300) := by
  unfold newsreelref12_Light.f
  by_cases h : (l.length : Int) > 40
  · rw [if_pos h]
    exact ⟨false, rfl, fun h => by cases h⟩
  · rw [if_neg h]
    obtain ⟨b, hb, hp⟩ := light_loop l (by omega) l.length k 0 (by omega) (by omega)
    exact ⟨b, hb, fun ht => ⟨by omega, fun x hx => hp ht x (by rw [List.drop_zero]; exact hx)⟩⟩
/-- The frames, one behind the other; and where the first i end. -/
def allOf (l : List (List Int)) : List Int := (l.map frameOf).flatten
def pos (l : List (List Int)) (i : Nat) : Nat := (allOf (l.take i)).length
def endsOf (l : List (List Int)) (i : Nat) : List Int := (List.range i).map fun j => (pos l (j + 1) : Int)
theorem all_succ (l : List (List Int)) (i : Nat) (h : i < l.length) : allOf (l.take (i + 1)) = allOf (l.take i) ++ frameOf l[i] := by
  unfold allOf
  rw [List.take_add_one, List.getElem?_eq_getElem h]
  simp only [Option.toList_some, List.map_append, List.map_cons, List.map_nil, List.flatten_append, List.flatten_cons, List.flatten_nil, List.append_nil]
theorem pos_succ (l : List (List Int)) (i : Nat) (h : i < l.length) : pos l (i + 1) = pos l i + (8 + (l[i]).length) := by
  unfold pos
  rw [all_succ l i h, List.length_append, frame_len]
theorem pos_zero (l : List (List Int)) : pos l 0 = 0 := rfl
theorem pos_le (l : List (List Int)) (hb : ∀ x ∈ l, x.length ≤ 300) : ∀ i, i ≤ l.length → pos l i ≤ 308 * i := by
  intro i
  induction i with
  | zero => intro _; exact Nat.le_refl 0
  | succ i ih =>
    intro h
    have h1 := ih (by omega)
    have h2 := hb l[i] (List.getElem_mem (by omega))
    rw [pos_succ l i (by omega)]
    omega
theorem pos_mono (l : List (List Int)) : ∀ d i, i + d ≤ l.length → pos l i + 8 * d ≤ pos l (i + d) := by
  intro d
  induction d with
  | zero => intro i _; exact Nat.le_refl _
  | succ d ih =>
    intro i h
    have h1 := ih i (by omega)
    have h2 := pos_succ l (i + d) (by omega)
    rw [show i + (d + 1) = i + d + 1 by omega, h2]
    omega
theorem all_split (l : List (List Int)) (i : Nat) (h : i < l.length) : (allOf l).drop (pos l i) = frameOf l[i] ++ allOf (l.drop (i + 1)) := by
  have e : allOf l = allOf (l.take i) ++ (frameOf l[i] ++ allOf (l.drop (i + 1))) := by
    have h1 : l = l.take i ++ (l[i] :: l.drop (i + 1)) := by rw [← List.drop_eq_getElem_cons h, List.take_append_drop]
    unfold allOf
    conv => lhs; rw [h1]
    rw [List.map_append, List.map_cons, List.flatten_append, List.flatten_cons]
  rw [e]
  unfold pos
  rw [List.drop_left']
  rfl
theorem all_pos (l : List (List Int)) : (allOf l).length = pos l l.length := by unfold pos; rw [List.take_length]
theorem all_bytes (l : List (List Int)) (hb : ∀ x ∈ l, Bytes x) : Bytes (allOf l) := by
  intro x hx
  unfold allOf at hx
  obtain ⟨f, hf, hx2⟩ := List.mem_flatten.1 hx
  obtain ⟨b, hb2, rfl⟩ := List.mem_map.1 hf
  exact frame_bytes b (hb b hb2) x hx2
/-- What the loop has laid when i records are framed. -/
theorem build (l : List (List Int)) (hn : l.length ≤ 40) (hl : ∀ x ∈ l, x.length ≤ 300) (hb : ∀ x ∈ l, Bytes x) (cut : Int) (C : Nat) (r : Option Bool) (hend : ∀ k, C ≤ k → newsreellaw12_FrameScan.l1 k l (allOf l) (endsOf l l.length) (Int.tmod (wrap64 cut) (wrap64 (((allOf l).length : Int) + 1))) 0 = r) :
    ∀ (d k i : Nat), i + d = l.length → C + d < k → newsreellaw12_FrameScan.l0 k l cut (allOf (l.take i)) (endsOf l i) (i : Int) = r := by
  intro d
  induction d with
  | zero =>
    intro k i hi hk
    obtain ⟨k, rfl⟩ : ∃ m, k = m + 1 := ⟨k - 1, by omega⟩
    obtain rfl : i = l.length := by omega
    have hp := pos_le l hl l.length (Nat.le_refl _)
    have hap := all_pos l
    simp only [newsreellaw12_FrameScan.l0]
    rw [if_neg (show ¬ (l.length : Int) < (l.length : Int) by omega), List.take_length, if_neg (show ¬ wrap64 (((allOf l).length : Int) + 1) = 0 by rw [wrap_in (by omega) (by omega)]; omega)]
    exact hend k (by omega)
  | succ d ih =>
    intro k i hi hk
    obtain ⟨k, rfl⟩ : ∃ m, k = m + 1 := ⟨k - 1, by omega⟩
    have hlt : i < l.length := by omega
    have hrd : rd_L2 l (i : Int) = l[i] := by
      unfold rd_L2
      rw [Int.toNat_natCast, List.getD_eq_getElem?_getD, List.getElem?_eq_getElem hlt]
      rfl
    have h3 := hl l[i] (List.getElem_mem hlt)
    have hv : putV l[i] = (frameOf l[i], 0) := by unfold putV; rw [if_neg (by omega)]
    have hp := pos_le l hl i (by omega)
    have hpp : (allOf (l.take i)).length = pos l i := rfl
    have hf := frame_len l[i]
    simp only [newsreellaw12_FrameScan.l0]
    rw [if_pos (show (i : Int) < (l.length : Int) by omega), if_pos (show 0 ≤ (i : Int) by omega), hrd, put_f _ (hb _ (List.getElem_mem hlt)), Option.bind_some, hv, if_pos rfl, if_pos (show (allOf (l.take i)).length + (frameOf l[i]).length < 140737488355328 by omega), Option.bind_some, ← all_succ l i hlt, if_pos (show (endsOf l i).length < 17592186044416 by unfold endsOf; rw [List.length_map, List.length_range]; omega), show wrap64 ((i : Int) + 1) = ((i + 1 : Nat) : Int) by rw [wrap_in (by omega) (by omega)]; omega]
    have he : endsOf l i ++ [((allOf (l.take (i + 1))).length : Int)] = endsOf l (i + 1) := by
      unfold endsOf
      rw [List.range_succ, List.map_append]
      rfl
    rw [he]
    exact ih k (i + 1) (by omega) (by omega)
/-- How many frames are whole: found from j on. -/
theorem whole (l : List (List Int)) (n : Nat) : ∀ d j, j + d = l.length → pos l j ≤ n → ∃ w, j ≤ w ∧ w ≤ l.length ∧ pos l w ≤ n ∧ (w < l.length → n < pos l (w + 1)) := by
  intro d
  induction d with
  | zero => intro j hj hp; exact ⟨j, Nat.le_refl _, by omega, hp, fun h => by omega⟩
  | succ d ih =>
    intro j hj hp
    by_cases h : pos l (j + 1) ≤ n
    · obtain ⟨w, h1, h2, h3, h4⟩ := ih (j + 1) (by omega) h
      exact ⟨w, by omega, h2, h3, h4⟩
    · exact ⟨j, Nat.le_refl _, by omega, hp, fun _ => by omega⟩
theorem ends_rd (l : List (List Int)) (i j : Nat) (h : j < i) : rd (endsOf l i) (j : Int) = (pos l (j + 1) : Int) := by
  unfold rd endsOf
  rw [Int.toNat_natCast, List.getD_eq_getElem?_getD, List.getElem?_map, List.getElem?_range h]
  rfl
theorem ends_len (l : List (List Int)) (i : Nat) : (endsOf l i).length = i := by unfold endsOf; rw [List.length_map, List.length_range]
theorem count (l : List (List Int)) (hn : l.length ≤ 40) (n w : Nat) (hw : w ≤ l.length) (hp : pos l w ≤ n) (hnext : w < l.length → n < pos l (w + 1)) (C : Nat) (r : Option Bool) (hend : ∀ k, C ≤ k → newsreellaw12_FrameScan.j2 k l (allOf l) (endsOf l l.length) (n : Int) (w : Int) = r) :
    ∀ (d k j : Nat), j + d = w → C + d < k → newsreellaw12_FrameScan.l1 k l (allOf l) (endsOf l l.length) (n : Int) (j : Int) = r := by
  intro d
  induction d with
  | zero =>
    intro k j hj hk
    obtain ⟨k, rfl⟩ : ∃ m, k = m + 1 := ⟨k - 1, by omega⟩
    obtain rfl : j = w := by omega
    simp only [newsreellaw12_FrameScan.l1]
    rw [ends_len]
    by_cases h : j < l.length
    · rw [if_pos (show (j : Int) < (l.length : Int) by omega), if_pos (show 0 ≤ (j : Int) by omega), ends_rd l l.length j h, if_neg (show ¬ (pos l (j + 1) : Int) ≤ (n : Int) by have := hnext h; omega)]
      exact hend k (by omega)
    · rw [if_neg (show ¬ (j : Int) < (l.length : Int) by omega)]
      exact hend k (by omega)
  | succ d ih =>
    intro k j hj hk
    obtain ⟨k, rfl⟩ : ∃ m, k = m + 1 := ⟨k - 1, by omega⟩
    have h : j < l.length := by omega
    have hm := pos_mono l (w - (j + 1)) (j + 1) (by omega)
    rw [show j + 1 + (w - (j + 1)) = w by omega] at hm
    simp only [newsreellaw12_FrameScan.l1]
    rw [ends_len, if_pos (show (j : Int) < (l.length : Int) by omega), if_pos (show 0 ≤ (j : Int) by omega), ends_rd l l.length j h, if_pos (show (pos l (j + 1) : Int) ≤ (n : Int) by omega), show wrap64 ((j : Int) + 1) = ((j + 1 : Nat) : Int) by rw [wrap_in (by omega) (by omega)]; omega]
    exact ih k (j + 1) (by omega) (by omega)
/-- The scan of what is left: the whole frames, in order. -/
theorem scan_law (l : List (List Int)) (hn : l.length ≤ 40) (hl : ∀ x ∈ l, x.length ≤ 300) (hb : ∀ x ∈ l, Bytes x) (n w : Nat) (hw : w ≤ l.length) (hp : pos l w ≤ n) (hnext : w < l.length → n < pos l (w + 1)) (hna : n ≤ (allOf l).length) :
    ∀ (d k j : Nat), j + d = w → d < k → frame_Scan.l0 k ((allOf l).take n) (l.take j) (pos l j : Int) = some (l.take w, (pos l w : Int)) := by
  have hX : ((allOf l).take n).length = n := by rw [List.length_take]; omega
  have hXb : Bytes ((allOf l).take n) := bytes_take (all_bytes l hb) n
  have hbig : pos l l.length ≤ 308 * l.length := pos_le l hl l.length (Nat.le_refl _)
  have hap := all_pos l
  intro d
  induction d with
  | zero =>
    intro k j hj hk
    obtain ⟨k, rfl⟩ : ∃ m, k = m + 1 := ⟨k - 1, by omega⟩
    obtain rfl : j = w := by omega
    simp only [frame_Scan.l0]
    rw [if_pos (show 0 ≤ (pos l j : Int) by omega), if_pos (show (pos l j : Int) ≤ (((allOf l).take n).length : Int) by omega), Int.toNat_natCast, take_f _ (bytes_drop hXb _) (by rw [List.length_drop]; omega), Option.bind_some]
    have he : (takeV (((allOf l).take n).drop (pos l j))).2.2 ≠ 0 := by
      rw [List.drop_take]
      by_cases h : j < l.length
      · have h1 := hnext h
        have h2 := pos_succ l j h
        have h3 := hl l[j] (List.getElem_mem h)
        rw [all_split l j h]
        exact take_cut l[j] _ _ (by omega) (by omega)
      · obtain rfl : j = l.length := by omega
        have h0 : ((allOf l).drop (pos l l.length)).take (n - pos l l.length) = [] := by
          rw [show n - pos l l.length = 0 by omega]
          rfl
        rw [h0]
        show (11 : Int) ≠ 0
        omega
    rw [if_neg he]
  | succ d ih =>
    intro k j hj hk
    obtain ⟨k, rfl⟩ : ∃ m, k = m + 1 := ⟨k - 1, by omega⟩
    have h : j < l.length := by omega
    have hm := pos_mono l (w - (j + 1)) (j + 1) (by omega)
    rw [show j + 1 + (w - (j + 1)) = w by omega] at hm
    have h2 := pos_succ l j h
    have h3 := hl l[j] (List.getElem_mem h)
    simp only [frame_Scan.l0]
    rw [if_pos (show 0 ≤ (pos l j : Int) by omega), if_pos (show (pos l j : Int) ≤ (((allOf l).take n).length : Int) by omega), Int.toNat_natCast, take_f _ (bytes_drop hXb _) (by rw [List.length_drop]; omega), Option.bind_some]
    have he : takeV (((allOf l).take n).drop (pos l j)) = (l[j], 8 + ((l[j]).length : Int), 0) := by
      rw [List.drop_take, all_split l j h, List.take_append, List.take_of_length_le (show (frameOf l[j]).length ≤ n - pos l j by rw [frame_len]; omega)]
      exact take_frame l[j] _ (hb _ (List.getElem_mem h)) (by omega)
    rw [he, if_pos rfl, if_pos (show (l.take j).length < 5864062014805 by rw [List.length_take]; omega)]
    have e1 : wrap64 ((pos l j : Int) + (8 + ((l[j]).length : Int))) = (pos l (j + 1) : Int) := by rw [wrap_in (by omega) (by omega), h2]; omega
    have e2 : l.take j ++ [l[j]] = l.take (j + 1) := by rw [List.take_add_one, List.getElem?_eq_getElem h]; rfl
    rw [show l.take j ++ [(l[j], 8 + ((l[j]).length : Int), (0 : Int)).1] = l.take (j + 1) from e2, show wrap64 ((pos l j : Int) + (l[j], 8 + ((l[j]).length : Int), (0 : Int)).2.1) = (pos l (j + 1) : Int) from e1]
    exact ih k (j + 1) (by omega) (by omega)
theorem FrameScan_pure : newsreellaw12_FrameScan.Pure := by
  intro l cut h0 h1
  have hb : ∀ x ∈ l, Bytes x := fun x hx y hy => by have := bounds_u8 ((h0.2 x hx).2 y hy); omega
  have hc := bounds_u16 h1
  obtain ⟨K, hK⟩ : ∃ K : Nat, K = 50000 := ⟨_, rfl⟩
  refine ⟨K, ?_⟩
  unfold newsreellaw12_FrameScan.f
  obtain ⟨b, hlb, hlp⟩ := light_law l K (by omega)
  rw [hlb, Option.bind_some]
  cases b with
  | false =>
    rw [if_neg Bool.false_ne_true, awake_true (by omega)]
    rfl
  | true =>
    obtain ⟨hn, hl⟩ := hlp rfl
    have hbig : pos l l.length ≤ 308 * l.length := pos_le l hl l.length (Nat.le_refl _)
    have hap := all_pos l
    rw [if_pos rfl]
    refine build l hn hl hb cut (K - 100) _ (fun k hk => ?_) l.length K 0 (by omega) (by omega)
    have e1 : wrap64 (((allOf l).length : Int) + 1) = (((allOf l).length + 1 : Nat) : Int) := by rw [wrap_in (by omega) (by omega)]; omega
    have e2 : wrap64 cut = cut := wrap_in (by omega) (by omega)
    obtain ⟨n, hn1, hn2⟩ : ∃ n : Nat, Int.tmod cut (((allOf l).length + 1 : Nat) : Int) = (n : Int) ∧ n ≤ (allOf l).length := by
      rw [Int.tmod_eq_emod_of_nonneg (by omega)]
      have p1 := Int.emod_nonneg cut (show (((allOf l).length + 1 : Nat) : Int) ≠ 0 by omega)
      have p2 := Int.emod_lt_of_pos cut (show 0 < (((allOf l).length + 1 : Nat) : Int) by omega)
      exact ⟨(cut % (((allOf l).length + 1 : Nat) : Int)).toNat, by omega, by omega⟩
    rw [e1, e2, hn1]
    obtain ⟨w, _, hw, hp, hnext⟩ := whole l n l.length 0 (by omega) (by rw [pos_zero]; omega)
    refine count l hn n w hw hp hnext (K - 200) _ (fun k hk => ?_) w k 0 (by omega) (by omega)
    obtain ⟨k, rfl⟩ : ∃ m, k = m + 1 := ⟨k - 1, by omega⟩
    have hs : frame_Scan.f k ((allOf l).take n) = some (l.take w, (pos l w : Int)) := scan_law l hn hl hb n w hw hp hnext hn2 w k 0 (by omega) (by omega)
    simp only [newsreellaw12_FrameScan.j2]
    rw [if_pos (show 0 ≤ (n : Int) by omega), if_pos (show (n : Int) ≤ ((allOf l).length : Int) by omega), Int.toNat_natCast, hs, Option.bind_some]
    have ht : newsreelref12_Lists.f k (l.take w) (l.take w) = some true := lists_same _ (by rw [List.length_take]; omega) k (by omega)
    by_cases hw0 : 0 < w
    · have e3 : wrap64 ((w : Int) - 1) = ((w - 1 : Nat) : Int) := by rw [wrap_in (by omega) (by omega)]; omega
      rw [if_pos (show (w : Int) > 0 by omega), e3, if_pos (show 0 ≤ ((w - 1 : Nat) : Int) by omega), ends_len, if_pos (show ((w - 1 : Nat) : Int) < (l.length : Int) by omega), if_pos (show 0 ≤ (w : Int) by omega), if_pos (show (w : Int) ≤ (l.length : Int) by omega), Int.toNat_natCast, ht, Option.bind_some, if_pos rfl, ends_rd l l.length (w - 1) (by omega), show w - 1 + 1 = w by omega, if_pos rfl, awake_true (by omega)]
      rfl
    · obtain rfl : w = 0 := by omega
      rw [if_neg (show ¬ ((0 : Nat) : Int) > 0 by omega), if_pos (show 0 ≤ ((0 : Nat) : Int) by omega), if_pos (show ((0 : Nat) : Int) ≤ (l.length : Int) by omega), Int.toNat_natCast, ht, Option.bind_some, if_pos rfl, if_pos (show (pos l 0 : Int) = 0 from rfl), awake_true (by omega)]
      rfl

end Go.Proofs.Ytkkikdjfigffhab.XFra
