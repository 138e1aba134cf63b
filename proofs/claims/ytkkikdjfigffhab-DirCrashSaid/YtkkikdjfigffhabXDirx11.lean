-- By a program of this work (xprint.py) over the translation; Lean checks it.
import Derived.Test.YtkkikdjfigffhabXDirx0
namespace Go.Proofs.Ytkkikdjfigffhab.XDir
open Go.RowKit Go.Proofs.YtkkikdjfigffhabW.PrintWords Go.Proofs.YtkkikdjfigffhabW.PrintLast Go.Proofs.YtkkikdjfigffhabW.PrintMore
attribute [local go_sem] max2_int min2_int max_two min_two max_three min_three max_four min_four   -- for this text's walks alone
set_option linter.unusedVariables false
set_option linter.unusedSimpArgs false

/-! ### api_Entry_152: function 152 -/
def api_Entry_152.enc (x : S77) : List Value := [.string x.f0, .int .i64 x.f1]
theorem api_Entry_152.plain : PlainKd k77 api_Entry_152.enc where
 len := fun _ => rfl
 pos := show 0 < 2 by decide
 one := fun x v hv => by
  simp only [api_Entry_152.enc, List.mem_cons, List.not_mem_nil, or_false] at hv
  rcases hv with rfl | rfl <;> rfl
 toM := fun w base ok x => k77_mkM w base ok x
 ofM := fun h => k77_openM h
 ofK := fun h => k77_open h
theorem api_Entry_152.km {w : World} {base : Nat} {ok : Nat → Prop} {x : S77} {cs : List Value} (h : k77.K w x cs) : k77.M w base ok x cs := by
 obtain rfl := k77_open h
 exact k77_mkM w base ok x
theorem api_Entry_152.cells {w : World} {g : Nat} {cur : List Value} {t : TypeId} (h : w.heap[g]? = some (.cells cur.toArray t (0, 0))) (off : Nat) (Y : List Value) (hY : (cur.drop off).take Y.length = Y) : ∀ j v, Y[j]? = some v → w.cell? ((⟨g, off, none⟩ : Addr).add j) = some v := by
 intro j v hj
 rw [show (⟨g, off, none⟩ : Addr).add j = ⟨g, off + j, none⟩ by unfold Addr.add; split <;> simp_all]
 have h1 : w.cell? ⟨g, off + j, none⟩ = cur.toArray[off + j]? := blk_cell h (off + j)
 rw [h1, List.getElem?_toArray, ← List.getElem?_drop]
 rw [← hY, List.getElem?_take] at hj
 split at hj
 ·exact hj
 ·cases hj
set_option maxHeartbeats 8000000 in
set_option maxRecDepth 100000 in
/-- Into nothing. -/
theorem api_Entry_152.calls_nil (vv : Value) (x : S77) (w0 w : World) (HV : Kd.R k77 77 w w0.heap.size (fun _ => True) vv [x]) (hB : Below w0.heap.size w0 w) :
  Calls Try.prog 152 #[.slice none 0 0, .int .i64 0, vv] w fun e w' => ∃ v', e = .returned v' ∧ Kd.R k77 77 w' w0.heap.size (fun _ => True) v' [x] ∧ Below w0.heap.size w0 w' := by
 obtain ⟨A, c, rfl, hc, hC⟩ := Kd.R_reads HV
 have HC := mkA hC
 have HB := mkA hB
 have HL : Aside0 (0 < 1000000) := ⟨by decide⟩
 clear HV hC hB hc
 show Calls Try.prog 152 #[.slice none 0 0, .int .i64 0, .slice A 1 c] w _
 go_enter Try.func152, Try.ntmps152
 go_wp2_with ((with_reducible refine gate_builtin (b := .append) (xs := #[.tmp 23, .tmp 24]) rfl ?_); at_builtin; refine Kd.R_append_rows k77 (w0 := w0) w0.heap.size rfl (.tmp 23) (.tmp 24) 64 77 (.agg #[.string ⟨#[]⟩, .int .i64 0]) 24 rfl Try.underlying64 info77 rfl (show 0 < 2 by decide) (by decide) _ [] [x] _ _ _ (fun _ => True) (fun _ => False) rfl rfl ?aO ?aR (fun x cs h => api_Entry_152.km h) (fun _ h => h.elim) ?aF ?aB ?aS ?aL ?_; (case aR => exact (Kd.C_y HC.out)); (case aB => exact below_y HB.out); (case aF => exact (fun _ _ => trivial)); (case aO => exact (Kd.R_nil _ _ _ _ _)); (case aS => exact below_size (below_y HB.out)); (case aL => have := HL.out; simp <;> omega); intro v2 w2 ho2 hb2 hg hat; have HO2 := mkA ho2; have HB2 := mkA hb2; clear ho2 hb2 hg hat)
 go_ret
 exact ⟨_, rfl, HO2.out, HB2.out⟩
set_option maxHeartbeats 8000000 in
set_option maxRecDepth 100000 in
/-- At the end. -/
theorem api_Entry_152.calls_end (g c : Nat) (vv : Value) (xs : List S77) (x : S77) (w0 w : World) (hl : xs.length < 1000000) (HO : Kd.R k77 77 w w0.heap.size (fun _ => True) (.slice (some ⟨g, 0, none⟩) xs.length c) xs) (hc : xs.length ≤ c) (HV : Kd.R k77 77 w w0.heap.size (fun _ => True) vv [x]) (hB : Below w0.heap.size w0 w) :
  Calls Try.prog 152 #[.slice (some ⟨g, 0, none⟩) xs.length c, .int .i64 xs.length, vv] w fun e w' => ∃ v', e = .returned v' ∧ Kd.R k77 77 w' w0.heap.size (fun _ => True) v' (xs ++ [x]) ∧ Below w0.heap.size w0 w' := by
 obtain ⟨A, c1, rfl, _, hC⟩ := Kd.R_reads HV
 have HC := mkA hC
 have HB := mkA hB
 have HL := mkA hl
 have HR := mkA HO
 clear HV hC hB HO hl
 show Calls Try.prog 152 #[.slice (some ⟨g, 0, none⟩) xs.length c, .int .i64 xs.length, .slice A 1 c1] w _
 go_enter Try.func152, Try.ntmps152
 go_wp2_with ((with_reducible refine gate_builtin (b := .append) (xs := #[.tmp 23, .tmp 24]) rfl ?_); at_builtin; refine Kd.R_append_rows k77 (w0 := w0) w0.heap.size rfl (.tmp 23) (.tmp 24) 64 77 (.agg #[.string ⟨#[]⟩, .int .i64 0]) 24 rfl Try.underlying64 info77 rfl (show 0 < 2 by decide) (by decide) _ xs [x] _ _ _ (fun _ => True) (fun _ => False) rfl rfl ?aO ?aR (fun x cs h => api_Entry_152.km h) (fun _ h => h.elim) ?aF ?aB ?aS ?aL ?_; (case aR => exact (Kd.C_y HC.out)); (case aB => exact below_y HB.out); (case aF => exact (fun _ _ => trivial)); (case aO => exact (Kd.R_y HR.out)); (case aS => exact below_size (below_y HB.out)); (case aL => have := HL.out; simp <;> omega); intro v2 w2 ho2 hb2 hg hat; have HO2 := mkA ho2; have HB2 := mkA hb2; clear ho2 hb2 hg hat)
 all_goals (go_ret; exact ⟨_, rfl, HO2.out, HB2.out⟩)
set_option maxHeartbeats 8000000 in
set_option maxRecDepth 100000 in
/-- In between, where there is room. -/
theorem api_Entry_152.calls_room (g c gv cv n i : Nat) (cur vcur X B : List Value) (w : World) (hi : i < n) (hn : n < 1000000) (hroom : n + 1 ≤ c) (hc63 : c ≤ 9223372036854775807) (hne : gv ≠ g)
  (hg : w.heap[g]? = some (.cells cur.toArray 77 (0, 0))) (hcl : cur.length = c * 2) (hgv : w.heap[gv]? = some (.cells vcur.toArray 77 (0, 0)))
  (hX : (vcur.drop 0).take X.length = X) (hXl : X.length = 2) (hX1 : ∀ v ∈ X, v.oneCell' = true) (hB : (cur.drop (i * 2)).take B.length = B) (hBl : B.length = (n - i) * 2) (hB1 : ∀ v ∈ B, v.oneCell' = true) :
  Calls Try.prog 152 #[.slice (some ⟨g, 0, none⟩) n c, .int .i64 i, .slice (some ⟨gv, 0, none⟩) 1 cv] w fun e w' => e = .returned (.slice (some ⟨g, 0, none⟩) (n + 1) c) ∧ w'.heap[g]? = some (.cells (splice (splice cur ((i + 1) * 2) B) (i * 2) X).toArray 77 (0, 0)) ∧ ∀ w0 : World, Below w0.heap.size w0 w → w0.heap.size ≤ g → Below w0.heap.size w0 w' := by
 have hz2 : ¬ ((i : Int) = (n : Int)) := by omega
 have hsz : (Try.prog.info? 77).map (·.size) = some 2 := by
  obtain ⟨i0, hi0, _, hzs, _⟩ := info_parts info77
  rw [hi0]
  simp [hzs]
 have hov : ∀ lb cb, (callFunc 163 #[.slice (some ⟨gv, 0, none⟩) 1 cv, .slice (some ⟨g, (i + 1) * 2, none⟩) lb cb]).run Try.prog w = .ok (.value (.bool false)) w := fun lb cb => by
  rw [run_callFunc_extern Try.func163 (by kernel_rfl) (by kernel_rfl) (by kernel_rfl) (e := Extern.SlicesOverlaps.overlaps #[64, 64] #[4]) (by kernel_rfl),
   Lib.run_overlaps_apart w 64 4 77 Try.underlying64 2 Try.sizeOf77 ⟨gv, 0, none⟩ ⟨g, (i + 1) * 2, none⟩ 1 cv lb cb hne 77 77 vcur.length cur.length (by simp [World.shape?, hgv]) (by simp [World.shape?, hg]) (by rw [hcl]; omega) (blk_frozen hgv 0) (blk_frozen hgv _)]
  rfl
 have hcp1 : ∀ ty dc sc, (Builtin.copy_ #[64, 64] ty #[.slice (some ⟨g, (i + 1) * 2, none⟩) (n - i) dc, .slice (some ⟨g, i * 2, none⟩) (n + 1 - i) sc]).run Try.prog w.drew = .ok (goInt ((n - i : Nat) : Int)) (w.drew.setRow g (splice cur ((i + 1) * 2) B).toArray) := fun ty dc sc =>
  run_copy_rowK w.drew 64 64 ty 77 g ((i + 1) * 2) _ dc ⟨g, i * 2, none⟩ _ sc cur 77 B 2 (n - i) Try.underlying64 hsz hg (by simp only [Nat.min_def]; split <;> omega) hBl (api_Entry_152.cells (w := w.drew) hg (i * 2) B hB) (by rw [hBl, hcl]; omega) hB1
 obtain ⟨cur1, hcur1⟩ : ∃ cur1, cur1 = splice cur ((i + 1) * 2) B := ⟨_, rfl⟩
 have hl1 : cur1.length = c * 2 := by rw [hcur1, length_splice _ _ _ (by rw [hBl, hcl]; omega), hcl]
 rw [← hcur1] at hcp1 ⊢
 have hcp2 : ∀ W : World, W.heap = (w.drew.setRow g cur1.toArray).heap → ∀ ty dc, (Builtin.copy_ #[64, 64] ty #[.slice (some ⟨g, i * 2, none⟩) (n + 1 - i) dc, .slice (some ⟨gv, 0, none⟩) 1 cv]).run Try.prog W = .ok (goInt ((1 : Nat) : Int)) (W.setRow g (splice cur1 (i * 2) X).toArray) := fun W hW ty dc =>
  run_copy_rowK W 64 64 ty 77 g (i * 2) _ dc ⟨gv, 0, none⟩ 1 cv cur1 77 X 2 1 Try.underlying64 hsz (by rw [hW]; exact setRow_heap _ g cur.toArray _ _ _ hg) (by simp only [Nat.min_def]; split <;> omega) (by rw [hXl]) (api_Entry_152.cells (by rw [hW, setRow_other _ g gv _ hne]; exact hgv) 0 X hX) (by rw [hXl, hl1]; omega) hX1
 have hw1 : IntKind.i64.wrap ((i : Int) + 1) = (i : Int) + 1 := by rw [IntKind.wrap_i64]; omega
 have hw2 : IntKind.i64.wrap ((n : Int) + 1) = (n : Int) + 1 := by rw [IntKind.wrap_i64]; omega
 have hb1 : (0 : Int) ≤ (i : Int) + 1 := by omega
 have hin : i ≤ n := by omega
 have htn : ((i : Int) + 1).toNat = i + 1 := by omega
 have hb2 : ¬ (c = i + 1) := by omega
 have hb3 : (i : Int) ≤ (n : Int) + 1 := by omega
 have hb4 : ¬ (c = i) := by omega
 have HF : ∀ w0 : World, Below w0.heap.size w0 w → w0.heap.size ≤ g → Below w0.heap.size w0 ((w.drew.setRow g cur1.toArray).setRow g (splice cur1 (i * 2) X).toArray) := fun w0 h h0 => below_setRow (below_setRow (below_drew1 h) h0 _) h0 _
 have HG : ((w.drew.setRow g cur1.toArray).setRow g (splice cur1 (i * 2) X).toArray).heap[g]? = some (.cells (splice cur1 (i * 2) X).toArray 77 (0, 0)) := setRow_heap _ g cur1.toArray _ _ _ (setRow_heap _ g cur.toArray _ _ _ hg)
 clear hX hXl hX1 hB hBl hB1 hcl hl1 hcur1 hsz
 go_enter Try.func152, Try.ntmps152
 go_wp2_with (simp only [hov])
 go_region_law (refine step_copy_runD rfl _ _ 64 64 rfl _ _ (by simp [Act.eval, Act.put]) (by simp [Act.eval, Act.put]) (hcp1 _ _ _) ?_)
 go_wp2_with ((with_reducible refine gate_builtin (b := .copy) (xs := #[.tmp 80, .tmp 81]) rfl ?_); refine wpList_copy_runD _ rfl _ _ 64 64 rfl _ _ rfl rfl (hcp2 _ ?hW _ _) ?_; (case hW => rfl))
 go_ret
 exact ⟨rfl, HG, HF⟩
set_option maxHeartbeats 8000000 in
set_option maxRecDepth 100000 in
/-- In between, where there is no room. -/
theorem api_Entry_152.calls_grow (g c gv cv n i : Nat) (cur vcur A X B : List Value) (w : World) (hi : i < n) (hn : n < 1000000) (hnc : n ≤ c) (hroom : c < n + 1)
  (hg : w.heap[g]? = some (.cells cur.toArray 77 (0, 0))) (hgv : w.heap[gv]? = some (.cells vcur.toArray 77 (0, 0)))
  (hA : (cur.drop 0).take A.length = A) (hAl : A.length = i * 2) (hX : (vcur.drop 0).take X.length = X) (hXl : X.length = 2) (hX1 : ∀ v ∈ X, v.oneCell' = true) (hB : (cur.drop (i * 2)).take B.length = B) (hBl : B.length = (n - i) * 2) (hB1 : ∀ v ∈ B, v.oneCell' = true) :
  Calls Try.prog 152 #[.slice (some ⟨g, 0, none⟩) n c, .int .i64 i, .slice (some ⟨gv, 0, none⟩) 1 cv] w fun e w' => ∃ (G : Nat) (Z : List Value), e = .returned (.slice (some ⟨w.heap.size, 0, none⟩) (n + 1) G) ∧ n + 1 ≤ G ∧ G ≤ maxLen ∧ Z.length = G * 2 ∧ Z.take A.length = A ∧ w'.heap[w.heap.size]? = some (.cells (splice (splice Z (i * 2) X) ((i + 1) * 2) B).toArray 77 (0, 0)) ∧ ∀ w0 : World, Below w0.heap.size w0 w → w0.heap.size ≤ w.heap.size → Below w0.heap.size w0 w' := by
 obtain ⟨i0, hi0, hz0, hzs, hzb⟩ := info_parts info77
 have hz2 : ¬ ((i : Int) = (n : Int)) := by omega
 have hz3 : (c : Int) < (n : Int) + 1 := by omega
 have hsz : (Try.prog.info? 77).map (·.size) = some 2 := by
  rw [hi0]
  simp [hzs]
 have hkk : (n : Int) + 1 - (i : Int) = ((n + 1 - i : Nat) : Int) := by omega
 have hik : i + (n + 1 - i) = n + 1 := by omega
 have hgw : g < w.heap.size := blk_lt hg
 have hvw : gv < w.heap.size := blk_lt hgv
 have hold : (Builtin.firstCells i0.size i (.slice (some ⟨g, 0, none⟩) i c)).run Try.prog w.drew = .ok A.toArray w.drew := by
  rw [hzs]
  exact run_firstCells_some w.drew 2 i ⟨g, 0, none⟩ i c A hAl (api_Entry_152.cells (w := w.drew) hg 0 A hA)
 have hrz : ∀ ty, (Builtin.append_ #[64, 3] ty #[.slice (some ⟨g, 0, none⟩) i c, .int .i64 ((n : Int) + 1 - (i : Int))]).run Try.prog w =
   .ok (.slice (some ⟨w.heap.size, 0, none⟩) (n + 1) (grownCap w (n + 1) c 77)) (w.drew.alloc (.cells (A.toArray ++ Builtin.zeroCells (.agg #[.string ⟨#[]⟩, .int .i64 0] : Value).cells (n + 1 - i) ++ Builtin.zeroCells (.agg #[.string ⟨#[]⟩, .int .i64 0] : Value).cells (grownCap w (n + 1) c 77 - (n + 1))) 77)) := fun ty => by
  have h := Lib.run_append_grow_zeros w 64 3 ty 77 i0 _ .i64 .i64 Try.underlying64 Try.underlying3 hi0 hz0 (some ⟨g, 0, none⟩) i c A hold (n + 1 - i) (by omega) (by rw [hzs]; decide) (by omega) (by omega) (by rw [hzb]; omega) (by rw [hzb, hik]; exact growslice_fits hroom (by omega))
  rw [hik] at h
  rw [hkk]
  exact h
 have hGn : n + 1 ≤ grownCap w (n + 1) c 77 := grownCap_ge w _ _ _
 have hGm : grownCap w (n + 1) c 77 ≤ maxLen := grownCap_le_maxLen w (n + 1) c 77 (by unfold maxLen; omega)
 generalize grownCap w (n + 1) c 77 = G at hrz hGn hGm
 obtain ⟨Z, hZ⟩ : ∃ Z : List Value, Z = (A.toArray ++ Builtin.zeroCells (.agg #[.string ⟨#[]⟩, .int .i64 0] : Value).cells (n + 1 - i) ++ Builtin.zeroCells (.agg #[.string ⟨#[]⟩, .int .i64 0] : Value).cells (G - (n + 1))).toList := ⟨_, rfl⟩
 have hZ2 : A.toArray ++ Builtin.zeroCells (.agg #[.string ⟨#[]⟩, .int .i64 0] : Value).cells (n + 1 - i) ++ Builtin.zeroCells (.agg #[.string ⟨#[]⟩, .int .i64 0] : Value).cells (G - (n + 1)) = Z.toArray := by rw [hZ]
 have hcs : (.agg #[.string ⟨#[]⟩, .int .i64 0] : Value).cells.size = 2 := rfl
 have hZl : Z.length = G * 2 := by
  rw [hZ, Array.length_toList, Array.size_append, Array.size_append, size_zeroCells, size_zeroCells, hcs]
  simp only [List.size_toArray, hAl]
  omega
 have hZA : Z.take A.length = A := by
  rw [hZ]
  simp
 rw [hZ2] at hrz
 clear hZ hZ2
 obtain ⟨W1, hW1⟩ : ∃ W1, W1 = w.drew.alloc (.cells Z.toArray 77) := ⟨_, rfl⟩
 rw [← hW1] at hrz
 have hN1 : W1.heap[w.heap.size]? = some (.cells Z.toArray 77 (0, 0)) := by
  rw [hW1]
  exact heap_alloc_new (w.drew) _
 have hg1 : W1.heap[g]? = some (.cells cur.toArray 77 (0, 0)) := by rw [hW1]; exact blk_alloc (blk_drew hg) _
 have hv1 : W1.heap[gv]? = some (.cells vcur.toArray 77 (0, 0)) := by rw [hW1]; exact blk_alloc (blk_drew hgv) _
 have HF1 : ∀ w0 : World, Below w0.heap.size w0 w → Below w0.heap.size w0 W1 := fun w0 h => by rw [hW1]; exact below_alloc (below_drew1 h) _
 obtain ⟨Z1, hZ1⟩ : ∃ Z1, Z1 = splice Z (i * 2) X := ⟨_, rfl⟩
 have hl1 : Z1.length = G * 2 := by rw [hZ1, length_splice _ _ _ (by rw [hXl, hZl]; omega), hZl]
 have hcpA : ∀ W : World, W.heap = W1.heap → ∀ ty dc, (Builtin.copy_ #[64, 64] ty #[.slice (some ⟨w.heap.size, i * 2, none⟩) (n + 1 - i) dc, .slice (some ⟨gv, 0, none⟩) 1 cv]).run Try.prog W = .ok (goInt ((1 : Nat) : Int)) (W.setRow w.heap.size Z1.toArray) := fun W hW ty dc => by
  rw [hZ1]
  exact run_copy_rowK W 64 64 ty 77 w.heap.size (i * 2) _ dc ⟨gv, 0, none⟩ 1 cv Z 77 X 2 1 Try.underlying64 hsz (by rw [hW]; exact hN1) (by simp only [Nat.min_def]; split <;> omega) (by rw [hXl]) (api_Entry_152.cells (by rw [hW]; exact hv1) 0 X hX) (by rw [hXl, hZl]; omega) hX1
 have hcpB : ∀ W : World, W.heap = (W1.setRow w.heap.size Z1.toArray).heap → ∀ ty dc sc, (Builtin.copy_ #[64, 64] ty #[.slice (some ⟨w.heap.size, (i + 1) * 2, none⟩) (n - i) dc, .slice (some ⟨g, i * 2, none⟩) (n - i) sc]).run Try.prog W = .ok (goInt ((n - i : Nat) : Int)) (W.setRow w.heap.size (splice Z1 ((i + 1) * 2) B).toArray) := fun W hW ty dc sc =>
  run_copy_rowK W 64 64 ty 77 w.heap.size ((i + 1) * 2) _ dc ⟨g, i * 2, none⟩ _ sc Z1 77 B 2 (n - i) Try.underlying64 hsz (by rw [hW]; exact setRow_heap _ _ Z.toArray _ _ _ hN1) (by simp only [Nat.min_def]; split <;> omega) hBl (api_Entry_152.cells (by rw [hW, setRow_other _ _ g _ (by omega)]; exact hg1) (i * 2) B hB) (by rw [hBl, hl1]; omega) hB1
 have hw1 : IntKind.i64.wrap ((i : Int) + 1) = (i : Int) + 1 := by rw [IntKind.wrap_i64]; omega
 have hw2 : IntKind.i64.wrap ((n : Int) + 1) = (n : Int) + 1 := by rw [IntKind.wrap_i64]; omega
 have hw3 : IntKind.i64.wrap ((n : Int) + 1 - (i : Int)) = (n : Int) + 1 - (i : Int) := by rw [IntKind.wrap_i64]; omega
 have hb1 : (0 : Int) ≤ (i : Int) + 1 := by omega
 have hin : i ≤ n := by omega
 have htn : ((i : Int) + 1).toNat = i + 1 := by omega
 have hb3 : (i : Int) ≤ (n : Int) := by omega
 have hG63 : G ≤ 9223372036854775807 := by unfold maxLen at hGm; omega
 have hGi : ¬ (G = i) := by omega
 have hGim : ¬ (G = i + 1) := by omega
 have hci : ¬ (c = i) := by omega
 have HG : ∀ W : World, W.heap = (W1.setRow w.heap.size Z1.toArray).heap → (W.setRow w.heap.size (splice Z1 ((i + 1) * 2) B).toArray).heap[w.heap.size]? = some (.cells (splice Z1 ((i + 1) * 2) B).toArray 77 (0, 0)) := fun W hW => setRow_heap _ _ Z1.toArray _ _ _ (by rw [hW]; exact setRow_heap _ _ Z.toArray _ _ _ hN1)
 have HF : ∀ (w0 W : World), Below w0.heap.size w0 W → w0.heap.size ≤ w.heap.size → Below w0.heap.size w0 (W.setRow w.heap.size (splice Z1 ((i + 1) * 2) B).toArray) := fun w0 W h h0 => below_setRow h h0 _
 have HD := mkA hGn
 have HE := mkA hGm
 have HZ1 := mkA hZ1
 clear hX hXl hX1 hB hBl hB1 hAl hA hZ1 hl1 hsz hkk hik hold hz0 hzs hzb hi0 hN1 hg1 hv1 hcs hGn hGm
 subst hW1
 have hF : (((w.alloc (.cells Z.toArray 77)).drew.setRow w.heap.size Z1.toArray).drew).heap = ((w.drew.alloc (.cells Z.toArray 77)).setRow w.heap.size Z1.toArray).heap := rfl
 have hcpC := fun ty dc sc => hcpB _ hF ty dc sc
 clear hcpB
 go_enter Try.func152, Try.ntmps152
 go_wp2_with (first | (at_builtin; refine Lib.wpList_append_run _ rfl _ _ _ _ rfl _ _ rfl rfl _ _ (hrz _) ?_) | ((with_reducible refine gate_builtin (b := .copy) (xs := #[.tmp 43, .tmp 44]) rfl ?_); refine wpList_copy_runD _ rfl _ _ 64 64 rfl _ _ rfl rfl (hcpA _ ?hW _ _) ?_; (case hW => rfl)))
 go_region_law (refine step_copy_runD rfl _ _ 64 64 rfl _ _ (by simp [Act.eval, Act.put]) (by simp [Act.eval, Act.put]) (hcpC _ _ _) ?_)
 go_wp2
 go_ret
 exact ⟨G, Z, rfl, HD.out, HE.out, hZl, hZA, (by rw [← HZ1.out]; exact HG _ hF), fun w0 h h0 => HF w0 _ (below_drew1 (below_setRow (HF1 w0 h) h0 _)) h0⟩
theorem api_Entry_152.calls (vO vV : Value) (xs : List S77) (i : Nat) (x : S77) (w0 w : World) (hi : i ≤ xs.length) (hl : xs.length < 1000000) (HO : Kd.R k77 77 w w0.heap.size (fun _ => True) vO xs) (HV : Kd.R k77 77 w w0.heap.size (fun _ => True) vV [x])
  (hne : ∀ g, vV.ownBlock = some g → vO.ownBlock ≠ some g) (hB : Below w0.heap.size w0 w) :
  Calls Try.prog 152 #[vO, .int .i64 i, vV] w fun e w' => ∃ v', e = .returned v' ∧ Kd.R k77 77 w' w0.heap.size (fun _ => True) v' (xs.take i ++ x :: xs.drop i) ∧ Below w0.heap.size w0 w' := by
 have hpl := api_Entry_152.plain
 have hsz : k77.sz = 2 := rfl
 rcases hpl.row HO with ⟨rfl, rfl⟩ | ⟨g, c, cur, rfl, hg0, hg, hnc, hcm, hcl, hct, _⟩
 ·obtain rfl : i = 0 := by simpa using hi
  exact api_Entry_152.calls_nil vV x w0 w HV hB
 rcases Nat.lt_or_ge i xs.length with h | h
 ·rcases hpl.row HV with ⟨_, h0⟩ | ⟨gv, cv, vcur, rfl, hgv0, hgv, hvc, hvm, hvl, hvt, _⟩
  ·cases h0
  have hne' : gv ≠ g := fun e => hne gv rfl (by rw [e]; rfl)
  have hAB : (xs.take i).flatMap api_Entry_152.enc ++ (xs.drop i).flatMap api_Entry_152.enc = xs.flatMap api_Entry_152.enc := by rw [← List.flatMap_append, List.take_append_drop]
  have hAl : ((xs.take i).flatMap api_Entry_152.enc).length = i * 2 := by rw [hpl.flat_len, hsz, List.length_take, Nat.min_eq_left hi]
  have hBl : ((xs.drop i).flatMap api_Entry_152.enc).length = (xs.length - i) * 2 := by rw [hpl.flat_len, hsz, List.length_drop]
  have hXl : (api_Entry_152.enc x).length = 2 := hpl.len x
  have hA1 := hpl.flat_one (xs.take i)
  have hB1 := hpl.flat_one (xs.drop i)
  have hX1 := hpl.one x
  have hX : (vcur.drop 0).take (api_Entry_152.enc x).length = api_Entry_152.enc x := by
   rw [List.drop_zero, hXl]
   have h1 : vcur.take (1 * 2) = api_Entry_152.enc x ++ [] := hvt
   rw [Nat.one_mul, List.append_nil] at h1
   exact h1
  have hlen : (xs.take i ++ x :: xs.drop i).length = xs.length + 1 := by simp; omega
  have hflat : (xs.take i ++ x :: xs.drop i).flatMap api_Entry_152.enc = (xs.take i).flatMap api_Entry_152.enc ++ api_Entry_152.enc x ++ (xs.drop i).flatMap api_Entry_152.enc := by rw [List.flatMap_append, List.flatMap_cons, List.append_assoc]
  rw [hsz] at hct hcl
  rw [← hAB] at hct
  generalize (xs.take i).flatMap api_Entry_152.enc = A at hAl hA1 hct hflat
  generalize (xs.drop i).flatMap api_Entry_152.enc = B at hBl hB1 hct hflat
  generalize api_Entry_152.enc x = X at hXl hX1 hX hflat
  have hct2 : cur.take (A.length + B.length) = A ++ B := by rw [← hct, hAl, hBl, show i * 2 + (xs.length - i) * 2 = xs.length * 2 by omega]
  have hA : (cur.drop 0).take A.length = A := by
   rw [List.drop_zero, show A.length = min A.length (A.length + B.length) by omega, ← List.take_take, hct2, List.take_left]
  have hBc : (cur.drop (i * 2)).take B.length = B := by
   have h1 : (cur.take (A.length + B.length)).drop A.length = B := by rw [hct2, List.drop_left]
   rw [List.drop_take, Nat.add_sub_cancel_left] at h1
   rw [← hAl]
   exact h1
  have e1 : A.length + X.length = (i + 1) * 2 := by rw [hAl, hXl]; omega
  have e2 : A.length + X.length + B.length = (xs.length + 1) * 2 := by rw [e1, hBl]; omega
  have h63 : c ≤ 9223372036854775807 := hcm
  rcases Nat.lt_or_ge c (xs.length + 1) with hr | hr
  ·refine (api_Entry_152.calls_grow g c gv cv xs.length i cur vcur A X B w h hl hnc hr hg hgv hA hAl hX hXl hX1 hBc hBl hB1).mono ?_
   rintro e w' ⟨G, Z, rfl, h1, h2, hZl, hZA, hh, hf⟩
   refine ⟨_, rfl, ?_, hf w0 hB (below_size hB)⟩
   have hs : (splice (splice Z (i * 2) X) ((i + 1) * 2) B).length = G * k77.sz := by
    rw [length_splice _ _ _ (by rw [length_splice _ _ _ (by rw [hXl, hZl]; omega), hZl, hBl]; omega), length_splice _ _ _ (by rw [hXl, hZl]; omega), hZl, hsz]
   have ht : (splice (splice Z (i * 2) X) ((i + 1) * 2) B).take ((xs.take i ++ x :: xs.drop i).length * k77.sz) = (xs.take i ++ x :: xs.drop i).flatMap api_Entry_152.enc := by
    rw [hlen, hsz, hflat, ← e2, ← e1, ← hAl]
    exact grow_cells Z A B X hZA (by rw [e2, hZl]; omega)
   have hm := hpl.mk_row (xs := xs.take i ++ x :: xs.drop i) (base := w0.heap.size) (c := G) (below_size hB) hh (by rw [hlen]; exact h1) h2 hs ht
   rw [hlen] at hm
   exact hm
  ·refine (api_Entry_152.calls_room g c gv cv xs.length i cur vcur X B w h hl hr h63 hne' hg hcl hgv hX hXl hX1 hBc hBl hB1).mono ?_
   rintro e w' ⟨rfl, hh, hf⟩
   refine ⟨_, rfl, ?_, hf w0 hB hg0⟩
   have hs : (splice (splice cur ((i + 1) * 2) B) (i * 2) X).length = c * k77.sz := by
    rw [length_splice _ _ _ (by rw [length_splice _ _ _ (by rw [hBl, hcl]; omega), hcl, hXl]; omega), length_splice _ _ _ (by rw [hBl, hcl]; omega), hcl, hsz]
   have ht : (splice (splice cur ((i + 1) * 2) B) (i * 2) X).take ((xs.take i ++ x :: xs.drop i).length * k77.sz) = (xs.take i ++ x :: xs.drop i).flatMap api_Entry_152.enc := by
    rw [hlen, hsz, hflat, ← e2, ← e1, ← hAl]
    exact insert_cells cur A B X hct2 (by rw [e2, hcl]; omega)
   have hm := hpl.mk_row (xs := xs.take i ++ x :: xs.drop i) (base := w0.heap.size) (c := c) hg0 hh (by rw [hlen]; exact hr) hcm hs ht
   rw [hlen] at hm
   exact hm
 ·obtain rfl : i = xs.length := by omega
  refine (api_Entry_152.calls_end g c vV xs x w0 w hl HO hnc HV hB).mono ?_
  rintro e w' ⟨v', rfl, h1, h2⟩
  exact ⟨v', rfl, by rw [List.take_length, List.drop_length]; exact h1, h2⟩

end Go.Proofs.Ytkkikdjfigffhab.XDir
