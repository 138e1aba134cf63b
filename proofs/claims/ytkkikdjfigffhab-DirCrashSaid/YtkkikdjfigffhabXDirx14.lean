-- By a program of this work (xprint.py) over the translation; Lean checks it.
import Derived.Test.YtkkikdjfigffhabXDirx0
namespace Go.Proofs.Ytkkikdjfigffhab.XDir
open Go.RowKit Go.Proofs.YtkkikdjfigffhabW.PrintWords Go.Proofs.YtkkikdjfigffhabW.PrintLast Go.Proofs.YtkkikdjfigffhabW.PrintMore
attribute [local go_sem] max2_int min2_int max_two min_two max_three min_three max_four min_four   -- for this text's walks alone
set_option linter.unusedVariables false
set_option linter.unusedSimpArgs false

/-! ### api_Entry_153: function 153 -/
def api_Entry_153.enc (x : S77) : List Value := [.string x.f0, .int .i64 x.f1]
theorem api_Entry_153.plain : PlainKd k77 api_Entry_153.enc where
 len := fun _ => rfl
 pos := show 0 < 2 by decide
 one := fun x v hv => by
  simp only [api_Entry_153.enc, List.mem_cons, List.not_mem_nil, or_false] at hv
  rcases hv with rfl | rfl <;> rfl
 toM := fun w base ok x => k77_mkM w base ok x
 ofM := fun h => k77_openM h
 ofK := fun h => k77_open h
set_option maxHeartbeats 8000000 in
set_option maxRecDepth 100000 in
/-- One element taken out. -/
theorem api_Entry_153.calls (vO : Value) (xs : List S77) (i : Nat) (w0 w : World) (hi : i < xs.length) (hl : xs.length < 1000000) (HO : Kd.R k77 77 w w0.heap.size (fun _ => True) vO xs) (hB : Below w0.heap.size w0 w) :
  Calls Try.prog 153 #[vO, .int .i64 i, .int .i64 ((i : Int) + 1)] w fun e w' => ∃ v', e = .returned v' ∧ Kd.R k77 77 w' w0.heap.size (fun _ => True) v' (xs.eraseIdx i) ∧ Below w0.heap.size w0 w' := by
 have hpl := api_Entry_153.plain
 have hsz : k77.sz = 2 := rfl
 have hinfo : (Try.prog.info? 77).map (·.size) = some k77.sz := by
  obtain ⟨i0, hi0, _, hzs, _⟩ := info_parts info77
  rw [hi0]
  simp [hzs, hsz]
 rcases hpl.row HO with ⟨rfl, rfl⟩ | ⟨g, c, cur0, rfl, hg0, hg, hnc, hcm, hcl0, hct0, _⟩
 ·cases hi
 have hzn : ∀ w, (zeroValue 77).run Try.prog w = .ok (.agg #[.string ⟨#[]⟩, .int .i64 0]) w := Try.zeroValue77
 have key : ∀ (W : World) (ok : Nat → Prop), Kd.R k77 77 W w0.heap.size (fun _ => True) (.slice (some ⟨g, 0, none⟩) (xs.length - 1) c) (xs.eraseIdx i) → Below w0.heap.size w0 W → ∃ cur : List Value, W.heap[g]? = some (.cells cur.toArray 77 (0, 0)) ∧ cur.length = c * 2 ∧ ∀ W' : World, W'.heap[g]? = some (.cells (splice cur ((xs.length - 1) * 2) (.agg #[.string ⟨#[]⟩, .int .i64 0] : Value).cells.toList).toArray 77 (0, 0)) → Kd.R k77 77 W' w0.heap.size (fun _ => True) (.slice (some ⟨g, 0, none⟩) (xs.length - 1) c) (xs.eraseIdx i) := by
  intro W _ hR _
  have hle : (xs.eraseIdx i).length = xs.length - 1 := by rw [List.length_eraseIdx, if_pos hi]
  rcases hpl.row hR with ⟨h0, _⟩ | ⟨g', c', cur, he, hg', hgg, hnc', hcm', hcl, hct, _⟩
  ·cases h0
  ·injection he with he1 he2 he3
   obtain rfl : g = g' := by injection he1 with he1; injection he1
   subst he3
   refine ⟨cur, hgg, hcl, fun W' hW' => ?_⟩
   have hzl : ((.agg #[.string ⟨#[]⟩, .int .i64 0] : Value).cells.toList).length = 2 := rfl
   have h1 := hpl.mk_row (xs := xs.eraseIdx i) (base := w0.heap.size) hg0 hW' hnc' hcm' (by rw [length_splice _ _ _ (by rw [hzl, hcl, hsz]; omega), hcl]) (by
    rw [← hct, hle, hsz]
    unfold splice
    rw [List.take_append_of_le_length (by rw [List.length_take, hcl, hsz]; omega), List.take_take, Nat.min_self])
   rw [hle] at h1
   exact h1
 have HK := mkA key
 have HR := mkA HO
 have HB := mkA hB
 have HI := mkA hinfo
 have hw1 : IntKind.i64.wrap ((i : Int) + 1) = (i : Int) + 1 := by rw [IntKind.wrap_i64]; omega
 have hb1 : (0 : Int) ≤ (i : Int) + 1 := by omega
 have hb2 : (i : Int) ≤ (i : Int) + 1 := by omega
 have hb3 : (i : Int) + 1 ≤ (xs.length : Int) := by omega
 have hb4 : (xs.length : Int) ≤ (c : Int) := by omega
 have hb5 : (i : Int) ≤ (xs.length : Int) := by omega
 have hb6 : ¬ (i = i + 1) := by omega
 have hb7 : ¬ ((i : Int) = (i : Int) + 1) := by omega
 have htn : ((i : Int) + 1).toNat = i + 1 := by omega
 have hci : ¬ (c = i) := by omega
 have hc63 : c ≤ 9223372036854775807 := hcm
 have hgw := blk_lt hg
 clear key hinfo hg hcl0 hct0 hcm HO hB
 have hone : xs.length - (xs.length - 1) = 1 := by omega
 have hb8 : (i : Int) ≤ (c : Int) := by omega
 have hb9 : (i : Int) + 1 ≤ (c : Int) := by omega
 have hd1 : ((xs.length - 1 : Nat) : Int) ≤ (xs.length : Int) := by omega
 have hd2 : ¬ (c = xs.length - 1) := by omega
 have clear_fit : ∀ {cur : List Value}, cur.length = c * 2 → i < xs.length → xs.length ≤ c → (xs.length - 1) * 2 + ((.agg #[.string ⟨#[]⟩, .int .i64 0] : Value).cells.toList).length ≤ cur.length := fun {cur} h1 h2 h3 => by
  rw [h1, show ((.agg #[.string ⟨#[]⟩, .int .i64 0] : Value).cells.toList).length = 2 from rfl]
  omega
 have clear_one : ∀ _ : Unit, ∀ v ∈ (.agg #[.string ⟨#[]⟩, .int .i64 0] : Value).cells.toList, v.oneCell' = true := fun _ v hv => by
  have hv' : v ∈ [.string ⟨#[]⟩, .int .i64 0] := hv
  simp only [List.mem_cons, List.not_mem_nil, or_false] at hv'
  rcases hv' with rfl | rfl <;> rfl
 by_cases hc1 : c = i + 1
 ·subst hc1
  go_enter Try.func153, Try.ntmps153
  go_wp2
  go_region_law (refine Kd.R_delete_step (ok := fun _ => True) (w0 := w0) k77 w0.heap.size (by simp [Region.wanted]) (.tmp 22) (.tmp 25) 64 77 rfl Try.underlying64 HI.out (g := g) (n := xs.length) (c := i + 1) (k := i) (xs := xs) (A := some ⟨g, 0, none⟩) (m := 0) (c2 := 0) ?hs ?hx ?hA ?hm ?hO hi ?hB ?hb ?_; (case hs => simp [Act.eval, Act.put]); (case hx => simp [Act.eval, Act.put]); (case hA => rw [if_pos rfl]); (case hm => omega); (case hO => exact Kd.R_y HR.out); (case hB => exact below_y HB.out); (case hb => exact below_size (below_y HB.out)); intro w1 hr hb hgr; have HB1 := mkA hb; obtain ⟨cur, hcur, hcl, hk⟩ := HK.out w1 (fun _ => True) hr hb; have HKK := mkA hk; have HC := mkA hcur; have hclr : ∀ ty c', (Builtin.clear_ #[64] ty #[.slice (some ⟨g, (xs.length - 1) * 2, none⟩) 1 c']).run Try.prog w1 = .ok (.tuple #[]) (w1.setRow g (splice cur ((xs.length - 1) * 2) (.agg #[.string ⟨#[]⟩, .int .i64 0] : Value).cells.toList).toArray) := fun ty c' => run_clear_one w1 g ((xs.length - 1) * 2) c' 77 64 ty 77 cur _ (.agg #[.string ⟨#[]⟩, .int .i64 0]) Try.underlying64 hzn (by kernel_rfl) HC.out (clear_fit hcl hi hnc) (clear_one ()); clear hr hb hgr hk hcur hcl)
  go_wp2
  go_ret
  exact ⟨_, rfl, HKK.out _ (setRow_heap _ g cur.toArray _ _ _ HC.out), below_setRow HB1.out hg0 _⟩
 ·go_enter Try.func153, Try.ntmps153
  go_wp2
  go_region_law (refine Kd.R_delete_step (ok := fun _ => True) (w0 := w0) k77 w0.heap.size (by simp [Region.wanted]) (.tmp 22) (.tmp 25) 64 77 rfl Try.underlying64 HI.out (g := g) (n := xs.length) (c := c) (k := i) (xs := xs) (A := some ⟨g, (i + 1) * 2, none⟩) (m := xs.length - (i + 1)) (c2 := c - (i + 1)) ?hs ?hx ?hA rfl ?hO hi ?hB ?hb ?_; (case hs => simp [Act.eval, Act.put]); (case hx => simp [Act.eval, Act.put]); (case hA => rw [if_neg hc1]; exact congrArg some (show (⟨g, (i + 1) * 2, none⟩ : Addr) = (⟨g, 0, none⟩ : Addr).add ((i + 1) * 2) by rw [add_plain])); (case hO => exact Kd.R_y HR.out); (case hB => exact below_y HB.out); (case hb => exact below_size (below_y HB.out)); intro w1 hr hb hgr; have HB1 := mkA hb; obtain ⟨cur, hcur, hcl, hk⟩ := HK.out w1 (fun _ => True) hr hb; have HKK := mkA hk; have HC := mkA hcur; have hclr : ∀ ty c', (Builtin.clear_ #[64] ty #[.slice (some ⟨g, (xs.length - 1) * 2, none⟩) 1 c']).run Try.prog w1 = .ok (.tuple #[]) (w1.setRow g (splice cur ((xs.length - 1) * 2) (.agg #[.string ⟨#[]⟩, .int .i64 0] : Value).cells.toList).toArray) := fun ty c' => run_clear_one w1 g ((xs.length - 1) * 2) c' 77 64 ty 77 cur _ (.agg #[.string ⟨#[]⟩, .int .i64 0]) Try.underlying64 hzn (by kernel_rfl) HC.out (clear_fit hcl hi hnc) (clear_one ()); clear hr hb hgr hk hcur hcl)
  go_wp2
  go_ret
  exact ⟨_, rfl, HKK.out _ (setRow_heap _ g cur.toArray _ _ _ HC.out), below_setRow HB1.out hg0 _⟩

end Go.Proofs.Ytkkikdjfigffhab.XDir
