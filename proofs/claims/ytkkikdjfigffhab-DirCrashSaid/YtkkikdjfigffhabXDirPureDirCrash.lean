/- Of directories behind any deeds: what was made sure stays behind a crash, as much as was done is there, and a move of something sure is done, or it is not: for all deeds and crashes. -/
import Derived.Test.YtkkikdjfigffhabXDirTellDirCrash
import Derived.Test.YtkkikdjfigffhabXDirBase2
namespace Go.Proofs.Ytkkikdjfigffhab.XDir
open Go.RowKit Go.Proofs.YtkkikdjfigffhabW.PrintWords Go.Proofs.YtkkikdjfigffhabW.PrintLast Go.Proofs.YtkkikdjfigffhabW.PrintMore

def NmOk (l : List S77) : Prop := ∀ x ∈ l, nameOk x.f0 = true
theorem done_names {l : List S77} (op : S69) (h : NmOk l) : NmOk (specDone l op).1 := by
  have hnil : NmOk [] := fun x hx => by cases hx
  have hrm : NmOk (rm l op.f1) := fun x hx => h x ((List.mem_filter.1 hx).1)
  unfold specDone
  by_cases c1 : op.f0 = 1
  · rw [if_pos c1]
    by_cases cn : nameOk op.f1 = true
    · rw [if_pos cn]
      split
      · exact hnil
      · split
        · exact hnil
        · intro x hx
          rcases mem_ins hx with e | hx
          · rw [e]; exact cn
          · exact h x hx
    · rw [if_neg cn]; exact hnil
  · rw [if_neg c1]
    by_cases c2 : op.f0 = 2
    · rw [if_pos c2]
      split
      · by_cases cn : nameOk op.f2 = true ∧ op.f2.toList ≠ op.f1.toList
        · rw [if_pos cn]
          intro x hx
          rcases mem_ins hx with e | hx
          · rw [e]; exact cn.1
          · exact hrm x hx
        · rw [if_neg cn]; exact hnil
      · exact hnil
    · rw [if_neg c2]
      split
      · split
        · exact hrm
        · exact hnil
      · exact hnil
theorem all_names : ∀ (r : List S69) {l : List S77}, NmOk l → NmOk (specAll l r).1
  | [], _, h => h
  | op :: r, l, h => by
    unfold specAll
    split
    · exact all_names r (done_names op h)
    · exact fun x hx => by cases hx
theorem may_names {l : List S77} (h : mayB l = true) : NmOk l := by
  unfold mayB at h
  rw [Bool.and_eq_true] at h
  intro x hx
  obtain ⟨j, hj, rfl⟩ := List.getElem_of_mem hx
  have h2 := List.all_eq_true.1 h.1 j (List.mem_range'_1.2 ⟨by omega, by omega⟩)
  rw [Bool.and_eq_true, rdE hj] at h2
  exact h2.1
theorem may_mk {l : List S77} (hs : Srt l) (hl : l.length ≤ 100) (hn : NmOk l) : mayB l = true := by
  unfold mayB
  rw [Bool.and_eq_true]
  refine ⟨List.all_eq_true.2 fun j hj => ?_, decide_eq_true hl⟩
  have hj2 := (List.mem_range'_1.1 hj).2
  have hlt : j < l.length := by omega
  rw [Bool.and_eq_true, rdE hlt]
  refine ⟨hn _ (List.getElem_mem hlt), ?_⟩
  by_cases c : j = 0
  · rw [decide_eq_true c]; rfl
  · rw [decide_eq_false c, Bool.false_or, rdE (show j - 1 < l.length by omega)]
    exact List.pairwise_iff_getElem.1 hs (j - 1) j (by omega) hlt (by omega)
theorem named_of {l : List S77} (h : NmOk l) : Named 30 l := by
  intro x hx
  have h1 := h x hx
  unfold nameOk at h1
  rw [Bool.and_eq_true] at h1
  have h2 := of_decide_eq_true h1.2
  have : maxLen = 9223372036854775807 := rfl
  exact ⟨by omega, by omega⟩
theorem all_append : ∀ (pe : List S69) {su now : List S77} (op : S69), specAll su pe = (now, true) → (specDone now op).2 = 0 → specAll su (pe ++ [op]) = ((specDone now op).1, true)
  | [], su, now, op, h, h0 => by
    have e : su = now := congrArg Prod.fst h
    subst e
    show specAll su [op] = _
    unfold specAll
    rw [if_pos h0]
    rfl
  | p :: pe, su, now, op, h, h0 => by
    rw [List.cons_append]
    unfold specAll at h ⊢
    by_cases c : (specDone su p).2 = 0
    · rw [if_pos c] at h ⊢
      exact all_append pe op h h0
    · rw [if_neg c] at h
      have := congrArg Prod.snd h
      cases this
theorem right_mk {now su : List S77} {pe : List S69} (hb : mayB su = true) (ha : specAll su pe = (now, true)) : specRight now su pe = true := by
  unfold specRight
  rw [hb, ha]
  show (true && (true && eqL now now)) = true
  rw [eqL_refl]
  rfl
theorem right_may {now su : List S77} {pe : List S69} (h : specRight now su pe = true) : mayB su = true ∧ mayB now = true := by
  obtain ⟨_, _, ha, hs, hl⟩ := right_spec h
  unfold specRight at h
  rw [Bool.and_eq_true] at h
  have hn := all_names pe (may_names h.1)
  rw [ha] at hn
  exact ⟨h.1, may_mk hs hl hn⟩
theorem right_sync {now su : List S77} {pe : List S69} (h : specRight now su pe = true) : specRight now now [] = true := right_mk (right_may h).2 rfl
def OkD (M n : Nat) (now su : List S77) (pe : List S69) : Prop := specRight now su pe = true ∧ (∀ op ∈ pe, Fit M op) ∧ pe.length ≤ n
theorem OkD.named {M n : Nat} {now su : List S77} {pe : List S69} (h : OkD M n now su pe) : Named 30 su := named_of (may_names (right_may h.1).1)
theorem OkD.do_ {M n : Nat} {now su : List S77} {pe : List S69} (h : OkD M n now su pe) {op : S69} (ho : Fit M op) (h0 : (specDone now op).2 = 0) : OkD M (n + 1) (specDone now op).1 su (pe ++ [op]) := by
  obtain ⟨_, _, ha, _, _⟩ := right_spec h.1
  refine ⟨right_mk (right_may h.1).1 (all_append pe op ha h0), fun o hoo => ?_, by rw [List.length_append, List.length_singleton]; have := h.2.2; omega⟩
  rcases List.mem_append.1 hoo with hoo | hoo
  · exact h.2.1 o hoo
  · rw [List.mem_singleton.1 hoo]; exact ho
theorem made_loop (ops : List S69) (sure : List Bool) (ho : ops.length ≤ 30) (M : Nat) (hM30 : 30 ≤ M) (hM : ∀ op ∈ ops, Fit M op) : ∀ (d k i : Nat) (now su : List S77) (pe : List S69), i + d = ops.length → 2 * d + M + 8000 < k → OkD M i now su pe →
    ∃ now' su' pe', newsreelref10_Made.l0 k ops sure (i : Int) now su pe = some (now', su', pe') ∧ OkD M ops.length now' su' pe' := by
  intro d
  induction d with
  | zero =>
    intro k i now su pe hi hk h
    obtain ⟨k, rfl⟩ : ∃ m, k = m + 1 := ⟨k - 1, by omega⟩
    refine ⟨now, su, pe, ?_, ⟨h.1, h.2.1, by have := h.2.2; omega⟩⟩
    simp only [newsreelref10_Made.l0]
    rw [if_neg (by omega)]
  | succ d ih =>
    intro k i now su pe hi hk h
    obtain ⟨k, rfl⟩ : ∃ m, k = m + 1 + 1 := ⟨k - 2, by omega⟩
    have hlt : i < ops.length := by omega
    have hop := hM _ (List.getElem_mem hlt)
    have hgo : ∀ (now su : List S77) (pe : List S69), OkD M i now su pe → ∃ now' su' pe', ((newsreelref10_Do.f k now su pe (ops[i]).f0 (ops[i]).f1 (ops[i]).f2 (ops[i]).f3).bind fun bt => if bt.2.2.2 = 0 then newsreelref10_Made.l0 k ops sure ((i + 1 : Nat) : Int) bt.1 bt.2.1 bt.2.2.1 else newsreelref10_Made.l0 k ops sure ((i + 1 : Nat) : Int) now su pe) = some (now', su', pe') ∧ OkD M ops.length now' su' pe' := by
      intro now su pe h
      obtain ⟨_, hl, _, _, _⟩ := right_spec h.1
      rw [rdo k now su pe ops[i] (by omega) (by have := h.2.2; omega) M (fun x hx => ⟨(h.named x hx).1, by have := (h.named x hx).2; omega⟩) h.2.1 hop (by omega), Option.bind_some]
      unfold specDo
      rw [if_pos h.1]
      by_cases c : (specDone now ops[i]).2 = 0
      · rw [if_pos c]
        dsimp only
        rw [if_pos rfl]
        exact ih k (i + 1) _ _ _ (by omega) (by omega) (h.do_ hop c)
      · rw [if_neg c]
        dsimp only
        rw [if_neg c]
        exact ih k (i + 1) _ _ _ (by omega) (by omega) ⟨h.1, h.2.1, by have := h.2.2; omega⟩
    have hj : ∀ b : Bool, ∃ now' su' pe', newsreelref10_Made.j1 (k + 1) ops sure (i : Int) b now su pe = some (now', su', pe') ∧ OkD M ops.length now' su' pe' := by
      intro b
      simp only [newsreelref10_Made.j1]
      cases b with
      | true =>
        obtain ⟨_, hl, _, _, _⟩ := right_spec h.1
        rw [if_pos rfl, rsync k now su pe (by omega) (by have := h.2.2; omega) M (fun x hx => ⟨(h.named x hx).1, by have := (h.named x hx).2; omega⟩) h.2.1 (by omega), Option.bind_some]
        unfold specSync
        rw [if_pos h.1, if_pos (show 0 ≤ (i : Int) by omega), if_pos (show (i : Int) < (ops.length : Int) by omega), rdO hlt, inc (by omega)]
        exact hgo now now [] ⟨right_sync h.1, (fun o hoo => by cases hoo), by simp⟩
      | false =>
        rw [if_neg Bool.false_ne_true, if_pos (show 0 ≤ (i : Int) by omega), if_pos (show (i : Int) < (ops.length : Int) by omega), rdO hlt, inc (by omega)]
        exact hgo now su pe h
    simp only [newsreelref10_Made.l0]
    rw [if_pos (show (i : Int) < (ops.length : Int) by omega)]
    by_cases c : (i : Int) < (sure.length : Int)
    · rw [if_pos c, if_pos (show 0 ≤ (i : Int) by omega)]
      exact hj _
    · rw [if_neg c]
      exact hj _
def zz : ByteArray := ⟨#[122, 122]⟩
theorem zz_ok : nameOk zz = true := by kernel_rfl
theorem zz_list : zz.toList = ([122, 122] : List UInt8) := by kernel_rfl
theorem find_first {y : S77} {r : List S77} (su : List S77) (pe : List S69) : dir_Find.f (y :: r) su pe y.f0 = some (y.f1, true) := by
  unfold dir_Find.f
  rw [List.find?_cons_of_pos (by simp)]
theorem find_no {l : List S77} {n : ByteArray} (h : ∀ z ∈ l, z.f0.toList ≠ n.toList) (su : List S77) (pe : List S69) : dir_Find.f l su pe n = some (0, false) := by
  unfold dir_Find.f
  have h2 : l.find? (fun x => x.f0.toList == n.toList) = none := by
    rw [List.find?_eq_none]
    intro x hx
    simpa using h x hx
  rw [h2]
theorem find_ins (x : S77) : ∀ l : List S77, (insS x l).find? (fun y => y.f0.toList == x.f0.toList) = some x
  | [] => by
    unfold insS
    rw [List.find?_cons_of_pos (by simp)]
  | y :: r => by
    unfold insS
    split
    · rename_i h
      rw [List.find?_cons_of_neg (by have := bl_ne h; simpa using this)]
      exact find_ins x r
    · split
      · rw [List.find?_cons_of_pos (by simp)]
      · rw [List.find?_cons_of_pos (by simp)]
theorem DirCrash_pure : newsreellaw10_DirCrash.Pure := by
  intro ops sure n h0 _ _
  obtain ⟨_, hops⟩ := h0
  obtain ⟨M1, hM1⟩ := exists_bound (fun x : S69 => x.f1.size + x.f2.size + 10) ops
  obtain ⟨M, hM⟩ : ∃ M, M = M1 + 100 := ⟨_, rfl⟩
  have hF : ∀ op ∈ ops, Fit M op := fun op ho => ⟨⟨(hops op ho).2.1, (hops op ho).2.2.1⟩, by have := hM1 op ho; omega, by have := hM1 op ho; omega⟩
  have hM100 : 100 ≤ M := by omega
  clear hM hM1
  obtain ⟨K, hK⟩ : ∃ K : Nat, K = M + 9000 := ⟨_, rfl⟩
  refine ⟨K + 100, ?_⟩
  unfold newsreellaw10_DirCrash.f
  by_cases c30 : (ops.length : Int) > 30
  · rw [if_pos c30, awake_true (by omega)]
    rfl
  · rw [if_neg c30]
    have ho : ops.length ≤ 30 := by omega
    have hloop : ∀ (d k i : Nat), i + d = ops.length → d + K + 20 < k → newsreellaw10_DirCrash.l0 k ops sure n (i : Int) = some true := by
      intro d
      induction d with
      | zero =>
        intro k i hi hk
        obtain ⟨k, rfl⟩ : ∃ m, k = m + 1 := ⟨k - 1, by omega⟩
        simp only [newsreellaw10_DirCrash.l0]
        rw [if_neg (by omega)]
        obtain ⟨now, su, pe, hmade, hd⟩ := made_loop ops sure ho M (by omega) hF ops.length k 0 [] [] [] (by omega) (by omega) ⟨by kernel_rfl, (fun o hoo => by cases hoo), by simp⟩
        rw [show newsreelref10_Made.f k ops sure = some (now, su, pe) from hmade, Option.bind_some]
        obtain ⟨hsu, hlsu, hall, hsn, hln⟩ := right_spec hd.1
        have hpl : pe.length ≤ 30 := by have := hd.2.2; omega
        have hN : Named M su := fun x hx => ⟨(hd.named x hx).1, by have := (hd.named x hx).2; omega⟩
        have hs : OkD M 0 now now [] := ⟨right_sync hd.1, (fun o hoo => by cases hoo), by simp⟩
        have hNn : Named M now := fun x hx => ⟨(hs.named x hx).1, by have := (hs.named x hx).2; omega⟩
        rw [dsync k now su pe (by omega) (by omega) M hN hd.2.1 (by omega), Option.bind_some, dright k now su pe (by omega) (by omega) M hN hd.2.1 (by omega), Option.bind_some]
        rw [if_pos hd.1]
        unfold specSync
        rw [if_pos hd.1]
        dsimp only
        rw [dcrash k now now [] n (by omega) (by simp) M hNn (fun o hoo => by cases hoo) (by omega), Option.bind_some]
        rw [show specCrash now now [] n = (now, now, []) by unfold specCrash; rw [if_pos hs.1, List.take_nil]; rfl]
        dsimp only
        rw [req k now now (by omega) (by omega), Option.bind_some, eqL_refl, if_pos rfl]
        rw [dcrash k now su pe _ (by omega) (by omega) M hN hd.2.1 (by omega), Option.bind_some]
        rw [show specCrash now su pe (pe.length : Int) = (now, now, []) by unfold specCrash; rw [if_pos hd.1, Int.toNat_natCast, List.take_length, hall]]
        dsimp only
        rw [req k now now (by omega) (by omega), Option.bind_some, eqL_refl, if_pos rfl]
        rw [dcrash k now su pe 0 (by omega) (by omega) M hN hd.2.1 (by omega), Option.bind_some]
        rw [show specCrash now su pe 0 = (su, su, []) by unfold specCrash; rw [if_pos hd.1]; rfl]
        dsimp only
        rw [req k su su (by omega) (by omega), Option.bind_some, eqL_refl]
        obtain ⟨k, rfl⟩ : ∃ m, k = m + 1 := ⟨k - 1, by omega⟩
        simp only [newsreellaw10_DirCrash.j1]
        rw [if_neg (by decide)]
        have haw : newsreellaw10_awake.f k = some true := awake_true (by omega)
        cases now with
        | nil =>
          rw [if_pos (by rfl), haw]
          rfl
        | cons x r =>
          rw [if_neg (by rw [List.length_cons]; omega), if_pos (by rw [List.length_cons]; omega)]
          have hrd : rd_T77 (x :: r) 0 = x := rfl
          rw [hrd]
          have hat : dir_place.at (x :: r) x.f0 = 0 := at_ge (bl_irrefl _) r
          have hhas : has (x :: r) x.f0 = true := by
            unfold has
            rw [List.any_cons, decide_eq_true rfl, Bool.true_or]
          have hnode : nodeOf (x :: r) x.f0 = x.f1 := by
            unfold nodeOf
            rw [hat]
            rfl
          have hxn : nameOk x.f0 = true := may_names (right_may hd.1).2 x List.mem_cons_self
          have hxs := named_of (may_names (right_may hd.1).2) x List.mem_cons_self
          obtain ⟨op, hop⟩ : ∃ op : S69, op = ⟨2, x.f0, zz, 0⟩ := ⟨_, rfl⟩
          have hfit : Fit M op := by
            rw [hop]
            have e : zz.size = 2 := by kernel_rfl
            have e2 : maxLen = 9223372036854775807 := rfl
            exact ⟨⟨hxs.1, by dsimp only; omega⟩, by have := hxs.2; dsimp only; omega, by dsimp only; omega⟩
          have hdo := ddo k (x :: r) (x :: r) [] op (by omega) (by simp) M hNn (fun o hoo => by cases hoo) hfit (by omega)
          rw [hop] at hdo
          rw [show dir_Do.f k (x :: r) (x :: r) [] 2 x.f0 (⟨#[122, 122]⟩ : ByteArray) 0 = _ from hdo, ← hop, Option.bind_some]
          by_cases cz : x.f0.toList = ([122, 122] : List UInt8)
          · have he : specDone (x :: r) op = ([], 1) := by
              rw [hop]
              unfold specDone
              dsimp only
              rw [if_neg (by decide), if_pos rfl, if_pos hhas, if_neg (fun h => h.2 (by rw [zz_list, cz]))]
            have e1 : specDo (x :: r) (x :: r) [] op = ([], [], [], 1) := by
              unfold specDo
              rw [if_pos hs.1, he]
              rfl
            rw [e1]
            dsimp only
            rw [if_neg (show ¬ ((1 : Int) = 0) by decide), if_pos cz, haw]
            rfl
          · have he : specDone (x :: r) op = (insS ⟨zz, x.f1⟩ (rm (x :: r) x.f0), 0) := by
              rw [hop]
              unfold specDone
              dsimp only
              rw [if_neg (by decide), if_pos rfl, if_pos hhas, if_pos ⟨zz_ok, fun h => cz (by rw [← h, zz_list])⟩, hnode]
            have hd2 := hs.do_ hfit (by rw [he])
            unfold specDo
            rw [if_pos hs.1, he, if_pos rfl]
            dsimp only
            rw [if_pos rfl]
            rw [he] at hd2
            dsimp only at hd2
            rw [List.nil_append] at hd2 ⊢
            rw [dcrash k _ (x :: r) [op] n (by omega) (by simp) M hNn hd2.2.1 (by omega), Option.bind_some]
            have hL : specCrash (insS ⟨zz, x.f1⟩ (rm (x :: r) x.f0)) (x :: r) [op] n = (if n.toNat = 0 then ((x :: r), (x :: r), []) else (insS ⟨zz, x.f1⟩ (rm (x :: r) x.f0), insS ⟨zz, x.f1⟩ (rm (x :: r) x.f0), [])) := by
              unfold specCrash
              rw [if_pos hd2.1]
              by_cases cn : n.toNat = 0
              · rw [if_pos cn, cn]
                rfl
              · rw [if_neg cn, List.take_of_length_le (by simp; omega)]
                have e : specAll (x :: r) [op] = (insS ⟨zz, x.f1⟩ (rm (x :: r) x.f0), true) := (right_spec hd2.1).2.2.1
                rw [e]
            rw [hL]
            by_cases cn : n.toNat = 0
            · rw [if_pos cn]
              dsimp only
              rw [find_first, Option.bind_some]
              obtain ⟨b, hb⟩ : ∃ b, dir_Find.f (x :: r) (x :: r) [] (⟨#[122, 122]⟩ : ByteArray) = some b := ⟨_, rfl⟩
              rw [hb, Option.bind_some, if_pos rfl, if_pos rfl]
              obtain ⟨b1, b2⟩ := b
              dsimp only
              cases b2 with
              | false => rw [if_neg Bool.false_ne_true, haw]; rfl
              | true =>
                rw [if_pos rfl]
                by_cases cb : b1 = x.f1
                · have hh : newsreellaw10_had.f (x :: r) (x :: r) [] b1 = some true := by
                    unfold newsreellaw10_had.f
                    rw [hb, Option.bind_some]
                    dsimp only
                    rw [if_pos rfl]
                    simp
                  rw [if_pos cb, hh, Option.bind_some, if_neg (by simp), haw]
                  rfl
                · rw [if_neg cb, haw]
                  rfl
            · rw [if_neg cn]
              dsimp only
              have hno : ∀ z ∈ insS (⟨zz, x.f1⟩ : S77) (rm (x :: r) x.f0), z.f0.toList ≠ x.f0.toList := by
                intro z hz
                rcases mem_ins hz with e | hz
                · rw [e]
                  intro e2
                  exact cz (by rw [← e2]; exact zz_list)
                · exact of_decide_eq_true (List.mem_filter.1 hz).2
              have hz : dir_Find.f (insS ⟨zz, x.f1⟩ (rm (x :: r) x.f0)) (insS ⟨zz, x.f1⟩ (rm (x :: r) x.f0)) [] (⟨#[122, 122]⟩ : ByteArray) = some (x.f1, true) := by
                unfold dir_Find.f
                rw [show (fun y : S77 => y.f0.toList == (⟨#[122, 122]⟩ : ByteArray).toList) = (fun y : S77 => y.f0.toList == (⟨zz, x.f1⟩ : S77).f0.toList) from rfl, find_ins]
              rw [find_no hno, Option.bind_some, hz, Option.bind_some]
              dsimp only
              rw [if_neg Bool.false_ne_true, if_pos rfl, if_pos rfl, haw]
              rfl
      | succ d ih =>
        intro k i hi hk
        obtain ⟨k, rfl⟩ : ∃ m, k = m + 1 := ⟨k - 1, by omega⟩
        simp only [newsreellaw10_DirCrash.l0]
        rw [if_pos (show (i : Int) < (ops.length : Int) by omega), if_pos (show 0 ≤ (i : Int) by omega), inc (by omega), ih k (i + 1) (by omega) (by omega), awake_true (by omega)]
        split
        · rfl
        · split <;> rfl
    exact hloop ops.length (K + 100) 0 (by omega) (by omega)
end Go.Proofs.Ytkkikdjfigffhab.XDir
