/- Which episodes go, by the program and by the reference: both take the oldest ones of those that may go. -/
import Derived.Test.YtcpojadlnpnbaaaXRetMerge
import Derived.Test.YtcpojadlnpnbaaaXRetx34
namespace Go.Proofs.Ytcpojadlnpnbaaa.XRet
open Go.RowKit Go.Proofs.YtcpojadlnpnbaaaW.PrintWords Go.Proofs.YtcpojadlnpnbaaaW.PrintLast Go.Proofs.YtcpojadlnpnbaaaW.PrintMore
set_option linter.unusedVariables false
set_option linter.unusedSimpArgs false

def pubB (feed : Int) (x : E) : Bool := decide (x.f1 = feed) && decide (x.f7 = 3)
def mayB (feed : Int) (x : E) : Bool := decide (x.f1 = feed) && decide (x.f7 = 3) && !x.f9 && decide (x.f10 = 0)
def cand (feed : Int) (l : List E) : List E := l.filter (mayB feed)
def npub (feed : Int) (l : List E) : Nat := (l.filter (pubB feed)).length
theorem npub_le (feed : Int) (l : List E) : npub feed l ≤ l.length := List.length_filter_le _ _
theorem cand_le (feed : Int) (l : List E) : (cand feed l).length ≤ l.length := List.length_filter_le _ _
theorem rdi {l : List Int} {i : Nat} (h : i < l.length) {z : Int} (e : z = (i : Int) := by omega) : rd l z = l[i] := by
  subst e
  unfold rd
  simp [h]
theorem rd_mid (P R : List E) (x : E) {z : Int} (e : z = (P.length : Int) := by omega) : rd_T29 (P ++ x :: R) z = x := by
  rw [get_at P (x :: R) 0 (by simp) (by omega)]; rfl

/-! ### the program -/
theorem ids_loop (y : List E) (hy : y.length ≤ 1000) : ∀ (n : Nat) (acc : List Int) (i : Nat), i + n = y.length → acc.length ≤ i →
    T (fun k => retain_Over.l1 k acc y (y.length : Int) (i : Int)) (fun r => r = acc ++ (y.drop i).map (·.f0)) := by
  intro n
  induction n with
  | zero =>
    intro acc i hi ha
    refine T.succ (fun k => by rw [retain_Over.l1]) ?_
    exact T.no (by omega) (T.ret (by rw [List.drop_of_length_le (by omega)]; simp))
  | succ n ih =>
    intro acc i hi ha
    refine T.succ (fun k => by rw [retain_Over.l1]) ?_
    rw [w64 (n := (i : Int) + 1), rd_in (l := y) (i := i) (by omega)]
    refine T.yes (by omega) (T.yes (by omega) (T.yes (by omega) (T.yes (by omega) ?_)))
    have := ih (acc ++ [(y[i]'(by omega)).f0]) (i + 1) (by omega) (by simp; omega)
    rw [show ((i + 1 : Nat) : Int) = (i : Int) + 1 by omega] at this
    refine T.mono this (fun r hr => ?_)
    rw [hr, List.drop_eq_getElem_cons (show i < y.length by omega), List.map_cons, List.append_assoc]
    rfl
theorem over_l0 (feed keep q nf ne : Int) (hkeep : keep ≤ 9223372036854775807) (l4 : List S43) (l : List E) (hl : l.length ≤ 34) : ∀ (R P : List E), l = P ++ R →
    T (fun k => retain_Over.l0 k feed (cand feed P) (npub feed P : Int) l (l.length : Int) (P.length : Int) keep q nf ne l4 l)
      (fun r => ∃ S : List E, S.Perm (cand feed l) ∧ S.Pairwise le ∧ r = (S.take ((npub feed l : Int) - mx 0 keep).toNat).map (·.f0)) := by
  intro R
  induction R with
  | nil =>
    intro P hP
    have hP' : P = l := by rw [hP]; simp
    subst hP'
    refine T.succ (fun k => by rw [retain_Over.l0]) ?_
    refine T.no (by omega) ?_
    refine T.bind (sort_law (cand feed P) (Nat.le_trans (cand_le _ _) hl)) (fun S hS => ?_)
    obtain ⟨p1, p2⟩ := hS
    have h1 := npub_le feed P
    have h2 := p1.length_eq
    have h4 := cand_le feed P
    have hk : 0 ≤ mx 0 keep := by unfold mx; split <;> omega
    have hk2 : mx 0 keep ≤ 9223372036854775807 := by unfold mx; split <;> omega
    rw [w64 (n := (npub feed P : Int) - mx 0 keep)]
    generalize hd : (npub feed P : Int) - mx 0 keep = d
    obtain ⟨c, hc⟩ : ∃ c, c = mn ((cand feed P).length : Int) (mx 0 d) := ⟨_, rfl⟩
    have hc0 : 0 ≤ c ∧ c ≤ (cand feed P).length := by rw [hc]; unfold mn mx; split <;> split <;> omega
    have ht : S.take c.toNat = S.take d.toNat := by
      rcases Nat.lt_or_ge S.length d.toNat with h | h
      · have : c.toNat = S.length := by rw [hc]; unfold mn mx; split <;> split <;> omega
        rw [this, List.take_length, List.take_of_length_le (by omega)]
      · have : c.toNat = d.toNat := by rw [hc]; unfold mn mx; split <;> split <;> omega
        rw [this]
    rw [← hc]
    refine T.yes hc0.1 (T.yes hc0.2 ?_)
    have h3 := ids_loop (S.take c.toNat) (by rw [List.length_take]; omega) (S.take c.toNat).length [] 0 (by omega) (by simp)
    refine T.mono (show T (fun k => retain_Over.l1 k [] (S.take c.toNat) ((S.take c.toNat).length : Int) 0) _ from h3) (fun r hr => ⟨S, p1, p2, ?_⟩)
    rw [hr, ht]
    simp
  | cons x R ih =>
    intro P hP
    have hlen : l.length = P.length + R.length + 1 := by rw [hP]; simp; omega
    have ih' := ih (P ++ [x]) (by rw [hP]; simp)
    refine T.succ (fun k => by rw [retain_Over.l0]) ?_
    rw [hP, rd_mid P R x rfl, ← hP]
    refine T.yes (by omega) (T.yes (by omega) (T.yes (by omega) ?_))
    rw [show (((P ++ [x]).length : Nat) : Int) = (P.length : Int) + 1 by simp] at ih'
    have hn := npub_le feed P
    have hc := cand_le feed P
    have hnp : npub feed (P ++ [x]) = npub feed P + (if pubB feed x = true then 1 else 0) := by
      unfold npub
      rw [List.filter_append, List.length_append]
      by_cases h : pubB feed x = true <;> simp [h]
    have hca : cand feed (P ++ [x]) = cand feed P ++ (if mayB feed x = true then [x] else []) := by
      unfold cand
      rw [List.filter_append]
      by_cases h : mayB feed x = true <;> simp [h]
    refine T.ite (fun c => ?_) (fun c => ?_)
    · refine T.succ (fun k => by rw [retain_Over.j1]) ?_
      rw [w64 (n := (P.length : Int) + 1), w64 (n := (npub feed P : Int) + 1)]
      refine T.ite (fun c1 => ?_) (fun c1 => ?_)
      · have hp : pubB feed x = false := by unfold pubB; simp at c1; simp [c1]
        have hm : mayB feed x = false := by unfold mayB; simp at c1; simp [c1]
        rw [hnp, hca, hp, hm] at ih'
        simpa using ih'
      · have hp : pubB feed x = true := by unfold pubB; simp at c1; simp [c1, c]
        rw [hnp, hca, hp, if_pos rfl, show ((npub feed P + 1 : Nat) : Int) = (npub feed P : Int) + 1 by omega] at ih'
        have hmay : retain_may.f x.f0 x.f1 x.f2 x.f3 x.f4 x.f5 x.f6 x.f7 x.f8 x.f9 x.f10 x.f11 x.f12 x.f13 x.f14 x.f15 x.f16 x.f17 x.f18 x.f19 = some (!x.f9 && decide (x.f10 = 0)) := by
          unfold retain_may.f
          cases x.f9 <;> simp <;> rfl
        refine T.bind (f := fun _ => retain_may.f x.f0 x.f1 x.f2 x.f3 x.f4 x.f5 x.f6 x.f7 x.f8 x.f9 x.f10 x.f11 x.f12 x.f13 x.f14 x.f15 x.f16 x.f17 x.f18 x.f19) (F := fun b => b = (!x.f9 && decide (x.f10 = 0))) ⟨_, rfl, 0, fun _ _ => hmay⟩ (fun b hb => ?_)
        have hm : mayB feed x = b := by
          rw [hb]
          unfold mayB
          simp at c1
          simp [c1, c]
        rw [hm] at ih'
        refine T.ite (fun c2 => T.yes (by omega) ?_) (fun c2 => ?_)
        · rw [c2, if_pos rfl] at ih'
          exact ih'
        · rw [if_neg c2, List.append_nil] at ih'
          exact ih'
    · refine T.succ (fun k => by rw [retain_Over.j1]) ?_
      rw [w64 (n := (P.length : Int) + 1)]
      refine T.yes rfl ?_
      have hp : pubB feed x = false := by unfold pubB; simp [c]
      have hm : mayB feed x = false := by unfold mayB; simp [c]
      rw [hnp, hca, hp, hm] at ih'
      simpa using ih'
theorem over_law (feed keep q nf ne : Int) (hkeep : keep ≤ 9223372036854775807) (l4 : List S43) (l : List E) (hl : l.length ≤ 34) :
    T (fun k => retain_Over.f k keep q nf ne l4 l feed) (fun r => ∃ S : List E, S.Perm (cand feed l) ∧ S.Pairwise le ∧ r = (S.take ((npub feed l : Int) - mx 0 keep).toNat).map (·.f0)) := by
  have := over_l0 feed keep q nf ne hkeep l4 l hl l [] rfl
  exact this

/-! ### the reference -/
theorem pub_l0 (feed : Int) (l : List E) (hl : l.length ≤ 34) : ∀ (R P : List E), l = P ++ R → T (fun k => newsreelref41_published.l0 k l feed (npub feed P : Int) (P.length : Int)) (fun r => r = (npub feed l : Int)) := by
  intro R
  induction R with
  | nil =>
    intro P hP
    have hP' : P = l := by rw [hP]; simp
    subst hP'
    exact T.succ (fun k => by rw [newsreelref41_published.l0]) (T.no (by omega) (T.ret rfl))
  | cons x R ih =>
    intro P hP
    have hlen : l.length = P.length + R.length + 1 := by rw [hP]; simp; omega
    have ih' := ih (P ++ [x]) (by rw [hP]; simp)
    refine T.succ (fun k => by rw [newsreelref41_published.l0]) ?_
    rw [hP, rd_mid P R x rfl, ← hP]
    have hn := npub_le feed P
    rw [show (((P ++ [x]).length : Nat) : Int) = (P.length : Int) + 1 by simp, show npub feed (P ++ [x]) = npub feed P + (if pubB feed x = true then 1 else 0) by
      unfold npub
      rw [List.filter_append, List.length_append]
      by_cases h : pubB feed x = true <;> simp [h]] at ih'
    rw [w64 (n := (P.length : Int) + 1), w64 (n := (npub feed P : Int) + 1)]
    refine T.yes (by omega) (T.yes (by omega) ?_)
    refine T.ite (fun c => T.ite (fun c1 => ?_) (fun c1 => ?_)) (fun c => ?_)
    · have hp : pubB feed x = true := by unfold pubB; simp [c, c1]
      rw [hp, if_pos rfl] at ih'
      simpa using ih'
    · have hp : pubB feed x = false := by unfold pubB; simp [c, c1]
      rw [hp] at ih'
      simpa using ih'
    · have hp : pubB feed x = false := by unfold pubB; simp [c]
      rw [hp] at ih'
      simpa using ih'
theorem pub_law (feed : Int) (l : List E) (hl : l.length ≤ 34) : T (fun k => newsreelref41_published.f k l feed) (fun r => r = (npub feed l : Int)) := pub_l0 feed l hl l [] rfl
def gone (x : E) : E := ⟨x.f0, x.f1, x.f2, x.f3, x.f4, x.f5, x.f6, 5, x.f8, x.f9, x.f10, x.f11, x.f12, x.f13, x.f14, x.f15, x.f16, x.f17, x.f18, x.f19⟩
/-- One search: the place of one that may go, with none older than it; or none may. -/
theorem best_l1 (feed keep : Int) (acc : List Int) (l : List E) (hl : l.length ≤ 34) (hacc : acc.length ≤ 40) (G : List Int → Prop)
    (h0 : cand feed l = [] → G acc) (h1 : ∀ b : Nat, (h : b < l.length) → mayB feed l[b] = true → (∀ y ∈ cand feed l, ¬ lt y l[b]) → T (fun k => newsreelref41_Over.l0 k feed (l.set b (gone l[b])) keep (acc ++ [(l[b]).f0])) G) :
    ∀ (R P : List E) (bi : Int), l = P ++ R → (bi = -1 ∧ cand feed P = [] ∨ ∃ b : Nat, ∃ h : b < P.length, bi = b ∧ mayB feed P[b] = true ∧ ∀ y ∈ cand feed P, ¬ lt y P[b]) →
      T (fun k => newsreelref41_Over.l1 k feed l keep acc bi (P.length : Int)) G := by
  intro R
  induction R with
  | nil =>
    intro P bi hP hb
    have hP' : P = l := by rw [hP]; simp
    subst hP'
    refine T.succ (fun k => by rw [newsreelref41_Over.l1]) (T.no (by omega) ?_)
    rcases hb with ⟨rfl, hc⟩ | ⟨b, h, rfl, hm, hc⟩
    · exact T.yes (by omega) (T.ret (h0 hc))
    · refine T.no (by omega) (T.yes (by omega) (T.yes (by omega) (T.yes (by omega) ?_)))
      rw [rd_in h rfl]
      exact h1 b h hm hc
  | cons x R ih =>
    intro P bi hP hb
    have hlen : l.length = P.length + R.length + 1 := by rw [hP]; simp; omega
    have ih' := fun bi => ih (P ++ [x]) bi (by rw [hP]; simp)
    rw [show (((P ++ [x]).length : Nat) : Int) = (P.length : Int) + 1 by simp, show cand feed (P ++ [x]) = cand feed P ++ (if mayB feed x = true then [x] else []) by
      unfold cand
      rw [List.filter_append]
      by_cases h : mayB feed x = true <;> simp [h]] at ih'
    refine T.succ (fun k => by rw [newsreelref41_Over.l1]) ?_
    rw [show rd_T29 l (P.length : Int) = x by rw [hP]; exact rd_mid P R x rfl, w64 (n := (P.length : Int) + 1)]
    refine T.yes (by omega) (T.yes (by omega) ?_)
    have hmay : newsreelref41_May.f x.f0 x.f1 x.f2 x.f3 x.f4 x.f5 x.f6 x.f7 x.f8 x.f9 x.f10 x.f11 x.f12 x.f13 x.f14 x.f15 x.f16 x.f17 x.f18 x.f19 feed = some (mayB feed x) := by
      unfold newsreelref41_May.f mayB
      by_cases c1 : x.f1 = feed <;> by_cases c2 : x.f7 = 3 <;> cases c3 : x.f9 <;> simp [c1, c2] <;> rfl
    refine T.bind (f := fun _ => newsreelref41_May.f x.f0 x.f1 x.f2 x.f3 x.f4 x.f5 x.f6 x.f7 x.f8 x.f9 x.f10 x.f11 x.f12 x.f13 x.f14 x.f15 x.f16 x.f17 x.f18 x.f19 feed) (F := fun b => b = mayB feed x) ⟨_, rfl, 0, fun _ _ => hmay⟩ (fun m hm => ?_)
    rw [← hm] at ih'
    have here : (P ++ [x])[P.length]'(by simp) = x := by simp
    refine T.ite (fun c => ?_) (fun c => ?_)
    · rw [c, if_pos rfl] at ih'
      rcases hb with ⟨rfl, hc⟩ | ⟨b, h, rfl, hmb, hc⟩
      · refine T.yes (by omega) (ih' _ (Or.inr ⟨P.length, by simp, rfl, by rw [here, ← hm, c], fun y hy => ?_⟩))
        rw [here]
        rw [hc] at hy
        simp at hy
        rw [hy]
        exact le_rfl x
      · have hPb : (P ++ [x])[b]'(by simp; omega) = P[b] := List.getElem_append_left h
        refine T.no (by omega) (T.yes (by omega) (T.yes (by omega) ?_))
        rw [show rd_T29 l (b : Int) = P[b] by rw [rd_in (show b < l.length by omega) rfl]; simp only [hP]; exact List.getElem_append_left h]
        have hold : newsreelref41_older.f x.f0 x.f1 x.f2 x.f3 x.f4 x.f5 x.f6 x.f7 x.f8 x.f9 x.f10 x.f11 x.f12 x.f13 x.f14 x.f15 x.f16 x.f17 x.f18 x.f19 P[b].f0 P[b].f1 P[b].f2 P[b].f3 P[b].f4 P[b].f5 P[b].f6 P[b].f7 P[b].f8 P[b].f9 P[b].f10 P[b].f11 P[b].f12 P[b].f13 P[b].f14 P[b].f15 P[b].f16 P[b].f17 P[b].f18 P[b].f19 = some (decide (lt x P[b])) := by
          unfold newsreelref41_older.f lt
          by_cases d1 : x.f5 < P[b].f5 <;> by_cases d2 : x.f5 = P[b].f5 <;> simp [d1, d2] <;> omega
        refine T.bind (f := fun _ => _) (F := fun o => o = decide (lt x P[b])) ⟨_, rfl, 0, fun _ _ => hold⟩ (fun o ho => ?_)
        refine T.ite (fun d => ?_) (fun d => ?_)
        · have hlt : lt x P[b] := by rw [d] at ho; exact of_decide_eq_true ho.symm
          refine ih' _ (Or.inr ⟨P.length, by simp, rfl, by rw [here, ← hm, c], fun y hy => ?_⟩)
          rw [here]
          rcases List.mem_append.mp hy with h' | h'
          · exact fun z => hc y h' (lt_lt z hlt)
          · rw [List.mem_singleton] at h'; rw [h']; exact le_rfl x
        · have hnlt : ¬ lt x P[b] := fun z => d (by rw [ho]; exact decide_eq_true z)
          refine ih' _ (Or.inr ⟨b, by simp; omega, rfl, by rw [hPb]; exact hmb, fun y hy => ?_⟩)
          rw [hPb]
          rcases List.mem_append.mp hy with h' | h'
          · exact hc y h'
          · rw [List.mem_singleton] at h'; rw [h']; exact hnlt
    · rw [if_neg c, List.append_nil] at ih'
      refine ih' _ ?_
      rcases hb with hb | ⟨b, h, rfl, hmb, hc⟩
      · exact Or.inl hb
      · have hPb : (P ++ [x])[b]'(by simp; omega) = P[b] := List.getElem_append_left h
        exact Or.inr ⟨b, by simp; omega, rfl, by rw [hPb]; exact hmb, by rw [hPb]; exact hc⟩
theorem ref_l0 (feed keep : Int) (hk : 0 ≤ keep) : ∀ (S l : List E) (acc : List Int), l.length ≤ 34 → acc.length + S.length ≤ 34 → S.Perm (cand feed l) → S.Pairwise lt →
    T (fun k => newsreelref41_Over.l0 k feed l keep acc) (fun r => r = acc ++ (S.take ((npub feed l : Int) - keep).toNat).map (·.f0)) := by
  intro S
  induction S with
  | nil =>
    intro l acc hl ha hp hs
    refine T.succ (fun k => by rw [newsreelref41_Over.l0]) ?_
    refine T.bind (pub_law feed l hl) (fun n hn => ?_)
    subst hn
    refine T.ite (fun c => ?_) (fun c => T.ret (by simp))
    have hc : cand feed l = [] := List.Perm.nil_eq hp |>.symm
    refine best_l1 feed keep acc l hl (by simp at ha; omega) _ (fun _ => by simp) (fun b h hm _ => ?_) l [] (-1) rfl (Or.inl ⟨rfl, rfl⟩)
    exact absurd (show l[b] ∈ cand feed l from List.mem_filter.mpr ⟨List.getElem_mem h, hm⟩) (by rw [hc]; simp)
  | cons x S ih =>
    intro l acc hl ha hp hs
    refine T.succ (fun k => by rw [newsreelref41_Over.l0]) ?_
    refine T.bind (pub_law feed l hl) (fun n hn => ?_)
    subst hn
    refine T.ite (fun c => ?_) (fun c => T.ret (by rw [show ((npub feed l : Int) - keep).toNat = 0 by omega]; simp))
    refine best_l1 feed keep acc l hl (by simp at ha; omega) _ (fun h0 => ?_) (fun b h hm hc => ?_) l [] (-1) rfl (Or.inl ⟨rfl, rfl⟩)
    · rw [h0] at hp
      exact absurd hp.length_eq (by simp)
    · have hb : l[b] = x := by
        have hmem : l[b] ∈ x :: S := hp.mem_iff.mpr (List.mem_filter.mpr ⟨List.getElem_mem h, hm⟩)
        rcases List.mem_cons.mp hmem with e | e
        · exact e
        · exact absurd ((List.pairwise_cons.mp hs).1 _ e) (hc x (hp.mem_iff.mp (by simp)))
      rw [hb] at hm ⊢
      obtain ⟨L1, L2, e1, e2⟩ : ∃ L1 L2, l = L1 ++ x :: L2 ∧ L1.length = b := ⟨l.take b, l.drop (b + 1), by rw [← hb, ← List.drop_eq_getElem_cons h, List.take_append_drop], by rw [List.length_take]; omega⟩
      have eset : l.set b (gone x) = L1 ++ gone x :: L2 := by
        rw [e1, List.set_append_right _ _ (by omega), show b - L1.length = 0 by omega]; rfl
      have hpx : pubB feed x = true := by unfold mayB at hm; unfold pubB; simp at hm ⊢; exact ⟨hm.1.1.1, hm.1.1.2⟩
      have c1 : cand feed l = cand feed L1 ++ x :: cand feed L2 := by rw [e1]; unfold cand; simp [hm]
      have c2 : cand feed (L1 ++ gone x :: L2) = cand feed L1 ++ cand feed L2 := by unfold cand; simp [mayB, gone]
      have n1 : npub feed l = npub feed L1 + npub feed L2 + 1 := by rw [e1]; unfold npub; simp [hpx]; omega
      have n2 : npub feed (L1 ++ gone x :: L2) = npub feed L1 + npub feed L2 := by unfold npub; simp [pubB, gone]
      have hp2 : S.Perm (cand feed (L1 ++ gone x :: L2)) := by
        rw [c2]
        rw [c1] at hp
        exact (hp.trans List.perm_middle).cons_inv
      have := ih (L1 ++ gone x :: L2) (acc ++ [x.f0]) (by rw [e1] at hl; simpa using hl) (by simp at ha ⊢; omega) hp2 (List.pairwise_cons.mp hs).2
      rw [eset]
      refine T.mono this (fun r hr => ?_)
      rw [hr, n2, show ((npub feed l : Int) - keep).toNat = (((npub feed L1 + npub feed L2 : Nat) : Int) - keep).toNat + 1 by omega]
      simp
theorem ref_law (feed keep q nf ne : Int) (l4 : List S43) (l S : List E) (hl : l.length ≤ 34) (hp : S.Perm (cand feed l)) (hs : S.Pairwise lt) :
    T (fun k => newsreelref41_Over.f k keep q nf ne l4 l feed) (fun r => r = (S.take ((npub feed l : Int) - mx 0 keep).toNat).map (·.f0)) := by
  have hk : 0 ≤ mx keep 0 := by unfold mx; split <;> omega
  have h := ref_l0 feed (mx keep 0) hk S l [] hl (by have := hp.length_eq; have := cand_le feed l; simp; omega) hp hs
  rw [show mx keep 0 = mx 0 keep by unfold mx; split <;> split <;> omega] at h
  have : (fun k => newsreelref41_Over.f k keep q nf ne l4 l feed) = fun k => newsreelref41_Over.l0 k feed l (mx keep 0) [] := by
    funext k
    unfold newsreelref41_Over.f
    rw [Option.bind_some, if_pos (show ([] : List E).length + l.length < _ by simp; omega)]
    rfl
  rw [this, show mx keep 0 = mx 0 keep by unfold mx; split <;> split <;> omega]
  simpa using h
end Go.Proofs.Ytcpojadlnpnbaaa.XRet
