/- Which episodes go, by the program: the oldest ones of those that may go. -/
import Derived.Test.YtcpojadlnpnbaaaXRetMerge
import Derived.Test.YtcpojadlnpnbaaaXRetx21
namespace Go.Proofs.Ytcpojadlnpnbaaa.XRet
open Go.RowKit Go.Proofs.YtcpojadlnpnbaaaW.PrintWords Go.Proofs.YtcpojadlnpnbaaaW.PrintLast Go.Proofs.YtcpojadlnpnbaaaW.PrintMore
set_option linter.unusedVariables false
set_option linter.unusedSimpArgs false

def pubB (feed : Int) (x : E) : Bool := decide (x.f1 = feed) && decide (x.f7 = 3)
def mayB (feed : Int) (x : E) : Bool := decide (x.f1 = feed) && decide (x.f7 = 3) && !x.f9 && decide (x.f10 = 0)
def cand (feed : Int) (l : List E) : List E := l.filter (mayB feed)
def npub (feed : Int) (l : List E) : Nat := (l.filter (pubB feed)).length
theorem npub_le (feed : Int) (l : List E) : npub feed l ≤ l.length := List.length_filter_le _ _
theorem cand_le (feed : Int) (l : List E) : (cand feed l).length ≤ l.length := List.length_filter_le _ _
theorem rdi {l : List Int} {i : Nat} (h : i < l.length) {z : Int} (e : z = (i : Int) := by omega) : rd l z = l[i] := by
  subst e
  unfold rd
  simp [h]
theorem rd_mid (P R : List E) (x : E) {z : Int} (e : z = (P.length : Int) := by omega) : rd_T29 (P ++ x :: R) z = x := by
  rw [get_at P (x :: R) 0 (by simp) (by omega)]; rfl

/-! ### the program -/
theorem ids_loop (y : List E) (hy : y.length ≤ 1000) : ∀ (n : Nat) (acc : List Int) (i : Nat), i + n = y.length → acc.length ≤ i →
    T (fun k => retain_Over.l1 k acc y (y.length : Int) (i : Int)) (fun r => r = acc ++ (y.drop i).map (·.f0)) := by
  intro n
  induction n with
  | zero =>
    intro acc i hi ha
    refine T.succ (fun k => by rw [retain_Over.l1]) ?_
    exact T.no (by omega) (T.ret (by rw [List.drop_of_length_le (by omega)]; simp))
  | succ n ih =>
    intro acc i hi ha
    refine T.succ (fun k => by rw [retain_Over.l1]) ?_
    rw [w64 (n := (i : Int) + 1), rd_in (l := y) (i := i) (by omega)]
    refine T.yes (by omega) (T.yes (by omega) (T.yes (by omega) (T.yes (by omega) ?_)))
    have := ih (acc ++ [(y[i]'(by omega)).f0]) (i + 1) (by omega) (by simp; omega)
    rw [show ((i + 1 : Nat) : Int) = (i : Int) + 1 by omega] at this
    refine T.mono this (fun r hr => ?_)
    rw [hr, List.drop_eq_getElem_cons (show i < y.length by omega), List.map_cons, List.append_assoc]
    rfl
theorem over_l0 (feed keep q nf ne : Int) (hkeep : keep ≤ 9223372036854775807) (l4 : List S43) (l : List E) (hl : l.length ≤ 34) : ∀ (R P : List E), l = P ++ R →
    T (fun k => retain_Over.l0 k feed (cand feed P) (npub feed P : Int) l (l.length : Int) (P.length : Int) keep q nf ne l4 l)
      (fun r => ∃ S : List E, S.Perm (cand feed l) ∧ S.Pairwise le ∧ r = (S.take ((npub feed l : Int) - mx 0 keep).toNat).map (·.f0)) := by
  intro R
  induction R with
  | nil =>
    intro P hP
    have hP' : P = l := by rw [hP]; simp
    subst hP'
    refine T.succ (fun k => by rw [retain_Over.l0]) ?_
    refine T.no (by omega) ?_
    refine T.bind (sort_law (cand feed P) (Nat.le_trans (cand_le _ _) hl)) (fun S hS => ?_)
    obtain ⟨p1, p2⟩ := hS
    have h1 := npub_le feed P
    have h2 := p1.length_eq
    have h4 := cand_le feed P
    have hk : 0 ≤ mx 0 keep := by unfold mx; split <;> omega
    have hk2 : mx 0 keep ≤ 9223372036854775807 := by unfold mx; split <;> omega
    rw [w64 (n := (npub feed P : Int) - mx 0 keep)]
    generalize hd : (npub feed P : Int) - mx 0 keep = d
    obtain ⟨c, hc⟩ : ∃ c, c = mn ((cand feed P).length : Int) (mx 0 d) := ⟨_, rfl⟩
    have hc0 : 0 ≤ c ∧ c ≤ (cand feed P).length := by rw [hc]; unfold mn mx; split <;> split <;> omega
    have ht : S.take c.toNat = S.take d.toNat := by
      rcases Nat.lt_or_ge S.length d.toNat with h | h
      · have : c.toNat = S.length := by rw [hc]; unfold mn mx; split <;> split <;> omega
        rw [this, List.take_length, List.take_of_length_le (by omega)]
      · have : c.toNat = d.toNat := by rw [hc]; unfold mn mx; split <;> split <;> omega
        rw [this]
    rw [← hc]
    refine T.yes hc0.1 (T.yes hc0.2 ?_)
    have h3 := ids_loop (S.take c.toNat) (by rw [List.length_take]; omega) (S.take c.toNat).length [] 0 (by omega) (by simp)
    refine T.mono (show T (fun k => retain_Over.l1 k [] (S.take c.toNat) ((S.take c.toNat).length : Int) 0) _ from h3) (fun r hr => ⟨S, p1, p2, ?_⟩)
    rw [hr, ht]
    simp
  | cons x R ih =>
    intro P hP
    have hlen : l.length = P.length + R.length + 1 := by rw [hP]; simp; omega
    have ih' := ih (P ++ [x]) (by rw [hP]; simp)
    refine T.succ (fun k => by rw [retain_Over.l0]) ?_
    rw [hP, rd_mid P R x rfl, ← hP]
    refine T.yes (by omega) (T.yes (by omega) (T.yes (by omega) ?_))
    rw [show (((P ++ [x]).length : Nat) : Int) = (P.length : Int) + 1 by simp] at ih'
    have hn := npub_le feed P
    have hc := cand_le feed P
    have hnp : npub feed (P ++ [x]) = npub feed P + (if pubB feed x = true then 1 else 0) := by
      unfold npub
      rw [List.filter_append, List.length_append]
      by_cases h : pubB feed x = true <;> simp [h]
    have hca : cand feed (P ++ [x]) = cand feed P ++ (if mayB feed x = true then [x] else []) := by
      unfold cand
      rw [List.filter_append]
      by_cases h : mayB feed x = true <;> simp [h]
    refine T.ite (fun c => ?_) (fun c => ?_)
    · refine T.succ (fun k => by rw [retain_Over.j1]) ?_
      rw [w64 (n := (P.length : Int) + 1), w64 (n := (npub feed P : Int) + 1)]
      refine T.ite (fun c1 => ?_) (fun c1 => ?_)
      · have hp : pubB feed x = false := by unfold pubB; simp at c1; simp [c1]
        have hm : mayB feed x = false := by unfold mayB; simp at c1; simp [c1]
        rw [hnp, hca, hp, hm] at ih'
        simpa using ih'
      · have hp : pubB feed x = true := by unfold pubB; simp at c1; simp [c1, c]
        rw [hnp, hca, hp, if_pos rfl, show ((npub feed P + 1 : Nat) : Int) = (npub feed P : Int) + 1 by omega] at ih'
        have hmay : retain_may.f x.f0 x.f1 x.f2 x.f3 x.f4 x.f5 x.f6 x.f7 x.f8 x.f9 x.f10 x.f11 x.f12 x.f13 x.f14 x.f15 x.f16 x.f17 x.f18 x.f19 = some (!x.f9 && decide (x.f10 = 0)) := by
          unfold retain_may.f
          cases x.f9 <;> simp <;> rfl
        refine T.bind (f := fun _ => retain_may.f x.f0 x.f1 x.f2 x.f3 x.f4 x.f5 x.f6 x.f7 x.f8 x.f9 x.f10 x.f11 x.f12 x.f13 x.f14 x.f15 x.f16 x.f17 x.f18 x.f19) (F := fun b => b = (!x.f9 && decide (x.f10 = 0))) ⟨_, rfl, 0, fun _ _ => hmay⟩ (fun b hb => ?_)
        have hm : mayB feed x = b := by
          rw [hb]
          unfold mayB
          simp at c1
          simp [c1, c]
        rw [hm] at ih'
        refine T.ite (fun c2 => T.yes (by omega) ?_) (fun c2 => ?_)
        · rw [c2, if_pos rfl] at ih'
          exact ih'
        · rw [if_neg c2, List.append_nil] at ih'
          exact ih'
    · refine T.succ (fun k => by rw [retain_Over.j1]) ?_
      rw [w64 (n := (P.length : Int) + 1)]
      refine T.yes rfl ?_
      have hp : pubB feed x = false := by unfold pubB; simp [c]
      have hm : mayB feed x = false := by unfold mayB; simp [c]
      rw [hnp, hca, hp, hm] at ih'
      simpa using ih'
theorem over_law (feed keep q nf ne : Int) (hkeep : keep ≤ 9223372036854775807) (l4 : List S43) (l : List E) (hl : l.length ≤ 34) :
    T (fun k => retain_Over.f k keep q nf ne l4 l feed) (fun r => ∃ S : List E, S.Perm (cand feed l) ∧ S.Pairwise le ∧ r = (S.take ((npub feed l : Int) - mx 0 keep).toNat).map (·.f0)) := by
  have := over_l0 feed keep q nf ne hkeep l4 l hl l [] rfl
  exact this

end Go.Proofs.Ytcpojadlnpnbaaa.XRet
