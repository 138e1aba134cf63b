/- Directories: what is done to them, made sure, and behind a crash, told by lists; for both of layer 10's laws. -/
import Derived.Test.YtkkikdjfigffhabXDirBase
import Derived.Test.YtkkikdjfigffhabXDirx21
import Derived.Test.YtkkikdjfigffhabXDirx34
import Derived.Test.YtkkikdjfigffhabXDirx36
import Derived.Test.YtkkikdjfigffhabXDirx37
import Derived.Test.YtkkikdjfigffhabXDirx24
import Derived.Test.YtkkikdjfigffhabXDirx25
namespace Go.Proofs.Ytkkikdjfigffhab.XDir
open Go.RowKit Go.Proofs.YtkkikdjfigffhabW.PrintWords Go.Proofs.YtkkikdjfigffhabW.PrintLast Go.Proofs.YtkkikdjfigffhabW.PrintMore

def specDo (now sure : List S77) (pend : List S69) (op : S69) : List S77 × List S77 × List S69 × Int :=
  if specRight now sure pend = true then (if (specDone now op).2 = 0 then ((specDone now op).1, sure, pend ++ [op], 0) else ([], [], [], (specDone now op).2)) else ([], [], [], 10)
theorem clone_law {l : List S77} (h : l.length < 1000000) : api_Entry_91.f l = some l := if_pos h
theorem ddo (k : Nat) (now sure : List S77) (pend : List S69) (op : S69) (hsu : sure.length ≤ 900) (hp : pend.length ≤ 900) (M : Nat) (hM : Named M sure) (hF : ∀ op ∈ pend, Fit M op) (ho : Fit M op) (hk : M + 7000 < k) :
    dir_Do.f k now sure pend op.f0 op.f1 op.f2 op.f3 = some (specDo now sure pend op) := by
  unfold dir_Do.f specDo
  rw [dright k now sure pend (by omega) (by omega) M hM hF (by omega), Option.bind_some]
  by_cases c : specRight now sure pend = true
  · obtain ⟨_, _, _, hs, hl⟩ := right_spec c
    rw [if_pos c, if_pos c, ddone k now op hs (by omega) (ho.le (by omega)), Option.bind_some]
    by_cases c2 : (specDone now op).2 = 0
    · rw [if_pos c2, if_pos c2, clone_law (by omega), Option.bind_some, show api_DirOp.f pend = some pend from if_pos (by omega), Option.bind_some, Option.bind_some]
      rw [if_pos (show pend.length + ([(⟨op.f0, op.f1, op.f2, op.f3⟩ : S69)] : List S69).length < 2932031007402 by simp; omega)]
    · rw [if_neg c2, if_neg c2]
  · rw [if_neg c, if_neg c]
theorem rdo (k : Nat) (now sure : List S77) (pend : List S69) (op : S69) (hsu : sure.length ≤ 900) (hp : pend.length ≤ 900) (M : Nat) (hM : Named M sure) (hF : ∀ op ∈ pend, Fit M op) (ho : Fit M op) (hk : M + 7000 < k) :
    newsreelref10_Do.f k now sure pend op.f0 op.f1 op.f2 op.f3 = some (specDo now sure pend op) := by
  unfold newsreelref10_Do.f specDo
  rw [rright k now sure pend (by omega) (by omega) M hM hF (by omega), Option.bind_some]
  by_cases c : specRight now sure pend = true
  · obtain ⟨_, _, _, hs, hl⟩ := right_spec c
    rw [if_pos c, if_pos c, rdone k now op hs (by omega) (by omega) (ho.le (by omega)), Option.bind_some]
    by_cases c2 : (specDone now op).2 = 0
    · rw [if_pos c2, if_pos c2, Option.bind_some, if_pos (show ([] : List S69).length + pend.length < 2932031007402 by simp; omega), Option.bind_some, Option.bind_some]
      rw [if_pos (show ([] ++ pend : List S69).length + ([(⟨op.f0, op.f1, op.f2, op.f3⟩ : S69)] : List S69).length < 2932031007402 by simp; omega), List.nil_append]
    · rw [if_neg c2, if_neg c2]
  · rw [if_neg c, if_neg c]
def specSync (now sure : List S77) (pend : List S69) : List S77 × List S77 × List S69 := if specRight now sure pend = true then (now, now, []) else ([], [], [])
theorem dsync (k : Nat) (now sure : List S77) (pend : List S69) (hsu : sure.length ≤ 900) (hp : pend.length ≤ 900) (M : Nat) (hM : Named M sure) (hF : ∀ op ∈ pend, Fit M op) (hk : M + 7000 < k) : dir_Sync.f k now sure pend = some (specSync now sure pend) := by
  unfold dir_Sync.f specSync
  rw [dright k now sure pend (by omega) (by omega) M hM hF (by omega), Option.bind_some]
  by_cases c : specRight now sure pend = true
  · obtain ⟨_, _, _, hs, hl⟩ := right_spec c
    rw [if_pos c, if_pos c, clone_law (by omega)]
    rfl
  · rw [if_neg c, if_neg c]
theorem rsync (k : Nat) (now sure : List S77) (pend : List S69) (hsu : sure.length ≤ 900) (hp : pend.length ≤ 900) (M : Nat) (hM : Named M sure) (hF : ∀ op ∈ pend, Fit M op) (hk : M + 7000 < k) : newsreelref10_Sync.f k now sure pend = some (specSync now sure pend) := by
  unfold newsreelref10_Sync.f specSync
  rw [rright k now sure pend (by omega) (by omega) M hM hF (by omega), Option.bind_some]
  by_cases c : specRight now sure pend = true
  · rw [if_pos c, if_pos c]
  · rw [if_neg c, if_neg c]
def specCrash (now sure : List S77) (pend : List S69) (n : Int) : List S77 × List S77 × List S69 :=
  if specRight now sure pend = true then ((specAll sure (pend.take n.toNat)).1, (specAll sure (pend.take n.toNat)).1, []) else ([], [], [])
theorem clamp (n : Int) (len : Nat) : 0 ≤ mx 0 (mn n (len : Int)) ∧ mx 0 (mn n (len : Int)) ≤ (len : Int) ∧ (mx 0 (mn n (len : Int))).toNat = min n.toNat len := by
  unfold mx mn
  split <;> split <;> omega
theorem take_min {α : Type} (l : List α) (n : Nat) : l.take (min n l.length) = l.take n := by
  rcases Nat.le_total n l.length with h | h
  · rw [Nat.min_eq_left h]
  · rw [Nat.min_eq_right h, List.take_length, List.take_of_length_le h]
theorem dcrash (k : Nat) (now sure : List S77) (pend : List S69) (n : Int) (hsu : sure.length ≤ 900) (hp : pend.length ≤ 900) (M : Nat) (hM : Named M sure) (hF : ∀ op ∈ pend, Fit M op) (hk : M + 7000 < k) : dir_Crash.f k now sure pend n = some (specCrash now sure pend n) := by
  unfold dir_Crash.f specCrash
  rw [dright k now sure pend (by omega) (by omega) M hM hF (by omega), Option.bind_some]
  by_cases c : specRight now sure pend = true
  · obtain ⟨hs, hl, _, _, _⟩ := right_spec c
    obtain ⟨h0, h1, h2⟩ := clamp n pend.length
    have hg := all_good (pend.take n.toNat) hs hl
    rw [if_pos c, if_pos c, if_pos h0, if_pos h1, h2, take_min, dall k sure _ (by rw [List.length_take]; omega) M (fun op ho => hF op (List.mem_of_mem_take ho)) (by omega) hs hl, Option.bind_some, clone_law (by omega)]
    rfl
  · rw [if_neg c, if_neg c]
theorem find_at_law (now sure : List S77) (pend : List S69) (n : ByteArray) :
    (atF now n 0 = -1 ∧ dir_Find.f now sure pend n = some (0, false)) ∨ ∃ (j : Nat) (hj : j < now.length), atF now n 0 = (j : Int) ∧ dir_Find.f now sure pend n = some ((now[j]).f1, true) := by
  have hp : (fun x : S77 => x.f0.toList == n.toList) = fun y : S77 => decide (y.f0.toList = n.toList) := by
    funext x
    rw [Bool.eq_iff_iff]
    simp
  unfold dir_Find.f atF
  rw [hp, List.drop_zero]
  cases h : now.findIdx? (fun y : S77 => decide (y.f0.toList = n.toList)) with
  | none =>
    rw [List.findIdx?_eq_none_iff] at h
    have h2 : now.find? (fun y : S77 => decide (y.f0.toList = n.toList)) = none := by
      rw [List.find?_eq_none]
      intro x hx
      rw [h x hx]
      exact Bool.false_ne_true
    exact .inl ⟨rfl, by rw [h2]⟩
  | some j =>
    rw [List.findIdx?_eq_some_iff_getElem] at h
    obtain ⟨hj, h1, h2⟩ := h
    refine .inr ⟨j, hj, by simp, ?_⟩
    rw [find_at hj (fun i hi hlt => by simpa using h2 i hlt) h1]
theorem exists_bound {α : Type} (g : α → Nat) : ∀ l : List α, ∃ M, ∀ x ∈ l, g x < M
  | [] => ⟨0, fun x hx => by cases hx⟩
  | a :: r => by
    obtain ⟨M, hM⟩ := exists_bound g r
    refine ⟨M + g a + 1, fun x hx => ?_⟩
    rcases List.mem_cons.1 hx with e | hx
    · rw [e]; omega
    · have := hM x hx; omega
theorem awake_100 : newsreellaw10_awake.f 100 = some true := by kernel_rfl
theorem awake_true {k : Nat} (h : 100 ≤ k) : newsreellaw10_awake.f k = some true := at_rounds newsreellaw10_awake.mono h awake_100
end Go.Proofs.Ytkkikdjfigffhab.XDir
