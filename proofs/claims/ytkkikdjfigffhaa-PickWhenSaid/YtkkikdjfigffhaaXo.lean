/- From what a law's argument reads as (the row's own reading) to the printed texts' kinds: whole numbers, bools, strings, slices, structs, arrays, in any nesting. -/
import Derived.Test.YtkkikdjfigffhaaWWords
import Derived.Test.YtkkikdjfigffhaaWShare
import Derived.Test.YtkkikdjfigffhaaWN
import Derived.Test.YtkkikdjfigffhaaWMore
import Derived.Deep.Slices
import Derived.WideShapes
import Derived.ProofKit
import Derived.OpenShut
namespace Go.Proofs.YtkkikdjfigffhaaW.PrintWords
open Go.RowKit Go.ChangeShapes Go.WideShapes
set_option linter.unusedVariables false

/-- Whatever reads as type t tells a value of kind d that is good. -/
def Tell (P : Program) (t : TypeId) {α : Type} (d : Kd α) (g : α → Prop) : Prop :=
  ∀ (H : Type) (enc : TypeId × Value → H) (w : World) (fuel : Nat) (cs : List Value) (x : DataW H × List MemPlace), DataW.trod enc P w 0 (fun _ => true) true fuel t cs = some x → ∃ y : α, d.K w y cs ∧ g y

theorem Tell.imp {P : Program} {t : TypeId} {α : Type} {d : Kd α} {g g' : α → Prop} (h : Tell P t d g) (k : ∀ y, g y → g' y) : Tell P t d g' := by
  intro H enc w fuel cs x hx
  obtain ⟨y, h1, h2⟩ := h H enc w fuel cs x hx
  exact ⟨y, h1, k y h2⟩

theorem tell_int {P : Program} {t : TypeId} {k : IntKind} (ht : P.underlying t = some (.int k)) : Tell P t (Kd.int k) (fun n => (Lit.int k n).wf = true) := by
  intro H enc w fuel cs x hx
  obtain ⟨n, h1, h2, h3⟩ := DataW.trod_int ht hx
  exact ⟨n, h1, h3⟩
theorem tell_bool {P : Program} {t : TypeId} (ht : P.underlying t = some .bool) : Tell P t Kd.bool (fun _ => True) := by
  intro H enc w fuel cs x hx
  cases fuel with
  | zero => simp [DataW.trod] at hx
  | succ n =>
    rw [DataW.trod.eq_def] at hx
    simp only [ht] at hx
    match cs, hx with
    | [.bool b], _ => exact ⟨b, rfl, trivial⟩
theorem tell_string {P : Program} {t : TypeId} (ht : P.underlying t = some .string) : Tell P t Kd.string (fun s => s.size ≤ maxLen) := by
  intro H enc w fuel cs x hx
  cases fuel with
  | zero => simp [DataW.trod] at hx
  | succ n =>
    rw [DataW.trod.eq_def] at hx
    simp only [ht] at hx
    match cs, hx with
    | [.string b], hx =>
      simp only at hx
      split at hx
      · exact ⟨b, rfl, by assumption⟩
      · cases hx
theorem mapM_each {α β : Type} {f : α → Option β} : ∀ {l : List α} {r : List β}, l.mapM f = some r → r.length = l.length ∧ ∀ (i : Nat) (x : α), l[i]? = some x → ∃ y : β, r[i]? = some y ∧ f x = some y
  | [], r, h => by
    simp at h
    subst h
    exact ⟨rfl, fun i x hx => by simp at hx⟩
  | a :: l, r, h => by
    rw [List.mapM_cons] at h
    cases ha : f a with
    | none => rw [ha] at h; cases h
    | some b =>
      rw [ha] at h
      cases hl : l.mapM f with
      | none => rw [hl] at h; cases h
      | some bs =>
        rw [hl] at h
        obtain rfl : b :: bs = r := Option.some.inj h
        obtain ⟨h1, h2⟩ := mapM_each hl
        refine ⟨by simp [h1], fun i x hx => ?_⟩
        cases i with
        | zero =>
          obtain rfl : a = x := by simpa using hx
          exact ⟨b, rfl, ha⟩
        | succ i => exact h2 i x (by simpa using hx)
theorem cell_of_cells? {w : World} {base : Nat} {a : Addr} {n : Nat} {cs : List Value} (h : w.cells? base a n = some cs) : cs.length = n ∧ ∀ i u, cs[i]? = some u → w.cell? (a.add i) = some u := by
  unfold World.cells? at h
  split at h
  · obtain ⟨h1, h2⟩ := mapM_each h
    rw [List.length_range] at h1
    refine ⟨h1, fun i u hi => ?_⟩
    have hi2 : i < cs.length := (List.getElem?_eq_some_iff.1 hi).1
    obtain ⟨y, hy, hf⟩ := h2 i i (by rw [List.getElem?_range (by omega)])
    rw [hi] at hy
    rw [hf, Option.some.inj hy]
  · cases h
theorem choose_list {α : Type} {n : Nat} {p : Nat → α → Prop} (h : ∀ i, i < n → ∃ x, p i x) : ∃ l : List α, l.length = n ∧ ∀ i (hi : i < l.length), p i l[i] := by
  induction n with
  | zero => exact ⟨[], rfl, fun i hi => by simp at hi⟩
  | succ n ih =>
    obtain ⟨l, hl, hp⟩ := ih (fun i hi => h i (by omega))
    obtain ⟨x, hx⟩ := h n (by omega)
    refine ⟨l ++ [x], by simp [hl], fun i hi => ?_⟩
    by_cases hi2 : i < l.length
    · rw [List.getElem_append_left hi2]
      exact hp i hi2
    · have : i = n := by simp at hi; omega
      subst this
      rw [List.getElem_append_right (by omega)]
      simpa [hl] using hx
theorem tell_slice {P : Program} {t e : TypeId} {α : Type} {d : Kd α} {g : α → Prop} (ht : P.underlying t = some (.slice e)) (hs : P.cellsOf e = d.sz) (he : Tell P e d g) : Tell P t (Kd.slice e d) (fun l => l.length ≤ maxLen ∧ ∀ x ∈ l, g x) := by
  intro H enc w fuel cs x hx
  rcases Deep.open_slice ht hx with ⟨rfl, rfl⟩ | ⟨a, len, cap, m, n, D, Pl, rfl, hb, hl, hm, hmm, rfl, hel⟩
  · exact ⟨[], ⟨none, 0, rfl, Nat.le_refl _, Kd.C_nil d w⟩, by simp, by simp⟩
  · have hml : m = cap := by simpa using hmm
    have h1 : ∀ i, i < len → ∃ y : α, (∃ cs', w.cells? 0 (a.add (i * P.cellsOf e)) (P.cellsOf e) = some cs' ∧ d.K w y cs') ∧ g y := by
      intro i hi
      obtain ⟨cs', hc, ht'⟩ := hel i (by omega)
      obtain ⟨y, hk, hg⟩ := he H enc w n cs' _ ht'
      exact ⟨y, ⟨cs', hc, hk⟩, hg⟩
    obtain ⟨l, hll, hp⟩ := choose_list h1
    refine ⟨l, ⟨some a, cap, by rw [hll], by omega, rfl, ?_, fun _ => ⟨a, rfl, fun j p hj => ?_⟩⟩, by omega, fun x hx => ?_⟩
    · unfold maxLen at hm; omega
    · obtain ⟨hj2, rfl⟩ := List.getElem?_eq_some_iff.1 hj
      obtain ⟨⟨cs', hc, hk⟩, _⟩ := hp j hj2
      obtain ⟨hc1, hc2⟩ := cell_of_cells? hc
      refine ⟨cs', by rw [hc1, hs], hk, fun i u hu => ?_⟩
      rw [← hs, ← hc2 i u hu]
      congr 1
      unfold Addr.add
      split <;> split <;> split <;> simp_all <;> omega
    · obtain ⟨j, hj, rfl⟩ := List.getElem_of_mem hx
      exact (hp j hj).2
/-- Fields from 'off' on. -/
def TellF (P : Program) (fs : List Field) (off : Nat) {α : Type} (d : Kd α) (g : α → Prop) : Prop :=
  ∀ (H : Type) (enc : TypeId × Value → H) (w : World) (fuel : Nat) (cs : List Value) (xs : List (DataW H × List MemPlace)), cs.length = off + d.sz →
    (fs.mapM fun f => DataW.trod enc P w 0 (fun _ => true) true fuel f.type ((cs.drop f.offset).take (P.cellsOf f.type))) = some xs → ∃ y : α, d.K w y (cs.drop off) ∧ g y
theorem tellF_one {P : Program} {f : Field} {off : Nat} {α : Type} {d : Kd α} {g : α → Prop} (ho : f.offset = off) (hs : P.cellsOf f.type = d.sz) (h : Tell P f.type d g) : TellF P [f] off d g := by
  intro H enc w fuel cs xs hl hm
  obtain ⟨h1, h2⟩ := mapM_each hm
  obtain ⟨x, _, hx⟩ := h2 0 f rfl
  obtain ⟨y, hk, hg⟩ := h H enc w fuel _ x hx
  rw [ho, hs, List.take_of_length_le (by rw [List.length_drop]; omega)] at hk
  exact ⟨y, hk, hg⟩
theorem tellF_cons {P : Program} {f : Field} {fs : List Field} {off : Nat} {α β : Type} {a : Kd α} {b : Kd β} {g : α → Prop} {g' : β → Prop} (ho : f.offset = off) (hs : P.cellsOf f.type = a.sz) (h : Tell P f.type a g) (k : TellF P fs (off + a.sz) b g') :
    TellF P (f :: fs) off (Kd.pair a b) (fun y => g y.1 ∧ g' y.2) := by
  intro H enc w fuel cs xs hl hm
  have hl2 : cs.length = off + (a.sz + b.sz) := hl
  obtain ⟨h1, h2⟩ := mapM_each hm
  obtain ⟨x, _, hx⟩ := h2 0 f rfl
  obtain ⟨y, hk, hg⟩ := h H enc w fuel _ x hx
  rw [List.mapM_cons] at hm
  cases hr : (fs.mapM fun f => DataW.trod enc P w 0 (fun _ => true) true fuel f.type ((cs.drop f.offset).take (P.cellsOf f.type))) with
  | none =>
    rw [hx, hr] at hm
    cases hm
  | some ys =>
    obtain ⟨z, hz, hg'⟩ := k H enc w fuel cs ys (by omega) hr
    refine ⟨(y, z), ?_, hg, hg'⟩
    rw [ho, hs] at hk
    refine ⟨_, _, ?_, hk, hz⟩
    rw [← List.drop_drop, List.take_append_drop]
theorem tell_struct {P : Program} {t : TypeId} {fs : Array Field} {α β : Type} {d : Kd α} {g : α → Prop} (f : β → α) (mk : α → β) (hf : ∀ a, f (mk a) = a) (ht : P.underlying t = some (.struct fs)) (hs : P.cellsOf t = d.sz) (h : TellF P fs.toList 0 d g) : Tell P t (Kd.iso d f) (fun y => g (f y)) := by
  intro H enc w fuel cs x hx
  cases fuel with
  | zero => simp [DataW.trod] at hx
  | succ n =>
    rw [DataW.trod.eq_def] at hx
    simp only [ht] at hx
    split at hx
    · rename_i hl
      obtain ⟨xs, hxs, _⟩ := Option.map_eq_some_iff.1 hx
      obtain ⟨y, hk, hg⟩ := h H enc w n cs xs (by omega) hxs
      rw [List.drop_zero] at hk
      exact ⟨mk y, by show d.K w (f (mk y)) cs; rw [hf]; exact hk, by show g (f (mk y)); rw [hf]; exact hg⟩
    · cases hx
theorem okWide_arr {P : Program} {w : World} {r : Reach} {base : Nat} {t : TypeId} {v : Value} {n : Nat} {e : TypeId} (ht : P.underlying t = some (.array n e)) (h : Value.okWide P w r base t v) : ∃ cs, v = .agg cs ∧ cs.size = P.cellsOf t := by
  simp only [Value.okWide, ht] at h
  obtain ⟨cs, h1, h2, _⟩ := h
  exact ⟨cs, h1, h2⟩
theorem tell_arr2 {P : Program} {t e : TypeId} {α β : Type} {d : Kd α} {g : α → Prop} (f : β → α × α) (mk : α × α → β) (hf : ∀ a, f (mk a) = a) (ht : P.underlying t = some (.array 2 e)) (hs : P.cellsOf t = 2 * d.sz) (he : P.cellsOf e = d.sz) (h : Tell P e d g) : Tell P t (Kd.iso (Kd.pair d d) f) (fun y => g (f y).1 ∧ g (f y).2) := by
  intro H enc w fuel cs x hx
  cases fuel with
  | zero => simp [DataW.trod] at hx
  | succ n =>
    rw [DataW.trod.eq_def] at hx
    simp only [ht] at hx
    split at hx
    · rename_i hl
      obtain ⟨xs, hxs, _⟩ := Option.map_eq_some_iff.1 hx
      obtain ⟨h1, h2⟩ := mapM_each hxs
      obtain ⟨y0, _, e0⟩ := h2 0 0 rfl
      obtain ⟨y1, _, e1⟩ := h2 1 1 rfl
      obtain ⟨z0, k0, g0⟩ := h H enc w n _ _ e0
      obtain ⟨z1, k1, g1⟩ := h H enc w n _ _ e1
      rw [Nat.zero_mul, List.drop_zero, he] at k0
      rw [Nat.one_mul, he, List.take_of_length_le (by rw [List.length_drop]; omega)] at k1
      refine ⟨mk (z0, z1), ?_, by show g (f (mk (z0, z1))).1 ∧ g (f (mk (z0, z1))).2; rw [hf]; exact ⟨g0, g1⟩⟩
      show (Kd.pair d d).K w (f (mk (z0, z1))) cs
      rw [hf]
      exact ⟨_, _, (List.take_append_drop _ _).symm, k0, k1⟩
    · cases hx
end Go.Proofs.YtkkikdjfigffhaaW.PrintWords
