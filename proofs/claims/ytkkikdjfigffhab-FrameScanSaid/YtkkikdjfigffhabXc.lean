/- Words of this work that the printed texts lack: a call through a known function value, the place of the first element that meets a test. -/
import Derived.Test.YtkkikdjfigffhabWWords
import Derived.Test.YtkkikdjfigffhabWLast
import Derived.Test.YtkkikdjfigffhabWMore
import Derived.Test.YtkkikdjfigffhabWRepsOne
import Derived.Laws.CopyOwn
namespace Go.Proofs.YtkkikdjfigffhabW.PrintWords
open Go.RowKit Go.Proofs.YtkkikdjfigffhabW.PrintLast
set_option linter.unusedVariables false

theorem goesV_ {P : Program} {ops : Array Oper} {Q : Exit → Act → World → Prop} {rest : List Oper} {oi : Oper} {a : Act} {w : World} (N : Option Tmp) (hd : oi.dst = N) (hg : oi.guard = none) {f : FuncId} {fn : Func} (x : Operand) {as_ : Array Operand} {ts : Array TypeId} (caps args : Array Value)
    (hop : oi.op = .call { callee := .value x, args := as_, argTypes := ts }) (hx : a.eval x = .func (.func f) #[] caps) (hargs : as_.map a.eval = args)
    (hf : P.funcs[f]? = some fn) (hname : (fn.name == "runtime.NumGoroutine") = false) (hb : fn.body.isSome = true)
    (h : Calls P f (args ++ caps) w fun e w' => ∃ v, e = .returned v ∧ wpList P ops Q rest (a.put N v) w') : wpList P ops Q (oi :: rest) a w := by
  refine wpList_plain hg fun K hK => ?_
  have he := enters_ hf hname hb (args ++ caps) w
  have hrun : (execOp a.eval oi).run P w = .ok (.enter f (args ++ caps)) w := by
    unfold execOp
    simp [hop, resolve, Deferred.ofValue, invoke, hargs, hx, he]
  unfold Oper.wp
  rw [hrun, Oper.upon_enter]
  refine h.mono fun e w'' hh => ?_
  obtain ⟨v, rfl, hk⟩ := hh
  subst hd
  exact hK _ _ hk

def findI {α : Type} (p : α → Bool) (l : List α) : Int := match l.findIdx? p with | some i => (i : Int) | none => -1
theorem findI_at {α : Type} {p : α → Bool} {l : List α} {i : Nat} (hi : i < l.length) (h0 : ∀ j (hj : j < l.length), j < i → p l[j] = false) (h1 : p l[i] = true) : findI p l = i := by
  unfold findI
  have : l.findIdx? p = some i := by
    rw [List.findIdx?_eq_some_iff_getElem]
    exact ⟨hi, h1, fun j hj => by simp [h0 j (by omega) hj]⟩
  rw [this]
theorem findI_none {α : Type} {p : α → Bool} {l : List α} (h0 : ∀ j (hj : j < l.length), p l[j] = false) : findI p l = -1 := by
  unfold findI
  have : l.findIdx? p = none := by
    rw [List.findIdx?_eq_none_iff]
    intro x hx
    obtain ⟨j, hj, rfl⟩ := List.getElem_of_mem hx
    exact h0 j hj
  rw [this]
theorem findI_any {α : Type} (p : α → Bool) (l : List α) : 0 ≤ findI p l ↔ l.any p = true := by
  unfold findI
  cases h : l.findIdx? p with
  | none =>
    rw [List.findIdx?_eq_none_iff] at h
    simp only [List.any_eq_true]
    constructor
    · intro h1; omega
    · rintro ⟨x, hx, hp⟩; rw [h x hx] at hp; cases hp
  | some i =>
    rw [List.findIdx?_eq_some_iff_getElem] at h
    obtain ⟨hi, hp, _⟩ := h
    simp only [List.any_eq_true]
    exact ⟨fun _ => ⟨l[i], List.getElem_mem hi, hp⟩, fun _ => by omega⟩
/-- A block whose cells tell the elements, read as a row. -/
theorem C_block {α : Type} (d : Kd α) (W : World) (b : Nat) (cs : Array Value) (t : TypeId) (m : Nat × Nat) (hb : W.heap[b]? = some (.cells cs t m)) (xs : List α) (hr : Reps (d.K W) d.sz xs cs.toList) (hl : xs.length ≤ 9223372036854775807) :
    Kd.C d W (some ⟨b, 0, none⟩) xs.length xs := by
  refine ⟨rfl, hl, fun _ => ⟨⟨b, 0, none⟩, rfl, fun j p hj => ?_⟩⟩
  have h1 := hr.2 j p hj
  refine ⟨_, d.K_len h1, h1, fun i u hu => ?_⟩
  have hu2 : cs.toList[j * d.sz + i]? = some u := by
    rw [List.getElem?_take] at hu
    split at hu
    · rwa [List.getElem?_drop] at hu
    · cases hu
  have h2 : cs[j * d.sz + i]? = some u := by simpa using hu2
  rw [add_plain]
  unfold World.cell?
  rw [hb]
  simpa using h2
/-- A literal of bytes (a block of its own, marked or not). -/
theorem reps_u8 (W : World) : ∀ xs : List Int, Reps ((Kd.int .u8).K W) 1 xs (xs.map (Value.int .u8))
  | [] => Reps.none _ _
  | x :: xs => Reps.one (show (Kd.int .u8).K W x [.int .u8 x] from rfl) (reps_u8 W xs)
theorem C_bytes (W : World) (b : Nat) (xs : List Int) (t : TypeId) (m : Nat × Nat) (hb : W.heap[b]? = some (.cells (xs.map (Value.int .u8)).toArray t m)) (hl : xs.length ≤ 9223372036854775807) :
    Kd.C (Kd.int .u8) W (some ⟨b, 0, none⟩) xs.length xs :=
  C_block (Kd.int .u8) W b _ t m hb xs (show Reps ((Kd.int .u8).K W) 1 xs _ from reps_u8 W xs) hl
theorem splice_take {α : Type} (A T ys : List α) (lo : Nat) (h : lo + ys.length ≤ A.length) : (splice (A ++ T) lo ys).take A.length = A.take lo ++ ys ++ A.drop (lo + ys.length) := by
  have e : splice (A ++ T) lo ys = (A.take lo ++ ys ++ A.drop (lo + ys.length)) ++ T := by
    unfold splice
    rw [List.take_append_of_le_length (by omega), List.drop_append_of_le_length (by omega)]
    simp
  rw [e, List.take_append_of_le_length (by simp; omega), List.take_of_length_le (by simp; omega)]
/-- A row of numbers of the call's own into which numbers have been copied. -/
theorem R_spliced {W : World} {base e g c : Nat} {k : IntKind} {xs ys : List Int} {lo : Nat}
    (HO : Kd.R (Kd.int k) e W base (fun _ => True) (.slice (some ⟨g, 0, none⟩) xs.length c) xs) (hfit : lo + ys.length ≤ xs.length) :
    ∃ cur : List Value, W.heap[g]? = some (.cells cur.toArray e (0, 0)) ∧ xs.length ≤ cur.length ∧ base ≤ g ∧ ∀ w1 : World, (w1.heap[g]? = some (.cells (splice cur lo (ys.map (Value.int k))).toArray e (0, 0)) →
    Kd.R (Kd.int k) e w1 base (fun _ => True) (.slice (some ⟨g, 0, none⟩) xs.length c) (xs.take lo ++ ys ++ xs.drop (lo + ys.length))) := by
  obtain ⟨_, inner, ⟨hl, ho⟩, hr⟩ := HO
  have hin : inner = xs.map (Value.int k) := by
    apply List.ext_getElem?
    intro j
    by_cases hj : j < xs.length
    · have h1 := hr.2 j xs[j] (List.getElem?_eq_getElem hj)
      have h2 : (inner.drop (j * 1)).take 1 = [Value.int k xs[j]] := h1
      have hj2 : j < inner.length := by rw [hl]; simpa [Kd.int, Kd.scalar] using hj
      rw [Nat.mul_one, List.drop_eq_getElem_cons hj2] at h2
      simp only [List.take_succ_cons, List.take_zero, List.cons.injEq, and_true] at h2
      rw [List.getElem?_eq_getElem hj2, h2, List.getElem?_map, List.getElem?_eq_getElem hj]
      rfl
    · rw [List.getElem?_eq_none (by rw [hl]; simp [Kd.int, Kd.scalar]; omega), List.getElem?_eq_none (by simp; omega)]
  rcases ho with ⟨h0, _⟩ | ⟨g', cap, cur, he, hg, hh, hn, hm, hs, ht⟩
  · cases h0
  · have he' : g = g' ∧ xs.length = xs.length ∧ c = cap := by simpa using he
    obtain ⟨rfl, -, rfl⟩ := he'
    have hs' : cur.size = c := by rw [hs]; simp [Kd.int, Kd.scalar]
    have ht' : cur.toList.take xs.length = xs.map (Value.int k) := by rw [← hin, ← ht]; simp [Kd.int, Kd.scalar]
    have hlc : cur.toList.length = c := by simpa using hs'
    refine ⟨cur.toList, by simpa using hh, by omega, hg, fun w1 hw => ?_⟩
    have e1 : (xs.take lo ++ ys ++ xs.drop (lo + ys.length)).length = xs.length := by simp; omega
    refine ⟨fun _ _ => trivial, (xs.take lo ++ ys ++ xs.drop (lo + ys.length)).map (Value.int k), ⟨by simp [Kd.int, Kd.scalar], .inr ⟨g, c, _, by rw [e1], hg, hw, by rw [e1]; exact hn, hm, ?_, ?_⟩⟩, ?_⟩
    · simp [length_splice _ _ _ (show lo + (ys.map (Value.int k)).length ≤ cur.toList.length by simp; omega), Kd.int, Kd.scalar]; exact hs'
    · rw [e1]
      show (splice cur.toList lo (ys.map (Value.int k))).take (xs.length * 1) = _
      rw [Nat.mul_one]
      have hc : cur.toList = xs.map (Value.int k) ++ cur.toList.drop xs.length := by rw [← ht', List.take_append_drop]
      generalize cur.toList.drop xs.length = T at hc
      rw [hc]
      have h2 := splice_take (xs.map (Value.int k)) T (ys.map (Value.int k)) lo (by simp; omega)
      rw [List.length_map] at h2
      rw [h2]
      simp only [List.map_append, List.map_take, List.map_drop, List.length_map]
    · refine ⟨by simp [Kd.int, Kd.scalar], fun j p hj => ?_⟩
      show ((_ : List Value).drop (j * 1)).take 1 = [Value.int k p]
      rw [Nat.mul_one]
      have hj2 := List.getElem?_eq_some_iff.1 hj
      obtain ⟨hj3, hj4⟩ := hj2
      rw [List.drop_eq_getElem_cons (by simpa using hj3)]
      rw [List.take_succ_cons, List.take_zero, List.getElem_map, hj4]
theorem R_addr {W : World} {base e c : Nat} {k : IntKind} {A : Option Addr} {xs : List Int} (HO : Kd.R (Kd.int k) e W base (fun _ => True) (.slice A xs.length c) xs) (h : 0 < xs.length) : ∃ g, A = some ⟨g, 0, none⟩ ∧ xs.length ≤ c := by
  obtain ⟨_, inner, ⟨hl, ho⟩, hr⟩ := HO
  rcases ho with ⟨_, h0⟩ | ⟨g', cap, cur, he, hg, hh, hn, hm, hs, ht⟩
  · omega
  · have he' : A = some ⟨g', 0, none⟩ ∧ xs.length = xs.length ∧ c = cap := by simpa using he
    obtain ⟨rfl, -, rfl⟩ := he'
    exact ⟨g', rfl, hn⟩
end Go.Proofs.YtkkikdjfigffhabW.PrintWords
