/- Words of this work that the printed texts lack: a call through a known function value, the place of the first element that meets a test. -/
import Derived.Test.YtkkikdjfigffhaaWWords
import Derived.Test.YtkkikdjfigffhaaWLast
import Derived.Test.YtkkikdjfigffhaaWMore
import Derived.Test.YtkkikdjfigffhaaWRepsOne
namespace Go.Proofs.YtkkikdjfigffhaaW.PrintWords
open Go.RowKit Go.Proofs.YtkkikdjfigffhaaW.PrintLast
set_option linter.unusedVariables false

theorem goesV_ {P : Program} {ops : Array Oper} {Q : Exit → Act → World → Prop} {rest : List Oper} {oi : Oper} {a : Act} {w : World} (N : Option Tmp) (hd : oi.dst = N) (hg : oi.guard = none) {f : FuncId} {fn : Func} (x : Operand) {as_ : Array Operand} {ts : Array TypeId} (caps args : Array Value)
    (hop : oi.op = .call { callee := .value x, args := as_, argTypes := ts }) (hx : a.eval x = .func (.func f) #[] caps) (hargs : as_.map a.eval = args)
    (hf : P.funcs[f]? = some fn) (hname : (fn.name == "runtime.NumGoroutine") = false) (hb : fn.body.isSome = true)
    (h : Calls P f (args ++ caps) w fun e w' => ∃ v, e = .returned v ∧ wpList P ops Q rest (a.put N v) w') : wpList P ops Q (oi :: rest) a w := by
  refine wpList_plain hg fun K hK => ?_
  have he := enters_ hf hname hb (args ++ caps) w
  have hrun : (execOp a.eval oi).run P w = .ok (.enter f (args ++ caps)) w := by
    unfold execOp
    simp [hop, resolve, Deferred.ofValue, invoke, hargs, hx, he]
  unfold Oper.wp
  rw [hrun, Oper.upon_enter]
  refine h.mono fun e w'' hh => ?_
  obtain ⟨v, rfl, hk⟩ := hh
  subst hd
  exact hK _ _ hk

def findI {α : Type} (p : α → Bool) (l : List α) : Int := match l.findIdx? p with | some i => (i : Int) | none => -1
theorem findI_at {α : Type} {p : α → Bool} {l : List α} {i : Nat} (hi : i < l.length) (h0 : ∀ j (hj : j < l.length), j < i → p l[j] = false) (h1 : p l[i] = true) : findI p l = i := by
  unfold findI
  have : l.findIdx? p = some i := by
    rw [List.findIdx?_eq_some_iff_getElem]
    exact ⟨hi, h1, fun j hj => by simp [h0 j (by omega) hj]⟩
  rw [this]
theorem findI_none {α : Type} {p : α → Bool} {l : List α} (h0 : ∀ j (hj : j < l.length), p l[j] = false) : findI p l = -1 := by
  unfold findI
  have : l.findIdx? p = none := by
    rw [List.findIdx?_eq_none_iff]
    intro x hx
    obtain ⟨j, hj, rfl⟩ := List.getElem_of_mem hx
    exact h0 j hj
  rw [this]
theorem findI_any {α : Type} (p : α → Bool) (l : List α) : 0 ≤ findI p l ↔ l.any p = true := by
  unfold findI
  cases h : l.findIdx? p with
  | none =>
    rw [List.findIdx?_eq_none_iff] at h
    simp only [List.any_eq_true]
    constructor
    · intro h1; omega
    · rintro ⟨x, hx, hp⟩; rw [h x hx] at hp; cases hp
  | some i =>
    rw [List.findIdx?_eq_some_iff_getElem] at h
    obtain ⟨hi, hp, _⟩ := h
    simp only [List.any_eq_true]
    exact ⟨fun _ => ⟨l[i], List.getElem_mem hi, hp⟩, fun _ => by omega⟩
/-- A block whose cells tell the elements, read as a row. -/
theorem C_block {α : Type} (d : Kd α) (W : World) (b : Nat) (cs : Array Value) (t : TypeId) (m : Nat × Nat) (hb : W.heap[b]? = some (.cells cs t m)) (xs : List α) (hr : Reps (d.K W) d.sz xs cs.toList) (hl : xs.length ≤ 9223372036854775807) :
    Kd.C d W (some ⟨b, 0, none⟩) xs.length xs := by
  refine ⟨rfl, hl, fun _ => ⟨⟨b, 0, none⟩, rfl, fun j p hj => ?_⟩⟩
  have h1 := hr.2 j p hj
  refine ⟨_, d.K_len h1, h1, fun i u hu => ?_⟩
  have hu2 : cs.toList[j * d.sz + i]? = some u := by
    rw [List.getElem?_take] at hu
    split at hu
    · rwa [List.getElem?_drop] at hu
    · cases hu
  have h2 : cs[j * d.sz + i]? = some u := by simpa using hu2
  rw [add_plain]
  unfold World.cell?
  rw [hb]
  simpa using h2
/-- A literal of bytes (a block of its own, marked or not). -/
theorem reps_u8 (W : World) : ∀ xs : List Int, Reps ((Kd.int .u8).K W) 1 xs (xs.map (Value.int .u8))
  | [] => Reps.none _ _
  | x :: xs => Reps.one (show (Kd.int .u8).K W x [.int .u8 x] from rfl) (reps_u8 W xs)
theorem C_bytes (W : World) (b : Nat) (xs : List Int) (t : TypeId) (m : Nat × Nat) (hb : W.heap[b]? = some (.cells (xs.map (Value.int .u8)).toArray t m)) (hl : xs.length ≤ 9223372036854775807) :
    Kd.C (Kd.int .u8) W (some ⟨b, 0, none⟩) xs.length xs :=
  C_block (Kd.int .u8) W b _ t m hb xs (show Reps ((Kd.int .u8).K W) 1 xs _ from reps_u8 W xs) hl
end Go.Proofs.YtkkikdjfigffhaaW.PrintWords
