/- Words of this work that the printed texts lack: a call through a known function value, the place of the first element that meets a test. -/
import Derived.Test.YtkkikdjfigffhaaWWords
import Derived.Test.YtkkikdjfigffhaaWLast
import Derived.Test.YtkkikdjfigffhaaWMore
import Derived.Test.YtkkikdjfigffhaaWRepsOne
import Derived.Test.YtkkikdjfigffhaaWApart
import Derived.Test.YtkkikdjfigffhaaWN
import Derived.Test.YtkkikdjfigffhaaWQPut
import Derived.Laws.CopyOwn
namespace Go.Proofs.YtkkikdjfigffhaaW.PrintWords
open Go.RowKit Go.Proofs.YtkkikdjfigffhaaW.PrintLast
set_option linter.unusedVariables false

theorem goesV_ {P : Program} {ops : Array Oper} {Q : Exit → Act → World → Prop} {rest : List Oper} {oi : Oper} {a : Act} {w : World} (N : Option Tmp) (hd : oi.dst = N) (hg : oi.guard = none) {f : FuncId} {fn : Func} (x : Operand) {as_ : Array Operand} {ts : Array TypeId} (caps args : Array Value)
    (hop : oi.op = .call { callee := .value x, args := as_, argTypes := ts }) (hx : a.eval x = .func (.func f) #[] caps) (hargs : as_.map a.eval = args)
    (hf : P.funcs[f]? = some fn) (hname : (fn.name == "runtime.NumGoroutine") = false) (hb : fn.body.isSome = true)
    (h : Calls P f (args ++ caps) w fun e w' => ∃ v, e = .returned v ∧ wpList P ops Q rest (a.put N v) w') : wpList P ops Q (oi :: rest) a w := by
  refine wpList_plain hg fun K hK => ?_
  have he := enters_ hf hname hb (args ++ caps) w
  have hrun : (execOp a.eval oi).run P w = .ok (.enter f (args ++ caps)) w := by
    unfold execOp
    simp [hop, resolve, Deferred.ofValue, invoke, hargs, hx, he]
  unfold Oper.wp
  rw [hrun, Oper.upon_enter]
  refine h.mono fun e w'' hh => ?_
  obtain ⟨v, rfl, hk⟩ := hh
  subst hd
  exact hK _ _ hk

def findI {α : Type} (p : α → Bool) (l : List α) : Int := match l.findIdx? p with | some i => (i : Int) | none => -1
theorem findI_at {α : Type} {p : α → Bool} {l : List α} {i : Nat} (hi : i < l.length) (h0 : ∀ j (hj : j < l.length), j < i → p l[j] = false) (h1 : p l[i] = true) : findI p l = i := by
  unfold findI
  have : l.findIdx? p = some i := by
    rw [List.findIdx?_eq_some_iff_getElem]
    exact ⟨hi, h1, fun j hj => by simp [h0 j (by omega) hj]⟩
  rw [this]
theorem findI_none {α : Type} {p : α → Bool} {l : List α} (h0 : ∀ j (hj : j < l.length), p l[j] = false) : findI p l = -1 := by
  unfold findI
  have : l.findIdx? p = none := by
    rw [List.findIdx?_eq_none_iff]
    intro x hx
    obtain ⟨j, hj, rfl⟩ := List.getElem_of_mem hx
    exact h0 j hj
  rw [this]
theorem findI_any {α : Type} (p : α → Bool) (l : List α) : 0 ≤ findI p l ↔ l.any p = true := by
  unfold findI
  cases h : l.findIdx? p with
  | none =>
    rw [List.findIdx?_eq_none_iff] at h
    simp only [List.any_eq_true]
    constructor
    · intro h1; omega
    · rintro ⟨x, hx, hp⟩; rw [h x hx] at hp; cases hp
  | some i =>
    rw [List.findIdx?_eq_some_iff_getElem] at h
    obtain ⟨hi, hp, _⟩ := h
    simp only [List.any_eq_true]
    exact ⟨fun _ => ⟨l[i], List.getElem_mem hi, hp⟩, fun _ => by omega⟩
/-- A block whose cells tell the elements, read as a row. -/
theorem C_block {α : Type} (d : Kd α) (W : World) (b : Nat) (cs : Array Value) (t : TypeId) (m : Nat × Nat) (hb : W.heap[b]? = some (.cells cs t m)) (xs : List α) (hr : Reps (d.K W) d.sz xs cs.toList) (hl : xs.length ≤ 9223372036854775807) :
    Kd.C d W (some ⟨b, 0, none⟩) xs.length xs := by
  refine ⟨rfl, hl, fun _ => ⟨⟨b, 0, none⟩, rfl, fun j p hj => ?_⟩⟩
  have h1 := hr.2 j p hj
  refine ⟨_, d.K_len h1, h1, fun i u hu => ?_⟩
  have hu2 : cs.toList[j * d.sz + i]? = some u := by
    rw [List.getElem?_take] at hu
    split at hu
    · rwa [List.getElem?_drop] at hu
    · cases hu
  have h2 : cs[j * d.sz + i]? = some u := by simpa using hu2
  rw [add_plain]
  unfold World.cell?
  rw [hb]
  simpa using h2
/-- A literal of bytes (a block of its own, marked or not). -/
theorem reps_u8 (W : World) : ∀ xs : List Int, Reps ((Kd.int .u8).K W) 1 xs (xs.map (Value.int .u8))
  | [] => Reps.none _ _
  | x :: xs => Reps.one (show (Kd.int .u8).K W x [.int .u8 x] from rfl) (reps_u8 W xs)
theorem C_bytes (W : World) (b : Nat) (xs : List Int) (t : TypeId) (m : Nat × Nat) (hb : W.heap[b]? = some (.cells (xs.map (Value.int .u8)).toArray t m)) (hl : xs.length ≤ 9223372036854775807) :
    Kd.C (Kd.int .u8) W (some ⟨b, 0, none⟩) xs.length xs :=
  C_block (Kd.int .u8) W b _ t m hb xs (show Reps ((Kd.int .u8).K W) 1 xs _ from reps_u8 W xs) hl
theorem splice_take {α : Type} (A T ys : List α) (lo : Nat) (h : lo + ys.length ≤ A.length) : (splice (A ++ T) lo ys).take A.length = A.take lo ++ ys ++ A.drop (lo + ys.length) := by
  have e : splice (A ++ T) lo ys = (A.take lo ++ ys ++ A.drop (lo + ys.length)) ++ T := by
    unfold splice
    rw [List.take_append_of_le_length (by omega), List.drop_append_of_le_length (by omega)]
    simp
  rw [e, List.take_append_of_le_length (by simp; omega), List.take_of_length_le (by simp; omega)]
/-- A row of numbers of the call's own into which numbers have been copied. -/
theorem R_spliced {W : World} {base e g c : Nat} {k : IntKind} {xs ys : List Int} {lo : Nat}
    (HO : Kd.R (Kd.int k) e W base (fun _ => True) (.slice (some ⟨g, 0, none⟩) xs.length c) xs) (hfit : lo + ys.length ≤ xs.length) :
    ∃ cur : List Value, W.heap[g]? = some (.cells cur.toArray e (0, 0)) ∧ xs.length ≤ cur.length ∧ base ≤ g ∧ ∀ w1 : World, (w1.heap[g]? = some (.cells (splice cur lo (ys.map (Value.int k))).toArray e (0, 0)) →
    Kd.R (Kd.int k) e w1 base (fun _ => True) (.slice (some ⟨g, 0, none⟩) xs.length c) (xs.take lo ++ ys ++ xs.drop (lo + ys.length))) := by
  obtain ⟨_, inner, ⟨hl, ho⟩, hr⟩ := HO
  have hin : inner = xs.map (Value.int k) := by
    apply List.ext_getElem?
    intro j
    by_cases hj : j < xs.length
    · have h1 := hr.2 j xs[j] (List.getElem?_eq_getElem hj)
      have h2 : (inner.drop (j * 1)).take 1 = [Value.int k xs[j]] := h1
      have hj2 : j < inner.length := by rw [hl]; simpa [Kd.int, Kd.scalar] using hj
      rw [Nat.mul_one, List.drop_eq_getElem_cons hj2] at h2
      simp only [List.take_succ_cons, List.take_zero, List.cons.injEq, and_true] at h2
      rw [List.getElem?_eq_getElem hj2, h2, List.getElem?_map, List.getElem?_eq_getElem hj]
      rfl
    · rw [List.getElem?_eq_none (by rw [hl]; simp [Kd.int, Kd.scalar]; omega), List.getElem?_eq_none (by simp; omega)]
  rcases ho with ⟨h0, _⟩ | ⟨g', cap, cur, he, hg, hh, hn, hm, hs, ht⟩
  · cases h0
  · have he' : g = g' ∧ xs.length = xs.length ∧ c = cap := by simpa using he
    obtain ⟨rfl, -, rfl⟩ := he'
    have hs' : cur.size = c := by rw [hs]; simp [Kd.int, Kd.scalar]
    have ht' : cur.toList.take xs.length = xs.map (Value.int k) := by rw [← hin, ← ht]; simp [Kd.int, Kd.scalar]
    have hlc : cur.toList.length = c := by simpa using hs'
    refine ⟨cur.toList, by simpa using hh, by omega, hg, fun w1 hw => ?_⟩
    have e1 : (xs.take lo ++ ys ++ xs.drop (lo + ys.length)).length = xs.length := by simp; omega
    refine ⟨fun _ _ => trivial, (xs.take lo ++ ys ++ xs.drop (lo + ys.length)).map (Value.int k), ⟨by simp [Kd.int, Kd.scalar], .inr ⟨g, c, _, by rw [e1], hg, hw, by rw [e1]; exact hn, hm, ?_, ?_⟩⟩, ?_⟩
    · simp [length_splice _ _ _ (show lo + (ys.map (Value.int k)).length ≤ cur.toList.length by simp; omega), Kd.int, Kd.scalar]; exact hs'
    · rw [e1]
      show (splice cur.toList lo (ys.map (Value.int k))).take (xs.length * 1) = _
      rw [Nat.mul_one]
      have hc : cur.toList = xs.map (Value.int k) ++ cur.toList.drop xs.length := by rw [← ht', List.take_append_drop]
      generalize cur.toList.drop xs.length = T at hc
      rw [hc]
      have h2 := splice_take (xs.map (Value.int k)) T (ys.map (Value.int k)) lo (by simp; omega)
      rw [List.length_map] at h2
      rw [h2]
      simp only [List.map_append, List.map_take, List.map_drop, List.length_map]
    · refine ⟨by simp [Kd.int, Kd.scalar], fun j p hj => ?_⟩
      show ((_ : List Value).drop (j * 1)).take 1 = [Value.int k p]
      rw [Nat.mul_one]
      have hj2 := List.getElem?_eq_some_iff.1 hj
      obtain ⟨hj3, hj4⟩ := hj2
      rw [List.drop_eq_getElem_cons (by simpa using hj3)]
      rw [List.take_succ_cons, List.take_zero, List.getElem_map, hj4]
theorem R_addr {W : World} {base e c : Nat} {k : IntKind} {A : Option Addr} {xs : List Int} (HO : Kd.R (Kd.int k) e W base (fun _ => True) (.slice A xs.length c) xs) (h : 0 < xs.length) : ∃ g, A = some ⟨g, 0, none⟩ ∧ xs.length ≤ c := by
  obtain ⟨_, inner, ⟨hl, ho⟩, hr⟩ := HO
  rcases ho with ⟨_, h0⟩ | ⟨g', cap, cur, he, hg, hh, hn, hm, hs, ht⟩
  · omega
  · have he' : A = some ⟨g', 0, none⟩ ∧ xs.length = xs.length ∧ c = cap := by simpa using he
    obtain ⟨rfl, -, rfl⟩ := he'
    exact ⟨g', rfl, hn⟩
/-! Short words for long texts: a fact, carried over what has been made and drawn since. -/
theorem below_setA {w W : World} {g j : Nat} {v : Value} (h : Below w.heap.size w W) (hg : Aside0 (w.heap.size ≤ g)) : Below w.heap.size w (W.setCell ⟨g, j, none⟩ v) := h.setCell hg.out _
theorem below_y {w W W' : World} (h : Below w.heap.size w W) (f : Below w.heap.size w W → Below w.heap.size w W' := by intro h_; repeat (first | (with_reducible first | exact h_ | apply below_alloc | apply pw_below_drewN | apply below_drew1 | refine below_setA ?_ (by assumption)) | exact h_)) : Below w.heap.size w W' := f h
theorem blk_y {W W' : World} {g : Nat} {o : Obj} (h : W.heap[g]? = some o) (f : W.heap[g]? = some o → W'.heap[g]? = some o := by intro h_; (with_reducible repeat (first | refine blk_drewN ?_ _ | refine blk_drew ?_ | refine blk_alloc ?_ _)); exact h_) : W'.heap[g]? = some o := f h
namespace Kd
theorem C_y {α : Type} {d : Kd α} {W W' : World} {A : Option Addr} {n : Nat} {xs : List α} (h : d.C W A n xs) (f : d.C W A n xs → d.C W' A n xs := by intro h_; repeat (first | exact h_ | (with_reducible refine Kd.C_alloc ?_ _) | (with_reducible refine Kd.C_drewN ?_ _) | (with_reducible refine Kd.C_drew ?_))) : d.C W' A n xs := f h
theorem R_y {α : Type} {d : Kd α} {e base : Nat} {W W' : World} {ok : Nat → Prop} {v : Value} {xs : List α} (h : Kd.R d e W base ok v xs) (f : Kd.R d e W base ok v xs → Kd.R d e W' base ok v xs := by intro h_; (with_reducible repeat (first | apply Kd.R_alloc | apply Kd.R_drewN | apply Kd.R_drew)); exact h_) : Kd.R d e W' base ok v xs := f h
theorem V_y {α : Type} {d : Kd α} {e base : Nat} {W W' : World} {ok : Nat → Prop} {v : Value} {xs : List α} (h : Kd.V d e W base ok v xs) (f : Kd.V d e W base ok v xs → Kd.V d e W' base ok v xs := by intro h_; (with_reducible repeat (first | apply Kd.V_alloc | apply Kd.V_drewN | apply Kd.V_drew)); exact h_) : Kd.V d e W' base ok v xs := f h
theorem N_y {α : Type} {d : Kd α} {e base : Nat} {W W' : World} {ok : Nat → Prop} {v : Value} {xs : List α} (h : Kd.N d e W base ok v xs) (f : Kd.N d e W base ok v xs → Kd.N d e W' base ok v xs := by intro h_; (with_reducible repeat (first | apply Kd.N_alloc | apply Kd.N_drewN | apply Kd.N_drew)); exact h_) : Kd.N d e W' base ok v xs := f h
theorem S_y {α : Type} {d : Kd α} {e base : Nat} {W W' : World} {ok : Nat → Prop} {v : Value} {xs : List α} (h : Kd.S d e W base ok v xs) (f : Kd.S d e W base ok v xs → Kd.S d e W' base ok v xs := by intro h_; (with_reducible repeat (first | apply Kd.S_alloc | apply Kd.S_drewN | apply Kd.S_drew)); exact h_) : Kd.S d e W' base ok v xs := f h
theorem Q_y {α : Type} {d : Kd α} {e base : Nat} {W W' : World} {ok : Nat → Prop} {v : Value} {xs : List α} (h : Kd.Q d e W base ok v xs) (f : Kd.Q d e W base ok v xs → Kd.Q d e W' base ok v xs := by intro h_; (with_reducible repeat (first | apply Kd.Q_alloc | apply Kd.Q_drewN | apply Kd.Q_drew)); exact h_) : Kd.Q d e W' base ok v xs := f h
end Kd
section
variable {P : Program} {ops : Array Oper} {rest : List Oper} {o : Oper} {a : Act} {Q : Exit → Act → World → Prop} {W : World}
/-- All cells of a block written, one behind the other. -/
def putAll (W : World) (g : Nat) : Nat → List Value → World
  | _, [] => W
  | k, v :: vs => putAll (W.setCell ⟨g, k, none⟩ v) g (k + 1) vs
theorem putAll_heap (g : Nat) (t : TypeId) : ∀ (vs : List Value) (W : World) (pre rest : List Value), W.heap[g]? = some (.cells (pre ++ rest).toArray t (0, 0)) → rest.length = vs.length → (putAll W g pre.length vs).heap[g]? = some (.cells (pre ++ vs).toArray t (0, 0))
  | [], W, pre, rest, h, hl => by
    have : rest = [] := List.eq_nil_of_length_eq_zero hl
    subst this
    exact h
  | v :: vs, W, pre, rest, h, hl => by
    cases rest with
    | nil => cases hl
    | cons r rest =>
      have h1 := blk_put h pre.length v rfl
      rw [show ((pre ++ r :: rest).toArray.setIfInBounds pre.length v) = ((pre ++ [v]) ++ rest).toArray by simp] at h1
      have h2 := putAll_heap g t vs _ (pre ++ [v]) rest h1 (by simpa using hl)
      rw [show (pre ++ [v]).length = pre.length + 1 by simp, show (pre ++ [v]) ++ vs = pre ++ v :: vs by simp] at h2
      exact h2
theorem blk_all {W : World} {g : Nat} {t : TypeId} {old : Array Value} {vs : List Value} (h : W.heap[g]? = some (.cells old t (0, 0))) (hl : old.size = vs.length) : (putAll W g 0 vs).heap[g]? = some (.cells vs.toArray t (0, 0)) :=
  putAll_heap g t vs W [] old.toList (by simpa using h) (by simpa using hl)
/-- A whole struct laid into a block of its own at once. -/
theorem store_whole (hgd : o.guard = none) (hN : o.dst = none) {t : TypeId} {x y : Operand} (ho : o.op = .store t x y)
    {g : Nat} {cells old : Array Value} (hg : W.heap[g]? = some (.cells old t (0, 0))) (hx : a.eval x = .pointer (some ⟨g, 0, none⟩)) (hy : a.eval y = .agg cells)
    (hi : (P.info? t).map (·.size) = some cells.size) (hold : old.size = cells.size) (h1 : cells.all (·.oneCell') = true)
    (h : ∀ w', w' = W.setRow g cells → wpList P ops Q rest a w') : wpList P ops Q (o :: rest) a W := by
  refine wpList_store_row hgd t x y ho g cells hx hy t old hg hi hold h1 ?_
  rw [hN]
  exact h _ rfl
end
section
variable {P : Program} {ops : Array Oper} {rest : List Oper} {o : Oper} {a : Act} {Q : Exit → Act → World → Prop} {W : World}
/-- The cells from the k-th on behind an address. -/
def CellsAt (W : World) (q : Addr) : Nat → List Value → Prop
  | _, [] => True
  | k, v :: r => W.cell? ⟨q.block, q.off + k, none⟩ = some v ∧ CellsAt W q (k + 1) r
theorem CellsAt.at {q : Addr} : ∀ {k : Nat} {cs : List Value}, CellsAt W q k cs → ∀ j v, cs[j]? = some v → W.cell? ⟨q.block, q.off + (k + j), none⟩ = some v
  | k, v :: r, h, 0, u, e => by simp at e; subst e; exact h.1
  | k, v :: r, h, j + 1, u, e => by
    have := CellsAt.at h.2 j u (by simpa using e)
    rwa [show k + 1 + j = k + (j + 1) by omega] at this
theorem load_row2 (hgd : o.guard = none) {t : TypeId} {g : Nat} {cs : Array Value} {d : TypeDesc} (ho : ∃ x, o.op = .load t x ∧ a.eval x = .pointer (some ⟨g, 0, none⟩)) (hg : W.heap[g]? = some (.cells cs t (0, 0)))
    (hu : P.underlying t = some d) (hd : (match d with | .struct _ | .array _ _ => true | _ => false) = true) (hi : (P.info? t).map (·.size) = some cs.size)
    (h : wpList P ops Q rest (a.put o.dst (.agg cs)) W) : wpList P ops Q (o :: rest) a W := by
  obtain ⟨x, ho, hx⟩ := ho
  exact wpList_load_row hgd t x ho g hx t cs (0, 0) d hg hu hd hi h
theorem load_row3 {W0 : World} (hgd : o.guard = none) {t : TypeId} {g : Nat} {cs : Array Value} {d : TypeDesc} (_h0 : W0.heap[g]? = some (.cells cs t (0, 0))) (ho : ∃ x, o.op = .load t x ∧ a.eval x = .pointer (some ⟨g, 0, none⟩)) (hg : W.heap[g]? = some (.cells cs t (0, 0)))
    (hu : P.underlying t = some d) (hd : (match d with | .struct _ | .array _ _ => true | _ => false) = true) (hi : (P.info? t).map (·.size) = some cs.size)
    (h : wpList P ops Q rest (a.put o.dst (.agg cs)) W) : wpList P ops Q (o :: rest) a W := by
  obtain ⟨x, ho, hx⟩ := ho
  exact wpList_load_row hgd t x ho g hx t cs (0, 0) d hg hu hd hi h
theorem bc {g : Nat} {cs : Array Value} {t : TypeId} (h : W.heap[g]? = some (.cells cs t (0, 0))) (i : Nat) (v : Value) (e : cs[i]? = some v) : W.cell? ⟨g, i, none⟩ = some v := (blk_cell h i).trans e
theorem store_whole2 (hgd : o.guard = none) (hN : o.dst = none) {t : TypeId} {g : Nat} {cells old : Array Value} (ho : ∃ x y, o.op = .store t x y ∧ a.eval x = .pointer (some ⟨g, 0, none⟩) ∧ a.eval y = .agg cells)
    (hg : W.heap[g]? = some (.cells old t (0, 0))) (hi : (P.info? t).map (·.size) = some cells.size) (hold : old.size = cells.size) (h1 : cells.all (·.oneCell') = true)
    (h : ∀ w', w' = W.setRow g cells → wpList P ops Q rest a w') : wpList P ops Q (o :: rest) a W := by
  obtain ⟨x, y, ho, hx, hy⟩ := ho
  exact store_whole hgd hN ho hg hx hy hi hold h1 h
theorem grown_setRow (W : World) (g : Nat) (cs : Array Value) : W.grownBy (W.setRow g cs) (some g) :=
  ⟨rfl, rfl, rfl, by simp [World.setRow], fun k _ hk => setRow_other W g k cs (fun e => hk (by rw [e]))⟩
theorem gate_load {t : TypeId} {x : Operand} (_ho : o.op = .load t x) (h : wpList P ops Q (o :: rest) a W) : wpList P ops Q (o :: rest) a W := h
/-- A whole struct loaded from an address in a row of structs. -/
theorem load_at (hgd : o.guard = none) {t : TypeId} {x : Operand} (ho : o.op = .load t x) {q : Addr} {c0 : Value} {cs : List Value} (hx : a.eval x = .pointer (some q)) {d : TypeDesc} (hu : P.underlying t = some d)
    (hd : (match d with | .struct _ | .array _ _ => true | _ => false) = true) (hi : (P.info? t).map (·.size) = some (cs.length + 1)) (h0 : W.cell? q = some c0) (hc : CellsAt W q 1 cs)
    (h : wpList P ops Q rest (a.put o.dst (.agg (c0 :: cs).toArray)) W) : wpList P ops Q (o :: rest) a W := by
  refine wpList_plain hgd fun K hK => ?_
  have hl : (loadCells q (c0 :: cs).length).run P W = .ok (c0 :: cs).toArray W :=
    run_loadCells_list (P := P) W q (c0 :: cs) (fun j v hv => by
      cases j with
      | zero => simp at hv; subst hv; simpa [Addr.add] using h0
      | succ j =>
        have := hc.at j v (by simpa using hv)
        rw [show 1 + j = j + 1 by omega] at this
        simpa [Addr.add] using this)
  have hrun : (loadVar t q).run P W = .ok (.agg (c0 :: cs).toArray) W := by
    cases hq : P.info? t with
    | none => simp [hq] at hi
    | some i =>
      have hs : i.size = cs.length + 1 := by simpa [hq] using hi
      have hagg : (isAgg t).run P W = .ok true W := by
        unfold isAgg
        rw [Sem.run_bind, run_underlying hu W]
        cases d <;> simp_all
      rw [List.length_cons, ← hs] at hl
      simp [loadVar, Sem.run_bind, hagg, sizeOf, typeInfo, hq, hl]
  unfold Oper.wp execOp
  simp only [ho, hx, Instr.loadAt, Instr.sureAddr, Sem.run_bind, Sem.run_pure, Result.andThen_ok, hrun]
  exact hK _ _ h
theorem exec_load_at {t : TypeId} {x : Operand} (ho : o.op = .load t x) {q : Addr} {c0 : Value} {cs : List Value} {d : TypeDesc} (hx : a.eval x = .pointer (some q)) (hu : P.underlying t = some d)
    (hd : (match d with | .struct _ | .array _ _ => true | _ => false) = true) (hi : (P.info? t).map (·.size) = some (cs.length + 1)) (h0 : W.cell? q = some c0) (hc : CellsAt W q 1 cs) :
    (execOp a.eval o).run P W = .ok (.value (.agg (c0 :: cs).toArray)) W := by
  have hl : (loadCells q (c0 :: cs).length).run P W = .ok (c0 :: cs).toArray W :=
    run_loadCells_list (P := P) W q (c0 :: cs) (fun j v hv => by
      cases j with
      | zero => simp at hv; subst hv; simpa [Addr.add] using h0
      | succ j =>
        have := hc.at j v (by simpa using hv)
        rw [show 1 + j = j + 1 by omega] at this
        simpa [Addr.add] using this)
  have hrun : (loadVar t q).run P W = .ok (.agg (c0 :: cs).toArray) W := by
    cases hq : P.info? t with
    | none => simp [hq] at hi
    | some i =>
      have hs : i.size = cs.length + 1 := by simpa [hq] using hi
      have hagg : (isAgg t).run P W = .ok true W := by
        unfold isAgg
        rw [Sem.run_bind, run_underlying hu W]
        cases d <;> simp_all
      rw [List.length_cons, ← hs] at hl
      simp [loadVar, Sem.run_bind, hagg, sizeOf, typeInfo, hq, hl]
  unfold execOp
  simp only [ho, hx, Instr.loadAt, Instr.sureAddr, Sem.run_bind, Sem.run_pure, Result.andThen_ok, hrun]
theorem load_at2 (hgd : o.guard = none) {t : TypeId} {q : Addr} (ho : ∃ x, o.op = .load t x ∧ a.eval x = .pointer (some q)) {c0 : Value} {cs : List Value} {d : TypeDesc} (hu : P.underlying t = some d)
    (hd : (match d with | .struct _ | .array _ _ => true | _ => false) = true) (hi : (P.info? t).map (·.size) = some (cs.length + 1)) (h0 : W.cell? q = some c0) (hc : CellsAt W q 1 cs)
    (h : wpList P ops Q rest (a.put o.dst (.agg (c0 :: cs).toArray)) W) : wpList P ops Q (o :: rest) a W := by
  obtain ⟨x, ho, hx⟩ := ho
  exact load_at hgd ho hx hu hd hi h0 hc h
end
end Go.Proofs.YtkkikdjfigffhaaW.PrintWords
