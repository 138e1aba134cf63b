-- By a program of this work (xprint.py) over the translation; Lean checks it.
import Derived.Test.YtghdkpcpgpfgcaaDoorXStax0
namespace Go.Proofs.YtghdkpcpgpfgcaaDoor.XSta
open Go.RowKit Go.Proofs.YtghdkpcpgpfgcaaDoorW.PrintWords Go.Proofs.YtghdkpcpgpfgcaaDoorW.PrintLast Go.Proofs.YtghdkpcpgpfgcaaDoorW.PrintMore
attribute [local go_sem] max2_int min2_int max_two min_two max_three min_three max_four min_four   -- for this text's walks alone
set_option linter.unusedVariables false
set_option linter.unusedSimpArgs false

/-! ### text_Lower: function 34 -/
def text_Lower.small (c : UInt8) : UInt8 := if 65 ≤ c ∧ c ≤ 90 then c + 32 else c
def text_Lower.f (a0 : ByteArray) : Option ByteArray := if a0.size ≤ 4294967296 then some ⟨(a0.data.toList.map text_Lower.small).toArray⟩ else none
theorem text_Lower.small_hi (c : UInt8) (h1 : (65 : Int) ≤ c.toNat) (h2 : (c.toNat : Int) ≤ 90) : ((text_Lower.small c).toNat : Int) = ((c.toNat : Int) + 97) % 256 - 65 := by
  have e1 : 65 ≤ c := UInt8.le_iff_toNat_le.2 (by show 65 ≤ c.toNat; omega)
  have e2 : c ≤ 90 := UInt8.le_iff_toNat_le.2 (by show c.toNat ≤ 90; omega)
  unfold text_Lower.small
  rw [if_pos ⟨e1, e2⟩, UInt8.toNat_add]
  show (((c.toNat + 32) % 256 : Nat) : Int) = _
  omega
theorem text_Lower.small_lo (c : UInt8) (h : ¬((65 : Int) ≤ c.toNat ∧ (c.toNat : Int) ≤ 90)) : text_Lower.small c = c := by
  unfold text_Lower.small
  rw [if_neg]
  rintro ⟨e1, e2⟩
  have e1 := UInt8.le_iff_toNat_le.1 e1
  have e2 := UInt8.le_iff_toNat_le.1 e2
  have e1 : 65 ≤ c.toNat := e1
  have e2 : c.toNat ≤ 90 := e2
  omega
set_option maxHeartbeats 1000000 in
theorem text_Lower.sm (c : UInt8) (w : World) :
    Calls Tryd.prog 48 #[.int .u8 c.toNat] w fun e w' => e = .returned (.int .u8 (text_Lower.small c).toNat) ∧ Drawn0 w w' := by
  have hc := c.toNat_lt
  by_cases h1 : (65 : Int) ≤ c.toNat
  · by_cases h2 : (c.toNat : Int) ≤ 90
    · rw [text_Lower.small_hi c h1 h2]
      have b1 : decide ((65 : Int) ≤ c.toNat) = true := decide_eq_true h1
      have b2 : decide ((c.toNat : Int) ≤ 90) = true := decide_eq_true h2
      have e : ((c.toNat : Int) + 97) % 256 - 65 = (((c.toNat : Int) + 97) % 256 - 65) % 256 := by omega
      rw [e]
      clear e
      generalize (c.toNat : Int) = x at *
      clear h1 h2 hc
      go_enter Tryd.func48, Tryd.ntmps48
      go_wp2
      go_ret
      exact ⟨by first | rfl | (simp; done) | (simp [*]; done), by repeat (first | exact Drawn0.refl _ | apply Drawn0.step)⟩
    · rw [text_Lower.small_lo c (fun h => h2 h.2)]
      have b1 : decide ((65 : Int) ≤ c.toNat) = true := decide_eq_true h1
      have b2 : decide ((c.toNat : Int) ≤ 90) = false := decide_eq_false h2
      generalize (c.toNat : Int) = x at *
      clear h1 h2 hc
      go_enter Tryd.func48, Tryd.ntmps48
      go_wp2
      go_ret
      exact ⟨by first | rfl | (simp; done) | (simp [*]; done), by repeat (first | exact Drawn0.refl _ | apply Drawn0.step)⟩
  · rw [text_Lower.small_lo c (fun h => h1 h.1)]
    have b1 : decide ((65 : Int) ≤ c.toNat) = false := decide_eq_false h1
    generalize (c.toNat : Int) = x at *
    clear h1 hc
    go_enter Tryd.func48, Tryd.ntmps48
    go_wp2
    go_ret
    exact ⟨by first | rfl | (simp; done) | (simp [*]; done), by repeat (first | exact Drawn0.refl _ | apply Drawn0.step)⟩
/-- What lies in a row of bytes. -/
def text_Lower.lies (W : World) (g : Nat) (l : List UInt8) : Prop := ∀ j c, l[j]? = some c → W.cell? ⟨g, j, none⟩ = some (.int .u8 (c.toNat : Int)) ∧ W.frozen? ⟨g, j, none⟩ = false
theorem text_Lower.conv {ops : Array Oper} {rest : List Oper} {o : Oper} {a : Act} {Q : Exit → Act → World → Prop} {W : World} (hgd : o.guard = none) {s : ByteArray}
    (ho : ∃ x, o.op = .convert 9 33 x ∧ a.eval x = .string s)
    (h : ∀ g c w1, g = W.heap.size → text_Lower.lies w1 g s.data.toList → Below W.heap.size W w1 → wpList Tryd.prog ops Q rest (a.put o.dst (.slice (some ⟨g, 0, none⟩) s.size c)) w1) : wpList Tryd.prog ops Q (o :: rest) a W := by
  obtain ⟨x, ho, hx⟩ := ho
  have hrun := run_bytes_of_string (P := Tryd.prog) W 9 33 5 s Tryd.underlying9 Tryd.underlying33 Tryd.underlying5
  generalize grownCap W s.size 0 5 = c at hrun
  have hex : (execOp a.eval o).run Tryd.prog W = .ok (.value (.slice (some ⟨W.heap.size, 0, none⟩) s.size c)) (W.drew.alloc (.cells (bytesRow s c) 5 ((bytesRow s c).size, (bytesRow s c).size + 1))) := by
    unfold execOp
    simp only [ho, hx, Sem.run_bind, Sem.run_pure, hrun, Result.andThen_ok]
  have hat : (W.drew.alloc (.cells (bytesRow s c) 5 ((bytesRow s c).size, (bytesRow s c).size + 1))).heap[W.heap.size]? = some (.cells (bytesRow s c) 5 ((bytesRow s c).size, (bytesRow s c).size + 1)) := by
    show (W.heap.push _)[W.heap.size]? = _
    simp
  refine Kd.event_run hgd hex (h _ c _ rfl (fun j u hj => ?_) ?_)
  · obtain ⟨hjl, hju⟩ := List.getElem?_eq_some_iff.1 hj
    have hjs : j < s.data.size := by simpa using hjl
    have hsz : (bytesRow s c).size = s.data.size + (c - s.size) := by simp [bytesRow]
    constructor
    · unfold World.cell?
      simp only [hat]
      show (bytesRow s c)[j]? = _
      unfold bytesRow
      rw [Array.getElem?_append_left (by simpa using hjs), Array.getElem?_map, Array.getElem?_eq_getElem hjs]
      simp only [Option.map_some]
      rw [← hju, Array.getElem_toList]
    · unfold World.frozen?
      simp only [hat]
      have : ¬ (bytesRow s c).size ≤ j := by omega
      simp [this]
  · exact below_alloc (below_drew1 (Below.refl _ _)) _
theorem text_Lower.back {ops : Array Oper} {rest : List Oper} {o : Oper} {a : Act} {Q : Exit → Act → World → Prop} {W : World} (hgd : o.guard = none) {g off n c : Nat} (l : List UInt8)
    (ho : ∃ x, o.op = .convert 33 9 x ∧ a.eval x = .slice (some ⟨g, off, none⟩) n c) (hn : n = l.length)
    (hl : ∀ j (h : j < l.length), W.cell? ⟨g, off + j, none⟩ = some (.int .u8 (l[j].toNat : Int)))
    (h : wpList Tryd.prog ops Q rest (a.put o.dst (.string ⟨l.toArray⟩)) W) : wpList Tryd.prog ops Q (o :: rest) a W := by
  obtain ⟨x, ho, hx⟩ := ho
  subst hn
  have hrun := run_convert_bytes_back (P := Tryd.prog) W 33 9 5 ⟨g, off, none⟩ c l Tryd.underlying33 Tryd.underlying5 Tryd.underlying9 (fun j hj => by
    have h := hl j hj
    unfold Addr.add
    split
    · rename_i e
      subst e
      exact h
    · exact h)
  have hex : (execOp a.eval o).run Tryd.prog W = .ok (.value (.string ⟨l.toArray⟩)) W := by
    unfold execOp
    simp only [ho, hx, Sem.run_bind, Sem.run_pure, hrun, Result.andThen_ok]
  exact Kd.event_run hgd hex h
theorem text_Lower.set {W : World} {g i : Nat} {l : List UInt8} (h : text_Lower.lies W g l) (hi : i < l.length) (c : UInt8) : text_Lower.lies (W.setCell ⟨g, i, none⟩ (.int .u8 (c.toNat : Int))) g (l.set i c) := by
  intro j u hj
  by_cases e : i = j
  · subst e
    rw [List.getElem?_set_self hi] at hj
    obtain rfl := Option.some.inj hj
    have hx := h i l[i] (List.getElem?_eq_getElem hi)
    exact ⟨World.cell?_setCell_same _ _ _ hx.1, (World.frozen?_setCell _ _ _ _).trans hx.2⟩
  · rw [List.getElem?_set_ne e] at hj
    have hx := h j u hj
    exact ⟨(World.cell?_setCell_other _ _ _ _ (by intro h; injection h with h1 h2; exact e h2)).trans hx.1, (World.frozen?_setCell _ _ _ _).trans hx.2⟩
theorem text_Lower.keep {W W1 : World} {g : Nat} {l : List UInt8} (h : text_Lower.lies W g l) (hb : Below W.heap.size W W1) : text_Lower.lies W1 g l := by
  intro j u hj
  have h1 := h j u hj
  have hlt := World.block_lt_of_cell? W _ h1.1
  have hk := hb.block g hlt
  unfold World.cell? World.frozen? at h1 ⊢
  rw [hk]
  exact h1
def text_Lower.upto (l : List UInt8) (i : Nat) : List UInt8 := (l.take i).map text_Lower.small ++ l.drop i
theorem text_Lower.upto_len (l : List UInt8) (i : Nat) (h : i ≤ l.length) : (text_Lower.upto l i).length = l.length := by
  unfold text_Lower.upto
  rw [List.length_append, List.length_map, List.length_take, List.length_drop]
  omega
theorem text_Lower.upto_at (l : List UInt8) (i : Nat) (c : UInt8) (h : l[i]? = some c) : (text_Lower.upto l i)[i]? = some c := by
  obtain ⟨hi, _⟩ := List.getElem?_eq_some_iff.1 h
  unfold text_Lower.upto
  have hl : ((l.take i).map text_Lower.small).length = i := by rw [List.length_map, List.length_take]; omega
  rw [List.getElem?_append_right (by rw [hl]; exact Nat.le_refl _), hl, List.getElem?_drop, Nat.sub_self, Nat.add_zero, h]
theorem text_Lower.upto_set (l : List UInt8) (i : Nat) (c : UInt8) (h : l[i]? = some c) : (text_Lower.upto l i).set i (text_Lower.small c) = text_Lower.upto l (i + 1) := by
  obtain ⟨hi, he⟩ := List.getElem?_eq_some_iff.1 h
  unfold text_Lower.upto
  have hl : ((l.take i).map text_Lower.small).length = i := by rw [List.length_map, List.length_take]; omega
  rw [List.set_append_right _ _ (by rw [hl]; exact Nat.le_refl _), hl, Nat.sub_self, List.drop_eq_getElem_cons hi, List.set_cons_zero, List.take_add_one, h, List.map_append, List.append_assoc]
  rfl
theorem text_Lower.wr (n : Int) (h : -9223372036854775808 ≤ n ∧ n ≤ 9223372036854775807) : wrap64 n = n := by unfold wrap64; omega
set_option maxHeartbeats 1000000 in
set_option maxRecDepth 100000 in
theorem text_Lower.calls (a0 : ByteArray) (r : ByteArray) (w : World) (h : text_Lower.f a0 = some r) :
    Calls Tryd.prog 34 #[.string a0] w fun e w' => e = .returned (.string r) ∧ Below w.heap.size w w' := by
  unfold text_Lower.f at h
  split at h
  rotate_left
  · cases h
  rename_i hs
  obtain rfl := Option.some.inj h
  have HS := Aside0.mk hs
  clear h hs
  have HB := Aside0.mk (Below.refl w.heap.size w)
  have HN := Aside0.mk (show a0.data.toList.length = a0.size from rfl)
  go_enter Tryd.func34, Tryd.ntmps34
  go_wp2_with (first | ((with_reducible refine gate_dst (N := 7) rfl ?_); refine text_Lower.conv (s := a0) ?hg ?ho ?_; (case hg => rfl); (case ho => refine ⟨_, rfl, ?_⟩; first | (with_reducible rfl) | (go_simp; done) | rfl | (go_simp; rfl)); intro gb cc w1 hg hlies hb; have n0_ := Aside0.mk (below_step (below_y HB.out) hb); have n1_ := Aside0.mk hlies; have n2_ := Aside0.mk ((by rw [hg]; exact (below_size (below_y HB.out)) : w.heap.size ≤ gb)); clear HB; have HB := n0_; have HL := n1_; have GE := n2_; clear n0_ n1_ n2_; clear hb hlies hg))
  go_loopw [10] (fun v10 wr => ∃ i : Nat, v10 = .int .i64 i ∧ Aside0 (i ≤ a0.size) ∧ Aside0 (text_Lower.lies wr gb (text_Lower.upto a0.data.toList i)) ∧ Aside0 (Below w.heap.size w wr)) (fun v10 _ => a0.size - (intOf v10).toNat)
  case atStart => exact ⟨0, rfl, ⟨Nat.zero_le _⟩, ⟨HL.out⟩, HB⟩
  case round =>
    clear HL HB
    obtain ⟨i, rfl, HI, HL, HB⟩ := hrel
    by_cases hlt : i < a0.size
    · have hlt0 : decide ((i : Int) < (a0.size : Int)) = true := decide_eq_true (by omega)
      have hil : i < (text_Lower.upto a0.data.toList i).length := by rw [text_Lower.upto_len _ _ HI.out]; exact hlt
      have HIL := Aside0.mk hil
      have HLT := Aside0.mk hlt
      clear hil
      obtain ⟨ch, hcc⟩ : ∃ c, a0.data.toList[i]? = some c := ⟨_, List.getElem?_eq_getElem (show i < a0.data.toList.length from hlt)⟩
      have hx0 := (HL.out i ch (text_Lower.upto_at _ _ _ hcc)).1
      have HC := Aside0.mk hcc
      clear hcc
      have q0 : (i < a0.size) = True := eq_true hlt
      have q1 : ((i : Int) < (a0.size : Int)) = True := eq_true (by omega)
      clear hlt
      go_wp2_with (first | (go_at_call 48; (with_reducible refine (text_Lower.sm ch _).mono ?_); rintro e w3 ⟨rfl, hd⟩; have hb := Drawn0.below hd; have n0_ := Aside0.mk (below_step (below_y HB.out) hb); have n1_ := Aside0.mk (text_Lower.keep HL.out (below_y hb)); clear HB HL hx0; have HB := n0_; have HL := n1_; clear n0_ n1_ hb hd; have hx1 := (HL.out i ch (text_Lower.upto_at _ _ _ HC.out)).1; have hf1 := (HL.out i ch (text_Lower.upto_at _ _ _ HC.out)).2))
      go_roundw
      case rel => exact ⟨i + 1, by rw [text_Lower.wr _ ⟨by omega, by have := HLT.out; have := HS.out; omega⟩]; rfl, ⟨HLT.out⟩, ⟨by rw [← text_Lower.upto_set _ _ _ HC.out]; exact text_Lower.set HL.out HIL.out _⟩, ⟨below_set HB.out GE.out⟩⟩
      case measure => rw [text_Lower.wr _ ⟨by omega, by have := HLT.out; have := HS.out; omega⟩]; have := HLT.out; simp [intOf]; omega
    · have hlt0 : decide ((i : Int) < (a0.size : Int)) = false := decide_eq_false (by omega)
      have hlt1 : decide (i < a0.size) = false := decide_eq_false hlt
      have hie : i = a0.size := by have := HI.out; omega
      have HE := Aside0.mk (show text_Lower.upto a0.data.toList i = a0.data.toList.map text_Lower.small by unfold text_Lower.upto; rw [hie, List.take_of_length_le (show a0.data.toList.length ≤ a0.size from Nat.le_refl _), List.drop_of_length_le (show a0.data.toList.length ≤ a0.size from Nat.le_refl _), List.append_nil])
      rw [HE.out] at HL
      clear hie hlt
      go_wp2_with (first | ((with_reducible refine gate_dst (N := 22) rfl ?_); refine text_Lower.back (l := List.map text_Lower.small a0.data.toList) (g := gb) (off := 0) (n := a0.size) (c := cc) ?hg ?ho ?hn ?hl ?_; (case hg => rfl); (case ho => refine ⟨_, rfl, ?_⟩; first | (with_reducible rfl) | (go_simp; done) | rfl | (go_simp; rfl)); (case hn => rw [List.length_map]; rfl); (case hl => intro j hj; rw [Nat.zero_add]; exact (HL.out j _ (List.getElem?_eq_getElem hj)).1)))
      go_ret
      exact ⟨rfl, HB.out⟩

end Go.Proofs.YtghdkpcpgpfgcaaDoor.XSta
