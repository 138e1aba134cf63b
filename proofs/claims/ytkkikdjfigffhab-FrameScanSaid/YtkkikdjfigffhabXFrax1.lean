-- By a program of this work (xprint.py) over the translation; Lean checks it.
import Derived.Test.YtkkikdjfigffhabXFrax0
namespace Go.Proofs.Ytkkikdjfigffhab.XFra
open Go.RowKit Go.Proofs.YtkkikdjfigffhabW.PrintWords Go.Proofs.YtkkikdjfigffhabW.PrintLast Go.Proofs.YtkkikdjfigffhabW.PrintMore
attribute [local go_sem] max2_int min2_int max_two min_two max_three min_three max_four min_four   -- for this text's walks alone
set_option linter.unusedVariables false
set_option linter.unusedSimpArgs false

/-! ### newsreelref01_Bytes: function 17 -/
def newsreelref01_Bytes.f (l0 : List Int) (l1 : List Int) : Option (Bool) := some ((strOfNums l0).toList == (strOfNums l1).toList)
set_option maxHeartbeats 8000000 in
set_option maxRecDepth 100000 in
theorem newsreelref01_Bytes.calls (A0 : Option Addr) (c0 : Nat) (l0 : List Int) (A1 : Option Addr) (c1 : Nat) (l1 : List Int) (r : Bool) (w : World) (hr0 : Kd.C (Kd.int .u8) w A0 l0.length l0) (hc0 : l0.length ≤ c0) (hr1 : Kd.C (Kd.int .u8) w A1 l1.length l1) (hc1 : l1.length ≤ c1) (h : newsreelref01_Bytes.f l0 l1 = some r) :
    Calls Try.prog 17 #[.slice A0 l0.length c0, .slice A1 l1.length c1] w fun e w' => e = .returned (.bool r) ∧ Drawn0 w w' := by
  have HR0 := Aside0.mk hr0
  have HC0 := Aside0.mk hc0
  clear hr0 hc0
  have HR1 := Aside0.mk hr1
  have HC1 := Aside0.mk hc1
  clear hr1 hc1
  have H : (some ((strOfNums l0).toList == (strOfNums l1).toList)) = some r := h
  clear h
  obtain rfl := Option.some.inj H
  have hcv3 := Kd.C_string (P := Try.prog) (A := A0) (c := c0) Try.underlying23 Try.underlying5 Try.underlying9 HR0.out
  have hcw3 := fun (m_ n_ : Nat) => Kd.C_string (P := Try.prog) (A := A0) (c := c0) Try.underlying23 Try.underlying5 Try.underlying9 (Kd.C_drewN (Kd.C_drewN HR0.out m_) n_)
  have hcx3 := fun (m_ : Nat) => Kd.C_string (P := Try.prog) (A := A0) (c := c0) Try.underlying23 Try.underlying5 Try.underlying9 (Kd.C_drewN HR0.out m_)
  have hcv4 := Kd.C_string (P := Try.prog) (A := A1) (c := c1) Try.underlying23 Try.underlying5 Try.underlying9 HR1.out
  have hcw4 := fun (m_ n_ : Nat) => Kd.C_string (P := Try.prog) (A := A1) (c := c1) Try.underlying23 Try.underlying5 Try.underlying9 (Kd.C_drewN (Kd.C_drewN HR1.out m_) n_)
  have hcx4 := fun (m_ : Nat) => Kd.C_string (P := Try.prog) (A := A1) (c := c1) Try.underlying23 Try.underlying5 Try.underlying9 (Kd.C_drewN HR1.out m_)
  go_enter Try.func17, Try.ntmps17
  go_wp2
  go_ret
  exact ⟨by first | rfl | (simp; done) | (simp [*]; done), by repeat (first | exact Drawn0.refl _ | apply Drawn0.step)⟩

-- NOT PRINTED: function 174 (atomic_LoadUint32)

-- NOT PRINTED: function 168 (atomic_Bool_Load)

-- NOT PRINTED: function 183 (race_Disable)

-- NOT PRINTED: function 184 (atomic_CompareAndSwapInt32)

-- NOT PRINTED: function 185 (race_Enable)

-- NOT PRINTED: function 186 (race_Acquire)

-- NOT PRINTED: function 189 (atomic_AddInt32)

-- NOT PRINTED: function 191 (sync_runtime_canSpin)

-- NOT PRINTED: function 192 (sync_runtime_doSpin)

-- NOT PRINTED: function 193 (sync_throw)

-- NOT PRINTED: function 194 (sync_runtime_nanotime)

-- NOT PRINTED: function 195 (sync_runtime_SemacquireMutex)

-- NOT PRINTED: function 187 (sync_Mutex_lockSlow)

-- NOT PRINTED: function 179 (sync_Mutex_Lock_179)

-- NOT PRINTED: function 175 (sync_Mutex_Lock_175)

-- NOT PRINTED: function 188 (race_ReleaseMerge)

-- NOT PRINTED: function 196 (sync_fatal)

-- NOT PRINTED: function 197 (sync_runtime_Semrelease)

-- NOT PRINTED: function 190 (sync_Mutex_unlockSlow)

-- NOT PRINTED: function 180 (sync_Mutex_Unlock_180)

-- NOT PRINTED: function 176 (sync_Mutex_Unlock_176)

-- NOT PRINTED: function 181 (atomic_StoreUint32)

/-! ### atomic_b32: function 182 -/
def atomic_b32.f (a0 : Bool) : Option (Int) := if a0 = true then (some 1) else (some 0)
set_option maxHeartbeats 8000000 in
set_option maxRecDepth 100000 in
theorem atomic_b32.calls (a0 : Bool) (r : Int) (w : World) (h : atomic_b32.f a0 = some r) :
    Calls Try.prog 182 #[.bool a0] w fun e w' => e = .returned (.int .u32 r) ∧ Drawn0 w w' := by
  have H : (if a0 = true then (some 1) else (some 0)) = some r := h
  clear h
  by_cases c2 : a0 = true
  · subst c2
    have H1 : (some 1) = some r := by rw [if_pos rfl] at H; exact H
    clear H
    have H := H1
    clear H1
    obtain rfl := Option.some.inj H
    go_enter Try.func182, Try.ntmps182
    go_wp2
    go_ret
    exact ⟨by first | rfl | (simp; done) | (simp [*]; done), by repeat (first | exact Drawn0.refl _ | apply Drawn0.step)⟩
  · replace c2 := Bool.eq_false_iff.mpr c2
    subst c2
    have H1 : (some 0) = some r := by rw [if_neg (show ¬ (false = true) by decide)] at H; exact H
    clear H
    have H := H1
    clear H1
    obtain rfl := Option.some.inj H
    go_enter Try.func182, Try.ntmps182
    go_wp2
    go_ret
    exact ⟨by first | rfl | (simp; done) | (simp [*]; done), by repeat (first | exact Drawn0.refl _ | apply Drawn0.step)⟩

-- NOT PRINTED: function 177 (atomic_Bool_Store)

-- NOT PRINTED: function 169 (sync_Once_doSlow)

-- NOT PRINTED: function 159 (sync_Once_Do)

-- NOT PRINTED: function 160 (crc_steps_make)

-- NOT PRINTED: function 144 (crc_steps_of)

/-! ### crc_More: function 118 -/
/-- One bit's step of the register. -/
def crcStep (c : Nat) : Nat := if c % 2 = 1 then (c / 2) ^^^ 3988292384 else c / 2
def crcSteps : Nat → Nat → Nat
  | 0, c => c
  | n + 1, c => crcStep (crcSteps n c)
theorem crcStep_lt {c : Nat} (h : c < 4294967296) : crcStep c < 4294967296 := by
  unfold crcStep
  split
  · exact Nat.xor_lt_two_pow (n := 32) (by omega) (by omega)
  · omega
theorem crcSteps_lt (n : Nat) {c : Nat} (h : c < 4294967296) : crcSteps n c < 4294967296 := by
  induction n with
  | zero => exact h
  | succ n ih => exact crcStep_lt ih
def crcTab (i : Nat) : Nat := crcSteps 8 i
theorem u32_wraps (n : Int) (h0 : 0 ≤ n) (h1 : n < 2 ^ 32) : IntKind.u32.wrap n = n := by rw [IntKind.wrap_u32]; omega
theorem u32_and1 (c : Nat) (h : c < 4294967296) : bits .and .u32 (c : Int) 1 = ((c % 2 : Nat) : Int) := by
  have h1 := (bits_nat .u32 32 (by decide) u32_wraps c 1 h (by decide)).1
  rw [Nat.and_one_is_mod] at h1
  exact h1
theorem u32_xor (a b : Nat) (ha : a < 4294967296) (hb : b < 4294967296) : bits .xor .u32 (a : Int) (b : Int) = ((a ^^^ b : Nat) : Int) := by
  have ha' : a % 2 ^ 32 = a := Nat.mod_eq_of_lt ha
  have hb' : b % 2 ^ 32 = b := Nat.mod_eq_of_lt hb
  have hx : a ^^^ b < 2 ^ 32 := Nat.xor_lt_two_pow ha hb
  simp only [bits, IntKind.bits, BitVec.ofInt_natCast]
  show IntKind.u32.wrap (((BitVec.ofNat 32 a ^^^ BitVec.ofNat 32 b : BitVec 32).toNat : Nat) : Int) = _
  rw [BitVec.toNat_xor, BitVec.toNat_ofNat, BitVec.toNat_ofNat, ha', hb']
  exact u32_wraps _ (Int.natCast_nonneg _) (by exact_mod_cast hx)
theorem crcStep_odd (c : Nat) (h : c < 4294967296) (ho : c % 2 = 1) : bits .xor .u32 ((c : Int) / 2) 3988292384 = ((crcStep c : Nat) : Int) := by
  have h1 := u32_xor (c / 2) 3988292384 (by omega) (by omega)
  unfold crcStep
  rw [if_pos ho, ← h1]
  rfl
theorem crcStep_even (c : Nat) (ho : c % 2 = 0) : (c : Int) / 2 = ((crcStep c : Nat) : Int) := by
  unfold crcStep
  rw [if_neg (by omega)]
  rfl
set_option maxHeartbeats 4000000 in
set_option maxRecDepth 100000 in
theorem crc_make (g : Nat) (cs : Array Value) (w : World) (hb : w.heap[g]? = some (.cells cs 182 (0, 0))) (hs : cs.size = 259) :
    Calls Try.prog 160 #[.pointer (some ⟨g, 0, none⟩)] w fun e w' => e = .returned (.tuple #[]) ∧ ∃ cs' : Array Value, w'.heap[g]? = some (.cells cs' 182 (0, 0)) ∧ cs'.size = 259 ∧ (∀ j, j < 3 → cs'[j]? = cs[j]?) ∧ (∀ j, j < 256 → cs'[3 + j]? = some (.int .u32 (crcTab j : Nat))) ∧ Below g w w' := by
  have HB := Aside0.mk hb
  have HS := Aside0.mk hs
  clear hb hs
  go_enter Try.func160, Try.ntmps160
  go_wp2
  go_loopw [4] (fun v4 wr => ∃ i : Nat, i ≤ 256 ∧ v4 = .int .i64 i ∧ Aside0 (∃ cs' : Array Value, wr.heap[g]? = some (.cells cs' 182 (0, 0)) ∧ cs'.size = 259 ∧ (∀ j, j < 3 → cs'[j]? = cs[j]?) ∧ (∀ j, j < i → cs'[3 + j]? = some (.int .u32 (crcTab j : Nat))) ∧ Below g w wr)) (fun v4 _ => 256 - (intOf v4).toNat)
  case atStart => exact ⟨0, by omega, rfl, ⟨cs, HB.out, HS.out, fun _ _ => rfl, fun j h => by omega, Below.refl _ _⟩⟩
  case round =>
    obtain ⟨i, hi, rfl, HI⟩ := hrel
    by_cases hlt : i < 256
    · go_wp2
      go_loop [3, 9] (fun v3 v9 => ∃ n : Nat, n ≤ 8 ∧ v9 = .int .i64 n ∧ v3 = .int .u32 (crcSteps n i : Nat)) (fun _ v9 => 8 - (intOf v9).toNat)
      case atStart => exact ⟨0, by omega, rfl, rfl⟩
      case round =>
        obtain ⟨n, hn, rfl, rfl⟩ := hrel
        have hc : crcSteps n i < 4294967296 := crcSteps_lt n (by omega)
        generalize hcc : crcSteps n i = c at *
        have HC := Aside0.mk hcc
        clear hcc
        by_cases hn8 : n < 8
        · have hn0 : decide ((n : Int) < 8) = true := decide_eq_true (by omega)
          have HN8 := Aside0.mk hn8
          by_cases hodd : c % 2 = 1
          · have hb1 : (bits BinOp.and IntKind.u32 (c : Int) 1 == 1) = true := by rw [u32_and1 c hc, hodd]; rfl
            have HO := Aside0.mk hodd
            clear hodd
            go_wp2
            go_round
            case rel => exact ⟨n + 1, by omega, by go_num, by rw [crcStep_odd c hc HO.out, ← HC.out]; rfl⟩
            case measure => have := HN8.out; simp [intOf]; omega
          · have hb1 : (bits BinOp.and IntKind.u32 (c : Int) 1 == 1) = false := by
              rw [u32_and1 c hc, show c % 2 = 0 by omega]; rfl
            have HO := Aside0.mk (show c % 2 = 0 by omega)
            clear hodd
            go_wp2
            go_round
            case rel => exact ⟨n + 1, by omega, by go_num, by rw [crcStep_even c HO.out, ← HC.out]; rfl⟩
            case measure => have := HN8.out; simp [intOf]; omega
        · have hn0 : decide ((n : Int) < 8) = false := decide_eq_false (by omega)
          have e8 : n = 8 := by omega
          have HE := Aside0.mk (show (crcTab i : Nat) = c by unfold crcTab; rw [← e8]; exact HC.out)
          obtain ⟨cs', hcb, hcs, hc3, hct, hk⟩ := HI.out
          have hcell : wr.cell? ⟨g, 3 + i, none⟩ = some (cs'[3 + i]'(by omega)) := (blk_cell hcb (3 + i)).trans (Array.getElem?_eq_getElem (by omega))
          have hfz := blk_frozen hcb (3 + i)
          have HCB := Aside0.mk hcb
          have HCS := Aside0.mk hcs
          have HC3 := Aside0.mk hc3
          have HCT := Aside0.mk hct
          have HK := Aside0.mk hk
          generalize cs'[3 + i]'(by omega) = old at hcell
          clear hcb hcs hc3 hct hk e8
          go_wp2
          go_roundw
          case rel => exact ⟨i + 1, by omega, by go_num, ⟨_, blk_set HCB.out (3 + i) _, by simp [HCS.out], fun j hj => by
              rw [Array.getElem?_setIfInBounds_ne (by omega)]; exact HC3.out j hj, fun j hj => by
              by_cases hji : j = i
              · subst hji
                rw [Array.getElem?_setIfInBounds_self_of_lt (by have := HCS.out; omega), HE.out]
              · rw [Array.getElem?_setIfInBounds_ne (by omega)]; exact HCT.out j (by omega), Below.setCell HK.out (Nat.le_refl _) _⟩⟩
          case measure => simp [intOf]; omega
    · go_wp2
      go_end0
      obtain ⟨cs', hcb, hcs, hc3, hct, hk⟩ := HI.out
      exact ⟨rfl, cs', hcb, hcs, hc3, fun j hj => hct j (by omega), hk⟩
theorem crc_disable (w : World) : (callFunc 183 #[]).run Try.prog w = .ok (.value (.tuple #[])) w := run_call_mark0 Try.func183 (by kernel_rfl) (by kernel_rfl) (by kernel_rfl) .disable (by kernel_rfl) w
theorem crc_enable (w : World) : (callFunc 185 #[]).run Try.prog w = .ok (.value (.tuple #[])) w := run_call_mark0 Try.func185 (by kernel_rfl) (by kernel_rfl) (by kernel_rfl) .enable (by kernel_rfl) w
theorem crc_acquire (a : Addr) (w : World) : (callFunc 186 #[.pointer (some a)]).run Try.prog w = .ok (.value (.tuple #[])) w := run_call_marked Try.func186 (by kernel_rfl) (by kernel_rfl) (by kernel_rfl) .acquire (by kernel_rfl) a w
theorem crc_release (a : Addr) (w : World) : (callFunc 188 #[.pointer (some a)]).run Try.prog w = .ok (.value (.tuple #[])) w := run_call_marked Try.func188 (by kernel_rfl) (by kernel_rfl) (by kernel_rfl) .releaseMerge (by kernel_rfl) a w
set_option maxRecDepth 100000 in
set_option maxHeartbeats 1600000 in
theorem crc_store_deferred (a : Addr) (x : Value) (u : FrameMode) (w : World) (hc : w.cell? a = some x) (hz : w.frozen? a = false) :
    CallsD Try.prog 177 #[.pointer (some a), .bool true] u w fun e u' w' => u' = u ∧ (e = .returned (.tuple #[]) ∧ w' = w.drew.setCell a (.int .u32 1)) := by
  have hc' : w.drew.cell? a = some x := by go_simp
  have hz' : w.drew.frozen? a = false := by go_simp
  have hst := run_call_store (P := Try.prog) Try.func181 (by kernel_rfl) (by kernel_rfl) (by kernel_rfl) (by kernel_rfl) (k := .u32) (y := 1) hc' hz'
  go_enter_d Try.func177, Try.ntmps177
  go_wp2
  go_region_calls
  all_goals (go_end0; exact ⟨rfl, rfl⟩)
set_option maxRecDepth 100000 in
set_option maxHeartbeats 1600000 in
theorem crc_unlock_deferred (a : Addr) (u : FrameMode) (w : World) (hc : w.cell? a = some (.int .i32 1)) (hz : w.frozen? a = false) :
    CallsD Try.prog 176 #[.pointer (some a)] u w fun e u' w' => u' = u ∧ (e = .returned (.tuple #[]) ∧ w' = w.setCell a (.int .i32 0)) := by
  have hd := crc_disable
  have he := crc_enable
  have hr := crc_release
  have hadd := run_call_add (P := Try.prog) Try.func189 (by kernel_rfl) (by kernel_rfl) (by kernel_rfl) .i32 (by kernel_rfl) (y := -1) (s := 0) hc hz (by simp [go_sem]; rfl)
  have hcv := run_convert_to_unsafe (P := Try.prog) (src := 209) (dst := 213) Try.underlying209 Try.underlying213 (by kernel_rfl) hc
  go_enter_d Try.func176, Try.ntmps176
  go_wp2
  go_end0
  go_wp2
  go_end0
  exact ⟨rfl, rfl⟩
set_option maxRecDepth 100000 in
set_option maxHeartbeats 1600000 in
theorem crc_lock_free (a : Addr) (w : World) (hc : w.cell? a = some (.int .i32 0)) (hz : w.frozen? a = false) :
    Calls Try.prog 175 #[.pointer (some a)] w fun e w' => e = .returned (.tuple #[]) ∧ w' = w.setCell a (.int .i32 1) := by
  have hd := crc_disable
  have he := crc_enable
  have ha := crc_acquire
  have hcas := run_call_cas_hit (P := Try.prog) Try.func184 (by kernel_rfl) (by kernel_rfl) (by kernel_rfl) .i32 (by kernel_rfl) (y := 1) hc hz
  have hc' : (w.setCell a (.int .i32 1)).cell? a = some (.int .i32 1) := World.cell?_setCell_same w a _ hc
  have hcv := run_convert_to_unsafe (P := Try.prog) (src := 209) (dst := 213) Try.underlying209 Try.underlying213 (by kernel_rfl) hc'
  go_enter Try.func175, Try.ntmps175
  go_wp2
  first | go_end0 | (simp only [Exit.inBlock, Exit.then]; refine bodyPost_ret (results_none rfl _ _ _) rfl ?_) | refine bodyPost_ret (results_none rfl _ _ _) rfl ?_
  go_wp2
  go_end0
  exact ⟨rfl, rfl⟩
/-- What the table's block holds when the table has been made. -/
def CrcDone (w : World) (g : Nat) : Prop := ∃ cs : Array Value, w.heap[g]? = some (.cells cs 182 (0, 0)) ∧ cs.size = 259 ∧ cs[0]? = some (.int .u32 1) ∧ ∀ j, j < 256 → cs[3 + j]? = some (.int .u32 (crcTab j : Nat))
def CrcFresh (w : World) (g : Nat) : Prop := ∃ cs : Array Value, w.heap[g]? = some (.cells cs 182 (0, 0)) ∧ cs.size = 259 ∧ cs[0]? = some (.int .u32 0) ∧ cs[1]? = some (.int .i32 0)
def CrcSlowPost (w : World) (g : Nat) (e : Ending) (w' : World) : Prop := e = .returned (.tuple #[]) ∧ CrcDone w' g ∧ Below g w w'
set_option maxRecDepth 100000 in
set_option maxHeartbeats 1600000 in
theorem crc_slow (g : Nat) (w : World) (hf : CrcFresh w g) :
    Calls Try.prog 169 #[.pointer (some ⟨g, 0, none⟩), .func (.func 160) #[.pointer (some ⟨g, 0, none⟩)] #[]] w (CrcSlowPost w g) := by
  obtain ⟨cs, hb, hs, h0, h1⟩ := hf
  have c0 : w.cell? ⟨g, 0, none⟩ = some (.int .u32 0) := (blk_cell hb 0).trans h0
  have c1 : w.cell? ⟨g, 1, none⟩ = some (.int .i32 0) := (blk_cell hb 1).trans h1
  have f0 := blk_frozen hb 0
  have f1 := blk_frozen hb 1
  have hb1 := blk_set hb 1 (.int .i32 1)
  have hm := crc_make g _ (w.setCell ⟨g, 1, none⟩ (.int .i32 1)) hb1 (by simp [hs])
  have HM := Aside0.mk hm
  have HBB := Aside0.mk hb1
  have HS := Aside0.mk hs
  have H0 := Aside0.mk h0
  have H1 := Aside0.mk h1
  clear hb hb1 hm h0 h1 hs
  have hl := run_call_load (P := Try.prog) Try.func174 (by kernel_rfl) (by kernel_rfl) (by kernel_rfl) .u32 (by kernel_rfl) (w := w.setCell ⟨g, 1, none⟩ (.int .i32 1)) (a := ⟨g, 0, none⟩) (x := 0) ((World.cell?_setCell_other _ ⟨g, 1, none⟩ ⟨g, 0, none⟩ _ (by simp)).trans c0)
  have hnot : ∀ (x : Bool) (w : World), (Op.unary .not (.bool x)).run Try.prog w = .ok (.bool (!x)) w := fun _ _ => rfl
  go_enter_defers Try.func169, Try.ntmps169
  go_wp2_with (first | (go_at_call 168; go_in) | (go_at_call 175; refine (crc_lock_free ⟨g, 1, none⟩ _ (by go_simp) (by go_simp)).mono ?_; rintro e w' ⟨rfl, rfl⟩) | (go_at_call 160; refine HM.out.mono ?_; rintro e w2 ⟨rfl, hpost⟩; have HP := Aside0.mk hpost; clear hpost))
  obtain ⟨cs2, hb2, hs2, h2, ht2, hk2⟩ := HP.out
  have d0 : w2.cell? ⟨g, 0, none⟩ = some (.int .u32 0) := (blk_cell hb2 0).trans ((h2 0 (by omega)).trans (by rw [Array.getElem?_setIfInBounds_ne (by omega)]; exact H0.out))
  have d1 : w2.cell? ⟨g, 1, none⟩ = some (.int .i32 1) := (blk_cell hb2 1).trans ((h2 1 (by omega)).trans (Array.getElem?_setIfInBounds_self_of_lt (by have := HS.out; omega)))
  refine leaves_cons (f := 177) (args := #[.pointer (some ⟨g, 0, none⟩), .bool true]) (by simp) (by simp [go_sem]) ?_
  refine (crc_store_deferred ⟨g, 0, none⟩ (.int .u32 0) .returning _ d0 (blk_frozen hb2 0)).mono ?_
  rintro e u' w'' ⟨rfl, rfl, rfl⟩
  refine leaves_cons (f := 176) (args := #[.pointer (some ⟨g, 1, none⟩)]) (by simp [settle]) (by simp [go_sem]) ?_
  have hb3 : (w2.drew.setCell ⟨g, 0, none⟩ (.int .u32 1)).heap[g]? = some (.cells (cs2.setIfInBounds 0 (.int .u32 1)) 182 (0, 0)) := blk_set (w := w2.drew) hb2 0 _
  refine (crc_unlock_deferred ⟨g, 1, none⟩ _ _ ((World.cell?_setCell_other _ ⟨g, 0, none⟩ ⟨g, 1, none⟩ _ (by simp)).trans (by rw [World.cell?_drew]; exact d1)) (blk_frozen hb3 1)).mono ?_
  rintro e u' w'' ⟨rfl, rfl, rfl⟩
  have hb4 := blk_set hb3 1 (.int .i32 0)
  have hfin : CrcSlowPost w g (.returned (.tuple #[])) ((w2.drew.setCell ⟨g, 0, none⟩ (.int .u32 1)).setCell ⟨g, 1, none⟩ (.int .i32 0)) := by
    refine ⟨rfl, ⟨_, hb4, by simp [hs2], ?_, fun j hj => ?_⟩, ?_⟩
    · rw [Array.getElem?_setIfInBounds_ne (by omega), Array.getElem?_setIfInBounds_self_of_lt (by omega)]
    · rw [Array.getElem?_setIfInBounds_ne (by omega), Array.getElem?_setIfInBounds_ne (by omega)]; exact ht2 j hj
    · have k1 : Below g w w2 := Below.trans (Below.setCell (Below.refl g w) (Nat.le_refl _) _) hk2
      have k2 : Below g w w2.drew := k1.drew
      exact Below.setCell (Below.setCell k2 (Nat.le_refl _) _) (Nat.le_refl _) _
  simpa [Leaves, settle, results, Try.results169] using hfin
set_option maxRecDepth 100000 in
set_option maxHeartbeats 1600000 in
theorem crc_do_first (g : Nat) (w : World) (hf : CrcFresh w g) :
    Calls Try.prog 159 #[.pointer (some ⟨g, 0, none⟩), .func (.func 160) #[.pointer (some ⟨g, 0, none⟩)] #[]] w (CrcSlowPost w g) := by
  have HS := Aside0.mk (crc_slow g w hf)
  obtain ⟨cs, hb, hs, h0, h1⟩ := hf
  have c0 : w.cell? ⟨g, 0, none⟩ = some (.int .u32 0) := (blk_cell hb 0).trans h0
  clear hb hs h0 h1
  have hl := run_call_load (P := Try.prog) Try.func174 (by kernel_rfl) (by kernel_rfl) (by kernel_rfl) .u32 (by kernel_rfl) c0
  have hnot : ∀ (x : Bool) (w : World), (Op.unary .not (.bool x)).run Try.prog w = .ok (.bool (!x)) w := fun _ _ => rfl
  go_enter Try.func159, Try.ntmps159
  go_wp2_with (first | (go_at_call 169; refine HS.out.mono ?_; rintro e w' ⟨rfl, hp⟩; have HP := Aside0.mk hp; clear hp) | (go_at_call 168; go_in))
  go_end0
  exact ⟨rfl, HP.out⟩
theorem crc_do_done (g : Nat) (fv : Value) (w : World) (hd : CrcDone w g) :
    Calls Try.prog 159 #[.pointer (some ⟨g, 0, none⟩), fv] w fun e w' => e = .returned (.tuple #[]) ∧ w = w' := by
  obtain ⟨cs, hb, hs, h0, h1⟩ := hd
  have c0 : w.cell? ⟨g, 0, none⟩ = some (.int .u32 1) := (blk_cell hb 0).trans h0
  clear hb hs h0 h1
  have hl := run_call_load (P := Try.prog) Try.func174 (by kernel_rfl) (by kernel_rfl) (by kernel_rfl) .u32 (by kernel_rfl) c0
  have hnot : ∀ (x : Bool) (w : World), (Op.unary .not (.bool x)).run Try.prog w = .ok (.bool (!x)) w := fun _ _ => rfl
  go_enter Try.func159, Try.ntmps159
  go_wp2
  go_end0
  exact ⟨rfl, rfl⟩
theorem CrcDone.drew {w : World} {g : Nat} (h : CrcDone w g) : CrcDone w.drew g := h
set_option maxRecDepth 100000 in
set_option maxHeartbeats 1600000 in
theorem crc_of (g : Nat) (i : Int) (w : World) (h0 : 0 ≤ i) (h1 : i < 256) (hst : CrcFresh w g ∨ CrcDone w g) :
    Calls Try.prog 144 #[.pointer (some ⟨g, 0, none⟩), .int .u8 i] w fun e w' => e = .returned (.int .u32 (crcTab i.toNat : Nat)) ∧ CrcDone w' g ∧ Below g w w' := by
  have hd : Calls Try.prog 159 #[.pointer (some ⟨g, 0, none⟩), .func (.func 160) #[.pointer (some ⟨g, 0, none⟩)] #[]] w (CrcSlowPost w g) := by
    rcases hst with hf | hd
    · exact crc_do_first g w hf
    · refine (crc_do_done g _ w hd).mono ?_
      rintro e w' ⟨rfl, rfl⟩
      exact ⟨rfl, hd, Below.refl _ _⟩
  have HD := Aside0.mk hd
  clear hd hst
  have hmf : ∀ (fn : Fn) (first cap : Array Value) (w : World), (Instr.makeFunc fn first cap).run Try.prog w = .ok (.func fn first cap) w := fun _ _ _ _ => rfl
  go_enter Try.func144, Try.ntmps144
  go_wp2_with (go_at_call 159; refine HD.out.mono ?_; rintro e w2 ⟨rfl, hdone, hbel⟩; have HDN := Aside0.mk hdone; have HBL := Aside0.mk hbel; have hcc : w2.cell? ⟨g, 3 + i.toNat, none⟩ = some (.int .u32 (crcTab i.toNat : Nat)) := (by obtain ⟨cs, hb, _, _, ht⟩ := HDN.out; exact (blk_cell hb _).trans (ht _ (by omega))); clear hdone hbel)
  go_ret
  exact ⟨rfl, HDN.out, HBL.out⟩
def crcByte (c x : Nat) : Nat := crcTab ((c % 256) ^^^ x) ^^^ (c / 256)
def crcMore (c : Nat) (l : List Int) : Nat := l.foldl (fun c x => crcByte c x.toNat) c
theorem u8_xor (a b : Nat) (ha : a < 256) (hb : b < 256) : bits .xor .u8 (a : Int) (b : Int) = ((a ^^^ b : Nat) : Int) := by
  have ha' : a % 2 ^ 8 = a := Nat.mod_eq_of_lt ha
  have hb' : b % 2 ^ 8 = b := Nat.mod_eq_of_lt hb
  have hx : a ^^^ b < 2 ^ 8 := Nat.xor_lt_two_pow ha hb
  simp only [bits, IntKind.bits, BitVec.ofInt_natCast]
  show IntKind.u8.wrap (((BitVec.ofNat 8 a ^^^ BitVec.ofNat 8 b : BitVec 8).toNat : Nat) : Int) = _
  rw [BitVec.toNat_xor, BitVec.toNat_ofNat, BitVec.toNat_ofNat, ha', hb', IntKind.wrap_u8]
  omega
theorem crcTab_lt (i : Nat) (h : i < 256) : crcTab i < 4294967296 := crcSteps_lt 8 (by omega)
theorem xor_lt8 {a b : Nat} (ha : a < 256) (hb : b < 256) : a ^^^ b < 256 := Nat.xor_lt_two_pow (n := 8) ha hb
theorem crcByte_lt {c x : Nat} (hc : c < 4294967296) (hx : x < 256) : crcByte c x < 4294967296 := by
  unfold crcByte
  exact Nat.xor_lt_two_pow (n := 32) (crcTab_lt _ (xor_lt8 (by omega) hx)) (by omega)
def crcOk (c : Int) (l : List Int) : Bool := decide (0 ≤ c) && decide (c < 4294967296) && l.all fun x => decide (0 ≤ x) && decide (x < 256)
def crc_More.f (a0 : Int) (l1 : List Int) : Option Int := if crcOk a0 l1 = true then some ((crcMore a0.toNat l1 : Nat) : Int) else none
set_option maxRecDepth 100000 in
set_option maxHeartbeats 4000000 in
theorem crc_More.calls (a0 : Int) (A1 : Option Addr) (c1 : Nat) (l1 : List Int) (r : Int) (w : World) (hr1 : Kd.C (Kd.int .u8) w A1 l1.length l1) (hc1 : l1.length ≤ c1) (h : crc_More.f a0 l1 = some r) :
    Calls Try.prog 118 #[.int .u32 a0, .slice A1 l1.length c1] w fun e w' => e = .returned (.int .u32 r) ∧ Below w.heap.size w w' := by
  unfold crc_More.f at h
  by_cases hok : crcOk a0 l1 = true
  · rw [if_pos hok] at h
    obtain rfl := Option.some.inj h
    unfold crcOk at hok
    simp only [Bool.and_eq_true, decide_eq_true_eq, List.all_eq_true] at hok
    obtain ⟨⟨ha0, ha1⟩, hall⟩ := hok
    obtain ⟨c, rfl⟩ := Int.eq_ofNat_of_zero_le ha0
    have HR := Aside0.mk hr1
    have HN := Aside0.mk hr1.2.1
    have HALL := Aside0.mk hall
    have HC0 := Aside0.mk (show c < 4294967296 by omega)
    clear h hr1 hall ha0 ha1
    rw [Int.toNat_natCast]
    have hz : CrcFresh (w.alloc (.cells Try.zeroCells182 182)) w.heap.size := ⟨Try.zeroCells182, heap_alloc_new _ _, by kernel_rfl, by kernel_rfl, by kernel_rfl⟩
    have HZ := Aside0.mk hz
    clear hz
    go_enter Try.func118, Try.ntmps118
    go_wp2
    go_loopw [0, 12] (fun v0 v12 wr => ∃ (i : Nat) (d : Nat), i ≤ l1.length ∧ v12 = .int .i64 i ∧ v0 = .int .u32 d ∧ Aside0 (d < 4294967296 ∧ crcMore d (l1.drop i) = crcMore c l1) ∧ Aside0 (CrcFresh wr w.heap.size ∨ CrcDone wr w.heap.size) ∧ Aside0 (Below w.heap.size w wr)) (fun _ v12 _ => l1.length - (intOf v12).toNat)
    case atStart => exact ⟨0, c, by omega, rfl, rfl, ⟨HC0.out, rfl⟩, ⟨.inl HZ.out⟩, ⟨below_alloc (Below.refl _ _) _⟩⟩
    case round =>
      clear HZ HC0
      obtain ⟨i, d, hi, rfl, rfl, HD, HST, HB⟩ := hrel
      obtain ⟨hd, hmore⟩ := HD.out
      have HM := Aside0.mk hmore
      clear HD hmore
      by_cases hlt : i < l1.length
      · have hlt0 : decide ((i : Int) < (l1.length : Int)) = true := decide_eq_true (by omega)
        obtain ⟨ad, e, hx⟩ := Kd.at_int HR.out (i : Int) (by omega) (by omega)
        cases e
        replace hx := (HB.out.cell (World.block_lt_of_cell? w _ hx)).trans hx
        have hrd : rd l1 (i : Int) = l1[i] := by
          unfold rd
          rw [Int.toNat_natCast, List.getD_eq_getElem?_getD, List.getElem?_eq_getElem hlt]
          rfl
        have hmem := HALL.out l1[i] (List.getElem_mem hlt)
        have hdrop : l1.drop i = l1[i] :: l1.drop (i + 1) := List.drop_eq_getElem_cons hlt
        rw [hrd] at hx
        rw [Int.toNat_natCast] at hx
        have HDR := Aside0.mk hdrop
        clear hrd hdrop
        generalize l1[i] = x at *
        obtain ⟨n, rfl⟩ := Int.eq_ofNat_of_zero_le hmem.1
        have hn : n < 256 := by omega
        have HLT := Aside0.mk hlt
        have hNN := HN.out
        have hxr : bits .xor .u8 ((d : Int) % 256) (n : Int) = ((d % 256 ^^^ n : Nat) : Int) := u8_xor (d % 256) n (by omega) hn
        have hlt8 : d % 256 ^^^ n < 256 := xor_lt8 (by omega) hn
        have HOF := Aside0.mk (crc_of w.heap.size (bits .xor .u8 ((d : Int) % 256) (n : Int)) wr (by rw [hxr]; omega) (by rw [hxr]; omega) HST.out)
        have hfin : bits .xor .u32 ((crcTab (bits .xor .u8 ((d : Int) % 256) (n : Int)).toNat : Nat) : Int) ((d : Int) / 256) = ((crcByte d n : Nat) : Int) := by
          rw [hxr, Int.toNat_natCast]
          exact u32_xor _ (d / 256) (crcTab_lt _ hlt8) (by omega)
        have HFIN := Aside0.mk hfin
        clear hmem hxr hlt8 hfin
        go_wp2_with (go_at_call 144; refine HOF.out.mono ?_; rintro e w2 ⟨rfl, hdn, hbl⟩; have HDN := Aside0.mk hdn; have HB2 := Aside0.mk (Below.trans HB.out hbl); clear hdn hbl)
        go_roundw
        case rel => exact ⟨i + 1, crcByte d n, by have := HLT.out; omega, by go_num, by rw [← HFIN.out], ⟨crcByte_lt hd hn, by
            have e := HM.out
            rw [HDR.out] at e
            exact e⟩, ⟨.inr HDN.out⟩, HB2⟩
        case measure => have := HLT.out; simp [intOf]; omega
      · have hlt0 : decide ((i : Int) < (l1.length : Int)) = false := decide_eq_false (by omega)
        go_wp2
        go_ret
        exact ⟨by
          have e := HM.out
          rw [List.drop_of_length_le (by omega)] at e
          rw [← e]
          rfl, HB.out⟩
  · rw [if_neg hok] at h
    cases h
theorem crcMore_lt (l : List Int) (c : Nat) (hc : c < 4294967296) (hl : ∀ x ∈ l, 0 ≤ x ∧ x < 256) : crcMore c l < 4294967296 := by
  induction l generalizing c with
  | nil => exact hc
  | cons x l ih =>
    have hx := hl x List.mem_cons_self
    exact ih _ (crcByte_lt hc (by omega)) (fun y hy => hl y (List.mem_cons_of_mem _ hy))
theorem crc_More.some {a : Int} {l : List Int} {c : Int} (h : crc_More.f a l = some c) : 0 ≤ a ∧ a < 4294967296 ∧ (∀ x ∈ l, 0 ≤ x ∧ x < 256) ∧ c = ((crcMore a.toNat l : Nat) : Int) ∧ 0 ≤ c ∧ c < 4294967296 := by
  unfold crc_More.f at h
  by_cases hok : crcOk a l = true
  · rw [if_pos hok] at h
    obtain rfl := Option.some.inj h
    unfold crcOk at hok
    simp only [Bool.and_eq_true, decide_eq_true_eq, List.all_eq_true] at hok
    obtain ⟨⟨ha0, ha1⟩, hall⟩ := hok
    have := crcMore_lt l a.toNat (by omega) hall
    exact ⟨ha0, ha1, hall, rfl, by omega, by omega⟩
  · rw [if_neg hok] at h
    cases h
theorem u32_not (c : Int) (h0 : 0 ≤ c) (h : c < 4294967296) : bits .xor .u32 IntKind.u32.max c = 4294967295 - c := by
  obtain ⟨n, rfl⟩ := Int.eq_ofNat_of_zero_le h0
  have e : IntKind.u32.max = ((4294967295 : Nat) : Int) := rfl
  have h1 : (4294967295 : Nat) ^^^ n = 4294967295 - n := by
    have h2 : (~~~(BitVec.ofNat 32 n)).toNat = 4294967295 - n := by
      rw [BitVec.toNat_not, BitVec.toNat_ofNat, Nat.mod_eq_of_lt (by omega)]
    rw [← h2, ← BitVec.allOnes_xor, BitVec.toNat_xor, BitVec.toNat_ofNat, Nat.mod_eq_of_lt (show n < 2 ^ 32 by omega)]
    rfl
  rw [e, u32_xor _ _ (by decide) (by omega), h1]
  omega

/-! ### crc_Sum: function 73 -/
def crc_Sum.f (l0 : List Int) : Option Int := (crc_More.f 4294967295 l0).bind fun c => some (4294967295 - c)
set_option maxHeartbeats 1600000 in
theorem crc_Sum.calls (A0 : Option Addr) (c0 : Nat) (l0 : List Int) (r : Int) (w : World) (hr0 : Kd.C (Kd.int .u8) w A0 l0.length l0) (hc0 : l0.length ≤ c0) (h : crc_Sum.f l0 = some r) :
    Calls Try.prog 73 #[.slice A0 l0.length c0] w fun e w' => e = .returned (.int .u32 r) ∧ Below w.heap.size w w' := by
  unfold crc_Sum.f at h
  obtain ⟨c, hc, hr⟩ := Option.bind_eq_some_iff.mp h
  have HC := Aside0.mk (crc_More.calls 4294967295 A0 c0 l0 c w hr0 hc0 hc)
  have k0 := (crc_More.some hc).2.2.2.2.1
  have k1 := (crc_More.some hc).2.2.2.2.2
  have HNOT := Aside0.mk (u32_not c k0 k1)
  obtain rfl := Option.some.inj hr
  have hsg : IntKind.u32.signed = false := rfl
  clear hr0 h hc k0 k1 hr
  go_enter Try.func73, Try.ntmps73
  go_wp2_with (go_at_call 118; refine HC.out.mono ?_; rintro e w' ⟨rfl, hb'⟩; have HB' := Aside0.mk hb'; clear hb')
  go_ret
  exact ⟨by rw [← HNOT.out]; rfl, HB'.out⟩

-- NOT PRINTED: function 119 (bytealg_MakeNoZero)

/-! ### bytes_Join: function 76 -/
def bytes_Join.ren : Go.Shelf.Ren := ⟨fun | 14 => 76 | 15 => 119 | n => n, fun | 26 => 38 | 22 => 23 | 3 => 3 | 4 => 4 | 0 => 0 | 9 => 9 | 20 => 20 | 5 => 5 | n => n, fun | n => n⟩
theorem bytes_Join.lays : Go.Proofs.SlLaysJ.n14 Try.prog bytes_Join.ren := {
  mixed := by kernel_rfl
  f14 := Try.func76.trans (congrArg some (by kernel_rfl))
  f15 := Try.func119.trans (congrArg some (by kernel_rfl))
  t0 := Try.underlying0
  a0 := Try.isAgg0
  z0 := Try.sizeOf0
  v0 := Try.zeroValue0
  t3 := Try.underlying3
  a3 := Try.isAgg3
  z3 := Try.sizeOf3
  v3 := Try.zeroValue3
  t4 := Try.underlying4
  a4 := Try.isAgg4
  z4 := Try.sizeOf4
  v4 := Try.zeroValue4
  t9 := Try.underlying9
  a9 := Try.isAgg9
  z9 := Try.sizeOf9
  v9 := Try.zeroValue9
  t20 := Try.underlying20
  a20 := Try.isAgg20
  z20 := Try.sizeOf20
  v20 := Try.zeroValue20
  t22 := Try.underlying23
  a22 := Try.isAgg23
  z22 := Try.sizeOf23
  v22 := Try.zeroValue23
  t26 := Try.underlying38
  a26 := Try.isAgg38
  z26 := Try.sizeOf38
  v26 := Try.zeroValue38
  t5 := Try.underlying5
  z5 := Try.sizeOf5
  i5 := by kernel_rfl }
def bytes_Join.f (l0 : List (List Int)) (l1 : List Int) : Option (List Int) := if 2 ≤ l0.length ∧ l0.length ≤ 140737488355328 ∧ l1.length = 0 ∧ l0.flatten.length ≤ 140737488355328 ∧ (l0.all fun l => l.all fun x => decide (0 ≤ x) && decide (x < 256)) = true then some l0.flatten else none
theorem bytes_Join.holds (w : World) (xs : List Int) (v : Value) (hb : ∀ x ∈ xs, 0 ≤ x ∧ x < 256) (h : (Kd.slice 5 (Kd.int .u8)).K w xs [v]) : Lib.HoldsBytes w v (Lib.bytesOf xs) := by
  obtain ⟨A, c, e, hl, hC⟩ := h
  obtain rfl : v = .slice A xs.length c := by injection e
  refine ⟨A, c, by rw [Lib.bytesOf_length], fun hA => ?_, fun a ha i x hx => ?_⟩
  · rcases Nat.eq_zero_or_pos xs.length with h0 | h0
    · rw [List.length_eq_zero_iff.1 h0]; rfl
    · obtain ⟨ad, e2, _⟩ := hC.2.2 h0
      rw [hA] at e2
      cases e2
  · have hi : i < xs.length := by have := (List.getElem?_eq_some_iff.1 hx).1; rwa [Lib.bytesOf_length] at this
    obtain ⟨ad, e2, hcell⟩ := hC.2.2 (by omega)
    obtain rfl : a = ad := Option.some.inj (ha.symm.trans e2)
    obtain ⟨c1, _, hk, hcc⟩ := hcell i xs[i] (List.getElem?_eq_getElem hi)
    have hk' : c1 = [.int .u8 xs[i]] := hk
    have h1 := hcc 0 (.int .u8 xs[i]) (by rw [hk']; rfl)
    rw [show i * (Kd.int .u8).sz + 0 = i from Nat.mul_one i] at h1
    rw [h1]
    have hx2 : x = UInt8.ofNat xs[i].toNat := by
      have e3 : (Lib.bytesOf xs)[i]? = some (UInt8.ofNat xs[i].toNat) := by unfold Lib.bytesOf; rw [List.getElem?_map, List.getElem?_eq_getElem hi]; rfl
      exact Option.some.inj (hx.symm.trans e3)
    have hr := hb xs[i] (List.getElem_mem hi)
    rw [hx2, UInt8.toNat_ofNat', show ((xs[i].toNat % 2 ^ 8 : Nat) : Int) = xs[i] by omega]
theorem bytes_Join.cell0 {w : World} {b o : Nat} {sp : Option Nat} {v : Value} (h : w.cell? ⟨b, o, sp⟩ = some v) : sp = none := by
  unfold World.cell? at h
  cases sp with
  | none => rfl
  | some q => split at h <;> simp at h
theorem bytes_Join.flat (l0 : List (List Int)) : Lib.join (l0.map Lib.bytesOf) [] = Lib.bytesOf l0.flatten ∧ Lib.lens (l0.map Lib.bytesOf) = l0.flatten.length := by
  constructor
  · cases l0 with
    | nil => rfl
    | cons x r =>
      rw [List.map_cons, Lib.join_cons]
      unfold Lib.joinTail Lib.bytesOf
      simp only [List.flatten_cons, List.map_append, List.nil_append, List.map_flatten, List.map_map]
      congr 2
  · induction l0 with
    | nil => rfl
    | cons x r ih =>
      rw [List.map_cons, Lib.lens_cons, ih, List.flatten_cons, List.length_append, Lib.bytesOf_length]
set_option maxHeartbeats 1000000 in
theorem bytes_Join.calls (A0 : Option Addr) (c0 : Nat) (l0 : List (List Int)) (A1 : Option Addr) (c1 : Nat) (l1 : List Int) (r : List Int) (w : World) (hr0 : Kd.C (Kd.slice 5 (Kd.int .u8)) w A0 l0.length l0) (hc0 : l0.length ≤ c0) (hr1 : Kd.C (Kd.int .u8) w A1 l1.length l1) (hc1 : l1.length ≤ c1) (h : bytes_Join.f l0 l1 = some r) :
    Calls Try.prog 76 #[.slice A0 l0.length c0, .slice A1 l1.length c1] w fun e w' => ∃ v0_ : Value, e = .returned (v0_) ∧ Kd.V (Kd.int .u8) 5 w' w.heap.size (fun k_ => (w.heap.size ≤ k_)) v0_ r ∧ Below w.heap.size w w' := by
  unfold bytes_Join.f at h
  by_cases hg : 2 ≤ l0.length ∧ l0.length ≤ 140737488355328 ∧ l1.length = 0 ∧ l0.flatten.length ≤ 140737488355328 ∧ (l0.all fun l => l.all fun x => decide (0 ≤ x) && decide (x < 256)) = true
  · rw [if_pos hg] at h
    obtain rfl := Option.some.inj h
    clear h
    obtain ⟨h2, h3, h4, h5, h6⟩ := hg
    have hb : ∀ l ∈ l0, ∀ x ∈ l, 0 ≤ x ∧ x < 256 := by
      intro l hl x hx
      have h7 := List.all_eq_true.1 (List.all_eq_true.1 h6 l hl) x hx
      simp only [Bool.and_eq_true, decide_eq_true_eq] at h7
      exact h7
    obtain ⟨ad, e0, hcell⟩ := hr0.2.2 (by omega)
    obtain ⟨b, o, sp⟩ := ad
    obtain rfl : sp = none := by
      obtain ⟨c, hlc, hk, hcc⟩ := hcell 0 l0[0] (List.getElem?_eq_getElem (by omega))
      obtain ⟨A, cc, e, _⟩ := hk
      exact bytes_Join.cell0 (hcc 0 _ (by rw [e]; rfl))
    subst e0
    have hvs : ∃ vs : List Value, vs.length = l0.length ∧ ∀ i (hi : i < l0.length), ∃ v, vs[i]? = some v ∧ w.cell? (Addr.add ⟨b, o, none⟩ i) = some v ∧ (Kd.slice 5 (Kd.int .u8)).K w l0[i] [v] := by
      refine ⟨(List.range l0.length).map fun i => (w.cell? (Addr.add ⟨b, o, none⟩ i)).getD .nilIface, by simp, fun i hi => ?_⟩
      obtain ⟨c, hlc, hk, hcc⟩ := hcell i l0[i] (List.getElem?_eq_getElem hi)
      obtain ⟨A, cc, e, hl, hC⟩ := hk
      subst e
      have hc := hcc 0 _ rfl
      rw [show i * (Kd.slice 5 (Kd.int .u8)).sz + 0 = i from Nat.mul_one i] at hc
      exact ⟨.slice A l0[i].length cc, by rw [List.getElem?_map, List.getElem?_range hi, Option.map_some, hc]; rfl, hc, ⟨A, cc, rfl, hl, hC⟩⟩
    obtain ⟨vs, hlv, hv⟩ := hvs
    have hP : Lib.PartsAt w ⟨b, o, none⟩ vs (l0.map Lib.bytesOf) := by
      refine ⟨by rw [hlv, List.length_map], fun i v hi => ?_, fun i v l hi hl => ?_⟩
      · have hlt : i < l0.length := by have := (List.getElem?_eq_some_iff.1 hi).1; omega
        obtain ⟨v2, e2, hc, _⟩ := hv i hlt
        obtain rfl : v = v2 := Option.some.inj (hi.symm.trans e2)
        exact hc
      · have hlt : i < l0.length := by have := (List.getElem?_eq_some_iff.1 hi).1; omega
        obtain ⟨v2, e2, _, hk⟩ := hv i hlt
        obtain rfl : v = v2 := Option.some.inj (hi.symm.trans e2)
        have hl' : l = Lib.bytesOf l0[i] := by rw [List.getElem?_map, List.getElem?_eq_getElem hlt] at hl; exact (Option.some.inj hl).symm
        rw [hl']
        exact bytes_Join.holds w l0[i] v (hb _ (List.getElem_mem hlt)) hk
    have hS : Lib.HoldsBytes w (.slice A1 l1.length c1) [] := ⟨A1, c1, by rw [h4]; rfl, fun _ => rfl, fun a _ i x hx => by simp at hx⟩
    have hj := bytes_Join.flat l0
    have H := Any.bytes_Join_many bytes_Join.lays b o l0.length c0 vs (l0.map Lib.bytesOf) (.slice A1 l1.length c1) [] w (by rw [List.length_map]) h2 hP hc0 hS h3 (by rw [hj.2, List.length_nil, Nat.zero_mul]; exact h5)
    refine Calls.mono H ?_
    rintro e w' ⟨v', rfl, hf, hbw⟩
    refine ⟨v', rfl, ?_, hbw⟩
    rw [hj.1] at hf
    obtain ⟨g, cap, zs, rfl, hg, hle, hcm, hzl, hzb, hzt, hcell2, _⟩ := hf
    rw [Lib.bytesOf_length] at hle hzt
    have hfb : ∀ x ∈ l0.flatten, 0 ≤ x ∧ x < 256 := fun x hx => by
      obtain ⟨l, hl, hx2⟩ := List.mem_flatten.1 hx
      exact hb l hl x hx2
    have ht : zs.take l0.flatten.length = l0.flatten := by
      rw [← Lib.numsL_bytesOf (zs.take l0.flatten.length) (fun y hy => hzb y (List.mem_of_mem_take hy)), hzt, Lib.numsL_bytesOf _ hfb]
    refine ⟨some ⟨g, 0, none⟩, cap, by rw [Lib.bytesOf_length], hle, fun W' hW => ?_⟩
    refine ⟨rfl, by omega, fun h0 => ⟨⟨g, 0, none⟩, rfl, fun j p hj2 => ⟨[.int .u8 p], rfl, rfl, fun i u hu => ?_⟩⟩⟩
    cases i with
    | succ i => simp at hu
    | zero =>
      obtain rfl : Value.int .u8 p = u := Option.some.inj hu
      have hjl := (List.getElem?_eq_some_iff.1 hj2).1
      show W'.cell? (Addr.add ⟨g, 0, none⟩ (j * 1 + 0)) = _
      rw [Nat.mul_one, Nat.add_zero, add_plain]
      have hcj := hcell2 j (by omega)
      have hblk := hW g hg (World.block_lt_of_cell? w' _ hcj)
      have hsame : W'.cell? ⟨g, j, none⟩ = w'.cell? ⟨g, j, none⟩ := by unfold World.cell?; rw [hblk]
      rw [hsame, hcj]
      have hz : zs.getD j 0 = p := by
        rw [← ht, List.getElem?_take, if_pos hjl] at hj2
        rw [List.getD_eq_getElem?_getD, hj2]
        rfl
      rw [hz]
  · rw [if_neg hg] at h
    cases h

/-! ### frame_four: function 77 -/
def frame_four.f (a0 : Int) : Option (List Int) := some (([(a0 / 16777216) % 256, (a0 / 65536) % 256, (a0 / 256) % 256, (a0) % 256] : List Int))
set_option maxHeartbeats 8000000 in
set_option maxRecDepth 100000 in
theorem frame_four.calls (a0 : Int) (r : List Int) (w : World) (h : frame_four.f a0 = some r) :
    Calls Try.prog 77 #[.int .u32 a0] w fun e w' => ∃ v0_ : Value, e = .returned (v0_) ∧ Kd.R (Kd.int .u8) 5 w' w.heap.size (fun _ => True) v0_ r ∧ Below w.heap.size w w' := by
  have HB := Aside0.mk (Below.refl w.heap.size w)
  have H : (some (([(a0 / 16777216) % 256, (a0 / 65536) % 256, (a0 / 256) % 256, (a0) % 256] : List Int))) = some r := h
  clear h
  obtain ⟨y101, hy101⟩ : ∃ y_ : List Int, y_ = (([(a0 / 16777216) % 256, (a0 / 65536) % 256, (a0 / 256) % 256, (a0) % 256] : List Int)) := ⟨_, rfl⟩
  replace H : (some y101) = some r := by first | (rw [hy101]; with_reducible exact H) | (have H2_ := (Option.bind_some _ _).symm.trans H; rw [hy101]; with_reducible exact H2_) | (have H2_ := (Option.bind_some _ _).symm.trans H; with_reducible exact H2_) | with_reducible exact H | (rw [hy101]; exact H) | exact H
  have Ny101 := Aside0.mk hy101
  clear hy101
  obtain rfl := Option.some.inj H
  go_enter Try.func77, Try.ntmps77
  go_wp2_with (first | ((with_reducible refine gate_dst (N := 14) rfl ?_); refine Kd.R_lit (Kd.int .u8) _ 5 ?hg (N := 14) ?hd (xs := ([(a0 / 16777216) % 256, (a0 / 65536) % 256, (a0 / 256) % 256, (a0) % 256] : List Int)) (inner := [.int .u8 ((a0 / 16777216) % 256), .int .u8 ((a0 / 65536) % 256), .int .u8 ((a0 / 256) % 256), .int .u8 ((a0) % 256)]) (ok := fun _ => True) (okp := fun _ => True) ?hr ?hp (fun _ hk => hk) trivial (Below.refl _ _) (Nat.le_refl _) (by simp) ?_; (case hd => rfl); (case hg => rfl); (case hr => first | (go_simp; done) | (go_simp; rfl)); (case hp => exact (Reps.one (show Kd.M (Kd.int .u8) _ _ _ ((a0 / 16777216) % 256) [.int .u8 ((a0 / 16777216) % 256)] from rfl) (Reps.one (show Kd.M (Kd.int .u8) _ _ _ ((a0 / 65536) % 256) [.int .u8 ((a0 / 65536) % 256)] from rfl) (Reps.one (show Kd.M (Kd.int .u8) _ _ _ ((a0 / 256) % 256) [.int .u8 ((a0 / 256) % 256)] from rfl) (Reps.one (show Kd.M (Kd.int .u8) _ _ _ ((a0) % 256) [.int .u8 ((a0) % 256)] from rfl) (Reps.none _ _)))))); intro v102 w2 ho3 hb hg_ hnew_; clear hg_ hnew_; (first | rw [← Ny101.out] at ho3 | (simp only [Int.reduceToNat] at ho3; rw [← Ny101.out] at ho3)); have n0_ := Aside0.mk (Kd.R_lower ho3 (below_size (by repeat (first | (with_reducible first | exact HB.out | apply below_alloc | apply pw_below_drewN | apply below_drew1) | exact HB.out)))); have n1_ := Aside0.mk (below_step (by repeat (first | (with_reducible first | exact HB.out | apply below_alloc | apply pw_below_drewN | apply below_drew1) | exact HB.out)) hb); clear HB; have HO103 := n0_; have HB := n1_; clear n0_ n1_; clear hb ho3))
  go_ret
  exact ⟨_, by first | rfl | (simp [errW_none, errW_some] <;> rfl) | (simp [*, errW_none, errW_some] <;> rfl), by (with_reducible repeat (first | apply Kd.R_alloc | apply Kd.R_drewN | apply Kd.R_drew)); exact HO103.out, by repeat (first | (with_reducible first | exact HB.out | apply below_alloc | apply pw_below_drewN | apply below_drew1) | exact HB.out)⟩

/-! ### frame_Put: function 19 -/
def frame_Put.f (l0 : List Int) : Option (List Int × Int) := if (l0.length : Int) > 32768 then (some (([] : List Int), 4)) else ((frame_four.f (((l0.length : Int)) % 4294967296)).bind fun t104 => ((crc_Sum.f l0).bind fun t107 => ((frame_four.f t107).bind fun t108 => ((bytes_Join.f (([t104, t108, l0] : List (List Int))) ([] : List Int)).bind fun t114 => (some (t114, 0))))))
set_option maxHeartbeats 8000000 in
set_option maxRecDepth 100000 in
theorem frame_Put.calls (P0_ : Nat → Prop) (A0 : Option Addr) (c0 : Nat) (l0 : List Int) (r1 : List Int) (r2 : Int) (w : World) (hs0 : Kd.V (Kd.int .u8) 5 w w.heap.size (fun k_ => P0_ k_) (.slice A0 l0.length c0) l0) (h : frame_Put.f l0 = some (r1, r2)) :
    Calls Try.prog 19 #[.slice A0 l0.length c0] w fun e w' => ∃ v0_ : Value, e = .returned (.tuple #[v0_, .int .i64 r2]) ∧ Kd.V (Kd.int .u8) 5 w' w.heap.size (fun k_ => (P0_ k_ ∨ w.heap.size ≤ k_)) v0_ r1 ∧ Below w.heap.size w w' := by
  have HO0 := Aside0.mk (show Kd.V (Kd.int .u8) 5 w w.heap.size (fun k_ => (P0_ k_ ∨ w.heap.size ≤ k_)) (.slice A0 l0.length c0) l0 from Kd.V_mono hs0 (fun k_ hk => .inl hk))
  have HB := Aside0.mk (Below.refl w.heap.size w)
  have H : (if (l0.length : Int) > 32768 then (some (([] : List Int), 4)) else ((frame_four.f (((l0.length : Int)) % 4294967296)).bind fun t104 => ((crc_Sum.f l0).bind fun t107 => ((frame_four.f t107).bind fun t108 => ((bytes_Join.f (([t104, t108, l0] : List (List Int))) ([] : List Int)).bind fun t114 => (some (t114, 0))))))) = some (r1, r2) := h
  clear h
  by_cases c2 : (l0.length : Int) > 32768
  · rw [if_pos c2] at H
    have c2b0 : decide (32768 < (l0.length : Int)) = true := decide_eq_true c2
    have c2b1 : decide (32768 < l0.length) = true := decide_eq_true (by omega)
    clear c2
    simp only [Option.some.injEq, Prod.mk.injEq] at H
    obtain ⟨rfl, rfl⟩ := H
    go_enter Try.func19, Try.ntmps19
    go_wp2
    go_ret2
    exact ⟨_, by first | rfl | (simp [errW_none, errW_some] <;> rfl) | (simp [*, errW_none, errW_some] <;> rfl), (by first | exact Kd.V_nil _ _ _ _ _ | exact Kd.V_mono (Kd.R_V (by first | exact Kd.R_nil _ _ _ _ _ | exact Kd.N_nil _ _ _ _ _ | exact Kd.V_nil _ _ _ _ _ | exact Kd.Q_nil _ _ _ _ _ | exact Kd.S_nil _ _ _ _ _)) (fun k_ hk => by first | exact ⟨(.inr (hk.1)), hk.2⟩ | exact (.inr (hk)))), by repeat (first | (with_reducible first | exact HB.out | apply below_alloc | apply pw_below_drewN | apply below_drew1) | exact HB.out)⟩
  · rw [if_neg c2] at H
    have c2b0 : decide (32768 < (l0.length : Int)) = false := decide_eq_false c2
    have c2b1 : decide (32768 < l0.length) = false := decide_eq_false (by omega)
    clear c2
    replace H := Option.bind_eq_some_iff.mp H
    obtain ⟨t104, A30, H⟩ := H
    replace H : ((crc_Sum.f l0).bind fun t107 => ((frame_four.f t107).bind fun t108 => ((bytes_Join.f (([t104, t108, l0] : List (List Int))) ([] : List Int)).bind fun t114 => (some (t114, 0))))) = some (r1, r2) := H
    have A3 := Aside0.mk A30
    clear A30
    replace H := Option.bind_eq_some_iff.mp H
    obtain ⟨t107, A40, H⟩ := H
    replace H : ((frame_four.f t107).bind fun t108 => ((bytes_Join.f (([t104, t108, l0] : List (List Int))) ([] : List Int)).bind fun t114 => (some (t114, 0)))) = some (r1, r2) := H
    have A4 := Aside0.mk A40
    clear A40
    replace H := Option.bind_eq_some_iff.mp H
    obtain ⟨t108, A50, H⟩ := H
    replace H : ((bytes_Join.f (([t104, t108, l0] : List (List Int))) ([] : List Int)).bind fun t114 => (some (t114, 0))) = some (r1, r2) := H
    have A5 := Aside0.mk A50
    clear A50
    obtain ⟨y111, hy111⟩ : ∃ y_ : List (List Int), y_ = (([t104, t108, l0] : List (List Int))) := ⟨_, rfl⟩
    replace H : ((bytes_Join.f y111 ([] : List Int)).bind fun t114 => (some (t114, 0))) = some (r1, r2) := by first | (rw [hy111]; with_reducible exact H) | (have H2_ := (Option.bind_some _ _).symm.trans H; rw [hy111]; with_reducible exact H2_) | (have H2_ := (Option.bind_some _ _).symm.trans H; with_reducible exact H2_) | with_reducible exact H | (rw [hy111]; exact H) | exact H
    have Ny111 := Aside0.mk hy111
    clear hy111
    replace H := Option.bind_eq_some_iff.mp H
    obtain ⟨t114, A60, H⟩ := H
    replace H : (some (t114, 0)) = some (r1, r2) := H
    have A6 := Aside0.mk A60
    clear A60
    simp only [Option.some.injEq, Prod.mk.injEq] at H
    obtain ⟨rfl, rfl⟩ := H
    go_enter Try.func19, Try.ntmps19
    go_wp2_with (first | ((with_reducible refine gate_callee (f := 77) rfl ?_); refine goesL_ (some 10) rfl rfl Try.func77 (by kernel_rfl) rfl #[.int .u32 (((l0.length : Int)) % 4294967296)] rfl (by (try simp only [List.map_toArray, List.map_cons, List.map_nil]); first | done | rfl | (simp only [List.length_drop, List.length_take]; rfl)) ?_; (with_reducible refine (frame_four.calls (((l0.length : Int)) % 4294967296) t104 _ A3.out).mono ?_); rintro e w7 ⟨v105, rfl, ho0, hb⟩; refine ⟨_, rfl, ?_⟩; have n0_ := Aside0.mk (Kd.V_elder' (by (with_reducible repeat (first | apply Kd.V_alloc | apply Kd.V_drewN | apply Kd.V_drew)); exact HO0.out) (Kd.R_base ho0) hb); have n1_ := Aside0.mk (Kd.R_lower (Kd.R_newM (M := fun k_ => (w.heap.size ≤ k_)) ho0 (below_size (by repeat (first | (with_reducible first | exact HB.out | apply below_alloc | apply pw_below_drewN | apply below_drew1) | exact HB.out))) (fun k_ h_ => h_)) (below_size (by repeat (first | (with_reducible first | exact HB.out | apply below_alloc | apply pw_below_drewN | apply below_drew1) | exact HB.out)))); have n2_ := Aside0.mk (below_step (by repeat (first | (with_reducible first | exact HB.out | apply below_alloc | apply pw_below_drewN | apply below_drew1) | exact HB.out)) hb); clear HO0; clear HB; have HO0 := n0_; have HO106 := n1_; have HB := n2_; clear n0_ n1_ n2_; (try clear hb); (try clear hb2); (try clear hk); (try clear hi); (try clear ho0)) | ((with_reducible refine gate_callee (f := 73) rfl ?_); refine goesL_ (some 12) rfl rfl Try.func73 (by kernel_rfl) rfl #[.slice A0 l0.length c0] rfl (by (try simp only [List.map_toArray, List.map_cons, List.map_nil]); first | done | rfl | (simp only [List.length_drop, List.length_take]; rfl)) ?_; (with_reducible refine (crc_Sum.calls _ _ l0 t107 _ ?side1 ?side2 A4.out).mono ?_); (case side1 => repeat (first | exact (Kd.V_reads' HO0.out).2.2 | (with_reducible refine Kd.C_alloc ?_ _) | (with_reducible refine Kd.C_drewN ?_ _) | (with_reducible refine Kd.C_drew ?_))); (case side2 => exact (Kd.V_reads' HO0.out).2.1); rintro e w8 ⟨rfl, hb⟩; refine ⟨_, rfl, ?_⟩; have n0_ := Aside0.mk (Kd.V_below (by (with_reducible repeat (first | apply Kd.V_alloc | apply Kd.V_drewN | apply Kd.V_drew)); exact HO0.out) hb); have n1_ := Aside0.mk (Kd.R_below (by (with_reducible repeat (first | apply Kd.R_alloc | apply Kd.R_drewN | apply Kd.R_drew)); exact HO106.out) hb); have n2_ := Aside0.mk (below_step (by repeat (first | (with_reducible first | exact HB.out | apply below_alloc | apply pw_below_drewN | apply below_drew1) | exact HB.out)) hb); clear HO0; clear HO106; clear HB; have HO0 := n0_; have HO106 := n1_; have HB := n2_; clear n0_ n1_ n2_; (try clear hb); (try clear hb2); (try clear hk); (try clear hi)) | ((with_reducible refine gate_callee (f := 77) rfl ?_); refine goesL_ (some 13) rfl rfl Try.func77 (by kernel_rfl) rfl #[.int .u32 t107] rfl (by (try simp only [List.map_toArray, List.map_cons, List.map_nil]); first | done | rfl | (simp only [List.length_drop, List.length_take]; rfl)) ?_; (with_reducible refine (frame_four.calls t107 t108 _ A5.out).mono ?_); rintro e w9 ⟨v109, rfl, ho0, hb⟩; refine ⟨_, rfl, ?_⟩; have n0_ := Aside0.mk (Kd.V_elder' (by (with_reducible repeat (first | apply Kd.V_alloc | apply Kd.V_drewN | apply Kd.V_drew)); exact HO0.out) (Kd.R_base ho0) hb); have n1_ := Aside0.mk (Kd.R_elder' (by (with_reducible repeat (first | apply Kd.R_alloc | apply Kd.R_drewN | apply Kd.R_drew)); exact HO106.out) (Kd.R_base ho0) hb); have n2_ := Aside0.mk (Kd.R_lower (Kd.R_new' (Kd.R_newM (M := fun k_ => (w.heap.size ≤ k_)) ho0 (below_size (by repeat (first | (with_reducible first | exact HB.out | apply below_alloc | apply pw_below_drewN | apply below_drew1) | exact HB.out))) (fun k_ h_ => h_)) (Kd.R_lt (by (with_reducible repeat (first | apply Kd.R_alloc | apply Kd.R_drewN | apply Kd.R_drew)); exact HO106.out))) (below_size (by repeat (first | (with_reducible first | exact HB.out | apply below_alloc | apply pw_below_drewN | apply below_drew1) | exact HB.out)))); have n3_ := Aside0.mk (below_step (by repeat (first | (with_reducible first | exact HB.out | apply below_alloc | apply pw_below_drewN | apply below_drew1) | exact HB.out)) hb); clear HO0; clear HO106; clear HB; have HO0 := n0_; have HO106 := n1_; have HO110 := n2_; have HB := n3_; clear n0_ n1_ n2_ n3_; (try clear hb); (try clear hb2); (try clear hk); (try clear hi); (try clear ho0); obtain ⟨Ao10, co10, eo10⟩ := Kd.R_slice HO106.out; subst eo10; obtain ⟨Ao11, co11, eo11⟩ := Kd.R_slice HO110.out; subst eo11) | ((with_reducible refine gate_dst (N := 15) rfl ?_); refine Kd.N_lit (Kd.slice 5 (Kd.int .u8)) _ 23 ?hg (N' := 15) ?hd (xs := ([t104, t108, l0] : List (List Int))) (inner := [.slice Ao10 t104.length co10, .slice Ao11 t108.length co11, .slice A0 l0.length c0]) (ok := (fun k_ => (P0_ k_ ∨ w.heap.size ≤ k_))) (okp := (fun k_ => (P0_ k_ ∨ w.heap.size ≤ k_))) ?hr ?hp (fun _ hk => hk) ((show ∀ k_, w9.heap.size ≤ k_ → (fun k_ => (P0_ k_ ∨ w.heap.size ≤ k_)) k_ from fun k_ hk => (.inr (Nat.le_trans (below_size (by repeat (first | (with_reducible first | exact HB.out | apply below_alloc | apply pw_below_drewN | apply below_drew1) | exact HB.out))) hk))) _ (Nat.le_refl _)) (Below.refl _ _) (Nat.le_refl _) (by simp) ?_; (case hd => rfl); (case hg => rfl); (case hr => first | (go_simp; done) | (go_simp; rfl)); (case hp => first | exact (Reps.one (show Kd.FK (Kd.slice 5 (Kd.int .u8)) _ _ t104 [.slice Ao10 t104.length co10] from (Kd.FK_slice_mk (Kd.R_reads' (Kd.R_mono (ok' := (fun k_ => (P0_ k_ ∨ w.heap.size ≤ k_))) (HO106.out) (fun k_ hk => (.inr (hk.1.1))))).2.1 (Kd.R_F (Kd.R_mono (ok' := (fun k_ => (P0_ k_ ∨ w.heap.size ≤ k_))) (HO106.out) (fun k_ hk => (.inr (hk.1.1))))))) (Reps.one (show Kd.FK (Kd.slice 5 (Kd.int .u8)) _ _ t108 [.slice Ao11 t108.length co11] from (Kd.FK_slice_mk (Kd.R_reads' (Kd.R_mono (ok' := (fun k_ => (P0_ k_ ∨ w.heap.size ≤ k_))) (HO110.out) (fun k_ hk => (.inr (hk.1.1))))).2.1 (Kd.R_F (Kd.R_mono (ok' := (fun k_ => (P0_ k_ ∨ w.heap.size ≤ k_))) (HO110.out) (fun k_ hk => (.inr (hk.1.1))))))) (Reps.one (show Kd.FK (Kd.slice 5 (Kd.int .u8)) _ _ l0 [.slice A0 l0.length c0] from (Kd.FK_slice_mk (Kd.V_reads' (Kd.V_mono (ok' := (fun k_ => (P0_ k_ ∨ w.heap.size ≤ k_))) (HO0.out) (fun k_ hk => hk.1.1))).2.1 (Kd.V_F (Kd.V_mono (ok' := (fun k_ => (P0_ k_ ∨ w.heap.size ≤ k_))) (HO0.out) (fun k_ hk => hk.1.1))))) (Reps.none _ _)))) | exact (Reps.one (show Kd.FK (Kd.slice 5 (Kd.int .u8)) _ _ t104 [.slice Ao10 t104.length co10] from (Kd.FK_slice_mk (Kd.R_reads' (Kd.R_mono (ok' := (fun k_ => (P0_ k_ ∨ w.heap.size ≤ k_))) (HO106.out) (fun k_ hk => (.inr (hk.1.1))))).2.1 (Kd.R_F (Kd.R_mono (ok' := (fun k_ => (P0_ k_ ∨ w.heap.size ≤ k_))) (Kd.R_drewN HO106.out _) (fun k_ hk => (.inr (hk.1.1))))))) (Reps.one (show Kd.FK (Kd.slice 5 (Kd.int .u8)) _ _ t108 [.slice Ao11 t108.length co11] from (Kd.FK_slice_mk (Kd.R_reads' (Kd.R_mono (ok' := (fun k_ => (P0_ k_ ∨ w.heap.size ≤ k_))) (HO110.out) (fun k_ hk => (.inr (hk.1.1))))).2.1 (Kd.R_F (Kd.R_mono (ok' := (fun k_ => (P0_ k_ ∨ w.heap.size ≤ k_))) (Kd.R_drewN HO110.out _) (fun k_ hk => (.inr (hk.1.1))))))) (Reps.one (show Kd.FK (Kd.slice 5 (Kd.int .u8)) _ _ l0 [.slice A0 l0.length c0] from (Kd.FK_slice_mk (Kd.V_reads' (Kd.V_mono (ok' := (fun k_ => (P0_ k_ ∨ w.heap.size ≤ k_))) (HO0.out) (fun k_ hk => hk.1.1))).2.1 (Kd.V_F (Kd.V_mono (ok' := (fun k_ => (P0_ k_ ∨ w.heap.size ≤ k_))) (Kd.V_drewN HO0.out _) (fun k_ hk => hk.1.1))))) (Reps.none _ _))))); intro v112 w12 ho13 hb hg_ hnew_; clear hg_ hnew_; (first | rw [← Ny111.out] at ho13 | (simp only [Int.reduceToNat] at ho13; rw [← Ny111.out] at ho13)); have n0_ := Aside0.mk (Kd.V_elder' (by (with_reducible repeat (first | apply Kd.V_alloc | apply Kd.V_drewN | apply Kd.V_drew)); exact HO0.out) (Kd.N_base ho13) hb); have n1_ := Aside0.mk (Kd.N_lower ho13 (below_size (by repeat (first | (with_reducible first | exact HB.out | apply below_alloc | apply pw_below_drewN | apply below_drew1) | exact HB.out)))); have n2_ := Aside0.mk (below_step (by repeat (first | (with_reducible first | exact HB.out | apply below_alloc | apply pw_below_drewN | apply below_drew1) | exact HB.out)) hb); clear HO0; clear HB; clear HO106; clear HO110; have HO0 := n0_; have HO113 := n1_; have HB := n2_; clear n0_ n1_ n2_; clear hb ho13; obtain ⟨Ao14, co14, eo14⟩ := Kd.N_slice HO113.out; subst eo14) | ((with_reducible refine gate_callee (f := 76) rfl ?_); refine goesL_ (some 16) rfl rfl Try.func76 (by kernel_rfl) rfl #[.slice Ao14 y111.length co14, .slice none 0 0] rfl (by (try simp only [List.map_toArray, List.map_cons, List.map_nil]); first | done | rfl | (simp only [List.length_drop, List.length_take]; rfl)) ?_; (refine (bytes_Join.calls _ _ y111 _ _ ([] : List Int) t114 _ ?side1 ?side2 ?side3 ?side4 A6.out).mono ?_); (case side1 => repeat (first | exact (Kd.N_reads' HO113.out).2.2 | (with_reducible refine Kd.C_alloc ?_ _) | (with_reducible refine Kd.C_drewN ?_ _) | (with_reducible refine Kd.C_drew ?_))); (case side2 => exact (Kd.N_reads' HO113.out).2.1); (case side3 => exact Kd.C_nil _ _); (case side4 => exact Nat.le_refl _); rintro e w15 ⟨v115, rfl, ho0, hb⟩; refine ⟨_, rfl, ?_⟩; have n0_ := Aside0.mk (Kd.V_below (by (with_reducible repeat (first | apply Kd.V_alloc | apply Kd.V_drewN | apply Kd.V_drew)); exact HO0.out) hb); have n1_ := Aside0.mk (Kd.N_below (by (with_reducible repeat (first | apply Kd.N_alloc | apply Kd.N_drewN | apply Kd.N_drew)); exact HO113.out) hb); have n2_ := Aside0.mk (Kd.V_lower (Kd.V_mono (ok' := fun k_ => (P0_ k_ ∨ w.heap.size ≤ k_) ∧ some k_ ≠ (.slice Ao14 y111.length co14 : Value).ownBlock) ho0 (fun k_ hk_ => ⟨(.inr (Nat.le_trans (below_size (by repeat (first | (with_reducible first | exact HB.out | apply below_alloc | apply pw_below_drewN | apply below_drew1) | exact HB.out))) hk_)), (Kd.fresh' (Kd.N_lt (by (with_reducible repeat (first | apply Kd.N_alloc | apply Kd.N_drewN | apply Kd.N_drew)); exact HO113.out)) k_ hk_)⟩)) (below_size (by repeat (first | (with_reducible first | exact HB.out | apply below_alloc | apply pw_below_drewN | apply below_drew1) | exact HB.out)))); have n3_ := Aside0.mk (below_step (by repeat (first | (with_reducible first | exact HB.out | apply below_alloc | apply pw_below_drewN | apply below_drew1) | exact HB.out)) hb); clear HO0; clear HO113; clear HB; have HO0 := n0_; have HO113 := n1_; have HO116 := n2_; have HB := n3_; clear n0_ n1_ n2_ n3_; (try clear hb); (try clear hb2); (try clear hk); (try clear hi); (try clear ho0)))
    go_ret2
    exact ⟨_, by first | rfl | (simp [errW_none, errW_some] <;> rfl) | (simp [*, errW_none, errW_some] <;> rfl), by (with_reducible repeat (first | apply Kd.V_alloc | apply Kd.V_drewN | apply Kd.V_drew)); exact Kd.V_mono HO116.out (fun _ hk => hk.1), by repeat (first | (with_reducible first | exact HB.out | apply below_alloc | apply pw_below_drewN | apply below_drew1) | exact HB.out)⟩

/-! ### bytes_Clone: function 75 -/
def bytes_Clone.f (l0 : List Int) : Option (List Int) := if l0.length < 140737488355328 then some l0 else none
set_option maxHeartbeats 1000000 in
theorem bytes_Clone.calls (A0 : Option Addr) (c0 : Nat) (l0 : List Int) (r : List Int) (w : World) (hr0 : Kd.C (Kd.int .u8) w A0 l0.length l0) (hc0 : l0.length ≤ c0) (h : bytes_Clone.f l0 = some r) :
    Calls Try.prog 75 #[.slice A0 l0.length c0] w fun e w' => ∃ v0_ : Value, e = .returned (v0_) ∧ Kd.R (Kd.int .u8) 5 w' w.heap.size (fun _ => True) v0_ r ∧ Below w.heap.size w w' := by
  unfold bytes_Clone.f at h
  by_cases hl : l0.length < 140737488355328
  · rw [if_pos hl] at h
    obtain rfl := Option.some.inj h
    rcases A0 with _ | ad
    · have h0 : l0 = [] := by
        rcases Nat.eq_zero_or_pos l0.length with h0 | h0
        · exact List.length_eq_zero_iff.1 h0
        · obtain ⟨ad, e, _⟩ := hr0.2.2 h0
          cases e
      subst h0
      clear h hr0 hc0 hl
      have hq := fun (W : World) => Lib.run_eql_slice_nil (P := Try.prog) W 23 5 none ([] : List Int).length c0 0 0 Try.underlying23
      have hq' : ∀ W : World, (binOp .eql 23 (.slice none 0 c0) (.slice none 0 0)).run Try.prog W = .ok (.bool true) W := hq
      clear hq
      show Calls Try.prog 75 #[.slice none 0 c0] w _
      go_enter Try.func75, Try.ntmps75
      go_wp2
      go_ret
      exact ⟨_, rfl, Kd.R_nil _ _ _ _ _, Below.refl _ _⟩
    · have hq : ∀ W : World, (binOp .eql 23 (.slice (some ad) l0.length c0) (.slice none 0 0)).run Try.prog W = .ok (.bool false) W := fun (W : World) => Lib.run_eql_slice_nil (P := Try.prog) W 23 5 (some ad) l0.length c0 0 0 Try.underlying23
      have HR := Aside0.mk hr0
      have HL := Aside0.mk hl
      clear h hr0 hc0 hl
      go_enter Try.func75, Try.ntmps75
      go_wp2_with (first | ((with_reducible refine gate_dst (N := 5) rfl ?_); refine Kd.R_lit (Kd.int .u8) _ 5 ?hg (N := 5) ?hd (xs := ([] : List Int)) (inner := []) (ok := fun _ => True) (okp := fun _ => True) ?hr ?hp (fun _ hk => hk) trivial (Below.refl _ _) (Nat.le_refl _) (by simp) ?_; (case hd => rfl); (case hg => rfl); (case hr => first | (go_simp; done) | (go_simp; rfl)); (case hp => exact (Reps.none _ _)); intro v1 w1 ho hb hg_ hnew_; clear hg_ hnew_; have HO := Aside0.mk ho; have HB := Aside0.mk hb; clear ho hb) | ((with_reducible refine gate_builtin (b := .append) (xs := #[.tmp 5, .tmp 6]) rfl ?_); at_builtin; refine Kd.R_append_rows (Kd.int .u8) (w0 := w) w.heap.size rfl (.tmp 5) (.tmp 6) 23 5 (.int .u8 0) 1 rfl Try.underlying23 info5 rfl (by decide) (by omega) v1 [] l0 _ _ _ (fun _ => True) (fun _ => False) rfl rfl ?aO ?aR (fun _ _ h => h) (fun _ h => h.elim) ?aF ?aB ?aS ?aL ?_; (case aR => exact (Kd.C_below HR.out HB.out)); (case aB => exact HB.out); (case aF => exact (fun _ _ => trivial)); (case aO => exact HO.out); (case aS => exact HB.out.size); (case aL => have := HL.out; simp; omega); intro v2 w2 ho2 hb2 hg hat; have HO2 := Aside0.mk ho2; have HB2 := Aside0.mk hb2; clear ho2 hb2 hg hat))
      go_ret
      exact ⟨_, rfl, HO2.out, HB2.out⟩
  · rw [if_neg hl] at h
    cases h


/-! ### frame_number: function 80 -/
def frame_number.f (l0 : List Int) : Option (Int) := if 0 < (l0.length : Int) then (if 1 < (l0.length : Int) then (if 2 < (l0.length : Int) then (if 3 < (l0.length : Int) then (some (Go.bits .or .u32 (Go.bits .or .u32 (Go.bits .or .u32 ((((rd l0 0) % 4294967296) * 16777216) % 4294967296) ((((rd l0 1) % 4294967296) * 65536) % 4294967296)) ((((rd l0 2) % 4294967296) * 256) % 4294967296)) ((rd l0 3) % 4294967296))) else (none)) else (none)) else (none)) else (none)
set_option maxHeartbeats 8000000 in
set_option maxRecDepth 100000 in
theorem frame_number.calls (A0 : Option Addr) (c0 : Nat) (l0 : List Int) (r : Int) (w : World) (hr0 : Kd.C (Kd.int .u8) w A0 l0.length l0) (hc0 : l0.length ≤ c0) (h : frame_number.f l0 = some r) :
    Calls Try.prog 80 #[.slice A0 l0.length c0] w fun e w' => e = .returned (.int .u32 r) ∧ Drawn0 w w' := by
  have HR0 := Aside0.mk hr0
  have HC0 := Aside0.mk hc0
  clear hr0 hc0
  have H : (if 0 < (l0.length : Int) then (if 1 < (l0.length : Int) then (if 2 < (l0.length : Int) then (if 3 < (l0.length : Int) then (some (Go.bits .or .u32 (Go.bits .or .u32 (Go.bits .or .u32 ((((rd l0 0) % 4294967296) * 16777216) % 4294967296) ((((rd l0 1) % 4294967296) * 65536) % 4294967296)) ((((rd l0 2) % 4294967296) * 256) % 4294967296)) ((rd l0 3) % 4294967296))) else (none)) else (none)) else (none)) else (none)) = some r := h
  clear h
  by_cases c2 : 0 < (l0.length : Int)
  · rw [if_pos c2] at H
    have c2b0 : decide (0 < (l0.length : Int)) = true := decide_eq_true c2
    have c2b1 : decide (0 < l0.length) = true := decide_eq_true (by omega)
    clear c2
    by_cases c3 : 1 < (l0.length : Int)
    · rw [if_pos c3] at H
      have c3b0 : decide (1 < (l0.length : Int)) = true := decide_eq_true c3
      have c3b1 : decide (1 < l0.length) = true := decide_eq_true (by omega)
      clear c3
      by_cases c4 : 2 < (l0.length : Int)
      · rw [if_pos c4] at H
        have c4b0 : decide (2 < (l0.length : Int)) = true := decide_eq_true c4
        have c4b1 : decide (2 < l0.length) = true := decide_eq_true (by omega)
        clear c4
        by_cases c5 : 3 < (l0.length : Int)
        · rw [if_pos c5] at H
          have c5b0 : decide (3 < (l0.length : Int)) = true := decide_eq_true c5
          have c5b1 : decide (3 < l0.length) = true := decide_eq_true (by omega)
          clear c5
          obtain rfl := Option.some.inj H
          have p117 : 0 ≤ (0 : Int) := (by omega)
          have q117 : 0 < (l0.length : Int) := of_decide_eq_true (by first | (with_reducible assumption) | assumption)
          obtain ⟨ad117, e117, hx117_0⟩ := Kd.at_int HR0.out 0 p117 q117
          cases e117
          have qi117 : (0 < l0.length) = True := eq_true (by omega)
          (try rw [show ((0 : Int)).toNat = 0 from rfl] at hx117_0)
          (try rw [Addr.add_zero'] at hx117_0)
          replace p117 := eq_true p117
          replace q117 := eq_true q117
          have p118 : 0 ≤ (1 : Int) := (by omega)
          have q118 : 1 < (l0.length : Int) := of_decide_eq_true (by first | (with_reducible assumption) | assumption)
          obtain ⟨ad118, e118, hx118_0⟩ := Kd.at_int HR0.out 1 p118 q118
          obtain rfl : ad117 = ad118 := (by injection e118)
          (try simp only [show (1 : Int).toNat = 1 from rfl, Nat.reduceMul, Nat.reduceEqDiff, Go.Addr.add, ↓reduceIte] at hx118_0)
          have qi118 : (1 < l0.length) = True := eq_true (by omega)
          (try rw [show ((1 : Int)).toNat = 1 from rfl] at hx118_0)
          replace p118 := eq_true p118
          replace q118 := eq_true q118
          have p119 : 0 ≤ (2 : Int) := (by omega)
          have q119 : 2 < (l0.length : Int) := of_decide_eq_true (by first | (with_reducible assumption) | assumption)
          obtain ⟨ad119, e119, hx119_0⟩ := Kd.at_int HR0.out 2 p119 q119
          obtain rfl : ad117 = ad119 := (by injection e119)
          (try simp only [show (2 : Int).toNat = 2 from rfl, Nat.reduceMul, Nat.reduceEqDiff, Go.Addr.add, ↓reduceIte] at hx119_0)
          have qi119 : (2 < l0.length) = True := eq_true (by omega)
          (try rw [show ((2 : Int)).toNat = 2 from rfl] at hx119_0)
          replace p119 := eq_true p119
          replace q119 := eq_true q119
          have p120 : 0 ≤ (3 : Int) := (by omega)
          have q120 : 3 < (l0.length : Int) := of_decide_eq_true (by first | (with_reducible assumption) | assumption)
          obtain ⟨ad120, e120, hx120_0⟩ := Kd.at_int HR0.out 3 p120 q120
          obtain rfl : ad117 = ad120 := (by injection e120)
          (try simp only [show (3 : Int).toNat = 3 from rfl, Nat.reduceMul, Nat.reduceEqDiff, Go.Addr.add, ↓reduceIte] at hx120_0)
          have qi120 : (3 < l0.length) = True := eq_true (by omega)
          (try rw [show ((3 : Int)).toNat = 3 from rfl] at hx120_0)
          replace p120 := eq_true p120
          replace q120 := eq_true q120
          go_enter Try.func80, Try.ntmps80
          go_wp2
          repeat (go_quiet (fail); try go_wp2)
          go_ret
          exact ⟨by first | rfl | (simp; done) | (simp [*]; done), by repeat (first | exact Drawn0.refl _ | apply Drawn0.step)⟩
        · rw [if_neg c5] at H
          exact absurd H (by simp)
      · rw [if_neg c4] at H
        exact absurd H (by simp)
    · rw [if_neg c3] at H
      exact absurd H (by simp)
  · rw [if_neg c2] at H
    exact absurd H (by simp)

end Go.Proofs.Ytkkikdjfigffhab.XFra
