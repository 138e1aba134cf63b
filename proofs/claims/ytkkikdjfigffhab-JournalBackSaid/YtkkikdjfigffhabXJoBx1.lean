-- By a program of this work (xprint.py) over the translation; Lean checks it.
import Derived.Test.YtkkikdjfigffhabXJoBx0
namespace Go.Proofs.Ytkkikdjfigffhab.XJoB
open Go.RowKit Go.Proofs.YtkkikdjfigffhabW.PrintWords Go.Proofs.YtkkikdjfigffhabW.PrintLast Go.Proofs.YtkkikdjfigffhabW.PrintMore
attribute [local go_sem] max2_int min2_int max_two min_two max_three min_three max_four min_four   -- for this text's walks alone
set_option linter.unusedVariables false
set_option linter.unusedSimpArgs false

-- NOT PRINTED: function 174 (atomic_LoadUint32)

-- NOT PRINTED: function 168 (atomic_Bool_Load)

-- NOT PRINTED: function 183 (race_Disable)

-- NOT PRINTED: function 184 (atomic_CompareAndSwapInt32)

-- NOT PRINTED: function 185 (race_Enable)

-- NOT PRINTED: function 186 (race_Acquire)

-- NOT PRINTED: function 189 (atomic_AddInt32)

-- NOT PRINTED: function 191 (sync_runtime_canSpin)

-- NOT PRINTED: function 192 (sync_runtime_doSpin)

-- NOT PRINTED: function 193 (sync_throw)

-- NOT PRINTED: function 194 (sync_runtime_nanotime)

-- NOT PRINTED: function 195 (sync_runtime_SemacquireMutex)

-- NOT PRINTED: function 187 (sync_Mutex_lockSlow)

-- NOT PRINTED: function 179 (sync_Mutex_Lock_179)

-- NOT PRINTED: function 175 (sync_Mutex_Lock_175)

-- NOT PRINTED: function 188 (race_ReleaseMerge)

-- NOT PRINTED: function 196 (sync_fatal)

-- NOT PRINTED: function 197 (sync_runtime_Semrelease)

-- NOT PRINTED: function 190 (sync_Mutex_unlockSlow)

-- NOT PRINTED: function 180 (sync_Mutex_Unlock_180)

-- NOT PRINTED: function 176 (sync_Mutex_Unlock_176)

-- NOT PRINTED: function 181 (atomic_StoreUint32)

/-! ### atomic_b32: function 182 -/
def atomic_b32.f (a0 : Bool) : Option (Int) := if a0 = true then (some 1) else (some 0)
set_option maxHeartbeats 8000000 in
set_option maxRecDepth 100000 in
theorem atomic_b32.calls (a0 : Bool) (r : Int) (w : World) (h : atomic_b32.f a0 = some r) :
    Calls Try.prog 182 #[.bool a0] w fun e w' => e = .returned (.int .u32 r) ∧ Drawn0 w w' := by
  have H : (if a0 = true then (some 1) else (some 0)) = some r := h
  clear h
  by_cases c2 : a0 = true
  · subst c2
    have H1 : (some 1) = some r := by rw [if_pos rfl] at H; exact H
    clear H
    have H := H1
    clear H1
    obtain rfl := Option.some.inj H
    go_enter Try.func182, Try.ntmps182
    go_wp2
    go_ret
    exact ⟨by first | rfl | (simp; done) | (simp [*]; done), by repeat (first | exact Drawn0.refl _ | apply Drawn0.step)⟩
  · replace c2 := Bool.eq_false_iff.mpr c2
    subst c2
    have H1 : (some 0) = some r := by rw [if_neg (show ¬ (false = true) by decide)] at H; exact H
    clear H
    have H := H1
    clear H1
    obtain rfl := Option.some.inj H
    go_enter Try.func182, Try.ntmps182
    go_wp2
    go_ret
    exact ⟨by first | rfl | (simp; done) | (simp [*]; done), by repeat (first | exact Drawn0.refl _ | apply Drawn0.step)⟩

-- NOT PRINTED: function 177 (atomic_Bool_Store)

-- NOT PRINTED: function 169 (sync_Once_doSlow)

-- NOT PRINTED: function 159 (sync_Once_Do)

-- NOT PRINTED: function 160 (crc_steps_make)

-- NOT PRINTED: function 144 (crc_steps_of)

/-! ### crc_More: function 118 -/
/-- One bit's step of the register. -/
def crcStep (c : Nat) : Nat := if c % 2 = 1 then (c / 2) ^^^ 3988292384 else c / 2
def crcSteps : Nat → Nat → Nat
  | 0, c => c
  | n + 1, c => crcStep (crcSteps n c)
theorem crcStep_lt {c : Nat} (h : c < 4294967296) : crcStep c < 4294967296 := by
  unfold crcStep
  split
  · exact Nat.xor_lt_two_pow (n := 32) (by omega) (by omega)
  · omega
theorem crcSteps_lt (n : Nat) {c : Nat} (h : c < 4294967296) : crcSteps n c < 4294967296 := by
  induction n with
  | zero => exact h
  | succ n ih => exact crcStep_lt ih
def crcTab (i : Nat) : Nat := crcSteps 8 i
theorem u32_wraps (n : Int) (h0 : 0 ≤ n) (h1 : n < 2 ^ 32) : IntKind.u32.wrap n = n := by rw [IntKind.wrap_u32]; omega
theorem u32_and1 (c : Nat) (h : c < 4294967296) : bits .and .u32 (c : Int) 1 = ((c % 2 : Nat) : Int) := by
  have h1 := (bits_nat .u32 32 (by decide) u32_wraps c 1 h (by decide)).1
  rw [Nat.and_one_is_mod] at h1
  exact h1
theorem u32_xor (a b : Nat) (ha : a < 4294967296) (hb : b < 4294967296) : bits .xor .u32 (a : Int) (b : Int) = ((a ^^^ b : Nat) : Int) := by
  have ha' : a % 2 ^ 32 = a := Nat.mod_eq_of_lt ha
  have hb' : b % 2 ^ 32 = b := Nat.mod_eq_of_lt hb
  have hx : a ^^^ b < 2 ^ 32 := Nat.xor_lt_two_pow ha hb
  simp only [bits, IntKind.bits, BitVec.ofInt_natCast]
  show IntKind.u32.wrap (((BitVec.ofNat 32 a ^^^ BitVec.ofNat 32 b : BitVec 32).toNat : Nat) : Int) = _
  rw [BitVec.toNat_xor, BitVec.toNat_ofNat, BitVec.toNat_ofNat, ha', hb']
  exact u32_wraps _ (Int.natCast_nonneg _) (by exact_mod_cast hx)
theorem crcStep_odd (c : Nat) (h : c < 4294967296) (ho : c % 2 = 1) : bits .xor .u32 ((c : Int) / 2) 3988292384 = ((crcStep c : Nat) : Int) := by
  have h1 := u32_xor (c / 2) 3988292384 (by omega) (by omega)
  unfold crcStep
  rw [if_pos ho, ← h1]
  rfl
theorem crcStep_even (c : Nat) (ho : c % 2 = 0) : (c : Int) / 2 = ((crcStep c : Nat) : Int) := by
  unfold crcStep
  rw [if_neg (by omega)]
  rfl
set_option maxHeartbeats 4000000 in
set_option maxRecDepth 100000 in
theorem crc_make (g : Nat) (cs : Array Value) (w : World) (hb : w.heap[g]? = some (.cells cs 182 (0, 0))) (hs : cs.size = 259) :
    Calls Try.prog 160 #[.pointer (some ⟨g, 0, none⟩)] w fun e w' => e = .returned (.tuple #[]) ∧ ∃ cs' : Array Value, w'.heap[g]? = some (.cells cs' 182 (0, 0)) ∧ cs'.size = 259 ∧ (∀ j, j < 3 → cs'[j]? = cs[j]?) ∧ (∀ j, j < 256 → cs'[3 + j]? = some (.int .u32 (crcTab j : Nat))) ∧ Below g w w' := by
  have HB := Aside0.mk hb
  have HS := Aside0.mk hs
  clear hb hs
  go_enter Try.func160, Try.ntmps160
  go_wp2
  go_loopw [4] (fun v4 wr => ∃ i : Nat, i ≤ 256 ∧ v4 = .int .i64 i ∧ Aside0 (∃ cs' : Array Value, wr.heap[g]? = some (.cells cs' 182 (0, 0)) ∧ cs'.size = 259 ∧ (∀ j, j < 3 → cs'[j]? = cs[j]?) ∧ (∀ j, j < i → cs'[3 + j]? = some (.int .u32 (crcTab j : Nat))) ∧ Below g w wr)) (fun v4 _ => 256 - (intOf v4).toNat)
  case atStart => exact ⟨0, by omega, rfl, ⟨cs, HB.out, HS.out, fun _ _ => rfl, fun j h => by omega, Below.refl _ _⟩⟩
  case round =>
    obtain ⟨i, hi, rfl, HI⟩ := hrel
    by_cases hlt : i < 256
    · go_wp2
      go_loop [3, 9] (fun v3 v9 => ∃ n : Nat, n ≤ 8 ∧ v9 = .int .i64 n ∧ v3 = .int .u32 (crcSteps n i : Nat)) (fun _ v9 => 8 - (intOf v9).toNat)
      case atStart => exact ⟨0, by omega, rfl, rfl⟩
      case round =>
        obtain ⟨n, hn, rfl, rfl⟩ := hrel
        have hc : crcSteps n i < 4294967296 := crcSteps_lt n (by omega)
        generalize hcc : crcSteps n i = c at *
        have HC := Aside0.mk hcc
        clear hcc
        by_cases hn8 : n < 8
        · have hn0 : decide ((n : Int) < 8) = true := decide_eq_true (by omega)
          have HN8 := Aside0.mk hn8
          by_cases hodd : c % 2 = 1
          · have hb1 : (bits BinOp.and IntKind.u32 (c : Int) 1 == 1) = true := by rw [u32_and1 c hc, hodd]; rfl
            have HO := Aside0.mk hodd
            clear hodd
            go_wp2
            go_round
            case rel => exact ⟨n + 1, by omega, by go_num, by rw [crcStep_odd c hc HO.out, ← HC.out]; rfl⟩
            case measure => have := HN8.out; simp [intOf]; omega
          · have hb1 : (bits BinOp.and IntKind.u32 (c : Int) 1 == 1) = false := by
              rw [u32_and1 c hc, show c % 2 = 0 by omega]; rfl
            have HO := Aside0.mk (show c % 2 = 0 by omega)
            clear hodd
            go_wp2
            go_round
            case rel => exact ⟨n + 1, by omega, by go_num, by rw [crcStep_even c HO.out, ← HC.out]; rfl⟩
            case measure => have := HN8.out; simp [intOf]; omega
        · have hn0 : decide ((n : Int) < 8) = false := decide_eq_false (by omega)
          have e8 : n = 8 := by omega
          have HE := Aside0.mk (show (crcTab i : Nat) = c by unfold crcTab; rw [← e8]; exact HC.out)
          obtain ⟨cs', hcb, hcs, hc3, hct, hk⟩ := HI.out
          have hcell : wr.cell? ⟨g, 3 + i, none⟩ = some (cs'[3 + i]'(by omega)) := (blk_cell hcb (3 + i)).trans (Array.getElem?_eq_getElem (by omega))
          have hfz := blk_frozen hcb (3 + i)
          have HCB := Aside0.mk hcb
          have HCS := Aside0.mk hcs
          have HC3 := Aside0.mk hc3
          have HCT := Aside0.mk hct
          have HK := Aside0.mk hk
          generalize cs'[3 + i]'(by omega) = old at hcell
          clear hcb hcs hc3 hct hk e8
          go_wp2
          go_roundw
          case rel => exact ⟨i + 1, by omega, by go_num, ⟨_, blk_set HCB.out (3 + i) _, by simp [HCS.out], fun j hj => by
              rw [Array.getElem?_setIfInBounds_ne (by omega)]; exact HC3.out j hj, fun j hj => by
              by_cases hji : j = i
              · subst hji
                rw [Array.getElem?_setIfInBounds_self_of_lt (by have := HCS.out; omega), HE.out]
              · rw [Array.getElem?_setIfInBounds_ne (by omega)]; exact HCT.out j (by omega), Below.setCell HK.out (Nat.le_refl _) _⟩⟩
          case measure => simp [intOf]; omega
    · go_wp2
      go_end0
      obtain ⟨cs', hcb, hcs, hc3, hct, hk⟩ := HI.out
      exact ⟨rfl, cs', hcb, hcs, hc3, fun j hj => hct j (by omega), hk⟩
theorem crc_disable (w : World) : (callFunc 183 #[]).run Try.prog w = .ok (.value (.tuple #[])) w := run_call_mark0 Try.func183 (by kernel_rfl) (by kernel_rfl) (by kernel_rfl) .disable (by kernel_rfl) w
theorem crc_enable (w : World) : (callFunc 185 #[]).run Try.prog w = .ok (.value (.tuple #[])) w := run_call_mark0 Try.func185 (by kernel_rfl) (by kernel_rfl) (by kernel_rfl) .enable (by kernel_rfl) w
theorem crc_acquire (a : Addr) (w : World) : (callFunc 186 #[.pointer (some a)]).run Try.prog w = .ok (.value (.tuple #[])) w := run_call_marked Try.func186 (by kernel_rfl) (by kernel_rfl) (by kernel_rfl) .acquire (by kernel_rfl) a w
theorem crc_release (a : Addr) (w : World) : (callFunc 188 #[.pointer (some a)]).run Try.prog w = .ok (.value (.tuple #[])) w := run_call_marked Try.func188 (by kernel_rfl) (by kernel_rfl) (by kernel_rfl) .releaseMerge (by kernel_rfl) a w
set_option maxRecDepth 100000 in
set_option maxHeartbeats 1600000 in
theorem crc_store_deferred (a : Addr) (x : Value) (u : FrameMode) (w : World) (hc : w.cell? a = some x) (hz : w.frozen? a = false) :
    CallsD Try.prog 177 #[.pointer (some a), .bool true] u w fun e u' w' => u' = u ∧ (e = .returned (.tuple #[]) ∧ w' = w.drew.setCell a (.int .u32 1)) := by
  have hc' : w.drew.cell? a = some x := by go_simp
  have hz' : w.drew.frozen? a = false := by go_simp
  have hst := run_call_store (P := Try.prog) Try.func181 (by kernel_rfl) (by kernel_rfl) (by kernel_rfl) (by kernel_rfl) (k := .u32) (y := 1) hc' hz'
  go_enter_d Try.func177, Try.ntmps177
  go_wp2
  go_region_calls
  all_goals (go_end0; exact ⟨rfl, rfl⟩)
set_option maxRecDepth 100000 in
set_option maxHeartbeats 1600000 in
theorem crc_unlock_deferred (a : Addr) (u : FrameMode) (w : World) (hc : w.cell? a = some (.int .i32 1)) (hz : w.frozen? a = false) :
    CallsD Try.prog 176 #[.pointer (some a)] u w fun e u' w' => u' = u ∧ (e = .returned (.tuple #[]) ∧ w' = w.setCell a (.int .i32 0)) := by
  have hd := crc_disable
  have he := crc_enable
  have hr := crc_release
  have hadd := run_call_add (P := Try.prog) Try.func189 (by kernel_rfl) (by kernel_rfl) (by kernel_rfl) .i32 (by kernel_rfl) (y := -1) (s := 0) hc hz (by simp [go_sem]; rfl)
  have hcv := run_convert_to_unsafe (P := Try.prog) (src := 209) (dst := 213) Try.underlying209 Try.underlying213 (by kernel_rfl) hc
  go_enter_d Try.func176, Try.ntmps176
  go_wp2
  go_end0
  go_wp2
  go_end0
  exact ⟨rfl, rfl⟩
set_option maxRecDepth 100000 in
set_option maxHeartbeats 1600000 in
theorem crc_lock_free (a : Addr) (w : World) (hc : w.cell? a = some (.int .i32 0)) (hz : w.frozen? a = false) :
    Calls Try.prog 175 #[.pointer (some a)] w fun e w' => e = .returned (.tuple #[]) ∧ w' = w.setCell a (.int .i32 1) := by
  have hd := crc_disable
  have he := crc_enable
  have ha := crc_acquire
  have hcas := run_call_cas_hit (P := Try.prog) Try.func184 (by kernel_rfl) (by kernel_rfl) (by kernel_rfl) .i32 (by kernel_rfl) (y := 1) hc hz
  have hc' : (w.setCell a (.int .i32 1)).cell? a = some (.int .i32 1) := World.cell?_setCell_same w a _ hc
  have hcv := run_convert_to_unsafe (P := Try.prog) (src := 209) (dst := 213) Try.underlying209 Try.underlying213 (by kernel_rfl) hc'
  go_enter Try.func175, Try.ntmps175
  go_wp2
  first | go_end0 | (simp only [Exit.inBlock, Exit.then]; refine bodyPost_ret (results_none rfl _ _ _) rfl ?_) | refine bodyPost_ret (results_none rfl _ _ _) rfl ?_
  go_wp2
  go_end0
  exact ⟨rfl, rfl⟩
/-- What the table's block holds when the table has been made. -/
def CrcDone (w : World) (g : Nat) : Prop := ∃ cs : Array Value, w.heap[g]? = some (.cells cs 182 (0, 0)) ∧ cs.size = 259 ∧ cs[0]? = some (.int .u32 1) ∧ ∀ j, j < 256 → cs[3 + j]? = some (.int .u32 (crcTab j : Nat))
def CrcFresh (w : World) (g : Nat) : Prop := ∃ cs : Array Value, w.heap[g]? = some (.cells cs 182 (0, 0)) ∧ cs.size = 259 ∧ cs[0]? = some (.int .u32 0) ∧ cs[1]? = some (.int .i32 0)
def CrcSlowPost (w : World) (g : Nat) (e : Ending) (w' : World) : Prop := e = .returned (.tuple #[]) ∧ CrcDone w' g ∧ Below g w w'
set_option maxRecDepth 100000 in
set_option maxHeartbeats 1600000 in
theorem crc_slow (g : Nat) (w : World) (hf : CrcFresh w g) :
    Calls Try.prog 169 #[.pointer (some ⟨g, 0, none⟩), .func (.func 160) #[.pointer (some ⟨g, 0, none⟩)] #[]] w (CrcSlowPost w g) := by
  obtain ⟨cs, hb, hs, h0, h1⟩ := hf
  have c0 : w.cell? ⟨g, 0, none⟩ = some (.int .u32 0) := (blk_cell hb 0).trans h0
  have c1 : w.cell? ⟨g, 1, none⟩ = some (.int .i32 0) := (blk_cell hb 1).trans h1
  have f0 := blk_frozen hb 0
  have f1 := blk_frozen hb 1
  have hb1 := blk_set hb 1 (.int .i32 1)
  have hm := crc_make g _ (w.setCell ⟨g, 1, none⟩ (.int .i32 1)) hb1 (by simp [hs])
  have HM := Aside0.mk hm
  have HBB := Aside0.mk hb1
  have HS := Aside0.mk hs
  have H0 := Aside0.mk h0
  have H1 := Aside0.mk h1
  clear hb hb1 hm h0 h1 hs
  have hl := run_call_load (P := Try.prog) Try.func174 (by kernel_rfl) (by kernel_rfl) (by kernel_rfl) .u32 (by kernel_rfl) (w := w.setCell ⟨g, 1, none⟩ (.int .i32 1)) (a := ⟨g, 0, none⟩) (x := 0) ((World.cell?_setCell_other _ ⟨g, 1, none⟩ ⟨g, 0, none⟩ _ (by simp)).trans c0)
  have hnot : ∀ (x : Bool) (w : World), (Op.unary .not (.bool x)).run Try.prog w = .ok (.bool (!x)) w := fun _ _ => rfl
  go_enter_defers Try.func169, Try.ntmps169
  go_wp2_with (first | (go_at_call 168; go_in) | (go_at_call 175; refine (crc_lock_free ⟨g, 1, none⟩ _ (by go_simp) (by go_simp)).mono ?_; rintro e w' ⟨rfl, rfl⟩) | (go_at_call 160; refine HM.out.mono ?_; rintro e w2 ⟨rfl, hpost⟩; have HP := Aside0.mk hpost; clear hpost))
  obtain ⟨cs2, hb2, hs2, h2, ht2, hk2⟩ := HP.out
  have d0 : w2.cell? ⟨g, 0, none⟩ = some (.int .u32 0) := (blk_cell hb2 0).trans ((h2 0 (by omega)).trans (by rw [Array.getElem?_setIfInBounds_ne (by omega)]; exact H0.out))
  have d1 : w2.cell? ⟨g, 1, none⟩ = some (.int .i32 1) := (blk_cell hb2 1).trans ((h2 1 (by omega)).trans (Array.getElem?_setIfInBounds_self_of_lt (by have := HS.out; omega)))
  refine leaves_cons (f := 177) (args := #[.pointer (some ⟨g, 0, none⟩), .bool true]) (by simp) (by simp [go_sem]) ?_
  refine (crc_store_deferred ⟨g, 0, none⟩ (.int .u32 0) .returning _ d0 (blk_frozen hb2 0)).mono ?_
  rintro e u' w'' ⟨rfl, rfl, rfl⟩
  refine leaves_cons (f := 176) (args := #[.pointer (some ⟨g, 1, none⟩)]) (by simp [settle]) (by simp [go_sem]) ?_
  have hb3 : (w2.drew.setCell ⟨g, 0, none⟩ (.int .u32 1)).heap[g]? = some (.cells (cs2.setIfInBounds 0 (.int .u32 1)) 182 (0, 0)) := blk_set (w := w2.drew) hb2 0 _
  refine (crc_unlock_deferred ⟨g, 1, none⟩ _ _ ((World.cell?_setCell_other _ ⟨g, 0, none⟩ ⟨g, 1, none⟩ _ (by simp)).trans (by rw [World.cell?_drew]; exact d1)) (blk_frozen hb3 1)).mono ?_
  rintro e u' w'' ⟨rfl, rfl, rfl⟩
  have hb4 := blk_set hb3 1 (.int .i32 0)
  have hfin : CrcSlowPost w g (.returned (.tuple #[])) ((w2.drew.setCell ⟨g, 0, none⟩ (.int .u32 1)).setCell ⟨g, 1, none⟩ (.int .i32 0)) := by
    refine ⟨rfl, ⟨_, hb4, by simp [hs2], ?_, fun j hj => ?_⟩, ?_⟩
    · rw [Array.getElem?_setIfInBounds_ne (by omega), Array.getElem?_setIfInBounds_self_of_lt (by omega)]
    · rw [Array.getElem?_setIfInBounds_ne (by omega), Array.getElem?_setIfInBounds_ne (by omega)]; exact ht2 j hj
    · have k1 : Below g w w2 := Below.trans (Below.setCell (Below.refl g w) (Nat.le_refl _) _) hk2
      have k2 : Below g w w2.drew := k1.drew
      exact Below.setCell (Below.setCell k2 (Nat.le_refl _) _) (Nat.le_refl _) _
  simpa [Leaves, settle, results, Try.results169] using hfin
set_option maxRecDepth 100000 in
set_option maxHeartbeats 1600000 in
theorem crc_do_first (g : Nat) (w : World) (hf : CrcFresh w g) :
    Calls Try.prog 159 #[.pointer (some ⟨g, 0, none⟩), .func (.func 160) #[.pointer (some ⟨g, 0, none⟩)] #[]] w (CrcSlowPost w g) := by
  have HS := Aside0.mk (crc_slow g w hf)
  obtain ⟨cs, hb, hs, h0, h1⟩ := hf
  have c0 : w.cell? ⟨g, 0, none⟩ = some (.int .u32 0) := (blk_cell hb 0).trans h0
  clear hb hs h0 h1
  have hl := run_call_load (P := Try.prog) Try.func174 (by kernel_rfl) (by kernel_rfl) (by kernel_rfl) .u32 (by kernel_rfl) c0
  have hnot : ∀ (x : Bool) (w : World), (Op.unary .not (.bool x)).run Try.prog w = .ok (.bool (!x)) w := fun _ _ => rfl
  go_enter Try.func159, Try.ntmps159
  go_wp2_with (first | (go_at_call 169; refine HS.out.mono ?_; rintro e w' ⟨rfl, hp⟩; have HP := Aside0.mk hp; clear hp) | (go_at_call 168; go_in))
  go_end0
  exact ⟨rfl, HP.out⟩
theorem crc_do_done (g : Nat) (fv : Value) (w : World) (hd : CrcDone w g) :
    Calls Try.prog 159 #[.pointer (some ⟨g, 0, none⟩), fv] w fun e w' => e = .returned (.tuple #[]) ∧ w = w' := by
  obtain ⟨cs, hb, hs, h0, h1⟩ := hd
  have c0 : w.cell? ⟨g, 0, none⟩ = some (.int .u32 1) := (blk_cell hb 0).trans h0
  clear hb hs h0 h1
  have hl := run_call_load (P := Try.prog) Try.func174 (by kernel_rfl) (by kernel_rfl) (by kernel_rfl) .u32 (by kernel_rfl) c0
  have hnot : ∀ (x : Bool) (w : World), (Op.unary .not (.bool x)).run Try.prog w = .ok (.bool (!x)) w := fun _ _ => rfl
  go_enter Try.func159, Try.ntmps159
  go_wp2
  go_end0
  exact ⟨rfl, rfl⟩
theorem CrcDone.drew {w : World} {g : Nat} (h : CrcDone w g) : CrcDone w.drew g := h
set_option maxRecDepth 100000 in
set_option maxHeartbeats 1600000 in
theorem crc_of (g : Nat) (i : Int) (w : World) (h0 : 0 ≤ i) (h1 : i < 256) (hst : CrcFresh w g ∨ CrcDone w g) :
    Calls Try.prog 144 #[.pointer (some ⟨g, 0, none⟩), .int .u8 i] w fun e w' => e = .returned (.int .u32 (crcTab i.toNat : Nat)) ∧ CrcDone w' g ∧ Below g w w' := by
  have hd : Calls Try.prog 159 #[.pointer (some ⟨g, 0, none⟩), .func (.func 160) #[.pointer (some ⟨g, 0, none⟩)] #[]] w (CrcSlowPost w g) := by
    rcases hst with hf | hd
    · exact crc_do_first g w hf
    · refine (crc_do_done g _ w hd).mono ?_
      rintro e w' ⟨rfl, rfl⟩
      exact ⟨rfl, hd, Below.refl _ _⟩
  have HD := Aside0.mk hd
  clear hd hst
  have hmf : ∀ (fn : Fn) (first cap : Array Value) (w : World), (Instr.makeFunc fn first cap).run Try.prog w = .ok (.func fn first cap) w := fun _ _ _ _ => rfl
  go_enter Try.func144, Try.ntmps144
  go_wp2_with (go_at_call 159; refine HD.out.mono ?_; rintro e w2 ⟨rfl, hdone, hbel⟩; have HDN := Aside0.mk hdone; have HBL := Aside0.mk hbel; have hcc : w2.cell? ⟨g, 3 + i.toNat, none⟩ = some (.int .u32 (crcTab i.toNat : Nat)) := (by obtain ⟨cs, hb, _, _, ht⟩ := HDN.out; exact (blk_cell hb _).trans (ht _ (by omega))); clear hdone hbel)
  go_ret
  exact ⟨rfl, HDN.out, HBL.out⟩
def crcByte (c x : Nat) : Nat := crcTab ((c % 256) ^^^ x) ^^^ (c / 256)
def crcMore (c : Nat) (l : List Int) : Nat := l.foldl (fun c x => crcByte c x.toNat) c
theorem u8_xor (a b : Nat) (ha : a < 256) (hb : b < 256) : bits .xor .u8 (a : Int) (b : Int) = ((a ^^^ b : Nat) : Int) := by
  have ha' : a % 2 ^ 8 = a := Nat.mod_eq_of_lt ha
  have hb' : b % 2 ^ 8 = b := Nat.mod_eq_of_lt hb
  have hx : a ^^^ b < 2 ^ 8 := Nat.xor_lt_two_pow ha hb
  simp only [bits, IntKind.bits, BitVec.ofInt_natCast]
  show IntKind.u8.wrap (((BitVec.ofNat 8 a ^^^ BitVec.ofNat 8 b : BitVec 8).toNat : Nat) : Int) = _
  rw [BitVec.toNat_xor, BitVec.toNat_ofNat, BitVec.toNat_ofNat, ha', hb', IntKind.wrap_u8]
  omega
theorem crcTab_lt (i : Nat) (h : i < 256) : crcTab i < 4294967296 := crcSteps_lt 8 (by omega)
theorem xor_lt8 {a b : Nat} (ha : a < 256) (hb : b < 256) : a ^^^ b < 256 := Nat.xor_lt_two_pow (n := 8) ha hb
theorem crcByte_lt {c x : Nat} (hc : c < 4294967296) (hx : x < 256) : crcByte c x < 4294967296 := by
  unfold crcByte
  exact Nat.xor_lt_two_pow (n := 32) (crcTab_lt _ (xor_lt8 (by omega) hx)) (by omega)
def crcOk (c : Int) (l : List Int) : Bool := decide (0 ≤ c) && decide (c < 4294967296) && l.all fun x => decide (0 ≤ x) && decide (x < 256)
def crc_More.f (a0 : Int) (l1 : List Int) : Option Int := if crcOk a0 l1 = true then some ((crcMore a0.toNat l1 : Nat) : Int) else none
set_option maxRecDepth 100000 in
set_option maxHeartbeats 4000000 in
theorem crc_More.calls (a0 : Int) (A1 : Option Addr) (c1 : Nat) (l1 : List Int) (r : Int) (w : World) (hr1 : Kd.C (Kd.int .u8) w A1 l1.length l1) (hc1 : l1.length ≤ c1) (h : crc_More.f a0 l1 = some r) :
    Calls Try.prog 118 #[.int .u32 a0, .slice A1 l1.length c1] w fun e w' => e = .returned (.int .u32 r) ∧ Below w.heap.size w w' := by
  unfold crc_More.f at h
  by_cases hok : crcOk a0 l1 = true
  · rw [if_pos hok] at h
    obtain rfl := Option.some.inj h
    unfold crcOk at hok
    simp only [Bool.and_eq_true, decide_eq_true_eq, List.all_eq_true] at hok
    obtain ⟨⟨ha0, ha1⟩, hall⟩ := hok
    obtain ⟨c, rfl⟩ := Int.eq_ofNat_of_zero_le ha0
    have HR := Aside0.mk hr1
    have HN := Aside0.mk hr1.2.1
    have HALL := Aside0.mk hall
    have HC0 := Aside0.mk (show c < 4294967296 by omega)
    clear h hr1 hall ha0 ha1
    rw [Int.toNat_natCast]
    have hz : CrcFresh (w.alloc (.cells Try.zeroCells182 182)) w.heap.size := ⟨Try.zeroCells182, heap_alloc_new _ _, by kernel_rfl, by kernel_rfl, by kernel_rfl⟩
    have HZ := Aside0.mk hz
    clear hz
    go_enter Try.func118, Try.ntmps118
    go_wp2
    go_loopw [0, 12] (fun v0 v12 wr => ∃ (i : Nat) (d : Nat), i ≤ l1.length ∧ v12 = .int .i64 i ∧ v0 = .int .u32 d ∧ Aside0 (d < 4294967296 ∧ crcMore d (l1.drop i) = crcMore c l1) ∧ Aside0 (CrcFresh wr w.heap.size ∨ CrcDone wr w.heap.size) ∧ Aside0 (Below w.heap.size w wr)) (fun _ v12 _ => l1.length - (intOf v12).toNat)
    case atStart => exact ⟨0, c, by omega, rfl, rfl, ⟨HC0.out, rfl⟩, ⟨.inl HZ.out⟩, ⟨below_alloc (Below.refl _ _) _⟩⟩
    case round =>
      clear HZ HC0
      obtain ⟨i, d, hi, rfl, rfl, HD, HST, HB⟩ := hrel
      obtain ⟨hd, hmore⟩ := HD.out
      have HM := Aside0.mk hmore
      clear HD hmore
      by_cases hlt : i < l1.length
      · have hlt0 : decide ((i : Int) < (l1.length : Int)) = true := decide_eq_true (by omega)
        obtain ⟨ad, e, hx⟩ := Kd.at_int HR.out (i : Int) (by omega) (by omega)
        cases e
        replace hx := (HB.out.cell (World.block_lt_of_cell? w _ hx)).trans hx
        have hrd : rd l1 (i : Int) = l1[i] := by
          unfold rd
          rw [Int.toNat_natCast, List.getD_eq_getElem?_getD, List.getElem?_eq_getElem hlt]
          rfl
        have hmem := HALL.out l1[i] (List.getElem_mem hlt)
        have hdrop : l1.drop i = l1[i] :: l1.drop (i + 1) := List.drop_eq_getElem_cons hlt
        rw [hrd] at hx
        rw [Int.toNat_natCast] at hx
        have HDR := Aside0.mk hdrop
        clear hrd hdrop
        generalize l1[i] = x at *
        obtain ⟨n, rfl⟩ := Int.eq_ofNat_of_zero_le hmem.1
        have hn : n < 256 := by omega
        have HLT := Aside0.mk hlt
        have hNN := HN.out
        have hxr : bits .xor .u8 ((d : Int) % 256) (n : Int) = ((d % 256 ^^^ n : Nat) : Int) := u8_xor (d % 256) n (by omega) hn
        have hlt8 : d % 256 ^^^ n < 256 := xor_lt8 (by omega) hn
        have HOF := Aside0.mk (crc_of w.heap.size (bits .xor .u8 ((d : Int) % 256) (n : Int)) wr (by rw [hxr]; omega) (by rw [hxr]; omega) HST.out)
        have hfin : bits .xor .u32 ((crcTab (bits .xor .u8 ((d : Int) % 256) (n : Int)).toNat : Nat) : Int) ((d : Int) / 256) = ((crcByte d n : Nat) : Int) := by
          rw [hxr, Int.toNat_natCast]
          exact u32_xor _ (d / 256) (crcTab_lt _ hlt8) (by omega)
        have HFIN := Aside0.mk hfin
        clear hmem hxr hlt8 hfin
        go_wp2_with (go_at_call 144; refine HOF.out.mono ?_; rintro e w2 ⟨rfl, hdn, hbl⟩; have HDN := Aside0.mk hdn; have HB2 := Aside0.mk (Below.trans HB.out hbl); clear hdn hbl)
        go_roundw
        case rel => exact ⟨i + 1, crcByte d n, by have := HLT.out; omega, by go_num, by rw [← HFIN.out], ⟨crcByte_lt hd hn, by
            have e := HM.out
            rw [HDR.out] at e
            exact e⟩, ⟨.inr HDN.out⟩, HB2⟩
        case measure => have := HLT.out; simp [intOf]; omega
      · have hlt0 : decide ((i : Int) < (l1.length : Int)) = false := decide_eq_false (by omega)
        go_wp2
        go_ret
        exact ⟨by
          have e := HM.out
          rw [List.drop_of_length_le (by omega)] at e
          rw [← e]
          rfl, HB.out⟩
  · rw [if_neg hok] at h
    cases h
theorem crcMore_lt (l : List Int) (c : Nat) (hc : c < 4294967296) (hl : ∀ x ∈ l, 0 ≤ x ∧ x < 256) : crcMore c l < 4294967296 := by
  induction l generalizing c with
  | nil => exact hc
  | cons x l ih =>
    have hx := hl x List.mem_cons_self
    exact ih _ (crcByte_lt hc (by omega)) (fun y hy => hl y (List.mem_cons_of_mem _ hy))
theorem crc_More.some {a : Int} {l : List Int} {c : Int} (h : crc_More.f a l = some c) : 0 ≤ a ∧ a < 4294967296 ∧ (∀ x ∈ l, 0 ≤ x ∧ x < 256) ∧ c = ((crcMore a.toNat l : Nat) : Int) ∧ 0 ≤ c ∧ c < 4294967296 := by
  unfold crc_More.f at h
  by_cases hok : crcOk a l = true
  · rw [if_pos hok] at h
    obtain rfl := Option.some.inj h
    unfold crcOk at hok
    simp only [Bool.and_eq_true, decide_eq_true_eq, List.all_eq_true] at hok
    obtain ⟨⟨ha0, ha1⟩, hall⟩ := hok
    have := crcMore_lt l a.toNat (by omega) hall
    exact ⟨ha0, ha1, hall, rfl, by omega, by omega⟩
  · rw [if_neg hok] at h
    cases h
theorem u32_not (c : Int) (h0 : 0 ≤ c) (h : c < 4294967296) : bits .xor .u32 IntKind.u32.max c = 4294967295 - c := by
  obtain ⟨n, rfl⟩ := Int.eq_ofNat_of_zero_le h0
  have e : IntKind.u32.max = ((4294967295 : Nat) : Int) := rfl
  have h1 : (4294967295 : Nat) ^^^ n = 4294967295 - n := by
    have h2 : (~~~(BitVec.ofNat 32 n)).toNat = 4294967295 - n := by
      rw [BitVec.toNat_not, BitVec.toNat_ofNat, Nat.mod_eq_of_lt (by omega)]
    rw [← h2, ← BitVec.allOnes_xor, BitVec.toNat_xor, BitVec.toNat_ofNat, Nat.mod_eq_of_lt (show n < 2 ^ 32 by omega)]
    rfl
  rw [e, u32_xor _ _ (by decide) (by omega), h1]
  omega

/-! ### crc_Sum: function 73 -/
def crc_Sum.f (l0 : List Int) : Option Int := (crc_More.f 4294967295 l0).bind fun c => some (4294967295 - c)
set_option maxHeartbeats 1600000 in
theorem crc_Sum.calls (A0 : Option Addr) (c0 : Nat) (l0 : List Int) (r : Int) (w : World) (hr0 : Kd.C (Kd.int .u8) w A0 l0.length l0) (hc0 : l0.length ≤ c0) (h : crc_Sum.f l0 = some r) :
    Calls Try.prog 73 #[.slice A0 l0.length c0] w fun e w' => e = .returned (.int .u32 r) ∧ Below w.heap.size w w' := by
  unfold crc_Sum.f at h
  obtain ⟨c, hc, hr⟩ := Option.bind_eq_some_iff.mp h
  have HC := Aside0.mk (crc_More.calls 4294967295 A0 c0 l0 c w hr0 hc0 hc)
  have k0 := (crc_More.some hc).2.2.2.2.1
  have k1 := (crc_More.some hc).2.2.2.2.2
  have HNOT := Aside0.mk (u32_not c k0 k1)
  obtain rfl := Option.some.inj hr
  have hsg : IntKind.u32.signed = false := rfl
  clear hr0 h hc k0 k1 hr
  go_enter Try.func73, Try.ntmps73
  go_wp2_with (go_at_call 118; refine HC.out.mono ?_; rintro e w' ⟨rfl, hb'⟩; have HB' := Aside0.mk hb'; clear hb')
  go_ret
  exact ⟨by rw [← HNOT.out]; rfl, HB'.out⟩

/-! ### journal_Put: function 14 -/
mutual
def journal_Put.j0 : Nat → Int → Bool → Option (List Int × Int)
  | 0, _, _ => none
  | k + 1, x0, x13 => if x13 = true then (some (([] : List Int), 1)) else (if 16 ≤ 281474976710656 then (journal_Put.l0 k x0 (List.replicate 16 0) 0) else (none))
def journal_Put.l0 : Nat → Int → List Int → Int → Option (List Int × Int)
  | 0, _, _, _ => none
  | k + 1, x0, x4, x15 => if x15 < 8 then (if 0 ≤ (IntKind.u64.wrap (wrap64 (8 * (wrap64 (7 - x15))))) then (if 0 ≤ x15 then (if x15 < (x4.length : Int) then (journal_Put.l0 k x0 (x4.set (x15 : Int).toNat ((shr .i64 x0 (IntKind.u64.wrap (wrap64 (8 * (wrap64 (7 - x15)))))) % 256)) (wrap64 (x15 + 1))) else (none)) else (none)) else (none)) else (if 8 ≤ (x4.length : Int) then ((crc_Sum.f (x4.take 8)).bind fun t109 => (journal_Put.l1 k x4 t109 0)) else (none))
def journal_Put.l1 : Nat → List Int → Int → Int → Option (List Int × Int)
  | 0, _, _, _ => none
  | k + 1, x4, x6, x32 => if x32 < 4 then (if 0 ≤ (IntKind.u64.wrap (wrap64 (24 - (wrap64 (8 * x32))))) then (if 0 ≤ (wrap64 (8 + x32)) then (if (wrap64 (8 + x32)) < (x4.length : Int) then (journal_Put.l1 k (x4.set ((wrap64 (8 + x32)) : Int).toNat ((shr .u32 x6 (IntKind.u64.wrap (wrap64 (24 - (wrap64 (8 * x32)))))) % 256)) x6 (wrap64 (x32 + 1))) else (none)) else (none)) else (none)) else (some (x4, 0))
end
def journal_Put.f (k : Nat) (a0 : Int) : Option (List Int × Int) := if a0 < 0 then (journal_Put.j0 k a0 true) else (journal_Put.j0 k a0 (decide (a0 > 65536)))
theorem journal_Put.mono_l : ∀ k, (∀ y0 y1, LeO (journal_Put.j0 k y0 y1) (journal_Put.j0 (k + 1) y0 y1)) ∧ (∀ y0 y1 y2, LeO (journal_Put.l0 k y0 y1 y2) (journal_Put.l0 (k + 1) y0 y1 y2)) ∧ (∀ y0 y1 y2, LeO (journal_Put.l1 k y0 y1 y2) (journal_Put.l1 (k + 1) y0 y1 y2))
  | 0 => ⟨fun _ _ r h => by simp [journal_Put.j0] at h, fun _ _ _ r h => by simp [journal_Put.l0] at h, fun _ _ _ r h => by simp [journal_Put.l1] at h⟩
  | k + 1 => by
    obtain ⟨ih0, ih1, ih2⟩ := journal_Put.mono_l k
    refine ⟨?_, ?_, ?_⟩
    · intro y0 y1
      unfold journal_Put.j0
      repeat' first
      | (with_reducible exact ih0 _ _)
      | (with_reducible exact ih1 _ _ _)
      | (with_reducible exact ih2 _ _ _)
      | (with_reducible exact LeO.refl _)
      | (with_reducible exact LeO.none _)
      | (with_reducible refine LeO.ite ?_ ?_)
      | (with_reducible refine LeO.bind ?_ (fun _ => ?_))
      | exact ih0 _ _
      | exact ih1 _ _ _
      | exact ih2 _ _ _
      | exact LeO.none _
      | refine LeO.ite ?_ ?_
      | refine LeO.bind ?_ (fun _ => ?_)
    · intro y0 y1 y2
      unfold journal_Put.l0
      repeat' first
      | (with_reducible exact ih0 _ _)
      | (with_reducible exact ih1 _ _ _)
      | (with_reducible exact ih2 _ _ _)
      | (with_reducible exact LeO.refl _)
      | (with_reducible exact LeO.none _)
      | (with_reducible refine LeO.ite ?_ ?_)
      | (with_reducible refine LeO.bind ?_ (fun _ => ?_))
      | exact ih0 _ _
      | exact ih1 _ _ _
      | exact ih2 _ _ _
      | exact LeO.none _
      | refine LeO.ite ?_ ?_
      | refine LeO.bind ?_ (fun _ => ?_)
    · intro y0 y1 y2
      unfold journal_Put.l1
      repeat' first
      | (with_reducible exact ih0 _ _)
      | (with_reducible exact ih1 _ _ _)
      | (with_reducible exact ih2 _ _ _)
      | (with_reducible exact LeO.refl _)
      | (with_reducible exact LeO.none _)
      | (with_reducible refine LeO.ite ?_ ?_)
      | (with_reducible refine LeO.bind ?_ (fun _ => ?_))
      | exact ih0 _ _
      | exact ih1 _ _ _
      | exact ih2 _ _ _
      | exact LeO.none _
      | refine LeO.ite ?_ ?_
      | refine LeO.bind ?_ (fun _ => ?_)
theorem journal_Put.mono : ∀ a0 k, LeO (journal_Put.f k a0) (journal_Put.f (k + 1) a0) := by
  intro a0 k
  obtain ⟨ih0, ih1, ih2⟩ := journal_Put.mono_l k
  unfold journal_Put.f
  repeat' first
      | (with_reducible exact ih0 _ _)
      | (with_reducible exact ih1 _ _ _)
      | (with_reducible exact ih2 _ _ _)
      | (with_reducible exact LeO.refl _)
      | (with_reducible exact LeO.none _)
      | (with_reducible refine LeO.ite ?_ ?_)
      | (with_reducible refine LeO.bind ?_ (fun _ => ?_))
      | exact ih0 _ _
      | exact ih1 _ _ _
      | exact ih2 _ _ _
      | exact LeO.none _
      | refine LeO.ite ?_ ?_
      | refine LeO.bind ?_ (fun _ => ?_)
set_option maxHeartbeats 8000000 in
set_option maxRecDepth 100000 in
theorem journal_Put.calls (k : Nat) (a0 : Int) (r1 : List Int) (r2 : Int) (w : World) (h : journal_Put.f k a0 = some (r1, r2)) :
    Calls Try.prog 14 #[.int .i64 a0] w fun e w' => ∃ v0_ : Value, e = .returned (.tuple #[v0_, .int .i64 r2]) ∧ Kd.R (Kd.int .u8) 5 w' w.heap.size (fun _ => True) v0_ r1 ∧ Below w.heap.size w w' := by
  have HB := Aside0.mk (Below.refl w.heap.size w)
  have H : (if a0 < 0 then (journal_Put.j0 k a0 true) else (journal_Put.j0 k a0 (decide (a0 > 65536)))) = some (r1, r2) := h
  clear h
  have HC2 := Aside0.mk H
  clear H
  go_enter Try.func14, Try.ntmps14
  go_upto_region 1 with (fail)
  go_cut [13] (fun v13 wc => ∃ (kq : Nat) (x13_1 : Bool), v13 = .bool x13_1 ∧ Aside0 (journal_Put.j0 kq a0 x13_1 = some (r1, r2)) ∧ Aside0 (kq ≤ k) ∧ Aside0 (Below w.heap.size w wc))
  case first =>
    have H := HC2.out
    clear HC2
    by_cases c3 : a0 < 0
    · rw [if_pos c3] at H
      have c3b0 : decide (a0 < 0) = true := decide_eq_true c3
      clear c3
      (first | rw [c3b0] | (simp only [i64_w, i32_w]; rw [c3b0]) | skip)
      have H' := Aside0.mk H
      clear H
      go_wp2
      go_meet
      case rel => exact ⟨_, (true), (by first | rfl | (simp; done) | (simp [*]; done)), H', ⟨by first | omega | exact Nat.le_refl _⟩, ⟨by repeat (first | (with_reducible first | exact HB.out | apply below_alloc | apply pw_below_drewN | apply below_drew1) | exact HB.out)⟩⟩
    · rw [if_neg c3] at H
      have c3b0 : decide (a0 < 0) = false := decide_eq_false c3
      clear c3
      (first | rw [c3b0] | (simp only [i64_w, i32_w]; rw [c3b0]) | skip)
      have H' := Aside0.mk H
      clear H
      go_wp2
      go_meet
      case rel => exact ⟨_, (decide (a0 > 65536)), (by first | rfl | (simp; done) | (simp [*]; done)), H', ⟨by first | omega | exact Nat.le_refl _⟩, ⟨by repeat (first | (with_reducible first | exact HB.out | apply below_alloc | apply pw_below_drewN | apply below_drew1) | exact HB.out)⟩⟩
  case rest =>
    clear HC2
    try clear c1
    try clear p2
    try clear c3
    try clear c3b0
    obtain ⟨kq, x13_1, rfl, HA, HJ1, HB⟩ := hcut
    cases kq with
    | zero => exact absurd HA.out (by simp [journal_Put.j0])
    | succ kj1 =>
      have H := HA.out
      clear HA
      simp only [journal_Put.j0] at H
      by_cases c4 : x13_1 = true
      · subst c4
        have H1 : (some (([] : List Int), 1)) = some (r1, r2) := by rw [if_pos rfl] at H; exact H
        clear H
        have H := H1
        clear H1
        simp only [Option.some.injEq, Prod.mk.injEq] at H
        obtain ⟨rfl, rfl⟩ := H
        go_wp2
        go_ret2
        exact ⟨_, by first | rfl | (simp [errW_none, errW_some] <;> rfl) | (simp [*, errW_none, errW_some] <;> rfl), by first | exact Kd.R_nil _ _ _ _ _ | exact Kd.N_nil _ _ _ _ _ | exact Kd.V_nil _ _ _ _ _ | exact Kd.Q_nil _ _ _ _ _ | exact Kd.S_nil _ _ _ _ _, by repeat (first | (with_reducible first | exact HB.out | apply below_alloc | apply pw_below_drewN | apply below_drew1) | exact HB.out)⟩
      · replace c4 := Bool.eq_false_iff.mpr c4
        subst c4
        have H1 : (if 16 ≤ 281474976710656 then (journal_Put.l0 kj1 a0 (List.replicate 16 0) 0) else (none)) = some (r1, r2) := by rw [if_neg (show ¬ (false = true) by decide)] at H; exact H
        clear H
        have H := H1
        clear H1
        by_cases c5 : 16 ≤ 281474976710656
        · rw [if_pos c5] at H
          have c5b0 := eq_true c5
          have c5b1 : decide (16 ≤ 281474976710656) = true := decide_eq_true c5
          clear c5
          obtain ⟨y101, hy101⟩ : ∃ y_ : List Int, y_ = (List.replicate 16 0) := ⟨_, rfl⟩
          replace H : (journal_Put.l0 kj1 a0 y101 0) = some (r1, r2) := by first | (rw [hy101]; with_reducible exact H) | (have H2_ := (Option.bind_some _ _).symm.trans H; rw [hy101]; with_reducible exact H2_) | (have H2_ := (Option.bind_some _ _).symm.trans H; with_reducible exact H2_) | with_reducible exact H | (rw [hy101]; exact H) | exact H
          have Ny101 := Aside0.mk hy101
          clear hy101
          have H' := Aside0.mk H
          clear H
          go_wp2_with (first | ((with_reducible refine gate_dst (N := 14) rfl ?_); refine Kd.R_make (Kd.int .u8) _ 5 rfl (N := 14) rfl 23 _ _ rfl 16 rfl rfl Try.underlying23 (.int .u8 0) 1 info5 rfl (by decide) (by omega) 0 (ok := fun _ => True) (okp := fun _ => True) rfl (fun _ hk => hk) trivial (by omega) (by omega) (Below.refl _ _) (Nat.le_refl _) ?_; intro v102 w6 ho7 hb hg_ hnew_; clear hg_ hnew_; (first | rw [← Ny101.out] at ho7 | (simp only [Int.reduceToNat] at ho7; rw [← Ny101.out] at ho7)); have n0_ := Aside0.mk (Kd.R_lower ho7 (below_size (by repeat (first | (with_reducible first | exact HB.out | apply below_alloc | apply pw_below_drewN | apply below_drew1) | exact HB.out)))); have n1_ := Aside0.mk (below_step (by repeat (first | (with_reducible first | exact HB.out | apply below_alloc | apply pw_below_drewN | apply below_drew1) | exact HB.out)) hb); clear HB; have HO103 := n0_; have HB := n1_; clear n0_ n1_; clear hb ho7))
          go_loopg [15] kj1 (fun kq v15 w' => ∃ (x4_2 : List Int) (x15_2 : Int), v15 = .int .i64 x15_2 ∧ Aside0 (journal_Put.l0 kq a0 x4_2 x15_2 = some (r1, r2)) ∧ Aside0 (kq ≤ kj1) ∧ Aside0 (Kd.R (Kd.int .u8) 5 w' w.heap.size (fun _ => True) v102 x4_2) ∧ Aside0 (Below w.heap.size w w'))
          case atStart => exact ⟨(y101), (0), (by first | rfl | (simp; done) | (simp [*]; done)), H', ⟨Nat.le_refl _⟩, ⟨by (with_reducible repeat (first | apply Kd.R_alloc | apply Kd.R_drewN | apply Kd.R_drew)); exact HO103.out⟩, ⟨by repeat (first | (with_reducible first | exact HB.out | apply below_alloc | apply pw_below_drewN | apply below_drew1) | exact HB.out)⟩⟩
          case round =>
            clear H'
            try clear c1
            try clear p2
            try clear c3
            try clear c3b0
            try clear c4
            try clear c5
            try clear c5b0
            try clear c5b1
            try clear p2
            obtain ⟨x4_2, x15_2, rfl, HA, HK2, HO_4, HB⟩ := hrel
            cases gk with
            | zero => exact absurd HA.out (by simp [journal_Put.l0])
            | succ k2 =>
              have H := HA.out
              clear HA
              simp only [journal_Put.l0] at H
              by_cases c8 : x15_2 < 8
              · rw [if_pos c8] at H
                have c8b0 : decide (x15_2 < 8) = true := decide_eq_true c8
                clear c8
                obtain ⟨ji9, hji9⟩ : ∃ j_ : Int, (IntKind.u64.wrap (wrap64 (8 * (wrap64 (7 - x15_2))))) = j_ := ⟨_, rfl⟩
                replace H : (if 0 ≤ (ji9) then (if 0 ≤ x15_2 then (if x15_2 < (x4_2.length : Int) then (journal_Put.l0 k2 a0 (x4_2.set (x15_2 : Int).toNat ((shr .i64 a0 (ji9)) % 256)) (wrap64 (x15_2 + 1))) else (none)) else (none)) else (none)) = some (r1, r2) := by first | (rw [hji9] at H; exact H) | (simp only [hji9] at H ⊢; exact H)
                by_cases c10 : 0 ≤ (ji9)
                · rw [if_pos c10] at H
                  have c10b0 := eq_true c10
                  have c10b1 : decide (0 ≤ (ji9)) = true := decide_eq_true c10
                  clear c10
                  obtain ⟨ji11, hji11⟩ : ∃ j_ : Int, (shr .i64 a0 (ji9)) = j_ := ⟨_, rfl⟩
                  replace H : (if 0 ≤ x15_2 then (if x15_2 < (x4_2.length : Int) then (journal_Put.l0 k2 a0 (x4_2.set (x15_2 : Int).toNat ((ji11) % 256)) (wrap64 (x15_2 + 1))) else (none)) else (none)) = some (r1, r2) := by first | (rw [hji11] at H; exact H) | (simp only [hji11] at H ⊢; exact H)
                  have hji11_ : (a0 / 2 ^ min (ji9).toNat 64) = ji11 := hji11
                  have hji11z : (ji9) ≤ 64 → (a0 / 2 ^ (ji9).toNat) = ji11 := shr_small hji11
                  by_cases c12 : 0 ≤ x15_2
                  · rw [if_pos c12] at H
                    have c12b0 : decide (0 ≤ x15_2) = true := decide_eq_true c12
                    clear c12
                    by_cases c13 : x15_2 < (x4_2.length : Int)
                    · rw [if_pos c13] at H
                      have c13b0 : decide (x15_2 < (x4_2.length : Int)) = true := decide_eq_true c13
                      clear c13
                      obtain ⟨y104, hy104⟩ : ∃ y_ : List Int, y_ = (x4_2.set (x15_2 : Int).toNat ((ji11) % 256)) := ⟨_, rfl⟩
                      replace H : (journal_Put.l0 k2 a0 y104 (wrap64 (x15_2 + 1))) = some (r1, r2) := by first | (rw [hy104]; with_reducible exact H) | (have H2_ := (Option.bind_some _ _).symm.trans H; rw [hy104]; with_reducible exact H2_) | (have H2_ := (Option.bind_some _ _).symm.trans H; with_reducible exact H2_) | with_reducible exact H | (rw [hy104]; exact H) | exact H
                      have Ny104 := Aside0.mk hy104
                      clear hy104
                      have H' := Aside0.mk H
                      clear H
                      have p14 : 0 ≤ (x15_2 : Int) := of_decide_eq_true (by first | (with_reducible assumption) | assumption)
                      have q14 : (x15_2 : Int) < ((x4_2.length : Int) : Int) := of_decide_eq_true (by first | (with_reducible assumption) | assumption)
                      obtain ⟨go14, co14, eo14, gb14, gl14, cl14, HG14⟩ := Kd.R_form HO_4.out (by omega)
                      (first | cases eo14 | (injection eo14 with ea_ en_ ec_; (first | subst ea_ | (injection ea_ with ea_; subst ea_)); subst ec_; clear en_))
                      have GB14 := Aside0.mk gb14
                      have GG14 := Aside0.mk HG14
                      clear gb14 gl14 HG14
                      obtain ⟨hx14_0, hf14_0⟩ := Kd.R_celln 0 HO_4.out (x15_2 : Int) p14 q14
                      replace p14 := eq_true p14
                      replace q14 := eq_true q14
                      have HP15 := Kd.R_putg HO_4.out (x15_2 : Int) ((ji11) % 256)
                      go_wp2_with (first | ((with_reducible refine gate_store (t := 5) (p := 27) rfl ?_); refine store_event (t := 5) (p := 27) (v := ?vo_w16) (w1 := (wr.setCell ⟨go14, (x15_2 : Int).toNat, none⟩ (.int .u8 ((ji11) % 256)))) ?hg ?ho ?hn ?hr ?_; (case ho => rfl); (case hg => rfl); (case hn => rfl); (case hr => first | (go_simp; done) | (go_simp; rfl)); intro w16 hw; have hg : wr.grownBy w16 (some go14) := (by rw [hw]; exact HP15.2); have hp_ : Kd.R (Kd.int .u8) 5 w16 w.heap.size (fun _ => True) (.slice (some ⟨go14, 0, none⟩) x4_2.length co14) y104 := (by rw [hw, Ny104.out]; exact HP15.1); clear HP15; have n0_ := Aside0.mk (hp_); have n1_ := Aside0.mk ((by rw [hw]; exact below_set (HB.out) GB14.out : Below w.heap.size w w16)); clear HO_4; clear HB; have HO_4 := n0_; have HB := n1_; clear n0_ n1_; clear hg hw hp_))
                      go_roundg k2
                      case measure => have := HJ1.out; have := HK2.out; omega
                      case rel => exact ⟨(y104), (wrap64 (x15_2 + 1)), (by first | rfl | (simp; done) | (simp [*]; done)), H', ⟨by have := HJ1.out; have := HK2.out; omega⟩, ⟨by (with_reducible repeat (first | apply Kd.R_alloc | apply Kd.R_drewN | apply Kd.R_drew)); exact HO_4.out⟩, ⟨by repeat (first | (with_reducible first | exact HB.out | apply below_alloc | apply pw_below_drewN | apply below_drew1) | exact HB.out)⟩⟩
                    · rw [if_neg c13] at H
                      exact absurd H (by simp)
                  · rw [if_neg c12] at H
                    exact absurd H (by simp)
                · rw [if_neg c10] at H
                  exact absurd H (by simp)
              · rw [if_neg c8] at H
                have c8b0 : decide (x15_2 < 8) = false := decide_eq_false c8
                clear c8
                by_cases c17 : 8 ≤ (x4_2.length : Int)
                · rw [if_pos c17] at H
                  have c17b0 := eq_true c17
                  have c17b1 : decide (8 ≤ (x4_2.length : Int)) = true := decide_eq_true c17
                  clear c17
                  obtain ⟨y105, hy105⟩ : ∃ y_ : List Int, y_ = (x4_2.take 8) := ⟨_, rfl⟩
                  replace H : ((crc_Sum.f y105).bind fun t109 => (journal_Put.l1 k2 x4_2 t109 0)) = some (r1, r2) := by first | (rw [hy105]; with_reducible exact H) | (have H2_ := (Option.bind_some _ _).symm.trans H; rw [hy105]; with_reducible exact H2_) | (have H2_ := (Option.bind_some _ _).symm.trans H; with_reducible exact H2_) | with_reducible exact H | (rw [hy105]; exact H) | exact H
                  have Ny105 := Aside0.mk hy105
                  clear hy105
                  replace H := Option.bind_eq_some_iff.mp H
                  obtain ⟨t109, A180, H⟩ := H
                  replace H : (journal_Put.l1 k2 x4_2 t109 0) = some (r1, r2) := H
                  have A18 := Aside0.mk A180
                  clear A180
                  have H' := Aside0.mk H
                  clear H
                  obtain ⟨Ao20, co20, eo20⟩ := Kd.R_slice HO_4.out
                  subst eo20
                  have q19 : (8 : Int) ≤ ((x4_2.length : Int) : Int) := of_decide_eq_true (by first | (with_reducible assumption) | assumption)
                  obtain ⟨i019, hi019, _, hsz19, _⟩ := info_parts info5
                  have hroom19 : x4_2.length ≤ co20 := (Kd.R_reads' HO_4.out).2.1
                  have hC19 : Kd.C (Kd.int .u8) _ Ao20 x4_2.length x4_2 := (Kd.R_reads' HO_4.out).2.2
                  have hcut19 := cut_to (P := Try.prog) 23 5 .i64 Try.underlying23 hi019 Ao20 x4_2.length co20 8 (by omega) q19 hroom19
                  have hr19 := Kd.C_take (m := 8) hC19 (by omega)
                  have hy19 : y105.length = (8 : Int).toNat := (by rw [Ny105.out, List.length_take]; omega)
                  rw [← Ny105.out] at hr19
                  rw [← hy19] at hcut19
                  have HR108 := Aside0.mk hr19
                  have HC108 := Aside0.mk (show y105.length ≤ co20 from by omega)
                  clear hr19 hC19 hroom19 hi019 hsz19
                  have KY19 := Aside0.mk hy19
                  clear hy19
                  have KL19 := Aside0.mk (show 8 ≤ x4_2.length from by omega)
                  replace q19 := eq_true q19
                  go_wp2_with (first | ((with_reducible refine gate_callee (f := 73) rfl ?_); refine goesL_ (some 31) rfl rfl Try.func73 (by kernel_rfl) rfl #[.slice Ao20 y105.length co20] rfl (by (try simp only [List.map_toArray, List.map_cons, List.map_nil]); first | done | rfl | (simp only [List.length_drop, List.length_take]; rfl)) ?_; (with_reducible refine (crc_Sum.calls _ _ y105 t109 _ ?side1 ?side2 A18.out).mono ?_); (case side1 => repeat (first | exact (by repeat (first | (with_reducible exact HR108.out) | (with_reducible refine Kd.C_alloc ?_ _) | (with_reducible refine Kd.C_drewN ?_ _) | (with_reducible refine Kd.C_drew ?_) | exact HR108.out)) | (with_reducible refine Kd.C_alloc ?_ _) | (with_reducible refine Kd.C_drewN ?_ _) | (with_reducible refine Kd.C_drew ?_))); (case side2 => exact HC108.out); rintro e w21 ⟨rfl, hb⟩; refine ⟨_, rfl, ?_⟩; have n0_ := Aside0.mk (Kd.R_below (by (with_reducible repeat (first | apply Kd.R_alloc | apply Kd.R_drewN | apply Kd.R_drew)); exact HO_4.out) hb); have n1_ := Aside0.mk (Kd.C_below (by repeat (first | (with_reducible exact HR108.out) | (with_reducible refine Kd.C_alloc ?_ _) | (with_reducible refine Kd.C_drewN ?_ _) | (with_reducible refine Kd.C_drew ?_) | exact HR108.out)) hb); have n2_ := Aside0.mk (below_step (by repeat (first | (with_reducible first | exact HB.out | apply below_alloc | apply pw_below_drewN | apply below_drew1) | exact HB.out)) hb); clear HO_4; clear HR108; clear HB; have HO_4 := n0_; have HR108 := n1_; have HB := n2_; clear n0_ n1_ n2_; (try clear hb); (try clear hb2); (try clear hk); (try clear hi)))
                  go_loopg [32] k2 (fun kq v32 w' => ∃ (x4_3 : List Int) (x32_3 : Int), v32 = .int .i64 x32_3 ∧ Aside0 (journal_Put.l1 kq x4_3 t109 x32_3 = some (r1, r2)) ∧ Aside0 (kq ≤ k2) ∧ Aside0 (Kd.R (Kd.int .u8) 5 w' w.heap.size (fun _ => True) (.slice Ao20 x4_2.length co20) x4_3) ∧ Aside0 (Below w.heap.size w w'))
                  case atStart => exact ⟨(x4_2), (0), (by first | rfl | (simp; done) | (simp [*]; done)), H', ⟨Nat.le_refl _⟩, ⟨by (with_reducible repeat (first | apply Kd.R_alloc | apply Kd.R_drewN | apply Kd.R_drew)); exact HO_4.out⟩, ⟨by repeat (first | (with_reducible first | exact HB.out | apply below_alloc | apply pw_below_drewN | apply below_drew1) | exact HB.out)⟩⟩
                  case round =>
                    clear H'
                    try clear c1
                    try clear p1
                    try clear q1
                    try clear hx1
                    try clear hf1
                    try clear p2
                    try clear c3
                    try clear c3b0
                    try clear c4
                    try clear c5
                    try clear c5b0
                    try clear c5b1
                    try clear p6
                    try clear c7
                    try clear c8
                    try clear c8b0
                    try clear c10
                    try clear c10b0
                    try clear c10b1
                    try clear c12
                    try clear c12b0
                    try clear c13
                    try clear c13b0
                    try clear c14
                    try clear p14
                    try clear q14
                    try clear hx14
                    try clear hf14
                    try clear c17
                    try clear c17b0
                    try clear c17b1
                    try clear q19
                    try clear hx14_0
                    try clear p14
                    try clear p2
                    try clear q14
                    try clear q19
                    obtain ⟨x4_3, x32_3, rfl, HA, HK3, HO_4, HB⟩ := hrel
                    have hl4_3 := (Kd.R_reads' HO_4.out).1
                    rw [hl4_3] at HO_4
                    (try simp only [hl4_3])
                    cases gk with
                    | zero => exact absurd HA.out (by simp [journal_Put.l1])
                    | succ k3 =>
                      have H := HA.out
                      clear HA
                      simp only [journal_Put.l1] at H
                      by_cases c22 : x32_3 < 4
                      · rw [if_pos c22] at H
                        have c22b0 : decide (x32_3 < 4) = true := decide_eq_true c22
                        clear c22
                        obtain ⟨ji23, hji23⟩ : ∃ j_ : Int, (IntKind.u64.wrap (wrap64 (24 - (wrap64 (8 * x32_3))))) = j_ := ⟨_, rfl⟩
                        replace H : (if 0 ≤ (ji23) then (if 0 ≤ (wrap64 (8 + x32_3)) then (if (wrap64 (8 + x32_3)) < (x4_3.length : Int) then (journal_Put.l1 k3 (x4_3.set ((wrap64 (8 + x32_3)) : Int).toNat ((shr .u32 t109 (ji23)) % 256)) t109 (wrap64 (x32_3 + 1))) else (none)) else (none)) else (none)) = some (r1, r2) := by first | (rw [hji23] at H; exact H) | (simp only [hji23] at H ⊢; exact H)
                        by_cases c24 : 0 ≤ (ji23)
                        · rw [if_pos c24] at H
                          have c24b0 := eq_true c24
                          have c24b1 : decide (0 ≤ (ji23)) = true := decide_eq_true c24
                          clear c24
                          obtain ⟨ji25, hji25⟩ : ∃ j_ : Int, (shr .u32 t109 (ji23)) = j_ := ⟨_, rfl⟩
                          replace H : (if 0 ≤ (wrap64 (8 + x32_3)) then (if (wrap64 (8 + x32_3)) < (x4_3.length : Int) then (journal_Put.l1 k3 (x4_3.set ((wrap64 (8 + x32_3)) : Int).toNat ((ji25) % 256)) t109 (wrap64 (x32_3 + 1))) else (none)) else (none)) = some (r1, r2) := by first | (rw [hji25] at H; exact H) | (simp only [hji25] at H ⊢; exact H)
                          have hji25_ : (t109 / 2 ^ min (ji23).toNat 32) = ji25 := hji25
                          have hji25z : (ji23) ≤ 32 → (t109 / 2 ^ (ji23).toNat) = ji25 := shr_small hji25
                          obtain ⟨ji26, hji26⟩ : ∃ j_ : Int, (wrap64 (8 + x32_3)) = j_ := ⟨_, rfl⟩
                          replace H : (if 0 ≤ (ji26) then (if (ji26) < (x4_3.length : Int) then (journal_Put.l1 k3 (x4_3.set ((ji26) : Int).toNat ((ji25) % 256)) t109 (wrap64 (x32_3 + 1))) else (none)) else (none)) = some (r1, r2) := by first | (rw [hji26] at H; exact H) | (simp only [hji26] at H ⊢; exact H)
                          have hji26w : (IntKind.i64.wrap (8 + x32_3)) = ji26 := (i64_w _).trans hji26
                          by_cases c27 : 0 ≤ (ji26)
                          · rw [if_pos c27] at H
                            have c27b0 : decide (0 ≤ (ji26)) = true := decide_eq_true c27
                            clear c27
                            by_cases c28 : (ji26) < (x4_3.length : Int)
                            · rw [if_pos c28] at H
                              have c28b0 : decide ((ji26) < (x4_3.length : Int)) = true := decide_eq_true c28
                              clear c28
                              obtain ⟨y110, hy110⟩ : ∃ y_ : List Int, y_ = (x4_3.set ((ji26) : Int).toNat ((ji25) % 256)) := ⟨_, rfl⟩
                              replace H : (journal_Put.l1 k3 y110 t109 (wrap64 (x32_3 + 1))) = some (r1, r2) := by first | (rw [hy110]; with_reducible exact H) | (have H2_ := (Option.bind_some _ _).symm.trans H; rw [hy110]; with_reducible exact H2_) | (have H2_ := (Option.bind_some _ _).symm.trans H; with_reducible exact H2_) | with_reducible exact H | (rw [hy110]; exact H) | exact H
                              have Ny110 := Aside0.mk hy110
                              clear hy110
                              have H' := Aside0.mk H
                              clear H
                              have p29 : 0 ≤ ((ji26) : Int) := of_decide_eq_true (by first | (with_reducible assumption) | assumption)
                              have q29 : ((ji26) : Int) < ((x4_3.length : Int) : Int) := of_decide_eq_true (by first | (with_reducible assumption) | assumption)
                              obtain ⟨go29, co29, eo29, gb29, gl29, cl29, HG29⟩ := Kd.R_form HO_4.out (by omega)
                              (first | cases eo29 | (injection eo29 with ea_ en_ ec_; (first | subst ea_ | (injection ea_ with ea_; subst ea_)); subst ec_; clear en_))
                              have GB29 := Aside0.mk gb29
                              have GG29 := Aside0.mk HG29
                              clear gb29 gl29 HG29
                              obtain ⟨hx29_0, hf29_0⟩ := Kd.R_celln 0 HO_4.out ((ji26) : Int) p29 q29
                              replace p29 := eq_true p29
                              replace q29 := eq_true q29
                              have HP30 := Kd.R_putg HO_4.out ((ji26) : Int) ((ji25) % 256)
                              go_wp2_with (first | ((with_reducible refine gate_store (t := 5) (p := 45) rfl ?_); refine store_event (t := 5) (p := 45) (v := ?vo_w31) (w1 := (wr.setCell ⟨go29, ((ji26) : Int).toNat, none⟩ (.int .u8 ((ji25) % 256)))) ?hg ?ho ?hn ?hr ?_; (case ho => rfl); (case hg => rfl); (case hn => rfl); (case hr => first | (go_simp; done) | (go_simp; rfl)); intro w31 hw; have hg : wr.grownBy w31 (some go29) := (by rw [hw]; exact HP30.2); have hp_ : Kd.R (Kd.int .u8) 5 w31 w.heap.size (fun _ => True) (.slice (some ⟨go29, 0, none⟩) x4_3.length co20) y110 := (by rw [hw, Ny110.out]; exact HP30.1); clear HP30; have n0_ := Aside0.mk (hp_); have n1_ := Aside0.mk ((by rw [hw]; exact below_set (HB.out) GB29.out : Below w.heap.size w w31)); clear HO_4; clear HB; have HO_4 := n0_; have HB := n1_; clear n0_ n1_; clear hg hw hp_))
                              (try simp only [← hl4_3])
                              go_roundg k3
                              case measure => have := HJ1.out; have := HK2.out; have := HK3.out; omega
                              case rel => exact ⟨(y110), (wrap64 (x32_3 + 1)), (by first | rfl | (simp; done) | (simp [*]; done)), H', ⟨by have := HJ1.out; have := HK2.out; have := HK3.out; omega⟩, ⟨by (try simp only [hl4_3]); (with_reducible repeat (first | apply Kd.R_alloc | apply Kd.R_drewN | apply Kd.R_drew)); exact HO_4.out⟩, ⟨by repeat (first | (with_reducible first | exact HB.out | apply below_alloc | apply pw_below_drewN | apply below_drew1) | exact HB.out)⟩⟩
                            · rw [if_neg c28] at H
                              exact absurd H (by simp)
                          · rw [if_neg c27] at H
                            exact absurd H (by simp)
                        · rw [if_neg c24] at H
                          exact absurd H (by simp)
                      · rw [if_neg c22] at H
                        have c22b0 : decide (x32_3 < 4) = false := decide_eq_false c22
                        clear c22
                        simp only [Option.some.injEq, Prod.mk.injEq] at H
                        obtain ⟨rfl, rfl⟩ := H
                        go_wp2
                        go_ret2
                        exact ⟨_, by first | rfl | (simp [errW_none, errW_some] <;> rfl) | (simp [*, errW_none, errW_some] <;> rfl), by (with_reducible repeat (first | apply Kd.R_alloc | apply Kd.R_drewN | apply Kd.R_drew)); exact HO_4.out, by repeat (first | (with_reducible first | exact HB.out | apply below_alloc | apply pw_below_drewN | apply below_drew1) | exact HB.out)⟩
                · rw [if_neg c17] at H
                  exact absurd H (by simp)
        · rw [if_neg c5] at H
          exact absurd H (by simp)

/-! ### bytes_Equal: function 74 -/
def bytes_Equal.f (l0 : List Int) (l1 : List Int) : Option (Bool) := some ((strOfNums l0).toList == (strOfNums l1).toList)
set_option maxHeartbeats 8000000 in
set_option maxRecDepth 100000 in
theorem bytes_Equal.calls (A0 : Option Addr) (c0 : Nat) (l0 : List Int) (A1 : Option Addr) (c1 : Nat) (l1 : List Int) (r : Bool) (w : World) (hr0 : Kd.C (Kd.int .u8) w A0 l0.length l0) (hc0 : l0.length ≤ c0) (hr1 : Kd.C (Kd.int .u8) w A1 l1.length l1) (hc1 : l1.length ≤ c1) (h : bytes_Equal.f l0 l1 = some r) :
    Calls Try.prog 74 #[.slice A0 l0.length c0, .slice A1 l1.length c1] w fun e w' => e = .returned (.bool r) ∧ Drawn0 w w' := by
  have HR0 := Aside0.mk hr0
  have HC0 := Aside0.mk hc0
  clear hr0 hc0
  have HR1 := Aside0.mk hr1
  have HC1 := Aside0.mk hc1
  clear hr1 hc1
  have H : (some ((strOfNums l0).toList == (strOfNums l1).toList)) = some r := h
  clear h
  obtain rfl := Option.some.inj H
  have hcv3 := Kd.C_string (P := Try.prog) (A := A0) (c := c0) Try.underlying23 Try.underlying5 Try.underlying9 HR0.out
  have hcw3 := fun (m_ n_ : Nat) => Kd.C_string (P := Try.prog) (A := A0) (c := c0) Try.underlying23 Try.underlying5 Try.underlying9 (Kd.C_drewN (Kd.C_drewN HR0.out m_) n_)
  have hcx3 := fun (m_ : Nat) => Kd.C_string (P := Try.prog) (A := A0) (c := c0) Try.underlying23 Try.underlying5 Try.underlying9 (Kd.C_drewN HR0.out m_)
  have hcv4 := Kd.C_string (P := Try.prog) (A := A1) (c := c1) Try.underlying23 Try.underlying5 Try.underlying9 HR1.out
  have hcw4 := fun (m_ n_ : Nat) => Kd.C_string (P := Try.prog) (A := A1) (c := c1) Try.underlying23 Try.underlying5 Try.underlying9 (Kd.C_drewN (Kd.C_drewN HR1.out m_) n_)
  have hcx4 := fun (m_ : Nat) => Kd.C_string (P := Try.prog) (A := A1) (c := c1) Try.underlying23 Try.underlying5 Try.underlying9 (Kd.C_drewN HR1.out m_)
  go_enter Try.func74, Try.ntmps74
  go_wp2
  go_ret
  exact ⟨by first | rfl | (simp; done) | (simp [*]; done), by repeat (first | exact Drawn0.refl _ | apply Drawn0.step)⟩

end Go.Proofs.Ytkkikdjfigffhab.XJoB
