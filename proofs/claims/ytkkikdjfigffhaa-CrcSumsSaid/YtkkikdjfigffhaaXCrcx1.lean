-- By a program of this work (xprint.py) over the translation; Lean checks it.
import Derived.Test.YtkkikdjfigffhaaXCrcx0
namespace Go.Proofs.Ytkkikdjfigffhaa.XCrc
open Go.RowKit Go.Proofs.YtkkikdjfigffhaaW.PrintWords Go.Proofs.YtkkikdjfigffhaaW.PrintLast Go.Proofs.YtkkikdjfigffhaaW.PrintMore
attribute [local go_sem] max2_int min2_int max_two min_two max_three min_three max_four min_four   -- for this text's walks alone
set_option linter.unusedVariables false
set_option linter.unusedSimpArgs false

-- NOT PRINTED: function 91 (atomic_LoadUint32)

-- NOT PRINTED: function 89 (atomic_Bool_Load)

-- NOT PRINTED: function 99 (race_Disable)

-- NOT PRINTED: function 100 (atomic_CompareAndSwapInt32)

-- NOT PRINTED: function 101 (race_Enable)

-- NOT PRINTED: function 102 (race_Acquire)

-- NOT PRINTED: function 105 (atomic_AddInt32)

-- NOT PRINTED: function 107 (sync_runtime_canSpin)

-- NOT PRINTED: function 108 (sync_runtime_doSpin)

-- NOT PRINTED: function 109 (sync_throw)

-- NOT PRINTED: function 110 (sync_runtime_nanotime)

-- NOT PRINTED: function 111 (sync_runtime_SemacquireMutex)

-- NOT PRINTED: function 103 (sync_Mutex_lockSlow)

-- NOT PRINTED: function 95 (sync_Mutex_Lock_95)

-- NOT PRINTED: function 92 (sync_Mutex_Lock_92)

-- NOT PRINTED: function 104 (race_ReleaseMerge)

-- NOT PRINTED: function 112 (sync_fatal)

-- NOT PRINTED: function 113 (sync_runtime_Semrelease)

-- NOT PRINTED: function 106 (sync_Mutex_unlockSlow)

-- NOT PRINTED: function 96 (sync_Mutex_Unlock_96)

-- NOT PRINTED: function 93 (sync_Mutex_Unlock_93)

-- NOT PRINTED: function 97 (atomic_StoreUint32)

/-! ### atomic_b32: function 98 -/
def atomic_b32.f (a0 : Bool) : Option (Int) := if a0 = true then (some 1) else (some 0)
set_option maxHeartbeats 8000000 in
set_option maxRecDepth 100000 in
theorem atomic_b32.calls (a0 : Bool) (r : Int) (w : World) (h : atomic_b32.f a0 = some r) :
    Calls Try.prog 98 #[.bool a0] w fun e w' => e = .returned (.int .u32 r) ∧ Drawn0 w w' := by
  have H : (if a0 = true then (some 1) else (some 0)) = some r := h
  clear h
  by_cases c2 : a0 = true
  · subst c2
    have H1 : (some 1) = some r := by rw [if_pos rfl] at H; exact H
    clear H
    have H := H1
    clear H1
    obtain rfl := Option.some.inj H
    go_enter Try.func98, Try.ntmps98
    go_wp2
    go_ret
    exact ⟨by first | rfl | (simp; done) | (simp [*]; done), by repeat (first | exact Drawn0.refl _ | apply Drawn0.step)⟩
  · replace c2 := Bool.eq_false_iff.mpr c2
    subst c2
    have H1 : (some 0) = some r := by rw [if_neg (show ¬ (false = true) by decide)] at H; exact H
    clear H
    have H := H1
    clear H1
    obtain rfl := Option.some.inj H
    go_enter Try.func98, Try.ntmps98
    go_wp2
    go_ret
    exact ⟨by first | rfl | (simp; done) | (simp [*]; done), by repeat (first | exact Drawn0.refl _ | apply Drawn0.step)⟩

-- NOT PRINTED: function 94 (atomic_Bool_Store)

-- NOT PRINTED: function 90 (sync_Once_doSlow)

-- NOT PRINTED: function 86 (sync_Once_Do)

-- NOT PRINTED: function 87 (crc_steps_make)

-- NOT PRINTED: function 77 (crc_steps_of)

/-! ### crc_More: function 45 -/
/-- One bit's step of the register. -/
def crcStep (c : Nat) : Nat := if c % 2 = 1 then (c / 2) ^^^ 3988292384 else c / 2
def crcSteps : Nat → Nat → Nat
  | 0, c => c
  | n + 1, c => crcStep (crcSteps n c)
theorem crcStep_lt {c : Nat} (h : c < 4294967296) : crcStep c < 4294967296 := by
  unfold crcStep
  split
  · exact Nat.xor_lt_two_pow (n := 32) (by omega) (by omega)
  · omega
theorem crcSteps_lt (n : Nat) {c : Nat} (h : c < 4294967296) : crcSteps n c < 4294967296 := by
  induction n with
  | zero => exact h
  | succ n ih => exact crcStep_lt ih
def crcTab (i : Nat) : Nat := crcSteps 8 i
theorem u32_wraps (n : Int) (h0 : 0 ≤ n) (h1 : n < 2 ^ 32) : IntKind.u32.wrap n = n := by rw [IntKind.wrap_u32]; omega
theorem u32_and1 (c : Nat) (h : c < 4294967296) : bits .and .u32 (c : Int) 1 = ((c % 2 : Nat) : Int) := by
  have h1 := (bits_nat .u32 32 (by decide) u32_wraps c 1 h (by decide)).1
  rw [Nat.and_one_is_mod] at h1
  exact h1
theorem u32_xor (a b : Nat) (ha : a < 4294967296) (hb : b < 4294967296) : bits .xor .u32 (a : Int) (b : Int) = ((a ^^^ b : Nat) : Int) := by
  have ha' : a % 2 ^ 32 = a := Nat.mod_eq_of_lt ha
  have hb' : b % 2 ^ 32 = b := Nat.mod_eq_of_lt hb
  have hx : a ^^^ b < 2 ^ 32 := Nat.xor_lt_two_pow ha hb
  simp only [bits, IntKind.bits, BitVec.ofInt_natCast]
  show IntKind.u32.wrap (((BitVec.ofNat 32 a ^^^ BitVec.ofNat 32 b : BitVec 32).toNat : Nat) : Int) = _
  rw [BitVec.toNat_xor, BitVec.toNat_ofNat, BitVec.toNat_ofNat, ha', hb']
  exact u32_wraps _ (Int.natCast_nonneg _) (by exact_mod_cast hx)
theorem crcStep_odd (c : Nat) (h : c < 4294967296) (ho : c % 2 = 1) : bits .xor .u32 ((c : Int) / 2) 3988292384 = ((crcStep c : Nat) : Int) := by
  have h1 := u32_xor (c / 2) 3988292384 (by omega) (by omega)
  unfold crcStep
  rw [if_pos ho, ← h1]
  rfl
theorem crcStep_even (c : Nat) (ho : c % 2 = 0) : (c : Int) / 2 = ((crcStep c : Nat) : Int) := by
  unfold crcStep
  rw [if_neg (by omega)]
  rfl
set_option maxHeartbeats 4000000 in
set_option maxRecDepth 100000 in
theorem crc_make (g : Nat) (cs : Array Value) (w : World) (hb : w.heap[g]? = some (.cells cs 121 (0, 0))) (hs : cs.size = 259) :
    Calls Try.prog 87 #[.pointer (some ⟨g, 0, none⟩)] w fun e w' => e = .returned (.tuple #[]) ∧ ∃ cs' : Array Value, w'.heap[g]? = some (.cells cs' 121 (0, 0)) ∧ cs'.size = 259 ∧ (∀ j, j < 3 → cs'[j]? = cs[j]?) ∧ (∀ j, j < 256 → cs'[3 + j]? = some (.int .u32 (crcTab j : Nat))) ∧ Below g w w' := by
  have HB := Aside0.mk hb
  have HS := Aside0.mk hs
  clear hb hs
  go_enter Try.func87, Try.ntmps87
  go_wp2
  go_loopw [4] (fun v4 wr => ∃ i : Nat, i ≤ 256 ∧ v4 = .int .i64 i ∧ Aside0 (∃ cs' : Array Value, wr.heap[g]? = some (.cells cs' 121 (0, 0)) ∧ cs'.size = 259 ∧ (∀ j, j < 3 → cs'[j]? = cs[j]?) ∧ (∀ j, j < i → cs'[3 + j]? = some (.int .u32 (crcTab j : Nat))) ∧ Below g w wr)) (fun v4 _ => 256 - (intOf v4).toNat)
  case atStart => exact ⟨0, by omega, rfl, ⟨cs, HB.out, HS.out, fun _ _ => rfl, fun j h => by omega, Below.refl _ _⟩⟩
  case round =>
    obtain ⟨i, hi, rfl, HI⟩ := hrel
    by_cases hlt : i < 256
    · go_wp2
      go_loop [3, 9] (fun v3 v9 => ∃ n : Nat, n ≤ 8 ∧ v9 = .int .i64 n ∧ v3 = .int .u32 (crcSteps n i : Nat)) (fun _ v9 => 8 - (intOf v9).toNat)
      case atStart => exact ⟨0, by omega, rfl, rfl⟩
      case round =>
        obtain ⟨n, hn, rfl, rfl⟩ := hrel
        have hc : crcSteps n i < 4294967296 := crcSteps_lt n (by omega)
        generalize hcc : crcSteps n i = c at *
        have HC := Aside0.mk hcc
        clear hcc
        by_cases hn8 : n < 8
        · have hn0 : decide ((n : Int) < 8) = true := decide_eq_true (by omega)
          have HN8 := Aside0.mk hn8
          by_cases hodd : c % 2 = 1
          · have hb1 : (bits BinOp.and IntKind.u32 (c : Int) 1 == 1) = true := by rw [u32_and1 c hc, hodd]; rfl
            have HO := Aside0.mk hodd
            clear hodd
            go_wp2
            go_round
            case rel => exact ⟨n + 1, by omega, by go_num, by rw [crcStep_odd c hc HO.out, ← HC.out]; rfl⟩
            case measure => have := HN8.out; simp [intOf]; omega
          · have hb1 : (bits BinOp.and IntKind.u32 (c : Int) 1 == 1) = false := by
              rw [u32_and1 c hc, show c % 2 = 0 by omega]; rfl
            have HO := Aside0.mk (show c % 2 = 0 by omega)
            clear hodd
            go_wp2
            go_round
            case rel => exact ⟨n + 1, by omega, by go_num, by rw [crcStep_even c HO.out, ← HC.out]; rfl⟩
            case measure => have := HN8.out; simp [intOf]; omega
        · have hn0 : decide ((n : Int) < 8) = false := decide_eq_false (by omega)
          have e8 : n = 8 := by omega
          have HE := Aside0.mk (show (crcTab i : Nat) = c by unfold crcTab; rw [← e8]; exact HC.out)
          obtain ⟨cs', hcb, hcs, hc3, hct, hk⟩ := HI.out
          have hcell : wr.cell? ⟨g, 3 + i, none⟩ = some (cs'[3 + i]'(by omega)) := (blk_cell hcb (3 + i)).trans (Array.getElem?_eq_getElem (by omega))
          have hfz := blk_frozen hcb (3 + i)
          have HCB := Aside0.mk hcb
          have HCS := Aside0.mk hcs
          have HC3 := Aside0.mk hc3
          have HCT := Aside0.mk hct
          have HK := Aside0.mk hk
          generalize cs'[3 + i]'(by omega) = old at hcell
          clear hcb hcs hc3 hct hk e8
          go_wp2
          go_roundw
          case rel => exact ⟨i + 1, by omega, by go_num, ⟨_, blk_set HCB.out (3 + i) _, by simp [HCS.out], fun j hj => by
              rw [Array.getElem?_setIfInBounds_ne (by omega)]; exact HC3.out j hj, fun j hj => by
              by_cases hji : j = i
              · subst hji
                rw [Array.getElem?_setIfInBounds_self_of_lt (by have := HCS.out; omega), HE.out]
              · rw [Array.getElem?_setIfInBounds_ne (by omega)]; exact HCT.out j (by omega), Below.setCell HK.out (Nat.le_refl _) _⟩⟩
          case measure => simp [intOf]; omega
    · go_wp2
      go_end0
      obtain ⟨cs', hcb, hcs, hc3, hct, hk⟩ := HI.out
      exact ⟨rfl, cs', hcb, hcs, hc3, fun j hj => hct j (by omega), hk⟩
theorem crc_disable (w : World) : (callFunc 99 #[]).run Try.prog w = .ok (.value (.tuple #[])) w := run_call_mark0 Try.func99 (by kernel_rfl) (by kernel_rfl) (by kernel_rfl) .disable (by kernel_rfl) w
theorem crc_enable (w : World) : (callFunc 101 #[]).run Try.prog w = .ok (.value (.tuple #[])) w := run_call_mark0 Try.func101 (by kernel_rfl) (by kernel_rfl) (by kernel_rfl) .enable (by kernel_rfl) w
theorem crc_acquire (a : Addr) (w : World) : (callFunc 102 #[.pointer (some a)]).run Try.prog w = .ok (.value (.tuple #[])) w := run_call_marked Try.func102 (by kernel_rfl) (by kernel_rfl) (by kernel_rfl) .acquire (by kernel_rfl) a w
theorem crc_release (a : Addr) (w : World) : (callFunc 104 #[.pointer (some a)]).run Try.prog w = .ok (.value (.tuple #[])) w := run_call_marked Try.func104 (by kernel_rfl) (by kernel_rfl) (by kernel_rfl) .releaseMerge (by kernel_rfl) a w
set_option maxRecDepth 100000 in
set_option maxHeartbeats 1600000 in
theorem crc_store_deferred (a : Addr) (x : Value) (u : FrameMode) (w : World) (hc : w.cell? a = some x) (hz : w.frozen? a = false) :
    CallsD Try.prog 94 #[.pointer (some a), .bool true] u w fun e u' w' => u' = u ∧ (e = .returned (.tuple #[]) ∧ w' = w.drew.setCell a (.int .u32 1)) := by
  have hc' : w.drew.cell? a = some x := by go_simp
  have hz' : w.drew.frozen? a = false := by go_simp
  have hst := run_call_store (P := Try.prog) Try.func97 (by kernel_rfl) (by kernel_rfl) (by kernel_rfl) (by kernel_rfl) (k := .u32) (y := 1) hc' hz'
  go_enter_d Try.func94, Try.ntmps94
  go_wp2
  go_region_calls
  all_goals (go_end0; exact ⟨rfl, rfl⟩)
set_option maxRecDepth 100000 in
set_option maxHeartbeats 1600000 in
theorem crc_unlock_deferred (a : Addr) (u : FrameMode) (w : World) (hc : w.cell? a = some (.int .i32 1)) (hz : w.frozen? a = false) :
    CallsD Try.prog 93 #[.pointer (some a)] u w fun e u' w' => u' = u ∧ (e = .returned (.tuple #[]) ∧ w' = w.setCell a (.int .i32 0)) := by
  have hd := crc_disable
  have he := crc_enable
  have hr := crc_release
  have hadd := run_call_add (P := Try.prog) Try.func105 (by kernel_rfl) (by kernel_rfl) (by kernel_rfl) .i32 (by kernel_rfl) (y := -1) (s := 0) hc hz (by simp [go_sem]; rfl)
  have hcv := run_convert_to_unsafe (P := Try.prog) (src := 140) (dst := 144) Try.underlying140 Try.underlying144 (by kernel_rfl) hc
  go_enter_d Try.func93, Try.ntmps93
  go_wp2
  go_end0
  go_wp2
  go_end0
  exact ⟨rfl, rfl⟩
set_option maxRecDepth 100000 in
set_option maxHeartbeats 1600000 in
theorem crc_lock_free (a : Addr) (w : World) (hc : w.cell? a = some (.int .i32 0)) (hz : w.frozen? a = false) :
    Calls Try.prog 92 #[.pointer (some a)] w fun e w' => e = .returned (.tuple #[]) ∧ w' = w.setCell a (.int .i32 1) := by
  have hd := crc_disable
  have he := crc_enable
  have ha := crc_acquire
  have hcas := run_call_cas_hit (P := Try.prog) Try.func100 (by kernel_rfl) (by kernel_rfl) (by kernel_rfl) .i32 (by kernel_rfl) (y := 1) hc hz
  have hc' : (w.setCell a (.int .i32 1)).cell? a = some (.int .i32 1) := World.cell?_setCell_same w a _ hc
  have hcv := run_convert_to_unsafe (P := Try.prog) (src := 140) (dst := 144) Try.underlying140 Try.underlying144 (by kernel_rfl) hc'
  go_enter Try.func92, Try.ntmps92
  go_wp2
  first | go_end0 | (simp only [Exit.inBlock, Exit.then]; refine bodyPost_ret (results_none rfl _ _ _) rfl ?_) | refine bodyPost_ret (results_none rfl _ _ _) rfl ?_
  go_wp2
  go_end0
  exact ⟨rfl, rfl⟩
/-- What the table's block holds when the table has been made. -/
def CrcDone (w : World) (g : Nat) : Prop := ∃ cs : Array Value, w.heap[g]? = some (.cells cs 121 (0, 0)) ∧ cs.size = 259 ∧ cs[0]? = some (.int .u32 1) ∧ ∀ j, j < 256 → cs[3 + j]? = some (.int .u32 (crcTab j : Nat))
def CrcFresh (w : World) (g : Nat) : Prop := ∃ cs : Array Value, w.heap[g]? = some (.cells cs 121 (0, 0)) ∧ cs.size = 259 ∧ cs[0]? = some (.int .u32 0) ∧ cs[1]? = some (.int .i32 0)
def CrcSlowPost (w : World) (g : Nat) (e : Ending) (w' : World) : Prop := e = .returned (.tuple #[]) ∧ CrcDone w' g ∧ Below g w w'
set_option maxRecDepth 100000 in
set_option maxHeartbeats 1600000 in
theorem crc_slow (g : Nat) (w : World) (hf : CrcFresh w g) :
    Calls Try.prog 90 #[.pointer (some ⟨g, 0, none⟩), .func (.func 87) #[.pointer (some ⟨g, 0, none⟩)] #[]] w (CrcSlowPost w g) := by
  obtain ⟨cs, hb, hs, h0, h1⟩ := hf
  have c0 : w.cell? ⟨g, 0, none⟩ = some (.int .u32 0) := (blk_cell hb 0).trans h0
  have c1 : w.cell? ⟨g, 1, none⟩ = some (.int .i32 0) := (blk_cell hb 1).trans h1
  have f0 := blk_frozen hb 0
  have f1 := blk_frozen hb 1
  have hb1 := blk_set hb 1 (.int .i32 1)
  have hm := crc_make g _ (w.setCell ⟨g, 1, none⟩ (.int .i32 1)) hb1 (by simp [hs])
  have HM := Aside0.mk hm
  have HBB := Aside0.mk hb1
  have HS := Aside0.mk hs
  have H0 := Aside0.mk h0
  have H1 := Aside0.mk h1
  clear hb hb1 hm h0 h1 hs
  have hl := run_call_load (P := Try.prog) Try.func91 (by kernel_rfl) (by kernel_rfl) (by kernel_rfl) .u32 (by kernel_rfl) (w := w.setCell ⟨g, 1, none⟩ (.int .i32 1)) (a := ⟨g, 0, none⟩) (x := 0) ((World.cell?_setCell_other _ ⟨g, 1, none⟩ ⟨g, 0, none⟩ _ (by simp)).trans c0)
  have hnot : ∀ (x : Bool) (w : World), (Op.unary .not (.bool x)).run Try.prog w = .ok (.bool (!x)) w := fun _ _ => rfl
  go_enter_defers Try.func90, Try.ntmps90
  go_wp2_with (first | (go_at_call 89; go_in) | (go_at_call 92; refine (crc_lock_free ⟨g, 1, none⟩ _ (by go_simp) (by go_simp)).mono ?_; rintro e w' ⟨rfl, rfl⟩) | (go_at_call 87; refine HM.out.mono ?_; rintro e w2 ⟨rfl, hpost⟩; have HP := Aside0.mk hpost; clear hpost))
  obtain ⟨cs2, hb2, hs2, h2, ht2, hk2⟩ := HP.out
  have d0 : w2.cell? ⟨g, 0, none⟩ = some (.int .u32 0) := (blk_cell hb2 0).trans ((h2 0 (by omega)).trans (by rw [Array.getElem?_setIfInBounds_ne (by omega)]; exact H0.out))
  have d1 : w2.cell? ⟨g, 1, none⟩ = some (.int .i32 1) := (blk_cell hb2 1).trans ((h2 1 (by omega)).trans (Array.getElem?_setIfInBounds_self_of_lt (by have := HS.out; omega)))
  refine leaves_cons (f := 94) (args := #[.pointer (some ⟨g, 0, none⟩), .bool true]) (by simp) (by simp [go_sem]) ?_
  refine (crc_store_deferred ⟨g, 0, none⟩ (.int .u32 0) .returning _ d0 (blk_frozen hb2 0)).mono ?_
  rintro e u' w'' ⟨rfl, rfl, rfl⟩
  refine leaves_cons (f := 93) (args := #[.pointer (some ⟨g, 1, none⟩)]) (by simp [settle]) (by simp [go_sem]) ?_
  have hb3 : (w2.drew.setCell ⟨g, 0, none⟩ (.int .u32 1)).heap[g]? = some (.cells (cs2.setIfInBounds 0 (.int .u32 1)) 121 (0, 0)) := blk_set (w := w2.drew) hb2 0 _
  refine (crc_unlock_deferred ⟨g, 1, none⟩ _ _ ((World.cell?_setCell_other _ ⟨g, 0, none⟩ ⟨g, 1, none⟩ _ (by simp)).trans (by rw [World.cell?_drew]; exact d1)) (blk_frozen hb3 1)).mono ?_
  rintro e u' w'' ⟨rfl, rfl, rfl⟩
  have hb4 := blk_set hb3 1 (.int .i32 0)
  have hfin : CrcSlowPost w g (.returned (.tuple #[])) ((w2.drew.setCell ⟨g, 0, none⟩ (.int .u32 1)).setCell ⟨g, 1, none⟩ (.int .i32 0)) := by
    refine ⟨rfl, ⟨_, hb4, by simp [hs2], ?_, fun j hj => ?_⟩, ?_⟩
    · rw [Array.getElem?_setIfInBounds_ne (by omega), Array.getElem?_setIfInBounds_self_of_lt (by omega)]
    · rw [Array.getElem?_setIfInBounds_ne (by omega), Array.getElem?_setIfInBounds_ne (by omega)]; exact ht2 j hj
    · have k1 : Below g w w2 := Below.trans (Below.setCell (Below.refl g w) (Nat.le_refl _) _) hk2
      have k2 : Below g w w2.drew := k1.drew
      exact Below.setCell (Below.setCell k2 (Nat.le_refl _) _) (Nat.le_refl _) _
  simpa [Leaves, settle, results, Try.results90] using hfin
set_option maxRecDepth 100000 in
set_option maxHeartbeats 1600000 in
theorem crc_do_first (g : Nat) (w : World) (hf : CrcFresh w g) :
    Calls Try.prog 86 #[.pointer (some ⟨g, 0, none⟩), .func (.func 87) #[.pointer (some ⟨g, 0, none⟩)] #[]] w (CrcSlowPost w g) := by
  have HS := Aside0.mk (crc_slow g w hf)
  obtain ⟨cs, hb, hs, h0, h1⟩ := hf
  have c0 : w.cell? ⟨g, 0, none⟩ = some (.int .u32 0) := (blk_cell hb 0).trans h0
  clear hb hs h0 h1
  have hl := run_call_load (P := Try.prog) Try.func91 (by kernel_rfl) (by kernel_rfl) (by kernel_rfl) .u32 (by kernel_rfl) c0
  have hnot : ∀ (x : Bool) (w : World), (Op.unary .not (.bool x)).run Try.prog w = .ok (.bool (!x)) w := fun _ _ => rfl
  go_enter Try.func86, Try.ntmps86
  go_wp2_with (first | (go_at_call 90; refine HS.out.mono ?_; rintro e w' ⟨rfl, hp⟩; have HP := Aside0.mk hp; clear hp) | (go_at_call 89; go_in))
  go_end0
  exact ⟨rfl, HP.out⟩
theorem crc_do_done (g : Nat) (fv : Value) (w : World) (hd : CrcDone w g) :
    Calls Try.prog 86 #[.pointer (some ⟨g, 0, none⟩), fv] w fun e w' => e = .returned (.tuple #[]) ∧ w = w' := by
  obtain ⟨cs, hb, hs, h0, h1⟩ := hd
  have c0 : w.cell? ⟨g, 0, none⟩ = some (.int .u32 1) := (blk_cell hb 0).trans h0
  clear hb hs h0 h1
  have hl := run_call_load (P := Try.prog) Try.func91 (by kernel_rfl) (by kernel_rfl) (by kernel_rfl) .u32 (by kernel_rfl) c0
  have hnot : ∀ (x : Bool) (w : World), (Op.unary .not (.bool x)).run Try.prog w = .ok (.bool (!x)) w := fun _ _ => rfl
  go_enter Try.func86, Try.ntmps86
  go_wp2
  go_end0
  exact ⟨rfl, rfl⟩
theorem CrcDone.drew {w : World} {g : Nat} (h : CrcDone w g) : CrcDone w.drew g := h
set_option maxRecDepth 100000 in
set_option maxHeartbeats 1600000 in
theorem crc_of (g : Nat) (i : Int) (w : World) (h0 : 0 ≤ i) (h1 : i < 256) (hst : CrcFresh w g ∨ CrcDone w g) :
    Calls Try.prog 77 #[.pointer (some ⟨g, 0, none⟩), .int .u8 i] w fun e w' => e = .returned (.int .u32 (crcTab i.toNat : Nat)) ∧ CrcDone w' g ∧ Below g w w' := by
  have hd : Calls Try.prog 86 #[.pointer (some ⟨g, 0, none⟩), .func (.func 87) #[.pointer (some ⟨g, 0, none⟩)] #[]] w (CrcSlowPost w g) := by
    rcases hst with hf | hd
    · exact crc_do_first g w hf
    · refine (crc_do_done g _ w hd).mono ?_
      rintro e w' ⟨rfl, rfl⟩
      exact ⟨rfl, hd, Below.refl _ _⟩
  have HD := Aside0.mk hd
  clear hd hst
  have hmf : ∀ (fn : Fn) (first cap : Array Value) (w : World), (Instr.makeFunc fn first cap).run Try.prog w = .ok (.func fn first cap) w := fun _ _ _ _ => rfl
  go_enter Try.func77, Try.ntmps77
  go_wp2_with (go_at_call 86; refine HD.out.mono ?_; rintro e w2 ⟨rfl, hdone, hbel⟩; have HDN := Aside0.mk hdone; have HBL := Aside0.mk hbel; have hcc : w2.cell? ⟨g, 3 + i.toNat, none⟩ = some (.int .u32 (crcTab i.toNat : Nat)) := (by obtain ⟨cs, hb, _, _, ht⟩ := HDN.out; exact (blk_cell hb _).trans (ht _ (by omega))); clear hdone hbel)
  go_ret
  exact ⟨rfl, HDN.out, HBL.out⟩
def crcByte (c x : Nat) : Nat := crcTab ((c % 256) ^^^ x) ^^^ (c / 256)
def crcMore (c : Nat) (l : List Int) : Nat := l.foldl (fun c x => crcByte c x.toNat) c
theorem u8_xor (a b : Nat) (ha : a < 256) (hb : b < 256) : bits .xor .u8 (a : Int) (b : Int) = ((a ^^^ b : Nat) : Int) := by
  have ha' : a % 2 ^ 8 = a := Nat.mod_eq_of_lt ha
  have hb' : b % 2 ^ 8 = b := Nat.mod_eq_of_lt hb
  have hx : a ^^^ b < 2 ^ 8 := Nat.xor_lt_two_pow ha hb
  simp only [bits, IntKind.bits, BitVec.ofInt_natCast]
  show IntKind.u8.wrap (((BitVec.ofNat 8 a ^^^ BitVec.ofNat 8 b : BitVec 8).toNat : Nat) : Int) = _
  rw [BitVec.toNat_xor, BitVec.toNat_ofNat, BitVec.toNat_ofNat, ha', hb', IntKind.wrap_u8]
  omega
theorem crcTab_lt (i : Nat) (h : i < 256) : crcTab i < 4294967296 := crcSteps_lt 8 (by omega)
theorem xor_lt8 {a b : Nat} (ha : a < 256) (hb : b < 256) : a ^^^ b < 256 := Nat.xor_lt_two_pow (n := 8) ha hb
theorem crcByte_lt {c x : Nat} (hc : c < 4294967296) (hx : x < 256) : crcByte c x < 4294967296 := by
  unfold crcByte
  exact Nat.xor_lt_two_pow (n := 32) (crcTab_lt _ (xor_lt8 (by omega) hx)) (by omega)
def crcOk (c : Int) (l : List Int) : Bool := decide (0 ≤ c) && decide (c < 4294967296) && l.all fun x => decide (0 ≤ x) && decide (x < 256)
def crc_More.f (a0 : Int) (l1 : List Int) : Option Int := if crcOk a0 l1 = true then some ((crcMore a0.toNat l1 : Nat) : Int) else none
set_option maxRecDepth 100000 in
set_option maxHeartbeats 4000000 in
theorem crc_More.calls (a0 : Int) (A1 : Option Addr) (c1 : Nat) (l1 : List Int) (r : Int) (w : World) (hr1 : Kd.C (Kd.int .u8) w A1 l1.length l1) (hc1 : l1.length ≤ c1) (h : crc_More.f a0 l1 = some r) :
    Calls Try.prog 45 #[.int .u32 a0, .slice A1 l1.length c1] w fun e w' => e = .returned (.int .u32 r) ∧ Below w.heap.size w w' := by
  unfold crc_More.f at h
  by_cases hok : crcOk a0 l1 = true
  · rw [if_pos hok] at h
    obtain rfl := Option.some.inj h
    unfold crcOk at hok
    simp only [Bool.and_eq_true, decide_eq_true_eq, List.all_eq_true] at hok
    obtain ⟨⟨ha0, ha1⟩, hall⟩ := hok
    obtain ⟨c, rfl⟩ := Int.eq_ofNat_of_zero_le ha0
    have HR := Aside0.mk hr1
    have HN := Aside0.mk hr1.2.1
    have HALL := Aside0.mk hall
    have HC0 := Aside0.mk (show c < 4294967296 by omega)
    clear h hr1 hall ha0 ha1
    rw [Int.toNat_natCast]
    have hz : CrcFresh (w.alloc (.cells Try.zeroCells121 121)) w.heap.size := ⟨Try.zeroCells121, heap_alloc_new _ _, by kernel_rfl, by kernel_rfl, by kernel_rfl⟩
    have HZ := Aside0.mk hz
    clear hz
    go_enter Try.func45, Try.ntmps45
    go_wp2
    go_loopw [0, 12] (fun v0 v12 wr => ∃ (i : Nat) (d : Nat), i ≤ l1.length ∧ v12 = .int .i64 i ∧ v0 = .int .u32 d ∧ Aside0 (d < 4294967296 ∧ crcMore d (l1.drop i) = crcMore c l1) ∧ Aside0 (CrcFresh wr w.heap.size ∨ CrcDone wr w.heap.size) ∧ Aside0 (Below w.heap.size w wr)) (fun _ v12 _ => l1.length - (intOf v12).toNat)
    case atStart => exact ⟨0, c, by omega, rfl, rfl, ⟨HC0.out, rfl⟩, ⟨.inl HZ.out⟩, ⟨below_alloc (Below.refl _ _) _⟩⟩
    case round =>
      clear HZ HC0
      obtain ⟨i, d, hi, rfl, rfl, HD, HST, HB⟩ := hrel
      obtain ⟨hd, hmore⟩ := HD.out
      have HM := Aside0.mk hmore
      clear HD hmore
      by_cases hlt : i < l1.length
      · have hlt0 : decide ((i : Int) < (l1.length : Int)) = true := decide_eq_true (by omega)
        obtain ⟨ad, e, hx⟩ := Kd.at_int HR.out (i : Int) (by omega) (by omega)
        cases e
        replace hx := (HB.out.cell (World.block_lt_of_cell? w _ hx)).trans hx
        have hrd : rd l1 (i : Int) = l1[i] := by
          unfold rd
          rw [Int.toNat_natCast, List.getD_eq_getElem?_getD, List.getElem?_eq_getElem hlt]
          rfl
        have hmem := HALL.out l1[i] (List.getElem_mem hlt)
        have hdrop : l1.drop i = l1[i] :: l1.drop (i + 1) := List.drop_eq_getElem_cons hlt
        rw [hrd] at hx
        rw [Int.toNat_natCast] at hx
        have HDR := Aside0.mk hdrop
        clear hrd hdrop
        generalize l1[i] = x at *
        obtain ⟨n, rfl⟩ := Int.eq_ofNat_of_zero_le hmem.1
        have hn : n < 256 := by omega
        have HLT := Aside0.mk hlt
        have hNN := HN.out
        have hxr : bits .xor .u8 ((d : Int) % 256) (n : Int) = ((d % 256 ^^^ n : Nat) : Int) := u8_xor (d % 256) n (by omega) hn
        have hlt8 : d % 256 ^^^ n < 256 := xor_lt8 (by omega) hn
        have HOF := Aside0.mk (crc_of w.heap.size (bits .xor .u8 ((d : Int) % 256) (n : Int)) wr (by rw [hxr]; omega) (by rw [hxr]; omega) HST.out)
        have hfin : bits .xor .u32 ((crcTab (bits .xor .u8 ((d : Int) % 256) (n : Int)).toNat : Nat) : Int) ((d : Int) / 256) = ((crcByte d n : Nat) : Int) := by
          rw [hxr, Int.toNat_natCast]
          exact u32_xor _ (d / 256) (crcTab_lt _ hlt8) (by omega)
        have HFIN := Aside0.mk hfin
        clear hmem hxr hlt8 hfin
        go_wp2_with (go_at_call 77; refine HOF.out.mono ?_; rintro e w2 ⟨rfl, hdn, hbl⟩; have HDN := Aside0.mk hdn; have HB2 := Aside0.mk (Below.trans HB.out hbl); clear hdn hbl)
        go_roundw
        case rel => exact ⟨i + 1, crcByte d n, by have := HLT.out; omega, by go_num, by rw [← HFIN.out], ⟨crcByte_lt hd hn, by
            have e := HM.out
            rw [HDR.out] at e
            exact e⟩, ⟨.inr HDN.out⟩, HB2⟩
        case measure => have := HLT.out; simp [intOf]; omega
      · have hlt0 : decide ((i : Int) < (l1.length : Int)) = false := decide_eq_false (by omega)
        go_wp2
        go_ret
        exact ⟨by
          have e := HM.out
          rw [List.drop_of_length_le (by omega)] at e
          rw [← e]
          rfl, HB.out⟩
  · rw [if_neg hok] at h
    cases h
theorem crcMore_lt (l : List Int) (c : Nat) (hc : c < 4294967296) (hl : ∀ x ∈ l, 0 ≤ x ∧ x < 256) : crcMore c l < 4294967296 := by
  induction l generalizing c with
  | nil => exact hc
  | cons x l ih =>
    have hx := hl x List.mem_cons_self
    exact ih _ (crcByte_lt hc (by omega)) (fun y hy => hl y (List.mem_cons_of_mem _ hy))
theorem crc_More.some {a : Int} {l : List Int} {c : Int} (h : crc_More.f a l = some c) : 0 ≤ a ∧ a < 4294967296 ∧ (∀ x ∈ l, 0 ≤ x ∧ x < 256) ∧ c = ((crcMore a.toNat l : Nat) : Int) ∧ 0 ≤ c ∧ c < 4294967296 := by
  unfold crc_More.f at h
  by_cases hok : crcOk a l = true
  · rw [if_pos hok] at h
    obtain rfl := Option.some.inj h
    unfold crcOk at hok
    simp only [Bool.and_eq_true, decide_eq_true_eq, List.all_eq_true] at hok
    obtain ⟨⟨ha0, ha1⟩, hall⟩ := hok
    have := crcMore_lt l a.toNat (by omega) hall
    exact ⟨ha0, ha1, hall, rfl, by omega, by omega⟩
  · rw [if_neg hok] at h
    cases h
theorem u32_not (c : Int) (h0 : 0 ≤ c) (h : c < 4294967296) : bits .xor .u32 IntKind.u32.max c = 4294967295 - c := by
  obtain ⟨n, rfl⟩ := Int.eq_ofNat_of_zero_le h0
  have e : IntKind.u32.max = ((4294967295 : Nat) : Int) := rfl
  have h1 : (4294967295 : Nat) ^^^ n = 4294967295 - n := by
    have h2 : (~~~(BitVec.ofNat 32 n)).toNat = 4294967295 - n := by
      rw [BitVec.toNat_not, BitVec.toNat_ofNat, Nat.mod_eq_of_lt (by omega)]
    rw [← h2, ← BitVec.allOnes_xor, BitVec.toNat_xor, BitVec.toNat_ofNat, Nat.mod_eq_of_lt (show n < 2 ^ 32 by omega)]
    rfl
  rw [e, u32_xor _ _ (by decide) (by omega), h1]
  omega

/-! ### crc_Sum: function 47 -/
def crc_Sum.f (l0 : List Int) : Option Int := (crc_More.f 4294967295 l0).bind fun c => some (4294967295 - c)
set_option maxHeartbeats 1600000 in
theorem crc_Sum.calls (A0 : Option Addr) (c0 : Nat) (l0 : List Int) (r : Int) (w : World) (hr0 : Kd.C (Kd.int .u8) w A0 l0.length l0) (hc0 : l0.length ≤ c0) (h : crc_Sum.f l0 = some r) :
    Calls Try.prog 47 #[.slice A0 l0.length c0] w fun e w' => e = .returned (.int .u32 r) ∧ Below w.heap.size w w' := by
  unfold crc_Sum.f at h
  obtain ⟨c, hc, hr⟩ := Option.bind_eq_some_iff.mp h
  have HC := Aside0.mk (crc_More.calls 4294967295 A0 c0 l0 c w hr0 hc0 hc)
  have k0 := (crc_More.some hc).2.2.2.2.1
  have k1 := (crc_More.some hc).2.2.2.2.2
  have HNOT := Aside0.mk (u32_not c k0 k1)
  obtain rfl := Option.some.inj hr
  have hsg : IntKind.u32.signed = false := rfl
  clear hr0 h hc k0 k1 hr
  go_enter Try.func47, Try.ntmps47
  go_wp2_with (go_at_call 45; refine HC.out.mono ?_; rintro e w' ⟨rfl, hb'⟩; have HB' := Aside0.mk hb'; clear hb')
  go_ret
  exact ⟨by rw [← HNOT.out]; rfl, HB'.out⟩

/-! ### newsreellaw05_awake: function 44 -/
def newsreellaw05_awake.f : Option Bool := some true
set_option maxHeartbeats 4000000 in
set_option maxRecDepth 100000 in
theorem newsreellaw05_awake.calls (r : Bool) (w : World) (h : newsreellaw05_awake.f = some r) :
    Calls Try.prog 44 #[] w fun e w' => e = .returned (.bool r) ∧ Below w.heap.size w w' := by
  obtain rfl : true = r := Option.some.inj h
  clear h
  have kc := fun (w : World) (C : Array Value) (n c : Nat) => Lib.run_convert_bytes_const (P := Try.prog) w 27 5 C n c Try.underlying27 Try.underlying5
  go_enter Try.func44, Try.ntmps44
  go_wp2_with (fail)
  refine (crc_Sum.calls _ _ [49, 50, 51, 52, 53, 54, 55, 56, 57] 3421780262 _ ?s1 ?s2 (by kernel_rfl)).mono ?_
  case s1 => exact C_bytes _ _ [49, 50, 51, 52, 53, 54, 55, 56, 57] 5 (9, 10) (heap_alloc_new _ _) (by decide)
  case s2 => decide
  rintro e w1 ⟨rfl, hb⟩
  have hbk_w1 := Aside0.mk hb
  have HB1 := Aside0.mk (below_step (below_alloc (Below.refl w.heap.size w) _) hb)
  clear hb
  go_wp2_with (fail)
  refine (crc_Sum.calls none _ [] 0 _ ?t1 ?t2 (by kernel_rfl)).mono ?_
  case t1 => exact Kd.C_nil _ _
  case t2 => decide
  rintro e w2 ⟨rfl, hb⟩
  have hbk_w2 := Aside0.mk hb
  have HB2 := Aside0.mk (below_step HB1.out hb)
  clear hb
  go_wp2
  go_ret
  exact ⟨rfl, HB2.out⟩

/-! ### newsreelref05_More: function 46 -/
mutual
def newsreelref05_More.l0 : Nat → Int → List Int → Int → Option (Int)
  | 0, _, _, _ => none
  | k + 1, x0, x1, x5 => if x5 < (x1.length : Int) then (if 0 ≤ x5 then (newsreelref05_More.l1 k (Go.bits .xor .u32 x0 ((rd x1 x5) % 4294967296)) x1 x5 0) else (none)) else (some x0)
def newsreelref05_More.l1 : Nat → Int → List Int → Int → Int → Option (Int)
  | 0, _, _, _, _ => none
  | k + 1, x0, x1, x5, x6 => if x6 < 8 then (if (Int.tmod x0 2) = 1 then (newsreelref05_More.l1 k (Go.bits .xor .u32 ((Int.tdiv x0 2) % 4294967296) 3988292384) x1 x5 (wrap64 (x6 + 1))) else (newsreelref05_More.l1 k ((Int.tdiv x0 2) % 4294967296) x1 x5 (wrap64 (x6 + 1)))) else (newsreelref05_More.l0 k x0 x1 (wrap64 (x5 + 1)))
end
def newsreelref05_More.f (k : Nat) (a0 : Int) (l1 : List Int) : Option (Int) := newsreelref05_More.l0 k a0 l1 0
theorem newsreelref05_More.mono_l : ∀ k, (∀ y0 y1 y2, LeO (newsreelref05_More.l0 k y0 y1 y2) (newsreelref05_More.l0 (k + 1) y0 y1 y2)) ∧ (∀ y0 y1 y2 y3, LeO (newsreelref05_More.l1 k y0 y1 y2 y3) (newsreelref05_More.l1 (k + 1) y0 y1 y2 y3))
  | 0 => ⟨fun _ _ _ r h => by simp [newsreelref05_More.l0] at h, fun _ _ _ _ r h => by simp [newsreelref05_More.l1] at h⟩
  | k + 1 => by
    obtain ⟨ih0, ih1⟩ := newsreelref05_More.mono_l k
    refine ⟨?_, ?_⟩
    · intro y0 y1 y2
      unfold newsreelref05_More.l0
      repeat' first
      | (with_reducible exact ih0 _ _ _)
      | (with_reducible exact ih1 _ _ _ _)
      | (with_reducible exact LeO.refl _)
      | (with_reducible exact LeO.none _)
      | (with_reducible refine LeO.ite ?_ ?_)
      | (with_reducible refine LeO.bind ?_ (fun _ => ?_))
      | exact ih0 _ _ _
      | exact ih1 _ _ _ _
      | exact LeO.none _
      | refine LeO.ite ?_ ?_
      | refine LeO.bind ?_ (fun _ => ?_)
    · intro y0 y1 y2 y3
      unfold newsreelref05_More.l1
      repeat' first
      | (with_reducible exact ih0 _ _ _)
      | (with_reducible exact ih1 _ _ _ _)
      | (with_reducible exact LeO.refl _)
      | (with_reducible exact LeO.none _)
      | (with_reducible refine LeO.ite ?_ ?_)
      | (with_reducible refine LeO.bind ?_ (fun _ => ?_))
      | exact ih0 _ _ _
      | exact ih1 _ _ _ _
      | exact LeO.none _
      | refine LeO.ite ?_ ?_
      | refine LeO.bind ?_ (fun _ => ?_)
theorem newsreelref05_More.mono : ∀ a0 a1 k, LeO (newsreelref05_More.f k a0 a1) (newsreelref05_More.f (k + 1) a0 a1) := by
  intro a0 a1 k
  obtain ⟨ih0, ih1⟩ := newsreelref05_More.mono_l k
  unfold newsreelref05_More.f
  repeat' first
      | (with_reducible exact ih0 _ _ _)
      | (with_reducible exact ih1 _ _ _ _)
      | (with_reducible exact LeO.refl _)
      | (with_reducible exact LeO.none _)
      | (with_reducible refine LeO.ite ?_ ?_)
      | (with_reducible refine LeO.bind ?_ (fun _ => ?_))
      | exact ih0 _ _ _
      | exact ih1 _ _ _ _
      | exact LeO.none _
      | refine LeO.ite ?_ ?_
      | refine LeO.bind ?_ (fun _ => ?_)
set_option maxHeartbeats 8000000 in
set_option maxRecDepth 100000 in
theorem newsreelref05_More.calls (k : Nat) (a0 : Int) (A1 : Option Addr) (c1 : Nat) (l1 : List Int) (r : Int) (w : World) (hr1 : Kd.C (Kd.int .u8) w A1 l1.length l1) (hc1 : l1.length ≤ c1) (h : newsreelref05_More.f k a0 l1 = some r) :
    Calls Try.prog 46 #[.int .u32 a0, .slice A1 l1.length c1] w fun e w' => e = .returned (.int .u32 r) ∧ Drawn0 w w' := by
  have HR1 := Aside0.mk hr1
  have HC1 := Aside0.mk hc1
  clear hr1 hc1
  have H : (newsreelref05_More.l0 k a0 l1 0) = some r := h
  clear h
  have H' := Aside0.mk H
  clear H
  go_enter Try.func46, Try.ntmps46
  go_wp2
  go_loopg [0, 5] k (fun kq v0 v5 w' => ∃ (x0_1 : Int) (x5_1 : Int), v0 = .int .u32 x0_1 ∧ v5 = .int .i64 x5_1 ∧ Aside0 (newsreelref05_More.l0 kq x0_1 l1 x5_1 = some r) ∧ Aside0 (kq ≤ k) ∧ Drawn0 w w')
  case atStart => exact ⟨(a0), (0), (by first | rfl | (simp; done) | (simp [*]; done)), (by first | rfl | (simp; done) | (simp [*]; done)), H', ⟨Nat.le_refl _⟩, by repeat (first | exact Drawn0.refl _ | apply Drawn0.step)⟩
  case round =>
    clear H'
    try clear c1
    try clear p2
    obtain ⟨x0_1, x5_1, rfl, rfl, HA, HK1, ⟨m1, rfl⟩⟩ := hrel
    cases gk with
    | zero => exact absurd HA.out (by simp [newsreelref05_More.l0])
    | succ k1 =>
      have H := HA.out
      clear HA
      simp only [newsreelref05_More.l0] at H
      by_cases c3 : x5_1 < (l1.length : Int)
      · rw [if_pos c3] at H
        have c3b0 : decide (x5_1 < (l1.length : Int)) = true := decide_eq_true c3
        clear c3
        by_cases c4 : 0 ≤ x5_1
        · rw [if_pos c4] at H
          have c4b0 : decide (0 ≤ x5_1) = true := decide_eq_true c4
          clear c4
          have H' := Aside0.mk H
          clear H
          have p101 : 0 ≤ (x5_1 : Int) := of_decide_eq_true (by first | (with_reducible assumption) | assumption)
          have q101 : x5_1 < (l1.length : Int) := of_decide_eq_true (by first | (with_reducible assumption) | assumption)
          obtain ⟨ad101, e101, hx101_0⟩ := Kd.at_int HR1.out x5_1 p101 q101
          cases e101
          replace p101 := eq_true p101
          replace q101 := eq_true q101
          go_wp2
          go_loopg [0, 6] k1 (fun kq v0 v6 w' => ∃ (x0_2 : Int) (x6_2 : Int), v0 = .int .u32 x0_2 ∧ v6 = .int .i64 x6_2 ∧ Aside0 (newsreelref05_More.l1 kq x0_2 l1 x5_1 x6_2 = some r) ∧ Aside0 (kq ≤ k1) ∧ Drawn0 w w')
          case atStart => exact ⟨(Go.bits .xor .u32 x0_1 ((rd l1 x5_1) % 4294967296)), (0), (by first | rfl | (simp; done) | (simp [*]; done)), (by first | rfl | (simp; done) | (simp [*]; done)), H', ⟨Nat.le_refl _⟩, by repeat (first | exact Drawn0.refl _ | apply Drawn0.step)⟩
          case round =>
            clear H'
            try clear c1
            try clear p1
            try clear q1
            try clear hx1
            try clear p2
            try clear c3
            try clear c3b0
            try clear c4
            try clear c4b0
            try clear hx101_0
            try clear p101
            try clear p2
            try clear q101
            obtain ⟨x0_2, x6_2, rfl, rfl, HA, HK2, ⟨m2, rfl⟩⟩ := hrel
            cases gk with
            | zero => exact absurd HA.out (by simp [newsreelref05_More.l1])
            | succ k2 =>
              have H := HA.out
              clear HA
              simp only [newsreelref05_More.l1] at H
              by_cases c5 : x6_2 < 8
              · rw [if_pos c5] at H
                have c5b0 : decide (x6_2 < 8) = true := decide_eq_true c5
                clear c5
                by_cases c6 : (Int.tmod x0_2 2) = 1
                · rw [if_pos c6] at H
                  have c6b0 : ((Int.tmod x0_2 2) == 1) = true := beq_iff_eq.mpr c6
                  have c6b1 : ((Int.tmod x0_2 2) != 1) = false := bne_eq_false_iff_eq.mpr c6
                  clear c6
                  have H' := Aside0.mk H
                  clear H
                  go_wp2
                  go_roundg k2
                  case measure => have := HK1.out; have := HK2.out; omega
                  case rel => exact ⟨(Go.bits .xor .u32 ((Int.tdiv x0_2 2) % 4294967296) 3988292384), (wrap64 (x6_2 + 1)), (by first | rfl | (simp; done) | (simp [*]; done)), (by first | rfl | (simp; done) | (simp [*]; done)), H', ⟨by have := HK1.out; have := HK2.out; omega⟩, by repeat (first | exact Drawn0.refl _ | apply Drawn0.step)⟩
                · rw [if_neg c6] at H
                  have c6b0 : ((Int.tmod x0_2 2) == 1) = false := beq_eq_false_iff_ne.mpr c6
                  have c6b1 : ((Int.tmod x0_2 2) != 1) = true := bne_iff_ne.mpr c6
                  have H' := Aside0.mk H
                  clear H
                  go_wp2
                  go_roundg k2
                  case measure => have := HK1.out; have := HK2.out; omega
                  case rel => exact ⟨((Int.tdiv x0_2 2) % 4294967296), (wrap64 (x6_2 + 1)), (by first | rfl | (simp; done) | (simp [*]; done)), (by first | rfl | (simp; done) | (simp [*]; done)), H', ⟨by have := HK1.out; have := HK2.out; omega⟩, by repeat (first | exact Drawn0.refl _ | apply Drawn0.step)⟩
              · rw [if_neg c5] at H
                have c5b0 : decide (x6_2 < 8) = false := decide_eq_false c5
                clear c5
                have H' := Aside0.mk H
                clear H
                go_wp2
                go_roundg k2
                case measure => have := HK1.out; have := HK2.out; omega
                case rel => exact ⟨(x0_2), (wrap64 (x5_1 + 1)), (by first | rfl | (simp; done) | (simp [*]; done)), (by first | rfl | (simp; done) | (simp [*]; done)), H', ⟨by have := HK1.out; have := HK2.out; omega⟩, by repeat (first | exact Drawn0.refl _ | apply Drawn0.step)⟩
        · rw [if_neg c4] at H
          exact absurd H (by simp)
      · rw [if_neg c3] at H
        have c3b0 : decide (x5_1 < (l1.length : Int)) = false := decide_eq_false c3
        clear c3
        obtain rfl := Option.some.inj H
        go_wp2
        go_ret
        exact ⟨by first | rfl | (simp; done) | (simp [*]; done), by repeat (first | exact Drawn0.refl _ | apply Drawn0.step)⟩

/-! ### newsreelref05_Sum: function 48 -/
def newsreelref05_Sum.f (k : Nat) (l0 : List Int) : Option (Int) := (newsreelref05_More.f k 4294967295 l0).bind fun t102 => (some ((4294967295 - t102) % 4294967296))
theorem newsreelref05_Sum.mono : ∀ a0 k, LeO (newsreelref05_Sum.f k a0) (newsreelref05_Sum.f (k + 1) a0) := by
  intro a0 k
  unfold newsreelref05_Sum.f
  repeat' first
      | (with_reducible exact newsreelref05_More.mono _ _ _)
      | (with_reducible exact LeO.refl _)
      | (with_reducible exact LeO.none _)
      | (with_reducible refine LeO.ite ?_ ?_)
      | (with_reducible refine LeO.bind ?_ (fun _ => ?_))
      | exact newsreelref05_More.mono _ _ _
      | exact LeO.none _
      | refine LeO.ite ?_ ?_
      | refine LeO.bind ?_ (fun _ => ?_)
set_option maxHeartbeats 8000000 in
set_option maxRecDepth 100000 in
theorem newsreelref05_Sum.calls (k : Nat) (A0 : Option Addr) (c0 : Nat) (l0 : List Int) (r : Int) (w : World) (hr0 : Kd.C (Kd.int .u8) w A0 l0.length l0) (hc0 : l0.length ≤ c0) (h : newsreelref05_Sum.f k l0 = some r) :
    Calls Try.prog 48 #[.slice A0 l0.length c0] w fun e w' => e = .returned (.int .u32 r) ∧ Drawn0 w w' := by
  have HR0 := Aside0.mk hr0
  have HC0 := Aside0.mk hc0
  clear hr0 hc0
  have H : ((newsreelref05_More.f k 4294967295 l0).bind fun t102 => (some ((4294967295 - t102) % 4294967296))) = some r := h
  clear h
  replace H := Option.bind_eq_some_iff.mp H
  obtain ⟨t102, A20, H⟩ := H
  replace H : (some ((4294967295 - t102) % 4294967296)) = some r := H
  have A2 := Aside0.mk A20
  clear A20
  obtain rfl := Option.some.inj H
  go_enter Try.func48, Try.ntmps48
  go_wp2_with (first | ((with_reducible refine gate_callee (f := 46) rfl ?_); refine goesL_ (some 4) rfl rfl Try.func46 (by kernel_rfl) rfl #[.int .u32 4294967295, .slice A0 l0.length c0] rfl (by (try simp only [List.map_toArray, List.map_cons, List.map_nil]); first | done | rfl | (simp only [List.length_drop, List.length_take]; rfl)) ?_; (with_reducible refine (newsreelref05_More.calls k 4294967295 _ _ l0 t102 _ ?side1 ?side2 A2.out).mono ?_); (case side1 => repeat (first | exact HR0.out | (with_reducible refine Kd.C_alloc ?_ _) | (with_reducible refine Kd.C_drewN ?_ _) | (with_reducible refine Kd.C_drew ?_))); (case side2 => exact HC0.out); rintro e w' ⟨rfl, ⟨nd, rfl⟩⟩; refine ⟨_, rfl, ?_⟩))
  go_ret
  exact ⟨by first | rfl | (simp; done) | (simp [*]; done), by repeat (first | exact Drawn0.refl _ | apply Drawn0.step)⟩

/-! ### newsreellaw05_CrcSums: function 10 -/
def newsreellaw05_CrcSums.f (k : Nat) (a0 : Int) (l1 : List Int) : Option (Bool) := if (l1.length : Int) > 500 then ((newsreellaw05_awake.f).bind fun t103 => (some t103)) else ((crc_More.f a0 l1).bind fun t104 => ((newsreelref05_More.f k a0 l1).bind fun t105 => (if t104 = t105 then ((crc_Sum.f l1).bind fun t106 => ((newsreelref05_Sum.f k l1).bind fun t107 => (if t106 = t107 then ((newsreellaw05_awake.f).bind fun t108 => (some t108)) else (some false)))) else (some false))))
theorem newsreellaw05_CrcSums.mono : ∀ a0 a1 k, LeO (newsreellaw05_CrcSums.f k a0 a1) (newsreellaw05_CrcSums.f (k + 1) a0 a1) := by
  intro a0 a1 k
  unfold newsreellaw05_CrcSums.f
  repeat' first
      | (with_reducible exact newsreelref05_More.mono _ _ _)
      | (with_reducible exact newsreelref05_Sum.mono _ _)
      | (with_reducible exact LeO.refl _)
      | (with_reducible exact LeO.none _)
      | (with_reducible refine LeO.ite ?_ ?_)
      | (with_reducible refine LeO.bind ?_ (fun _ => ?_))
      | exact newsreelref05_More.mono _ _ _
      | exact newsreelref05_Sum.mono _ _
      | exact LeO.none _
      | refine LeO.ite ?_ ?_
      | refine LeO.bind ?_ (fun _ => ?_)
set_option maxHeartbeats 8000000 in
set_option maxRecDepth 100000 in
theorem newsreellaw05_CrcSums.calls (k : Nat) (a0 : Int) (A1 : Option Addr) (c1 : Nat) (l1 : List Int) (r : Bool) (w : World) (hr1 : Kd.C (Kd.int .u8) w A1 l1.length l1) (hc1 : l1.length ≤ c1) (h : newsreellaw05_CrcSums.f k a0 l1 = some r) :
    Calls Try.prog 10 #[.int .u32 a0, .slice A1 l1.length c1] w fun e w' => e = .returned (.bool r) ∧ Below w.heap.size w w' := by
  have HR1 := Aside0.mk hr1
  have HC1 := Aside0.mk hc1
  clear hr1 hc1
  have HB := Aside0.mk (Below.refl w.heap.size w)
  have H : (if (l1.length : Int) > 500 then ((newsreellaw05_awake.f).bind fun t103 => (some t103)) else ((crc_More.f a0 l1).bind fun t104 => ((newsreelref05_More.f k a0 l1).bind fun t105 => (if t104 = t105 then ((crc_Sum.f l1).bind fun t106 => ((newsreelref05_Sum.f k l1).bind fun t107 => (if t106 = t107 then ((newsreellaw05_awake.f).bind fun t108 => (some t108)) else (some false)))) else (some false))))) = some r := h
  clear h
  by_cases c3 : (l1.length : Int) > 500
  · rw [if_pos c3] at H
    have c3b0 : decide (500 < (l1.length : Int)) = true := decide_eq_true c3
    have c3b1 : decide (500 < l1.length) = true := decide_eq_true (by omega)
    clear c3
    replace H := Option.bind_eq_some_iff.mp H
    obtain ⟨t103, A40, H⟩ := H
    replace H : (some t103) = some r := H
    have A4 := Aside0.mk A40
    clear A40
    obtain rfl := Option.some.inj H
    go_enter Try.func10, Try.ntmps10
    go_wp2_with (first | ((with_reducible refine gate_callee (f := 44) rfl ?_); refine goesL_ (some 8) rfl rfl Try.func44 (by kernel_rfl) rfl #[] rfl (by (try simp only [List.map_toArray, List.map_cons, List.map_nil]); first | done | rfl | (simp only [List.length_drop, List.length_take]; rfl)) ?_; (with_reducible refine (newsreellaw05_awake.calls  t103 _ A4.out).mono ?_); rintro e w5 ⟨rfl, hb⟩; refine ⟨_, rfl, ?_⟩; have n0_ := Aside0.mk (below_step (by repeat (first | (with_reducible first | exact HB.out | apply below_alloc | apply pw_below_drewN | apply below_drew1) | exact HB.out)) hb); clear HB; have HB := n0_; clear n0_; (try clear hb); (try clear hb2); (try clear hk); (try clear hi)))
    go_ret
    exact ⟨by first | rfl | (simp [errW_none, errW_some] <;> rfl) | (simp [*, errW_none, errW_some] <;> rfl), by repeat (first | (with_reducible first | exact HB.out | apply below_alloc | apply pw_below_drewN | apply below_drew1) | exact HB.out)⟩
  · rw [if_neg c3] at H
    have c3b0 : decide (500 < (l1.length : Int)) = false := decide_eq_false c3
    have c3b1 : decide (500 < l1.length) = false := decide_eq_false (by omega)
    clear c3
    replace H := Option.bind_eq_some_iff.mp H
    obtain ⟨t104, A60, H⟩ := H
    replace H : ((newsreelref05_More.f k a0 l1).bind fun t105 => (if t104 = t105 then ((crc_Sum.f l1).bind fun t106 => ((newsreelref05_Sum.f k l1).bind fun t107 => (if t106 = t107 then ((newsreellaw05_awake.f).bind fun t108 => (some t108)) else (some false)))) else (some false))) = some r := H
    have A6 := Aside0.mk A60
    clear A60
    replace H := Option.bind_eq_some_iff.mp H
    obtain ⟨t105, A70, H⟩ := H
    replace H : (if t104 = t105 then ((crc_Sum.f l1).bind fun t106 => ((newsreelref05_Sum.f k l1).bind fun t107 => (if t106 = t107 then ((newsreellaw05_awake.f).bind fun t108 => (some t108)) else (some false)))) else (some false)) = some r := H
    have A7 := Aside0.mk A70
    clear A70
    by_cases c8 : t104 = t105
    · rw [if_pos c8] at H
      have c8b0 : (t104 == t105) = true := beq_iff_eq.mpr c8
      have c8b1 : (t104 != t105) = false := bne_eq_false_iff_eq.mpr c8
      clear c8
      replace H := Option.bind_eq_some_iff.mp H
      obtain ⟨t106, A90, H⟩ := H
      replace H : ((newsreelref05_Sum.f k l1).bind fun t107 => (if t106 = t107 then ((newsreellaw05_awake.f).bind fun t108 => (some t108)) else (some false))) = some r := H
      have A9 := Aside0.mk A90
      clear A90
      replace H := Option.bind_eq_some_iff.mp H
      obtain ⟨t107, A100, H⟩ := H
      replace H : (if t106 = t107 then ((newsreellaw05_awake.f).bind fun t108 => (some t108)) else (some false)) = some r := H
      have A10 := Aside0.mk A100
      clear A100
      by_cases c11 : t106 = t107
      · rw [if_pos c11] at H
        have c11b0 : (t106 == t107) = true := beq_iff_eq.mpr c11
        have c11b1 : (t106 != t107) = false := bne_eq_false_iff_eq.mpr c11
        clear c11
        replace H := Option.bind_eq_some_iff.mp H
        obtain ⟨t108, A120, H⟩ := H
        replace H : (some t108) = some r := H
        have A12 := Aside0.mk A120
        clear A120
        obtain rfl := Option.some.inj H
        go_enter Try.func10, Try.ntmps10
        go_wp2_with (first | ((with_reducible refine gate_callee (f := 45) rfl ?_); refine goesL_ (some 11) rfl rfl Try.func45 (by kernel_rfl) rfl #[.int .u32 a0, .slice A1 l1.length c1] rfl (by (try simp only [List.map_toArray, List.map_cons, List.map_nil]); first | done | rfl | (simp only [List.length_drop, List.length_take]; rfl)) ?_; (with_reducible refine (crc_More.calls a0 _ _ l1 t104 _ ?side1 ?side2 A6.out).mono ?_); (case side1 => repeat (first | exact HR1.out | (with_reducible refine Kd.C_alloc ?_ _) | (with_reducible refine Kd.C_drewN ?_ _) | (with_reducible refine Kd.C_drew ?_))); (case side2 => exact HC1.out); rintro e w13 ⟨rfl, hb⟩; refine ⟨_, rfl, ?_⟩; have n0_ := Aside0.mk (below_step (by repeat (first | (with_reducible first | exact HB.out | apply below_alloc | apply pw_below_drewN | apply below_drew1) | exact HB.out)) hb); clear HB; have HB := n0_; clear n0_; (try clear hb); (try clear hb2); (try clear hk); (try clear hi)) | ((with_reducible refine gate_callee (f := 46) rfl ?_); refine goesL_ (some 14) rfl rfl Try.func46 (by kernel_rfl) rfl #[.int .u32 a0, .slice A1 l1.length c1] rfl (by (try simp only [List.map_toArray, List.map_cons, List.map_nil]); first | done | rfl | (simp only [List.length_drop, List.length_take]; rfl)) ?_; (with_reducible refine (newsreelref05_More.calls k a0 _ _ l1 t105 _ ?side1 ?side2 A7.out).mono ?_); (case side1 => repeat (first | exact (Kd.C_below HR1.out HB.out) | (with_reducible refine Kd.C_alloc ?_ _) | (with_reducible refine Kd.C_drewN ?_ _) | (with_reducible refine Kd.C_drew ?_))); (case side2 => exact HC1.out); rintro e w' ⟨rfl, ⟨nd, rfl⟩⟩; refine ⟨_, rfl, ?_⟩) | (go_at_call 47; (with_reducible refine (crc_Sum.calls _ _ l1 t106 _ ?side1 ?side2 A9.out).mono ?_); (case side1 => repeat (first | exact (Kd.C_below HR1.out (by repeat (first | (with_reducible first | exact HB.out | apply below_alloc | apply pw_below_drewN | apply below_drew1) | exact HB.out))) | (with_reducible refine Kd.C_alloc ?_ _) | (with_reducible refine Kd.C_drewN ?_ _) | (with_reducible refine Kd.C_drew ?_))); (case side2 => exact HC1.out); rintro e w14 ⟨rfl, hb⟩; have n0_ := Aside0.mk (below_step (by repeat (first | (with_reducible first | exact HB.out | apply below_alloc | apply pw_below_drewN | apply below_drew1) | exact HB.out)) hb); clear HB; have HB := n0_; clear n0_; (try clear hb); (try clear hb2); (try clear hk); (try clear hi)) | (go_at_call 48; (with_reducible refine (newsreelref05_Sum.calls k _ _ l1 t107 _ ?side1 ?side2 A10.out).mono ?_); (case side1 => repeat (first | exact (Kd.C_below HR1.out HB.out) | (with_reducible refine Kd.C_alloc ?_ _) | (with_reducible refine Kd.C_drewN ?_ _) | (with_reducible refine Kd.C_drew ?_))); (case side2 => exact HC1.out); rintro e w' ⟨rfl, ⟨nd, rfl⟩⟩) | (go_at_call 44; (with_reducible refine (newsreellaw05_awake.calls  t108 _ A12.out).mono ?_); rintro e w15 ⟨rfl, hb⟩; have n0_ := Aside0.mk (below_step (by repeat (first | (with_reducible first | exact HB.out | apply below_alloc | apply pw_below_drewN | apply below_drew1) | exact HB.out)) hb); clear HB; have HB := n0_; clear n0_; (try clear hb); (try clear hb2); (try clear hk); (try clear hi)))
        go_ret
        exact ⟨by first | rfl | (simp [errW_none, errW_some] <;> rfl) | (simp [*, errW_none, errW_some] <;> rfl), by repeat (first | (with_reducible first | exact HB.out | apply below_alloc | apply pw_below_drewN | apply below_drew1) | exact HB.out)⟩
      · rw [if_neg c11] at H
        have c11b0 : (t106 == t107) = false := beq_eq_false_iff_ne.mpr c11
        have c11b1 : (t106 != t107) = true := bne_iff_ne.mpr c11
        obtain rfl := Option.some.inj H
        go_enter Try.func10, Try.ntmps10
        go_wp2_with (first | ((with_reducible refine gate_callee (f := 45) rfl ?_); refine goesL_ (some 11) rfl rfl Try.func45 (by kernel_rfl) rfl #[.int .u32 a0, .slice A1 l1.length c1] rfl (by (try simp only [List.map_toArray, List.map_cons, List.map_nil]); first | done | rfl | (simp only [List.length_drop, List.length_take]; rfl)) ?_; (with_reducible refine (crc_More.calls a0 _ _ l1 t104 _ ?side1 ?side2 A6.out).mono ?_); (case side1 => repeat (first | exact HR1.out | (with_reducible refine Kd.C_alloc ?_ _) | (with_reducible refine Kd.C_drewN ?_ _) | (with_reducible refine Kd.C_drew ?_))); (case side2 => exact HC1.out); rintro e w16 ⟨rfl, hb⟩; refine ⟨_, rfl, ?_⟩; have n0_ := Aside0.mk (below_step (by repeat (first | (with_reducible first | exact HB.out | apply below_alloc | apply pw_below_drewN | apply below_drew1) | exact HB.out)) hb); clear HB; have HB := n0_; clear n0_; (try clear hb); (try clear hb2); (try clear hk); (try clear hi)) | ((with_reducible refine gate_callee (f := 46) rfl ?_); refine goesL_ (some 14) rfl rfl Try.func46 (by kernel_rfl) rfl #[.int .u32 a0, .slice A1 l1.length c1] rfl (by (try simp only [List.map_toArray, List.map_cons, List.map_nil]); first | done | rfl | (simp only [List.length_drop, List.length_take]; rfl)) ?_; (with_reducible refine (newsreelref05_More.calls k a0 _ _ l1 t105 _ ?side1 ?side2 A7.out).mono ?_); (case side1 => repeat (first | exact (Kd.C_below HR1.out HB.out) | (with_reducible refine Kd.C_alloc ?_ _) | (with_reducible refine Kd.C_drewN ?_ _) | (with_reducible refine Kd.C_drew ?_))); (case side2 => exact HC1.out); rintro e w' ⟨rfl, ⟨nd, rfl⟩⟩; refine ⟨_, rfl, ?_⟩) | (go_at_call 47; (with_reducible refine (crc_Sum.calls _ _ l1 t106 _ ?side1 ?side2 A9.out).mono ?_); (case side1 => repeat (first | exact (Kd.C_below HR1.out (by repeat (first | (with_reducible first | exact HB.out | apply below_alloc | apply pw_below_drewN | apply below_drew1) | exact HB.out))) | (with_reducible refine Kd.C_alloc ?_ _) | (with_reducible refine Kd.C_drewN ?_ _) | (with_reducible refine Kd.C_drew ?_))); (case side2 => exact HC1.out); rintro e w17 ⟨rfl, hb⟩; have n0_ := Aside0.mk (below_step (by repeat (first | (with_reducible first | exact HB.out | apply below_alloc | apply pw_below_drewN | apply below_drew1) | exact HB.out)) hb); clear HB; have HB := n0_; clear n0_; (try clear hb); (try clear hb2); (try clear hk); (try clear hi)) | (go_at_call 48; (with_reducible refine (newsreelref05_Sum.calls k _ _ l1 t107 _ ?side1 ?side2 A10.out).mono ?_); (case side1 => repeat (first | exact (Kd.C_below HR1.out HB.out) | (with_reducible refine Kd.C_alloc ?_ _) | (with_reducible refine Kd.C_drewN ?_ _) | (with_reducible refine Kd.C_drew ?_))); (case side2 => exact HC1.out); rintro e w' ⟨rfl, ⟨nd, rfl⟩⟩))
        go_ret
        exact ⟨by first | rfl | (simp [errW_none, errW_some] <;> rfl) | (simp [*, errW_none, errW_some] <;> rfl), by repeat (first | (with_reducible first | exact HB.out | apply below_alloc | apply pw_below_drewN | apply below_drew1) | exact HB.out)⟩
    · rw [if_neg c8] at H
      have c8b0 : (t104 == t105) = false := beq_eq_false_iff_ne.mpr c8
      have c8b1 : (t104 != t105) = true := bne_iff_ne.mpr c8
      obtain rfl := Option.some.inj H
      go_enter Try.func10, Try.ntmps10
      go_wp2_with (first | ((with_reducible refine gate_callee (f := 45) rfl ?_); refine goesL_ (some 11) rfl rfl Try.func45 (by kernel_rfl) rfl #[.int .u32 a0, .slice A1 l1.length c1] rfl (by (try simp only [List.map_toArray, List.map_cons, List.map_nil]); first | done | rfl | (simp only [List.length_drop, List.length_take]; rfl)) ?_; (with_reducible refine (crc_More.calls a0 _ _ l1 t104 _ ?side1 ?side2 A6.out).mono ?_); (case side1 => repeat (first | exact HR1.out | (with_reducible refine Kd.C_alloc ?_ _) | (with_reducible refine Kd.C_drewN ?_ _) | (with_reducible refine Kd.C_drew ?_))); (case side2 => exact HC1.out); rintro e w18 ⟨rfl, hb⟩; refine ⟨_, rfl, ?_⟩; have n0_ := Aside0.mk (below_step (by repeat (first | (with_reducible first | exact HB.out | apply below_alloc | apply pw_below_drewN | apply below_drew1) | exact HB.out)) hb); clear HB; have HB := n0_; clear n0_; (try clear hb); (try clear hb2); (try clear hk); (try clear hi)) | ((with_reducible refine gate_callee (f := 46) rfl ?_); refine goesL_ (some 14) rfl rfl Try.func46 (by kernel_rfl) rfl #[.int .u32 a0, .slice A1 l1.length c1] rfl (by (try simp only [List.map_toArray, List.map_cons, List.map_nil]); first | done | rfl | (simp only [List.length_drop, List.length_take]; rfl)) ?_; (with_reducible refine (newsreelref05_More.calls k a0 _ _ l1 t105 _ ?side1 ?side2 A7.out).mono ?_); (case side1 => repeat (first | exact (Kd.C_below HR1.out HB.out) | (with_reducible refine Kd.C_alloc ?_ _) | (with_reducible refine Kd.C_drewN ?_ _) | (with_reducible refine Kd.C_drew ?_))); (case side2 => exact HC1.out); rintro e w' ⟨rfl, ⟨nd, rfl⟩⟩; refine ⟨_, rfl, ?_⟩))
      go_ret
      exact ⟨by first | rfl | (simp [errW_none, errW_some] <;> rfl) | (simp [*, errW_none, errW_some] <;> rfl), by repeat (first | (with_reducible first | exact HB.out | apply below_alloc | apply pw_below_drewN | apply below_drew1) | exact HB.out)⟩

end Go.Proofs.Ytkkikdjfigffhaa.XCrc
