/-
  No cell of these rows narrows 'for every input' (looked for: loops, veiled, ifaces, maps, wideKeys, modest, calm, conditions, laid).
  DERIVED. THE GIVEN ROWS OF THIS SEAT. 12 by the template 'for every input the law returns true; each argument reads behind the call as it read before'; 0 by the template 'total and deterministic' (their statements: YtkkikdjfigffhaaTotals.lean).
  GIVEN WITH THE SEED: the statements are not yours to turn. If you find one false, say at which input.
  Laid BY PROGRAM, IN A SANDBOX (cutbox-rows.mjs): the forced cells as the released guide's own fill.sh prints them over the translation 98127338d230478e… (all of the seat's roots in one cut). By AI agents, Wed Nov 11 2026. No macro, syntax, notation, axiom, sorry.
-/
import Derived.Test.YtkkikdjfigffhaaChecked
import GoSem.Claim
import GoSem.ClaimJoined
import GoSem.ClaimMapViews
import Derived.JoinedTies
import Derived.KernelRfl
namespace Go.Proofs.Ytkkikdjfigffhaa
/- THE CELL 'sum', in the pinned program and in every row, IS THE sha256 OF THE DUMP (.gsa) THAT YtkkikdjfigffhaaProg.lean LOADS. Nothing in Lean hashes anything: it is a label: what it is worth is what the hold of that sum in a sandbox is worth. -/
noncomputable def Try.pinned : Pinned := { name := "ytkkikdjfigffhaa", sum := "98127338d230478ef5de6db72bca8abcfb15a6066f30a34cc1f2a77ad4c76969", checked := Try.checked }
namespace Rows
def none {H : Type} : Left H := { results := [], args := [] }

/-- 'newsreellaw39.BackoffTells': WHATEVER THE INPUT: true; the input reads as it did. -/
def backoffTellsSpec : ChangeSpec := { name := "backoffTells", fn := fun _ => fun
  | [d1, d2] => { results := [.lit (.bool true)], args := [d1, d2] }
  | _ => none }
def backoffTellsRow : OpenClaim := { program := "ytkkikdjfigffhaa", sum := "98127338d230478ef5de6db72bca8abcfb15a6066f30a34cc1f2a77ad4c76969", func := "newsreel/newsreellaw39.BackoffTells", spec := "backoffTells", apart := false }
def BackoffTellsSaid : Prop := backoffTellsRow.holds Try.pinned (OpenSpec.ofChange backoffTellsSpec)

/-- ITS FALSE NEIGHBOUR: 'it returns false'. Refute it at one input. -/
def backoffTellsWrong : ChangeSpec := { name := "backoffTells", fn := fun _ => fun
  | [d1, d2] => { results := [.lit (.bool false)], args := [d1, d2] }
  | _ => none }
def BackoffTellsWrongFalsely : Prop := backoffTellsRow.holds Try.pinned (OpenSpec.ofChange backoffTellsWrong)

/-- 'newsreellaw39.BackoffGrows': WHATEVER THE INPUT: true; the input reads as it did. -/
def backoffGrowsSpec : ChangeSpec := { name := "backoffGrows", fn := fun _ => fun
  | [d1, d2, d3] => { results := [.lit (.bool true)], args := [d1, d2, d3] }
  | _ => none }
def backoffGrowsRow : OpenClaim := { program := "ytkkikdjfigffhaa", sum := "98127338d230478ef5de6db72bca8abcfb15a6066f30a34cc1f2a77ad4c76969", func := "newsreel/newsreellaw39.BackoffGrows", spec := "backoffGrows", apart := false }
def BackoffGrowsSaid : Prop := backoffGrowsRow.holds Try.pinned (OpenSpec.ofChange backoffGrowsSpec)

/-- ITS FALSE NEIGHBOUR: 'it returns false'. Refute it at one input. -/
def backoffGrowsWrong : ChangeSpec := { name := "backoffGrows", fn := fun _ => fun
  | [d1, d2, d3] => { results := [.lit (.bool false)], args := [d1, d2, d3] }
  | _ => none }
def BackoffGrowsWrongFalsely : Prop := backoffGrowsRow.holds Try.pinned (OpenSpec.ofChange backoffGrowsWrong)

/-- 'newsreellaw36.WireBends': WHATEVER THE INPUT: true; the input reads as it did. -/
def wireBendsSpec : ChangeSpec := { name := "wireBends", fn := fun _ => fun
  | [d1, d2, d3] => { results := [.lit (.bool true)], args := [d1, d2, d3] }
  | _ => none }
def wireBendsRow : OpenClaim := { program := "ytkkikdjfigffhaa", sum := "98127338d230478ef5de6db72bca8abcfb15a6066f30a34cc1f2a77ad4c76969", func := "newsreel/newsreellaw36.WireBends", spec := "wireBends", unfollowed := true, recurses := true, apart := false }
def WireBendsSaid : Prop := wireBendsRow.holds Try.pinned (OpenSpec.ofChange wireBendsSpec)

/-- ITS FALSE NEIGHBOUR: 'it returns false'. Refute it at one input. -/
def wireBendsWrong : ChangeSpec := { name := "wireBends", fn := fun _ => fun
  | [d1, d2, d3] => { results := [.lit (.bool false)], args := [d1, d2, d3] }
  | _ => none }
def WireBendsWrongFalsely : Prop := wireBendsRow.holds Try.pinned (OpenSpec.ofChange wireBendsWrong)

/-- 'newsreellaw08.BlockTells': WHATEVER THE INPUT: true; the input reads as it did. -/
def blockTellsSpec : ChangeSpec := { name := "blockTells", fn := fun _ => fun
  | [d1, d2, d3] => { results := [.lit (.bool true)], args := [d1, d2, d3] }
  | _ => none }
def blockTellsRow : OpenClaim := { program := "ytkkikdjfigffhaa", sum := "98127338d230478ef5de6db72bca8abcfb15a6066f30a34cc1f2a77ad4c76969", func := "newsreel/newsreellaw08.BlockTells", spec := "blockTells", apart := false }
def BlockTellsSaid : Prop := blockTellsRow.holds Try.pinned (OpenSpec.ofChange blockTellsSpec)

/-- ITS FALSE NEIGHBOUR: 'it returns false'. Refute it at one input. -/
def blockTellsWrong : ChangeSpec := { name := "blockTells", fn := fun _ => fun
  | [d1, d2, d3] => { results := [.lit (.bool false)], args := [d1, d2, d3] }
  | _ => none }
def BlockTellsWrongFalsely : Prop := blockTellsRow.holds Try.pinned (OpenSpec.ofChange blockTellsWrong)

/-- 'newsreellaw08.BlockOrder': WHATEVER THE INPUT: true; the input reads as it did. -/
def blockOrderSpec : ChangeSpec := { name := "blockOrder", fn := fun _ => fun
  | [d1, d2, d3] => { results := [.lit (.bool true)], args := [d1, d2, d3] }
  | _ => none }
def blockOrderRow : OpenClaim := { program := "ytkkikdjfigffhaa", sum := "98127338d230478ef5de6db72bca8abcfb15a6066f30a34cc1f2a77ad4c76969", func := "newsreel/newsreellaw08.BlockOrder", spec := "blockOrder", apart := false }
def BlockOrderSaid : Prop := blockOrderRow.holds Try.pinned (OpenSpec.ofChange blockOrderSpec)

/-- ITS FALSE NEIGHBOUR: 'it returns false'. Refute it at one input. -/
def blockOrderWrong : ChangeSpec := { name := "blockOrder", fn := fun _ => fun
  | [d1, d2, d3] => { results := [.lit (.bool false)], args := [d1, d2, d3] }
  | _ => none }
def BlockOrderWrongFalsely : Prop := blockOrderRow.holds Try.pinned (OpenSpec.ofChange blockOrderWrong)

/-- 'newsreellaw43.PickTells': WHATEVER THE INPUT: true; the input reads as it did. -/
def pickTellsSpec : ChangeSpec := { name := "pickTells", fn := fun _ => fun
  | [d1, d2] => { results := [.lit (.bool true)], args := [d1, d2] }
  | _ => none }
def pickTellsRow : OpenClaim := { program := "ytkkikdjfigffhaa", sum := "98127338d230478ef5de6db72bca8abcfb15a6066f30a34cc1f2a77ad4c76969", func := "newsreel/newsreellaw43.PickTells", spec := "pickTells", unfollowed := true, recurses := true, apart := false }
def PickTellsSaid : Prop := pickTellsRow.holds Try.pinned (OpenSpec.ofChange pickTellsSpec)

/-- ITS FALSE NEIGHBOUR: 'it returns false'. Refute it at one input. -/
def pickTellsWrong : ChangeSpec := { name := "pickTells", fn := fun _ => fun
  | [d1, d2] => { results := [.lit (.bool false)], args := [d1, d2] }
  | _ => none }
def PickTellsWrongFalsely : Prop := pickTellsRow.holds Try.pinned (OpenSpec.ofChange pickTellsWrong)

/-- 'newsreellaw43.PickWhen': WHATEVER THE INPUT: true; the input reads as it did. -/
def pickWhenSpec : ChangeSpec := { name := "pickWhen", fn := fun _ => fun
  | [d1, d2] => { results := [.lit (.bool true)], args := [d1, d2] }
  | _ => none }
def pickWhenRow : OpenClaim := { program := "ytkkikdjfigffhaa", sum := "98127338d230478ef5de6db72bca8abcfb15a6066f30a34cc1f2a77ad4c76969", func := "newsreel/newsreellaw43.PickWhen", spec := "pickWhen", unfollowed := true, recurses := true, apart := false }
def PickWhenSaid : Prop := pickWhenRow.holds Try.pinned (OpenSpec.ofChange pickWhenSpec)

/-- ITS FALSE NEIGHBOUR: 'it returns false'. Refute it at one input. -/
def pickWhenWrong : ChangeSpec := { name := "pickWhen", fn := fun _ => fun
  | [d1, d2] => { results := [.lit (.bool false)], args := [d1, d2] }
  | _ => none }
def PickWhenWrongFalsely : Prop := pickWhenRow.holds Try.pinned (OpenSpec.ofChange pickWhenWrong)

/-- 'newsreellaw05.CrcSums': WHATEVER THE INPUT: true; the input reads as it did. -/
def crcSumsSpec : ChangeSpec := { name := "crcSums", fn := fun _ => fun
  | [d1, d2] => { results := [.lit (.bool true)], args := [d1, d2] }
  | _ => none }
def crcSumsRow : OpenClaim := { program := "ytkkikdjfigffhaa", sum := "98127338d230478ef5de6db72bca8abcfb15a6066f30a34cc1f2a77ad4c76969", func := "newsreel/newsreellaw05.CrcSums", spec := "crcSums", inPlace := ["sync/atomic.LoadUint32", "(*internal/sync.Mutex).Lock", "internal/race.Disable", "sync/atomic.CompareAndSwapInt32", "internal/race.Enable", "internal/race.Acquire", "(*internal/sync.Mutex).lockSlow", "internal/sync.runtime_canSpin", "internal/sync.runtime_doSpin", "internal/sync.throw", "internal/sync.runtime_nanotime", "internal/sync.runtime_SemacquireMutex", "sync/atomic.AddInt32", "(*internal/sync.Mutex).Unlock", "internal/race.ReleaseMerge", "(*internal/sync.Mutex).unlockSlow", "internal/sync.fatal", "internal/sync.runtime_Semrelease", "sync/atomic.StoreUint32"], unfollowed := true, recurses := true, apart := false }
def CrcSumsSaid : Prop := crcSumsRow.holds Try.pinned (OpenSpec.ofChange crcSumsSpec)

/-- ITS FALSE NEIGHBOUR: 'it returns false'. Refute it at one input. -/
def crcSumsWrong : ChangeSpec := { name := "crcSums", fn := fun _ => fun
  | [d1, d2] => { results := [.lit (.bool false)], args := [d1, d2] }
  | _ => none }
def CrcSumsWrongFalsely : Prop := crcSumsRow.holds Try.pinned (OpenSpec.ofChange crcSumsWrong)

/-- 'newsreellaw05.CrcCuts': WHATEVER THE INPUT: true; the input reads as it did. -/
def crcCutsSpec : ChangeSpec := { name := "crcCuts", fn := fun _ => fun
  | [d1, d2, d3] => { results := [.lit (.bool true)], args := [d1, d2, d3] }
  | _ => none }
def crcCutsRow : OpenClaim := { program := "ytkkikdjfigffhaa", sum := "98127338d230478ef5de6db72bca8abcfb15a6066f30a34cc1f2a77ad4c76969", func := "newsreel/newsreellaw05.CrcCuts", spec := "crcCuts", inPlace := ["sync/atomic.LoadUint32", "(*internal/sync.Mutex).Lock", "internal/race.Disable", "sync/atomic.CompareAndSwapInt32", "internal/race.Enable", "internal/race.Acquire", "(*internal/sync.Mutex).lockSlow", "internal/sync.runtime_canSpin", "internal/sync.runtime_doSpin", "internal/sync.throw", "internal/sync.runtime_nanotime", "internal/sync.runtime_SemacquireMutex", "sync/atomic.AddInt32", "(*internal/sync.Mutex).Unlock", "internal/race.ReleaseMerge", "(*internal/sync.Mutex).unlockSlow", "internal/sync.fatal", "internal/sync.runtime_Semrelease", "sync/atomic.StoreUint32"], unfollowed := true, recurses := true, apart := false }
def CrcCutsSaid : Prop := crcCutsRow.holds Try.pinned (OpenSpec.ofChange crcCutsSpec)

/-- ITS FALSE NEIGHBOUR: 'it returns false'. Refute it at one input. -/
def crcCutsWrong : ChangeSpec := { name := "crcCuts", fn := fun _ => fun
  | [d1, d2, d3] => { results := [.lit (.bool false)], args := [d1, d2, d3] }
  | _ => none }
def CrcCutsWrongFalsely : Prop := crcCutsRow.holds Try.pinned (OpenSpec.ofChange crcCutsWrong)

/-- 'newsreellaw09.FileTells': WHATEVER THE INPUT: true; the input reads as it did. -/
def fileTellsSpec : ChangeSpec := { name := "fileTells", fn := fun _ => fun
  | [d1, d2, d3] => { results := [.lit (.bool true)], args := [d1, d2, d3] }
  | _ => none }
def fileTellsRow : OpenClaim := { program := "ytkkikdjfigffhaa", sum := "98127338d230478ef5de6db72bca8abcfb15a6066f30a34cc1f2a77ad4c76969", func := "newsreel/newsreellaw09.FileTells", spec := "fileTells", unfollowed := true, recurses := true, apart := false }
def FileTellsSaid : Prop := fileTellsRow.holds Try.pinned (OpenSpec.ofChange fileTellsSpec)

/-- ITS FALSE NEIGHBOUR: 'it returns false'. Refute it at one input. -/
def fileTellsWrong : ChangeSpec := { name := "fileTells", fn := fun _ => fun
  | [d1, d2, d3] => { results := [.lit (.bool false)], args := [d1, d2, d3] }
  | _ => none }
def FileTellsWrongFalsely : Prop := fileTellsRow.holds Try.pinned (OpenSpec.ofChange fileTellsWrong)

/-- 'newsreellaw09.FileCrash': WHATEVER THE INPUT: true; the input reads as it did. -/
def fileCrashSpec : ChangeSpec := { name := "fileCrash", fn := fun _ => fun
  | [d1, d2, d3] => { results := [.lit (.bool true)], args := [d1, d2, d3] }
  | _ => none }
def fileCrashRow : OpenClaim := { program := "ytkkikdjfigffhaa", sum := "98127338d230478ef5de6db72bca8abcfb15a6066f30a34cc1f2a77ad4c76969", func := "newsreel/newsreellaw09.FileCrash", spec := "fileCrash", unfollowed := true, recurses := true, apart := false }
def FileCrashSaid : Prop := fileCrashRow.holds Try.pinned (OpenSpec.ofChange fileCrashSpec)

/-- ITS FALSE NEIGHBOUR: 'it returns false'. Refute it at one input. -/
def fileCrashWrong : ChangeSpec := { name := "fileCrash", fn := fun _ => fun
  | [d1, d2, d3] => { results := [.lit (.bool false)], args := [d1, d2, d3] }
  | _ => none }
def FileCrashWrongFalsely : Prop := fileCrashRow.holds Try.pinned (OpenSpec.ofChange fileCrashWrong)

/-- 'newsreellaw37.JournalTells': WHATEVER THE INPUT: true; the input reads as it did. -/
def journalTellsSpec : ChangeSpec := { name := "journalTells", fn := fun _ => fun
  | [d1, d2] => { results := [.lit (.bool true)], args := [d1, d2] }
  | _ => none }
def journalTellsRow : OpenClaim := { program := "ytkkikdjfigffhaa", sum := "98127338d230478ef5de6db72bca8abcfb15a6066f30a34cc1f2a77ad4c76969", func := "newsreel/newsreellaw37.JournalTells", spec := "journalTells", inPlace := ["sync/atomic.LoadUint32", "(*internal/sync.Mutex).Lock", "internal/race.Disable", "sync/atomic.CompareAndSwapInt32", "internal/race.Enable", "internal/race.Acquire", "(*internal/sync.Mutex).lockSlow", "internal/sync.runtime_canSpin", "internal/sync.runtime_doSpin", "internal/sync.throw", "internal/sync.runtime_nanotime", "internal/sync.runtime_SemacquireMutex", "sync/atomic.AddInt32", "(*internal/sync.Mutex).Unlock", "internal/race.ReleaseMerge", "(*internal/sync.Mutex).unlockSlow", "internal/sync.fatal", "internal/sync.runtime_Semrelease", "sync/atomic.StoreUint32"], unfollowed := true, recurses := true, apart := false }
def JournalTellsSaid : Prop := journalTellsRow.holds Try.pinned (OpenSpec.ofChange journalTellsSpec)

/-- ITS FALSE NEIGHBOUR: 'it returns false'. Refute it at one input. -/
def journalTellsWrong : ChangeSpec := { name := "journalTells", fn := fun _ => fun
  | [d1, d2] => { results := [.lit (.bool false)], args := [d1, d2] }
  | _ => none }
def JournalTellsWrongFalsely : Prop := journalTellsRow.holds Try.pinned (OpenSpec.ofChange journalTellsWrong)

/- THE SECOND FORM. 'bulk': how many values and letters a reading holds, each counted each time it is reached (what is shared counts as often as it is met; a slice's spare places count too). A statement '..UptoSaid' is the law's where the arguments, and the package variables that the reading takes, are together of bulk at most 1048576: NARROWER than '..Said'. Prove '..Said' where nothing that the law and all that it calls make is longer than what came in: it says more and counts as full. Else prove '..UptoSaid'. A law counts once. -/
mutual
def uptoBulk {H : Type} : DataW H → Nat
  | .lit (.string bytes) => bytes.length + 1
  | .lit _ => 1
  | .nil => 1
  | .ptr d => uptoBulk d + 1
  | .slice elems spare => uptoBulkAll elems + uptoBulkAll spare + 1
  | .agg parts => uptoBulkAll parts + 1
  | .iface _ d => uptoBulk d + 1
  | .map entries => uptoBulkEntries entries + 1
  | .held _ => 1
def uptoBulkAll {H : Type} : List (DataW H) → Nat
  | [] => 0
  | d :: r => uptoBulk d + uptoBulkAll r
def uptoBulkEntries {H : Type} : List (Lit × DataW H) → Nat
  | [] => 0
  | x :: r => uptoBulkEntry x + uptoBulkEntries r
def uptoBulkEntry {H : Type} : Lit × DataW H → Nat
  | (.string bytes, d) => bytes.length + uptoBulk d + 1
  | (_, d) => uptoBulk d + 1
 end
def uptoSmall : (H : Type) → List (DataW H) → Bool := fun _ ds => decide (uptoBulkAll ds ≤ 1048576)
def OpenSpec.upto (s : _root_.Go.ChangeSpec) : _root_.Go.OpenSpec := { _root_.Go.OpenSpec.ofChange s with cond := some uptoSmall }

/-- 'newsreellaw39.BackoffTells', WHERE WHAT IT READS IS OF BULK AT MOST 1048576: true; the input reads as it did. -/
def backoffTellsUptoRow : OpenClaim := { program := "ytkkikdjfigffhaa", sum := "98127338d230478ef5de6db72bca8abcfb15a6066f30a34cc1f2a77ad4c76969", func := "newsreel/newsreellaw39.BackoffTells", spec := "backoffTells", apart := false, narrowed := true }
def BackoffTellsUptoSaid : Prop := backoffTellsUptoRow.holds Try.pinned (OpenSpec.upto backoffTellsSpec)

/-- 'newsreellaw39.BackoffGrows', WHERE WHAT IT READS IS OF BULK AT MOST 1048576: true; the input reads as it did. -/
def backoffGrowsUptoRow : OpenClaim := { program := "ytkkikdjfigffhaa", sum := "98127338d230478ef5de6db72bca8abcfb15a6066f30a34cc1f2a77ad4c76969", func := "newsreel/newsreellaw39.BackoffGrows", spec := "backoffGrows", apart := false, narrowed := true }
def BackoffGrowsUptoSaid : Prop := backoffGrowsUptoRow.holds Try.pinned (OpenSpec.upto backoffGrowsSpec)

/-- 'newsreellaw36.WireBends', WHERE WHAT IT READS IS OF BULK AT MOST 1048576: true; the input reads as it did. -/
def wireBendsUptoRow : OpenClaim := { program := "ytkkikdjfigffhaa", sum := "98127338d230478ef5de6db72bca8abcfb15a6066f30a34cc1f2a77ad4c76969", func := "newsreel/newsreellaw36.WireBends", spec := "wireBends", unfollowed := true, recurses := true, apart := false, narrowed := true }
def WireBendsUptoSaid : Prop := wireBendsUptoRow.holds Try.pinned (OpenSpec.upto wireBendsSpec)

/-- 'newsreellaw08.BlockTells', WHERE WHAT IT READS IS OF BULK AT MOST 1048576: true; the input reads as it did. -/
def blockTellsUptoRow : OpenClaim := { program := "ytkkikdjfigffhaa", sum := "98127338d230478ef5de6db72bca8abcfb15a6066f30a34cc1f2a77ad4c76969", func := "newsreel/newsreellaw08.BlockTells", spec := "blockTells", apart := false, narrowed := true }
def BlockTellsUptoSaid : Prop := blockTellsUptoRow.holds Try.pinned (OpenSpec.upto blockTellsSpec)

/-- 'newsreellaw08.BlockOrder', WHERE WHAT IT READS IS OF BULK AT MOST 1048576: true; the input reads as it did. -/
def blockOrderUptoRow : OpenClaim := { program := "ytkkikdjfigffhaa", sum := "98127338d230478ef5de6db72bca8abcfb15a6066f30a34cc1f2a77ad4c76969", func := "newsreel/newsreellaw08.BlockOrder", spec := "blockOrder", apart := false, narrowed := true }
def BlockOrderUptoSaid : Prop := blockOrderUptoRow.holds Try.pinned (OpenSpec.upto blockOrderSpec)

/-- 'newsreellaw43.PickTells', WHERE WHAT IT READS IS OF BULK AT MOST 1048576: true; the input reads as it did. -/
def pickTellsUptoRow : OpenClaim := { program := "ytkkikdjfigffhaa", sum := "98127338d230478ef5de6db72bca8abcfb15a6066f30a34cc1f2a77ad4c76969", func := "newsreel/newsreellaw43.PickTells", spec := "pickTells", unfollowed := true, recurses := true, apart := false, narrowed := true }
def PickTellsUptoSaid : Prop := pickTellsUptoRow.holds Try.pinned (OpenSpec.upto pickTellsSpec)

/-- 'newsreellaw43.PickWhen', WHERE WHAT IT READS IS OF BULK AT MOST 1048576: true; the input reads as it did. -/
def pickWhenUptoRow : OpenClaim := { program := "ytkkikdjfigffhaa", sum := "98127338d230478ef5de6db72bca8abcfb15a6066f30a34cc1f2a77ad4c76969", func := "newsreel/newsreellaw43.PickWhen", spec := "pickWhen", unfollowed := true, recurses := true, apart := false, narrowed := true }
def PickWhenUptoSaid : Prop := pickWhenUptoRow.holds Try.pinned (OpenSpec.upto pickWhenSpec)

/-- 'newsreellaw05.CrcSums', WHERE WHAT IT READS IS OF BULK AT MOST 1048576: true; the input reads as it did. -/
def crcSumsUptoRow : OpenClaim := { program := "ytkkikdjfigffhaa", sum := "98127338d230478ef5de6db72bca8abcfb15a6066f30a34cc1f2a77ad4c76969", func := "newsreel/newsreellaw05.CrcSums", spec := "crcSums", inPlace := ["sync/atomic.LoadUint32", "(*internal/sync.Mutex).Lock", "internal/race.Disable", "sync/atomic.CompareAndSwapInt32", "internal/race.Enable", "internal/race.Acquire", "(*internal/sync.Mutex).lockSlow", "internal/sync.runtime_canSpin", "internal/sync.runtime_doSpin", "internal/sync.throw", "internal/sync.runtime_nanotime", "internal/sync.runtime_SemacquireMutex", "sync/atomic.AddInt32", "(*internal/sync.Mutex).Unlock", "internal/race.ReleaseMerge", "(*internal/sync.Mutex).unlockSlow", "internal/sync.fatal", "internal/sync.runtime_Semrelease", "sync/atomic.StoreUint32"], unfollowed := true, recurses := true, apart := false, narrowed := true }
def CrcSumsUptoSaid : Prop := crcSumsUptoRow.holds Try.pinned (OpenSpec.upto crcSumsSpec)

/-- 'newsreellaw05.CrcCuts', WHERE WHAT IT READS IS OF BULK AT MOST 1048576: true; the input reads as it did. -/
def crcCutsUptoRow : OpenClaim := { program := "ytkkikdjfigffhaa", sum := "98127338d230478ef5de6db72bca8abcfb15a6066f30a34cc1f2a77ad4c76969", func := "newsreel/newsreellaw05.CrcCuts", spec := "crcCuts", inPlace := ["sync/atomic.LoadUint32", "(*internal/sync.Mutex).Lock", "internal/race.Disable", "sync/atomic.CompareAndSwapInt32", "internal/race.Enable", "internal/race.Acquire", "(*internal/sync.Mutex).lockSlow", "internal/sync.runtime_canSpin", "internal/sync.runtime_doSpin", "internal/sync.throw", "internal/sync.runtime_nanotime", "internal/sync.runtime_SemacquireMutex", "sync/atomic.AddInt32", "(*internal/sync.Mutex).Unlock", "internal/race.ReleaseMerge", "(*internal/sync.Mutex).unlockSlow", "internal/sync.fatal", "internal/sync.runtime_Semrelease", "sync/atomic.StoreUint32"], unfollowed := true, recurses := true, apart := false, narrowed := true }
def CrcCutsUptoSaid : Prop := crcCutsUptoRow.holds Try.pinned (OpenSpec.upto crcCutsSpec)

/-- 'newsreellaw09.FileTells', WHERE WHAT IT READS IS OF BULK AT MOST 1048576: true; the input reads as it did. -/
def fileTellsUptoRow : OpenClaim := { program := "ytkkikdjfigffhaa", sum := "98127338d230478ef5de6db72bca8abcfb15a6066f30a34cc1f2a77ad4c76969", func := "newsreel/newsreellaw09.FileTells", spec := "fileTells", unfollowed := true, recurses := true, apart := false, narrowed := true }
def FileTellsUptoSaid : Prop := fileTellsUptoRow.holds Try.pinned (OpenSpec.upto fileTellsSpec)

/-- 'newsreellaw09.FileCrash', WHERE WHAT IT READS IS OF BULK AT MOST 1048576: true; the input reads as it did. -/
def fileCrashUptoRow : OpenClaim := { program := "ytkkikdjfigffhaa", sum := "98127338d230478ef5de6db72bca8abcfb15a6066f30a34cc1f2a77ad4c76969", func := "newsreel/newsreellaw09.FileCrash", spec := "fileCrash", unfollowed := true, recurses := true, apart := false, narrowed := true }
def FileCrashUptoSaid : Prop := fileCrashUptoRow.holds Try.pinned (OpenSpec.upto fileCrashSpec)

/-- 'newsreellaw37.JournalTells', WHERE WHAT IT READS IS OF BULK AT MOST 1048576: true; the input reads as it did. -/
def journalTellsUptoRow : OpenClaim := { program := "ytkkikdjfigffhaa", sum := "98127338d230478ef5de6db72bca8abcfb15a6066f30a34cc1f2a77ad4c76969", func := "newsreel/newsreellaw37.JournalTells", spec := "journalTells", inPlace := ["sync/atomic.LoadUint32", "(*internal/sync.Mutex).Lock", "internal/race.Disable", "sync/atomic.CompareAndSwapInt32", "internal/race.Enable", "internal/race.Acquire", "(*internal/sync.Mutex).lockSlow", "internal/sync.runtime_canSpin", "internal/sync.runtime_doSpin", "internal/sync.throw", "internal/sync.runtime_nanotime", "internal/sync.runtime_SemacquireMutex", "sync/atomic.AddInt32", "(*internal/sync.Mutex).Unlock", "internal/race.ReleaseMerge", "(*internal/sync.Mutex).unlockSlow", "internal/sync.fatal", "internal/sync.runtime_Semrelease", "sync/atomic.StoreUint32"], unfollowed := true, recurses := true, apart := false, narrowed := true }
def JournalTellsUptoSaid : Prop := journalTellsUptoRow.holds Try.pinned (OpenSpec.upto journalTellsSpec)

end Rows
end Go.Proofs.Ytkkikdjfigffhaa
