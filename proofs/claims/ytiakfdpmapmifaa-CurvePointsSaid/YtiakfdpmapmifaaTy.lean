/- The tables of this seat's program, in V2's words. Printed by gen_ty.py. -/
import Derived.Test.YtiakfdpmapmifaaRows
import Derived.Test.YtiakfdpmapmifaaV9
import Derived.Test.YtiakfdpmapmifaaW3
import Derived.KernelRfl
namespace Go.Proofs.Ytiakfdpmapmifaa
open Go.V
set_option maxRecDepth 100000
@[go_sem] theorem tn1 : tn Try.prog 1 = some 1 := by kernel_rfl
@[go_sem] theorem tb1 : tb Try.prog 1 = some 8 := by kernel_rfl
@[go_sem] theorem ta1 : ta Try.prog 1 = some false := by kernel_rfl
@[go_sem] theorem tz1 : tz Try.prog 1 = some [.nilFunc] := by kernel_rfl
@[go_sem] theorem tpl1 : tpl Try.prog 1 = none := by kernel_rfl
@[go_sem] theorem tarr1 : tarr Try.prog 1 = none := by kernel_rfl
@[go_sem] theorem tn2 : tn Try.prog 2 = some 1 := by kernel_rfl
@[go_sem] theorem tb2 : tb Try.prog 2 = some 8 := by kernel_rfl
@[go_sem] theorem ta2 : ta Try.prog 2 = some false := by kernel_rfl
@[go_sem] theorem tz2 : tz Try.prog 2 = some [.int .i64 0] := by kernel_rfl
@[go_sem] theorem tpl2 : tpl Try.prog 2 = none := by kernel_rfl
@[go_sem] theorem tarr2 : tarr Try.prog 2 = none := by kernel_rfl
@[go_sem] theorem tint2 : tint Try.prog 2 = some .i64 := by kernel_rfl
@[go_sem] theorem tn3 : tn Try.prog 3 = some 1 := by kernel_rfl
@[go_sem] theorem tb3 : tb Try.prog 3 = some 8 := by kernel_rfl
@[go_sem] theorem ta3 : ta Try.prog 3 = some false := by kernel_rfl
@[go_sem] theorem tz3 : tz Try.prog 3 = some [.int .i64 0] := by kernel_rfl
@[go_sem] theorem tpl3 : tpl Try.prog 3 = none := by kernel_rfl
@[go_sem] theorem tarr3 : tarr Try.prog 3 = none := by kernel_rfl
@[go_sem] theorem tint3 : tint Try.prog 3 = some .i64 := by kernel_rfl
@[go_sem] theorem tn4 : tn Try.prog 4 = some 1 := by kernel_rfl
@[go_sem] theorem tb4 : tb Try.prog 4 = some 1 := by kernel_rfl
@[go_sem] theorem ta4 : ta Try.prog 4 = some false := by kernel_rfl
@[go_sem] theorem tz4 : tz Try.prog 4 = some [.bool false] := by kernel_rfl
@[go_sem] theorem tpl4 : tpl Try.prog 4 = none := by kernel_rfl
@[go_sem] theorem tarr4 : tarr Try.prog 4 = none := by kernel_rfl
@[go_sem] theorem tboo4 : tboo Try.prog 4 = true := by kernel_rfl
@[go_sem] theorem tn5 : tn Try.prog 5 = some 1 := by kernel_rfl
@[go_sem] theorem tb5 : tb Try.prog 5 = some 1 := by kernel_rfl
@[go_sem] theorem ta5 : ta Try.prog 5 = some false := by kernel_rfl
@[go_sem] theorem tz5 : tz Try.prog 5 = some [.int .u8 0] := by kernel_rfl
@[go_sem] theorem tpl5 : tpl Try.prog 5 = none := by kernel_rfl
@[go_sem] theorem tarr5 : tarr Try.prog 5 = none := by kernel_rfl
@[go_sem] theorem tint5 : tint Try.prog 5 = some .u8 := by kernel_rfl
@[go_sem] theorem tn9 : tn Try.prog 9 = some 1 := by kernel_rfl
@[go_sem] theorem tb9 : tb Try.prog 9 = some 16 := by kernel_rfl
@[go_sem] theorem ta9 : ta Try.prog 9 = some false := by kernel_rfl
@[go_sem] theorem tz9 : tz Try.prog 9 = some [.string ⟨#[]⟩] := by kernel_rfl
@[go_sem] theorem tpl9 : tpl Try.prog 9 = none := by kernel_rfl
@[go_sem] theorem tarr9 : tarr Try.prog 9 = none := by kernel_rfl
@[go_sem] theorem tsl9 : tsl Try.prog 9 = none := by kernel_rfl
@[go_sem] theorem tstr9 : tstr Try.prog 9 = true := by kernel_rfl
@[go_sem] theorem tn16 : tn Try.prog 16 = some 1 := by kernel_rfl
@[go_sem] theorem tb16 : tb Try.prog 16 = some 8 := by kernel_rfl
@[go_sem] theorem ta16 : ta Try.prog 16 = some false := by kernel_rfl
@[go_sem] theorem tz16 : tz Try.prog 16 = some [.pointer none] := by kernel_rfl
@[go_sem] theorem tpl16 : tpl Try.prog 16 = none := by kernel_rfl
@[go_sem] theorem tarr16 : tarr Try.prog 16 = none := by kernel_rfl
@[go_sem] theorem tn25 : tn Try.prog 25 = some 1 := by kernel_rfl
@[go_sem] theorem tb25 : tb Try.prog 25 = some 8 := by kernel_rfl
@[go_sem] theorem ta25 : ta Try.prog 25 = some false := by kernel_rfl
@[go_sem] theorem tz25 : tz Try.prog 25 = some [.int .i64 0] := by kernel_rfl
@[go_sem] theorem tpl25 : tpl Try.prog 25 = none := by kernel_rfl
@[go_sem] theorem tarr25 : tarr Try.prog 25 = none := by kernel_rfl
@[go_sem] theorem tint25 : tint Try.prog 25 = some .i64 := by kernel_rfl
@[go_sem] theorem tn30 : tn Try.prog 30 = some 1 := by kernel_rfl
@[go_sem] theorem tb30 : tb Try.prog 30 = some 24 := by kernel_rfl
@[go_sem] theorem ta30 : ta Try.prog 30 = some false := by kernel_rfl
@[go_sem] theorem tz30 : tz Try.prog 30 = some [.slice none 0 0] := by kernel_rfl
@[go_sem] theorem tpl30 : tpl Try.prog 30 = none := by kernel_rfl
@[go_sem] theorem tarr30 : tarr Try.prog 30 = none := by kernel_rfl
@[go_sem] theorem tsl30 : tsl Try.prog 30 = some 5 := by kernel_rfl
@[go_sem] theorem tstr30 : tstr Try.prog 30 = false := by kernel_rfl
@[go_sem] theorem tn65 : tn Try.prog 65 = some 16 := by kernel_rfl
@[go_sem] theorem tb65 : tb Try.prog 65 = some 128 := by kernel_rfl
@[go_sem] theorem ta65 : ta Try.prog 65 = some true := by kernel_rfl
@[go_sem] theorem tz65 : tz Try.prog 65 = some [.int .i64 0, .int .i64 0, .int .i64 0, .int .i64 0, .int .i64 0, .int .i64 0, .int .i64 0, .int .i64 0, .int .i64 0, .int .i64 0, .int .i64 0, .int .i64 0, .int .i64 0, .int .i64 0, .int .i64 0, .int .i64 0] := by kernel_rfl
@[go_sem] theorem tpl65 : tpl Try.prog 65 = none := by kernel_rfl
@[go_sem] theorem teg65 : teg Try.prog 65 = false := by kernel_rfl
@[go_sem] theorem tflat65 : flat Try.prog 6 65 = some [some .i64, some .i64, some .i64, some .i64, some .i64, some .i64, some .i64, some .i64, some .i64, some .i64, some .i64, some .i64, some .i64, some .i64, some .i64, some .i64] := by kernel_rfl
@[go_sem] theorem tarr65 : tarr Try.prog 65 = some (16, 2) := by kernel_rfl
@[go_sem] theorem tsl65 : tsl Try.prog 65 = none := by kernel_rfl
@[go_sem] theorem tstr65 : tstr Try.prog 65 = false := by kernel_rfl
@[go_sem] theorem tn68 : tn Try.prog 68 = some 1 := by kernel_rfl
@[go_sem] theorem tb68 : tb Try.prog 68 = some 8 := by kernel_rfl
@[go_sem] theorem ta68 : ta Try.prog 68 = some false := by kernel_rfl
@[go_sem] theorem tz68 : tz Try.prog 68 = some [.pointer none] := by kernel_rfl
@[go_sem] theorem tpl68 : tpl Try.prog 68 = none := by kernel_rfl
@[go_sem] theorem tarr68 : tarr Try.prog 68 = none := by kernel_rfl
@[go_sem] theorem tn72 : tn Try.prog 72 = some 1 := by kernel_rfl
@[go_sem] theorem tb72 : tb Try.prog 72 = some 24 := by kernel_rfl
@[go_sem] theorem ta72 : ta Try.prog 72 = some false := by kernel_rfl
@[go_sem] theorem tz72 : tz Try.prog 72 = some [.slice none 0 0] := by kernel_rfl
@[go_sem] theorem tpl72 : tpl Try.prog 72 = none := by kernel_rfl
@[go_sem] theorem tarr72 : tarr Try.prog 72 = none := by kernel_rfl
@[go_sem] theorem tsl72 : tsl Try.prog 72 = some 3 := by kernel_rfl
@[go_sem] theorem tstr72 : tstr Try.prog 72 = false := by kernel_rfl
@[go_sem] theorem tn83 : tn Try.prog 83 = some 31 := by kernel_rfl
@[go_sem] theorem tb83 : tb Try.prog 83 = some 248 := by kernel_rfl
@[go_sem] theorem ta83 : ta Try.prog 83 = some true := by kernel_rfl
@[go_sem] theorem tz83 : tz Try.prog 83 = some [.int .i64 0, .int .i64 0, .int .i64 0, .int .i64 0, .int .i64 0, .int .i64 0, .int .i64 0, .int .i64 0, .int .i64 0, .int .i64 0, .int .i64 0, .int .i64 0, .int .i64 0, .int .i64 0, .int .i64 0, .int .i64 0, .int .i64 0, .int .i64 0, .int .i64 0, .int .i64 0, .int .i64 0, .int .i64 0, .int .i64 0, .int .i64 0, .int .i64 0, .int .i64 0, .int .i64 0, .int .i64 0, .int .i64 0, .int .i64 0, .int .i64 0] := by kernel_rfl
@[go_sem] theorem tpl83 : tpl Try.prog 83 = none := by kernel_rfl
@[go_sem] theorem teg83 : teg Try.prog 83 = false := by kernel_rfl
@[go_sem] theorem tflat83 : flat Try.prog 6 83 = some [some .i64, some .i64, some .i64, some .i64, some .i64, some .i64, some .i64, some .i64, some .i64, some .i64, some .i64, some .i64, some .i64, some .i64, some .i64, some .i64, some .i64, some .i64, some .i64, some .i64, some .i64, some .i64, some .i64, some .i64, some .i64, some .i64, some .i64, some .i64, some .i64, some .i64, some .i64] := by kernel_rfl
@[go_sem] theorem tarr83 : tarr Try.prog 83 = some (31, 2) := by kernel_rfl
@[go_sem] theorem tsl83 : tsl Try.prog 83 = none := by kernel_rfl
@[go_sem] theorem tstr83 : tstr Try.prog 83 = false := by kernel_rfl
@[go_sem] theorem go5 : goes Try.prog 5 = true := by kernel_rfl
@[go_sem] theorem go10 : goes Try.prog 10 = true := by kernel_rfl
@[go_sem] theorem go11 : goes Try.prog 11 = true := by kernel_rfl
@[go_sem] theorem go12 : goes Try.prog 12 = true := by kernel_rfl
@[go_sem] theorem go13 : goes Try.prog 13 = true := by kernel_rfl
@[go_sem] theorem go14 : goes Try.prog 14 = true := by kernel_rfl
@[go_sem] theorem go15 : goes Try.prog 15 = true := by kernel_rfl
@[go_sem] theorem go23 : goes Try.prog 23 = true := by kernel_rfl
@[go_sem] theorem go24 : goes Try.prog 24 = true := by kernel_rfl
@[go_sem] theorem go38 : goes Try.prog 38 = true := by kernel_rfl
@[go_sem] theorem go39 : goes Try.prog 39 = true := by kernel_rfl
@[go_sem] theorem go40 : goes Try.prog 40 = true := by kernel_rfl
@[go_sem] theorem go41 : goes Try.prog 41 = true := by kernel_rfl
@[go_sem] theorem go42 : goes Try.prog 42 = true := by kernel_rfl
@[go_sem] theorem go43 : goes Try.prog 43 = true := by kernel_rfl
@[go_sem] theorem go44 : goes Try.prog 44 = true := by kernel_rfl
@[go_sem] theorem go45 : goes Try.prog 45 = true := by kernel_rfl
@[go_sem] theorem go46 : goes Try.prog 46 = true := by kernel_rfl
@[go_sem] theorem go47 : goes Try.prog 47 = true := by kernel_rfl
@[go_sem] theorem go48 : goes Try.prog 48 = true := by kernel_rfl
@[go_sem] theorem go49 : goes Try.prog 49 = true := by kernel_rfl
@[go_sem] theorem go50 : goes Try.prog 50 = true := by kernel_rfl
@[go_sem] theorem go51 : goes Try.prog 51 = true := by kernel_rfl
@[go_sem] theorem go58 : goes Try.prog 58 = true := by kernel_rfl
@[go_sem] theorem go59 : goes Try.prog 59 = true := by kernel_rfl
@[go_sem] theorem go60 : goes Try.prog 60 = true := by kernel_rfl
@[go_sem] theorem go61 : goes Try.prog 61 = true := by kernel_rfl
def headCodes : List Nat := [104, 97, 114, 110, 101, 115, 115, 32, 52, 52, 50, 50, 54, 56, 51, 98, 57, 54, 49, 56, 100, 52, 54, 51, 97, 102, 97, 53, 52, 100, 99, 53, 48, 97, 52, 48, 99, 51, 56, 55, 55, 57, 56, 53, 98, 49, 53, 53, 48, 54, 97, 101, 54, 55, 100, 51, 55, 50, 49, 99, 50, 99, 52, 99, 98, 57, 99, 99, 98, 48, 99, 57, 32, 99, 117, 116, 32, 97, 116, 32, 99, 111, 110, 99, 108, 97, 118, 101, 47, 99, 111, 110, 99, 108, 97, 118, 101, 108, 97, 119, 46, 80, 97, 120, 111, 115, 67, 104, 111, 115, 101, 110, 115, 32, 99, 111, 110, 99, 108, 97, 118, 101, 47, 99, 111, 110, 99, 108, 97, 118, 101, 108, 97, 119, 46, 67, 117, 114, 118, 101, 83, 104, 97, 114, 101, 100, 115, 32, 99, 111, 110, 99, 108, 97, 118, 101, 47, 99, 111, 110, 99, 108, 97, 118, 101, 108, 97, 119, 46, 67, 117, 114, 118, 101, 80, 111, 105, 110, 116, 115, 32, 99, 111, 110, 99, 108, 97, 118, 101, 47, 99, 111, 110, 99, 108, 97, 118, 101, 108, 97, 119, 46, 80, 97, 120, 111, 115, 65, 99, 99, 101, 112, 116, 115]
theorem wordsT : ∃ rest, Go.behindMainWord (Go.wordsSigns Try.prog.initOrder.toList) = "cut".toList :: rest :=
  cut_words (L := headCodes.map Char.ofNat) (by kernel_rfl) (by kernel_rfl)
theorem makeT : Try.prog.make = some .cut := wordsT.elim fun _ h => cut_make h
theorem liftsT : Try.prog.liftsFinal = false := wordsT.elim fun _ h => cut_lifts h
theorem enterT : Try.prog.mayEnter = true := wordsT.elim fun _ h => cut_enter h (by kernel_rfl) (by kernel_rfl) (by kernel_rfl)
theorem ownKnobT : Go.ownKnob Try.prog.godebug = none := by kernel_rfl
theorem laidOutT : Go.laidOutB Try.prog = true := by kernel_rfl
theorem mixed : Try.prog.follows .mixedOrders = true := by kernel_rfl
end Go.Proofs.Ytiakfdpmapmifaa
