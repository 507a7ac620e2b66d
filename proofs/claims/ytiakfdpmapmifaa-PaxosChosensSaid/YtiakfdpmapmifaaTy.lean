/- The tables of this seat's program, in V2's words. Printed by gen_ty.py. -/
import Derived.Test.YtiakfdpmapmifaaRows
import Derived.Test.YtiakfdpmapmifaaV9
import Derived.Test.YtiakfdpmapmifaaW3
import Derived.KernelRfl
namespace Go.Proofs.Ytiakfdpmapmifaa
open Go.V
set_option maxRecDepth 100000
@[go_sem] theorem tn1 : tn Try.prog 1 = some 1 := by kernel_rfl
@[go_sem] theorem tb1 : tb Try.prog 1 = some 8 := by kernel_rfl
@[go_sem] theorem ta1 : ta Try.prog 1 = some false := by kernel_rfl
@[go_sem] theorem tz1 : tz Try.prog 1 = some [.nilFunc] := by kernel_rfl
@[go_sem] theorem tpl1 : tpl Try.prog 1 = none := by kernel_rfl
@[go_sem] theorem tarr1 : tarr Try.prog 1 = none := by kernel_rfl
@[go_sem] theorem tn2 : tn Try.prog 2 = some 1 := by kernel_rfl
@[go_sem] theorem tb2 : tb Try.prog 2 = some 8 := by kernel_rfl
@[go_sem] theorem ta2 : ta Try.prog 2 = some false := by kernel_rfl
@[go_sem] theorem tz2 : tz Try.prog 2 = some [.int .i64 0] := by kernel_rfl
@[go_sem] theorem tpl2 : tpl Try.prog 2 = none := by kernel_rfl
@[go_sem] theorem tarr2 : tarr Try.prog 2 = none := by kernel_rfl
@[go_sem] theorem tint2 : tint Try.prog 2 = some .i64 := by kernel_rfl
@[go_sem] theorem tn3 : tn Try.prog 3 = some 1 := by kernel_rfl
@[go_sem] theorem tb3 : tb Try.prog 3 = some 8 := by kernel_rfl
@[go_sem] theorem ta3 : ta Try.prog 3 = some false := by kernel_rfl
@[go_sem] theorem tz3 : tz Try.prog 3 = some [.int .i64 0] := by kernel_rfl
@[go_sem] theorem tpl3 : tpl Try.prog 3 = none := by kernel_rfl
@[go_sem] theorem tarr3 : tarr Try.prog 3 = none := by kernel_rfl
@[go_sem] theorem tint3 : tint Try.prog 3 = some .i64 := by kernel_rfl
@[go_sem] theorem tn4 : tn Try.prog 4 = some 1 := by kernel_rfl
@[go_sem] theorem tb4 : tb Try.prog 4 = some 1 := by kernel_rfl
@[go_sem] theorem ta4 : ta Try.prog 4 = some false := by kernel_rfl
@[go_sem] theorem tz4 : tz Try.prog 4 = some [.bool false] := by kernel_rfl
@[go_sem] theorem tpl4 : tpl Try.prog 4 = none := by kernel_rfl
@[go_sem] theorem tarr4 : tarr Try.prog 4 = none := by kernel_rfl
@[go_sem] theorem tboo4 : tboo Try.prog 4 = true := by kernel_rfl
@[go_sem] theorem tn5 : tn Try.prog 5 = some 1 := by kernel_rfl
@[go_sem] theorem tb5 : tb Try.prog 5 = some 1 := by kernel_rfl
@[go_sem] theorem ta5 : ta Try.prog 5 = some false := by kernel_rfl
@[go_sem] theorem tz5 : tz Try.prog 5 = some [.int .u8 0] := by kernel_rfl
@[go_sem] theorem tpl5 : tpl Try.prog 5 = none := by kernel_rfl
@[go_sem] theorem tarr5 : tarr Try.prog 5 = none := by kernel_rfl
@[go_sem] theorem tint5 : tint Try.prog 5 = some .u8 := by kernel_rfl
@[go_sem] theorem tn9 : tn Try.prog 9 = some 1 := by kernel_rfl
@[go_sem] theorem tb9 : tb Try.prog 9 = some 16 := by kernel_rfl
@[go_sem] theorem ta9 : ta Try.prog 9 = some false := by kernel_rfl
@[go_sem] theorem tz9 : tz Try.prog 9 = some [.string ⟨#[]⟩] := by kernel_rfl
@[go_sem] theorem tpl9 : tpl Try.prog 9 = none := by kernel_rfl
@[go_sem] theorem tarr9 : tarr Try.prog 9 = none := by kernel_rfl
@[go_sem] theorem tsl9 : tsl Try.prog 9 = none := by kernel_rfl
@[go_sem] theorem tstr9 : tstr Try.prog 9 = true := by kernel_rfl
@[go_sem] theorem tn22 : tn Try.prog 22 = some 1 := by kernel_rfl
@[go_sem] theorem tb22 : tb Try.prog 22 = some 24 := by kernel_rfl
@[go_sem] theorem ta22 : ta Try.prog 22 = some false := by kernel_rfl
@[go_sem] theorem tz22 : tz Try.prog 22 = some [.slice none 0 0] := by kernel_rfl
@[go_sem] theorem tpl22 : tpl Try.prog 22 = none := by kernel_rfl
@[go_sem] theorem tarr22 : tarr Try.prog 22 = none := by kernel_rfl
@[go_sem] theorem tsl22 : tsl Try.prog 22 = some 41 := by kernel_rfl
@[go_sem] theorem tstr22 : tstr Try.prog 22 = false := by kernel_rfl
@[go_sem] theorem tn24 : tn Try.prog 24 = some 5 := by kernel_rfl
@[go_sem] theorem tb24 : tb Try.prog 24 = some 40 := by kernel_rfl
@[go_sem] theorem ta24 : ta Try.prog 24 = some true := by kernel_rfl
@[go_sem] theorem tz24 : tz Try.prog 24 = some [.int .i64 0, .int .i64 0, .int .i64 0, .int .i64 0, .int .i64 0] := by kernel_rfl
@[go_sem] theorem tf24_0 : tf Try.prog 24 0 = some 0 := by kernel_rfl
@[go_sem] theorem tf24_1 : tf Try.prog 24 1 = some 1 := by kernel_rfl
@[go_sem] theorem tf24_2 : tf Try.prog 24 2 = some 2 := by kernel_rfl
@[go_sem] theorem tf24_3 : tf Try.prog 24 3 = some 3 := by kernel_rfl
@[go_sem] theorem tf24_4 : tf Try.prog 24 4 = some 4 := by kernel_rfl
@[go_sem] theorem tpl24 : tpl Try.prog 24 = some [(0, 1), (1, 1), (2, 1), (3, 1), (4, 1)] := by kernel_rfl
@[go_sem] theorem tfl24_0 : tfl Try.prog 24 0 = some (0, 3) := by kernel_rfl
@[go_sem] theorem tfl24_1 : tfl Try.prog 24 1 = some (1, 3) := by kernel_rfl
@[go_sem] theorem tfl24_2 : tfl Try.prog 24 2 = some (2, 3) := by kernel_rfl
@[go_sem] theorem tfl24_3 : tfl Try.prog 24 3 = some (3, 3) := by kernel_rfl
@[go_sem] theorem tfl24_4 : tfl Try.prog 24 4 = some (4, 3) := by kernel_rfl
@[go_sem] theorem teg24 : teg Try.prog 24 = false := by kernel_rfl
@[go_sem] theorem tflat24 : flat Try.prog 6 24 = some [some .i64, some .i64, some .i64, some .i64, some .i64] := by kernel_rfl
@[go_sem] theorem tarr24 : tarr Try.prog 24 = none := by kernel_rfl
@[go_sem] theorem tn25 : tn Try.prog 25 = some 1 := by kernel_rfl
@[go_sem] theorem tb25 : tb Try.prog 25 = some 8 := by kernel_rfl
@[go_sem] theorem ta25 : ta Try.prog 25 = some false := by kernel_rfl
@[go_sem] theorem tz25 : tz Try.prog 25 = some [.int .i64 0] := by kernel_rfl
@[go_sem] theorem tpl25 : tpl Try.prog 25 = none := by kernel_rfl
@[go_sem] theorem tarr25 : tarr Try.prog 25 = none := by kernel_rfl
@[go_sem] theorem tint25 : tint Try.prog 25 = some .i64 := by kernel_rfl
@[go_sem] theorem tn30 : tn Try.prog 30 = some 1 := by kernel_rfl
@[go_sem] theorem tb30 : tb Try.prog 30 = some 24 := by kernel_rfl
@[go_sem] theorem ta30 : ta Try.prog 30 = some false := by kernel_rfl
@[go_sem] theorem tz30 : tz Try.prog 30 = some [.slice none 0 0] := by kernel_rfl
@[go_sem] theorem tpl30 : tpl Try.prog 30 = none := by kernel_rfl
@[go_sem] theorem tarr30 : tarr Try.prog 30 = none := by kernel_rfl
@[go_sem] theorem tsl30 : tsl Try.prog 30 = some 5 := by kernel_rfl
@[go_sem] theorem tstr30 : tstr Try.prog 30 = false := by kernel_rfl
@[go_sem] theorem tn38 : tn Try.prog 38 = some 2 := by kernel_rfl
@[go_sem] theorem tb38 : tb Try.prog 38 = some 16 := by kernel_rfl
@[go_sem] theorem ta38 : ta Try.prog 38 = some true := by kernel_rfl
@[go_sem] theorem tz38 : tz Try.prog 38 = some [.int .i64 0, .int .i64 0] := by kernel_rfl
@[go_sem] theorem tf38_0 : tf Try.prog 38 0 = some 0 := by kernel_rfl
@[go_sem] theorem tf38_1 : tf Try.prog 38 1 = some 1 := by kernel_rfl
@[go_sem] theorem tpl38 : tpl Try.prog 38 = some [(0, 1), (1, 1)] := by kernel_rfl
@[go_sem] theorem tfl38_0 : tfl Try.prog 38 0 = some (0, 3) := by kernel_rfl
@[go_sem] theorem tfl38_1 : tfl Try.prog 38 1 = some (1, 3) := by kernel_rfl
@[go_sem] theorem teg38 : teg Try.prog 38 = false := by kernel_rfl
@[go_sem] theorem tflat38 : flat Try.prog 6 38 = some [some .i64, some .i64] := by kernel_rfl
@[go_sem] theorem tarr38 : tarr Try.prog 38 = none := by kernel_rfl
@[go_sem] theorem tn39 : tn Try.prog 39 = some 1 := by kernel_rfl
@[go_sem] theorem tb39 : tb Try.prog 39 = some 24 := by kernel_rfl
@[go_sem] theorem ta39 : ta Try.prog 39 = some false := by kernel_rfl
@[go_sem] theorem tz39 : tz Try.prog 39 = some [.slice none 0 0] := by kernel_rfl
@[go_sem] theorem tpl39 : tpl Try.prog 39 = none := by kernel_rfl
@[go_sem] theorem tarr39 : tarr Try.prog 39 = none := by kernel_rfl
@[go_sem] theorem tsl39 : tsl Try.prog 39 = some 43 := by kernel_rfl
@[go_sem] theorem tstr39 : tstr Try.prog 39 = false := by kernel_rfl
@[go_sem] theorem tn41 : tn Try.prog 41 = some 3 := by kernel_rfl
@[go_sem] theorem tb41 : tb Try.prog 41 = some 40 := by kernel_rfl
@[go_sem] theorem ta41 : ta Try.prog 41 = some true := by kernel_rfl
@[go_sem] theorem tz41 : tz Try.prog 41 = some [.int .i64 0, .int .i64 0, .slice none 0 0] := by kernel_rfl
@[go_sem] theorem tf41_0 : tf Try.prog 41 0 = some 0 := by kernel_rfl
@[go_sem] theorem tf41_1 : tf Try.prog 41 1 = some 2 := by kernel_rfl
@[go_sem] theorem tpl41 : tpl Try.prog 41 = some [(0, 2), (2, 1)] := by kernel_rfl
@[go_sem] theorem tfl41_0 : tfl Try.prog 41 0 = some (0, 38) := by kernel_rfl
@[go_sem] theorem tfl41_1 : tfl Try.prog 41 1 = some (2, 39) := by kernel_rfl
@[go_sem] theorem teg41 : teg Try.prog 41 = false := by kernel_rfl
@[go_sem] theorem tarr41 : tarr Try.prog 41 = none := by kernel_rfl
@[go_sem] theorem tn43 : tn Try.prog 43 = some 8 := by kernel_rfl
@[go_sem] theorem tb43 : tb Try.prog 43 = some 64 := by kernel_rfl
@[go_sem] theorem ta43 : ta Try.prog 43 = some true := by kernel_rfl
@[go_sem] theorem tz43 : tz Try.prog 43 = some [.int .i64 0, .int .i64 0, .int .i64 0, .int .i64 0, .int .i64 0, .int .i64 0, .int .i64 0, .int .i64 0] := by kernel_rfl
@[go_sem] theorem tf43_0 : tf Try.prog 43 0 = some 0 := by kernel_rfl
@[go_sem] theorem tf43_1 : tf Try.prog 43 1 = some 1 := by kernel_rfl
@[go_sem] theorem tf43_2 : tf Try.prog 43 2 = some 3 := by kernel_rfl
@[go_sem] theorem tpl43 : tpl Try.prog 43 = some [(0, 1), (1, 2), (3, 5)] := by kernel_rfl
@[go_sem] theorem tfl43_0 : tfl Try.prog 43 0 = some (0, 3) := by kernel_rfl
@[go_sem] theorem tfl43_1 : tfl Try.prog 43 1 = some (1, 38) := by kernel_rfl
@[go_sem] theorem tfl43_2 : tfl Try.prog 43 2 = some (3, 24) := by kernel_rfl
@[go_sem] theorem teg43 : teg Try.prog 43 = false := by kernel_rfl
@[go_sem] theorem tflat43 : flat Try.prog 6 43 = some [some .i64, some .i64, some .i64, some .i64, some .i64, some .i64, some .i64, some .i64] := by kernel_rfl
@[go_sem] theorem tarr43 : tarr Try.prog 43 = none := by kernel_rfl
@[go_sem] theorem tn49 : tn Try.prog 49 = some 1 := by kernel_rfl
@[go_sem] theorem tb49 : tb Try.prog 49 = some 8 := by kernel_rfl
@[go_sem] theorem ta49 : ta Try.prog 49 = some false := by kernel_rfl
@[go_sem] theorem tz49 : tz Try.prog 49 = some [.map none] := by kernel_rfl
@[go_sem] theorem tpl49 : tpl Try.prog 49 = none := by kernel_rfl
@[go_sem] theorem tarr49 : tarr Try.prog 49 = none := by kernel_rfl
@[go_sem] theorem tn72 : tn Try.prog 72 = some 1 := by kernel_rfl
@[go_sem] theorem tb72 : tb Try.prog 72 = some 24 := by kernel_rfl
@[go_sem] theorem ta72 : ta Try.prog 72 = some false := by kernel_rfl
@[go_sem] theorem tz72 : tz Try.prog 72 = some [.slice none 0 0] := by kernel_rfl
@[go_sem] theorem tpl72 : tpl Try.prog 72 = none := by kernel_rfl
@[go_sem] theorem tarr72 : tarr Try.prog 72 = none := by kernel_rfl
@[go_sem] theorem tsl72 : tsl Try.prog 72 = some 3 := by kernel_rfl
@[go_sem] theorem tstr72 : tstr Try.prog 72 = false := by kernel_rfl
@[go_sem] theorem go3 : goes Try.prog 3 = true := by kernel_rfl
@[go_sem] theorem go7 : goes Try.prog 7 = true := by kernel_rfl
@[go_sem] theorem go8 : goes Try.prog 8 = true := by kernel_rfl
@[go_sem] theorem go9 : goes Try.prog 9 = true := by kernel_rfl
@[go_sem] theorem go16 : goes Try.prog 16 = true := by kernel_rfl
@[go_sem] theorem go20 : goes Try.prog 20 = true := by kernel_rfl
@[go_sem] theorem go21 : goes Try.prog 21 = true := by kernel_rfl
@[go_sem] theorem go22 : goes Try.prog 22 = true := by kernel_rfl
@[go_sem] theorem go25 : goes Try.prog 25 = true := by kernel_rfl
@[go_sem] theorem go26 : goes Try.prog 26 = true := by kernel_rfl
@[go_sem] theorem go27 : goes Try.prog 27 = true := by kernel_rfl
@[go_sem] theorem go31 : goes Try.prog 31 = true := by kernel_rfl
@[go_sem] theorem go33 : goes Try.prog 33 = true := by kernel_rfl
@[go_sem] theorem go34 : goes Try.prog 34 = true := by kernel_rfl
@[go_sem] theorem go36 : goes Try.prog 36 = true := by kernel_rfl
@[go_sem] theorem go37 : goes Try.prog 37 = true := by kernel_rfl
@[go_sem] theorem go52 : goes Try.prog 52 = true := by kernel_rfl
@[go_sem] theorem go53 : goes Try.prog 53 = true := by kernel_rfl
@[go_sem] theorem go54 : goes Try.prog 54 = true := by kernel_rfl
@[go_sem] theorem go57 : goes Try.prog 57 = true := by kernel_rfl
@[go_sem] theorem go62 : goes Try.prog 62 = true := by kernel_rfl
def headCodes : List Nat := [104, 97, 114, 110, 101, 115, 115, 32, 52, 52, 50, 50, 54, 56, 51, 98, 57, 54, 49, 56, 100, 52, 54, 51, 97, 102, 97, 53, 52, 100, 99, 53, 48, 97, 52, 48, 99, 51, 56, 55, 55, 57, 56, 53, 98, 49, 53, 53, 48, 54, 97, 101, 54, 55, 100, 51, 55, 50, 49, 99, 50, 99, 52, 99, 98, 57, 99, 99, 98, 48, 99, 57, 32, 99, 117, 116, 32, 97, 116, 32, 99, 111, 110, 99, 108, 97, 118, 101, 47, 99, 111, 110, 99, 108, 97, 118, 101, 108, 97, 119, 46, 80, 97, 120, 111, 115, 67, 104, 111, 115, 101, 110, 115, 32, 99, 111, 110, 99, 108, 97, 118, 101, 47, 99, 111, 110, 99, 108, 97, 118, 101, 108, 97, 119, 46, 67, 117, 114, 118, 101, 83, 104, 97, 114, 101, 100, 115, 32, 99, 111, 110, 99, 108, 97, 118, 101, 47, 99, 111, 110, 99, 108, 97, 118, 101, 108, 97, 119, 46, 67, 117, 114, 118, 101, 80, 111, 105, 110, 116, 115, 32, 99, 111, 110, 99, 108, 97, 118, 101, 47, 99, 111, 110, 99, 108, 97, 118, 101, 108, 97, 119, 46, 80, 97, 120, 111, 115, 65, 99, 99, 101, 112, 116, 115]
theorem wordsT : ∃ rest, Go.behindMainWord (Go.wordsSigns Try.prog.initOrder.toList) = "cut".toList :: rest :=
  cut_words (L := headCodes.map Char.ofNat) (by kernel_rfl) (by kernel_rfl)
theorem makeT : Try.prog.make = some .cut := wordsT.elim fun _ h => cut_make h
theorem liftsT : Try.prog.liftsFinal = false := wordsT.elim fun _ h => cut_lifts h
theorem enterT : Try.prog.mayEnter = true := wordsT.elim fun _ h => cut_enter h (by kernel_rfl) (by kernel_rfl) (by kernel_rfl)
theorem ownKnobT : Go.ownKnob Try.prog.godebug = none := by kernel_rfl
theorem laidOutT : Go.laidOutB Try.prog = true := by kernel_rfl
theorem mixed : Try.prog.follows .mixedOrders = true := by kernel_rfl
end Go.Proofs.Ytiakfdpmapmifaa
