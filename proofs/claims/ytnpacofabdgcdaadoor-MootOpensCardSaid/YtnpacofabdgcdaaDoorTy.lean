/- The tables of this seat's program, in V2's words. Printed by gen_ty.py. -/
import Derived.Test.YtnpacofabdgcdaaDoorRows
import Derived.Test.YtnpacofabdgcdaaDoorV9
import Derived.Test.YtnpacofabdgcdaaDoorW3
import Derived.KernelRfl
namespace Go.Proofs.YtnpacofabdgcdaaDoor
open Go.V
set_option maxRecDepth 100000
@[go_sem] theorem tn1 : tn Tryd.prog 1 = some 1 := by kernel_rfl
@[go_sem] theorem tb1 : tb Tryd.prog 1 = some 8 := by kernel_rfl
@[go_sem] theorem ta1 : ta Tryd.prog 1 = some false := by kernel_rfl
@[go_sem] theorem tz1 : tz Tryd.prog 1 = some [.nilFunc] := by kernel_rfl
@[go_sem] theorem tpl1 : tpl Tryd.prog 1 = none := by kernel_rfl
@[go_sem] theorem tarr1 : tarr Tryd.prog 1 = none := by kernel_rfl
@[go_sem] theorem tn2 : tn Tryd.prog 2 = some 1 := by kernel_rfl
@[go_sem] theorem tb2 : tb Tryd.prog 2 = some 8 := by kernel_rfl
@[go_sem] theorem ta2 : ta Tryd.prog 2 = some false := by kernel_rfl
@[go_sem] theorem tz2 : tz Tryd.prog 2 = some [.int .i64 0] := by kernel_rfl
@[go_sem] theorem tpl2 : tpl Tryd.prog 2 = none := by kernel_rfl
@[go_sem] theorem tarr2 : tarr Tryd.prog 2 = none := by kernel_rfl
@[go_sem] theorem tint2 : tint Tryd.prog 2 = some .i64 := by kernel_rfl
@[go_sem] theorem tn3 : tn Tryd.prog 3 = some 1 := by kernel_rfl
@[go_sem] theorem tb3 : tb Tryd.prog 3 = some 8 := by kernel_rfl
@[go_sem] theorem ta3 : ta Tryd.prog 3 = some false := by kernel_rfl
@[go_sem] theorem tz3 : tz Tryd.prog 3 = some [.int .i64 0] := by kernel_rfl
@[go_sem] theorem tpl3 : tpl Tryd.prog 3 = none := by kernel_rfl
@[go_sem] theorem tarr3 : tarr Tryd.prog 3 = none := by kernel_rfl
@[go_sem] theorem tint3 : tint Tryd.prog 3 = some .i64 := by kernel_rfl
@[go_sem] theorem tn4 : tn Tryd.prog 4 = some 1 := by kernel_rfl
@[go_sem] theorem tb4 : tb Tryd.prog 4 = some 1 := by kernel_rfl
@[go_sem] theorem ta4 : ta Tryd.prog 4 = some false := by kernel_rfl
@[go_sem] theorem tz4 : tz Tryd.prog 4 = some [.bool false] := by kernel_rfl
@[go_sem] theorem tpl4 : tpl Tryd.prog 4 = none := by kernel_rfl
@[go_sem] theorem tarr4 : tarr Tryd.prog 4 = none := by kernel_rfl
@[go_sem] theorem tboo4 : tboo Tryd.prog 4 = true := by kernel_rfl
@[go_sem] theorem tn5 : tn Tryd.prog 5 = some 1 := by kernel_rfl
@[go_sem] theorem tb5 : tb Tryd.prog 5 = some 1 := by kernel_rfl
@[go_sem] theorem ta5 : ta Tryd.prog 5 = some false := by kernel_rfl
@[go_sem] theorem tz5 : tz Tryd.prog 5 = some [.int .u8 0] := by kernel_rfl
@[go_sem] theorem tpl5 : tpl Tryd.prog 5 = none := by kernel_rfl
@[go_sem] theorem tarr5 : tarr Tryd.prog 5 = none := by kernel_rfl
@[go_sem] theorem tint5 : tint Tryd.prog 5 = some .u8 := by kernel_rfl
@[go_sem] theorem tn6 : tn Tryd.prog 6 = some 1 := by kernel_rfl
@[go_sem] theorem tb6 : tb Tryd.prog 6 = some 1 := by kernel_rfl
@[go_sem] theorem ta6 : ta Tryd.prog 6 = some false := by kernel_rfl
@[go_sem] theorem tz6 : tz Tryd.prog 6 = some [.int .u8 0] := by kernel_rfl
@[go_sem] theorem tpl6 : tpl Tryd.prog 6 = none := by kernel_rfl
@[go_sem] theorem tarr6 : tarr Tryd.prog 6 = none := by kernel_rfl
@[go_sem] theorem tint6 : tint Tryd.prog 6 = some .u8 := by kernel_rfl
@[go_sem] theorem tn8 : tn Tryd.prog 8 = some 4 := by kernel_rfl
@[go_sem] theorem tb8 : tb Tryd.prog 8 = some 24 := by kernel_rfl
@[go_sem] theorem ta8 : ta Tryd.prog 8 = some true := by kernel_rfl
@[go_sem] theorem tz8 : tz Tryd.prog 8 = some [.int .i64 0, .int .i64 0, .bool false, .int .u8 0] := by kernel_rfl
@[go_sem] theorem tf8_0 : tf Tryd.prog 8 0 = some 0 := by kernel_rfl
@[go_sem] theorem tf8_1 : tf Tryd.prog 8 1 = some 1 := by kernel_rfl
@[go_sem] theorem tf8_2 : tf Tryd.prog 8 2 = some 2 := by kernel_rfl
@[go_sem] theorem tf8_3 : tf Tryd.prog 8 3 = some 3 := by kernel_rfl
@[go_sem] theorem tpl8 : tpl Tryd.prog 8 = some [(0, 1), (1, 1), (2, 1), (3, 1)] := by kernel_rfl
@[go_sem] theorem tfl8_0 : tfl Tryd.prog 8 0 = some (0, 2) := by kernel_rfl
@[go_sem] theorem tfl8_1 : tfl Tryd.prog 8 1 = some (1, 3) := by kernel_rfl
@[go_sem] theorem tfl8_2 : tfl Tryd.prog 8 2 = some (2, 4) := by kernel_rfl
@[go_sem] theorem tfl8_3 : tfl Tryd.prog 8 3 = some (3, 6) := by kernel_rfl
@[go_sem] theorem teg8 : teg Tryd.prog 8 = false := by kernel_rfl
@[go_sem] theorem tflat8 : flat Tryd.prog 6 8 = some [some .i64, some .i64, none, some .u8] := by kernel_rfl
@[go_sem] theorem tarr8 : tarr Tryd.prog 8 = none := by kernel_rfl
@[go_sem] theorem tn9 : tn Tryd.prog 9 = some 1 := by kernel_rfl
@[go_sem] theorem tb9 : tb Tryd.prog 9 = some 16 := by kernel_rfl
@[go_sem] theorem ta9 : ta Tryd.prog 9 = some false := by kernel_rfl
@[go_sem] theorem tz9 : tz Tryd.prog 9 = some [.string ⟨#[]⟩] := by kernel_rfl
@[go_sem] theorem tpl9 : tpl Tryd.prog 9 = none := by kernel_rfl
@[go_sem] theorem tarr9 : tarr Tryd.prog 9 = none := by kernel_rfl
@[go_sem] theorem tsl9 : tsl Tryd.prog 9 = none := by kernel_rfl
@[go_sem] theorem tstr9 : tstr Tryd.prog 9 = true := by kernel_rfl
@[go_sem] theorem tn23 : tn Tryd.prog 23 = some 3 := by kernel_rfl
@[go_sem] theorem tb23 : tb Tryd.prog 23 = some 24 := by kernel_rfl
@[go_sem] theorem ta23 : ta Tryd.prog 23 = some true := by kernel_rfl
@[go_sem] theorem tz23 : tz Tryd.prog 23 = some [.int .i64 0, .int .i64 0, .int .i64 0] := by kernel_rfl
@[go_sem] theorem tf23_0 : tf Tryd.prog 23 0 = some 0 := by kernel_rfl
@[go_sem] theorem tf23_1 : tf Tryd.prog 23 1 = some 1 := by kernel_rfl
@[go_sem] theorem tf23_2 : tf Tryd.prog 23 2 = some 2 := by kernel_rfl
@[go_sem] theorem tpl23 : tpl Tryd.prog 23 = some [(0, 1), (1, 1), (2, 1)] := by kernel_rfl
@[go_sem] theorem tfl23_0 : tfl Tryd.prog 23 0 = some (0, 3) := by kernel_rfl
@[go_sem] theorem tfl23_1 : tfl Tryd.prog 23 1 = some (1, 3) := by kernel_rfl
@[go_sem] theorem tfl23_2 : tfl Tryd.prog 23 2 = some (2, 3) := by kernel_rfl
@[go_sem] theorem teg23 : teg Tryd.prog 23 = false := by kernel_rfl
@[go_sem] theorem tflat23 : flat Tryd.prog 6 23 = some [some .i64, some .i64, some .i64] := by kernel_rfl
@[go_sem] theorem tarr23 : tarr Tryd.prog 23 = none := by kernel_rfl
@[go_sem] theorem tn25 : tn Tryd.prog 25 = some 5 := by kernel_rfl
@[go_sem] theorem tb25 : tb Tryd.prog 25 = some 40 := by kernel_rfl
@[go_sem] theorem ta25 : ta Tryd.prog 25 = some true := by kernel_rfl
@[go_sem] theorem tz25 : tz Tryd.prog 25 = some [.int .i64 0, .int .i64 0, .int .i64 0, .int .i64 0, .int .i64 0] := by kernel_rfl
@[go_sem] theorem tf25_0 : tf Tryd.prog 25 0 = some 0 := by kernel_rfl
@[go_sem] theorem tf25_1 : tf Tryd.prog 25 1 = some 1 := by kernel_rfl
@[go_sem] theorem tf25_2 : tf Tryd.prog 25 2 = some 2 := by kernel_rfl
@[go_sem] theorem tf25_3 : tf Tryd.prog 25 3 = some 3 := by kernel_rfl
@[go_sem] theorem tf25_4 : tf Tryd.prog 25 4 = some 4 := by kernel_rfl
@[go_sem] theorem tpl25 : tpl Tryd.prog 25 = some [(0, 1), (1, 1), (2, 1), (3, 1), (4, 1)] := by kernel_rfl
@[go_sem] theorem tfl25_0 : tfl Tryd.prog 25 0 = some (0, 3) := by kernel_rfl
@[go_sem] theorem tfl25_1 : tfl Tryd.prog 25 1 = some (1, 3) := by kernel_rfl
@[go_sem] theorem tfl25_2 : tfl Tryd.prog 25 2 = some (2, 3) := by kernel_rfl
@[go_sem] theorem tfl25_3 : tfl Tryd.prog 25 3 = some (3, 3) := by kernel_rfl
@[go_sem] theorem tfl25_4 : tfl Tryd.prog 25 4 = some (4, 3) := by kernel_rfl
@[go_sem] theorem teg25 : teg Tryd.prog 25 = false := by kernel_rfl
@[go_sem] theorem tflat25 : flat Tryd.prog 6 25 = some [some .i64, some .i64, some .i64, some .i64, some .i64] := by kernel_rfl
@[go_sem] theorem tarr25 : tarr Tryd.prog 25 = none := by kernel_rfl
@[go_sem] theorem tn26 : tn Tryd.prog 26 = some 1 := by kernel_rfl
@[go_sem] theorem tb26 : tb Tryd.prog 26 = some 8 := by kernel_rfl
@[go_sem] theorem ta26 : ta Tryd.prog 26 = some false := by kernel_rfl
@[go_sem] theorem tz26 : tz Tryd.prog 26 = some [.int .i64 0] := by kernel_rfl
@[go_sem] theorem tpl26 : tpl Tryd.prog 26 = none := by kernel_rfl
@[go_sem] theorem tarr26 : tarr Tryd.prog 26 = none := by kernel_rfl
@[go_sem] theorem tint26 : tint Tryd.prog 26 = some .i64 := by kernel_rfl
@[go_sem] theorem tn29 : tn Tryd.prog 29 = some 1 := by kernel_rfl
@[go_sem] theorem tb29 : tb Tryd.prog 29 = some 24 := by kernel_rfl
@[go_sem] theorem ta29 : ta Tryd.prog 29 = some false := by kernel_rfl
@[go_sem] theorem tz29 : tz Tryd.prog 29 = some [.slice none 0 0] := by kernel_rfl
@[go_sem] theorem tpl29 : tpl Tryd.prog 29 = none := by kernel_rfl
@[go_sem] theorem tarr29 : tarr Tryd.prog 29 = none := by kernel_rfl
@[go_sem] theorem tsl29 : tsl Tryd.prog 29 = some 5 := by kernel_rfl
@[go_sem] theorem tstr29 : tstr Tryd.prog 29 = false := by kernel_rfl
@[go_sem] theorem tn52 : tn Tryd.prog 52 = some 8 := by kernel_rfl
@[go_sem] theorem tb52 : tb Tryd.prog 52 = some 8 := by kernel_rfl
@[go_sem] theorem ta52 : ta Tryd.prog 52 = some true := by kernel_rfl
@[go_sem] theorem tz52 : tz Tryd.prog 52 = some [.bool false, .bool false, .bool false, .bool false, .bool false, .bool false, .bool false, .bool false] := by kernel_rfl
@[go_sem] theorem tpl52 : tpl Tryd.prog 52 = none := by kernel_rfl
@[go_sem] theorem teg52 : teg Tryd.prog 52 = false := by kernel_rfl
@[go_sem] theorem tflat52 : flat Tryd.prog 6 52 = some [none, none, none, none, none, none, none, none] := by kernel_rfl
@[go_sem] theorem tarr52 : tarr Tryd.prog 52 = some (8, 4) := by kernel_rfl
@[go_sem] theorem tsl52 : tsl Tryd.prog 52 = none := by kernel_rfl
@[go_sem] theorem tstr52 : tstr Tryd.prog 52 = false := by kernel_rfl
@[go_sem] theorem tn64 : tn Tryd.prog 64 = some 2 := by kernel_rfl
@[go_sem] theorem tb64 : tb Tryd.prog 64 = some 32 := by kernel_rfl
@[go_sem] theorem ta64 : ta Tryd.prog 64 = some true := by kernel_rfl
@[go_sem] theorem tz64 : tz Tryd.prog 64 = some [.slice none 0 0, .int .i64 0] := by kernel_rfl
@[go_sem] theorem tf64_0 : tf Tryd.prog 64 0 = some 0 := by kernel_rfl
@[go_sem] theorem tf64_1 : tf Tryd.prog 64 1 = some 1 := by kernel_rfl
@[go_sem] theorem tpl64 : tpl Tryd.prog 64 = some [(0, 1), (1, 1)] := by kernel_rfl
@[go_sem] theorem tfl64_0 : tfl Tryd.prog 64 0 = some (0, 29) := by kernel_rfl
@[go_sem] theorem tfl64_1 : tfl Tryd.prog 64 1 = some (1, 3) := by kernel_rfl
@[go_sem] theorem teg64 : teg Tryd.prog 64 = false := by kernel_rfl
@[go_sem] theorem tarr64 : tarr Tryd.prog 64 = none := by kernel_rfl
@[go_sem] theorem tn101 : tn Tryd.prog 101 = some 4 := by kernel_rfl
@[go_sem] theorem tb101 : tb Tryd.prog 101 = some 32 := by kernel_rfl
@[go_sem] theorem ta101 : ta Tryd.prog 101 = some true := by kernel_rfl
@[go_sem] theorem tz101 : tz Tryd.prog 101 = some [.int .i64 0, .int .i64 0, .int .i64 0, .int .i64 0] := by kernel_rfl
@[go_sem] theorem tpl101 : tpl Tryd.prog 101 = none := by kernel_rfl
@[go_sem] theorem teg101 : teg Tryd.prog 101 = false := by kernel_rfl
@[go_sem] theorem tflat101 : flat Tryd.prog 6 101 = some [some .i64, some .i64, some .i64, some .i64] := by kernel_rfl
@[go_sem] theorem tarr101 : tarr Tryd.prog 101 = some (4, 3) := by kernel_rfl
@[go_sem] theorem tsl101 : tsl Tryd.prog 101 = none := by kernel_rfl
@[go_sem] theorem tstr101 : tstr Tryd.prog 101 = false := by kernel_rfl
@[go_sem] theorem tn143 : tn Tryd.prog 143 = some 11 := by kernel_rfl
@[go_sem] theorem tb143 : tb Tryd.prog 143 = some 48 := by kernel_rfl
@[go_sem] theorem ta143 : ta Tryd.prog 143 = some true := by kernel_rfl
@[go_sem] theorem tz143 : tz Tryd.prog 143 = some [.slice none 0 0, .int .i64 0, .int .i64 0, .bool false, .bool false, .bool false, .bool false, .bool false, .bool false, .bool false, .bool false] := by kernel_rfl
@[go_sem] theorem tf143_0 : tf Tryd.prog 143 0 = some 0 := by kernel_rfl
@[go_sem] theorem tf143_1 : tf Tryd.prog 143 1 = some 1 := by kernel_rfl
@[go_sem] theorem tf143_2 : tf Tryd.prog 143 2 = some 2 := by kernel_rfl
@[go_sem] theorem tf143_3 : tf Tryd.prog 143 3 = some 3 := by kernel_rfl
@[go_sem] theorem tpl143 : tpl Tryd.prog 143 = some [(0, 1), (1, 1), (2, 1), (3, 8)] := by kernel_rfl
@[go_sem] theorem tfl143_0 : tfl Tryd.prog 143 0 = some (0, 29) := by kernel_rfl
@[go_sem] theorem tfl143_1 : tfl Tryd.prog 143 1 = some (1, 3) := by kernel_rfl
@[go_sem] theorem tfl143_2 : tfl Tryd.prog 143 2 = some (2, 3) := by kernel_rfl
@[go_sem] theorem tfl143_3 : tfl Tryd.prog 143 3 = some (3, 52) := by kernel_rfl
@[go_sem] theorem teg143 : teg Tryd.prog 143 = false := by kernel_rfl
@[go_sem] theorem tarr143 : tarr Tryd.prog 143 = none := by kernel_rfl
@[go_sem] theorem tn151 : tn Tryd.prog 151 = some 1 := by kernel_rfl
@[go_sem] theorem tb151 : tb Tryd.prog 151 = some 4 := by kernel_rfl
@[go_sem] theorem ta151 : ta Tryd.prog 151 = some false := by kernel_rfl
@[go_sem] theorem tz151 : tz Tryd.prog 151 = some [.int .u32 0] := by kernel_rfl
@[go_sem] theorem tpl151 : tpl Tryd.prog 151 = none := by kernel_rfl
@[go_sem] theorem tarr151 : tarr Tryd.prog 151 = none := by kernel_rfl
@[go_sem] theorem tint151 : tint Tryd.prog 151 = some .u32 := by kernel_rfl
@[go_sem] theorem tn153 : tn Tryd.prog 153 = some 8 := by kernel_rfl
@[go_sem] theorem tb153 : tb Tryd.prog 153 = some 32 := by kernel_rfl
@[go_sem] theorem ta153 : ta Tryd.prog 153 = some true := by kernel_rfl
@[go_sem] theorem tz153 : tz Tryd.prog 153 = some [.int .u32 0, .int .u32 0, .int .u32 0, .int .u32 0, .int .u32 0, .int .u32 0, .int .u32 0, .int .u32 0] := by kernel_rfl
@[go_sem] theorem tpl153 : tpl Tryd.prog 153 = none := by kernel_rfl
@[go_sem] theorem teg153 : teg Tryd.prog 153 = false := by kernel_rfl
@[go_sem] theorem tflat153 : flat Tryd.prog 6 153 = some [some .u32, some .u32, some .u32, some .u32, some .u32, some .u32, some .u32, some .u32] := by kernel_rfl
@[go_sem] theorem tarr153 : tarr Tryd.prog 153 = some (8, 151) := by kernel_rfl
@[go_sem] theorem tsl153 : tsl Tryd.prog 153 = none := by kernel_rfl
@[go_sem] theorem tstr153 : tstr Tryd.prog 153 = false := by kernel_rfl
@[go_sem] theorem tn155 : tn Tryd.prog 155 = some 1 := by kernel_rfl
@[go_sem] theorem tb155 : tb Tryd.prog 155 = some 24 := by kernel_rfl
@[go_sem] theorem ta155 : ta Tryd.prog 155 = some false := by kernel_rfl
@[go_sem] theorem tz155 : tz Tryd.prog 155 = some [.slice none 0 0] := by kernel_rfl
@[go_sem] theorem tpl155 : tpl Tryd.prog 155 = none := by kernel_rfl
@[go_sem] theorem tarr155 : tarr Tryd.prog 155 = none := by kernel_rfl
@[go_sem] theorem tsl155 : tsl Tryd.prog 155 = some 3 := by kernel_rfl
@[go_sem] theorem tstr155 : tstr Tryd.prog 155 = false := by kernel_rfl
@[go_sem] theorem tn159 : tn Tryd.prog 159 = some 1 := by kernel_rfl
@[go_sem] theorem tb159 : tb Tryd.prog 159 = some 8 := by kernel_rfl
@[go_sem] theorem ta159 : ta Tryd.prog 159 = some false := by kernel_rfl
@[go_sem] theorem tz159 : tz Tryd.prog 159 = some [.pointer none] := by kernel_rfl
@[go_sem] theorem tpl159 : tpl Tryd.prog 159 = none := by kernel_rfl
@[go_sem] theorem tarr159 : tarr Tryd.prog 159 = none := by kernel_rfl
@[go_sem] theorem tn183 : tn Tryd.prog 183 = some 5 := by kernel_rfl
@[go_sem] theorem tb183 : tb Tryd.prog 183 = some 40 := by kernel_rfl
@[go_sem] theorem ta183 : ta Tryd.prog 183 = some true := by kernel_rfl
@[go_sem] theorem tz183 : tz Tryd.prog 183 = some [.pointer none, .pointer none, .pointer none, .pointer none, .pointer none] := by kernel_rfl
@[go_sem] theorem tpl183 : tpl Tryd.prog 183 = none := by kernel_rfl
@[go_sem] theorem teg183 : teg Tryd.prog 183 = false := by kernel_rfl
@[go_sem] theorem tarr183 : tarr Tryd.prog 183 = some (5, 159) := by kernel_rfl
@[go_sem] theorem tsl183 : tsl Tryd.prog 183 = none := by kernel_rfl
@[go_sem] theorem tstr183 : tstr Tryd.prog 183 = false := by kernel_rfl
@[go_sem] theorem tn185 : tn Tryd.prog 185 = some 1 := by kernel_rfl
@[go_sem] theorem tb185 : tb Tryd.prog 185 = some 8 := by kernel_rfl
@[go_sem] theorem ta185 : ta Tryd.prog 185 = some false := by kernel_rfl
@[go_sem] theorem tz185 : tz Tryd.prog 185 = some [.pointer none] := by kernel_rfl
@[go_sem] theorem tpl185 : tpl Tryd.prog 185 = none := by kernel_rfl
@[go_sem] theorem tarr185 : tarr Tryd.prog 185 = none := by kernel_rfl
@[go_sem] theorem tn201 : tn Tryd.prog 201 = some 1 := by kernel_rfl
@[go_sem] theorem tb201 : tb Tryd.prog 201 = some 8 := by kernel_rfl
@[go_sem] theorem ta201 : ta Tryd.prog 201 = some false := by kernel_rfl
@[go_sem] theorem tz201 : tz Tryd.prog 201 = some [.pointer none] := by kernel_rfl
@[go_sem] theorem tpl201 : tpl Tryd.prog 201 = none := by kernel_rfl
@[go_sem] theorem tarr201 : tarr Tryd.prog 201 = none := by kernel_rfl
@[go_sem] theorem tn202 : tn Tryd.prog 202 = some 64 := by kernel_rfl
@[go_sem] theorem tb202 : tb Tryd.prog 202 = some 256 := by kernel_rfl
@[go_sem] theorem ta202 : ta Tryd.prog 202 = some true := by kernel_rfl
@[go_sem] theorem tz202 : tz Tryd.prog 202 = some [.int .u32 0, .int .u32 0, .int .u32 0, .int .u32 0, .int .u32 0, .int .u32 0, .int .u32 0, .int .u32 0, .int .u32 0, .int .u32 0, .int .u32 0, .int .u32 0, .int .u32 0, .int .u32 0, .int .u32 0, .int .u32 0, .int .u32 0, .int .u32 0, .int .u32 0, .int .u32 0, .int .u32 0, .int .u32 0, .int .u32 0, .int .u32 0, .int .u32 0, .int .u32 0, .int .u32 0, .int .u32 0, .int .u32 0, .int .u32 0, .int .u32 0, .int .u32 0, .int .u32 0, .int .u32 0, .int .u32 0, .int .u32 0, .int .u32 0, .int .u32 0, .int .u32 0, .int .u32 0, .int .u32 0, .int .u32 0, .int .u32 0, .int .u32 0, .int .u32 0, .int .u32 0, .int .u32 0, .int .u32 0, .int .u32 0, .int .u32 0, .int .u32 0, .int .u32 0, .int .u32 0, .int .u32 0, .int .u32 0, .int .u32 0, .int .u32 0, .int .u32 0, .int .u32 0, .int .u32 0, .int .u32 0, .int .u32 0, .int .u32 0, .int .u32 0] := by kernel_rfl
@[go_sem] theorem tpl202 : tpl Tryd.prog 202 = none := by kernel_rfl
@[go_sem] theorem teg202 : teg Tryd.prog 202 = false := by kernel_rfl
@[go_sem] theorem tflat202 : flat Tryd.prog 6 202 = some [some .u32, some .u32, some .u32, some .u32, some .u32, some .u32, some .u32, some .u32, some .u32, some .u32, some .u32, some .u32, some .u32, some .u32, some .u32, some .u32, some .u32, some .u32, some .u32, some .u32, some .u32, some .u32, some .u32, some .u32, some .u32, some .u32, some .u32, some .u32, some .u32, some .u32, some .u32, some .u32, some .u32, some .u32, some .u32, some .u32, some .u32, some .u32, some .u32, some .u32, some .u32, some .u32, some .u32, some .u32, some .u32, some .u32, some .u32, some .u32, some .u32, some .u32, some .u32, some .u32, some .u32, some .u32, some .u32, some .u32, some .u32, some .u32, some .u32, some .u32, some .u32, some .u32, some .u32, some .u32] := by kernel_rfl
@[go_sem] theorem tarr202 : tarr Tryd.prog 202 = some (64, 151) := by kernel_rfl
@[go_sem] theorem tsl202 : tsl Tryd.prog 202 = none := by kernel_rfl
@[go_sem] theorem tstr202 : tstr Tryd.prog 202 = false := by kernel_rfl
@[go_sem] theorem tn220 : tn Tryd.prog 220 = some 64 := by kernel_rfl
@[go_sem] theorem tb220 : tb Tryd.prog 220 = some 64 := by kernel_rfl
@[go_sem] theorem ta220 : ta Tryd.prog 220 = some true := by kernel_rfl
@[go_sem] theorem tz220 : tz Tryd.prog 220 = some [.int .u8 0, .int .u8 0, .int .u8 0, .int .u8 0, .int .u8 0, .int .u8 0, .int .u8 0, .int .u8 0, .int .u8 0, .int .u8 0, .int .u8 0, .int .u8 0, .int .u8 0, .int .u8 0, .int .u8 0, .int .u8 0, .int .u8 0, .int .u8 0, .int .u8 0, .int .u8 0, .int .u8 0, .int .u8 0, .int .u8 0, .int .u8 0, .int .u8 0, .int .u8 0, .int .u8 0, .int .u8 0, .int .u8 0, .int .u8 0, .int .u8 0, .int .u8 0, .int .u8 0, .int .u8 0, .int .u8 0, .int .u8 0, .int .u8 0, .int .u8 0, .int .u8 0, .int .u8 0, .int .u8 0, .int .u8 0, .int .u8 0, .int .u8 0, .int .u8 0, .int .u8 0, .int .u8 0, .int .u8 0, .int .u8 0, .int .u8 0, .int .u8 0, .int .u8 0, .int .u8 0, .int .u8 0, .int .u8 0, .int .u8 0, .int .u8 0, .int .u8 0, .int .u8 0, .int .u8 0, .int .u8 0, .int .u8 0, .int .u8 0, .int .u8 0] := by kernel_rfl
@[go_sem] theorem tpl220 : tpl Tryd.prog 220 = none := by kernel_rfl
@[go_sem] theorem teg220 : teg Tryd.prog 220 = false := by kernel_rfl
@[go_sem] theorem tflat220 : flat Tryd.prog 6 220 = some [some .u8, some .u8, some .u8, some .u8, some .u8, some .u8, some .u8, some .u8, some .u8, some .u8, some .u8, some .u8, some .u8, some .u8, some .u8, some .u8, some .u8, some .u8, some .u8, some .u8, some .u8, some .u8, some .u8, some .u8, some .u8, some .u8, some .u8, some .u8, some .u8, some .u8, some .u8, some .u8, some .u8, some .u8, some .u8, some .u8, some .u8, some .u8, some .u8, some .u8, some .u8, some .u8, some .u8, some .u8, some .u8, some .u8, some .u8, some .u8, some .u8, some .u8, some .u8, some .u8, some .u8, some .u8, some .u8, some .u8, some .u8, some .u8, some .u8, some .u8, some .u8, some .u8, some .u8, some .u8] := by kernel_rfl
@[go_sem] theorem tarr220 : tarr Tryd.prog 220 = some (64, 5) := by kernel_rfl
@[go_sem] theorem tsl220 : tsl Tryd.prog 220 = none := by kernel_rfl
@[go_sem] theorem tstr220 : tstr Tryd.prog 220 = false := by kernel_rfl
@[go_sem] theorem tn234 : tn Tryd.prog 234 = some 1 := by kernel_rfl
@[go_sem] theorem tb234 : tb Tryd.prog 234 = some 8 := by kernel_rfl
@[go_sem] theorem ta234 : ta Tryd.prog 234 = some false := by kernel_rfl
@[go_sem] theorem tz234 : tz Tryd.prog 234 = some [.int .u64 0] := by kernel_rfl
@[go_sem] theorem tpl234 : tpl Tryd.prog 234 = none := by kernel_rfl
@[go_sem] theorem tarr234 : tarr Tryd.prog 234 = none := by kernel_rfl
@[go_sem] theorem tint234 : tint Tryd.prog 234 = some .u64 := by kernel_rfl
@[go_sem] theorem tn241 : tn Tryd.prog 241 = some 16 := by kernel_rfl
@[go_sem] theorem tb241 : tb Tryd.prog 241 = some 64 := by kernel_rfl
@[go_sem] theorem ta241 : ta Tryd.prog 241 = some true := by kernel_rfl
@[go_sem] theorem tz241 : tz Tryd.prog 241 = some [.int .u32 0, .int .u32 0, .int .u32 0, .int .u32 0, .int .u32 0, .int .u32 0, .int .u32 0, .int .u32 0, .int .u32 0, .int .u32 0, .int .u32 0, .int .u32 0, .int .u32 0, .int .u32 0, .int .u32 0, .int .u32 0] := by kernel_rfl
@[go_sem] theorem tpl241 : tpl Tryd.prog 241 = none := by kernel_rfl
@[go_sem] theorem teg241 : teg Tryd.prog 241 = false := by kernel_rfl
@[go_sem] theorem tflat241 : flat Tryd.prog 6 241 = some [some .u32, some .u32, some .u32, some .u32, some .u32, some .u32, some .u32, some .u32, some .u32, some .u32, some .u32, some .u32, some .u32, some .u32, some .u32, some .u32] := by kernel_rfl
@[go_sem] theorem tarr241 : tarr Tryd.prog 241 = some (16, 151) := by kernel_rfl
@[go_sem] theorem tsl241 : tsl Tryd.prog 241 = none := by kernel_rfl
@[go_sem] theorem tstr241 : tstr Tryd.prog 241 = false := by kernel_rfl
@[go_sem] theorem tn259 : tn Tryd.prog 259 = some 1 := by kernel_rfl
@[go_sem] theorem tb259 : tb Tryd.prog 259 = some 8 := by kernel_rfl
@[go_sem] theorem ta259 : ta Tryd.prog 259 = some false := by kernel_rfl
@[go_sem] theorem tz259 : tz Tryd.prog 259 = some [.pointer none] := by kernel_rfl
@[go_sem] theorem tpl259 : tpl Tryd.prog 259 = none := by kernel_rfl
@[go_sem] theorem tarr259 : tarr Tryd.prog 259 = none := by kernel_rfl
@[go_sem] theorem tn260 : tn Tryd.prog 260 = some 3 := by kernel_rfl
@[go_sem] theorem tb260 : tb Tryd.prog 260 = some 24 := by kernel_rfl
@[go_sem] theorem ta260 : ta Tryd.prog 260 = some true := by kernel_rfl
@[go_sem] theorem tz260 : tz Tryd.prog 260 = some [.int .i64 0, .int .i64 0, .int .i64 0] := by kernel_rfl
@[go_sem] theorem tpl260 : tpl Tryd.prog 260 = none := by kernel_rfl
@[go_sem] theorem teg260 : teg Tryd.prog 260 = false := by kernel_rfl
@[go_sem] theorem tflat260 : flat Tryd.prog 6 260 = some [some .i64, some .i64, some .i64] := by kernel_rfl
@[go_sem] theorem tarr260 : tarr Tryd.prog 260 = some (3, 3) := by kernel_rfl
@[go_sem] theorem tsl260 : tsl Tryd.prog 260 = none := by kernel_rfl
@[go_sem] theorem tstr260 : tstr Tryd.prog 260 = false := by kernel_rfl
@[go_sem] theorem tn262 : tn Tryd.prog 262 = some 5 := by kernel_rfl
@[go_sem] theorem tb262 : tb Tryd.prog 262 = some 40 := by kernel_rfl
@[go_sem] theorem ta262 : ta Tryd.prog 262 = some true := by kernel_rfl
@[go_sem] theorem tz262 : tz Tryd.prog 262 = some [.int .u64 0, .int .u64 0, .int .u64 0, .int .u64 0, .int .u64 0] := by kernel_rfl
@[go_sem] theorem tpl262 : tpl Tryd.prog 262 = none := by kernel_rfl
@[go_sem] theorem teg262 : teg Tryd.prog 262 = false := by kernel_rfl
@[go_sem] theorem tflat262 : flat Tryd.prog 6 262 = some [some .u64, some .u64, some .u64, some .u64, some .u64] := by kernel_rfl
@[go_sem] theorem tarr262 : tarr Tryd.prog 262 = some (5, 234) := by kernel_rfl
@[go_sem] theorem tsl262 : tsl Tryd.prog 262 = none := by kernel_rfl
@[go_sem] theorem tstr262 : tstr Tryd.prog 262 = false := by kernel_rfl
@[go_sem] theorem tn264 : tn Tryd.prog 264 = some 17 := by kernel_rfl
@[go_sem] theorem tb264 : tb Tryd.prog 264 = some 17 := by kernel_rfl
@[go_sem] theorem ta264 : ta Tryd.prog 264 = some true := by kernel_rfl
@[go_sem] theorem tz264 : tz Tryd.prog 264 = some [.int .u8 0, .int .u8 0, .int .u8 0, .int .u8 0, .int .u8 0, .int .u8 0, .int .u8 0, .int .u8 0, .int .u8 0, .int .u8 0, .int .u8 0, .int .u8 0, .int .u8 0, .int .u8 0, .int .u8 0, .int .u8 0, .int .u8 0] := by kernel_rfl
@[go_sem] theorem tpl264 : tpl Tryd.prog 264 = none := by kernel_rfl
@[go_sem] theorem teg264 : teg Tryd.prog 264 = false := by kernel_rfl
@[go_sem] theorem tflat264 : flat Tryd.prog 6 264 = some [some .u8, some .u8, some .u8, some .u8, some .u8, some .u8, some .u8, some .u8, some .u8, some .u8, some .u8, some .u8, some .u8, some .u8, some .u8, some .u8, some .u8] := by kernel_rfl
@[go_sem] theorem tarr264 : tarr Tryd.prog 264 = some (17, 5) := by kernel_rfl
@[go_sem] theorem tsl264 : tsl Tryd.prog 264 = none := by kernel_rfl
@[go_sem] theorem tstr264 : tstr Tryd.prog 264 = false := by kernel_rfl
@[go_sem] theorem tn282 : tn Tryd.prog 282 = some 1 := by kernel_rfl
@[go_sem] theorem tb282 : tb Tryd.prog 282 = some 8 := by kernel_rfl
@[go_sem] theorem ta282 : ta Tryd.prog 282 = some false := by kernel_rfl
@[go_sem] theorem tz282 : tz Tryd.prog 282 = some [.pointer none] := by kernel_rfl
@[go_sem] theorem tpl282 : tpl Tryd.prog 282 = none := by kernel_rfl
@[go_sem] theorem tarr282 : tarr Tryd.prog 282 = none := by kernel_rfl
@[go_sem] theorem go19 : goes Tryd.prog 19 = true := by kernel_rfl
@[go_sem] theorem go21 : goes Tryd.prog 21 = true := by kernel_rfl
@[go_sem] theorem go22 : goes Tryd.prog 22 = true := by kernel_rfl
@[go_sem] theorem go23 : goes Tryd.prog 23 = true := by kernel_rfl
@[go_sem] theorem go27 : goes Tryd.prog 27 = true := by kernel_rfl
@[go_sem] theorem go29 : goes Tryd.prog 29 = true := by kernel_rfl
@[go_sem] theorem go30 : goes Tryd.prog 30 = true := by kernel_rfl
@[go_sem] theorem go31 : goes Tryd.prog 31 = true := by kernel_rfl
@[go_sem] theorem go32 : goes Tryd.prog 32 = true := by kernel_rfl
@[go_sem] theorem go33 : goes Tryd.prog 33 = true := by kernel_rfl
@[go_sem] theorem go34 : goes Tryd.prog 34 = true := by kernel_rfl
@[go_sem] theorem go37 : goes Tryd.prog 37 = true := by kernel_rfl
@[go_sem] theorem go38 : goes Tryd.prog 38 = true := by kernel_rfl
@[go_sem] theorem go63 : goes Tryd.prog 63 = true := by kernel_rfl
@[go_sem] theorem go64 : goes Tryd.prog 64 = true := by kernel_rfl
@[go_sem] theorem go67 : goes Tryd.prog 67 = true := by kernel_rfl
@[go_sem] theorem go68 : goes Tryd.prog 68 = true := by kernel_rfl
@[go_sem] theorem go69 : goes Tryd.prog 69 = true := by kernel_rfl
@[go_sem] theorem go70 : goes Tryd.prog 70 = true := by kernel_rfl
@[go_sem] theorem go71 : goes Tryd.prog 71 = true := by kernel_rfl
@[go_sem] theorem go72 : goes Tryd.prog 72 = true := by kernel_rfl
@[go_sem] theorem go73 : goes Tryd.prog 73 = true := by kernel_rfl
@[go_sem] theorem go74 : goes Tryd.prog 74 = true := by kernel_rfl
@[go_sem] theorem go75 : goes Tryd.prog 75 = true := by kernel_rfl
@[go_sem] theorem go76 : goes Tryd.prog 76 = true := by kernel_rfl
@[go_sem] theorem go78 : goes Tryd.prog 78 = true := by kernel_rfl
@[go_sem] theorem go79 : goes Tryd.prog 79 = true := by kernel_rfl
@[go_sem] theorem go80 : goes Tryd.prog 80 = true := by kernel_rfl
@[go_sem] theorem go81 : goes Tryd.prog 81 = true := by kernel_rfl
@[go_sem] theorem go84 : goes Tryd.prog 84 = true := by kernel_rfl
@[go_sem] theorem go112 : goes Tryd.prog 112 = true := by kernel_rfl
@[go_sem] theorem go113 : goes Tryd.prog 113 = true := by kernel_rfl
@[go_sem] theorem go114 : goes Tryd.prog 114 = true := by kernel_rfl
@[go_sem] theorem go115 : goes Tryd.prog 115 = true := by kernel_rfl
@[go_sem] theorem go119 : goes Tryd.prog 119 = true := by kernel_rfl
@[go_sem] theorem go120 : goes Tryd.prog 120 = true := by kernel_rfl
@[go_sem] theorem go121 : goes Tryd.prog 121 = true := by kernel_rfl
@[go_sem] theorem go122 : goes Tryd.prog 122 = true := by kernel_rfl
@[go_sem] theorem go142 : goes Tryd.prog 142 = true := by kernel_rfl
@[go_sem] theorem go146 : goes Tryd.prog 146 = true := by kernel_rfl
@[go_sem] theorem go149 : goes Tryd.prog 149 = true := by kernel_rfl
@[go_sem] theorem go150 : goes Tryd.prog 150 = true := by kernel_rfl
@[go_sem] theorem go151 : goes Tryd.prog 151 = true := by kernel_rfl
@[go_sem] theorem go153 : goes Tryd.prog 153 = true := by kernel_rfl
@[go_sem] theorem go154 : goes Tryd.prog 154 = true := by kernel_rfl
@[go_sem] theorem go155 : goes Tryd.prog 155 = true := by kernel_rfl
@[go_sem] theorem go156 : goes Tryd.prog 156 = true := by kernel_rfl
@[go_sem] theorem go157 : goes Tryd.prog 157 = true := by kernel_rfl
@[go_sem] theorem go158 : goes Tryd.prog 158 = true := by kernel_rfl
@[go_sem] theorem go167 : goes Tryd.prog 167 = true := by kernel_rfl
@[go_sem] theorem go168 : goes Tryd.prog 168 = true := by kernel_rfl
@[go_sem] theorem go169 : goes Tryd.prog 169 = true := by kernel_rfl
@[go_sem] theorem go170 : goes Tryd.prog 170 = true := by kernel_rfl
@[go_sem] theorem go171 : goes Tryd.prog 171 = true := by kernel_rfl
@[go_sem] theorem go181 : goes Tryd.prog 181 = true := by kernel_rfl
@[go_sem] theorem go182 : goes Tryd.prog 182 = true := by kernel_rfl
@[go_sem] theorem go183 : goes Tryd.prog 183 = true := by kernel_rfl
@[go_sem] theorem go184 : goes Tryd.prog 184 = true := by kernel_rfl
@[go_sem] theorem go185 : goes Tryd.prog 185 = true := by kernel_rfl
@[go_sem] theorem go186 : goes Tryd.prog 186 = true := by kernel_rfl
@[go_sem] theorem go192 : goes Tryd.prog 192 = true := by kernel_rfl
@[go_sem] theorem go195 : goes Tryd.prog 195 = true := by kernel_rfl
@[go_sem] theorem go196 : goes Tryd.prog 196 = true := by kernel_rfl
@[go_sem] theorem go197 : goes Tryd.prog 197 = true := by kernel_rfl
@[go_sem] theorem go198 : goes Tryd.prog 198 = true := by kernel_rfl
@[go_sem] theorem go199 : goes Tryd.prog 199 = true := by kernel_rfl
@[go_sem] theorem go200 : goes Tryd.prog 200 = true := by kernel_rfl
@[go_sem] theorem go201 : goes Tryd.prog 201 = true := by kernel_rfl
@[go_sem] theorem go202 : goes Tryd.prog 202 = true := by kernel_rfl
@[go_sem] theorem go203 : goes Tryd.prog 203 = true := by kernel_rfl
@[go_sem] theorem go204 : goes Tryd.prog 204 = true := by kernel_rfl
@[go_sem] theorem go205 : goes Tryd.prog 205 = true := by kernel_rfl
@[go_sem] theorem go221 : goes Tryd.prog 221 = true := by kernel_rfl
@[go_sem] theorem go222 : goes Tryd.prog 222 = true := by kernel_rfl
@[go_sem] theorem go223 : goes Tryd.prog 223 = true := by kernel_rfl
@[go_sem] theorem go224 : goes Tryd.prog 224 = true := by kernel_rfl
@[go_sem] theorem go225 : goes Tryd.prog 225 = true := by kernel_rfl
@[go_sem] theorem go226 : goes Tryd.prog 226 = true := by kernel_rfl
@[go_sem] theorem go227 : goes Tryd.prog 227 = true := by kernel_rfl
@[go_sem] theorem go228 : goes Tryd.prog 228 = true := by kernel_rfl
@[go_sem] theorem go229 : goes Tryd.prog 229 = true := by kernel_rfl
@[go_sem] theorem go242 : goes Tryd.prog 242 = true := by kernel_rfl
@[go_sem] theorem go243 : goes Tryd.prog 243 = true := by kernel_rfl
@[go_sem] theorem go244 : goes Tryd.prog 244 = true := by kernel_rfl
@[go_sem] theorem go245 : goes Tryd.prog 245 = true := by kernel_rfl
@[go_sem] theorem go246 : goes Tryd.prog 246 = true := by kernel_rfl
@[go_sem] theorem go247 : goes Tryd.prog 247 = true := by kernel_rfl
@[go_sem] theorem go248 : goes Tryd.prog 248 = true := by kernel_rfl
@[go_sem] theorem go257 : goes Tryd.prog 257 = true := by kernel_rfl
def headCodes : List Nat := [104, 97, 114, 110, 101, 115, 115, 32, 54, 102, 101, 51, 52, 56, 97, 48, 49, 48, 101, 51, 51, 99, 52, 48, 52, 57, 54, 55, 54, 53, 51, 98, 97, 53, 56, 101, 52, 101, 53, 57, 98, 56, 51, 57, 97, 99, 100, 57, 53, 97, 97, 52, 49, 54, 52, 49, 52, 55, 51, 51, 55, 54, 52, 100, 101, 53, 49, 48, 98, 48, 102, 99, 32, 99, 117, 116, 32, 97, 116, 32, 99, 111, 110, 99, 108, 97, 118, 101, 47, 99, 111, 110, 99, 108, 97, 118, 101, 108, 97, 119, 46, 79, 114, 100, 101, 114, 65, 108, 108, 111, 119, 115, 32, 99, 111, 110, 99, 108, 97, 118, 101, 47, 99, 111, 110, 99, 108, 97, 118, 101, 108, 97, 119, 46, 83, 104, 97, 83, 117, 109, 115, 32, 99, 111, 110, 99, 108, 97, 118, 101, 47, 99, 111, 110, 99, 108, 97, 118, 101, 108, 97, 119, 46, 83, 104, 97, 77, 97, 99, 115, 32, 99, 111, 110, 99, 108, 97, 118, 101, 47, 99, 111, 110, 99, 108, 97, 118, 101, 108, 97, 119, 46, 83, 104, 97, 68, 114, 97, 119, 115, 32, 99, 111, 110, 99, 108, 97, 118, 101, 47, 99, 111, 110, 99, 108, 97, 118, 101, 108, 97, 119, 46, 77, 111, 111, 116, 73, 115, 115, 117, 101, 114, 115, 32, 99, 111, 110, 99, 108, 97, 118, 101, 47, 99, 111, 110, 99, 108, 97, 118, 101, 108, 97, 119, 46, 77, 111, 111, 116, 75, 101, 121, 115, 32, 99, 111, 110, 99, 108, 97, 118, 101, 47, 99, 111, 110, 99, 108, 97, 118, 101, 108, 97, 119, 46, 79, 114, 100, 101, 114, 71, 114, 97, 110, 116, 115, 32, 99, 111, 110, 99, 108, 97, 118, 101, 47, 99, 111, 110, 99, 108, 97, 118, 101, 108, 97, 119, 46, 79, 114, 100, 101, 114, 80, 114, 111, 118, 101, 115, 32, 99, 111, 110, 99, 108, 97, 118, 101, 47, 99, 111, 110, 99, 108, 97, 118, 101, 108, 97, 119, 46, 86, 97, 117, 108, 116, 67, 104, 97, 105, 110, 115, 32, 99, 111, 110, 99, 108, 97, 118, 101, 47, 99, 111, 110, 99, 108, 97, 118, 101, 108, 97, 119, 46, 86, 97, 117, 108, 116, 65, 117, 100, 105, 116, 115, 32, 99, 111, 110, 99, 108, 97, 118, 101, 47, 99, 111, 110, 99, 108, 97, 118, 101, 108, 97, 119, 46, 83, 116, 97, 98, 108, 101, 80, 114, 111, 109, 105, 115, 101, 115, 32, 99, 111, 110, 99, 108, 97, 118, 101, 47, 99, 111, 110, 99, 108, 97, 118, 101, 108, 97, 119, 46, 76, 105, 110, 101, 115, 83, 104, 111, 119, 115, 32, 99, 111, 110, 99, 108, 97, 118, 101, 47, 99, 111, 110, 99, 108, 97, 118, 101, 108, 97, 119, 46, 83, 116, 97, 98, 108, 101, 86, 111, 116, 101, 115, 32, 99, 111, 110, 99, 108, 97, 118, 101, 47, 99, 111, 110, 99, 108, 97, 118, 101, 108, 97, 119, 46, 83, 116, 97, 98, 108, 101, 82, 101, 99, 111, 118, 101, 114, 115, 32, 99, 111, 110, 99, 108, 97, 118, 101, 47, 99, 111, 110, 99, 108, 97, 118, 101, 108, 97, 119, 46, 83, 116, 97, 98, 108, 101, 82, 101, 112, 97, 105, 114, 115, 32, 99, 111, 110, 99, 108, 97, 118, 101, 47, 99, 111, 110, 99, 108, 97, 118, 101, 108, 97, 119, 46, 77, 111, 111, 116, 80, 97, 99, 107, 115, 32, 99, 111, 110, 99, 108, 97, 118, 101, 47, 99, 111, 110, 99, 108, 97, 118, 101, 108, 97, 119, 46, 77, 111, 111, 116, 79, 112, 101, 110, 115, 32, 99, 111, 110, 99, 108, 97, 118, 101, 47, 99, 111, 110, 99, 108, 97, 118, 101, 108, 97, 119, 46, 76, 105, 110, 101, 115, 82, 101, 97, 100, 115]
theorem wordsT : ∃ rest, Go.behindMainWord (Go.wordsSigns Tryd.prog.initOrder.toList) = "cut".toList :: rest :=
  cut_words (L := headCodes.map Char.ofNat) (by kernel_rfl) (by kernel_rfl)
theorem makeT : Tryd.prog.make = some .cut := wordsT.elim fun _ h => cut_make h
theorem liftsT : Tryd.prog.liftsFinal = false := wordsT.elim fun _ h => cut_lifts h
theorem enterT : Tryd.prog.mayEnter = true := wordsT.elim fun _ h => cut_enter h (by kernel_rfl) (by kernel_rfl) (by kernel_rfl)
theorem ownKnobT : Go.ownKnob Tryd.prog.godebug = none := by kernel_rfl
theorem laidOutT : Go.laidOutB Tryd.prog = true := by kernel_rfl
theorem mixed : Tryd.prog.follows .mixedOrders = true := by kernel_rfl
end Go.Proofs.YtnpacofabdgcdaaDoor
