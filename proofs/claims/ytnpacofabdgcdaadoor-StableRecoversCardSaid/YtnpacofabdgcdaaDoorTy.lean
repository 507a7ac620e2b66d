/- The tables of this seat's program, in V2's words. Printed by gen_ty.py. -/
import Derived.Test.YtnpacofabdgcdaaDoorRows
import Derived.Test.YtnpacofabdgcdaaDoorV9
import Derived.Test.YtnpacofabdgcdaaDoorW3
import Derived.KernelRfl
namespace Go.Proofs.YtnpacofabdgcdaaDoor
open Go.V
set_option maxRecDepth 100000
@[go_sem] theorem tn1 : tn Tryd.prog 1 = some 1 := by kernel_rfl
@[go_sem] theorem tb1 : tb Tryd.prog 1 = some 8 := by kernel_rfl
@[go_sem] theorem ta1 : ta Tryd.prog 1 = some false := by kernel_rfl
@[go_sem] theorem tz1 : tz Tryd.prog 1 = some [.nilFunc] := by kernel_rfl
@[go_sem] theorem tpl1 : tpl Tryd.prog 1 = none := by kernel_rfl
@[go_sem] theorem tarr1 : tarr Tryd.prog 1 = none := by kernel_rfl
@[go_sem] theorem tn2 : tn Tryd.prog 2 = some 1 := by kernel_rfl
@[go_sem] theorem tb2 : tb Tryd.prog 2 = some 8 := by kernel_rfl
@[go_sem] theorem ta2 : ta Tryd.prog 2 = some false := by kernel_rfl
@[go_sem] theorem tz2 : tz Tryd.prog 2 = some [.int .i64 0] := by kernel_rfl
@[go_sem] theorem tpl2 : tpl Tryd.prog 2 = none := by kernel_rfl
@[go_sem] theorem tarr2 : tarr Tryd.prog 2 = none := by kernel_rfl
@[go_sem] theorem tint2 : tint Tryd.prog 2 = some .i64 := by kernel_rfl
@[go_sem] theorem tn3 : tn Tryd.prog 3 = some 1 := by kernel_rfl
@[go_sem] theorem tb3 : tb Tryd.prog 3 = some 8 := by kernel_rfl
@[go_sem] theorem ta3 : ta Tryd.prog 3 = some false := by kernel_rfl
@[go_sem] theorem tz3 : tz Tryd.prog 3 = some [.int .i64 0] := by kernel_rfl
@[go_sem] theorem tpl3 : tpl Tryd.prog 3 = none := by kernel_rfl
@[go_sem] theorem tarr3 : tarr Tryd.prog 3 = none := by kernel_rfl
@[go_sem] theorem tint3 : tint Tryd.prog 3 = some .i64 := by kernel_rfl
@[go_sem] theorem tn4 : tn Tryd.prog 4 = some 1 := by kernel_rfl
@[go_sem] theorem tb4 : tb Tryd.prog 4 = some 1 := by kernel_rfl
@[go_sem] theorem ta4 : ta Tryd.prog 4 = some false := by kernel_rfl
@[go_sem] theorem tz4 : tz Tryd.prog 4 = some [.bool false] := by kernel_rfl
@[go_sem] theorem tpl4 : tpl Tryd.prog 4 = none := by kernel_rfl
@[go_sem] theorem tarr4 : tarr Tryd.prog 4 = none := by kernel_rfl
@[go_sem] theorem tboo4 : tboo Tryd.prog 4 = true := by kernel_rfl
@[go_sem] theorem tn5 : tn Tryd.prog 5 = some 1 := by kernel_rfl
@[go_sem] theorem tb5 : tb Tryd.prog 5 = some 1 := by kernel_rfl
@[go_sem] theorem ta5 : ta Tryd.prog 5 = some false := by kernel_rfl
@[go_sem] theorem tz5 : tz Tryd.prog 5 = some [.int .u8 0] := by kernel_rfl
@[go_sem] theorem tpl5 : tpl Tryd.prog 5 = none := by kernel_rfl
@[go_sem] theorem tarr5 : tarr Tryd.prog 5 = none := by kernel_rfl
@[go_sem] theorem tint5 : tint Tryd.prog 5 = some .u8 := by kernel_rfl
@[go_sem] theorem tn6 : tn Tryd.prog 6 = some 1 := by kernel_rfl
@[go_sem] theorem tb6 : tb Tryd.prog 6 = some 1 := by kernel_rfl
@[go_sem] theorem ta6 : ta Tryd.prog 6 = some false := by kernel_rfl
@[go_sem] theorem tz6 : tz Tryd.prog 6 = some [.int .u8 0] := by kernel_rfl
@[go_sem] theorem tpl6 : tpl Tryd.prog 6 = none := by kernel_rfl
@[go_sem] theorem tarr6 : tarr Tryd.prog 6 = none := by kernel_rfl
@[go_sem] theorem tint6 : tint Tryd.prog 6 = some .u8 := by kernel_rfl
@[go_sem] theorem tn7 : tn Tryd.prog 7 = some 4 := by kernel_rfl
@[go_sem] theorem tb7 : tb Tryd.prog 7 = some 24 := by kernel_rfl
@[go_sem] theorem ta7 : ta Tryd.prog 7 = some true := by kernel_rfl
@[go_sem] theorem tz7 : tz Tryd.prog 7 = some [.int .i64 0, .int .i64 0, .bool false, .int .u8 0] := by kernel_rfl
@[go_sem] theorem tf7_0 : tf Tryd.prog 7 0 = some 0 := by kernel_rfl
@[go_sem] theorem tf7_1 : tf Tryd.prog 7 1 = some 1 := by kernel_rfl
@[go_sem] theorem tf7_2 : tf Tryd.prog 7 2 = some 2 := by kernel_rfl
@[go_sem] theorem tf7_3 : tf Tryd.prog 7 3 = some 3 := by kernel_rfl
@[go_sem] theorem tpl7 : tpl Tryd.prog 7 = some [(0, 1), (1, 1), (2, 1), (3, 1)] := by kernel_rfl
@[go_sem] theorem tfl7_0 : tfl Tryd.prog 7 0 = some (0, 2) := by kernel_rfl
@[go_sem] theorem tfl7_1 : tfl Tryd.prog 7 1 = some (1, 3) := by kernel_rfl
@[go_sem] theorem tfl7_2 : tfl Tryd.prog 7 2 = some (2, 4) := by kernel_rfl
@[go_sem] theorem tfl7_3 : tfl Tryd.prog 7 3 = some (3, 6) := by kernel_rfl
@[go_sem] theorem teg7 : teg Tryd.prog 7 = false := by kernel_rfl
@[go_sem] theorem tflat7 : flat Tryd.prog 6 7 = some [some .i64, some .i64, none, some .u8] := by kernel_rfl
@[go_sem] theorem tarr7 : tarr Tryd.prog 7 = none := by kernel_rfl
@[go_sem] theorem tn8 : tn Tryd.prog 8 = some 4 := by kernel_rfl
@[go_sem] theorem tb8 : tb Tryd.prog 8 = some 24 := by kernel_rfl
@[go_sem] theorem ta8 : ta Tryd.prog 8 = some true := by kernel_rfl
@[go_sem] theorem tz8 : tz Tryd.prog 8 = some [.int .i64 0, .int .i64 0, .bool false, .int .u8 0] := by kernel_rfl
@[go_sem] theorem tf8_0 : tf Tryd.prog 8 0 = some 0 := by kernel_rfl
@[go_sem] theorem tf8_1 : tf Tryd.prog 8 1 = some 1 := by kernel_rfl
@[go_sem] theorem tf8_2 : tf Tryd.prog 8 2 = some 2 := by kernel_rfl
@[go_sem] theorem tf8_3 : tf Tryd.prog 8 3 = some 3 := by kernel_rfl
@[go_sem] theorem tpl8 : tpl Tryd.prog 8 = some [(0, 1), (1, 1), (2, 1), (3, 1)] := by kernel_rfl
@[go_sem] theorem tfl8_0 : tfl Tryd.prog 8 0 = some (0, 2) := by kernel_rfl
@[go_sem] theorem tfl8_1 : tfl Tryd.prog 8 1 = some (1, 3) := by kernel_rfl
@[go_sem] theorem tfl8_2 : tfl Tryd.prog 8 2 = some (2, 4) := by kernel_rfl
@[go_sem] theorem tfl8_3 : tfl Tryd.prog 8 3 = some (3, 6) := by kernel_rfl
@[go_sem] theorem teg8 : teg Tryd.prog 8 = false := by kernel_rfl
@[go_sem] theorem tflat8 : flat Tryd.prog 6 8 = some [some .i64, some .i64, none, some .u8] := by kernel_rfl
@[go_sem] theorem tarr8 : tarr Tryd.prog 8 = none := by kernel_rfl
@[go_sem] theorem tn9 : tn Tryd.prog 9 = some 1 := by kernel_rfl
@[go_sem] theorem tb9 : tb Tryd.prog 9 = some 16 := by kernel_rfl
@[go_sem] theorem ta9 : ta Tryd.prog 9 = some false := by kernel_rfl
@[go_sem] theorem tz9 : tz Tryd.prog 9 = some [.string ⟨#[]⟩] := by kernel_rfl
@[go_sem] theorem tpl9 : tpl Tryd.prog 9 = none := by kernel_rfl
@[go_sem] theorem tarr9 : tarr Tryd.prog 9 = none := by kernel_rfl
@[go_sem] theorem tsl9 : tsl Tryd.prog 9 = none := by kernel_rfl
@[go_sem] theorem tstr9 : tstr Tryd.prog 9 = true := by kernel_rfl
@[go_sem] theorem tn10 : tn Tryd.prog 10 = some 1 := by kernel_rfl
@[go_sem] theorem tb10 : tb Tryd.prog 10 = some 16 := by kernel_rfl
@[go_sem] theorem ta10 : ta Tryd.prog 10 = some false := by kernel_rfl
@[go_sem] theorem tz10 : tz Tryd.prog 10 = some [.string ⟨#[]⟩] := by kernel_rfl
@[go_sem] theorem tpl10 : tpl Tryd.prog 10 = none := by kernel_rfl
@[go_sem] theorem tarr10 : tarr Tryd.prog 10 = none := by kernel_rfl
@[go_sem] theorem tsl10 : tsl Tryd.prog 10 = none := by kernel_rfl
@[go_sem] theorem tstr10 : tstr Tryd.prog 10 = true := by kernel_rfl
@[go_sem] theorem tn11 : tn Tryd.prog 11 = some 1 := by kernel_rfl
@[go_sem] theorem tb11 : tb Tryd.prog 11 = some 16 := by kernel_rfl
@[go_sem] theorem ta11 : ta Tryd.prog 11 = some false := by kernel_rfl
@[go_sem] theorem tz11 : tz Tryd.prog 11 = some [.string ⟨#[]⟩] := by kernel_rfl
@[go_sem] theorem tpl11 : tpl Tryd.prog 11 = none := by kernel_rfl
@[go_sem] theorem tarr11 : tarr Tryd.prog 11 = none := by kernel_rfl
@[go_sem] theorem tsl11 : tsl Tryd.prog 11 = none := by kernel_rfl
@[go_sem] theorem tstr11 : tstr Tryd.prog 11 = true := by kernel_rfl
@[go_sem] theorem tn12 : tn Tryd.prog 12 = some 1 := by kernel_rfl
@[go_sem] theorem tb12 : tb Tryd.prog 12 = some 8 := by kernel_rfl
@[go_sem] theorem ta12 : ta Tryd.prog 12 = some false := by kernel_rfl
@[go_sem] theorem tz12 : tz Tryd.prog 12 = some [.int .u64 0] := by kernel_rfl
@[go_sem] theorem tpl12 : tpl Tryd.prog 12 = none := by kernel_rfl
@[go_sem] theorem tarr12 : tarr Tryd.prog 12 = none := by kernel_rfl
@[go_sem] theorem tint12 : tint Tryd.prog 12 = some .u64 := by kernel_rfl
@[go_sem] theorem tn13 : tn Tryd.prog 13 = some 2 := by kernel_rfl
@[go_sem] theorem tb13 : tb Tryd.prog 13 = some 24 := by kernel_rfl
@[go_sem] theorem ta13 : ta Tryd.prog 13 = some true := by kernel_rfl
@[go_sem] theorem tz13 : tz Tryd.prog 13 = some [.string ⟨#[]⟩, .int .u64 0] := by kernel_rfl
@[go_sem] theorem tf13_0 : tf Tryd.prog 13 0 = some 0 := by kernel_rfl
@[go_sem] theorem tf13_1 : tf Tryd.prog 13 1 = some 1 := by kernel_rfl
@[go_sem] theorem tpl13 : tpl Tryd.prog 13 = some [(0, 1), (1, 1)] := by kernel_rfl
@[go_sem] theorem tfl13_0 : tfl Tryd.prog 13 0 = some (0, 9) := by kernel_rfl
@[go_sem] theorem tfl13_1 : tfl Tryd.prog 13 1 = some (1, 12) := by kernel_rfl
@[go_sem] theorem teg13 : teg Tryd.prog 13 = false := by kernel_rfl
@[go_sem] theorem tarr13 : tarr Tryd.prog 13 = none := by kernel_rfl
@[go_sem] theorem tn14 : tn Tryd.prog 14 = some 2 := by kernel_rfl
@[go_sem] theorem tb14 : tb Tryd.prog 14 = some 24 := by kernel_rfl
@[go_sem] theorem ta14 : ta Tryd.prog 14 = some true := by kernel_rfl
@[go_sem] theorem tz14 : tz Tryd.prog 14 = some [.string ⟨#[]⟩, .int .u64 0] := by kernel_rfl
@[go_sem] theorem tf14_0 : tf Tryd.prog 14 0 = some 0 := by kernel_rfl
@[go_sem] theorem tf14_1 : tf Tryd.prog 14 1 = some 1 := by kernel_rfl
@[go_sem] theorem tpl14 : tpl Tryd.prog 14 = some [(0, 1), (1, 1)] := by kernel_rfl
@[go_sem] theorem tfl14_0 : tfl Tryd.prog 14 0 = some (0, 9) := by kernel_rfl
@[go_sem] theorem tfl14_1 : tfl Tryd.prog 14 1 = some (1, 12) := by kernel_rfl
@[go_sem] theorem teg14 : teg Tryd.prog 14 = false := by kernel_rfl
@[go_sem] theorem tarr14 : tarr Tryd.prog 14 = none := by kernel_rfl
@[go_sem] theorem tn15 : tn Tryd.prog 15 = some 1 := by kernel_rfl
@[go_sem] theorem tb15 : tb Tryd.prog 15 = some 8 := by kernel_rfl
@[go_sem] theorem ta15 : ta Tryd.prog 15 = some false := by kernel_rfl
@[go_sem] theorem tz15 : tz Tryd.prog 15 = some [.pointer none] := by kernel_rfl
@[go_sem] theorem tpl15 : tpl Tryd.prog 15 = none := by kernel_rfl
@[go_sem] theorem tarr15 : tarr Tryd.prog 15 = none := by kernel_rfl
@[go_sem] theorem tn16 : tn Tryd.prog 16 = some 1 := by kernel_rfl
@[go_sem] theorem tb16 : tb Tryd.prog 16 = some 8 := by kernel_rfl
@[go_sem] theorem ta16 : ta Tryd.prog 16 = some false := by kernel_rfl
@[go_sem] theorem tz16 : tz Tryd.prog 16 = some [.pointer none] := by kernel_rfl
@[go_sem] theorem tpl16 : tpl Tryd.prog 16 = none := by kernel_rfl
@[go_sem] theorem tarr16 : tarr Tryd.prog 16 = none := by kernel_rfl
@[go_sem] theorem tn17 : tn Tryd.prog 17 = some 1 := by kernel_rfl
@[go_sem] theorem tb17 : tb Tryd.prog 17 = some 8 := by kernel_rfl
@[go_sem] theorem ta17 : ta Tryd.prog 17 = some false := by kernel_rfl
@[go_sem] theorem tz17 : tz Tryd.prog 17 = some [.pointer none] := by kernel_rfl
@[go_sem] theorem tpl17 : tpl Tryd.prog 17 = none := by kernel_rfl
@[go_sem] theorem tarr17 : tarr Tryd.prog 17 = none := by kernel_rfl
@[go_sem] theorem tn18 : tn Tryd.prog 18 = some 1 := by kernel_rfl
@[go_sem] theorem tb18 : tb Tryd.prog 18 = some 8 := by kernel_rfl
@[go_sem] theorem ta18 : ta Tryd.prog 18 = some true := by kernel_rfl
@[go_sem] theorem tz18 : tz Tryd.prog 18 = some [.pointer none] := by kernel_rfl
@[go_sem] theorem tf18_0 : tf Tryd.prog 18 0 = some 0 := by kernel_rfl
@[go_sem] theorem tpl18 : tpl Tryd.prog 18 = some [(0, 1)] := by kernel_rfl
@[go_sem] theorem tfl18_0 : tfl Tryd.prog 18 0 = some (0, 17) := by kernel_rfl
@[go_sem] theorem teg18 : teg Tryd.prog 18 = false := by kernel_rfl
@[go_sem] theorem tarr18 : tarr Tryd.prog 18 = none := by kernel_rfl
@[go_sem] theorem tn19 : tn Tryd.prog 19 = some 1 := by kernel_rfl
@[go_sem] theorem tb19 : tb Tryd.prog 19 = some 8 := by kernel_rfl
@[go_sem] theorem ta19 : ta Tryd.prog 19 = some true := by kernel_rfl
@[go_sem] theorem tz19 : tz Tryd.prog 19 = some [.pointer none] := by kernel_rfl
@[go_sem] theorem tf19_0 : tf Tryd.prog 19 0 = some 0 := by kernel_rfl
@[go_sem] theorem tpl19 : tpl Tryd.prog 19 = some [(0, 1)] := by kernel_rfl
@[go_sem] theorem tfl19_0 : tfl Tryd.prog 19 0 = some (0, 17) := by kernel_rfl
@[go_sem] theorem teg19 : teg Tryd.prog 19 = false := by kernel_rfl
@[go_sem] theorem tarr19 : tarr Tryd.prog 19 = none := by kernel_rfl
@[go_sem] theorem tn20 : tn Tryd.prog 20 = some 1 := by kernel_rfl
@[go_sem] theorem tb20 : tb Tryd.prog 20 = some 16 := by kernel_rfl
@[go_sem] theorem ta20 : ta Tryd.prog 20 = some false := by kernel_rfl
@[go_sem] theorem tz20 : tz Tryd.prog 20 = some [.nilIface] := by kernel_rfl
@[go_sem] theorem tpl20 : tpl Tryd.prog 20 = none := by kernel_rfl
@[go_sem] theorem tarr20 : tarr Tryd.prog 20 = none := by kernel_rfl
@[go_sem] theorem tn21 : tn Tryd.prog 21 = some 1 := by kernel_rfl
@[go_sem] theorem tb21 : tb Tryd.prog 21 = some 4 := by kernel_rfl
@[go_sem] theorem ta21 : ta Tryd.prog 21 = some false := by kernel_rfl
@[go_sem] theorem tz21 : tz Tryd.prog 21 = some [.int .i32 0] := by kernel_rfl
@[go_sem] theorem tpl21 : tpl Tryd.prog 21 = none := by kernel_rfl
@[go_sem] theorem tarr21 : tarr Tryd.prog 21 = none := by kernel_rfl
@[go_sem] theorem tint21 : tint Tryd.prog 21 = some .i32 := by kernel_rfl
@[go_sem] theorem tn22 : tn Tryd.prog 22 = some 3 := by kernel_rfl
@[go_sem] theorem tb22 : tb Tryd.prog 22 = some 24 := by kernel_rfl
@[go_sem] theorem ta22 : ta Tryd.prog 22 = some true := by kernel_rfl
@[go_sem] theorem tz22 : tz Tryd.prog 22 = some [.int .i64 0, .int .i64 0, .int .i64 0] := by kernel_rfl
@[go_sem] theorem tf22_0 : tf Tryd.prog 22 0 = some 0 := by kernel_rfl
@[go_sem] theorem tf22_1 : tf Tryd.prog 22 1 = some 1 := by kernel_rfl
@[go_sem] theorem tf22_2 : tf Tryd.prog 22 2 = some 2 := by kernel_rfl
@[go_sem] theorem tpl22 : tpl Tryd.prog 22 = some [(0, 1), (1, 1), (2, 1)] := by kernel_rfl
@[go_sem] theorem tfl22_0 : tfl Tryd.prog 22 0 = some (0, 3) := by kernel_rfl
@[go_sem] theorem tfl22_1 : tfl Tryd.prog 22 1 = some (1, 3) := by kernel_rfl
@[go_sem] theorem tfl22_2 : tfl Tryd.prog 22 2 = some (2, 3) := by kernel_rfl
@[go_sem] theorem teg22 : teg Tryd.prog 22 = false := by kernel_rfl
@[go_sem] theorem tflat22 : flat Tryd.prog 6 22 = some [some .i64, some .i64, some .i64] := by kernel_rfl
@[go_sem] theorem tarr22 : tarr Tryd.prog 22 = none := by kernel_rfl
@[go_sem] theorem tn23 : tn Tryd.prog 23 = some 3 := by kernel_rfl
@[go_sem] theorem tb23 : tb Tryd.prog 23 = some 24 := by kernel_rfl
@[go_sem] theorem ta23 : ta Tryd.prog 23 = some true := by kernel_rfl
@[go_sem] theorem tz23 : tz Tryd.prog 23 = some [.int .i64 0, .int .i64 0, .int .i64 0] := by kernel_rfl
@[go_sem] theorem tf23_0 : tf Tryd.prog 23 0 = some 0 := by kernel_rfl
@[go_sem] theorem tf23_1 : tf Tryd.prog 23 1 = some 1 := by kernel_rfl
@[go_sem] theorem tf23_2 : tf Tryd.prog 23 2 = some 2 := by kernel_rfl
@[go_sem] theorem tpl23 : tpl Tryd.prog 23 = some [(0, 1), (1, 1), (2, 1)] := by kernel_rfl
@[go_sem] theorem tfl23_0 : tfl Tryd.prog 23 0 = some (0, 3) := by kernel_rfl
@[go_sem] theorem tfl23_1 : tfl Tryd.prog 23 1 = some (1, 3) := by kernel_rfl
@[go_sem] theorem tfl23_2 : tfl Tryd.prog 23 2 = some (2, 3) := by kernel_rfl
@[go_sem] theorem teg23 : teg Tryd.prog 23 = false := by kernel_rfl
@[go_sem] theorem tflat23 : flat Tryd.prog 6 23 = some [some .i64, some .i64, some .i64] := by kernel_rfl
@[go_sem] theorem tarr23 : tarr Tryd.prog 23 = none := by kernel_rfl
@[go_sem] theorem tn24 : tn Tryd.prog 24 = some 5 := by kernel_rfl
@[go_sem] theorem tb24 : tb Tryd.prog 24 = some 40 := by kernel_rfl
@[go_sem] theorem ta24 : ta Tryd.prog 24 = some true := by kernel_rfl
@[go_sem] theorem tz24 : tz Tryd.prog 24 = some [.int .i64 0, .int .i64 0, .int .i64 0, .int .i64 0, .int .i64 0] := by kernel_rfl
@[go_sem] theorem tf24_0 : tf Tryd.prog 24 0 = some 0 := by kernel_rfl
@[go_sem] theorem tf24_1 : tf Tryd.prog 24 1 = some 1 := by kernel_rfl
@[go_sem] theorem tf24_2 : tf Tryd.prog 24 2 = some 2 := by kernel_rfl
@[go_sem] theorem tf24_3 : tf Tryd.prog 24 3 = some 3 := by kernel_rfl
@[go_sem] theorem tf24_4 : tf Tryd.prog 24 4 = some 4 := by kernel_rfl
@[go_sem] theorem tpl24 : tpl Tryd.prog 24 = some [(0, 1), (1, 1), (2, 1), (3, 1), (4, 1)] := by kernel_rfl
@[go_sem] theorem tfl24_0 : tfl Tryd.prog 24 0 = some (0, 3) := by kernel_rfl
@[go_sem] theorem tfl24_1 : tfl Tryd.prog 24 1 = some (1, 3) := by kernel_rfl
@[go_sem] theorem tfl24_2 : tfl Tryd.prog 24 2 = some (2, 3) := by kernel_rfl
@[go_sem] theorem tfl24_3 : tfl Tryd.prog 24 3 = some (3, 3) := by kernel_rfl
@[go_sem] theorem tfl24_4 : tfl Tryd.prog 24 4 = some (4, 3) := by kernel_rfl
@[go_sem] theorem teg24 : teg Tryd.prog 24 = false := by kernel_rfl
@[go_sem] theorem tflat24 : flat Tryd.prog 6 24 = some [some .i64, some .i64, some .i64, some .i64, some .i64] := by kernel_rfl
@[go_sem] theorem tarr24 : tarr Tryd.prog 24 = none := by kernel_rfl
@[go_sem] theorem tn25 : tn Tryd.prog 25 = some 5 := by kernel_rfl
@[go_sem] theorem tb25 : tb Tryd.prog 25 = some 40 := by kernel_rfl
@[go_sem] theorem ta25 : ta Tryd.prog 25 = some true := by kernel_rfl
@[go_sem] theorem tz25 : tz Tryd.prog 25 = some [.int .i64 0, .int .i64 0, .int .i64 0, .int .i64 0, .int .i64 0] := by kernel_rfl
@[go_sem] theorem tf25_0 : tf Tryd.prog 25 0 = some 0 := by kernel_rfl
@[go_sem] theorem tf25_1 : tf Tryd.prog 25 1 = some 1 := by kernel_rfl
@[go_sem] theorem tf25_2 : tf Tryd.prog 25 2 = some 2 := by kernel_rfl
@[go_sem] theorem tf25_3 : tf Tryd.prog 25 3 = some 3 := by kernel_rfl
@[go_sem] theorem tf25_4 : tf Tryd.prog 25 4 = some 4 := by kernel_rfl
@[go_sem] theorem tpl25 : tpl Tryd.prog 25 = some [(0, 1), (1, 1), (2, 1), (3, 1), (4, 1)] := by kernel_rfl
@[go_sem] theorem tfl25_0 : tfl Tryd.prog 25 0 = some (0, 3) := by kernel_rfl
@[go_sem] theorem tfl25_1 : tfl Tryd.prog 25 1 = some (1, 3) := by kernel_rfl
@[go_sem] theorem tfl25_2 : tfl Tryd.prog 25 2 = some (2, 3) := by kernel_rfl
@[go_sem] theorem tfl25_3 : tfl Tryd.prog 25 3 = some (3, 3) := by kernel_rfl
@[go_sem] theorem tfl25_4 : tfl Tryd.prog 25 4 = some (4, 3) := by kernel_rfl
@[go_sem] theorem teg25 : teg Tryd.prog 25 = false := by kernel_rfl
@[go_sem] theorem tflat25 : flat Tryd.prog 6 25 = some [some .i64, some .i64, some .i64, some .i64, some .i64] := by kernel_rfl
@[go_sem] theorem tarr25 : tarr Tryd.prog 25 = none := by kernel_rfl
@[go_sem] theorem tn26 : tn Tryd.prog 26 = some 1 := by kernel_rfl
@[go_sem] theorem tb26 : tb Tryd.prog 26 = some 8 := by kernel_rfl
@[go_sem] theorem ta26 : ta Tryd.prog 26 = some false := by kernel_rfl
@[go_sem] theorem tz26 : tz Tryd.prog 26 = some [.int .i64 0] := by kernel_rfl
@[go_sem] theorem tpl26 : tpl Tryd.prog 26 = none := by kernel_rfl
@[go_sem] theorem tarr26 : tarr Tryd.prog 26 = none := by kernel_rfl
@[go_sem] theorem tint26 : tint Tryd.prog 26 = some .i64 := by kernel_rfl
@[go_sem] theorem tn27 : tn Tryd.prog 27 = some 1 := by kernel_rfl
@[go_sem] theorem tb27 : tb Tryd.prog 27 = some 8 := by kernel_rfl
@[go_sem] theorem ta27 : ta Tryd.prog 27 = some false := by kernel_rfl
@[go_sem] theorem tz27 : tz Tryd.prog 27 = some [.nilFunc] := by kernel_rfl
@[go_sem] theorem tpl27 : tpl Tryd.prog 27 = none := by kernel_rfl
@[go_sem] theorem tarr27 : tarr Tryd.prog 27 = none := by kernel_rfl
@[go_sem] theorem tn28 : tn Tryd.prog 28 = some 1 := by kernel_rfl
@[go_sem] theorem tb28 : tb Tryd.prog 28 = some 8 := by kernel_rfl
@[go_sem] theorem ta28 : ta Tryd.prog 28 = some false := by kernel_rfl
@[go_sem] theorem tz28 : tz Tryd.prog 28 = some [.nilFunc] := by kernel_rfl
@[go_sem] theorem tpl28 : tpl Tryd.prog 28 = none := by kernel_rfl
@[go_sem] theorem tarr28 : tarr Tryd.prog 28 = none := by kernel_rfl
@[go_sem] theorem tn29 : tn Tryd.prog 29 = some 1 := by kernel_rfl
@[go_sem] theorem tb29 : tb Tryd.prog 29 = some 24 := by kernel_rfl
@[go_sem] theorem ta29 : ta Tryd.prog 29 = some false := by kernel_rfl
@[go_sem] theorem tz29 : tz Tryd.prog 29 = some [.slice none 0 0] := by kernel_rfl
@[go_sem] theorem tpl29 : tpl Tryd.prog 29 = none := by kernel_rfl
@[go_sem] theorem tarr29 : tarr Tryd.prog 29 = none := by kernel_rfl
@[go_sem] theorem tsl29 : tsl Tryd.prog 29 = some 5 := by kernel_rfl
@[go_sem] theorem tstr29 : tstr Tryd.prog 29 = false := by kernel_rfl
@[go_sem] theorem tn30 : tn Tryd.prog 30 = some 1 := by kernel_rfl
@[go_sem] theorem tb30 : tb Tryd.prog 30 = some 8 := by kernel_rfl
@[go_sem] theorem ta30 : ta Tryd.prog 30 = some false := by kernel_rfl
@[go_sem] theorem tz30 : tz Tryd.prog 30 = some [.nilFunc] := by kernel_rfl
@[go_sem] theorem tpl30 : tpl Tryd.prog 30 = none := by kernel_rfl
@[go_sem] theorem tarr30 : tarr Tryd.prog 30 = none := by kernel_rfl
@[go_sem] theorem tn32 : tn Tryd.prog 32 = some 1 := by kernel_rfl
@[go_sem] theorem tb32 : tb Tryd.prog 32 = some 8 := by kernel_rfl
@[go_sem] theorem ta32 : ta Tryd.prog 32 = some false := by kernel_rfl
@[go_sem] theorem tz32 : tz Tryd.prog 32 = some [.nilFunc] := by kernel_rfl
@[go_sem] theorem tpl32 : tpl Tryd.prog 32 = none := by kernel_rfl
@[go_sem] theorem tarr32 : tarr Tryd.prog 32 = none := by kernel_rfl
@[go_sem] theorem tn33 : tn Tryd.prog 33 = some 1 := by kernel_rfl
@[go_sem] theorem tb33 : tb Tryd.prog 33 = some 8 := by kernel_rfl
@[go_sem] theorem ta33 : ta Tryd.prog 33 = some false := by kernel_rfl
@[go_sem] theorem tz33 : tz Tryd.prog 33 = some [.nilFunc] := by kernel_rfl
@[go_sem] theorem tpl33 : tpl Tryd.prog 33 = none := by kernel_rfl
@[go_sem] theorem tarr33 : tarr Tryd.prog 33 = none := by kernel_rfl
@[go_sem] theorem tn34 : tn Tryd.prog 34 = some 1 := by kernel_rfl
@[go_sem] theorem tb34 : tb Tryd.prog 34 = some 8 := by kernel_rfl
@[go_sem] theorem ta34 : ta Tryd.prog 34 = some false := by kernel_rfl
@[go_sem] theorem tz34 : tz Tryd.prog 34 = some [.nilFunc] := by kernel_rfl
@[go_sem] theorem tpl34 : tpl Tryd.prog 34 = none := by kernel_rfl
@[go_sem] theorem tarr34 : tarr Tryd.prog 34 = none := by kernel_rfl
@[go_sem] theorem tn35 : tn Tryd.prog 35 = some 1 := by kernel_rfl
@[go_sem] theorem tb35 : tb Tryd.prog 35 = some 8 := by kernel_rfl
@[go_sem] theorem ta35 : ta Tryd.prog 35 = some false := by kernel_rfl
@[go_sem] theorem tz35 : tz Tryd.prog 35 = some [.nilFunc] := by kernel_rfl
@[go_sem] theorem tpl35 : tpl Tryd.prog 35 = none := by kernel_rfl
@[go_sem] theorem tarr35 : tarr Tryd.prog 35 = none := by kernel_rfl
@[go_sem] theorem tn36 : tn Tryd.prog 36 = some 1 := by kernel_rfl
@[go_sem] theorem tb36 : tb Tryd.prog 36 = some 8 := by kernel_rfl
@[go_sem] theorem ta36 : ta Tryd.prog 36 = some false := by kernel_rfl
@[go_sem] theorem tz36 : tz Tryd.prog 36 = some [.nilFunc] := by kernel_rfl
@[go_sem] theorem tpl36 : tpl Tryd.prog 36 = none := by kernel_rfl
@[go_sem] theorem tarr36 : tarr Tryd.prog 36 = none := by kernel_rfl
@[go_sem] theorem tn37 : tn Tryd.prog 37 = some 1 := by kernel_rfl
@[go_sem] theorem tb37 : tb Tryd.prog 37 = some 8 := by kernel_rfl
@[go_sem] theorem ta37 : ta Tryd.prog 37 = some false := by kernel_rfl
@[go_sem] theorem tz37 : tz Tryd.prog 37 = some [.nilFunc] := by kernel_rfl
@[go_sem] theorem tpl37 : tpl Tryd.prog 37 = none := by kernel_rfl
@[go_sem] theorem tarr37 : tarr Tryd.prog 37 = none := by kernel_rfl
@[go_sem] theorem tn38 : tn Tryd.prog 38 = some 1 := by kernel_rfl
@[go_sem] theorem tb38 : tb Tryd.prog 38 = some 8 := by kernel_rfl
@[go_sem] theorem ta38 : ta Tryd.prog 38 = some false := by kernel_rfl
@[go_sem] theorem tz38 : tz Tryd.prog 38 = some [.nilFunc] := by kernel_rfl
@[go_sem] theorem tpl38 : tpl Tryd.prog 38 = none := by kernel_rfl
@[go_sem] theorem tarr38 : tarr Tryd.prog 38 = none := by kernel_rfl
@[go_sem] theorem tn39 : tn Tryd.prog 39 = some 1 := by kernel_rfl
@[go_sem] theorem tb39 : tb Tryd.prog 39 = some 8 := by kernel_rfl
@[go_sem] theorem ta39 : ta Tryd.prog 39 = some false := by kernel_rfl
@[go_sem] theorem tz39 : tz Tryd.prog 39 = some [.nilFunc] := by kernel_rfl
@[go_sem] theorem tpl39 : tpl Tryd.prog 39 = none := by kernel_rfl
@[go_sem] theorem tarr39 : tarr Tryd.prog 39 = none := by kernel_rfl
@[go_sem] theorem tn40 : tn Tryd.prog 40 = some 1 := by kernel_rfl
@[go_sem] theorem tb40 : tb Tryd.prog 40 = some 8 := by kernel_rfl
@[go_sem] theorem ta40 : ta Tryd.prog 40 = some false := by kernel_rfl
@[go_sem] theorem tz40 : tz Tryd.prog 40 = some [.nilFunc] := by kernel_rfl
@[go_sem] theorem tpl40 : tpl Tryd.prog 40 = none := by kernel_rfl
@[go_sem] theorem tarr40 : tarr Tryd.prog 40 = none := by kernel_rfl
@[go_sem] theorem tn41 : tn Tryd.prog 41 = some 1 := by kernel_rfl
@[go_sem] theorem tb41 : tb Tryd.prog 41 = some 8 := by kernel_rfl
@[go_sem] theorem ta41 : ta Tryd.prog 41 = some false := by kernel_rfl
@[go_sem] theorem tz41 : tz Tryd.prog 41 = some [.nilFunc] := by kernel_rfl
@[go_sem] theorem tpl41 : tpl Tryd.prog 41 = none := by kernel_rfl
@[go_sem] theorem tarr41 : tarr Tryd.prog 41 = none := by kernel_rfl
@[go_sem] theorem tn42 : tn Tryd.prog 42 = some 1 := by kernel_rfl
@[go_sem] theorem tb42 : tb Tryd.prog 42 = some 8 := by kernel_rfl
@[go_sem] theorem ta42 : ta Tryd.prog 42 = some false := by kernel_rfl
@[go_sem] theorem tz42 : tz Tryd.prog 42 = some [.nilFunc] := by kernel_rfl
@[go_sem] theorem tpl42 : tpl Tryd.prog 42 = none := by kernel_rfl
@[go_sem] theorem tarr42 : tarr Tryd.prog 42 = none := by kernel_rfl
@[go_sem] theorem tn43 : tn Tryd.prog 43 = some 1 := by kernel_rfl
@[go_sem] theorem tb43 : tb Tryd.prog 43 = some 8 := by kernel_rfl
@[go_sem] theorem ta43 : ta Tryd.prog 43 = some false := by kernel_rfl
@[go_sem] theorem tz43 : tz Tryd.prog 43 = some [.nilFunc] := by kernel_rfl
@[go_sem] theorem tpl43 : tpl Tryd.prog 43 = none := by kernel_rfl
@[go_sem] theorem tarr43 : tarr Tryd.prog 43 = none := by kernel_rfl
@[go_sem] theorem tn45 : tn Tryd.prog 45 = some 1 := by kernel_rfl
@[go_sem] theorem tb45 : tb Tryd.prog 45 = some 8 := by kernel_rfl
@[go_sem] theorem ta45 : ta Tryd.prog 45 = some false := by kernel_rfl
@[go_sem] theorem tz45 : tz Tryd.prog 45 = some [.nilFunc] := by kernel_rfl
@[go_sem] theorem tpl45 : tpl Tryd.prog 45 = none := by kernel_rfl
@[go_sem] theorem tarr45 : tarr Tryd.prog 45 = none := by kernel_rfl
@[go_sem] theorem tn46 : tn Tryd.prog 46 = some 1 := by kernel_rfl
@[go_sem] theorem tb46 : tb Tryd.prog 46 = some 24 := by kernel_rfl
@[go_sem] theorem ta46 : ta Tryd.prog 46 = some false := by kernel_rfl
@[go_sem] theorem tz46 : tz Tryd.prog 46 = some [.slice none 0 0] := by kernel_rfl
@[go_sem] theorem tpl46 : tpl Tryd.prog 46 = none := by kernel_rfl
@[go_sem] theorem tarr46 : tarr Tryd.prog 46 = none := by kernel_rfl
@[go_sem] theorem tsl46 : tsl Tryd.prog 46 = some 25 := by kernel_rfl
@[go_sem] theorem tstr46 : tstr Tryd.prog 46 = false := by kernel_rfl
@[go_sem] theorem tn47 : tn Tryd.prog 47 = some 1 := by kernel_rfl
@[go_sem] theorem tb47 : tb Tryd.prog 47 = some 24 := by kernel_rfl
@[go_sem] theorem ta47 : ta Tryd.prog 47 = some false := by kernel_rfl
@[go_sem] theorem tz47 : tz Tryd.prog 47 = some [.slice none 0 0] := by kernel_rfl
@[go_sem] theorem tpl47 : tpl Tryd.prog 47 = none := by kernel_rfl
@[go_sem] theorem tarr47 : tarr Tryd.prog 47 = none := by kernel_rfl
@[go_sem] theorem tsl47 : tsl Tryd.prog 47 = some 112 := by kernel_rfl
@[go_sem] theorem tstr47 : tstr Tryd.prog 47 = false := by kernel_rfl
@[go_sem] theorem tn48 : tn Tryd.prog 48 = some 8 := by kernel_rfl
@[go_sem] theorem tb48 : tb Tryd.prog 48 = some 64 := by kernel_rfl
@[go_sem] theorem ta48 : ta Tryd.prog 48 = some true := by kernel_rfl
@[go_sem] theorem tz48 : tz Tryd.prog 48 = some [.int .i64 0, .int .i64 0, .int .i64 0, .int .i64 0, .int .i64 0, .int .i64 0, .int .i64 0, .int .i64 0] := by kernel_rfl
@[go_sem] theorem tpl48 : tpl Tryd.prog 48 = none := by kernel_rfl
@[go_sem] theorem teg48 : teg Tryd.prog 48 = false := by kernel_rfl
@[go_sem] theorem tflat48 : flat Tryd.prog 6 48 = some [some .i64, some .i64, some .i64, some .i64, some .i64, some .i64, some .i64, some .i64] := by kernel_rfl
@[go_sem] theorem tarr48 : tarr Tryd.prog 48 = some (8, 3) := by kernel_rfl
@[go_sem] theorem tsl48 : tsl Tryd.prog 48 = none := by kernel_rfl
@[go_sem] theorem tstr48 : tstr Tryd.prog 48 = false := by kernel_rfl
@[go_sem] theorem tn49 : tn Tryd.prog 49 = some 2 := by kernel_rfl
@[go_sem] theorem tb49 : tb Tryd.prog 49 = some 16 := by kernel_rfl
@[go_sem] theorem ta49 : ta Tryd.prog 49 = some true := by kernel_rfl
@[go_sem] theorem tz49 : tz Tryd.prog 49 = some [.int .i64 0, .int .i64 0] := by kernel_rfl
@[go_sem] theorem tf49_0 : tf Tryd.prog 49 0 = some 0 := by kernel_rfl
@[go_sem] theorem tf49_1 : tf Tryd.prog 49 1 = some 1 := by kernel_rfl
@[go_sem] theorem tpl49 : tpl Tryd.prog 49 = some [(0, 1), (1, 1)] := by kernel_rfl
@[go_sem] theorem tfl49_0 : tfl Tryd.prog 49 0 = some (0, 26) := by kernel_rfl
@[go_sem] theorem tfl49_1 : tfl Tryd.prog 49 1 = some (1, 3) := by kernel_rfl
@[go_sem] theorem teg49 : teg Tryd.prog 49 = false := by kernel_rfl
@[go_sem] theorem tflat49 : flat Tryd.prog 6 49 = some [some .i64, some .i64] := by kernel_rfl
@[go_sem] theorem tarr49 : tarr Tryd.prog 49 = none := by kernel_rfl
@[go_sem] theorem tn50 : tn Tryd.prog 50 = some 2 := by kernel_rfl
@[go_sem] theorem tb50 : tb Tryd.prog 50 = some 16 := by kernel_rfl
@[go_sem] theorem ta50 : ta Tryd.prog 50 = some true := by kernel_rfl
@[go_sem] theorem tz50 : tz Tryd.prog 50 = some [.int .i64 0, .int .i64 0] := by kernel_rfl
@[go_sem] theorem tf50_0 : tf Tryd.prog 50 0 = some 0 := by kernel_rfl
@[go_sem] theorem tf50_1 : tf Tryd.prog 50 1 = some 1 := by kernel_rfl
@[go_sem] theorem tpl50 : tpl Tryd.prog 50 = some [(0, 1), (1, 1)] := by kernel_rfl
@[go_sem] theorem tfl50_0 : tfl Tryd.prog 50 0 = some (0, 26) := by kernel_rfl
@[go_sem] theorem tfl50_1 : tfl Tryd.prog 50 1 = some (1, 3) := by kernel_rfl
@[go_sem] theorem teg50 : teg Tryd.prog 50 = false := by kernel_rfl
@[go_sem] theorem tflat50 : flat Tryd.prog 6 50 = some [some .i64, some .i64] := by kernel_rfl
@[go_sem] theorem tarr50 : tarr Tryd.prog 50 = none := by kernel_rfl
@[go_sem] theorem tn51 : tn Tryd.prog 51 = some 16 := by kernel_rfl
@[go_sem] theorem tb51 : tb Tryd.prog 51 = some 128 := by kernel_rfl
@[go_sem] theorem ta51 : ta Tryd.prog 51 = some true := by kernel_rfl
@[go_sem] theorem tz51 : tz Tryd.prog 51 = some [.int .i64 0, .int .i64 0, .int .i64 0, .int .i64 0, .int .i64 0, .int .i64 0, .int .i64 0, .int .i64 0, .int .i64 0, .int .i64 0, .int .i64 0, .int .i64 0, .int .i64 0, .int .i64 0, .int .i64 0, .int .i64 0] := by kernel_rfl
@[go_sem] theorem tpl51 : tpl Tryd.prog 51 = none := by kernel_rfl
@[go_sem] theorem teg51 : teg Tryd.prog 51 = false := by kernel_rfl
@[go_sem] theorem tflat51 : flat Tryd.prog 6 51 = some [some .i64, some .i64, some .i64, some .i64, some .i64, some .i64, some .i64, some .i64, some .i64, some .i64, some .i64, some .i64, some .i64, some .i64, some .i64, some .i64] := by kernel_rfl
@[go_sem] theorem tarr51 : tarr Tryd.prog 51 = some (8, 50) := by kernel_rfl
@[go_sem] theorem tsl51 : tsl Tryd.prog 51 = none := by kernel_rfl
@[go_sem] theorem tstr51 : tstr Tryd.prog 51 = false := by kernel_rfl
@[go_sem] theorem tn52 : tn Tryd.prog 52 = some 8 := by kernel_rfl
@[go_sem] theorem tb52 : tb Tryd.prog 52 = some 8 := by kernel_rfl
@[go_sem] theorem ta52 : ta Tryd.prog 52 = some true := by kernel_rfl
@[go_sem] theorem tz52 : tz Tryd.prog 52 = some [.bool false, .bool false, .bool false, .bool false, .bool false, .bool false, .bool false, .bool false] := by kernel_rfl
@[go_sem] theorem tpl52 : tpl Tryd.prog 52 = none := by kernel_rfl
@[go_sem] theorem teg52 : teg Tryd.prog 52 = false := by kernel_rfl
@[go_sem] theorem tflat52 : flat Tryd.prog 6 52 = some [none, none, none, none, none, none, none, none] := by kernel_rfl
@[go_sem] theorem tarr52 : tarr Tryd.prog 52 = some (8, 4) := by kernel_rfl
@[go_sem] theorem tsl52 : tsl Tryd.prog 52 = none := by kernel_rfl
@[go_sem] theorem tstr52 : tstr Tryd.prog 52 = false := by kernel_rfl
@[go_sem] theorem tn53 : tn Tryd.prog 53 = some 40 := by kernel_rfl
@[go_sem] theorem tb53 : tb Tryd.prog 53 = some 264 := by kernel_rfl
@[go_sem] theorem ta53 : ta Tryd.prog 53 = some true := by kernel_rfl
@[go_sem] theorem tz53 : tz Tryd.prog 53 = some [.int .i64 0, .int .i64 0, .int .i64 0, .int .i64 0, .int .i64 0, .int .i64 0, .int .i64 0, .int .i64 0, .int .i64 0, .int .i64 0, .int .i64 0, .int .i64 0, .int .i64 0, .int .i64 0, .int .i64 0, .int .i64 0, .int .i64 0, .int .i64 0, .int .i64 0, .int .i64 0, .int .i64 0, .int .i64 0, .int .i64 0, .int .i64 0, .int .i64 0, .int .i64 0, .int .i64 0, .int .i64 0, .int .i64 0, .int .i64 0, .int .i64 0, .int .i64 0, .bool false, .bool false, .bool false, .bool false, .bool false, .bool false, .bool false, .bool false] := by kernel_rfl
@[go_sem] theorem tf53_0 : tf Tryd.prog 53 0 = some 0 := by kernel_rfl
@[go_sem] theorem tf53_1 : tf Tryd.prog 53 1 = some 8 := by kernel_rfl
@[go_sem] theorem tf53_2 : tf Tryd.prog 53 2 = some 16 := by kernel_rfl
@[go_sem] theorem tf53_3 : tf Tryd.prog 53 3 = some 32 := by kernel_rfl
@[go_sem] theorem tpl53 : tpl Tryd.prog 53 = some [(0, 8), (8, 8), (16, 16), (32, 8)] := by kernel_rfl
@[go_sem] theorem tfl53_0 : tfl Tryd.prog 53 0 = some (0, 48) := by kernel_rfl
@[go_sem] theorem tfl53_1 : tfl Tryd.prog 53 1 = some (8, 48) := by kernel_rfl
@[go_sem] theorem tfl53_2 : tfl Tryd.prog 53 2 = some (16, 51) := by kernel_rfl
@[go_sem] theorem tfl53_3 : tfl Tryd.prog 53 3 = some (32, 52) := by kernel_rfl
@[go_sem] theorem teg53 : teg Tryd.prog 53 = false := by kernel_rfl
@[go_sem] theorem tflat53 : flat Tryd.prog 6 53 = some [some .i64, some .i64, some .i64, some .i64, some .i64, some .i64, some .i64, some .i64, some .i64, some .i64, some .i64, some .i64, some .i64, some .i64, some .i64, some .i64, some .i64, some .i64, some .i64, some .i64, some .i64, some .i64, some .i64, some .i64, some .i64, some .i64, some .i64, some .i64, some .i64, some .i64, some .i64, some .i64, none, none, none, none, none, none, none, none] := by kernel_rfl
@[go_sem] theorem tarr53 : tarr Tryd.prog 53 = none := by kernel_rfl
@[go_sem] theorem tn54 : tn Tryd.prog 54 = some 40 := by kernel_rfl
@[go_sem] theorem tb54 : tb Tryd.prog 54 = some 264 := by kernel_rfl
@[go_sem] theorem ta54 : ta Tryd.prog 54 = some true := by kernel_rfl
@[go_sem] theorem tz54 : tz Tryd.prog 54 = some [.int .i64 0, .int .i64 0, .int .i64 0, .int .i64 0, .int .i64 0, .int .i64 0, .int .i64 0, .int .i64 0, .int .i64 0, .int .i64 0, .int .i64 0, .int .i64 0, .int .i64 0, .int .i64 0, .int .i64 0, .int .i64 0, .int .i64 0, .int .i64 0, .int .i64 0, .int .i64 0, .int .i64 0, .int .i64 0, .int .i64 0, .int .i64 0, .int .i64 0, .int .i64 0, .int .i64 0, .int .i64 0, .int .i64 0, .int .i64 0, .int .i64 0, .int .i64 0, .bool false, .bool false, .bool false, .bool false, .bool false, .bool false, .bool false, .bool false] := by kernel_rfl
@[go_sem] theorem tf54_0 : tf Tryd.prog 54 0 = some 0 := by kernel_rfl
@[go_sem] theorem tf54_1 : tf Tryd.prog 54 1 = some 8 := by kernel_rfl
@[go_sem] theorem tf54_2 : tf Tryd.prog 54 2 = some 16 := by kernel_rfl
@[go_sem] theorem tf54_3 : tf Tryd.prog 54 3 = some 32 := by kernel_rfl
@[go_sem] theorem tpl54 : tpl Tryd.prog 54 = some [(0, 8), (8, 8), (16, 16), (32, 8)] := by kernel_rfl
@[go_sem] theorem tfl54_0 : tfl Tryd.prog 54 0 = some (0, 48) := by kernel_rfl
@[go_sem] theorem tfl54_1 : tfl Tryd.prog 54 1 = some (8, 48) := by kernel_rfl
@[go_sem] theorem tfl54_2 : tfl Tryd.prog 54 2 = some (16, 51) := by kernel_rfl
@[go_sem] theorem tfl54_3 : tfl Tryd.prog 54 3 = some (32, 52) := by kernel_rfl
@[go_sem] theorem teg54 : teg Tryd.prog 54 = false := by kernel_rfl
@[go_sem] theorem tflat54 : flat Tryd.prog 6 54 = some [some .i64, some .i64, some .i64, some .i64, some .i64, some .i64, some .i64, some .i64, some .i64, some .i64, some .i64, some .i64, some .i64, some .i64, some .i64, some .i64, some .i64, some .i64, some .i64, some .i64, some .i64, some .i64, some .i64, some .i64, some .i64, some .i64, some .i64, some .i64, some .i64, some .i64, some .i64, some .i64, none, none, none, none, none, none, none, none] := by kernel_rfl
@[go_sem] theorem tarr54 : tarr Tryd.prog 54 = none := by kernel_rfl
@[go_sem] theorem tn56 : tn Tryd.prog 56 = some 1 := by kernel_rfl
@[go_sem] theorem tb56 : tb Tryd.prog 56 = some 8 := by kernel_rfl
@[go_sem] theorem ta56 : ta Tryd.prog 56 = some false := by kernel_rfl
@[go_sem] theorem tz56 : tz Tryd.prog 56 = some [.nilFunc] := by kernel_rfl
@[go_sem] theorem tpl56 : tpl Tryd.prog 56 = none := by kernel_rfl
@[go_sem] theorem tarr56 : tarr Tryd.prog 56 = none := by kernel_rfl
@[go_sem] theorem tn57 : tn Tryd.prog 57 = some 1 := by kernel_rfl
@[go_sem] theorem tb57 : tb Tryd.prog 57 = some 8 := by kernel_rfl
@[go_sem] theorem ta57 : ta Tryd.prog 57 = some false := by kernel_rfl
@[go_sem] theorem tz57 : tz Tryd.prog 57 = some [.nilFunc] := by kernel_rfl
@[go_sem] theorem tpl57 : tpl Tryd.prog 57 = none := by kernel_rfl
@[go_sem] theorem tarr57 : tarr Tryd.prog 57 = none := by kernel_rfl
@[go_sem] theorem tn58 : tn Tryd.prog 58 = some 1 := by kernel_rfl
@[go_sem] theorem tb58 : tb Tryd.prog 58 = some 8 := by kernel_rfl
@[go_sem] theorem ta58 : ta Tryd.prog 58 = some false := by kernel_rfl
@[go_sem] theorem tz58 : tz Tryd.prog 58 = some [.nilFunc] := by kernel_rfl
@[go_sem] theorem tpl58 : tpl Tryd.prog 58 = none := by kernel_rfl
@[go_sem] theorem tarr58 : tarr Tryd.prog 58 = none := by kernel_rfl
@[go_sem] theorem tn59 : tn Tryd.prog 59 = some 1 := by kernel_rfl
@[go_sem] theorem tb59 : tb Tryd.prog 59 = some 8 := by kernel_rfl
@[go_sem] theorem ta59 : ta Tryd.prog 59 = some false := by kernel_rfl
@[go_sem] theorem tz59 : tz Tryd.prog 59 = some [.nilFunc] := by kernel_rfl
@[go_sem] theorem tpl59 : tpl Tryd.prog 59 = none := by kernel_rfl
@[go_sem] theorem tarr59 : tarr Tryd.prog 59 = none := by kernel_rfl
@[go_sem] theorem tn60 : tn Tryd.prog 60 = some 1 := by kernel_rfl
@[go_sem] theorem tb60 : tb Tryd.prog 60 = some 8 := by kernel_rfl
@[go_sem] theorem ta60 : ta Tryd.prog 60 = some false := by kernel_rfl
@[go_sem] theorem tz60 : tz Tryd.prog 60 = some [.nilFunc] := by kernel_rfl
@[go_sem] theorem tpl60 : tpl Tryd.prog 60 = none := by kernel_rfl
@[go_sem] theorem tarr60 : tarr Tryd.prog 60 = none := by kernel_rfl
@[go_sem] theorem tn62 : tn Tryd.prog 62 = some 1 := by kernel_rfl
@[go_sem] theorem tb62 : tb Tryd.prog 62 = some 8 := by kernel_rfl
@[go_sem] theorem ta62 : ta Tryd.prog 62 = some false := by kernel_rfl
@[go_sem] theorem tz62 : tz Tryd.prog 62 = some [.nilFunc] := by kernel_rfl
@[go_sem] theorem tpl62 : tpl Tryd.prog 62 = none := by kernel_rfl
@[go_sem] theorem tarr62 : tarr Tryd.prog 62 = none := by kernel_rfl
@[go_sem] theorem tn63 : tn Tryd.prog 63 = some 1 := by kernel_rfl
@[go_sem] theorem tb63 : tb Tryd.prog 63 = some 8 := by kernel_rfl
@[go_sem] theorem ta63 : ta Tryd.prog 63 = some false := by kernel_rfl
@[go_sem] theorem tz63 : tz Tryd.prog 63 = some [.nilFunc] := by kernel_rfl
@[go_sem] theorem tpl63 : tpl Tryd.prog 63 = none := by kernel_rfl
@[go_sem] theorem tarr63 : tarr Tryd.prog 63 = none := by kernel_rfl
@[go_sem] theorem tn64 : tn Tryd.prog 64 = some 2 := by kernel_rfl
@[go_sem] theorem tb64 : tb Tryd.prog 64 = some 32 := by kernel_rfl
@[go_sem] theorem ta64 : ta Tryd.prog 64 = some true := by kernel_rfl
@[go_sem] theorem tz64 : tz Tryd.prog 64 = some [.slice none 0 0, .int .i64 0] := by kernel_rfl
@[go_sem] theorem tf64_0 : tf Tryd.prog 64 0 = some 0 := by kernel_rfl
@[go_sem] theorem tf64_1 : tf Tryd.prog 64 1 = some 1 := by kernel_rfl
@[go_sem] theorem tpl64 : tpl Tryd.prog 64 = some [(0, 1), (1, 1)] := by kernel_rfl
@[go_sem] theorem tfl64_0 : tfl Tryd.prog 64 0 = some (0, 29) := by kernel_rfl
@[go_sem] theorem tfl64_1 : tfl Tryd.prog 64 1 = some (1, 3) := by kernel_rfl
@[go_sem] theorem teg64 : teg Tryd.prog 64 = false := by kernel_rfl
@[go_sem] theorem tarr64 : tarr Tryd.prog 64 = none := by kernel_rfl
@[go_sem] theorem tn65 : tn Tryd.prog 65 = some 2 := by kernel_rfl
@[go_sem] theorem tb65 : tb Tryd.prog 65 = some 32 := by kernel_rfl
@[go_sem] theorem ta65 : ta Tryd.prog 65 = some true := by kernel_rfl
@[go_sem] theorem tz65 : tz Tryd.prog 65 = some [.slice none 0 0, .int .i64 0] := by kernel_rfl
@[go_sem] theorem tf65_0 : tf Tryd.prog 65 0 = some 0 := by kernel_rfl
@[go_sem] theorem tf65_1 : tf Tryd.prog 65 1 = some 1 := by kernel_rfl
@[go_sem] theorem tpl65 : tpl Tryd.prog 65 = some [(0, 1), (1, 1)] := by kernel_rfl
@[go_sem] theorem tfl65_0 : tfl Tryd.prog 65 0 = some (0, 29) := by kernel_rfl
@[go_sem] theorem tfl65_1 : tfl Tryd.prog 65 1 = some (1, 3) := by kernel_rfl
@[go_sem] theorem teg65 : teg Tryd.prog 65 = false := by kernel_rfl
@[go_sem] theorem tarr65 : tarr Tryd.prog 65 = none := by kernel_rfl
@[go_sem] theorem tn66 : tn Tryd.prog 66 = some 2 := by kernel_rfl
@[go_sem] theorem tb66 : tb Tryd.prog 66 = some 16 := by kernel_rfl
@[go_sem] theorem ta66 : ta Tryd.prog 66 = some true := by kernel_rfl
@[go_sem] theorem tz66 : tz Tryd.prog 66 = some [.int .i64 0, .int .i64 0] := by kernel_rfl
@[go_sem] theorem tf66_0 : tf Tryd.prog 66 0 = some 0 := by kernel_rfl
@[go_sem] theorem tf66_1 : tf Tryd.prog 66 1 = some 1 := by kernel_rfl
@[go_sem] theorem tpl66 : tpl Tryd.prog 66 = some [(0, 1), (1, 1)] := by kernel_rfl
@[go_sem] theorem tfl66_0 : tfl Tryd.prog 66 0 = some (0, 3) := by kernel_rfl
@[go_sem] theorem tfl66_1 : tfl Tryd.prog 66 1 = some (1, 3) := by kernel_rfl
@[go_sem] theorem teg66 : teg Tryd.prog 66 = false := by kernel_rfl
@[go_sem] theorem tflat66 : flat Tryd.prog 6 66 = some [some .i64, some .i64] := by kernel_rfl
@[go_sem] theorem tarr66 : tarr Tryd.prog 66 = none := by kernel_rfl
@[go_sem] theorem tn67 : tn Tryd.prog 67 = some 2 := by kernel_rfl
@[go_sem] theorem tb67 : tb Tryd.prog 67 = some 16 := by kernel_rfl
@[go_sem] theorem ta67 : ta Tryd.prog 67 = some true := by kernel_rfl
@[go_sem] theorem tz67 : tz Tryd.prog 67 = some [.int .i64 0, .int .i64 0] := by kernel_rfl
@[go_sem] theorem tf67_0 : tf Tryd.prog 67 0 = some 0 := by kernel_rfl
@[go_sem] theorem tf67_1 : tf Tryd.prog 67 1 = some 1 := by kernel_rfl
@[go_sem] theorem tpl67 : tpl Tryd.prog 67 = some [(0, 1), (1, 1)] := by kernel_rfl
@[go_sem] theorem tfl67_0 : tfl Tryd.prog 67 0 = some (0, 3) := by kernel_rfl
@[go_sem] theorem tfl67_1 : tfl Tryd.prog 67 1 = some (1, 3) := by kernel_rfl
@[go_sem] theorem teg67 : teg Tryd.prog 67 = false := by kernel_rfl
@[go_sem] theorem tflat67 : flat Tryd.prog 6 67 = some [some .i64, some .i64] := by kernel_rfl
@[go_sem] theorem tarr67 : tarr Tryd.prog 67 = none := by kernel_rfl
@[go_sem] theorem tn68 : tn Tryd.prog 68 = some 1 := by kernel_rfl
@[go_sem] theorem tb68 : tb Tryd.prog 68 = some 8 := by kernel_rfl
@[go_sem] theorem ta68 : ta Tryd.prog 68 = some false := by kernel_rfl
@[go_sem] theorem tz68 : tz Tryd.prog 68 = some [.nilFunc] := by kernel_rfl
@[go_sem] theorem tpl68 : tpl Tryd.prog 68 = none := by kernel_rfl
@[go_sem] theorem tarr68 : tarr Tryd.prog 68 = none := by kernel_rfl
@[go_sem] theorem tn70 : tn Tryd.prog 70 = some 1 := by kernel_rfl
@[go_sem] theorem tb70 : tb Tryd.prog 70 = some 8 := by kernel_rfl
@[go_sem] theorem ta70 : ta Tryd.prog 70 = some false := by kernel_rfl
@[go_sem] theorem tz70 : tz Tryd.prog 70 = some [.nilFunc] := by kernel_rfl
@[go_sem] theorem tpl70 : tpl Tryd.prog 70 = none := by kernel_rfl
@[go_sem] theorem tarr70 : tarr Tryd.prog 70 = none := by kernel_rfl
@[go_sem] theorem tn71 : tn Tryd.prog 71 = some 1 := by kernel_rfl
@[go_sem] theorem tb71 : tb Tryd.prog 71 = some 8 := by kernel_rfl
@[go_sem] theorem ta71 : ta Tryd.prog 71 = some false := by kernel_rfl
@[go_sem] theorem tz71 : tz Tryd.prog 71 = some [.nilFunc] := by kernel_rfl
@[go_sem] theorem tpl71 : tpl Tryd.prog 71 = none := by kernel_rfl
@[go_sem] theorem tarr71 : tarr Tryd.prog 71 = none := by kernel_rfl
@[go_sem] theorem tn72 : tn Tryd.prog 72 = some 1 := by kernel_rfl
@[go_sem] theorem tb72 : tb Tryd.prog 72 = some 8 := by kernel_rfl
@[go_sem] theorem ta72 : ta Tryd.prog 72 = some false := by kernel_rfl
@[go_sem] theorem tz72 : tz Tryd.prog 72 = some [.nilFunc] := by kernel_rfl
@[go_sem] theorem tpl72 : tpl Tryd.prog 72 = none := by kernel_rfl
@[go_sem] theorem tarr72 : tarr Tryd.prog 72 = none := by kernel_rfl
@[go_sem] theorem tn73 : tn Tryd.prog 73 = some 1 := by kernel_rfl
@[go_sem] theorem tb73 : tb Tryd.prog 73 = some 24 := by kernel_rfl
@[go_sem] theorem ta73 : ta Tryd.prog 73 = some false := by kernel_rfl
@[go_sem] theorem tz73 : tz Tryd.prog 73 = some [.slice none 0 0] := by kernel_rfl
@[go_sem] theorem tpl73 : tpl Tryd.prog 73 = none := by kernel_rfl
@[go_sem] theorem tarr73 : tarr Tryd.prog 73 = none := by kernel_rfl
@[go_sem] theorem tsl73 : tsl Tryd.prog 73 = some 122 := by kernel_rfl
@[go_sem] theorem tstr73 : tstr Tryd.prog 73 = false := by kernel_rfl
@[go_sem] theorem tn74 : tn Tryd.prog 74 = some 1 := by kernel_rfl
@[go_sem] theorem tb74 : tb Tryd.prog 74 = some 8 := by kernel_rfl
@[go_sem] theorem ta74 : ta Tryd.prog 74 = some false := by kernel_rfl
@[go_sem] theorem tz74 : tz Tryd.prog 74 = some [.nilFunc] := by kernel_rfl
@[go_sem] theorem tpl74 : tpl Tryd.prog 74 = none := by kernel_rfl
@[go_sem] theorem tarr74 : tarr Tryd.prog 74 = none := by kernel_rfl
@[go_sem] theorem tn76 : tn Tryd.prog 76 = some 1 := by kernel_rfl
@[go_sem] theorem tb76 : tb Tryd.prog 76 = some 8 := by kernel_rfl
@[go_sem] theorem ta76 : ta Tryd.prog 76 = some false := by kernel_rfl
@[go_sem] theorem tz76 : tz Tryd.prog 76 = some [.nilFunc] := by kernel_rfl
@[go_sem] theorem tpl76 : tpl Tryd.prog 76 = none := by kernel_rfl
@[go_sem] theorem tarr76 : tarr Tryd.prog 76 = none := by kernel_rfl
@[go_sem] theorem tn77 : tn Tryd.prog 77 = some 1 := by kernel_rfl
@[go_sem] theorem tb77 : tb Tryd.prog 77 = some 8 := by kernel_rfl
@[go_sem] theorem ta77 : ta Tryd.prog 77 = some false := by kernel_rfl
@[go_sem] theorem tz77 : tz Tryd.prog 77 = some [.nilFunc] := by kernel_rfl
@[go_sem] theorem tpl77 : tpl Tryd.prog 77 = none := by kernel_rfl
@[go_sem] theorem tarr77 : tarr Tryd.prog 77 = none := by kernel_rfl
@[go_sem] theorem tn78 : tn Tryd.prog 78 = some 1 := by kernel_rfl
@[go_sem] theorem tb78 : tb Tryd.prog 78 = some 8 := by kernel_rfl
@[go_sem] theorem ta78 : ta Tryd.prog 78 = some false := by kernel_rfl
@[go_sem] theorem tz78 : tz Tryd.prog 78 = some [.nilFunc] := by kernel_rfl
@[go_sem] theorem tpl78 : tpl Tryd.prog 78 = none := by kernel_rfl
@[go_sem] theorem tarr78 : tarr Tryd.prog 78 = none := by kernel_rfl
@[go_sem] theorem tn79 : tn Tryd.prog 79 = some 8 := by kernel_rfl
@[go_sem] theorem tb79 : tb Tryd.prog 79 = some 64 := by kernel_rfl
@[go_sem] theorem ta79 : ta Tryd.prog 79 = some true := by kernel_rfl
@[go_sem] theorem tz79 : tz Tryd.prog 79 = some [.int .i64 0, .int .i64 0, .int .i64 0, .int .i64 0, .int .i64 0, .int .i64 0, .int .i64 0, .int .i64 0] := by kernel_rfl
@[go_sem] theorem tf79_0 : tf Tryd.prog 79 0 = some 0 := by kernel_rfl
@[go_sem] theorem tf79_1 : tf Tryd.prog 79 1 = some 1 := by kernel_rfl
@[go_sem] theorem tf79_2 : tf Tryd.prog 79 2 = some 3 := by kernel_rfl
@[go_sem] theorem tpl79 : tpl Tryd.prog 79 = some [(0, 1), (1, 2), (3, 5)] := by kernel_rfl
@[go_sem] theorem tfl79_0 : tfl Tryd.prog 79 0 = some (0, 3) := by kernel_rfl
@[go_sem] theorem tfl79_1 : tfl Tryd.prog 79 1 = some (1, 67) := by kernel_rfl
@[go_sem] theorem tfl79_2 : tfl Tryd.prog 79 2 = some (3, 25) := by kernel_rfl
@[go_sem] theorem teg79 : teg Tryd.prog 79 = false := by kernel_rfl
@[go_sem] theorem tflat79 : flat Tryd.prog 6 79 = some [some .i64, some .i64, some .i64, some .i64, some .i64, some .i64, some .i64, some .i64] := by kernel_rfl
@[go_sem] theorem tarr79 : tarr Tryd.prog 79 = none := by kernel_rfl
@[go_sem] theorem tn80 : tn Tryd.prog 80 = some 8 := by kernel_rfl
@[go_sem] theorem tb80 : tb Tryd.prog 80 = some 64 := by kernel_rfl
@[go_sem] theorem ta80 : ta Tryd.prog 80 = some true := by kernel_rfl
@[go_sem] theorem tz80 : tz Tryd.prog 80 = some [.int .i64 0, .int .i64 0, .int .i64 0, .int .i64 0, .int .i64 0, .int .i64 0, .int .i64 0, .int .i64 0] := by kernel_rfl
@[go_sem] theorem tf80_0 : tf Tryd.prog 80 0 = some 0 := by kernel_rfl
@[go_sem] theorem tf80_1 : tf Tryd.prog 80 1 = some 1 := by kernel_rfl
@[go_sem] theorem tf80_2 : tf Tryd.prog 80 2 = some 3 := by kernel_rfl
@[go_sem] theorem tpl80 : tpl Tryd.prog 80 = some [(0, 1), (1, 2), (3, 5)] := by kernel_rfl
@[go_sem] theorem tfl80_0 : tfl Tryd.prog 80 0 = some (0, 3) := by kernel_rfl
@[go_sem] theorem tfl80_1 : tfl Tryd.prog 80 1 = some (1, 67) := by kernel_rfl
@[go_sem] theorem tfl80_2 : tfl Tryd.prog 80 2 = some (3, 25) := by kernel_rfl
@[go_sem] theorem teg80 : teg Tryd.prog 80 = false := by kernel_rfl
@[go_sem] theorem tflat80 : flat Tryd.prog 6 80 = some [some .i64, some .i64, some .i64, some .i64, some .i64, some .i64, some .i64, some .i64] := by kernel_rfl
@[go_sem] theorem tarr80 : tarr Tryd.prog 80 = none := by kernel_rfl
@[go_sem] theorem tn81 : tn Tryd.prog 81 = some 1 := by kernel_rfl
@[go_sem] theorem tb81 : tb Tryd.prog 81 = some 8 := by kernel_rfl
@[go_sem] theorem ta81 : ta Tryd.prog 81 = some false := by kernel_rfl
@[go_sem] theorem tz81 : tz Tryd.prog 81 = some [.nilFunc] := by kernel_rfl
@[go_sem] theorem tpl81 : tpl Tryd.prog 81 = none := by kernel_rfl
@[go_sem] theorem tarr81 : tarr Tryd.prog 81 = none := by kernel_rfl
@[go_sem] theorem tn82 : tn Tryd.prog 82 = some 1 := by kernel_rfl
@[go_sem] theorem tb82 : tb Tryd.prog 82 = some 8 := by kernel_rfl
@[go_sem] theorem ta82 : ta Tryd.prog 82 = some false := by kernel_rfl
@[go_sem] theorem tz82 : tz Tryd.prog 82 = some [.nilFunc] := by kernel_rfl
@[go_sem] theorem tpl82 : tpl Tryd.prog 82 = none := by kernel_rfl
@[go_sem] theorem tarr82 : tarr Tryd.prog 82 = none := by kernel_rfl
@[go_sem] theorem tn83 : tn Tryd.prog 83 = some 1 := by kernel_rfl
@[go_sem] theorem tb83 : tb Tryd.prog 83 = some 24 := by kernel_rfl
@[go_sem] theorem ta83 : ta Tryd.prog 83 = some false := by kernel_rfl
@[go_sem] theorem tz83 : tz Tryd.prog 83 = some [.slice none 0 0] := by kernel_rfl
@[go_sem] theorem tpl83 : tpl Tryd.prog 83 = none := by kernel_rfl
@[go_sem] theorem tarr83 : tarr Tryd.prog 83 = none := by kernel_rfl
@[go_sem] theorem tsl83 : tsl Tryd.prog 83 = some 80 := by kernel_rfl
@[go_sem] theorem tstr83 : tstr Tryd.prog 83 = false := by kernel_rfl
@[go_sem] theorem tn84 : tn Tryd.prog 84 = some 3 := by kernel_rfl
@[go_sem] theorem tb84 : tb Tryd.prog 84 = some 40 := by kernel_rfl
@[go_sem] theorem ta84 : ta Tryd.prog 84 = some true := by kernel_rfl
@[go_sem] theorem tz84 : tz Tryd.prog 84 = some [.int .i64 0, .int .i64 0, .slice none 0 0] := by kernel_rfl
@[go_sem] theorem tf84_0 : tf Tryd.prog 84 0 = some 0 := by kernel_rfl
@[go_sem] theorem tf84_1 : tf Tryd.prog 84 1 = some 2 := by kernel_rfl
@[go_sem] theorem tpl84 : tpl Tryd.prog 84 = some [(0, 2), (2, 1)] := by kernel_rfl
@[go_sem] theorem tfl84_0 : tfl Tryd.prog 84 0 = some (0, 67) := by kernel_rfl
@[go_sem] theorem tfl84_1 : tfl Tryd.prog 84 1 = some (2, 83) := by kernel_rfl
@[go_sem] theorem teg84 : teg Tryd.prog 84 = false := by kernel_rfl
@[go_sem] theorem tarr84 : tarr Tryd.prog 84 = none := by kernel_rfl
@[go_sem] theorem tn85 : tn Tryd.prog 85 = some 3 := by kernel_rfl
@[go_sem] theorem tb85 : tb Tryd.prog 85 = some 40 := by kernel_rfl
@[go_sem] theorem ta85 : ta Tryd.prog 85 = some true := by kernel_rfl
@[go_sem] theorem tz85 : tz Tryd.prog 85 = some [.int .i64 0, .int .i64 0, .slice none 0 0] := by kernel_rfl
@[go_sem] theorem tf85_0 : tf Tryd.prog 85 0 = some 0 := by kernel_rfl
@[go_sem] theorem tf85_1 : tf Tryd.prog 85 1 = some 2 := by kernel_rfl
@[go_sem] theorem tpl85 : tpl Tryd.prog 85 = some [(0, 2), (2, 1)] := by kernel_rfl
@[go_sem] theorem tfl85_0 : tfl Tryd.prog 85 0 = some (0, 67) := by kernel_rfl
@[go_sem] theorem tfl85_1 : tfl Tryd.prog 85 1 = some (2, 83) := by kernel_rfl
@[go_sem] theorem teg85 : teg Tryd.prog 85 = false := by kernel_rfl
@[go_sem] theorem tarr85 : tarr Tryd.prog 85 = none := by kernel_rfl
@[go_sem] theorem tn87 : tn Tryd.prog 87 = some 1 := by kernel_rfl
@[go_sem] theorem tb87 : tb Tryd.prog 87 = some 8 := by kernel_rfl
@[go_sem] theorem ta87 : ta Tryd.prog 87 = some false := by kernel_rfl
@[go_sem] theorem tz87 : tz Tryd.prog 87 = some [.nilFunc] := by kernel_rfl
@[go_sem] theorem tpl87 : tpl Tryd.prog 87 = none := by kernel_rfl
@[go_sem] theorem tarr87 : tarr Tryd.prog 87 = none := by kernel_rfl
@[go_sem] theorem tn88 : tn Tryd.prog 88 = some 1 := by kernel_rfl
@[go_sem] theorem tb88 : tb Tryd.prog 88 = some 8 := by kernel_rfl
@[go_sem] theorem ta88 : ta Tryd.prog 88 = some false := by kernel_rfl
@[go_sem] theorem tz88 : tz Tryd.prog 88 = some [.nilFunc] := by kernel_rfl
@[go_sem] theorem tpl88 : tpl Tryd.prog 88 = none := by kernel_rfl
@[go_sem] theorem tarr88 : tarr Tryd.prog 88 = none := by kernel_rfl
@[go_sem] theorem tn89 : tn Tryd.prog 89 = some 1 := by kernel_rfl
@[go_sem] theorem tb89 : tb Tryd.prog 89 = some 8 := by kernel_rfl
@[go_sem] theorem ta89 : ta Tryd.prog 89 = some false := by kernel_rfl
@[go_sem] theorem tz89 : tz Tryd.prog 89 = some [.nilFunc] := by kernel_rfl
@[go_sem] theorem tpl89 : tpl Tryd.prog 89 = none := by kernel_rfl
@[go_sem] theorem tarr89 : tarr Tryd.prog 89 = none := by kernel_rfl
@[go_sem] theorem tn90 : tn Tryd.prog 90 = some 1 := by kernel_rfl
@[go_sem] theorem tb90 : tb Tryd.prog 90 = some 8 := by kernel_rfl
@[go_sem] theorem ta90 : ta Tryd.prog 90 = some false := by kernel_rfl
@[go_sem] theorem tz90 : tz Tryd.prog 90 = some [.nilFunc] := by kernel_rfl
@[go_sem] theorem tpl90 : tpl Tryd.prog 90 = none := by kernel_rfl
@[go_sem] theorem tarr90 : tarr Tryd.prog 90 = none := by kernel_rfl
@[go_sem] theorem tn91 : tn Tryd.prog 91 = some 1 := by kernel_rfl
@[go_sem] theorem tb91 : tb Tryd.prog 91 = some 8 := by kernel_rfl
@[go_sem] theorem ta91 : ta Tryd.prog 91 = some false := by kernel_rfl
@[go_sem] theorem tz91 : tz Tryd.prog 91 = some [.nilFunc] := by kernel_rfl
@[go_sem] theorem tpl91 : tpl Tryd.prog 91 = none := by kernel_rfl
@[go_sem] theorem tarr91 : tarr Tryd.prog 91 = none := by kernel_rfl
@[go_sem] theorem tn92 : tn Tryd.prog 92 = some 1 := by kernel_rfl
@[go_sem] theorem tb92 : tb Tryd.prog 92 = some 8 := by kernel_rfl
@[go_sem] theorem ta92 : ta Tryd.prog 92 = some false := by kernel_rfl
@[go_sem] theorem tz92 : tz Tryd.prog 92 = some [.nilFunc] := by kernel_rfl
@[go_sem] theorem tpl92 : tpl Tryd.prog 92 = none := by kernel_rfl
@[go_sem] theorem tarr92 : tarr Tryd.prog 92 = none := by kernel_rfl
@[go_sem] theorem tn94 : tn Tryd.prog 94 = some 1 := by kernel_rfl
@[go_sem] theorem tb94 : tb Tryd.prog 94 = some 8 := by kernel_rfl
@[go_sem] theorem ta94 : ta Tryd.prog 94 = some false := by kernel_rfl
@[go_sem] theorem tz94 : tz Tryd.prog 94 = some [.nilFunc] := by kernel_rfl
@[go_sem] theorem tpl94 : tpl Tryd.prog 94 = none := by kernel_rfl
@[go_sem] theorem tarr94 : tarr Tryd.prog 94 = none := by kernel_rfl
@[go_sem] theorem tn95 : tn Tryd.prog 95 = some 1 := by kernel_rfl
@[go_sem] theorem tb95 : tb Tryd.prog 95 = some 8 := by kernel_rfl
@[go_sem] theorem ta95 : ta Tryd.prog 95 = some false := by kernel_rfl
@[go_sem] theorem tz95 : tz Tryd.prog 95 = some [.nilFunc] := by kernel_rfl
@[go_sem] theorem tpl95 : tpl Tryd.prog 95 = none := by kernel_rfl
@[go_sem] theorem tarr95 : tarr Tryd.prog 95 = none := by kernel_rfl
@[go_sem] theorem tn97 : tn Tryd.prog 97 = some 1 := by kernel_rfl
@[go_sem] theorem tb97 : tb Tryd.prog 97 = some 8 := by kernel_rfl
@[go_sem] theorem ta97 : ta Tryd.prog 97 = some false := by kernel_rfl
@[go_sem] theorem tz97 : tz Tryd.prog 97 = some [.nilFunc] := by kernel_rfl
@[go_sem] theorem tpl97 : tpl Tryd.prog 97 = none := by kernel_rfl
@[go_sem] theorem tarr97 : tarr Tryd.prog 97 = none := by kernel_rfl
@[go_sem] theorem tn98 : tn Tryd.prog 98 = some 1 := by kernel_rfl
@[go_sem] theorem tb98 : tb Tryd.prog 98 = some 8 := by kernel_rfl
@[go_sem] theorem ta98 : ta Tryd.prog 98 = some false := by kernel_rfl
@[go_sem] theorem tz98 : tz Tryd.prog 98 = some [.nilFunc] := by kernel_rfl
@[go_sem] theorem tpl98 : tpl Tryd.prog 98 = none := by kernel_rfl
@[go_sem] theorem tarr98 : tarr Tryd.prog 98 = none := by kernel_rfl
@[go_sem] theorem tn99 : tn Tryd.prog 99 = some 1 := by kernel_rfl
@[go_sem] theorem tb99 : tb Tryd.prog 99 = some 8 := by kernel_rfl
@[go_sem] theorem ta99 : ta Tryd.prog 99 = some false := by kernel_rfl
@[go_sem] theorem tz99 : tz Tryd.prog 99 = some [.nilFunc] := by kernel_rfl
@[go_sem] theorem tpl99 : tpl Tryd.prog 99 = none := by kernel_rfl
@[go_sem] theorem tarr99 : tarr Tryd.prog 99 = none := by kernel_rfl
@[go_sem] theorem tn100 : tn Tryd.prog 100 = some 1 := by kernel_rfl
@[go_sem] theorem tb100 : tb Tryd.prog 100 = some 8 := by kernel_rfl
@[go_sem] theorem ta100 : ta Tryd.prog 100 = some false := by kernel_rfl
@[go_sem] theorem tz100 : tz Tryd.prog 100 = some [.nilFunc] := by kernel_rfl
@[go_sem] theorem tpl100 : tpl Tryd.prog 100 = none := by kernel_rfl
@[go_sem] theorem tarr100 : tarr Tryd.prog 100 = none := by kernel_rfl
@[go_sem] theorem tn101 : tn Tryd.prog 101 = some 4 := by kernel_rfl
@[go_sem] theorem tb101 : tb Tryd.prog 101 = some 32 := by kernel_rfl
@[go_sem] theorem ta101 : ta Tryd.prog 101 = some true := by kernel_rfl
@[go_sem] theorem tz101 : tz Tryd.prog 101 = some [.int .i64 0, .int .i64 0, .int .i64 0, .int .i64 0] := by kernel_rfl
@[go_sem] theorem tpl101 : tpl Tryd.prog 101 = none := by kernel_rfl
@[go_sem] theorem teg101 : teg Tryd.prog 101 = false := by kernel_rfl
@[go_sem] theorem tflat101 : flat Tryd.prog 6 101 = some [some .i64, some .i64, some .i64, some .i64] := by kernel_rfl
@[go_sem] theorem tarr101 : tarr Tryd.prog 101 = some (4, 3) := by kernel_rfl
@[go_sem] theorem tsl101 : tsl Tryd.prog 101 = none := by kernel_rfl
@[go_sem] theorem tstr101 : tstr Tryd.prog 101 = false := by kernel_rfl
@[go_sem] theorem tn102 : tn Tryd.prog 102 = some 1 := by kernel_rfl
@[go_sem] theorem tb102 : tb Tryd.prog 102 = some 8 := by kernel_rfl
@[go_sem] theorem ta102 : ta Tryd.prog 102 = some false := by kernel_rfl
@[go_sem] theorem tz102 : tz Tryd.prog 102 = some [.nilFunc] := by kernel_rfl
@[go_sem] theorem tpl102 : tpl Tryd.prog 102 = none := by kernel_rfl
@[go_sem] theorem tarr102 : tarr Tryd.prog 102 = none := by kernel_rfl
@[go_sem] theorem tn103 : tn Tryd.prog 103 = some 1 := by kernel_rfl
@[go_sem] theorem tb103 : tb Tryd.prog 103 = some 8 := by kernel_rfl
@[go_sem] theorem ta103 : ta Tryd.prog 103 = some false := by kernel_rfl
@[go_sem] theorem tz103 : tz Tryd.prog 103 = some [.nilFunc] := by kernel_rfl
@[go_sem] theorem tpl103 : tpl Tryd.prog 103 = none := by kernel_rfl
@[go_sem] theorem tarr103 : tarr Tryd.prog 103 = none := by kernel_rfl
@[go_sem] theorem tn104 : tn Tryd.prog 104 = some 1 := by kernel_rfl
@[go_sem] theorem tb104 : tb Tryd.prog 104 = some 8 := by kernel_rfl
@[go_sem] theorem ta104 : ta Tryd.prog 104 = some false := by kernel_rfl
@[go_sem] theorem tz104 : tz Tryd.prog 104 = some [.nilFunc] := by kernel_rfl
@[go_sem] theorem tpl104 : tpl Tryd.prog 104 = none := by kernel_rfl
@[go_sem] theorem tarr104 : tarr Tryd.prog 104 = none := by kernel_rfl
@[go_sem] theorem tn105 : tn Tryd.prog 105 = some 1 := by kernel_rfl
@[go_sem] theorem tb105 : tb Tryd.prog 105 = some 8 := by kernel_rfl
@[go_sem] theorem ta105 : ta Tryd.prog 105 = some false := by kernel_rfl
@[go_sem] theorem tz105 : tz Tryd.prog 105 = some [.nilFunc] := by kernel_rfl
@[go_sem] theorem tpl105 : tpl Tryd.prog 105 = none := by kernel_rfl
@[go_sem] theorem tarr105 : tarr Tryd.prog 105 = none := by kernel_rfl
@[go_sem] theorem tn106 : tn Tryd.prog 106 = some 1 := by kernel_rfl
@[go_sem] theorem tb106 : tb Tryd.prog 106 = some 8 := by kernel_rfl
@[go_sem] theorem ta106 : ta Tryd.prog 106 = some false := by kernel_rfl
@[go_sem] theorem tz106 : tz Tryd.prog 106 = some [.int .u64 0] := by kernel_rfl
@[go_sem] theorem tpl106 : tpl Tryd.prog 106 = none := by kernel_rfl
@[go_sem] theorem tarr106 : tarr Tryd.prog 106 = none := by kernel_rfl
@[go_sem] theorem tint106 : tint Tryd.prog 106 = some .u64 := by kernel_rfl
@[go_sem] theorem tn107 : tn Tryd.prog 107 = some 1 := by kernel_rfl
@[go_sem] theorem tb107 : tb Tryd.prog 107 = some 8 := by kernel_rfl
@[go_sem] theorem ta107 : ta Tryd.prog 107 = some false := by kernel_rfl
@[go_sem] theorem tz107 : tz Tryd.prog 107 = some [.nilFunc] := by kernel_rfl
@[go_sem] theorem tpl107 : tpl Tryd.prog 107 = none := by kernel_rfl
@[go_sem] theorem tarr107 : tarr Tryd.prog 107 = none := by kernel_rfl
@[go_sem] theorem tn109 : tn Tryd.prog 109 = some 1 := by kernel_rfl
@[go_sem] theorem tb109 : tb Tryd.prog 109 = some 8 := by kernel_rfl
@[go_sem] theorem ta109 : ta Tryd.prog 109 = some false := by kernel_rfl
@[go_sem] theorem tz109 : tz Tryd.prog 109 = some [.nilFunc] := by kernel_rfl
@[go_sem] theorem tpl109 : tpl Tryd.prog 109 = none := by kernel_rfl
@[go_sem] theorem tarr109 : tarr Tryd.prog 109 = none := by kernel_rfl
@[go_sem] theorem tn110 : tn Tryd.prog 110 = some 1 := by kernel_rfl
@[go_sem] theorem tb110 : tb Tryd.prog 110 = some 8 := by kernel_rfl
@[go_sem] theorem ta110 : ta Tryd.prog 110 = some false := by kernel_rfl
@[go_sem] theorem tz110 : tz Tryd.prog 110 = some [.nilFunc] := by kernel_rfl
@[go_sem] theorem tpl110 : tpl Tryd.prog 110 = none := by kernel_rfl
@[go_sem] theorem tarr110 : tarr Tryd.prog 110 = none := by kernel_rfl
@[go_sem] theorem tn111 : tn Tryd.prog 111 = some 8 := by kernel_rfl
@[go_sem] theorem tb111 : tb Tryd.prog 111 = some 80 := by kernel_rfl
@[go_sem] theorem ta111 : ta Tryd.prog 111 = some true := by kernel_rfl
@[go_sem] theorem tz111 : tz Tryd.prog 111 = some [.int .i64 0, .int .i64 0, .int .i64 0, .int .i64 0, .int .i64 0, .int .i64 0, .int .i64 0, .slice none 0 0] := by kernel_rfl
@[go_sem] theorem tf111_0 : tf Tryd.prog 111 0 = some 0 := by kernel_rfl
@[go_sem] theorem tf111_1 : tf Tryd.prog 111 1 = some 5 := by kernel_rfl
@[go_sem] theorem tf111_2 : tf Tryd.prog 111 2 = some 7 := by kernel_rfl
@[go_sem] theorem tpl111 : tpl Tryd.prog 111 = some [(0, 5), (5, 2), (7, 1)] := by kernel_rfl
@[go_sem] theorem tfl111_0 : tfl Tryd.prog 111 0 = some (0, 25) := by kernel_rfl
@[go_sem] theorem tfl111_1 : tfl Tryd.prog 111 1 = some (5, 50) := by kernel_rfl
@[go_sem] theorem tfl111_2 : tfl Tryd.prog 111 2 = some (7, 29) := by kernel_rfl
@[go_sem] theorem teg111 : teg Tryd.prog 111 = false := by kernel_rfl
@[go_sem] theorem tarr111 : tarr Tryd.prog 111 = none := by kernel_rfl
@[go_sem] theorem tn112 : tn Tryd.prog 112 = some 8 := by kernel_rfl
@[go_sem] theorem tb112 : tb Tryd.prog 112 = some 80 := by kernel_rfl
@[go_sem] theorem ta112 : ta Tryd.prog 112 = some true := by kernel_rfl
@[go_sem] theorem tz112 : tz Tryd.prog 112 = some [.int .i64 0, .int .i64 0, .int .i64 0, .int .i64 0, .int .i64 0, .int .i64 0, .int .i64 0, .slice none 0 0] := by kernel_rfl
@[go_sem] theorem tf112_0 : tf Tryd.prog 112 0 = some 0 := by kernel_rfl
@[go_sem] theorem tf112_1 : tf Tryd.prog 112 1 = some 5 := by kernel_rfl
@[go_sem] theorem tf112_2 : tf Tryd.prog 112 2 = some 7 := by kernel_rfl
@[go_sem] theorem tpl112 : tpl Tryd.prog 112 = some [(0, 5), (5, 2), (7, 1)] := by kernel_rfl
@[go_sem] theorem tfl112_0 : tfl Tryd.prog 112 0 = some (0, 25) := by kernel_rfl
@[go_sem] theorem tfl112_1 : tfl Tryd.prog 112 1 = some (5, 50) := by kernel_rfl
@[go_sem] theorem tfl112_2 : tfl Tryd.prog 112 2 = some (7, 29) := by kernel_rfl
@[go_sem] theorem teg112 : teg Tryd.prog 112 = false := by kernel_rfl
@[go_sem] theorem tarr112 : tarr Tryd.prog 112 = none := by kernel_rfl
@[go_sem] theorem tn114 : tn Tryd.prog 114 = some 1 := by kernel_rfl
@[go_sem] theorem tb114 : tb Tryd.prog 114 = some 8 := by kernel_rfl
@[go_sem] theorem ta114 : ta Tryd.prog 114 = some false := by kernel_rfl
@[go_sem] theorem tz114 : tz Tryd.prog 114 = some [.nilFunc] := by kernel_rfl
@[go_sem] theorem tpl114 : tpl Tryd.prog 114 = none := by kernel_rfl
@[go_sem] theorem tarr114 : tarr Tryd.prog 114 = none := by kernel_rfl
@[go_sem] theorem tn116 : tn Tryd.prog 116 = some 1 := by kernel_rfl
@[go_sem] theorem tb116 : tb Tryd.prog 116 = some 8 := by kernel_rfl
@[go_sem] theorem ta116 : ta Tryd.prog 116 = some false := by kernel_rfl
@[go_sem] theorem tz116 : tz Tryd.prog 116 = some [.nilFunc] := by kernel_rfl
@[go_sem] theorem tpl116 : tpl Tryd.prog 116 = none := by kernel_rfl
@[go_sem] theorem tarr116 : tarr Tryd.prog 116 = none := by kernel_rfl
@[go_sem] theorem tn117 : tn Tryd.prog 117 = some 1 := by kernel_rfl
@[go_sem] theorem tb117 : tb Tryd.prog 117 = some 8 := by kernel_rfl
@[go_sem] theorem ta117 : ta Tryd.prog 117 = some false := by kernel_rfl
@[go_sem] theorem tz117 : tz Tryd.prog 117 = some [.nilFunc] := by kernel_rfl
@[go_sem] theorem tpl117 : tpl Tryd.prog 117 = none := by kernel_rfl
@[go_sem] theorem tarr117 : tarr Tryd.prog 117 = none := by kernel_rfl
@[go_sem] theorem tn118 : tn Tryd.prog 118 = some 1 := by kernel_rfl
@[go_sem] theorem tb118 : tb Tryd.prog 118 = some 8 := by kernel_rfl
@[go_sem] theorem ta118 : ta Tryd.prog 118 = some false := by kernel_rfl
@[go_sem] theorem tz118 : tz Tryd.prog 118 = some [.nilFunc] := by kernel_rfl
@[go_sem] theorem tpl118 : tpl Tryd.prog 118 = none := by kernel_rfl
@[go_sem] theorem tarr118 : tarr Tryd.prog 118 = none := by kernel_rfl
@[go_sem] theorem tn119 : tn Tryd.prog 119 = some 1 := by kernel_rfl
@[go_sem] theorem tb119 : tb Tryd.prog 119 = some 8 := by kernel_rfl
@[go_sem] theorem ta119 : ta Tryd.prog 119 = some false := by kernel_rfl
@[go_sem] theorem tz119 : tz Tryd.prog 119 = some [.nilFunc] := by kernel_rfl
@[go_sem] theorem tpl119 : tpl Tryd.prog 119 = none := by kernel_rfl
@[go_sem] theorem tarr119 : tarr Tryd.prog 119 = none := by kernel_rfl
@[go_sem] theorem tn120 : tn Tryd.prog 120 = some 1 := by kernel_rfl
@[go_sem] theorem tb120 : tb Tryd.prog 120 = some 8 := by kernel_rfl
@[go_sem] theorem ta120 : ta Tryd.prog 120 = some false := by kernel_rfl
@[go_sem] theorem tz120 : tz Tryd.prog 120 = some [.nilFunc] := by kernel_rfl
@[go_sem] theorem tpl120 : tpl Tryd.prog 120 = none := by kernel_rfl
@[go_sem] theorem tarr120 : tarr Tryd.prog 120 = none := by kernel_rfl
@[go_sem] theorem tn121 : tn Tryd.prog 121 = some 5 := by kernel_rfl
@[go_sem] theorem tb121 : tb Tryd.prog 121 = some 56 := by kernel_rfl
@[go_sem] theorem ta121 : ta Tryd.prog 121 = some true := by kernel_rfl
@[go_sem] theorem tz121 : tz Tryd.prog 121 = some [.int .i64 0, .int .i64 0, .int .i64 0, .int .i64 0, .slice none 0 0] := by kernel_rfl
@[go_sem] theorem tf121_0 : tf Tryd.prog 121 0 = some 0 := by kernel_rfl
@[go_sem] theorem tf121_1 : tf Tryd.prog 121 1 = some 1 := by kernel_rfl
@[go_sem] theorem tf121_2 : tf Tryd.prog 121 2 = some 2 := by kernel_rfl
@[go_sem] theorem tf121_3 : tf Tryd.prog 121 3 = some 3 := by kernel_rfl
@[go_sem] theorem tf121_4 : tf Tryd.prog 121 4 = some 4 := by kernel_rfl
@[go_sem] theorem tpl121 : tpl Tryd.prog 121 = some [(0, 1), (1, 1), (2, 1), (3, 1), (4, 1)] := by kernel_rfl
@[go_sem] theorem tfl121_0 : tfl Tryd.prog 121 0 = some (0, 3) := by kernel_rfl
@[go_sem] theorem tfl121_1 : tfl Tryd.prog 121 1 = some (1, 3) := by kernel_rfl
@[go_sem] theorem tfl121_2 : tfl Tryd.prog 121 2 = some (2, 3) := by kernel_rfl
@[go_sem] theorem tfl121_3 : tfl Tryd.prog 121 3 = some (3, 3) := by kernel_rfl
@[go_sem] theorem tfl121_4 : tfl Tryd.prog 121 4 = some (4, 29) := by kernel_rfl
@[go_sem] theorem teg121 : teg Tryd.prog 121 = false := by kernel_rfl
@[go_sem] theorem tarr121 : tarr Tryd.prog 121 = none := by kernel_rfl
@[go_sem] theorem tn122 : tn Tryd.prog 122 = some 5 := by kernel_rfl
@[go_sem] theorem tb122 : tb Tryd.prog 122 = some 56 := by kernel_rfl
@[go_sem] theorem ta122 : ta Tryd.prog 122 = some true := by kernel_rfl
@[go_sem] theorem tz122 : tz Tryd.prog 122 = some [.int .i64 0, .int .i64 0, .int .i64 0, .int .i64 0, .slice none 0 0] := by kernel_rfl
@[go_sem] theorem tf122_0 : tf Tryd.prog 122 0 = some 0 := by kernel_rfl
@[go_sem] theorem tf122_1 : tf Tryd.prog 122 1 = some 1 := by kernel_rfl
@[go_sem] theorem tf122_2 : tf Tryd.prog 122 2 = some 2 := by kernel_rfl
@[go_sem] theorem tf122_3 : tf Tryd.prog 122 3 = some 3 := by kernel_rfl
@[go_sem] theorem tf122_4 : tf Tryd.prog 122 4 = some 4 := by kernel_rfl
@[go_sem] theorem tpl122 : tpl Tryd.prog 122 = some [(0, 1), (1, 1), (2, 1), (3, 1), (4, 1)] := by kernel_rfl
@[go_sem] theorem tfl122_0 : tfl Tryd.prog 122 0 = some (0, 3) := by kernel_rfl
@[go_sem] theorem tfl122_1 : tfl Tryd.prog 122 1 = some (1, 3) := by kernel_rfl
@[go_sem] theorem tfl122_2 : tfl Tryd.prog 122 2 = some (2, 3) := by kernel_rfl
@[go_sem] theorem tfl122_3 : tfl Tryd.prog 122 3 = some (3, 3) := by kernel_rfl
@[go_sem] theorem tfl122_4 : tfl Tryd.prog 122 4 = some (4, 29) := by kernel_rfl
@[go_sem] theorem teg122 : teg Tryd.prog 122 = false := by kernel_rfl
@[go_sem] theorem tarr122 : tarr Tryd.prog 122 = none := by kernel_rfl
@[go_sem] theorem tn123 : tn Tryd.prog 123 = some 1 := by kernel_rfl
@[go_sem] theorem tb123 : tb Tryd.prog 123 = some 8 := by kernel_rfl
@[go_sem] theorem ta123 : ta Tryd.prog 123 = some false := by kernel_rfl
@[go_sem] theorem tz123 : tz Tryd.prog 123 = some [.pointer none] := by kernel_rfl
@[go_sem] theorem tpl123 : tpl Tryd.prog 123 = none := by kernel_rfl
@[go_sem] theorem tarr123 : tarr Tryd.prog 123 = none := by kernel_rfl
@[go_sem] theorem tn124 : tn Tryd.prog 124 = some 2 := by kernel_rfl
@[go_sem] theorem tb124 : tb Tryd.prog 124 = some 32 := by kernel_rfl
@[go_sem] theorem ta124 : ta Tryd.prog 124 = some true := by kernel_rfl
@[go_sem] theorem tz124 : tz Tryd.prog 124 = some [.pointer none, .slice none 0 0] := by kernel_rfl
@[go_sem] theorem tf124_0 : tf Tryd.prog 124 0 = some 0 := by kernel_rfl
@[go_sem] theorem tf124_1 : tf Tryd.prog 124 1 = some 1 := by kernel_rfl
@[go_sem] theorem tpl124 : tpl Tryd.prog 124 = some [(0, 1), (1, 1)] := by kernel_rfl
@[go_sem] theorem tfl124_0 : tfl Tryd.prog 124 0 = some (0, 123) := by kernel_rfl
@[go_sem] theorem tfl124_1 : tfl Tryd.prog 124 1 = some (1, 29) := by kernel_rfl
@[go_sem] theorem teg124 : teg Tryd.prog 124 = false := by kernel_rfl
@[go_sem] theorem tarr124 : tarr Tryd.prog 124 = none := by kernel_rfl
@[go_sem] theorem tn125 : tn Tryd.prog 125 = some 2 := by kernel_rfl
@[go_sem] theorem tb125 : tb Tryd.prog 125 = some 32 := by kernel_rfl
@[go_sem] theorem ta125 : ta Tryd.prog 125 = some true := by kernel_rfl
@[go_sem] theorem tz125 : tz Tryd.prog 125 = some [.pointer none, .slice none 0 0] := by kernel_rfl
@[go_sem] theorem tf125_0 : tf Tryd.prog 125 0 = some 0 := by kernel_rfl
@[go_sem] theorem tf125_1 : tf Tryd.prog 125 1 = some 1 := by kernel_rfl
@[go_sem] theorem tpl125 : tpl Tryd.prog 125 = some [(0, 1), (1, 1)] := by kernel_rfl
@[go_sem] theorem tfl125_0 : tfl Tryd.prog 125 0 = some (0, 123) := by kernel_rfl
@[go_sem] theorem tfl125_1 : tfl Tryd.prog 125 1 = some (1, 29) := by kernel_rfl
@[go_sem] theorem teg125 : teg Tryd.prog 125 = false := by kernel_rfl
@[go_sem] theorem tarr125 : tarr Tryd.prog 125 = none := by kernel_rfl
@[go_sem] theorem tn126 : tn Tryd.prog 126 = some 1 := by kernel_rfl
@[go_sem] theorem tb126 : tb Tryd.prog 126 = some 8 := by kernel_rfl
@[go_sem] theorem ta126 : ta Tryd.prog 126 = some false := by kernel_rfl
@[go_sem] theorem tz126 : tz Tryd.prog 126 = some [.nilFunc] := by kernel_rfl
@[go_sem] theorem tpl126 : tpl Tryd.prog 126 = none := by kernel_rfl
@[go_sem] theorem tarr126 : tarr Tryd.prog 126 = none := by kernel_rfl
@[go_sem] theorem tn127 : tn Tryd.prog 127 = some 1 := by kernel_rfl
@[go_sem] theorem tb127 : tb Tryd.prog 127 = some 16 := by kernel_rfl
@[go_sem] theorem ta127 : ta Tryd.prog 127 = some false := by kernel_rfl
@[go_sem] theorem tz127 : tz Tryd.prog 127 = some [.nilIface] := by kernel_rfl
@[go_sem] theorem tpl127 : tpl Tryd.prog 127 = none := by kernel_rfl
@[go_sem] theorem tarr127 : tarr Tryd.prog 127 = none := by kernel_rfl
@[go_sem] theorem tn128 : tn Tryd.prog 128 = some 1 := by kernel_rfl
@[go_sem] theorem tb128 : tb Tryd.prog 128 = some 16 := by kernel_rfl
@[go_sem] theorem ta128 : ta Tryd.prog 128 = some false := by kernel_rfl
@[go_sem] theorem tz128 : tz Tryd.prog 128 = some [.nilIface] := by kernel_rfl
@[go_sem] theorem tpl128 : tpl Tryd.prog 128 = none := by kernel_rfl
@[go_sem] theorem tarr128 : tarr Tryd.prog 128 = none := by kernel_rfl
@[go_sem] theorem tn130 : tn Tryd.prog 130 = some 1 := by kernel_rfl
@[go_sem] theorem tb130 : tb Tryd.prog 130 = some 8 := by kernel_rfl
@[go_sem] theorem ta130 : ta Tryd.prog 130 = some false := by kernel_rfl
@[go_sem] theorem tz130 : tz Tryd.prog 130 = some [.nilFunc] := by kernel_rfl
@[go_sem] theorem tpl130 : tpl Tryd.prog 130 = none := by kernel_rfl
@[go_sem] theorem tarr130 : tarr Tryd.prog 130 = none := by kernel_rfl
@[go_sem] theorem tn131 : tn Tryd.prog 131 = some 1 := by kernel_rfl
@[go_sem] theorem tb131 : tb Tryd.prog 131 = some 8 := by kernel_rfl
@[go_sem] theorem ta131 : ta Tryd.prog 131 = some false := by kernel_rfl
@[go_sem] theorem tz131 : tz Tryd.prog 131 = some [.nilFunc] := by kernel_rfl
@[go_sem] theorem tpl131 : tpl Tryd.prog 131 = none := by kernel_rfl
@[go_sem] theorem tarr131 : tarr Tryd.prog 131 = none := by kernel_rfl
@[go_sem] theorem tn132 : tn Tryd.prog 132 = some 1 := by kernel_rfl
@[go_sem] theorem tb132 : tb Tryd.prog 132 = some 8 := by kernel_rfl
@[go_sem] theorem ta132 : ta Tryd.prog 132 = some false := by kernel_rfl
@[go_sem] theorem tz132 : tz Tryd.prog 132 = some [.nilFunc] := by kernel_rfl
@[go_sem] theorem tpl132 : tpl Tryd.prog 132 = none := by kernel_rfl
@[go_sem] theorem tarr132 : tarr Tryd.prog 132 = none := by kernel_rfl
@[go_sem] theorem tn133 : tn Tryd.prog 133 = some 1 := by kernel_rfl
@[go_sem] theorem tb133 : tb Tryd.prog 133 = some 8 := by kernel_rfl
@[go_sem] theorem ta133 : ta Tryd.prog 133 = some false := by kernel_rfl
@[go_sem] theorem tz133 : tz Tryd.prog 133 = some [.nilFunc] := by kernel_rfl
@[go_sem] theorem tpl133 : tpl Tryd.prog 133 = none := by kernel_rfl
@[go_sem] theorem tarr133 : tarr Tryd.prog 133 = none := by kernel_rfl
@[go_sem] theorem tn135 : tn Tryd.prog 135 = some 1 := by kernel_rfl
@[go_sem] theorem tb135 : tb Tryd.prog 135 = some 8 := by kernel_rfl
@[go_sem] theorem ta135 : ta Tryd.prog 135 = some false := by kernel_rfl
@[go_sem] theorem tz135 : tz Tryd.prog 135 = some [.nilFunc] := by kernel_rfl
@[go_sem] theorem tpl135 : tpl Tryd.prog 135 = none := by kernel_rfl
@[go_sem] theorem tarr135 : tarr Tryd.prog 135 = none := by kernel_rfl
@[go_sem] theorem tn136 : tn Tryd.prog 136 = some 1 := by kernel_rfl
@[go_sem] theorem tb136 : tb Tryd.prog 136 = some 8 := by kernel_rfl
@[go_sem] theorem ta136 : ta Tryd.prog 136 = some false := by kernel_rfl
@[go_sem] theorem tz136 : tz Tryd.prog 136 = some [.nilFunc] := by kernel_rfl
@[go_sem] theorem tpl136 : tpl Tryd.prog 136 = none := by kernel_rfl
@[go_sem] theorem tarr136 : tarr Tryd.prog 136 = none := by kernel_rfl
@[go_sem] theorem tn137 : tn Tryd.prog 137 = some 1 := by kernel_rfl
@[go_sem] theorem tb137 : tb Tryd.prog 137 = some 8 := by kernel_rfl
@[go_sem] theorem ta137 : ta Tryd.prog 137 = some false := by kernel_rfl
@[go_sem] theorem tz137 : tz Tryd.prog 137 = some [.nilFunc] := by kernel_rfl
@[go_sem] theorem tpl137 : tpl Tryd.prog 137 = none := by kernel_rfl
@[go_sem] theorem tarr137 : tarr Tryd.prog 137 = none := by kernel_rfl
@[go_sem] theorem tn138 : tn Tryd.prog 138 = some 1 := by kernel_rfl
@[go_sem] theorem tb138 : tb Tryd.prog 138 = some 8 := by kernel_rfl
@[go_sem] theorem ta138 : ta Tryd.prog 138 = some false := by kernel_rfl
@[go_sem] theorem tz138 : tz Tryd.prog 138 = some [.nilFunc] := by kernel_rfl
@[go_sem] theorem tpl138 : tpl Tryd.prog 138 = none := by kernel_rfl
@[go_sem] theorem tarr138 : tarr Tryd.prog 138 = none := by kernel_rfl
@[go_sem] theorem tn140 : tn Tryd.prog 140 = some 1 := by kernel_rfl
@[go_sem] theorem tb140 : tb Tryd.prog 140 = some 8 := by kernel_rfl
@[go_sem] theorem ta140 : ta Tryd.prog 140 = some false := by kernel_rfl
@[go_sem] theorem tz140 : tz Tryd.prog 140 = some [.nilFunc] := by kernel_rfl
@[go_sem] theorem tpl140 : tpl Tryd.prog 140 = none := by kernel_rfl
@[go_sem] theorem tarr140 : tarr Tryd.prog 140 = none := by kernel_rfl
@[go_sem] theorem tn141 : tn Tryd.prog 141 = some 1 := by kernel_rfl
@[go_sem] theorem tb141 : tb Tryd.prog 141 = some 8 := by kernel_rfl
@[go_sem] theorem ta141 : ta Tryd.prog 141 = some false := by kernel_rfl
@[go_sem] theorem tz141 : tz Tryd.prog 141 = some [.nilFunc] := by kernel_rfl
@[go_sem] theorem tpl141 : tpl Tryd.prog 141 = none := by kernel_rfl
@[go_sem] theorem tarr141 : tarr Tryd.prog 141 = none := by kernel_rfl
@[go_sem] theorem tn142 : tn Tryd.prog 142 = some 11 := by kernel_rfl
@[go_sem] theorem tb142 : tb Tryd.prog 142 = some 48 := by kernel_rfl
@[go_sem] theorem ta142 : ta Tryd.prog 142 = some true := by kernel_rfl
@[go_sem] theorem tz142 : tz Tryd.prog 142 = some [.slice none 0 0, .int .i64 0, .int .i64 0, .bool false, .bool false, .bool false, .bool false, .bool false, .bool false, .bool false, .bool false] := by kernel_rfl
@[go_sem] theorem tf142_0 : tf Tryd.prog 142 0 = some 0 := by kernel_rfl
@[go_sem] theorem tf142_1 : tf Tryd.prog 142 1 = some 1 := by kernel_rfl
@[go_sem] theorem tf142_2 : tf Tryd.prog 142 2 = some 2 := by kernel_rfl
@[go_sem] theorem tf142_3 : tf Tryd.prog 142 3 = some 3 := by kernel_rfl
@[go_sem] theorem tpl142 : tpl Tryd.prog 142 = some [(0, 1), (1, 1), (2, 1), (3, 8)] := by kernel_rfl
@[go_sem] theorem tfl142_0 : tfl Tryd.prog 142 0 = some (0, 29) := by kernel_rfl
@[go_sem] theorem tfl142_1 : tfl Tryd.prog 142 1 = some (1, 3) := by kernel_rfl
@[go_sem] theorem tfl142_2 : tfl Tryd.prog 142 2 = some (2, 3) := by kernel_rfl
@[go_sem] theorem tfl142_3 : tfl Tryd.prog 142 3 = some (3, 52) := by kernel_rfl
@[go_sem] theorem teg142 : teg Tryd.prog 142 = false := by kernel_rfl
@[go_sem] theorem tarr142 : tarr Tryd.prog 142 = none := by kernel_rfl
@[go_sem] theorem tn143 : tn Tryd.prog 143 = some 11 := by kernel_rfl
@[go_sem] theorem tb143 : tb Tryd.prog 143 = some 48 := by kernel_rfl
@[go_sem] theorem ta143 : ta Tryd.prog 143 = some true := by kernel_rfl
@[go_sem] theorem tz143 : tz Tryd.prog 143 = some [.slice none 0 0, .int .i64 0, .int .i64 0, .bool false, .bool false, .bool false, .bool false, .bool false, .bool false, .bool false, .bool false] := by kernel_rfl
@[go_sem] theorem tf143_0 : tf Tryd.prog 143 0 = some 0 := by kernel_rfl
@[go_sem] theorem tf143_1 : tf Tryd.prog 143 1 = some 1 := by kernel_rfl
@[go_sem] theorem tf143_2 : tf Tryd.prog 143 2 = some 2 := by kernel_rfl
@[go_sem] theorem tf143_3 : tf Tryd.prog 143 3 = some 3 := by kernel_rfl
@[go_sem] theorem tpl143 : tpl Tryd.prog 143 = some [(0, 1), (1, 1), (2, 1), (3, 8)] := by kernel_rfl
@[go_sem] theorem tfl143_0 : tfl Tryd.prog 143 0 = some (0, 29) := by kernel_rfl
@[go_sem] theorem tfl143_1 : tfl Tryd.prog 143 1 = some (1, 3) := by kernel_rfl
@[go_sem] theorem tfl143_2 : tfl Tryd.prog 143 2 = some (2, 3) := by kernel_rfl
@[go_sem] theorem tfl143_3 : tfl Tryd.prog 143 3 = some (3, 52) := by kernel_rfl
@[go_sem] theorem teg143 : teg Tryd.prog 143 = false := by kernel_rfl
@[go_sem] theorem tarr143 : tarr Tryd.prog 143 = none := by kernel_rfl
@[go_sem] theorem tn145 : tn Tryd.prog 145 = some 1 := by kernel_rfl
@[go_sem] theorem tb145 : tb Tryd.prog 145 = some 8 := by kernel_rfl
@[go_sem] theorem ta145 : ta Tryd.prog 145 = some false := by kernel_rfl
@[go_sem] theorem tz145 : tz Tryd.prog 145 = some [.nilFunc] := by kernel_rfl
@[go_sem] theorem tpl145 : tpl Tryd.prog 145 = none := by kernel_rfl
@[go_sem] theorem tarr145 : tarr Tryd.prog 145 = none := by kernel_rfl
@[go_sem] theorem tn146 : tn Tryd.prog 146 = some 1 := by kernel_rfl
@[go_sem] theorem tb146 : tb Tryd.prog 146 = some 8 := by kernel_rfl
@[go_sem] theorem ta146 : ta Tryd.prog 146 = some false := by kernel_rfl
@[go_sem] theorem tz146 : tz Tryd.prog 146 = some [.nilFunc] := by kernel_rfl
@[go_sem] theorem tpl146 : tpl Tryd.prog 146 = none := by kernel_rfl
@[go_sem] theorem tarr146 : tarr Tryd.prog 146 = none := by kernel_rfl
@[go_sem] theorem tn147 : tn Tryd.prog 147 = some 1 := by kernel_rfl
@[go_sem] theorem tb147 : tb Tryd.prog 147 = some 8 := by kernel_rfl
@[go_sem] theorem ta147 : ta Tryd.prog 147 = some false := by kernel_rfl
@[go_sem] theorem tz147 : tz Tryd.prog 147 = some [.nilFunc] := by kernel_rfl
@[go_sem] theorem tpl147 : tpl Tryd.prog 147 = none := by kernel_rfl
@[go_sem] theorem tarr147 : tarr Tryd.prog 147 = none := by kernel_rfl
@[go_sem] theorem tn148 : tn Tryd.prog 148 = some 1 := by kernel_rfl
@[go_sem] theorem tb148 : tb Tryd.prog 148 = some 8 := by kernel_rfl
@[go_sem] theorem ta148 : ta Tryd.prog 148 = some false := by kernel_rfl
@[go_sem] theorem tz148 : tz Tryd.prog 148 = some [.nilFunc] := by kernel_rfl
@[go_sem] theorem tpl148 : tpl Tryd.prog 148 = none := by kernel_rfl
@[go_sem] theorem tarr148 : tarr Tryd.prog 148 = none := by kernel_rfl
@[go_sem] theorem tn149 : tn Tryd.prog 149 = some 1 := by kernel_rfl
@[go_sem] theorem tb149 : tb Tryd.prog 149 = some 8 := by kernel_rfl
@[go_sem] theorem ta149 : ta Tryd.prog 149 = some false := by kernel_rfl
@[go_sem] theorem tz149 : tz Tryd.prog 149 = some [.nilFunc] := by kernel_rfl
@[go_sem] theorem tpl149 : tpl Tryd.prog 149 = none := by kernel_rfl
@[go_sem] theorem tarr149 : tarr Tryd.prog 149 = none := by kernel_rfl
@[go_sem] theorem tn150 : tn Tryd.prog 150 = some 1 := by kernel_rfl
@[go_sem] theorem tb150 : tb Tryd.prog 150 = some 8 := by kernel_rfl
@[go_sem] theorem ta150 : ta Tryd.prog 150 = some false := by kernel_rfl
@[go_sem] theorem tz150 : tz Tryd.prog 150 = some [.nilFunc] := by kernel_rfl
@[go_sem] theorem tpl150 : tpl Tryd.prog 150 = none := by kernel_rfl
@[go_sem] theorem tarr150 : tarr Tryd.prog 150 = none := by kernel_rfl
@[go_sem] theorem tn151 : tn Tryd.prog 151 = some 1 := by kernel_rfl
@[go_sem] theorem tb151 : tb Tryd.prog 151 = some 4 := by kernel_rfl
@[go_sem] theorem ta151 : ta Tryd.prog 151 = some false := by kernel_rfl
@[go_sem] theorem tz151 : tz Tryd.prog 151 = some [.int .u32 0] := by kernel_rfl
@[go_sem] theorem tpl151 : tpl Tryd.prog 151 = none := by kernel_rfl
@[go_sem] theorem tarr151 : tarr Tryd.prog 151 = none := by kernel_rfl
@[go_sem] theorem tint151 : tint Tryd.prog 151 = some .u32 := by kernel_rfl
@[go_sem] theorem tn152 : tn Tryd.prog 152 = some 8 := by kernel_rfl
@[go_sem] theorem tb152 : tb Tryd.prog 152 = some 32 := by kernel_rfl
@[go_sem] theorem ta152 : ta Tryd.prog 152 = some true := by kernel_rfl
@[go_sem] theorem tz152 : tz Tryd.prog 152 = some [.int .u32 0, .int .u32 0, .int .u32 0, .int .u32 0, .int .u32 0, .int .u32 0, .int .u32 0, .int .u32 0] := by kernel_rfl
@[go_sem] theorem tpl152 : tpl Tryd.prog 152 = none := by kernel_rfl
@[go_sem] theorem teg152 : teg Tryd.prog 152 = false := by kernel_rfl
@[go_sem] theorem tflat152 : flat Tryd.prog 6 152 = some [some .u32, some .u32, some .u32, some .u32, some .u32, some .u32, some .u32, some .u32] := by kernel_rfl
@[go_sem] theorem tarr152 : tarr Tryd.prog 152 = some (8, 151) := by kernel_rfl
@[go_sem] theorem tsl152 : tsl Tryd.prog 152 = none := by kernel_rfl
@[go_sem] theorem tstr152 : tstr Tryd.prog 152 = false := by kernel_rfl
@[go_sem] theorem tn153 : tn Tryd.prog 153 = some 8 := by kernel_rfl
@[go_sem] theorem tb153 : tb Tryd.prog 153 = some 32 := by kernel_rfl
@[go_sem] theorem ta153 : ta Tryd.prog 153 = some true := by kernel_rfl
@[go_sem] theorem tz153 : tz Tryd.prog 153 = some [.int .u32 0, .int .u32 0, .int .u32 0, .int .u32 0, .int .u32 0, .int .u32 0, .int .u32 0, .int .u32 0] := by kernel_rfl
@[go_sem] theorem tpl153 : tpl Tryd.prog 153 = none := by kernel_rfl
@[go_sem] theorem teg153 : teg Tryd.prog 153 = false := by kernel_rfl
@[go_sem] theorem tflat153 : flat Tryd.prog 6 153 = some [some .u32, some .u32, some .u32, some .u32, some .u32, some .u32, some .u32, some .u32] := by kernel_rfl
@[go_sem] theorem tarr153 : tarr Tryd.prog 153 = some (8, 151) := by kernel_rfl
@[go_sem] theorem tsl153 : tsl Tryd.prog 153 = none := by kernel_rfl
@[go_sem] theorem tstr153 : tstr Tryd.prog 153 = false := by kernel_rfl
@[go_sem] theorem tn154 : tn Tryd.prog 154 = some 1 := by kernel_rfl
@[go_sem] theorem tb154 : tb Tryd.prog 154 = some 8 := by kernel_rfl
@[go_sem] theorem ta154 : ta Tryd.prog 154 = some false := by kernel_rfl
@[go_sem] theorem tz154 : tz Tryd.prog 154 = some [.nilFunc] := by kernel_rfl
@[go_sem] theorem tpl154 : tpl Tryd.prog 154 = none := by kernel_rfl
@[go_sem] theorem tarr154 : tarr Tryd.prog 154 = none := by kernel_rfl
@[go_sem] theorem tn155 : tn Tryd.prog 155 = some 1 := by kernel_rfl
@[go_sem] theorem tb155 : tb Tryd.prog 155 = some 24 := by kernel_rfl
@[go_sem] theorem ta155 : ta Tryd.prog 155 = some false := by kernel_rfl
@[go_sem] theorem tz155 : tz Tryd.prog 155 = some [.slice none 0 0] := by kernel_rfl
@[go_sem] theorem tpl155 : tpl Tryd.prog 155 = none := by kernel_rfl
@[go_sem] theorem tarr155 : tarr Tryd.prog 155 = none := by kernel_rfl
@[go_sem] theorem tsl155 : tsl Tryd.prog 155 = some 3 := by kernel_rfl
@[go_sem] theorem tstr155 : tstr Tryd.prog 155 = false := by kernel_rfl
@[go_sem] theorem tn156 : tn Tryd.prog 156 = some 1 := by kernel_rfl
@[go_sem] theorem tb156 : tb Tryd.prog 156 = some 8 := by kernel_rfl
@[go_sem] theorem ta156 : ta Tryd.prog 156 = some false := by kernel_rfl
@[go_sem] theorem tz156 : tz Tryd.prog 156 = some [.nilFunc] := by kernel_rfl
@[go_sem] theorem tpl156 : tpl Tryd.prog 156 = none := by kernel_rfl
@[go_sem] theorem tarr156 : tarr Tryd.prog 156 = none := by kernel_rfl
@[go_sem] theorem tn157 : tn Tryd.prog 157 = some 1 := by kernel_rfl
@[go_sem] theorem tb157 : tb Tryd.prog 157 = some 8 := by kernel_rfl
@[go_sem] theorem ta157 : ta Tryd.prog 157 = some false := by kernel_rfl
@[go_sem] theorem tz157 : tz Tryd.prog 157 = some [.nilFunc] := by kernel_rfl
@[go_sem] theorem tpl157 : tpl Tryd.prog 157 = none := by kernel_rfl
@[go_sem] theorem tarr157 : tarr Tryd.prog 157 = none := by kernel_rfl
@[go_sem] theorem tn158 : tn Tryd.prog 158 = some 1 := by kernel_rfl
@[go_sem] theorem tb158 : tb Tryd.prog 158 = some 8 := by kernel_rfl
@[go_sem] theorem ta158 : ta Tryd.prog 158 = some false := by kernel_rfl
@[go_sem] theorem tz158 : tz Tryd.prog 158 = some [.nilFunc] := by kernel_rfl
@[go_sem] theorem tpl158 : tpl Tryd.prog 158 = none := by kernel_rfl
@[go_sem] theorem tarr158 : tarr Tryd.prog 158 = none := by kernel_rfl
@[go_sem] theorem tn159 : tn Tryd.prog 159 = some 1 := by kernel_rfl
@[go_sem] theorem tb159 : tb Tryd.prog 159 = some 8 := by kernel_rfl
@[go_sem] theorem ta159 : ta Tryd.prog 159 = some false := by kernel_rfl
@[go_sem] theorem tz159 : tz Tryd.prog 159 = some [.pointer none] := by kernel_rfl
@[go_sem] theorem tpl159 : tpl Tryd.prog 159 = none := by kernel_rfl
@[go_sem] theorem tarr159 : tarr Tryd.prog 159 = none := by kernel_rfl
@[go_sem] theorem tn160 : tn Tryd.prog 160 = some 1 := by kernel_rfl
@[go_sem] theorem tb160 : tb Tryd.prog 160 = some 8 := by kernel_rfl
@[go_sem] theorem ta160 : ta Tryd.prog 160 = some false := by kernel_rfl
@[go_sem] theorem tz160 : tz Tryd.prog 160 = some [.nilFunc] := by kernel_rfl
@[go_sem] theorem tpl160 : tpl Tryd.prog 160 = none := by kernel_rfl
@[go_sem] theorem tarr160 : tarr Tryd.prog 160 = none := by kernel_rfl
@[go_sem] theorem tn161 : tn Tryd.prog 161 = some 1 := by kernel_rfl
@[go_sem] theorem tb161 : tb Tryd.prog 161 = some 8 := by kernel_rfl
@[go_sem] theorem ta161 : ta Tryd.prog 161 = some false := by kernel_rfl
@[go_sem] theorem tz161 : tz Tryd.prog 161 = some [.pointer none] := by kernel_rfl
@[go_sem] theorem tpl161 : tpl Tryd.prog 161 = none := by kernel_rfl
@[go_sem] theorem tarr161 : tarr Tryd.prog 161 = none := by kernel_rfl
@[go_sem] theorem tn162 : tn Tryd.prog 162 = some 2 := by kernel_rfl
@[go_sem] theorem tb162 : tb Tryd.prog 162 = some 16 := by kernel_rfl
@[go_sem] theorem ta162 : ta Tryd.prog 162 = some true := by kernel_rfl
@[go_sem] theorem tz162 : tz Tryd.prog 162 = some [.int .i64 0, .int .i64 0] := by kernel_rfl
@[go_sem] theorem tpl162 : tpl Tryd.prog 162 = none := by kernel_rfl
@[go_sem] theorem teg162 : teg Tryd.prog 162 = false := by kernel_rfl
@[go_sem] theorem tflat162 : flat Tryd.prog 6 162 = some [some .i64, some .i64] := by kernel_rfl
@[go_sem] theorem tarr162 : tarr Tryd.prog 162 = some (2, 3) := by kernel_rfl
@[go_sem] theorem tsl162 : tsl Tryd.prog 162 = none := by kernel_rfl
@[go_sem] theorem tstr162 : tstr Tryd.prog 162 = false := by kernel_rfl
@[go_sem] theorem tn163 : tn Tryd.prog 163 = some 1 := by kernel_rfl
@[go_sem] theorem tb163 : tb Tryd.prog 163 = some 8 := by kernel_rfl
@[go_sem] theorem ta163 : ta Tryd.prog 163 = some false := by kernel_rfl
@[go_sem] theorem tz163 : tz Tryd.prog 163 = some [.nilFunc] := by kernel_rfl
@[go_sem] theorem tpl163 : tpl Tryd.prog 163 = none := by kernel_rfl
@[go_sem] theorem tarr163 : tarr Tryd.prog 163 = none := by kernel_rfl
@[go_sem] theorem tn164 : tn Tryd.prog 164 = some 1 := by kernel_rfl
@[go_sem] theorem tb164 : tb Tryd.prog 164 = some 8 := by kernel_rfl
@[go_sem] theorem ta164 : ta Tryd.prog 164 = some false := by kernel_rfl
@[go_sem] theorem tz164 : tz Tryd.prog 164 = some [.nilFunc] := by kernel_rfl
@[go_sem] theorem tpl164 : tpl Tryd.prog 164 = none := by kernel_rfl
@[go_sem] theorem tarr164 : tarr Tryd.prog 164 = none := by kernel_rfl
@[go_sem] theorem tn165 : tn Tryd.prog 165 = some 1 := by kernel_rfl
@[go_sem] theorem tb165 : tb Tryd.prog 165 = some 8 := by kernel_rfl
@[go_sem] theorem ta165 : ta Tryd.prog 165 = some false := by kernel_rfl
@[go_sem] theorem tz165 : tz Tryd.prog 165 = some [.nilFunc] := by kernel_rfl
@[go_sem] theorem tpl165 : tpl Tryd.prog 165 = none := by kernel_rfl
@[go_sem] theorem tarr165 : tarr Tryd.prog 165 = none := by kernel_rfl
@[go_sem] theorem tn166 : tn Tryd.prog 166 = some 1 := by kernel_rfl
@[go_sem] theorem tb166 : tb Tryd.prog 166 = some 24 := by kernel_rfl
@[go_sem] theorem ta166 : ta Tryd.prog 166 = some false := by kernel_rfl
@[go_sem] theorem tz166 : tz Tryd.prog 166 = some [.slice none 0 0] := by kernel_rfl
@[go_sem] theorem tpl166 : tpl Tryd.prog 166 = none := by kernel_rfl
@[go_sem] theorem tarr166 : tarr Tryd.prog 166 = none := by kernel_rfl
@[go_sem] theorem tsl166 : tsl Tryd.prog 166 = some 171 := by kernel_rfl
@[go_sem] theorem tstr166 : tstr Tryd.prog 166 = false := by kernel_rfl
@[go_sem] theorem tn168 : tn Tryd.prog 168 = some 1 := by kernel_rfl
@[go_sem] theorem tb168 : tb Tryd.prog 168 = some 8 := by kernel_rfl
@[go_sem] theorem ta168 : ta Tryd.prog 168 = some false := by kernel_rfl
@[go_sem] theorem tz168 : tz Tryd.prog 168 = some [.nilFunc] := by kernel_rfl
@[go_sem] theorem tpl168 : tpl Tryd.prog 168 = none := by kernel_rfl
@[go_sem] theorem tarr168 : tarr Tryd.prog 168 = none := by kernel_rfl
@[go_sem] theorem tn169 : tn Tryd.prog 169 = some 1 := by kernel_rfl
@[go_sem] theorem tb169 : tb Tryd.prog 169 = some 8 := by kernel_rfl
@[go_sem] theorem ta169 : ta Tryd.prog 169 = some false := by kernel_rfl
@[go_sem] theorem tz169 : tz Tryd.prog 169 = some [.pointer none] := by kernel_rfl
@[go_sem] theorem tpl169 : tpl Tryd.prog 169 = none := by kernel_rfl
@[go_sem] theorem tarr169 : tarr Tryd.prog 169 = none := by kernel_rfl
@[go_sem] theorem tn170 : tn Tryd.prog 170 = some 2 := by kernel_rfl
@[go_sem] theorem tb170 : tb Tryd.prog 170 = some 16 := by kernel_rfl
@[go_sem] theorem ta170 : ta Tryd.prog 170 = some true := by kernel_rfl
@[go_sem] theorem tz170 : tz Tryd.prog 170 = some [.pointer none, .int .i64 0] := by kernel_rfl
@[go_sem] theorem tf170_0 : tf Tryd.prog 170 0 = some 0 := by kernel_rfl
@[go_sem] theorem tf170_1 : tf Tryd.prog 170 1 = some 1 := by kernel_rfl
@[go_sem] theorem tpl170 : tpl Tryd.prog 170 = some [(0, 1), (1, 1)] := by kernel_rfl
@[go_sem] theorem tfl170_0 : tfl Tryd.prog 170 0 = some (0, 159) := by kernel_rfl
@[go_sem] theorem tfl170_1 : tfl Tryd.prog 170 1 = some (1, 3) := by kernel_rfl
@[go_sem] theorem teg170 : teg Tryd.prog 170 = false := by kernel_rfl
@[go_sem] theorem tarr170 : tarr Tryd.prog 170 = none := by kernel_rfl
@[go_sem] theorem tn171 : tn Tryd.prog 171 = some 2 := by kernel_rfl
@[go_sem] theorem tb171 : tb Tryd.prog 171 = some 16 := by kernel_rfl
@[go_sem] theorem ta171 : ta Tryd.prog 171 = some true := by kernel_rfl
@[go_sem] theorem tz171 : tz Tryd.prog 171 = some [.pointer none, .int .i64 0] := by kernel_rfl
@[go_sem] theorem tf171_0 : tf Tryd.prog 171 0 = some 0 := by kernel_rfl
@[go_sem] theorem tf171_1 : tf Tryd.prog 171 1 = some 1 := by kernel_rfl
@[go_sem] theorem tpl171 : tpl Tryd.prog 171 = some [(0, 1), (1, 1)] := by kernel_rfl
@[go_sem] theorem tfl171_0 : tfl Tryd.prog 171 0 = some (0, 159) := by kernel_rfl
@[go_sem] theorem tfl171_1 : tfl Tryd.prog 171 1 = some (1, 3) := by kernel_rfl
@[go_sem] theorem teg171 : teg Tryd.prog 171 = false := by kernel_rfl
@[go_sem] theorem tarr171 : tarr Tryd.prog 171 = none := by kernel_rfl
@[go_sem] theorem tn172 : tn Tryd.prog 172 = some 10 := by kernel_rfl
@[go_sem] theorem tb172 : tb Tryd.prog 172 = some 160 := by kernel_rfl
@[go_sem] theorem ta172 : ta Tryd.prog 172 = some true := by kernel_rfl
@[go_sem] theorem tz172 : tz Tryd.prog 172 = some [.string ⟨#[]⟩, .string ⟨#[]⟩, .string ⟨#[]⟩, .string ⟨#[]⟩, .string ⟨#[]⟩, .string ⟨#[]⟩, .string ⟨#[]⟩, .string ⟨#[]⟩, .string ⟨#[]⟩, .string ⟨#[]⟩] := by kernel_rfl
@[go_sem] theorem tpl172 : tpl Tryd.prog 172 = none := by kernel_rfl
@[go_sem] theorem teg172 : teg Tryd.prog 172 = false := by kernel_rfl
@[go_sem] theorem tarr172 : tarr Tryd.prog 172 = some (10, 9) := by kernel_rfl
@[go_sem] theorem tsl172 : tsl Tryd.prog 172 = none := by kernel_rfl
@[go_sem] theorem tstr172 : tstr Tryd.prog 172 = false := by kernel_rfl
@[go_sem] theorem tn173 : tn Tryd.prog 173 = some 1 := by kernel_rfl
@[go_sem] theorem tb173 : tb Tryd.prog 173 = some 8 := by kernel_rfl
@[go_sem] theorem ta173 : ta Tryd.prog 173 = some false := by kernel_rfl
@[go_sem] theorem tz173 : tz Tryd.prog 173 = some [.nilFunc] := by kernel_rfl
@[go_sem] theorem tpl173 : tpl Tryd.prog 173 = none := by kernel_rfl
@[go_sem] theorem tarr173 : tarr Tryd.prog 173 = none := by kernel_rfl
@[go_sem] theorem tn174 : tn Tryd.prog 174 = some 1 := by kernel_rfl
@[go_sem] theorem tb174 : tb Tryd.prog 174 = some 8 := by kernel_rfl
@[go_sem] theorem ta174 : ta Tryd.prog 174 = some false := by kernel_rfl
@[go_sem] theorem tz174 : tz Tryd.prog 174 = some [.pointer none] := by kernel_rfl
@[go_sem] theorem tpl174 : tpl Tryd.prog 174 = none := by kernel_rfl
@[go_sem] theorem tarr174 : tarr Tryd.prog 174 = none := by kernel_rfl
@[go_sem] theorem tn176 : tn Tryd.prog 176 = some 1 := by kernel_rfl
@[go_sem] theorem tb176 : tb Tryd.prog 176 = some 8 := by kernel_rfl
@[go_sem] theorem ta176 : ta Tryd.prog 176 = some false := by kernel_rfl
@[go_sem] theorem tz176 : tz Tryd.prog 176 = some [.nilFunc] := by kernel_rfl
@[go_sem] theorem tpl176 : tpl Tryd.prog 176 = none := by kernel_rfl
@[go_sem] theorem tarr176 : tarr Tryd.prog 176 = none := by kernel_rfl
@[go_sem] theorem tn177 : tn Tryd.prog 177 = some 1 := by kernel_rfl
@[go_sem] theorem tb177 : tb Tryd.prog 177 = some 8 := by kernel_rfl
@[go_sem] theorem ta177 : ta Tryd.prog 177 = some false := by kernel_rfl
@[go_sem] theorem tz177 : tz Tryd.prog 177 = some [.nilFunc] := by kernel_rfl
@[go_sem] theorem tpl177 : tpl Tryd.prog 177 = none := by kernel_rfl
@[go_sem] theorem tarr177 : tarr Tryd.prog 177 = none := by kernel_rfl
@[go_sem] theorem tn179 : tn Tryd.prog 179 = some 1 := by kernel_rfl
@[go_sem] theorem tb179 : tb Tryd.prog 179 = some 8 := by kernel_rfl
@[go_sem] theorem ta179 : ta Tryd.prog 179 = some false := by kernel_rfl
@[go_sem] theorem tz179 : tz Tryd.prog 179 = some [.nilFunc] := by kernel_rfl
@[go_sem] theorem tpl179 : tpl Tryd.prog 179 = none := by kernel_rfl
@[go_sem] theorem tarr179 : tarr Tryd.prog 179 = none := by kernel_rfl
@[go_sem] theorem tn180 : tn Tryd.prog 180 = some 1 := by kernel_rfl
@[go_sem] theorem tb180 : tb Tryd.prog 180 = some 8 := by kernel_rfl
@[go_sem] theorem ta180 : ta Tryd.prog 180 = some false := by kernel_rfl
@[go_sem] theorem tz180 : tz Tryd.prog 180 = some [.nilFunc] := by kernel_rfl
@[go_sem] theorem tpl180 : tpl Tryd.prog 180 = none := by kernel_rfl
@[go_sem] theorem tarr180 : tarr Tryd.prog 180 = none := by kernel_rfl
@[go_sem] theorem tn181 : tn Tryd.prog 181 = some 1 := by kernel_rfl
@[go_sem] theorem tb181 : tb Tryd.prog 181 = some 8 := by kernel_rfl
@[go_sem] theorem ta181 : ta Tryd.prog 181 = some false := by kernel_rfl
@[go_sem] theorem tz181 : tz Tryd.prog 181 = some [.nilFunc] := by kernel_rfl
@[go_sem] theorem tpl181 : tpl Tryd.prog 181 = none := by kernel_rfl
@[go_sem] theorem tarr181 : tarr Tryd.prog 181 = none := by kernel_rfl
@[go_sem] theorem tn182 : tn Tryd.prog 182 = some 1 := by kernel_rfl
@[go_sem] theorem tb182 : tb Tryd.prog 182 = some 8 := by kernel_rfl
@[go_sem] theorem ta182 : ta Tryd.prog 182 = some false := by kernel_rfl
@[go_sem] theorem tz182 : tz Tryd.prog 182 = some [.nilFunc] := by kernel_rfl
@[go_sem] theorem tpl182 : tpl Tryd.prog 182 = none := by kernel_rfl
@[go_sem] theorem tarr182 : tarr Tryd.prog 182 = none := by kernel_rfl
@[go_sem] theorem tn183 : tn Tryd.prog 183 = some 5 := by kernel_rfl
@[go_sem] theorem tb183 : tb Tryd.prog 183 = some 40 := by kernel_rfl
@[go_sem] theorem ta183 : ta Tryd.prog 183 = some true := by kernel_rfl
@[go_sem] theorem tz183 : tz Tryd.prog 183 = some [.pointer none, .pointer none, .pointer none, .pointer none, .pointer none] := by kernel_rfl
@[go_sem] theorem tpl183 : tpl Tryd.prog 183 = none := by kernel_rfl
@[go_sem] theorem teg183 : teg Tryd.prog 183 = false := by kernel_rfl
@[go_sem] theorem tarr183 : tarr Tryd.prog 183 = some (5, 159) := by kernel_rfl
@[go_sem] theorem tsl183 : tsl Tryd.prog 183 = none := by kernel_rfl
@[go_sem] theorem tstr183 : tstr Tryd.prog 183 = false := by kernel_rfl
@[go_sem] theorem tn184 : tn Tryd.prog 184 = some 1 := by kernel_rfl
@[go_sem] theorem tb184 : tb Tryd.prog 184 = some 8 := by kernel_rfl
@[go_sem] theorem ta184 : ta Tryd.prog 184 = some false := by kernel_rfl
@[go_sem] theorem tz184 : tz Tryd.prog 184 = some [.nilFunc] := by kernel_rfl
@[go_sem] theorem tpl184 : tpl Tryd.prog 184 = none := by kernel_rfl
@[go_sem] theorem tarr184 : tarr Tryd.prog 184 = none := by kernel_rfl
@[go_sem] theorem tn185 : tn Tryd.prog 185 = some 1 := by kernel_rfl
@[go_sem] theorem tb185 : tb Tryd.prog 185 = some 8 := by kernel_rfl
@[go_sem] theorem ta185 : ta Tryd.prog 185 = some false := by kernel_rfl
@[go_sem] theorem tz185 : tz Tryd.prog 185 = some [.pointer none] := by kernel_rfl
@[go_sem] theorem tpl185 : tpl Tryd.prog 185 = none := by kernel_rfl
@[go_sem] theorem tarr185 : tarr Tryd.prog 185 = none := by kernel_rfl
@[go_sem] theorem tn186 : tn Tryd.prog 186 = some 1 := by kernel_rfl
@[go_sem] theorem tb186 : tb Tryd.prog 186 = some 8 := by kernel_rfl
@[go_sem] theorem ta186 : ta Tryd.prog 186 = some false := by kernel_rfl
@[go_sem] theorem tz186 : tz Tryd.prog 186 = some [.nilFunc] := by kernel_rfl
@[go_sem] theorem tpl186 : tpl Tryd.prog 186 = none := by kernel_rfl
@[go_sem] theorem tarr186 : tarr Tryd.prog 186 = none := by kernel_rfl
@[go_sem] theorem tn187 : tn Tryd.prog 187 = some 1 := by kernel_rfl
@[go_sem] theorem tb187 : tb Tryd.prog 187 = some 8 := by kernel_rfl
@[go_sem] theorem ta187 : ta Tryd.prog 187 = some false := by kernel_rfl
@[go_sem] theorem tz187 : tz Tryd.prog 187 = some [.nilFunc] := by kernel_rfl
@[go_sem] theorem tpl187 : tpl Tryd.prog 187 = none := by kernel_rfl
@[go_sem] theorem tarr187 : tarr Tryd.prog 187 = none := by kernel_rfl
@[go_sem] theorem tn188 : tn Tryd.prog 188 = some 1 := by kernel_rfl
@[go_sem] theorem tb188 : tb Tryd.prog 188 = some 8 := by kernel_rfl
@[go_sem] theorem ta188 : ta Tryd.prog 188 = some false := by kernel_rfl
@[go_sem] theorem tz188 : tz Tryd.prog 188 = some [.nilFunc] := by kernel_rfl
@[go_sem] theorem tpl188 : tpl Tryd.prog 188 = none := by kernel_rfl
@[go_sem] theorem tarr188 : tarr Tryd.prog 188 = none := by kernel_rfl
@[go_sem] theorem tn189 : tn Tryd.prog 189 = some 1 := by kernel_rfl
@[go_sem] theorem tb189 : tb Tryd.prog 189 = some 8 := by kernel_rfl
@[go_sem] theorem ta189 : ta Tryd.prog 189 = some false := by kernel_rfl
@[go_sem] theorem tz189 : tz Tryd.prog 189 = some [.nilFunc] := by kernel_rfl
@[go_sem] theorem tpl189 : tpl Tryd.prog 189 = none := by kernel_rfl
@[go_sem] theorem tarr189 : tarr Tryd.prog 189 = none := by kernel_rfl
@[go_sem] theorem tn190 : tn Tryd.prog 190 = some 1 := by kernel_rfl
@[go_sem] theorem tb190 : tb Tryd.prog 190 = some 8 := by kernel_rfl
@[go_sem] theorem ta190 : ta Tryd.prog 190 = some false := by kernel_rfl
@[go_sem] theorem tz190 : tz Tryd.prog 190 = some [.nilFunc] := by kernel_rfl
@[go_sem] theorem tpl190 : tpl Tryd.prog 190 = none := by kernel_rfl
@[go_sem] theorem tarr190 : tarr Tryd.prog 190 = none := by kernel_rfl
@[go_sem] theorem tn191 : tn Tryd.prog 191 = some 1 := by kernel_rfl
@[go_sem] theorem tb191 : tb Tryd.prog 191 = some 8 := by kernel_rfl
@[go_sem] theorem ta191 : ta Tryd.prog 191 = some false := by kernel_rfl
@[go_sem] theorem tz191 : tz Tryd.prog 191 = some [.nilFunc] := by kernel_rfl
@[go_sem] theorem tpl191 : tpl Tryd.prog 191 = none := by kernel_rfl
@[go_sem] theorem tarr191 : tarr Tryd.prog 191 = none := by kernel_rfl
@[go_sem] theorem tn192 : tn Tryd.prog 192 = some 1 := by kernel_rfl
@[go_sem] theorem tb192 : tb Tryd.prog 192 = some 8 := by kernel_rfl
@[go_sem] theorem ta192 : ta Tryd.prog 192 = some false := by kernel_rfl
@[go_sem] theorem tz192 : tz Tryd.prog 192 = some [.nilFunc] := by kernel_rfl
@[go_sem] theorem tpl192 : tpl Tryd.prog 192 = none := by kernel_rfl
@[go_sem] theorem tarr192 : tarr Tryd.prog 192 = none := by kernel_rfl
@[go_sem] theorem tn193 : tn Tryd.prog 193 = some 1 := by kernel_rfl
@[go_sem] theorem tb193 : tb Tryd.prog 193 = some 8 := by kernel_rfl
@[go_sem] theorem ta193 : ta Tryd.prog 193 = some false := by kernel_rfl
@[go_sem] theorem tz193 : tz Tryd.prog 193 = some [.nilFunc] := by kernel_rfl
@[go_sem] theorem tpl193 : tpl Tryd.prog 193 = none := by kernel_rfl
@[go_sem] theorem tarr193 : tarr Tryd.prog 193 = none := by kernel_rfl
@[go_sem] theorem tn194 : tn Tryd.prog 194 = some 1 := by kernel_rfl
@[go_sem] theorem tb194 : tb Tryd.prog 194 = some 8 := by kernel_rfl
@[go_sem] theorem ta194 : ta Tryd.prog 194 = some false := by kernel_rfl
@[go_sem] theorem tz194 : tz Tryd.prog 194 = some [.nilFunc] := by kernel_rfl
@[go_sem] theorem tpl194 : tpl Tryd.prog 194 = none := by kernel_rfl
@[go_sem] theorem tarr194 : tarr Tryd.prog 194 = none := by kernel_rfl
@[go_sem] theorem tn195 : tn Tryd.prog 195 = some 1 := by kernel_rfl
@[go_sem] theorem tb195 : tb Tryd.prog 195 = some 24 := by kernel_rfl
@[go_sem] theorem ta195 : ta Tryd.prog 195 = some false := by kernel_rfl
@[go_sem] theorem tz195 : tz Tryd.prog 195 = some [.slice none 0 0] := by kernel_rfl
@[go_sem] theorem tpl195 : tpl Tryd.prog 195 = none := by kernel_rfl
@[go_sem] theorem tarr195 : tarr Tryd.prog 195 = none := by kernel_rfl
@[go_sem] theorem tsl195 : tsl Tryd.prog 195 = some 9 := by kernel_rfl
@[go_sem] theorem tstr195 : tstr Tryd.prog 195 = false := by kernel_rfl
@[go_sem] theorem tn196 : tn Tryd.prog 196 = some 1 := by kernel_rfl
@[go_sem] theorem tb196 : tb Tryd.prog 196 = some 8 := by kernel_rfl
@[go_sem] theorem ta196 : ta Tryd.prog 196 = some false := by kernel_rfl
@[go_sem] theorem tz196 : tz Tryd.prog 196 = some [.nilFunc] := by kernel_rfl
@[go_sem] theorem tpl196 : tpl Tryd.prog 196 = none := by kernel_rfl
@[go_sem] theorem tarr196 : tarr Tryd.prog 196 = none := by kernel_rfl
@[go_sem] theorem tn197 : tn Tryd.prog 197 = some 1 := by kernel_rfl
@[go_sem] theorem tb197 : tb Tryd.prog 197 = some 8 := by kernel_rfl
@[go_sem] theorem ta197 : ta Tryd.prog 197 = some false := by kernel_rfl
@[go_sem] theorem tz197 : tz Tryd.prog 197 = some [.nilFunc] := by kernel_rfl
@[go_sem] theorem tpl197 : tpl Tryd.prog 197 = none := by kernel_rfl
@[go_sem] theorem tarr197 : tarr Tryd.prog 197 = none := by kernel_rfl
@[go_sem] theorem tn198 : tn Tryd.prog 198 = some 1 := by kernel_rfl
@[go_sem] theorem tb198 : tb Tryd.prog 198 = some 8 := by kernel_rfl
@[go_sem] theorem ta198 : ta Tryd.prog 198 = some false := by kernel_rfl
@[go_sem] theorem tz198 : tz Tryd.prog 198 = some [.nilFunc] := by kernel_rfl
@[go_sem] theorem tpl198 : tpl Tryd.prog 198 = none := by kernel_rfl
@[go_sem] theorem tarr198 : tarr Tryd.prog 198 = none := by kernel_rfl
@[go_sem] theorem tn199 : tn Tryd.prog 199 = some 1 := by kernel_rfl
@[go_sem] theorem tb199 : tb Tryd.prog 199 = some 8 := by kernel_rfl
@[go_sem] theorem ta199 : ta Tryd.prog 199 = some false := by kernel_rfl
@[go_sem] theorem tz199 : tz Tryd.prog 199 = some [.nilFunc] := by kernel_rfl
@[go_sem] theorem tpl199 : tpl Tryd.prog 199 = none := by kernel_rfl
@[go_sem] theorem tarr199 : tarr Tryd.prog 199 = none := by kernel_rfl
@[go_sem] theorem tn200 : tn Tryd.prog 200 = some 1 := by kernel_rfl
@[go_sem] theorem tb200 : tb Tryd.prog 200 = some 8 := by kernel_rfl
@[go_sem] theorem ta200 : ta Tryd.prog 200 = some false := by kernel_rfl
@[go_sem] theorem tz200 : tz Tryd.prog 200 = some [.nilFunc] := by kernel_rfl
@[go_sem] theorem tpl200 : tpl Tryd.prog 200 = none := by kernel_rfl
@[go_sem] theorem tarr200 : tarr Tryd.prog 200 = none := by kernel_rfl
@[go_sem] theorem tn201 : tn Tryd.prog 201 = some 1 := by kernel_rfl
@[go_sem] theorem tb201 : tb Tryd.prog 201 = some 8 := by kernel_rfl
@[go_sem] theorem ta201 : ta Tryd.prog 201 = some false := by kernel_rfl
@[go_sem] theorem tz201 : tz Tryd.prog 201 = some [.pointer none] := by kernel_rfl
@[go_sem] theorem tpl201 : tpl Tryd.prog 201 = none := by kernel_rfl
@[go_sem] theorem tarr201 : tarr Tryd.prog 201 = none := by kernel_rfl
@[go_sem] theorem tn202 : tn Tryd.prog 202 = some 64 := by kernel_rfl
@[go_sem] theorem tb202 : tb Tryd.prog 202 = some 256 := by kernel_rfl
@[go_sem] theorem ta202 : ta Tryd.prog 202 = some true := by kernel_rfl
@[go_sem] theorem tz202 : tz Tryd.prog 202 = some [.int .u32 0, .int .u32 0, .int .u32 0, .int .u32 0, .int .u32 0, .int .u32 0, .int .u32 0, .int .u32 0, .int .u32 0, .int .u32 0, .int .u32 0, .int .u32 0, .int .u32 0, .int .u32 0, .int .u32 0, .int .u32 0, .int .u32 0, .int .u32 0, .int .u32 0, .int .u32 0, .int .u32 0, .int .u32 0, .int .u32 0, .int .u32 0, .int .u32 0, .int .u32 0, .int .u32 0, .int .u32 0, .int .u32 0, .int .u32 0, .int .u32 0, .int .u32 0, .int .u32 0, .int .u32 0, .int .u32 0, .int .u32 0, .int .u32 0, .int .u32 0, .int .u32 0, .int .u32 0, .int .u32 0, .int .u32 0, .int .u32 0, .int .u32 0, .int .u32 0, .int .u32 0, .int .u32 0, .int .u32 0, .int .u32 0, .int .u32 0, .int .u32 0, .int .u32 0, .int .u32 0, .int .u32 0, .int .u32 0, .int .u32 0, .int .u32 0, .int .u32 0, .int .u32 0, .int .u32 0, .int .u32 0, .int .u32 0, .int .u32 0, .int .u32 0] := by kernel_rfl
@[go_sem] theorem tpl202 : tpl Tryd.prog 202 = none := by kernel_rfl
@[go_sem] theorem teg202 : teg Tryd.prog 202 = false := by kernel_rfl
@[go_sem] theorem tflat202 : flat Tryd.prog 6 202 = some [some .u32, some .u32, some .u32, some .u32, some .u32, some .u32, some .u32, some .u32, some .u32, some .u32, some .u32, some .u32, some .u32, some .u32, some .u32, some .u32, some .u32, some .u32, some .u32, some .u32, some .u32, some .u32, some .u32, some .u32, some .u32, some .u32, some .u32, some .u32, some .u32, some .u32, some .u32, some .u32, some .u32, some .u32, some .u32, some .u32, some .u32, some .u32, some .u32, some .u32, some .u32, some .u32, some .u32, some .u32, some .u32, some .u32, some .u32, some .u32, some .u32, some .u32, some .u32, some .u32, some .u32, some .u32, some .u32, some .u32, some .u32, some .u32, some .u32, some .u32, some .u32, some .u32, some .u32, some .u32] := by kernel_rfl
@[go_sem] theorem tarr202 : tarr Tryd.prog 202 = some (64, 151) := by kernel_rfl
@[go_sem] theorem tsl202 : tsl Tryd.prog 202 = none := by kernel_rfl
@[go_sem] theorem tstr202 : tstr Tryd.prog 202 = false := by kernel_rfl
@[go_sem] theorem tn203 : tn Tryd.prog 203 = some 1 := by kernel_rfl
@[go_sem] theorem tb203 : tb Tryd.prog 203 = some 8 := by kernel_rfl
@[go_sem] theorem ta203 : ta Tryd.prog 203 = some false := by kernel_rfl
@[go_sem] theorem tz203 : tz Tryd.prog 203 = some [.nilFunc] := by kernel_rfl
@[go_sem] theorem tpl203 : tpl Tryd.prog 203 = none := by kernel_rfl
@[go_sem] theorem tarr203 : tarr Tryd.prog 203 = none := by kernel_rfl
@[go_sem] theorem tn204 : tn Tryd.prog 204 = some 1 := by kernel_rfl
@[go_sem] theorem tb204 : tb Tryd.prog 204 = some 8 := by kernel_rfl
@[go_sem] theorem ta204 : ta Tryd.prog 204 = some false := by kernel_rfl
@[go_sem] theorem tz204 : tz Tryd.prog 204 = some [.nilFunc] := by kernel_rfl
@[go_sem] theorem tpl204 : tpl Tryd.prog 204 = none := by kernel_rfl
@[go_sem] theorem tarr204 : tarr Tryd.prog 204 = none := by kernel_rfl
@[go_sem] theorem tn205 : tn Tryd.prog 205 = some 1 := by kernel_rfl
@[go_sem] theorem tb205 : tb Tryd.prog 205 = some 8 := by kernel_rfl
@[go_sem] theorem ta205 : ta Tryd.prog 205 = some false := by kernel_rfl
@[go_sem] theorem tz205 : tz Tryd.prog 205 = some [.nilFunc] := by kernel_rfl
@[go_sem] theorem tpl205 : tpl Tryd.prog 205 = none := by kernel_rfl
@[go_sem] theorem tarr205 : tarr Tryd.prog 205 = none := by kernel_rfl
@[go_sem] theorem tn206 : tn Tryd.prog 206 = some 1 := by kernel_rfl
@[go_sem] theorem tb206 : tb Tryd.prog 206 = some 8 := by kernel_rfl
@[go_sem] theorem ta206 : ta Tryd.prog 206 = some false := by kernel_rfl
@[go_sem] theorem tz206 : tz Tryd.prog 206 = some [.nilFunc] := by kernel_rfl
@[go_sem] theorem tpl206 : tpl Tryd.prog 206 = none := by kernel_rfl
@[go_sem] theorem tarr206 : tarr Tryd.prog 206 = none := by kernel_rfl
@[go_sem] theorem tn207 : tn Tryd.prog 207 = some 1 := by kernel_rfl
@[go_sem] theorem tb207 : tb Tryd.prog 207 = some 8 := by kernel_rfl
@[go_sem] theorem ta207 : ta Tryd.prog 207 = some false := by kernel_rfl
@[go_sem] theorem tz207 : tz Tryd.prog 207 = some [.nilFunc] := by kernel_rfl
@[go_sem] theorem tpl207 : tpl Tryd.prog 207 = none := by kernel_rfl
@[go_sem] theorem tarr207 : tarr Tryd.prog 207 = none := by kernel_rfl
@[go_sem] theorem tn208 : tn Tryd.prog 208 = some 1 := by kernel_rfl
@[go_sem] theorem tb208 : tb Tryd.prog 208 = some 8 := by kernel_rfl
@[go_sem] theorem ta208 : ta Tryd.prog 208 = some false := by kernel_rfl
@[go_sem] theorem tz208 : tz Tryd.prog 208 = some [.pointer none] := by kernel_rfl
@[go_sem] theorem tpl208 : tpl Tryd.prog 208 = none := by kernel_rfl
@[go_sem] theorem tarr208 : tarr Tryd.prog 208 = none := by kernel_rfl
@[go_sem] theorem tn209 : tn Tryd.prog 209 = some 1 := by kernel_rfl
@[go_sem] theorem tb209 : tb Tryd.prog 209 = some 8 := by kernel_rfl
@[go_sem] theorem ta209 : ta Tryd.prog 209 = some false := by kernel_rfl
@[go_sem] theorem tz209 : tz Tryd.prog 209 = some [.nilFunc] := by kernel_rfl
@[go_sem] theorem tpl209 : tpl Tryd.prog 209 = none := by kernel_rfl
@[go_sem] theorem tarr209 : tarr Tryd.prog 209 = none := by kernel_rfl
@[go_sem] theorem tn210 : tn Tryd.prog 210 = some 1 := by kernel_rfl
@[go_sem] theorem tb210 : tb Tryd.prog 210 = some 8 := by kernel_rfl
@[go_sem] theorem ta210 : ta Tryd.prog 210 = some false := by kernel_rfl
@[go_sem] theorem tz210 : tz Tryd.prog 210 = some [.nilFunc] := by kernel_rfl
@[go_sem] theorem tpl210 : tpl Tryd.prog 210 = none := by kernel_rfl
@[go_sem] theorem tarr210 : tarr Tryd.prog 210 = none := by kernel_rfl
@[go_sem] theorem tn211 : tn Tryd.prog 211 = some 1 := by kernel_rfl
@[go_sem] theorem tb211 : tb Tryd.prog 211 = some 8 := by kernel_rfl
@[go_sem] theorem ta211 : ta Tryd.prog 211 = some false := by kernel_rfl
@[go_sem] theorem tz211 : tz Tryd.prog 211 = some [.nilFunc] := by kernel_rfl
@[go_sem] theorem tpl211 : tpl Tryd.prog 211 = none := by kernel_rfl
@[go_sem] theorem tarr211 : tarr Tryd.prog 211 = none := by kernel_rfl
@[go_sem] theorem tn212 : tn Tryd.prog 212 = some 1 := by kernel_rfl
@[go_sem] theorem tb212 : tb Tryd.prog 212 = some 8 := by kernel_rfl
@[go_sem] theorem ta212 : ta Tryd.prog 212 = some false := by kernel_rfl
@[go_sem] theorem tz212 : tz Tryd.prog 212 = some [.nilFunc] := by kernel_rfl
@[go_sem] theorem tpl212 : tpl Tryd.prog 212 = none := by kernel_rfl
@[go_sem] theorem tarr212 : tarr Tryd.prog 212 = none := by kernel_rfl
@[go_sem] theorem tn213 : tn Tryd.prog 213 = some 1 := by kernel_rfl
@[go_sem] theorem tb213 : tb Tryd.prog 213 = some 8 := by kernel_rfl
@[go_sem] theorem ta213 : ta Tryd.prog 213 = some false := by kernel_rfl
@[go_sem] theorem tz213 : tz Tryd.prog 213 = some [.nilFunc] := by kernel_rfl
@[go_sem] theorem tpl213 : tpl Tryd.prog 213 = none := by kernel_rfl
@[go_sem] theorem tarr213 : tarr Tryd.prog 213 = none := by kernel_rfl
@[go_sem] theorem tn214 : tn Tryd.prog 214 = some 1 := by kernel_rfl
@[go_sem] theorem tb214 : tb Tryd.prog 214 = some 8 := by kernel_rfl
@[go_sem] theorem ta214 : ta Tryd.prog 214 = some false := by kernel_rfl
@[go_sem] theorem tz214 : tz Tryd.prog 214 = some [.nilFunc] := by kernel_rfl
@[go_sem] theorem tpl214 : tpl Tryd.prog 214 = none := by kernel_rfl
@[go_sem] theorem tarr214 : tarr Tryd.prog 214 = none := by kernel_rfl
@[go_sem] theorem tn215 : tn Tryd.prog 215 = some 1 := by kernel_rfl
@[go_sem] theorem tb215 : tb Tryd.prog 215 = some 8 := by kernel_rfl
@[go_sem] theorem ta215 : ta Tryd.prog 215 = some false := by kernel_rfl
@[go_sem] theorem tz215 : tz Tryd.prog 215 = some [.nilFunc] := by kernel_rfl
@[go_sem] theorem tpl215 : tpl Tryd.prog 215 = none := by kernel_rfl
@[go_sem] theorem tarr215 : tarr Tryd.prog 215 = none := by kernel_rfl
@[go_sem] theorem tn216 : tn Tryd.prog 216 = some 1 := by kernel_rfl
@[go_sem] theorem tb216 : tb Tryd.prog 216 = some 8 := by kernel_rfl
@[go_sem] theorem ta216 : ta Tryd.prog 216 = some false := by kernel_rfl
@[go_sem] theorem tz216 : tz Tryd.prog 216 = some [.nilFunc] := by kernel_rfl
@[go_sem] theorem tpl216 : tpl Tryd.prog 216 = none := by kernel_rfl
@[go_sem] theorem tarr216 : tarr Tryd.prog 216 = none := by kernel_rfl
@[go_sem] theorem tn217 : tn Tryd.prog 217 = some 1 := by kernel_rfl
@[go_sem] theorem tb217 : tb Tryd.prog 217 = some 8 := by kernel_rfl
@[go_sem] theorem ta217 : ta Tryd.prog 217 = some false := by kernel_rfl
@[go_sem] theorem tz217 : tz Tryd.prog 217 = some [.nilFunc] := by kernel_rfl
@[go_sem] theorem tpl217 : tpl Tryd.prog 217 = none := by kernel_rfl
@[go_sem] theorem tarr217 : tarr Tryd.prog 217 = none := by kernel_rfl
@[go_sem] theorem tn218 : tn Tryd.prog 218 = some 1 := by kernel_rfl
@[go_sem] theorem tb218 : tb Tryd.prog 218 = some 8 := by kernel_rfl
@[go_sem] theorem ta218 : ta Tryd.prog 218 = some false := by kernel_rfl
@[go_sem] theorem tz218 : tz Tryd.prog 218 = some [.nilFunc] := by kernel_rfl
@[go_sem] theorem tpl218 : tpl Tryd.prog 218 = none := by kernel_rfl
@[go_sem] theorem tarr218 : tarr Tryd.prog 218 = none := by kernel_rfl
@[go_sem] theorem tn219 : tn Tryd.prog 219 = some 1 := by kernel_rfl
@[go_sem] theorem tb219 : tb Tryd.prog 219 = some 8 := by kernel_rfl
@[go_sem] theorem ta219 : ta Tryd.prog 219 = some false := by kernel_rfl
@[go_sem] theorem tz219 : tz Tryd.prog 219 = some [.nilFunc] := by kernel_rfl
@[go_sem] theorem tpl219 : tpl Tryd.prog 219 = none := by kernel_rfl
@[go_sem] theorem tarr219 : tarr Tryd.prog 219 = none := by kernel_rfl
@[go_sem] theorem tn220 : tn Tryd.prog 220 = some 64 := by kernel_rfl
@[go_sem] theorem tb220 : tb Tryd.prog 220 = some 64 := by kernel_rfl
@[go_sem] theorem ta220 : ta Tryd.prog 220 = some true := by kernel_rfl
@[go_sem] theorem tz220 : tz Tryd.prog 220 = some [.int .u8 0, .int .u8 0, .int .u8 0, .int .u8 0, .int .u8 0, .int .u8 0, .int .u8 0, .int .u8 0, .int .u8 0, .int .u8 0, .int .u8 0, .int .u8 0, .int .u8 0, .int .u8 0, .int .u8 0, .int .u8 0, .int .u8 0, .int .u8 0, .int .u8 0, .int .u8 0, .int .u8 0, .int .u8 0, .int .u8 0, .int .u8 0, .int .u8 0, .int .u8 0, .int .u8 0, .int .u8 0, .int .u8 0, .int .u8 0, .int .u8 0, .int .u8 0, .int .u8 0, .int .u8 0, .int .u8 0, .int .u8 0, .int .u8 0, .int .u8 0, .int .u8 0, .int .u8 0, .int .u8 0, .int .u8 0, .int .u8 0, .int .u8 0, .int .u8 0, .int .u8 0, .int .u8 0, .int .u8 0, .int .u8 0, .int .u8 0, .int .u8 0, .int .u8 0, .int .u8 0, .int .u8 0, .int .u8 0, .int .u8 0, .int .u8 0, .int .u8 0, .int .u8 0, .int .u8 0, .int .u8 0, .int .u8 0, .int .u8 0, .int .u8 0] := by kernel_rfl
@[go_sem] theorem tpl220 : tpl Tryd.prog 220 = none := by kernel_rfl
@[go_sem] theorem teg220 : teg Tryd.prog 220 = false := by kernel_rfl
@[go_sem] theorem tflat220 : flat Tryd.prog 6 220 = some [some .u8, some .u8, some .u8, some .u8, some .u8, some .u8, some .u8, some .u8, some .u8, some .u8, some .u8, some .u8, some .u8, some .u8, some .u8, some .u8, some .u8, some .u8, some .u8, some .u8, some .u8, some .u8, some .u8, some .u8, some .u8, some .u8, some .u8, some .u8, some .u8, some .u8, some .u8, some .u8, some .u8, some .u8, some .u8, some .u8, some .u8, some .u8, some .u8, some .u8, some .u8, some .u8, some .u8, some .u8, some .u8, some .u8, some .u8, some .u8, some .u8, some .u8, some .u8, some .u8, some .u8, some .u8, some .u8, some .u8, some .u8, some .u8, some .u8, some .u8, some .u8, some .u8, some .u8, some .u8] := by kernel_rfl
@[go_sem] theorem tarr220 : tarr Tryd.prog 220 = some (64, 5) := by kernel_rfl
@[go_sem] theorem tsl220 : tsl Tryd.prog 220 = none := by kernel_rfl
@[go_sem] theorem tstr220 : tstr Tryd.prog 220 = false := by kernel_rfl
@[go_sem] theorem tn221 : tn Tryd.prog 221 = some 1 := by kernel_rfl
@[go_sem] theorem tb221 : tb Tryd.prog 221 = some 8 := by kernel_rfl
@[go_sem] theorem ta221 : ta Tryd.prog 221 = some false := by kernel_rfl
@[go_sem] theorem tz221 : tz Tryd.prog 221 = some [.nilFunc] := by kernel_rfl
@[go_sem] theorem tpl221 : tpl Tryd.prog 221 = none := by kernel_rfl
@[go_sem] theorem tarr221 : tarr Tryd.prog 221 = none := by kernel_rfl
@[go_sem] theorem tn222 : tn Tryd.prog 222 = some 1 := by kernel_rfl
@[go_sem] theorem tb222 : tb Tryd.prog 222 = some 8 := by kernel_rfl
@[go_sem] theorem ta222 : ta Tryd.prog 222 = some false := by kernel_rfl
@[go_sem] theorem tz222 : tz Tryd.prog 222 = some [.nilFunc] := by kernel_rfl
@[go_sem] theorem tpl222 : tpl Tryd.prog 222 = none := by kernel_rfl
@[go_sem] theorem tarr222 : tarr Tryd.prog 222 = none := by kernel_rfl
@[go_sem] theorem tn223 : tn Tryd.prog 223 = some 1 := by kernel_rfl
@[go_sem] theorem tb223 : tb Tryd.prog 223 = some 8 := by kernel_rfl
@[go_sem] theorem ta223 : ta Tryd.prog 223 = some false := by kernel_rfl
@[go_sem] theorem tz223 : tz Tryd.prog 223 = some [.nilFunc] := by kernel_rfl
@[go_sem] theorem tpl223 : tpl Tryd.prog 223 = none := by kernel_rfl
@[go_sem] theorem tarr223 : tarr Tryd.prog 223 = none := by kernel_rfl
@[go_sem] theorem tn224 : tn Tryd.prog 224 = some 1 := by kernel_rfl
@[go_sem] theorem tb224 : tb Tryd.prog 224 = some 8 := by kernel_rfl
@[go_sem] theorem ta224 : ta Tryd.prog 224 = some false := by kernel_rfl
@[go_sem] theorem tz224 : tz Tryd.prog 224 = some [.nilFunc] := by kernel_rfl
@[go_sem] theorem tpl224 : tpl Tryd.prog 224 = none := by kernel_rfl
@[go_sem] theorem tarr224 : tarr Tryd.prog 224 = none := by kernel_rfl
@[go_sem] theorem tn225 : tn Tryd.prog 225 = some 1 := by kernel_rfl
@[go_sem] theorem tb225 : tb Tryd.prog 225 = some 8 := by kernel_rfl
@[go_sem] theorem ta225 : ta Tryd.prog 225 = some false := by kernel_rfl
@[go_sem] theorem tz225 : tz Tryd.prog 225 = some [.nilFunc] := by kernel_rfl
@[go_sem] theorem tpl225 : tpl Tryd.prog 225 = none := by kernel_rfl
@[go_sem] theorem tarr225 : tarr Tryd.prog 225 = none := by kernel_rfl
@[go_sem] theorem tn226 : tn Tryd.prog 226 = some 1 := by kernel_rfl
@[go_sem] theorem tb226 : tb Tryd.prog 226 = some 8 := by kernel_rfl
@[go_sem] theorem ta226 : ta Tryd.prog 226 = some false := by kernel_rfl
@[go_sem] theorem tz226 : tz Tryd.prog 226 = some [.nilFunc] := by kernel_rfl
@[go_sem] theorem tpl226 : tpl Tryd.prog 226 = none := by kernel_rfl
@[go_sem] theorem tarr226 : tarr Tryd.prog 226 = none := by kernel_rfl
@[go_sem] theorem tn227 : tn Tryd.prog 227 = some 1 := by kernel_rfl
@[go_sem] theorem tb227 : tb Tryd.prog 227 = some 8 := by kernel_rfl
@[go_sem] theorem ta227 : ta Tryd.prog 227 = some false := by kernel_rfl
@[go_sem] theorem tz227 : tz Tryd.prog 227 = some [.int .i64 0] := by kernel_rfl
@[go_sem] theorem tpl227 : tpl Tryd.prog 227 = none := by kernel_rfl
@[go_sem] theorem tarr227 : tarr Tryd.prog 227 = none := by kernel_rfl
@[go_sem] theorem tint227 : tint Tryd.prog 227 = some .i64 := by kernel_rfl
@[go_sem] theorem tn229 : tn Tryd.prog 229 = some 1 := by kernel_rfl
@[go_sem] theorem tb229 : tb Tryd.prog 229 = some 8 := by kernel_rfl
@[go_sem] theorem ta229 : ta Tryd.prog 229 = some false := by kernel_rfl
@[go_sem] theorem tz229 : tz Tryd.prog 229 = some [.nilFunc] := by kernel_rfl
@[go_sem] theorem tpl229 : tpl Tryd.prog 229 = none := by kernel_rfl
@[go_sem] theorem tarr229 : tarr Tryd.prog 229 = none := by kernel_rfl
@[go_sem] theorem tn230 : tn Tryd.prog 230 = some 1 := by kernel_rfl
@[go_sem] theorem tb230 : tb Tryd.prog 230 = some 8 := by kernel_rfl
@[go_sem] theorem ta230 : ta Tryd.prog 230 = some false := by kernel_rfl
@[go_sem] theorem tz230 : tz Tryd.prog 230 = some [.pointer none] := by kernel_rfl
@[go_sem] theorem tpl230 : tpl Tryd.prog 230 = none := by kernel_rfl
@[go_sem] theorem tarr230 : tarr Tryd.prog 230 = none := by kernel_rfl
@[go_sem] theorem tn231 : tn Tryd.prog 231 = some 1 := by kernel_rfl
@[go_sem] theorem tb231 : tb Tryd.prog 231 = some 8 := by kernel_rfl
@[go_sem] theorem ta231 : ta Tryd.prog 231 = some false := by kernel_rfl
@[go_sem] theorem tz231 : tz Tryd.prog 231 = some [.nilFunc] := by kernel_rfl
@[go_sem] theorem tpl231 : tpl Tryd.prog 231 = none := by kernel_rfl
@[go_sem] theorem tarr231 : tarr Tryd.prog 231 = none := by kernel_rfl
@[go_sem] theorem tn232 : tn Tryd.prog 232 = some 1 := by kernel_rfl
@[go_sem] theorem tb232 : tb Tryd.prog 232 = some 8 := by kernel_rfl
@[go_sem] theorem ta232 : ta Tryd.prog 232 = some false := by kernel_rfl
@[go_sem] theorem tz232 : tz Tryd.prog 232 = some [.nilFunc] := by kernel_rfl
@[go_sem] theorem tpl232 : tpl Tryd.prog 232 = none := by kernel_rfl
@[go_sem] theorem tarr232 : tarr Tryd.prog 232 = none := by kernel_rfl
@[go_sem] theorem tn233 : tn Tryd.prog 233 = some 24 := by kernel_rfl
@[go_sem] theorem tb233 : tb Tryd.prog 233 = some 24 := by kernel_rfl
@[go_sem] theorem ta233 : ta Tryd.prog 233 = some true := by kernel_rfl
@[go_sem] theorem tz233 : tz Tryd.prog 233 = some [.int .u8 0, .int .u8 0, .int .u8 0, .int .u8 0, .int .u8 0, .int .u8 0, .int .u8 0, .int .u8 0, .int .u8 0, .int .u8 0, .int .u8 0, .int .u8 0, .int .u8 0, .int .u8 0, .int .u8 0, .int .u8 0, .int .u8 0, .int .u8 0, .int .u8 0, .int .u8 0, .int .u8 0, .int .u8 0, .int .u8 0, .int .u8 0] := by kernel_rfl
@[go_sem] theorem tpl233 : tpl Tryd.prog 233 = none := by kernel_rfl
@[go_sem] theorem teg233 : teg Tryd.prog 233 = false := by kernel_rfl
@[go_sem] theorem tflat233 : flat Tryd.prog 6 233 = some [some .u8, some .u8, some .u8, some .u8, some .u8, some .u8, some .u8, some .u8, some .u8, some .u8, some .u8, some .u8, some .u8, some .u8, some .u8, some .u8, some .u8, some .u8, some .u8, some .u8, some .u8, some .u8, some .u8, some .u8] := by kernel_rfl
@[go_sem] theorem tarr233 : tarr Tryd.prog 233 = some (24, 5) := by kernel_rfl
@[go_sem] theorem tsl233 : tsl Tryd.prog 233 = none := by kernel_rfl
@[go_sem] theorem tstr233 : tstr Tryd.prog 233 = false := by kernel_rfl
@[go_sem] theorem tn234 : tn Tryd.prog 234 = some 1 := by kernel_rfl
@[go_sem] theorem tb234 : tb Tryd.prog 234 = some 8 := by kernel_rfl
@[go_sem] theorem ta234 : ta Tryd.prog 234 = some false := by kernel_rfl
@[go_sem] theorem tz234 : tz Tryd.prog 234 = some [.int .u64 0] := by kernel_rfl
@[go_sem] theorem tpl234 : tpl Tryd.prog 234 = none := by kernel_rfl
@[go_sem] theorem tarr234 : tarr Tryd.prog 234 = none := by kernel_rfl
@[go_sem] theorem tint234 : tint Tryd.prog 234 = some .u64 := by kernel_rfl
@[go_sem] theorem tn235 : tn Tryd.prog 235 = some 1 := by kernel_rfl
@[go_sem] theorem tb235 : tb Tryd.prog 235 = some 8 := by kernel_rfl
@[go_sem] theorem ta235 : ta Tryd.prog 235 = some false := by kernel_rfl
@[go_sem] theorem tz235 : tz Tryd.prog 235 = some [.nilFunc] := by kernel_rfl
@[go_sem] theorem tpl235 : tpl Tryd.prog 235 = none := by kernel_rfl
@[go_sem] theorem tarr235 : tarr Tryd.prog 235 = none := by kernel_rfl
@[go_sem] theorem tn236 : tn Tryd.prog 236 = some 1 := by kernel_rfl
@[go_sem] theorem tb236 : tb Tryd.prog 236 = some 8 := by kernel_rfl
@[go_sem] theorem ta236 : ta Tryd.prog 236 = some false := by kernel_rfl
@[go_sem] theorem tz236 : tz Tryd.prog 236 = some [.nilFunc] := by kernel_rfl
@[go_sem] theorem tpl236 : tpl Tryd.prog 236 = none := by kernel_rfl
@[go_sem] theorem tarr236 : tarr Tryd.prog 236 = none := by kernel_rfl
@[go_sem] theorem tn238 : tn Tryd.prog 238 = some 1 := by kernel_rfl
@[go_sem] theorem tb238 : tb Tryd.prog 238 = some 8 := by kernel_rfl
@[go_sem] theorem ta238 : ta Tryd.prog 238 = some false := by kernel_rfl
@[go_sem] theorem tz238 : tz Tryd.prog 238 = some [.nilFunc] := by kernel_rfl
@[go_sem] theorem tpl238 : tpl Tryd.prog 238 = none := by kernel_rfl
@[go_sem] theorem tarr238 : tarr Tryd.prog 238 = none := by kernel_rfl
@[go_sem] theorem tn239 : tn Tryd.prog 239 = some 1 := by kernel_rfl
@[go_sem] theorem tb239 : tb Tryd.prog 239 = some 8 := by kernel_rfl
@[go_sem] theorem ta239 : ta Tryd.prog 239 = some false := by kernel_rfl
@[go_sem] theorem tz239 : tz Tryd.prog 239 = some [.nilFunc] := by kernel_rfl
@[go_sem] theorem tpl239 : tpl Tryd.prog 239 = none := by kernel_rfl
@[go_sem] theorem tarr239 : tarr Tryd.prog 239 = none := by kernel_rfl
@[go_sem] theorem tn240 : tn Tryd.prog 240 = some 16 := by kernel_rfl
@[go_sem] theorem tb240 : tb Tryd.prog 240 = some 64 := by kernel_rfl
@[go_sem] theorem ta240 : ta Tryd.prog 240 = some true := by kernel_rfl
@[go_sem] theorem tz240 : tz Tryd.prog 240 = some [.int .u32 0, .int .u32 0, .int .u32 0, .int .u32 0, .int .u32 0, .int .u32 0, .int .u32 0, .int .u32 0, .int .u32 0, .int .u32 0, .int .u32 0, .int .u32 0, .int .u32 0, .int .u32 0, .int .u32 0, .int .u32 0] := by kernel_rfl
@[go_sem] theorem tpl240 : tpl Tryd.prog 240 = none := by kernel_rfl
@[go_sem] theorem teg240 : teg Tryd.prog 240 = false := by kernel_rfl
@[go_sem] theorem tflat240 : flat Tryd.prog 6 240 = some [some .u32, some .u32, some .u32, some .u32, some .u32, some .u32, some .u32, some .u32, some .u32, some .u32, some .u32, some .u32, some .u32, some .u32, some .u32, some .u32] := by kernel_rfl
@[go_sem] theorem tarr240 : tarr Tryd.prog 240 = some (16, 151) := by kernel_rfl
@[go_sem] theorem tsl240 : tsl Tryd.prog 240 = none := by kernel_rfl
@[go_sem] theorem tstr240 : tstr Tryd.prog 240 = false := by kernel_rfl
@[go_sem] theorem tn241 : tn Tryd.prog 241 = some 16 := by kernel_rfl
@[go_sem] theorem tb241 : tb Tryd.prog 241 = some 64 := by kernel_rfl
@[go_sem] theorem ta241 : ta Tryd.prog 241 = some true := by kernel_rfl
@[go_sem] theorem tz241 : tz Tryd.prog 241 = some [.int .u32 0, .int .u32 0, .int .u32 0, .int .u32 0, .int .u32 0, .int .u32 0, .int .u32 0, .int .u32 0, .int .u32 0, .int .u32 0, .int .u32 0, .int .u32 0, .int .u32 0, .int .u32 0, .int .u32 0, .int .u32 0] := by kernel_rfl
@[go_sem] theorem tpl241 : tpl Tryd.prog 241 = none := by kernel_rfl
@[go_sem] theorem teg241 : teg Tryd.prog 241 = false := by kernel_rfl
@[go_sem] theorem tflat241 : flat Tryd.prog 6 241 = some [some .u32, some .u32, some .u32, some .u32, some .u32, some .u32, some .u32, some .u32, some .u32, some .u32, some .u32, some .u32, some .u32, some .u32, some .u32, some .u32] := by kernel_rfl
@[go_sem] theorem tarr241 : tarr Tryd.prog 241 = some (16, 151) := by kernel_rfl
@[go_sem] theorem tsl241 : tsl Tryd.prog 241 = none := by kernel_rfl
@[go_sem] theorem tstr241 : tstr Tryd.prog 241 = false := by kernel_rfl
@[go_sem] theorem tn242 : tn Tryd.prog 242 = some 1 := by kernel_rfl
@[go_sem] theorem tb242 : tb Tryd.prog 242 = some 8 := by kernel_rfl
@[go_sem] theorem ta242 : ta Tryd.prog 242 = some false := by kernel_rfl
@[go_sem] theorem tz242 : tz Tryd.prog 242 = some [.nilFunc] := by kernel_rfl
@[go_sem] theorem tpl242 : tpl Tryd.prog 242 = none := by kernel_rfl
@[go_sem] theorem tarr242 : tarr Tryd.prog 242 = none := by kernel_rfl
@[go_sem] theorem tn243 : tn Tryd.prog 243 = some 1 := by kernel_rfl
@[go_sem] theorem tb243 : tb Tryd.prog 243 = some 8 := by kernel_rfl
@[go_sem] theorem ta243 : ta Tryd.prog 243 = some false := by kernel_rfl
@[go_sem] theorem tz243 : tz Tryd.prog 243 = some [.nilFunc] := by kernel_rfl
@[go_sem] theorem tpl243 : tpl Tryd.prog 243 = none := by kernel_rfl
@[go_sem] theorem tarr243 : tarr Tryd.prog 243 = none := by kernel_rfl
@[go_sem] theorem tn244 : tn Tryd.prog 244 = some 1 := by kernel_rfl
@[go_sem] theorem tb244 : tb Tryd.prog 244 = some 8 := by kernel_rfl
@[go_sem] theorem ta244 : ta Tryd.prog 244 = some false := by kernel_rfl
@[go_sem] theorem tz244 : tz Tryd.prog 244 = some [.nilFunc] := by kernel_rfl
@[go_sem] theorem tpl244 : tpl Tryd.prog 244 = none := by kernel_rfl
@[go_sem] theorem tarr244 : tarr Tryd.prog 244 = none := by kernel_rfl
@[go_sem] theorem tn245 : tn Tryd.prog 245 = some 1 := by kernel_rfl
@[go_sem] theorem tb245 : tb Tryd.prog 245 = some 8 := by kernel_rfl
@[go_sem] theorem ta245 : ta Tryd.prog 245 = some false := by kernel_rfl
@[go_sem] theorem tz245 : tz Tryd.prog 245 = some [.nilFunc] := by kernel_rfl
@[go_sem] theorem tpl245 : tpl Tryd.prog 245 = none := by kernel_rfl
@[go_sem] theorem tarr245 : tarr Tryd.prog 245 = none := by kernel_rfl
@[go_sem] theorem tn246 : tn Tryd.prog 246 = some 1 := by kernel_rfl
@[go_sem] theorem tb246 : tb Tryd.prog 246 = some 8 := by kernel_rfl
@[go_sem] theorem ta246 : ta Tryd.prog 246 = some false := by kernel_rfl
@[go_sem] theorem tz246 : tz Tryd.prog 246 = some [.nilFunc] := by kernel_rfl
@[go_sem] theorem tpl246 : tpl Tryd.prog 246 = none := by kernel_rfl
@[go_sem] theorem tarr246 : tarr Tryd.prog 246 = none := by kernel_rfl
@[go_sem] theorem tn248 : tn Tryd.prog 248 = some 1 := by kernel_rfl
@[go_sem] theorem tb248 : tb Tryd.prog 248 = some 8 := by kernel_rfl
@[go_sem] theorem ta248 : ta Tryd.prog 248 = some false := by kernel_rfl
@[go_sem] theorem tz248 : tz Tryd.prog 248 = some [.nilFunc] := by kernel_rfl
@[go_sem] theorem tpl248 : tpl Tryd.prog 248 = none := by kernel_rfl
@[go_sem] theorem tarr248 : tarr Tryd.prog 248 = none := by kernel_rfl
@[go_sem] theorem tn250 : tn Tryd.prog 250 = some 1 := by kernel_rfl
@[go_sem] theorem tb250 : tb Tryd.prog 250 = some 8 := by kernel_rfl
@[go_sem] theorem ta250 : ta Tryd.prog 250 = some false := by kernel_rfl
@[go_sem] theorem tz250 : tz Tryd.prog 250 = some [.nilFunc] := by kernel_rfl
@[go_sem] theorem tpl250 : tpl Tryd.prog 250 = none := by kernel_rfl
@[go_sem] theorem tarr250 : tarr Tryd.prog 250 = none := by kernel_rfl
@[go_sem] theorem tn251 : tn Tryd.prog 251 = some 1 := by kernel_rfl
@[go_sem] theorem tb251 : tb Tryd.prog 251 = some 8 := by kernel_rfl
@[go_sem] theorem ta251 : ta Tryd.prog 251 = some false := by kernel_rfl
@[go_sem] theorem tz251 : tz Tryd.prog 251 = some [.nilFunc] := by kernel_rfl
@[go_sem] theorem tpl251 : tpl Tryd.prog 251 = none := by kernel_rfl
@[go_sem] theorem tarr251 : tarr Tryd.prog 251 = none := by kernel_rfl
@[go_sem] theorem tn252 : tn Tryd.prog 252 = some 3 := by kernel_rfl
@[go_sem] theorem tb252 : tb Tryd.prog 252 = some 48 := by kernel_rfl
@[go_sem] theorem ta252 : ta Tryd.prog 252 = some true := by kernel_rfl
@[go_sem] theorem tz252 : tz Tryd.prog 252 = some [.string ⟨#[]⟩, .string ⟨#[]⟩, .nilIface] := by kernel_rfl
@[go_sem] theorem tf252_0 : tf Tryd.prog 252 0 = some 0 := by kernel_rfl
@[go_sem] theorem tf252_1 : tf Tryd.prog 252 1 = some 1 := by kernel_rfl
@[go_sem] theorem tf252_2 : tf Tryd.prog 252 2 = some 2 := by kernel_rfl
@[go_sem] theorem tpl252 : tpl Tryd.prog 252 = some [(0, 1), (1, 1), (2, 1)] := by kernel_rfl
@[go_sem] theorem tfl252_0 : tfl Tryd.prog 252 0 = some (0, 9) := by kernel_rfl
@[go_sem] theorem tfl252_1 : tfl Tryd.prog 252 1 = some (1, 9) := by kernel_rfl
@[go_sem] theorem tfl252_2 : tfl Tryd.prog 252 2 = some (2, 128) := by kernel_rfl
@[go_sem] theorem tarr252 : tarr Tryd.prog 252 = none := by kernel_rfl
@[go_sem] theorem tn253 : tn Tryd.prog 253 = some 3 := by kernel_rfl
@[go_sem] theorem tb253 : tb Tryd.prog 253 = some 48 := by kernel_rfl
@[go_sem] theorem ta253 : ta Tryd.prog 253 = some true := by kernel_rfl
@[go_sem] theorem tz253 : tz Tryd.prog 253 = some [.string ⟨#[]⟩, .string ⟨#[]⟩, .nilIface] := by kernel_rfl
@[go_sem] theorem tf253_0 : tf Tryd.prog 253 0 = some 0 := by kernel_rfl
@[go_sem] theorem tf253_1 : tf Tryd.prog 253 1 = some 1 := by kernel_rfl
@[go_sem] theorem tf253_2 : tf Tryd.prog 253 2 = some 2 := by kernel_rfl
@[go_sem] theorem tpl253 : tpl Tryd.prog 253 = some [(0, 1), (1, 1), (2, 1)] := by kernel_rfl
@[go_sem] theorem tfl253_0 : tfl Tryd.prog 253 0 = some (0, 9) := by kernel_rfl
@[go_sem] theorem tfl253_1 : tfl Tryd.prog 253 1 = some (1, 9) := by kernel_rfl
@[go_sem] theorem tfl253_2 : tfl Tryd.prog 253 2 = some (2, 128) := by kernel_rfl
@[go_sem] theorem tarr253 : tarr Tryd.prog 253 = none := by kernel_rfl
@[go_sem] theorem tn254 : tn Tryd.prog 254 = some 1 := by kernel_rfl
@[go_sem] theorem tb254 : tb Tryd.prog 254 = some 8 := by kernel_rfl
@[go_sem] theorem ta254 : ta Tryd.prog 254 = some false := by kernel_rfl
@[go_sem] theorem tz254 : tz Tryd.prog 254 = some [.nilFunc] := by kernel_rfl
@[go_sem] theorem tpl254 : tpl Tryd.prog 254 = none := by kernel_rfl
@[go_sem] theorem tarr254 : tarr Tryd.prog 254 = none := by kernel_rfl
@[go_sem] theorem tn255 : tn Tryd.prog 255 = some 1 := by kernel_rfl
@[go_sem] theorem tb255 : tb Tryd.prog 255 = some 8 := by kernel_rfl
@[go_sem] theorem ta255 : ta Tryd.prog 255 = some false := by kernel_rfl
@[go_sem] theorem tz255 : tz Tryd.prog 255 = some [.nilFunc] := by kernel_rfl
@[go_sem] theorem tpl255 : tpl Tryd.prog 255 = none := by kernel_rfl
@[go_sem] theorem tarr255 : tarr Tryd.prog 255 = none := by kernel_rfl
@[go_sem] theorem tn256 : tn Tryd.prog 256 = some 20 := by kernel_rfl
@[go_sem] theorem tb256 : tb Tryd.prog 256 = some 160 := by kernel_rfl
@[go_sem] theorem ta256 : ta Tryd.prog 256 = some true := by kernel_rfl
@[go_sem] theorem tz256 : tz Tryd.prog 256 = some [.int .u64 0, .int .u64 0, .int .u64 0, .int .u64 0, .int .u64 0, .int .u64 0, .int .u64 0, .int .u64 0, .int .u64 0, .int .u64 0, .int .u64 0, .int .u64 0, .int .u64 0, .int .u64 0, .int .u64 0, .int .u64 0, .int .u64 0, .int .u64 0, .int .u64 0, .int .u64 0] := by kernel_rfl
@[go_sem] theorem tpl256 : tpl Tryd.prog 256 = none := by kernel_rfl
@[go_sem] theorem teg256 : teg Tryd.prog 256 = false := by kernel_rfl
@[go_sem] theorem tflat256 : flat Tryd.prog 6 256 = some [some .u64, some .u64, some .u64, some .u64, some .u64, some .u64, some .u64, some .u64, some .u64, some .u64, some .u64, some .u64, some .u64, some .u64, some .u64, some .u64, some .u64, some .u64, some .u64, some .u64] := by kernel_rfl
@[go_sem] theorem tarr256 : tarr Tryd.prog 256 = some (20, 234) := by kernel_rfl
@[go_sem] theorem tsl256 : tsl Tryd.prog 256 = none := by kernel_rfl
@[go_sem] theorem tstr256 : tstr Tryd.prog 256 = false := by kernel_rfl
@[go_sem] theorem tn257 : tn Tryd.prog 257 = some 65 := by kernel_rfl
@[go_sem] theorem tb257 : tb Tryd.prog 257 = some 65 := by kernel_rfl
@[go_sem] theorem ta257 : ta Tryd.prog 257 = some true := by kernel_rfl
@[go_sem] theorem tpl257 : tpl Tryd.prog 257 = none := by kernel_rfl
@[go_sem] theorem teg257 : teg Tryd.prog 257 = false := by kernel_rfl
@[go_sem] theorem tarr257 : tarr Tryd.prog 257 = some (65, 5) := by kernel_rfl
@[go_sem] theorem tsl257 : tsl Tryd.prog 257 = none := by kernel_rfl
@[go_sem] theorem tstr257 : tstr Tryd.prog 257 = false := by kernel_rfl
@[go_sem] theorem tn258 : tn Tryd.prog 258 = some 1 := by kernel_rfl
@[go_sem] theorem tb258 : tb Tryd.prog 258 = some 8 := by kernel_rfl
@[go_sem] theorem ta258 : ta Tryd.prog 258 = some false := by kernel_rfl
@[go_sem] theorem tz258 : tz Tryd.prog 258 = some [.nilFunc] := by kernel_rfl
@[go_sem] theorem tpl258 : tpl Tryd.prog 258 = none := by kernel_rfl
@[go_sem] theorem tarr258 : tarr Tryd.prog 258 = none := by kernel_rfl
@[go_sem] theorem tn259 : tn Tryd.prog 259 = some 1 := by kernel_rfl
@[go_sem] theorem tb259 : tb Tryd.prog 259 = some 8 := by kernel_rfl
@[go_sem] theorem ta259 : ta Tryd.prog 259 = some false := by kernel_rfl
@[go_sem] theorem tz259 : tz Tryd.prog 259 = some [.pointer none] := by kernel_rfl
@[go_sem] theorem tpl259 : tpl Tryd.prog 259 = none := by kernel_rfl
@[go_sem] theorem tarr259 : tarr Tryd.prog 259 = none := by kernel_rfl
@[go_sem] theorem tn260 : tn Tryd.prog 260 = some 3 := by kernel_rfl
@[go_sem] theorem tb260 : tb Tryd.prog 260 = some 24 := by kernel_rfl
@[go_sem] theorem ta260 : ta Tryd.prog 260 = some true := by kernel_rfl
@[go_sem] theorem tz260 : tz Tryd.prog 260 = some [.int .i64 0, .int .i64 0, .int .i64 0] := by kernel_rfl
@[go_sem] theorem tpl260 : tpl Tryd.prog 260 = none := by kernel_rfl
@[go_sem] theorem teg260 : teg Tryd.prog 260 = false := by kernel_rfl
@[go_sem] theorem tflat260 : flat Tryd.prog 6 260 = some [some .i64, some .i64, some .i64] := by kernel_rfl
@[go_sem] theorem tarr260 : tarr Tryd.prog 260 = some (3, 3) := by kernel_rfl
@[go_sem] theorem tsl260 : tsl Tryd.prog 260 = none := by kernel_rfl
@[go_sem] theorem tstr260 : tstr Tryd.prog 260 = false := by kernel_rfl
@[go_sem] theorem tn261 : tn Tryd.prog 261 = some 5 := by kernel_rfl
@[go_sem] theorem tb261 : tb Tryd.prog 261 = some 40 := by kernel_rfl
@[go_sem] theorem ta261 : ta Tryd.prog 261 = some true := by kernel_rfl
@[go_sem] theorem tz261 : tz Tryd.prog 261 = some [.int .u64 0, .int .u64 0, .int .u64 0, .int .u64 0, .int .u64 0] := by kernel_rfl
@[go_sem] theorem tpl261 : tpl Tryd.prog 261 = none := by kernel_rfl
@[go_sem] theorem teg261 : teg Tryd.prog 261 = false := by kernel_rfl
@[go_sem] theorem tflat261 : flat Tryd.prog 6 261 = some [some .u64, some .u64, some .u64, some .u64, some .u64] := by kernel_rfl
@[go_sem] theorem tarr261 : tarr Tryd.prog 261 = some (5, 234) := by kernel_rfl
@[go_sem] theorem tsl261 : tsl Tryd.prog 261 = none := by kernel_rfl
@[go_sem] theorem tstr261 : tstr Tryd.prog 261 = false := by kernel_rfl
@[go_sem] theorem tn262 : tn Tryd.prog 262 = some 5 := by kernel_rfl
@[go_sem] theorem tb262 : tb Tryd.prog 262 = some 40 := by kernel_rfl
@[go_sem] theorem ta262 : ta Tryd.prog 262 = some true := by kernel_rfl
@[go_sem] theorem tz262 : tz Tryd.prog 262 = some [.int .u64 0, .int .u64 0, .int .u64 0, .int .u64 0, .int .u64 0] := by kernel_rfl
@[go_sem] theorem tpl262 : tpl Tryd.prog 262 = none := by kernel_rfl
@[go_sem] theorem teg262 : teg Tryd.prog 262 = false := by kernel_rfl
@[go_sem] theorem tflat262 : flat Tryd.prog 6 262 = some [some .u64, some .u64, some .u64, some .u64, some .u64] := by kernel_rfl
@[go_sem] theorem tarr262 : tarr Tryd.prog 262 = some (5, 234) := by kernel_rfl
@[go_sem] theorem tsl262 : tsl Tryd.prog 262 = none := by kernel_rfl
@[go_sem] theorem tstr262 : tstr Tryd.prog 262 = false := by kernel_rfl
@[go_sem] theorem tn263 : tn Tryd.prog 263 = some 1 := by kernel_rfl
@[go_sem] theorem tb263 : tb Tryd.prog 263 = some 8 := by kernel_rfl
@[go_sem] theorem ta263 : ta Tryd.prog 263 = some false := by kernel_rfl
@[go_sem] theorem tz263 : tz Tryd.prog 263 = some [.nilFunc] := by kernel_rfl
@[go_sem] theorem tpl263 : tpl Tryd.prog 263 = none := by kernel_rfl
@[go_sem] theorem tarr263 : tarr Tryd.prog 263 = none := by kernel_rfl
@[go_sem] theorem tn264 : tn Tryd.prog 264 = some 17 := by kernel_rfl
@[go_sem] theorem tb264 : tb Tryd.prog 264 = some 17 := by kernel_rfl
@[go_sem] theorem ta264 : ta Tryd.prog 264 = some true := by kernel_rfl
@[go_sem] theorem tz264 : tz Tryd.prog 264 = some [.int .u8 0, .int .u8 0, .int .u8 0, .int .u8 0, .int .u8 0, .int .u8 0, .int .u8 0, .int .u8 0, .int .u8 0, .int .u8 0, .int .u8 0, .int .u8 0, .int .u8 0, .int .u8 0, .int .u8 0, .int .u8 0, .int .u8 0] := by kernel_rfl
@[go_sem] theorem tpl264 : tpl Tryd.prog 264 = none := by kernel_rfl
@[go_sem] theorem teg264 : teg Tryd.prog 264 = false := by kernel_rfl
@[go_sem] theorem tflat264 : flat Tryd.prog 6 264 = some [some .u8, some .u8, some .u8, some .u8, some .u8, some .u8, some .u8, some .u8, some .u8, some .u8, some .u8, some .u8, some .u8, some .u8, some .u8, some .u8, some .u8] := by kernel_rfl
@[go_sem] theorem tarr264 : tarr Tryd.prog 264 = some (17, 5) := by kernel_rfl
@[go_sem] theorem tsl264 : tsl Tryd.prog 264 = none := by kernel_rfl
@[go_sem] theorem tstr264 : tstr Tryd.prog 264 = false := by kernel_rfl
@[go_sem] theorem tn265 : tn Tryd.prog 265 = some 1 := by kernel_rfl
@[go_sem] theorem tb265 : tb Tryd.prog 265 = some 8 := by kernel_rfl
@[go_sem] theorem ta265 : ta Tryd.prog 265 = some false := by kernel_rfl
@[go_sem] theorem tz265 : tz Tryd.prog 265 = some [.nilFunc] := by kernel_rfl
@[go_sem] theorem tpl265 : tpl Tryd.prog 265 = none := by kernel_rfl
@[go_sem] theorem tarr265 : tarr Tryd.prog 265 = none := by kernel_rfl
@[go_sem] theorem tn266 : tn Tryd.prog 266 = some 1 := by kernel_rfl
@[go_sem] theorem tb266 : tb Tryd.prog 266 = some 8 := by kernel_rfl
@[go_sem] theorem ta266 : ta Tryd.prog 266 = some false := by kernel_rfl
@[go_sem] theorem tz266 : tz Tryd.prog 266 = some [.nilFunc] := by kernel_rfl
@[go_sem] theorem tpl266 : tpl Tryd.prog 266 = none := by kernel_rfl
@[go_sem] theorem tarr266 : tarr Tryd.prog 266 = none := by kernel_rfl
@[go_sem] theorem tn268 : tn Tryd.prog 268 = some 1 := by kernel_rfl
@[go_sem] theorem tb268 : tb Tryd.prog 268 = some 8 := by kernel_rfl
@[go_sem] theorem ta268 : ta Tryd.prog 268 = some false := by kernel_rfl
@[go_sem] theorem tz268 : tz Tryd.prog 268 = some [.nilFunc] := by kernel_rfl
@[go_sem] theorem tpl268 : tpl Tryd.prog 268 = none := by kernel_rfl
@[go_sem] theorem tarr268 : tarr Tryd.prog 268 = none := by kernel_rfl
@[go_sem] theorem tn269 : tn Tryd.prog 269 = some 1 := by kernel_rfl
@[go_sem] theorem tb269 : tb Tryd.prog 269 = some 8 := by kernel_rfl
@[go_sem] theorem ta269 : ta Tryd.prog 269 = some false := by kernel_rfl
@[go_sem] theorem tz269 : tz Tryd.prog 269 = some [.nilFunc] := by kernel_rfl
@[go_sem] theorem tpl269 : tpl Tryd.prog 269 = none := by kernel_rfl
@[go_sem] theorem tarr269 : tarr Tryd.prog 269 = none := by kernel_rfl
@[go_sem] theorem tn270 : tn Tryd.prog 270 = some 1 := by kernel_rfl
@[go_sem] theorem tb270 : tb Tryd.prog 270 = some 8 := by kernel_rfl
@[go_sem] theorem ta270 : ta Tryd.prog 270 = some false := by kernel_rfl
@[go_sem] theorem tz270 : tz Tryd.prog 270 = some [.nilFunc] := by kernel_rfl
@[go_sem] theorem tpl270 : tpl Tryd.prog 270 = none := by kernel_rfl
@[go_sem] theorem tarr270 : tarr Tryd.prog 270 = none := by kernel_rfl
@[go_sem] theorem tn271 : tn Tryd.prog 271 = some 1 := by kernel_rfl
@[go_sem] theorem tb271 : tb Tryd.prog 271 = some 8 := by kernel_rfl
@[go_sem] theorem ta271 : ta Tryd.prog 271 = some false := by kernel_rfl
@[go_sem] theorem tz271 : tz Tryd.prog 271 = some [.pointer none] := by kernel_rfl
@[go_sem] theorem tpl271 : tpl Tryd.prog 271 = none := by kernel_rfl
@[go_sem] theorem tarr271 : tarr Tryd.prog 271 = none := by kernel_rfl
@[go_sem] theorem tn272 : tn Tryd.prog 272 = some 1 := by kernel_rfl
@[go_sem] theorem tb272 : tb Tryd.prog 272 = some 16 := by kernel_rfl
@[go_sem] theorem ta272 : ta Tryd.prog 272 = some true := by kernel_rfl
@[go_sem] theorem tz272 : tz Tryd.prog 272 = some [.string ⟨#[]⟩] := by kernel_rfl
@[go_sem] theorem tf272_0 : tf Tryd.prog 272 0 = some 0 := by kernel_rfl
@[go_sem] theorem tpl272 : tpl Tryd.prog 272 = some [(0, 1)] := by kernel_rfl
@[go_sem] theorem tfl272_0 : tfl Tryd.prog 272 0 = some (0, 9) := by kernel_rfl
@[go_sem] theorem teg272 : teg Tryd.prog 272 = false := by kernel_rfl
@[go_sem] theorem tarr272 : tarr Tryd.prog 272 = none := by kernel_rfl
@[go_sem] theorem tn273 : tn Tryd.prog 273 = some 1 := by kernel_rfl
@[go_sem] theorem tb273 : tb Tryd.prog 273 = some 16 := by kernel_rfl
@[go_sem] theorem ta273 : ta Tryd.prog 273 = some true := by kernel_rfl
@[go_sem] theorem tz273 : tz Tryd.prog 273 = some [.string ⟨#[]⟩] := by kernel_rfl
@[go_sem] theorem tf273_0 : tf Tryd.prog 273 0 = some 0 := by kernel_rfl
@[go_sem] theorem tpl273 : tpl Tryd.prog 273 = some [(0, 1)] := by kernel_rfl
@[go_sem] theorem tfl273_0 : tfl Tryd.prog 273 0 = some (0, 9) := by kernel_rfl
@[go_sem] theorem teg273 : teg Tryd.prog 273 = false := by kernel_rfl
@[go_sem] theorem tarr273 : tarr Tryd.prog 273 = none := by kernel_rfl
@[go_sem] theorem tn274 : tn Tryd.prog 274 = some 1 := by kernel_rfl
@[go_sem] theorem tb274 : tb Tryd.prog 274 = some 8 := by kernel_rfl
@[go_sem] theorem ta274 : ta Tryd.prog 274 = some false := by kernel_rfl
@[go_sem] theorem tz274 : tz Tryd.prog 274 = some [.nilFunc] := by kernel_rfl
@[go_sem] theorem tpl274 : tpl Tryd.prog 274 = none := by kernel_rfl
@[go_sem] theorem tarr274 : tarr Tryd.prog 274 = none := by kernel_rfl
@[go_sem] theorem tn275 : tn Tryd.prog 275 = some 256 := by kernel_rfl
@[go_sem] theorem tb275 : tb Tryd.prog 275 = some 256 := by kernel_rfl
@[go_sem] theorem ta275 : ta Tryd.prog 275 = some true := by kernel_rfl
@[go_sem] theorem tpl275 : tpl Tryd.prog 275 = none := by kernel_rfl
@[go_sem] theorem teg275 : teg Tryd.prog 275 = false := by kernel_rfl
@[go_sem] theorem tarr275 : tarr Tryd.prog 275 = some (256, 5) := by kernel_rfl
@[go_sem] theorem tsl275 : tsl Tryd.prog 275 = none := by kernel_rfl
@[go_sem] theorem tstr275 : tstr Tryd.prog 275 = false := by kernel_rfl
@[go_sem] theorem tn276 : tn Tryd.prog 276 = some 2 := by kernel_rfl
@[go_sem] theorem tb276 : tb Tryd.prog 276 = some 2 := by kernel_rfl
@[go_sem] theorem ta276 : ta Tryd.prog 276 = some true := by kernel_rfl
@[go_sem] theorem tz276 : tz Tryd.prog 276 = some [.int .u8 0, .int .u8 0] := by kernel_rfl
@[go_sem] theorem tf276_0 : tf Tryd.prog 276 0 = some 0 := by kernel_rfl
@[go_sem] theorem tf276_1 : tf Tryd.prog 276 1 = some 1 := by kernel_rfl
@[go_sem] theorem tpl276 : tpl Tryd.prog 276 = some [(0, 1), (1, 1)] := by kernel_rfl
@[go_sem] theorem tfl276_0 : tfl Tryd.prog 276 0 = some (0, 5) := by kernel_rfl
@[go_sem] theorem tfl276_1 : tfl Tryd.prog 276 1 = some (1, 5) := by kernel_rfl
@[go_sem] theorem teg276 : teg Tryd.prog 276 = false := by kernel_rfl
@[go_sem] theorem tflat276 : flat Tryd.prog 6 276 = some [some .u8, some .u8] := by kernel_rfl
@[go_sem] theorem tarr276 : tarr Tryd.prog 276 = none := by kernel_rfl
@[go_sem] theorem tn277 : tn Tryd.prog 277 = some 2 := by kernel_rfl
@[go_sem] theorem tb277 : tb Tryd.prog 277 = some 2 := by kernel_rfl
@[go_sem] theorem ta277 : ta Tryd.prog 277 = some true := by kernel_rfl
@[go_sem] theorem tz277 : tz Tryd.prog 277 = some [.int .u8 0, .int .u8 0] := by kernel_rfl
@[go_sem] theorem tf277_0 : tf Tryd.prog 277 0 = some 0 := by kernel_rfl
@[go_sem] theorem tf277_1 : tf Tryd.prog 277 1 = some 1 := by kernel_rfl
@[go_sem] theorem tpl277 : tpl Tryd.prog 277 = some [(0, 1), (1, 1)] := by kernel_rfl
@[go_sem] theorem tfl277_0 : tfl Tryd.prog 277 0 = some (0, 5) := by kernel_rfl
@[go_sem] theorem tfl277_1 : tfl Tryd.prog 277 1 = some (1, 5) := by kernel_rfl
@[go_sem] theorem teg277 : teg Tryd.prog 277 = false := by kernel_rfl
@[go_sem] theorem tflat277 : flat Tryd.prog 6 277 = some [some .u8, some .u8] := by kernel_rfl
@[go_sem] theorem tarr277 : tarr Tryd.prog 277 = none := by kernel_rfl
@[go_sem] theorem tn278 : tn Tryd.prog 278 = some 32 := by kernel_rfl
@[go_sem] theorem tb278 : tb Tryd.prog 278 = some 32 := by kernel_rfl
@[go_sem] theorem ta278 : ta Tryd.prog 278 = some true := by kernel_rfl
@[go_sem] theorem tz278 : tz Tryd.prog 278 = some [.int .u8 0, .int .u8 0, .int .u8 0, .int .u8 0, .int .u8 0, .int .u8 0, .int .u8 0, .int .u8 0, .int .u8 0, .int .u8 0, .int .u8 0, .int .u8 0, .int .u8 0, .int .u8 0, .int .u8 0, .int .u8 0, .int .u8 0, .int .u8 0, .int .u8 0, .int .u8 0, .int .u8 0, .int .u8 0, .int .u8 0, .int .u8 0, .int .u8 0, .int .u8 0, .int .u8 0, .int .u8 0, .int .u8 0, .int .u8 0, .int .u8 0, .int .u8 0] := by kernel_rfl
@[go_sem] theorem tpl278 : tpl Tryd.prog 278 = none := by kernel_rfl
@[go_sem] theorem teg278 : teg Tryd.prog 278 = false := by kernel_rfl
@[go_sem] theorem tflat278 : flat Tryd.prog 6 278 = some [some .u8, some .u8, some .u8, some .u8, some .u8, some .u8, some .u8, some .u8, some .u8, some .u8, some .u8, some .u8, some .u8, some .u8, some .u8, some .u8, some .u8, some .u8, some .u8, some .u8, some .u8, some .u8, some .u8, some .u8, some .u8, some .u8, some .u8, some .u8, some .u8, some .u8, some .u8, some .u8] := by kernel_rfl
@[go_sem] theorem tarr278 : tarr Tryd.prog 278 = some (16, 277) := by kernel_rfl
@[go_sem] theorem tsl278 : tsl Tryd.prog 278 = none := by kernel_rfl
@[go_sem] theorem tstr278 : tstr Tryd.prog 278 = false := by kernel_rfl
@[go_sem] theorem tn280 : tn Tryd.prog 280 = some 1 := by kernel_rfl
@[go_sem] theorem tb280 : tb Tryd.prog 280 = some 8 := by kernel_rfl
@[go_sem] theorem ta280 : ta Tryd.prog 280 = some false := by kernel_rfl
@[go_sem] theorem tz280 : tz Tryd.prog 280 = some [.nilFunc] := by kernel_rfl
@[go_sem] theorem tpl280 : tpl Tryd.prog 280 = none := by kernel_rfl
@[go_sem] theorem tarr280 : tarr Tryd.prog 280 = none := by kernel_rfl
@[go_sem] theorem tn281 : tn Tryd.prog 281 = some 32 := by kernel_rfl
@[go_sem] theorem tb281 : tb Tryd.prog 281 = some 32 := by kernel_rfl
@[go_sem] theorem ta281 : ta Tryd.prog 281 = some true := by kernel_rfl
@[go_sem] theorem tz281 : tz Tryd.prog 281 = some [.int .u8 0, .int .u8 0, .int .u8 0, .int .u8 0, .int .u8 0, .int .u8 0, .int .u8 0, .int .u8 0, .int .u8 0, .int .u8 0, .int .u8 0, .int .u8 0, .int .u8 0, .int .u8 0, .int .u8 0, .int .u8 0, .int .u8 0, .int .u8 0, .int .u8 0, .int .u8 0, .int .u8 0, .int .u8 0, .int .u8 0, .int .u8 0, .int .u8 0, .int .u8 0, .int .u8 0, .int .u8 0, .int .u8 0, .int .u8 0, .int .u8 0, .int .u8 0] := by kernel_rfl
@[go_sem] theorem tpl281 : tpl Tryd.prog 281 = none := by kernel_rfl
@[go_sem] theorem teg281 : teg Tryd.prog 281 = false := by kernel_rfl
@[go_sem] theorem tflat281 : flat Tryd.prog 6 281 = some [some .u8, some .u8, some .u8, some .u8, some .u8, some .u8, some .u8, some .u8, some .u8, some .u8, some .u8, some .u8, some .u8, some .u8, some .u8, some .u8, some .u8, some .u8, some .u8, some .u8, some .u8, some .u8, some .u8, some .u8, some .u8, some .u8, some .u8, some .u8, some .u8, some .u8, some .u8, some .u8] := by kernel_rfl
@[go_sem] theorem tarr281 : tarr Tryd.prog 281 = some (32, 5) := by kernel_rfl
@[go_sem] theorem tsl281 : tsl Tryd.prog 281 = none := by kernel_rfl
@[go_sem] theorem tstr281 : tstr Tryd.prog 281 = false := by kernel_rfl
@[go_sem] theorem tn282 : tn Tryd.prog 282 = some 1 := by kernel_rfl
@[go_sem] theorem tb282 : tb Tryd.prog 282 = some 8 := by kernel_rfl
@[go_sem] theorem ta282 : ta Tryd.prog 282 = some false := by kernel_rfl
@[go_sem] theorem tz282 : tz Tryd.prog 282 = some [.pointer none] := by kernel_rfl
@[go_sem] theorem tpl282 : tpl Tryd.prog 282 = none := by kernel_rfl
@[go_sem] theorem tarr282 : tarr Tryd.prog 282 = none := by kernel_rfl
@[go_sem] theorem tn283 : tn Tryd.prog 283 = some 4 := by kernel_rfl
@[go_sem] theorem tb283 : tb Tryd.prog 283 = some 40 := by kernel_rfl
@[go_sem] theorem ta283 : ta Tryd.prog 283 = some true := by kernel_rfl
@[go_sem] theorem tz283 : tz Tryd.prog 283 = some [.pointer none, .pointer none, .pointer none, .string ⟨#[]⟩] := by kernel_rfl
@[go_sem] theorem tf283_0 : tf Tryd.prog 283 0 = some 0 := by kernel_rfl
@[go_sem] theorem tf283_1 : tf Tryd.prog 283 1 = some 1 := by kernel_rfl
@[go_sem] theorem tf283_2 : tf Tryd.prog 283 2 = some 2 := by kernel_rfl
@[go_sem] theorem tf283_3 : tf Tryd.prog 283 3 = some 3 := by kernel_rfl
@[go_sem] theorem tpl283 : tpl Tryd.prog 283 = some [(0, 1), (1, 1), (2, 1), (3, 1)] := by kernel_rfl
@[go_sem] theorem tfl283_0 : tfl Tryd.prog 283 0 = some (0, 17) := by kernel_rfl
@[go_sem] theorem tfl283_1 : tfl Tryd.prog 283 1 = some (1, 17) := by kernel_rfl
@[go_sem] theorem tfl283_2 : tfl Tryd.prog 283 2 = some (2, 17) := by kernel_rfl
@[go_sem] theorem tfl283_3 : tfl Tryd.prog 283 3 = some (3, 9) := by kernel_rfl
@[go_sem] theorem teg283 : teg Tryd.prog 283 = false := by kernel_rfl
@[go_sem] theorem tarr283 : tarr Tryd.prog 283 = none := by kernel_rfl
@[go_sem] theorem tn284 : tn Tryd.prog 284 = some 4 := by kernel_rfl
@[go_sem] theorem tb284 : tb Tryd.prog 284 = some 40 := by kernel_rfl
@[go_sem] theorem ta284 : ta Tryd.prog 284 = some true := by kernel_rfl
@[go_sem] theorem tz284 : tz Tryd.prog 284 = some [.pointer none, .pointer none, .pointer none, .string ⟨#[]⟩] := by kernel_rfl
@[go_sem] theorem tf284_0 : tf Tryd.prog 284 0 = some 0 := by kernel_rfl
@[go_sem] theorem tf284_1 : tf Tryd.prog 284 1 = some 1 := by kernel_rfl
@[go_sem] theorem tf284_2 : tf Tryd.prog 284 2 = some 2 := by kernel_rfl
@[go_sem] theorem tf284_3 : tf Tryd.prog 284 3 = some 3 := by kernel_rfl
@[go_sem] theorem tpl284 : tpl Tryd.prog 284 = some [(0, 1), (1, 1), (2, 1), (3, 1)] := by kernel_rfl
@[go_sem] theorem tfl284_0 : tfl Tryd.prog 284 0 = some (0, 17) := by kernel_rfl
@[go_sem] theorem tfl284_1 : tfl Tryd.prog 284 1 = some (1, 17) := by kernel_rfl
@[go_sem] theorem tfl284_2 : tfl Tryd.prog 284 2 = some (2, 17) := by kernel_rfl
@[go_sem] theorem tfl284_3 : tfl Tryd.prog 284 3 = some (3, 9) := by kernel_rfl
@[go_sem] theorem teg284 : teg Tryd.prog 284 = false := by kernel_rfl
@[go_sem] theorem tarr284 : tarr Tryd.prog 284 = none := by kernel_rfl
@[go_sem] theorem tn285 : tn Tryd.prog 285 = some 0 := by kernel_rfl
@[go_sem] theorem tb285 : tb Tryd.prog 285 = some 0 := by kernel_rfl
@[go_sem] theorem ta285 : ta Tryd.prog 285 = some true := by kernel_rfl
@[go_sem] theorem tz285 : tz Tryd.prog 285 = some [] := by kernel_rfl
@[go_sem] theorem tpl285 : tpl Tryd.prog 285 = none := by kernel_rfl
@[go_sem] theorem teg285 : teg Tryd.prog 285 = false := by kernel_rfl
@[go_sem] theorem tarr285 : tarr Tryd.prog 285 = some (0, 16) := by kernel_rfl
@[go_sem] theorem tsl285 : tsl Tryd.prog 285 = none := by kernel_rfl
@[go_sem] theorem tstr285 : tstr Tryd.prog 285 = false := by kernel_rfl
@[go_sem] theorem tn286 : tn Tryd.prog 286 = some 0 := by kernel_rfl
@[go_sem] theorem tb286 : tb Tryd.prog 286 = some 0 := by kernel_rfl
@[go_sem] theorem ta286 : ta Tryd.prog 286 = some true := by kernel_rfl
@[go_sem] theorem tz286 : tz Tryd.prog 286 = some [] := by kernel_rfl
@[go_sem] theorem tpl286 : tpl Tryd.prog 286 = some [(0, 0)] := by kernel_rfl
@[go_sem] theorem tfl286_0 : tfl Tryd.prog 286 0 = some (0, 285) := by kernel_rfl
@[go_sem] theorem teg286 : teg Tryd.prog 286 = false := by kernel_rfl
@[go_sem] theorem tarr286 : tarr Tryd.prog 286 = none := by kernel_rfl
@[go_sem] theorem tn287 : tn Tryd.prog 287 = some 0 := by kernel_rfl
@[go_sem] theorem tb287 : tb Tryd.prog 287 = some 0 := by kernel_rfl
@[go_sem] theorem ta287 : ta Tryd.prog 287 = some true := by kernel_rfl
@[go_sem] theorem tz287 : tz Tryd.prog 287 = some [] := by kernel_rfl
@[go_sem] theorem tpl287 : tpl Tryd.prog 287 = some [(0, 0)] := by kernel_rfl
@[go_sem] theorem tfl287_0 : tfl Tryd.prog 287 0 = some (0, 285) := by kernel_rfl
@[go_sem] theorem teg287 : teg Tryd.prog 287 = false := by kernel_rfl
@[go_sem] theorem tarr287 : tarr Tryd.prog 287 = none := by kernel_rfl
@[go_sem] theorem tn288 : tn Tryd.prog 288 = some 1 := by kernel_rfl
@[go_sem] theorem tb288 : tb Tryd.prog 288 = some 8 := by kernel_rfl
@[go_sem] theorem ta288 : ta Tryd.prog 288 = some false := by kernel_rfl
@[go_sem] theorem tz288 : tz Tryd.prog 288 = some [.nilFunc] := by kernel_rfl
@[go_sem] theorem tpl288 : tpl Tryd.prog 288 = none := by kernel_rfl
@[go_sem] theorem tarr288 : tarr Tryd.prog 288 = none := by kernel_rfl
@[go_sem] theorem tn289 : tn Tryd.prog 289 = some 1 := by kernel_rfl
@[go_sem] theorem tb289 : tb Tryd.prog 289 = some 1 := by kernel_rfl
@[go_sem] theorem ta289 : ta Tryd.prog 289 = some false := by kernel_rfl
@[go_sem] theorem tz289 : tz Tryd.prog 289 = some [.int .u8 0] := by kernel_rfl
@[go_sem] theorem tpl289 : tpl Tryd.prog 289 = none := by kernel_rfl
@[go_sem] theorem tarr289 : tarr Tryd.prog 289 = none := by kernel_rfl
@[go_sem] theorem tint289 : tint Tryd.prog 289 = some .u8 := by kernel_rfl
@[go_sem] theorem tn290 : tn Tryd.prog 290 = some 1 := by kernel_rfl
@[go_sem] theorem tb290 : tb Tryd.prog 290 = some 1 := by kernel_rfl
@[go_sem] theorem ta290 : ta Tryd.prog 290 = some false := by kernel_rfl
@[go_sem] theorem tz290 : tz Tryd.prog 290 = some [.int .u8 0] := by kernel_rfl
@[go_sem] theorem tpl290 : tpl Tryd.prog 290 = none := by kernel_rfl
@[go_sem] theorem tarr290 : tarr Tryd.prog 290 = none := by kernel_rfl
@[go_sem] theorem tint290 : tint Tryd.prog 290 = some .u8 := by kernel_rfl
@[go_sem] theorem tn291 : tn Tryd.prog 291 = some 1 := by kernel_rfl
@[go_sem] theorem tb291 : tb Tryd.prog 291 = some 8 := by kernel_rfl
@[go_sem] theorem ta291 : ta Tryd.prog 291 = some false := by kernel_rfl
@[go_sem] theorem tz291 : tz Tryd.prog 291 = some [.nilFunc] := by kernel_rfl
@[go_sem] theorem tpl291 : tpl Tryd.prog 291 = none := by kernel_rfl
@[go_sem] theorem tarr291 : tarr Tryd.prog 291 = none := by kernel_rfl
@[go_sem] theorem tn292 : tn Tryd.prog 292 = some 1 := by kernel_rfl
@[go_sem] theorem tb292 : tb Tryd.prog 292 = some 4 := by kernel_rfl
@[go_sem] theorem ta292 : ta Tryd.prog 292 = some false := by kernel_rfl
@[go_sem] theorem tz292 : tz Tryd.prog 292 = some [.int .i32 0] := by kernel_rfl
@[go_sem] theorem tpl292 : tpl Tryd.prog 292 = none := by kernel_rfl
@[go_sem] theorem tarr292 : tarr Tryd.prog 292 = none := by kernel_rfl
@[go_sem] theorem tint292 : tint Tryd.prog 292 = some .i32 := by kernel_rfl
@[go_sem] theorem tn293 : tn Tryd.prog 293 = some 1 := by kernel_rfl
@[go_sem] theorem tb293 : tb Tryd.prog 293 = some 4 := by kernel_rfl
@[go_sem] theorem ta293 : ta Tryd.prog 293 = some false := by kernel_rfl
@[go_sem] theorem tz293 : tz Tryd.prog 293 = some [.int .i32 0] := by kernel_rfl
@[go_sem] theorem tpl293 : tpl Tryd.prog 293 = none := by kernel_rfl
@[go_sem] theorem tarr293 : tarr Tryd.prog 293 = none := by kernel_rfl
@[go_sem] theorem tint293 : tint Tryd.prog 293 = some .i32 := by kernel_rfl
@[go_sem] theorem tn294 : tn Tryd.prog 294 = some 11 := by kernel_rfl
@[go_sem] theorem tb294 : tb Tryd.prog 294 = some 48 := by kernel_rfl
@[go_sem] theorem ta294 : ta Tryd.prog 294 = some true := by kernel_rfl
@[go_sem] theorem tz294 : tz Tryd.prog 294 = some [.int .u64 0, .int .u64 0, .int .u32 0, .int .u8 0, .int .u8 0, .int .u8 0, .int .u8 0, .nilFunc, .pointer none, .int .i32 0, .int .i32 0] := by kernel_rfl
@[go_sem] theorem tf294_0 : tf Tryd.prog 294 0 = some 0 := by kernel_rfl
@[go_sem] theorem tf294_1 : tf Tryd.prog 294 1 = some 1 := by kernel_rfl
@[go_sem] theorem tf294_2 : tf Tryd.prog 294 2 = some 2 := by kernel_rfl
@[go_sem] theorem tf294_3 : tf Tryd.prog 294 3 = some 3 := by kernel_rfl
@[go_sem] theorem tf294_4 : tf Tryd.prog 294 4 = some 4 := by kernel_rfl
@[go_sem] theorem tf294_5 : tf Tryd.prog 294 5 = some 5 := by kernel_rfl
@[go_sem] theorem tf294_6 : tf Tryd.prog 294 6 = some 6 := by kernel_rfl
@[go_sem] theorem tf294_7 : tf Tryd.prog 294 7 = some 7 := by kernel_rfl
@[go_sem] theorem tf294_8 : tf Tryd.prog 294 8 = some 8 := by kernel_rfl
@[go_sem] theorem tf294_9 : tf Tryd.prog 294 9 = some 9 := by kernel_rfl
@[go_sem] theorem tf294_10 : tf Tryd.prog 294 10 = some 10 := by kernel_rfl
@[go_sem] theorem tpl294 : tpl Tryd.prog 294 = some [(0, 1), (1, 1), (2, 1), (3, 1), (4, 1), (5, 1), (6, 1), (7, 1), (8, 1), (9, 1), (10, 1)] := by kernel_rfl
@[go_sem] theorem tfl294_0 : tfl Tryd.prog 294 0 = some (0, 12) := by kernel_rfl
@[go_sem] theorem tfl294_1 : tfl Tryd.prog 294 1 = some (1, 12) := by kernel_rfl
@[go_sem] theorem tfl294_2 : tfl Tryd.prog 294 2 = some (2, 151) := by kernel_rfl
@[go_sem] theorem tfl294_3 : tfl Tryd.prog 294 3 = some (3, 289) := by kernel_rfl
@[go_sem] theorem tfl294_4 : tfl Tryd.prog 294 4 = some (4, 5) := by kernel_rfl
@[go_sem] theorem tfl294_5 : tfl Tryd.prog 294 5 = some (5, 5) := by kernel_rfl
@[go_sem] theorem tfl294_6 : tfl Tryd.prog 294 6 = some (6, 290) := by kernel_rfl
@[go_sem] theorem tfl294_7 : tfl Tryd.prog 294 7 = some (7, 291) := by kernel_rfl
@[go_sem] theorem tfl294_8 : tfl Tryd.prog 294 8 = some (8, 174) := by kernel_rfl
@[go_sem] theorem tfl294_9 : tfl Tryd.prog 294 9 = some (9, 292) := by kernel_rfl
@[go_sem] theorem tfl294_10 : tfl Tryd.prog 294 10 = some (10, 293) := by kernel_rfl
@[go_sem] theorem teg294 : teg Tryd.prog 294 = false := by kernel_rfl
@[go_sem] theorem tarr294 : tarr Tryd.prog 294 = none := by kernel_rfl
@[go_sem] theorem tn295 : tn Tryd.prog 295 = some 11 := by kernel_rfl
@[go_sem] theorem tb295 : tb Tryd.prog 295 = some 48 := by kernel_rfl
@[go_sem] theorem ta295 : ta Tryd.prog 295 = some true := by kernel_rfl
@[go_sem] theorem tz295 : tz Tryd.prog 295 = some [.int .u64 0, .int .u64 0, .int .u32 0, .int .u8 0, .int .u8 0, .int .u8 0, .int .u8 0, .nilFunc, .pointer none, .int .i32 0, .int .i32 0] := by kernel_rfl
@[go_sem] theorem tf295_0 : tf Tryd.prog 295 0 = some 0 := by kernel_rfl
@[go_sem] theorem tf295_1 : tf Tryd.prog 295 1 = some 1 := by kernel_rfl
@[go_sem] theorem tf295_2 : tf Tryd.prog 295 2 = some 2 := by kernel_rfl
@[go_sem] theorem tf295_3 : tf Tryd.prog 295 3 = some 3 := by kernel_rfl
@[go_sem] theorem tf295_4 : tf Tryd.prog 295 4 = some 4 := by kernel_rfl
@[go_sem] theorem tf295_5 : tf Tryd.prog 295 5 = some 5 := by kernel_rfl
@[go_sem] theorem tf295_6 : tf Tryd.prog 295 6 = some 6 := by kernel_rfl
@[go_sem] theorem tf295_7 : tf Tryd.prog 295 7 = some 7 := by kernel_rfl
@[go_sem] theorem tf295_8 : tf Tryd.prog 295 8 = some 8 := by kernel_rfl
@[go_sem] theorem tf295_9 : tf Tryd.prog 295 9 = some 9 := by kernel_rfl
@[go_sem] theorem tf295_10 : tf Tryd.prog 295 10 = some 10 := by kernel_rfl
@[go_sem] theorem tpl295 : tpl Tryd.prog 295 = some [(0, 1), (1, 1), (2, 1), (3, 1), (4, 1), (5, 1), (6, 1), (7, 1), (8, 1), (9, 1), (10, 1)] := by kernel_rfl
@[go_sem] theorem tfl295_0 : tfl Tryd.prog 295 0 = some (0, 12) := by kernel_rfl
@[go_sem] theorem tfl295_1 : tfl Tryd.prog 295 1 = some (1, 12) := by kernel_rfl
@[go_sem] theorem tfl295_2 : tfl Tryd.prog 295 2 = some (2, 151) := by kernel_rfl
@[go_sem] theorem tfl295_3 : tfl Tryd.prog 295 3 = some (3, 289) := by kernel_rfl
@[go_sem] theorem tfl295_4 : tfl Tryd.prog 295 4 = some (4, 5) := by kernel_rfl
@[go_sem] theorem tfl295_5 : tfl Tryd.prog 295 5 = some (5, 5) := by kernel_rfl
@[go_sem] theorem tfl295_6 : tfl Tryd.prog 295 6 = some (6, 290) := by kernel_rfl
@[go_sem] theorem tfl295_7 : tfl Tryd.prog 295 7 = some (7, 291) := by kernel_rfl
@[go_sem] theorem tfl295_8 : tfl Tryd.prog 295 8 = some (8, 174) := by kernel_rfl
@[go_sem] theorem tfl295_9 : tfl Tryd.prog 295 9 = some (9, 292) := by kernel_rfl
@[go_sem] theorem tfl295_10 : tfl Tryd.prog 295 10 = some (10, 293) := by kernel_rfl
@[go_sem] theorem teg295 : teg Tryd.prog 295 = false := by kernel_rfl
@[go_sem] theorem tarr295 : tarr Tryd.prog 295 = none := by kernel_rfl
@[go_sem] theorem go2 : goes Tryd.prog 2 = true := by kernel_rfl
@[go_sem] theorem go3 : goes Tryd.prog 3 = true := by kernel_rfl
@[go_sem] theorem go4 : goes Tryd.prog 4 = true := by kernel_rfl
@[go_sem] theorem go5 : goes Tryd.prog 5 = true := by kernel_rfl
@[go_sem] theorem go6 : goes Tryd.prog 6 = true := by kernel_rfl
@[go_sem] theorem go7 : goes Tryd.prog 7 = true := by kernel_rfl
@[go_sem] theorem go8 : goes Tryd.prog 8 = true := by kernel_rfl
@[go_sem] theorem go9 : goes Tryd.prog 9 = true := by kernel_rfl
@[go_sem] theorem go10 : goes Tryd.prog 10 = true := by kernel_rfl
@[go_sem] theorem go11 : goes Tryd.prog 11 = true := by kernel_rfl
@[go_sem] theorem go12 : goes Tryd.prog 12 = true := by kernel_rfl
@[go_sem] theorem go13 : goes Tryd.prog 13 = true := by kernel_rfl
@[go_sem] theorem go14 : goes Tryd.prog 14 = true := by kernel_rfl
@[go_sem] theorem go15 : goes Tryd.prog 15 = true := by kernel_rfl
@[go_sem] theorem go16 : goes Tryd.prog 16 = true := by kernel_rfl
@[go_sem] theorem go17 : goes Tryd.prog 17 = true := by kernel_rfl
@[go_sem] theorem go18 : goes Tryd.prog 18 = true := by kernel_rfl
@[go_sem] theorem go19 : goes Tryd.prog 19 = true := by kernel_rfl
@[go_sem] theorem go20 : goes Tryd.prog 20 = true := by kernel_rfl
@[go_sem] theorem go21 : goes Tryd.prog 21 = true := by kernel_rfl
@[go_sem] theorem go22 : goes Tryd.prog 22 = true := by kernel_rfl
@[go_sem] theorem go23 : goes Tryd.prog 23 = true := by kernel_rfl
@[go_sem] theorem go24 : goes Tryd.prog 24 = true := by kernel_rfl
@[go_sem] theorem go25 : goes Tryd.prog 25 = true := by kernel_rfl
@[go_sem] theorem go26 : goes Tryd.prog 26 = true := by kernel_rfl
@[go_sem] theorem go27 : goes Tryd.prog 27 = true := by kernel_rfl
@[go_sem] theorem go28 : goes Tryd.prog 28 = true := by kernel_rfl
@[go_sem] theorem go29 : goes Tryd.prog 29 = true := by kernel_rfl
@[go_sem] theorem go30 : goes Tryd.prog 30 = true := by kernel_rfl
@[go_sem] theorem go31 : goes Tryd.prog 31 = true := by kernel_rfl
@[go_sem] theorem go32 : goes Tryd.prog 32 = true := by kernel_rfl
@[go_sem] theorem go33 : goes Tryd.prog 33 = true := by kernel_rfl
@[go_sem] theorem go34 : goes Tryd.prog 34 = true := by kernel_rfl
@[go_sem] theorem go35 : goes Tryd.prog 35 = true := by kernel_rfl
@[go_sem] theorem go36 : goes Tryd.prog 36 = true := by kernel_rfl
@[go_sem] theorem go37 : goes Tryd.prog 37 = true := by kernel_rfl
@[go_sem] theorem go38 : goes Tryd.prog 38 = true := by kernel_rfl
@[go_sem] theorem go39 : goes Tryd.prog 39 = true := by kernel_rfl
@[go_sem] theorem go40 : goes Tryd.prog 40 = true := by kernel_rfl
@[go_sem] theorem go41 : goes Tryd.prog 41 = true := by kernel_rfl
@[go_sem] theorem go42 : goes Tryd.prog 42 = true := by kernel_rfl
@[go_sem] theorem go43 : goes Tryd.prog 43 = true := by kernel_rfl
@[go_sem] theorem go44 : goes Tryd.prog 44 = true := by kernel_rfl
@[go_sem] theorem go45 : goes Tryd.prog 45 = true := by kernel_rfl
@[go_sem] theorem go46 : goes Tryd.prog 46 = true := by kernel_rfl
@[go_sem] theorem go47 : goes Tryd.prog 47 = true := by kernel_rfl
@[go_sem] theorem go48 : goes Tryd.prog 48 = true := by kernel_rfl
@[go_sem] theorem go49 : goes Tryd.prog 49 = true := by kernel_rfl
@[go_sem] theorem go50 : goes Tryd.prog 50 = true := by kernel_rfl
@[go_sem] theorem go51 : goes Tryd.prog 51 = true := by kernel_rfl
@[go_sem] theorem go52 : goes Tryd.prog 52 = true := by kernel_rfl
@[go_sem] theorem go53 : goes Tryd.prog 53 = true := by kernel_rfl
@[go_sem] theorem go54 : goes Tryd.prog 54 = true := by kernel_rfl
@[go_sem] theorem go55 : goes Tryd.prog 55 = true := by kernel_rfl
@[go_sem] theorem go56 : goes Tryd.prog 56 = true := by kernel_rfl
@[go_sem] theorem go57 : goes Tryd.prog 57 = true := by kernel_rfl
@[go_sem] theorem go58 : goes Tryd.prog 58 = true := by kernel_rfl
@[go_sem] theorem go59 : goes Tryd.prog 59 = true := by kernel_rfl
@[go_sem] theorem go60 : goes Tryd.prog 60 = true := by kernel_rfl
@[go_sem] theorem go61 : goes Tryd.prog 61 = true := by kernel_rfl
@[go_sem] theorem go62 : goes Tryd.prog 62 = true := by kernel_rfl
@[go_sem] theorem go63 : goes Tryd.prog 63 = true := by kernel_rfl
@[go_sem] theorem go64 : goes Tryd.prog 64 = true := by kernel_rfl
@[go_sem] theorem go65 : goes Tryd.prog 65 = true := by kernel_rfl
@[go_sem] theorem go66 : goes Tryd.prog 66 = true := by kernel_rfl
@[go_sem] theorem go67 : goes Tryd.prog 67 = true := by kernel_rfl
@[go_sem] theorem go68 : goes Tryd.prog 68 = true := by kernel_rfl
@[go_sem] theorem go69 : goes Tryd.prog 69 = true := by kernel_rfl
@[go_sem] theorem go70 : goes Tryd.prog 70 = true := by kernel_rfl
@[go_sem] theorem go71 : goes Tryd.prog 71 = true := by kernel_rfl
@[go_sem] theorem go72 : goes Tryd.prog 72 = true := by kernel_rfl
@[go_sem] theorem go73 : goes Tryd.prog 73 = true := by kernel_rfl
@[go_sem] theorem go74 : goes Tryd.prog 74 = true := by kernel_rfl
@[go_sem] theorem go75 : goes Tryd.prog 75 = true := by kernel_rfl
@[go_sem] theorem go76 : goes Tryd.prog 76 = true := by kernel_rfl
@[go_sem] theorem go77 : goes Tryd.prog 77 = true := by kernel_rfl
@[go_sem] theorem go78 : goes Tryd.prog 78 = true := by kernel_rfl
@[go_sem] theorem go79 : goes Tryd.prog 79 = true := by kernel_rfl
@[go_sem] theorem go80 : goes Tryd.prog 80 = true := by kernel_rfl
@[go_sem] theorem go81 : goes Tryd.prog 81 = true := by kernel_rfl
@[go_sem] theorem go82 : goes Tryd.prog 82 = true := by kernel_rfl
@[go_sem] theorem go83 : goes Tryd.prog 83 = true := by kernel_rfl
@[go_sem] theorem go84 : goes Tryd.prog 84 = true := by kernel_rfl
@[go_sem] theorem go85 : goes Tryd.prog 85 = true := by kernel_rfl
@[go_sem] theorem go86 : goes Tryd.prog 86 = true := by kernel_rfl
@[go_sem] theorem go87 : goes Tryd.prog 87 = true := by kernel_rfl
@[go_sem] theorem go88 : goes Tryd.prog 88 = true := by kernel_rfl
@[go_sem] theorem go89 : goes Tryd.prog 89 = true := by kernel_rfl
@[go_sem] theorem go90 : goes Tryd.prog 90 = true := by kernel_rfl
@[go_sem] theorem go91 : goes Tryd.prog 91 = true := by kernel_rfl
@[go_sem] theorem go92 : goes Tryd.prog 92 = true := by kernel_rfl
@[go_sem] theorem go93 : goes Tryd.prog 93 = true := by kernel_rfl
@[go_sem] theorem go94 : goes Tryd.prog 94 = true := by kernel_rfl
@[go_sem] theorem go95 : goes Tryd.prog 95 = true := by kernel_rfl
@[go_sem] theorem go96 : goes Tryd.prog 96 = true := by kernel_rfl
@[go_sem] theorem go97 : goes Tryd.prog 97 = true := by kernel_rfl
@[go_sem] theorem go98 : goes Tryd.prog 98 = true := by kernel_rfl
@[go_sem] theorem go99 : goes Tryd.prog 99 = true := by kernel_rfl
@[go_sem] theorem go100 : goes Tryd.prog 100 = true := by kernel_rfl
@[go_sem] theorem go101 : goes Tryd.prog 101 = true := by kernel_rfl
@[go_sem] theorem go102 : goes Tryd.prog 102 = true := by kernel_rfl
@[go_sem] theorem go103 : goes Tryd.prog 103 = true := by kernel_rfl
@[go_sem] theorem go104 : goes Tryd.prog 104 = true := by kernel_rfl
@[go_sem] theorem go105 : goes Tryd.prog 105 = true := by kernel_rfl
@[go_sem] theorem go106 : goes Tryd.prog 106 = true := by kernel_rfl
@[go_sem] theorem go107 : goes Tryd.prog 107 = true := by kernel_rfl
@[go_sem] theorem go108 : goes Tryd.prog 108 = true := by kernel_rfl
@[go_sem] theorem go109 : goes Tryd.prog 109 = true := by kernel_rfl
@[go_sem] theorem go110 : goes Tryd.prog 110 = true := by kernel_rfl
@[go_sem] theorem go111 : goes Tryd.prog 111 = true := by kernel_rfl
@[go_sem] theorem go112 : goes Tryd.prog 112 = true := by kernel_rfl
@[go_sem] theorem go113 : goes Tryd.prog 113 = true := by kernel_rfl
@[go_sem] theorem go114 : goes Tryd.prog 114 = true := by kernel_rfl
@[go_sem] theorem go115 : goes Tryd.prog 115 = true := by kernel_rfl
@[go_sem] theorem go116 : goes Tryd.prog 116 = true := by kernel_rfl
@[go_sem] theorem go117 : goes Tryd.prog 117 = true := by kernel_rfl
@[go_sem] theorem go118 : goes Tryd.prog 118 = true := by kernel_rfl
@[go_sem] theorem go119 : goes Tryd.prog 119 = true := by kernel_rfl
@[go_sem] theorem go120 : goes Tryd.prog 120 = true := by kernel_rfl
@[go_sem] theorem go121 : goes Tryd.prog 121 = true := by kernel_rfl
@[go_sem] theorem go122 : goes Tryd.prog 122 = true := by kernel_rfl
@[go_sem] theorem go123 : goes Tryd.prog 123 = true := by kernel_rfl
@[go_sem] theorem go124 : goes Tryd.prog 124 = true := by kernel_rfl
@[go_sem] theorem go125 : goes Tryd.prog 125 = true := by kernel_rfl
@[go_sem] theorem go126 : goes Tryd.prog 126 = true := by kernel_rfl
@[go_sem] theorem go127 : goes Tryd.prog 127 = true := by kernel_rfl
@[go_sem] theorem go128 : goes Tryd.prog 128 = true := by kernel_rfl
@[go_sem] theorem go129 : goes Tryd.prog 129 = true := by kernel_rfl
@[go_sem] theorem go130 : goes Tryd.prog 130 = true := by kernel_rfl
@[go_sem] theorem go131 : goes Tryd.prog 131 = true := by kernel_rfl
@[go_sem] theorem go132 : goes Tryd.prog 132 = true := by kernel_rfl
@[go_sem] theorem go133 : goes Tryd.prog 133 = true := by kernel_rfl
@[go_sem] theorem go134 : goes Tryd.prog 134 = true := by kernel_rfl
@[go_sem] theorem go135 : goes Tryd.prog 135 = true := by kernel_rfl
@[go_sem] theorem go136 : goes Tryd.prog 136 = true := by kernel_rfl
@[go_sem] theorem go137 : goes Tryd.prog 137 = true := by kernel_rfl
@[go_sem] theorem go138 : goes Tryd.prog 138 = true := by kernel_rfl
@[go_sem] theorem go139 : goes Tryd.prog 139 = true := by kernel_rfl
@[go_sem] theorem go140 : goes Tryd.prog 140 = true := by kernel_rfl
@[go_sem] theorem go141 : goes Tryd.prog 141 = true := by kernel_rfl
@[go_sem] theorem go142 : goes Tryd.prog 142 = true := by kernel_rfl
@[go_sem] theorem go143 : goes Tryd.prog 143 = true := by kernel_rfl
@[go_sem] theorem go144 : goes Tryd.prog 144 = true := by kernel_rfl
@[go_sem] theorem go145 : goes Tryd.prog 145 = true := by kernel_rfl
@[go_sem] theorem go146 : goes Tryd.prog 146 = true := by kernel_rfl
@[go_sem] theorem go147 : goes Tryd.prog 147 = true := by kernel_rfl
@[go_sem] theorem go148 : goes Tryd.prog 148 = true := by kernel_rfl
@[go_sem] theorem go149 : goes Tryd.prog 149 = true := by kernel_rfl
@[go_sem] theorem go150 : goes Tryd.prog 150 = true := by kernel_rfl
@[go_sem] theorem go151 : goes Tryd.prog 151 = true := by kernel_rfl
@[go_sem] theorem go152 : goes Tryd.prog 152 = true := by kernel_rfl
@[go_sem] theorem go153 : goes Tryd.prog 153 = true := by kernel_rfl
@[go_sem] theorem go154 : goes Tryd.prog 154 = true := by kernel_rfl
@[go_sem] theorem go155 : goes Tryd.prog 155 = true := by kernel_rfl
@[go_sem] theorem go156 : goes Tryd.prog 156 = true := by kernel_rfl
@[go_sem] theorem go157 : goes Tryd.prog 157 = true := by kernel_rfl
@[go_sem] theorem go158 : goes Tryd.prog 158 = true := by kernel_rfl
@[go_sem] theorem go159 : goes Tryd.prog 159 = true := by kernel_rfl
@[go_sem] theorem go160 : goes Tryd.prog 160 = true := by kernel_rfl
@[go_sem] theorem go161 : goes Tryd.prog 161 = true := by kernel_rfl
@[go_sem] theorem go162 : goes Tryd.prog 162 = true := by kernel_rfl
@[go_sem] theorem go163 : goes Tryd.prog 163 = true := by kernel_rfl
@[go_sem] theorem go164 : goes Tryd.prog 164 = true := by kernel_rfl
@[go_sem] theorem go165 : goes Tryd.prog 165 = true := by kernel_rfl
@[go_sem] theorem go166 : goes Tryd.prog 166 = true := by kernel_rfl
@[go_sem] theorem go167 : goes Tryd.prog 167 = true := by kernel_rfl
@[go_sem] theorem go168 : goes Tryd.prog 168 = true := by kernel_rfl
@[go_sem] theorem go169 : goes Tryd.prog 169 = true := by kernel_rfl
@[go_sem] theorem go170 : goes Tryd.prog 170 = true := by kernel_rfl
@[go_sem] theorem go171 : goes Tryd.prog 171 = true := by kernel_rfl
@[go_sem] theorem go172 : goes Tryd.prog 172 = true := by kernel_rfl
@[go_sem] theorem go174 : goes Tryd.prog 174 = true := by kernel_rfl
@[go_sem] theorem go175 : goes Tryd.prog 175 = true := by kernel_rfl
@[go_sem] theorem go177 : goes Tryd.prog 177 = true := by kernel_rfl
@[go_sem] theorem go178 : goes Tryd.prog 178 = true := by kernel_rfl
@[go_sem] theorem go179 : goes Tryd.prog 179 = true := by kernel_rfl
@[go_sem] theorem go180 : goes Tryd.prog 180 = true := by kernel_rfl
@[go_sem] theorem go181 : goes Tryd.prog 181 = true := by kernel_rfl
@[go_sem] theorem go182 : goes Tryd.prog 182 = true := by kernel_rfl
@[go_sem] theorem go183 : goes Tryd.prog 183 = true := by kernel_rfl
@[go_sem] theorem go184 : goes Tryd.prog 184 = true := by kernel_rfl
@[go_sem] theorem go185 : goes Tryd.prog 185 = true := by kernel_rfl
@[go_sem] theorem go186 : goes Tryd.prog 186 = true := by kernel_rfl
@[go_sem] theorem go187 : goes Tryd.prog 187 = true := by kernel_rfl
@[go_sem] theorem go188 : goes Tryd.prog 188 = true := by kernel_rfl
@[go_sem] theorem go189 : goes Tryd.prog 189 = true := by kernel_rfl
@[go_sem] theorem go190 : goes Tryd.prog 190 = true := by kernel_rfl
@[go_sem] theorem go191 : goes Tryd.prog 191 = true := by kernel_rfl
@[go_sem] theorem go192 : goes Tryd.prog 192 = true := by kernel_rfl
@[go_sem] theorem go193 : goes Tryd.prog 193 = true := by kernel_rfl
@[go_sem] theorem go194 : goes Tryd.prog 194 = true := by kernel_rfl
@[go_sem] theorem go195 : goes Tryd.prog 195 = true := by kernel_rfl
@[go_sem] theorem go196 : goes Tryd.prog 196 = true := by kernel_rfl
@[go_sem] theorem go197 : goes Tryd.prog 197 = true := by kernel_rfl
@[go_sem] theorem go198 : goes Tryd.prog 198 = true := by kernel_rfl
@[go_sem] theorem go199 : goes Tryd.prog 199 = true := by kernel_rfl
@[go_sem] theorem go200 : goes Tryd.prog 200 = true := by kernel_rfl
@[go_sem] theorem go201 : goes Tryd.prog 201 = true := by kernel_rfl
@[go_sem] theorem go202 : goes Tryd.prog 202 = true := by kernel_rfl
@[go_sem] theorem go203 : goes Tryd.prog 203 = true := by kernel_rfl
@[go_sem] theorem go204 : goes Tryd.prog 204 = true := by kernel_rfl
@[go_sem] theorem go205 : goes Tryd.prog 205 = true := by kernel_rfl
@[go_sem] theorem go207 : goes Tryd.prog 207 = true := by kernel_rfl
@[go_sem] theorem go208 : goes Tryd.prog 208 = true := by kernel_rfl
@[go_sem] theorem go209 : goes Tryd.prog 209 = true := by kernel_rfl
@[go_sem] theorem go210 : goes Tryd.prog 210 = true := by kernel_rfl
@[go_sem] theorem go211 : goes Tryd.prog 211 = true := by kernel_rfl
@[go_sem] theorem go212 : goes Tryd.prog 212 = true := by kernel_rfl
@[go_sem] theorem go213 : goes Tryd.prog 213 = true := by kernel_rfl
@[go_sem] theorem go214 : goes Tryd.prog 214 = true := by kernel_rfl
@[go_sem] theorem go215 : goes Tryd.prog 215 = true := by kernel_rfl
@[go_sem] theorem go216 : goes Tryd.prog 216 = true := by kernel_rfl
@[go_sem] theorem go217 : goes Tryd.prog 217 = true := by kernel_rfl
@[go_sem] theorem go218 : goes Tryd.prog 218 = true := by kernel_rfl
@[go_sem] theorem go219 : goes Tryd.prog 219 = true := by kernel_rfl
@[go_sem] theorem go220 : goes Tryd.prog 220 = true := by kernel_rfl
@[go_sem] theorem go221 : goes Tryd.prog 221 = true := by kernel_rfl
@[go_sem] theorem go222 : goes Tryd.prog 222 = true := by kernel_rfl
@[go_sem] theorem go223 : goes Tryd.prog 223 = true := by kernel_rfl
@[go_sem] theorem go224 : goes Tryd.prog 224 = true := by kernel_rfl
@[go_sem] theorem go225 : goes Tryd.prog 225 = true := by kernel_rfl
@[go_sem] theorem go226 : goes Tryd.prog 226 = true := by kernel_rfl
@[go_sem] theorem go227 : goes Tryd.prog 227 = true := by kernel_rfl
@[go_sem] theorem go228 : goes Tryd.prog 228 = true := by kernel_rfl
@[go_sem] theorem go229 : goes Tryd.prog 229 = true := by kernel_rfl
@[go_sem] theorem go230 : goes Tryd.prog 230 = true := by kernel_rfl
@[go_sem] theorem go231 : goes Tryd.prog 231 = true := by kernel_rfl
@[go_sem] theorem go233 : goes Tryd.prog 233 = true := by kernel_rfl
@[go_sem] theorem go234 : goes Tryd.prog 234 = true := by kernel_rfl
@[go_sem] theorem go235 : goes Tryd.prog 235 = true := by kernel_rfl
@[go_sem] theorem go236 : goes Tryd.prog 236 = true := by kernel_rfl
@[go_sem] theorem go237 : goes Tryd.prog 237 = true := by kernel_rfl
@[go_sem] theorem go238 : goes Tryd.prog 238 = true := by kernel_rfl
@[go_sem] theorem go239 : goes Tryd.prog 239 = true := by kernel_rfl
@[go_sem] theorem go240 : goes Tryd.prog 240 = true := by kernel_rfl
@[go_sem] theorem go241 : goes Tryd.prog 241 = true := by kernel_rfl
@[go_sem] theorem go242 : goes Tryd.prog 242 = true := by kernel_rfl
@[go_sem] theorem go243 : goes Tryd.prog 243 = true := by kernel_rfl
@[go_sem] theorem go244 : goes Tryd.prog 244 = true := by kernel_rfl
@[go_sem] theorem go245 : goes Tryd.prog 245 = true := by kernel_rfl
@[go_sem] theorem go246 : goes Tryd.prog 246 = true := by kernel_rfl
@[go_sem] theorem go247 : goes Tryd.prog 247 = true := by kernel_rfl
@[go_sem] theorem go248 : goes Tryd.prog 248 = true := by kernel_rfl
@[go_sem] theorem go249 : goes Tryd.prog 249 = true := by kernel_rfl
@[go_sem] theorem go251 : goes Tryd.prog 251 = true := by kernel_rfl
@[go_sem] theorem go252 : goes Tryd.prog 252 = true := by kernel_rfl
@[go_sem] theorem go253 : goes Tryd.prog 253 = true := by kernel_rfl
@[go_sem] theorem go254 : goes Tryd.prog 254 = true := by kernel_rfl
@[go_sem] theorem go255 : goes Tryd.prog 255 = true := by kernel_rfl
@[go_sem] theorem go256 : goes Tryd.prog 256 = true := by kernel_rfl
@[go_sem] theorem go257 : goes Tryd.prog 257 = true := by kernel_rfl
@[go_sem] theorem go258 : goes Tryd.prog 258 = true := by kernel_rfl
@[go_sem] theorem go292 : goes Tryd.prog 292 = true := by kernel_rfl
def headCodes : List Nat := [104, 97, 114, 110, 101, 115, 115, 32, 54, 102, 101, 51, 52, 56, 97, 48, 49, 48, 101, 51, 51, 99, 52, 48, 52, 57, 54, 55, 54, 53, 51, 98, 97, 53, 56, 101, 52, 101, 53, 57, 98, 56, 51, 57, 97, 99, 100, 57, 53, 97, 97, 52, 49, 54, 52, 49, 52, 55, 51, 51, 55, 54, 52, 100, 101, 53, 49, 48, 98, 48, 102, 99, 32, 99, 117, 116, 32, 97, 116, 32, 99, 111, 110, 99, 108, 97, 118, 101, 47, 99, 111, 110, 99, 108, 97, 118, 101, 108, 97, 119, 46, 79, 114, 100, 101, 114, 65, 108, 108, 111, 119, 115, 32, 99, 111, 110, 99, 108, 97, 118, 101, 47, 99, 111, 110, 99, 108, 97, 118, 101, 108, 97, 119, 46, 83, 104, 97, 83, 117, 109, 115, 32, 99, 111, 110, 99, 108, 97, 118, 101, 47, 99, 111, 110, 99, 108, 97, 118, 101, 108, 97, 119, 46, 83, 104, 97, 77, 97, 99, 115, 32, 99, 111, 110, 99, 108, 97, 118, 101, 47, 99, 111, 110, 99, 108, 97, 118, 101, 108, 97, 119, 46, 83, 104, 97, 68, 114, 97, 119, 115, 32, 99, 111, 110, 99, 108, 97, 118, 101, 47, 99, 111, 110, 99, 108, 97, 118, 101, 108, 97, 119, 46, 77, 111, 111, 116, 73, 115, 115, 117, 101, 114, 115, 32, 99, 111, 110, 99, 108, 97, 118, 101, 47, 99, 111, 110, 99, 108, 97, 118, 101, 108, 97, 119, 46, 77, 111, 111, 116, 75, 101, 121, 115, 32, 99, 111, 110, 99, 108, 97, 118, 101, 47, 99, 111, 110, 99, 108, 97, 118, 101, 108, 97, 119, 46, 79, 114, 100, 101, 114, 71, 114, 97, 110, 116, 115, 32, 99, 111, 110, 99, 108, 97, 118, 101, 47, 99, 111, 110, 99, 108, 97, 118, 101, 108, 97, 119, 46, 79, 114, 100, 101, 114, 80, 114, 111, 118, 101, 115, 32, 99, 111, 110, 99, 108, 97, 118, 101, 47, 99, 111, 110, 99, 108, 97, 118, 101, 108, 97, 119, 46, 86, 97, 117, 108, 116, 67, 104, 97, 105, 110, 115, 32, 99, 111, 110, 99, 108, 97, 118, 101, 47, 99, 111, 110, 99, 108, 97, 118, 101, 108, 97, 119, 46, 86, 97, 117, 108, 116, 65, 117, 100, 105, 116, 115, 32, 99, 111, 110, 99, 108, 97, 118, 101, 47, 99, 111, 110, 99, 108, 97, 118, 101, 108, 97, 119, 46, 83, 116, 97, 98, 108, 101, 80, 114, 111, 109, 105, 115, 101, 115, 32, 99, 111, 110, 99, 108, 97, 118, 101, 47, 99, 111, 110, 99, 108, 97, 118, 101, 108, 97, 119, 46, 76, 105, 110, 101, 115, 83, 104, 111, 119, 115, 32, 99, 111, 110, 99, 108, 97, 118, 101, 47, 99, 111, 110, 99, 108, 97, 118, 101, 108, 97, 119, 46, 83, 116, 97, 98, 108, 101, 86, 111, 116, 101, 115, 32, 99, 111, 110, 99, 108, 97, 118, 101, 47, 99, 111, 110, 99, 108, 97, 118, 101, 108, 97, 119, 46, 83, 116, 97, 98, 108, 101, 82, 101, 99, 111, 118, 101, 114, 115, 32, 99, 111, 110, 99, 108, 97, 118, 101, 47, 99, 111, 110, 99, 108, 97, 118, 101, 108, 97, 119, 46, 83, 116, 97, 98, 108, 101, 82, 101, 112, 97, 105, 114, 115, 32, 99, 111, 110, 99, 108, 97, 118, 101, 47, 99, 111, 110, 99, 108, 97, 118, 101, 108, 97, 119, 46, 77, 111, 111, 116, 80, 97, 99, 107, 115, 32, 99, 111, 110, 99, 108, 97, 118, 101, 47, 99, 111, 110, 99, 108, 97, 118, 101, 108, 97, 119, 46, 77, 111, 111, 116, 79, 112, 101, 110, 115, 32, 99, 111, 110, 99, 108, 97, 118, 101, 47, 99, 111, 110, 99, 108, 97, 118, 101, 108, 97, 119, 46, 76, 105, 110, 101, 115, 82, 101, 97, 100, 115]
theorem wordsT : ∃ rest, Go.behindMainWord (Go.wordsSigns Tryd.prog.initOrder.toList) = "cut".toList :: rest :=
  cut_words (L := headCodes.map Char.ofNat) (by kernel_rfl) (by kernel_rfl)
theorem makeT : Tryd.prog.make = some .cut := wordsT.elim fun _ h => cut_make h
theorem liftsT : Tryd.prog.liftsFinal = false := wordsT.elim fun _ h => cut_lifts h
theorem enterT : Tryd.prog.mayEnter = true := wordsT.elim fun _ h => cut_enter h (by kernel_rfl) (by kernel_rfl) (by kernel_rfl)
theorem ownKnobT : Go.ownKnob Tryd.prog.godebug = none := by kernel_rfl
theorem laidOutT : Go.laidOutB Tryd.prog = true := by kernel_rfl
theorem mixed : Tryd.prog.follows .mixedOrders = true := by kernel_rfl
end Go.Proofs.YtnpacofabdgcdaaDoor
