/- The tables of this seat's program, in V2's words. Printed by gen_ty.py. -/
import Derived.Test.YtjgbajgmndkfjaaRows
import Derived.Test.YtjgbajgmndkfjaaV9
import Derived.Test.YtjgbajgmndkfjaaW3
import Derived.KernelRfl
namespace Go.Proofs.Ytjgbajgmndkfjaa
open Go.V
set_option maxRecDepth 100000
@[go_sem] theorem tn1 : tn Try.prog 1 = some 1 := by kernel_rfl
@[go_sem] theorem tb1 : tb Try.prog 1 = some 8 := by kernel_rfl
@[go_sem] theorem ta1 : ta Try.prog 1 = some false := by kernel_rfl
@[go_sem] theorem tz1 : tz Try.prog 1 = some [.nilFunc] := by kernel_rfl
@[go_sem] theorem tpl1 : tpl Try.prog 1 = none := by kernel_rfl
@[go_sem] theorem tarr1 : tarr Try.prog 1 = none := by kernel_rfl
@[go_sem] theorem tn2 : tn Try.prog 2 = some 1 := by kernel_rfl
@[go_sem] theorem tb2 : tb Try.prog 2 = some 8 := by kernel_rfl
@[go_sem] theorem ta2 : ta Try.prog 2 = some false := by kernel_rfl
@[go_sem] theorem tz2 : tz Try.prog 2 = some [.int .i64 0] := by kernel_rfl
@[go_sem] theorem tpl2 : tpl Try.prog 2 = none := by kernel_rfl
@[go_sem] theorem tarr2 : tarr Try.prog 2 = none := by kernel_rfl
@[go_sem] theorem tint2 : tint Try.prog 2 = some .i64 := by kernel_rfl
@[go_sem] theorem tn3 : tn Try.prog 3 = some 1 := by kernel_rfl
@[go_sem] theorem tb3 : tb Try.prog 3 = some 8 := by kernel_rfl
@[go_sem] theorem ta3 : ta Try.prog 3 = some false := by kernel_rfl
@[go_sem] theorem tz3 : tz Try.prog 3 = some [.int .i64 0] := by kernel_rfl
@[go_sem] theorem tpl3 : tpl Try.prog 3 = none := by kernel_rfl
@[go_sem] theorem tarr3 : tarr Try.prog 3 = none := by kernel_rfl
@[go_sem] theorem tint3 : tint Try.prog 3 = some .i64 := by kernel_rfl
@[go_sem] theorem tn4 : tn Try.prog 4 = some 1 := by kernel_rfl
@[go_sem] theorem tb4 : tb Try.prog 4 = some 1 := by kernel_rfl
@[go_sem] theorem ta4 : ta Try.prog 4 = some false := by kernel_rfl
@[go_sem] theorem tz4 : tz Try.prog 4 = some [.bool false] := by kernel_rfl
@[go_sem] theorem tpl4 : tpl Try.prog 4 = none := by kernel_rfl
@[go_sem] theorem tarr4 : tarr Try.prog 4 = none := by kernel_rfl
@[go_sem] theorem tboo4 : tboo Try.prog 4 = true := by kernel_rfl
@[go_sem] theorem tn5 : tn Try.prog 5 = some 1 := by kernel_rfl
@[go_sem] theorem tb5 : tb Try.prog 5 = some 1 := by kernel_rfl
@[go_sem] theorem ta5 : ta Try.prog 5 = some false := by kernel_rfl
@[go_sem] theorem tz5 : tz Try.prog 5 = some [.int .u8 0] := by kernel_rfl
@[go_sem] theorem tpl5 : tpl Try.prog 5 = none := by kernel_rfl
@[go_sem] theorem tarr5 : tarr Try.prog 5 = none := by kernel_rfl
@[go_sem] theorem tint5 : tint Try.prog 5 = some .u8 := by kernel_rfl
@[go_sem] theorem tn6 : tn Try.prog 6 = some 1 := by kernel_rfl
@[go_sem] theorem tb6 : tb Try.prog 6 = some 1 := by kernel_rfl
@[go_sem] theorem ta6 : ta Try.prog 6 = some false := by kernel_rfl
@[go_sem] theorem tz6 : tz Try.prog 6 = some [.int .u8 0] := by kernel_rfl
@[go_sem] theorem tpl6 : tpl Try.prog 6 = none := by kernel_rfl
@[go_sem] theorem tarr6 : tarr Try.prog 6 = none := by kernel_rfl
@[go_sem] theorem tint6 : tint Try.prog 6 = some .u8 := by kernel_rfl
@[go_sem] theorem tn7 : tn Try.prog 7 = some 4 := by kernel_rfl
@[go_sem] theorem tb7 : tb Try.prog 7 = some 24 := by kernel_rfl
@[go_sem] theorem ta7 : ta Try.prog 7 = some true := by kernel_rfl
@[go_sem] theorem tz7 : tz Try.prog 7 = some [.int .i64 0, .int .i64 0, .bool false, .int .u8 0] := by kernel_rfl
@[go_sem] theorem tf7_0 : tf Try.prog 7 0 = some 0 := by kernel_rfl
@[go_sem] theorem tf7_1 : tf Try.prog 7 1 = some 1 := by kernel_rfl
@[go_sem] theorem tf7_2 : tf Try.prog 7 2 = some 2 := by kernel_rfl
@[go_sem] theorem tf7_3 : tf Try.prog 7 3 = some 3 := by kernel_rfl
@[go_sem] theorem tpl7 : tpl Try.prog 7 = some [(0, 1), (1, 1), (2, 1), (3, 1)] := by kernel_rfl
@[go_sem] theorem tfl7_0 : tfl Try.prog 7 0 = some (0, 2) := by kernel_rfl
@[go_sem] theorem tfl7_1 : tfl Try.prog 7 1 = some (1, 3) := by kernel_rfl
@[go_sem] theorem tfl7_2 : tfl Try.prog 7 2 = some (2, 4) := by kernel_rfl
@[go_sem] theorem tfl7_3 : tfl Try.prog 7 3 = some (3, 6) := by kernel_rfl
@[go_sem] theorem teg7 : teg Try.prog 7 = false := by kernel_rfl
@[go_sem] theorem tflat7 : flat Try.prog 6 7 = some [some .i64, some .i64, none, some .u8] := by kernel_rfl
@[go_sem] theorem tarr7 : tarr Try.prog 7 = none := by kernel_rfl
@[go_sem] theorem tn8 : tn Try.prog 8 = some 4 := by kernel_rfl
@[go_sem] theorem tb8 : tb Try.prog 8 = some 24 := by kernel_rfl
@[go_sem] theorem ta8 : ta Try.prog 8 = some true := by kernel_rfl
@[go_sem] theorem tz8 : tz Try.prog 8 = some [.int .i64 0, .int .i64 0, .bool false, .int .u8 0] := by kernel_rfl
@[go_sem] theorem tf8_0 : tf Try.prog 8 0 = some 0 := by kernel_rfl
@[go_sem] theorem tf8_1 : tf Try.prog 8 1 = some 1 := by kernel_rfl
@[go_sem] theorem tf8_2 : tf Try.prog 8 2 = some 2 := by kernel_rfl
@[go_sem] theorem tf8_3 : tf Try.prog 8 3 = some 3 := by kernel_rfl
@[go_sem] theorem tpl8 : tpl Try.prog 8 = some [(0, 1), (1, 1), (2, 1), (3, 1)] := by kernel_rfl
@[go_sem] theorem tfl8_0 : tfl Try.prog 8 0 = some (0, 2) := by kernel_rfl
@[go_sem] theorem tfl8_1 : tfl Try.prog 8 1 = some (1, 3) := by kernel_rfl
@[go_sem] theorem tfl8_2 : tfl Try.prog 8 2 = some (2, 4) := by kernel_rfl
@[go_sem] theorem tfl8_3 : tfl Try.prog 8 3 = some (3, 6) := by kernel_rfl
@[go_sem] theorem teg8 : teg Try.prog 8 = false := by kernel_rfl
@[go_sem] theorem tflat8 : flat Try.prog 6 8 = some [some .i64, some .i64, none, some .u8] := by kernel_rfl
@[go_sem] theorem tarr8 : tarr Try.prog 8 = none := by kernel_rfl
@[go_sem] theorem tn9 : tn Try.prog 9 = some 1 := by kernel_rfl
@[go_sem] theorem tb9 : tb Try.prog 9 = some 16 := by kernel_rfl
@[go_sem] theorem ta9 : ta Try.prog 9 = some false := by kernel_rfl
@[go_sem] theorem tz9 : tz Try.prog 9 = some [.string ⟨#[]⟩] := by kernel_rfl
@[go_sem] theorem tpl9 : tpl Try.prog 9 = none := by kernel_rfl
@[go_sem] theorem tarr9 : tarr Try.prog 9 = none := by kernel_rfl
@[go_sem] theorem tsl9 : tsl Try.prog 9 = none := by kernel_rfl
@[go_sem] theorem tstr9 : tstr Try.prog 9 = true := by kernel_rfl
@[go_sem] theorem tn10 : tn Try.prog 10 = some 1 := by kernel_rfl
@[go_sem] theorem tb10 : tb Try.prog 10 = some 16 := by kernel_rfl
@[go_sem] theorem ta10 : ta Try.prog 10 = some false := by kernel_rfl
@[go_sem] theorem tz10 : tz Try.prog 10 = some [.string ⟨#[]⟩] := by kernel_rfl
@[go_sem] theorem tpl10 : tpl Try.prog 10 = none := by kernel_rfl
@[go_sem] theorem tarr10 : tarr Try.prog 10 = none := by kernel_rfl
@[go_sem] theorem tsl10 : tsl Try.prog 10 = none := by kernel_rfl
@[go_sem] theorem tstr10 : tstr Try.prog 10 = true := by kernel_rfl
@[go_sem] theorem tn11 : tn Try.prog 11 = some 1 := by kernel_rfl
@[go_sem] theorem tb11 : tb Try.prog 11 = some 16 := by kernel_rfl
@[go_sem] theorem ta11 : ta Try.prog 11 = some false := by kernel_rfl
@[go_sem] theorem tz11 : tz Try.prog 11 = some [.string ⟨#[]⟩] := by kernel_rfl
@[go_sem] theorem tpl11 : tpl Try.prog 11 = none := by kernel_rfl
@[go_sem] theorem tarr11 : tarr Try.prog 11 = none := by kernel_rfl
@[go_sem] theorem tsl11 : tsl Try.prog 11 = none := by kernel_rfl
@[go_sem] theorem tstr11 : tstr Try.prog 11 = true := by kernel_rfl
@[go_sem] theorem tn12 : tn Try.prog 12 = some 1 := by kernel_rfl
@[go_sem] theorem tb12 : tb Try.prog 12 = some 8 := by kernel_rfl
@[go_sem] theorem ta12 : ta Try.prog 12 = some false := by kernel_rfl
@[go_sem] theorem tz12 : tz Try.prog 12 = some [.int .u64 0] := by kernel_rfl
@[go_sem] theorem tpl12 : tpl Try.prog 12 = none := by kernel_rfl
@[go_sem] theorem tarr12 : tarr Try.prog 12 = none := by kernel_rfl
@[go_sem] theorem tint12 : tint Try.prog 12 = some .u64 := by kernel_rfl
@[go_sem] theorem tn13 : tn Try.prog 13 = some 2 := by kernel_rfl
@[go_sem] theorem tb13 : tb Try.prog 13 = some 24 := by kernel_rfl
@[go_sem] theorem ta13 : ta Try.prog 13 = some true := by kernel_rfl
@[go_sem] theorem tz13 : tz Try.prog 13 = some [.string ⟨#[]⟩, .int .u64 0] := by kernel_rfl
@[go_sem] theorem tf13_0 : tf Try.prog 13 0 = some 0 := by kernel_rfl
@[go_sem] theorem tf13_1 : tf Try.prog 13 1 = some 1 := by kernel_rfl
@[go_sem] theorem tpl13 : tpl Try.prog 13 = some [(0, 1), (1, 1)] := by kernel_rfl
@[go_sem] theorem tfl13_0 : tfl Try.prog 13 0 = some (0, 9) := by kernel_rfl
@[go_sem] theorem tfl13_1 : tfl Try.prog 13 1 = some (1, 12) := by kernel_rfl
@[go_sem] theorem teg13 : teg Try.prog 13 = false := by kernel_rfl
@[go_sem] theorem tarr13 : tarr Try.prog 13 = none := by kernel_rfl
@[go_sem] theorem tn14 : tn Try.prog 14 = some 2 := by kernel_rfl
@[go_sem] theorem tb14 : tb Try.prog 14 = some 24 := by kernel_rfl
@[go_sem] theorem ta14 : ta Try.prog 14 = some true := by kernel_rfl
@[go_sem] theorem tz14 : tz Try.prog 14 = some [.string ⟨#[]⟩, .int .u64 0] := by kernel_rfl
@[go_sem] theorem tf14_0 : tf Try.prog 14 0 = some 0 := by kernel_rfl
@[go_sem] theorem tf14_1 : tf Try.prog 14 1 = some 1 := by kernel_rfl
@[go_sem] theorem tpl14 : tpl Try.prog 14 = some [(0, 1), (1, 1)] := by kernel_rfl
@[go_sem] theorem tfl14_0 : tfl Try.prog 14 0 = some (0, 9) := by kernel_rfl
@[go_sem] theorem tfl14_1 : tfl Try.prog 14 1 = some (1, 12) := by kernel_rfl
@[go_sem] theorem teg14 : teg Try.prog 14 = false := by kernel_rfl
@[go_sem] theorem tarr14 : tarr Try.prog 14 = none := by kernel_rfl
@[go_sem] theorem tn15 : tn Try.prog 15 = some 1 := by kernel_rfl
@[go_sem] theorem tb15 : tb Try.prog 15 = some 8 := by kernel_rfl
@[go_sem] theorem ta15 : ta Try.prog 15 = some false := by kernel_rfl
@[go_sem] theorem tz15 : tz Try.prog 15 = some [.pointer none] := by kernel_rfl
@[go_sem] theorem tpl15 : tpl Try.prog 15 = none := by kernel_rfl
@[go_sem] theorem tarr15 : tarr Try.prog 15 = none := by kernel_rfl
@[go_sem] theorem tn16 : tn Try.prog 16 = some 1 := by kernel_rfl
@[go_sem] theorem tb16 : tb Try.prog 16 = some 8 := by kernel_rfl
@[go_sem] theorem ta16 : ta Try.prog 16 = some false := by kernel_rfl
@[go_sem] theorem tz16 : tz Try.prog 16 = some [.pointer none] := by kernel_rfl
@[go_sem] theorem tpl16 : tpl Try.prog 16 = none := by kernel_rfl
@[go_sem] theorem tarr16 : tarr Try.prog 16 = none := by kernel_rfl
@[go_sem] theorem tn17 : tn Try.prog 17 = some 1 := by kernel_rfl
@[go_sem] theorem tb17 : tb Try.prog 17 = some 8 := by kernel_rfl
@[go_sem] theorem ta17 : ta Try.prog 17 = some false := by kernel_rfl
@[go_sem] theorem tz17 : tz Try.prog 17 = some [.pointer none] := by kernel_rfl
@[go_sem] theorem tpl17 : tpl Try.prog 17 = none := by kernel_rfl
@[go_sem] theorem tarr17 : tarr Try.prog 17 = none := by kernel_rfl
@[go_sem] theorem tn18 : tn Try.prog 18 = some 1 := by kernel_rfl
@[go_sem] theorem tb18 : tb Try.prog 18 = some 8 := by kernel_rfl
@[go_sem] theorem ta18 : ta Try.prog 18 = some true := by kernel_rfl
@[go_sem] theorem tz18 : tz Try.prog 18 = some [.pointer none] := by kernel_rfl
@[go_sem] theorem tf18_0 : tf Try.prog 18 0 = some 0 := by kernel_rfl
@[go_sem] theorem tpl18 : tpl Try.prog 18 = some [(0, 1)] := by kernel_rfl
@[go_sem] theorem tfl18_0 : tfl Try.prog 18 0 = some (0, 17) := by kernel_rfl
@[go_sem] theorem teg18 : teg Try.prog 18 = false := by kernel_rfl
@[go_sem] theorem tarr18 : tarr Try.prog 18 = none := by kernel_rfl
@[go_sem] theorem tn19 : tn Try.prog 19 = some 1 := by kernel_rfl
@[go_sem] theorem tb19 : tb Try.prog 19 = some 8 := by kernel_rfl
@[go_sem] theorem ta19 : ta Try.prog 19 = some true := by kernel_rfl
@[go_sem] theorem tz19 : tz Try.prog 19 = some [.pointer none] := by kernel_rfl
@[go_sem] theorem tf19_0 : tf Try.prog 19 0 = some 0 := by kernel_rfl
@[go_sem] theorem tpl19 : tpl Try.prog 19 = some [(0, 1)] := by kernel_rfl
@[go_sem] theorem tfl19_0 : tfl Try.prog 19 0 = some (0, 17) := by kernel_rfl
@[go_sem] theorem teg19 : teg Try.prog 19 = false := by kernel_rfl
@[go_sem] theorem tarr19 : tarr Try.prog 19 = none := by kernel_rfl
@[go_sem] theorem tn20 : tn Try.prog 20 = some 1 := by kernel_rfl
@[go_sem] theorem tb20 : tb Try.prog 20 = some 16 := by kernel_rfl
@[go_sem] theorem ta20 : ta Try.prog 20 = some false := by kernel_rfl
@[go_sem] theorem tz20 : tz Try.prog 20 = some [.nilIface] := by kernel_rfl
@[go_sem] theorem tpl20 : tpl Try.prog 20 = none := by kernel_rfl
@[go_sem] theorem tarr20 : tarr Try.prog 20 = none := by kernel_rfl
@[go_sem] theorem tn21 : tn Try.prog 21 = some 1 := by kernel_rfl
@[go_sem] theorem tb21 : tb Try.prog 21 = some 4 := by kernel_rfl
@[go_sem] theorem ta21 : ta Try.prog 21 = some false := by kernel_rfl
@[go_sem] theorem tz21 : tz Try.prog 21 = some [.int .i32 0] := by kernel_rfl
@[go_sem] theorem tpl21 : tpl Try.prog 21 = none := by kernel_rfl
@[go_sem] theorem tarr21 : tarr Try.prog 21 = none := by kernel_rfl
@[go_sem] theorem tint21 : tint Try.prog 21 = some .i32 := by kernel_rfl
@[go_sem] theorem tn22 : tn Try.prog 22 = some 1 := by kernel_rfl
@[go_sem] theorem tb22 : tb Try.prog 22 = some 8 := by kernel_rfl
@[go_sem] theorem ta22 : ta Try.prog 22 = some false := by kernel_rfl
@[go_sem] theorem tz22 : tz Try.prog 22 = some [.int .i64 0] := by kernel_rfl
@[go_sem] theorem tpl22 : tpl Try.prog 22 = none := by kernel_rfl
@[go_sem] theorem tarr22 : tarr Try.prog 22 = none := by kernel_rfl
@[go_sem] theorem tint22 : tint Try.prog 22 = some .i64 := by kernel_rfl
@[go_sem] theorem tn23 : tn Try.prog 23 = some 1 := by kernel_rfl
@[go_sem] theorem tb23 : tb Try.prog 23 = some 24 := by kernel_rfl
@[go_sem] theorem ta23 : ta Try.prog 23 = some false := by kernel_rfl
@[go_sem] theorem tz23 : tz Try.prog 23 = some [.slice none 0 0] := by kernel_rfl
@[go_sem] theorem tpl23 : tpl Try.prog 23 = none := by kernel_rfl
@[go_sem] theorem tarr23 : tarr Try.prog 23 = none := by kernel_rfl
@[go_sem] theorem tsl23 : tsl Try.prog 23 = some 22 := by kernel_rfl
@[go_sem] theorem tstr23 : tstr Try.prog 23 = false := by kernel_rfl
@[go_sem] theorem tn24 : tn Try.prog 24 = some 1 := by kernel_rfl
@[go_sem] theorem tb24 : tb Try.prog 24 = some 24 := by kernel_rfl
@[go_sem] theorem ta24 : ta Try.prog 24 = some false := by kernel_rfl
@[go_sem] theorem tz24 : tz Try.prog 24 = some [.slice none 0 0] := by kernel_rfl
@[go_sem] theorem tpl24 : tpl Try.prog 24 = none := by kernel_rfl
@[go_sem] theorem tarr24 : tarr Try.prog 24 = none := by kernel_rfl
@[go_sem] theorem tsl24 : tsl Try.prog 24 = some 3 := by kernel_rfl
@[go_sem] theorem tstr24 : tstr Try.prog 24 = false := by kernel_rfl
@[go_sem] theorem tn25 : tn Try.prog 25 = some 1 := by kernel_rfl
@[go_sem] theorem tb25 : tb Try.prog 25 = some 8 := by kernel_rfl
@[go_sem] theorem ta25 : ta Try.prog 25 = some false := by kernel_rfl
@[go_sem] theorem tz25 : tz Try.prog 25 = some [.nilFunc] := by kernel_rfl
@[go_sem] theorem tpl25 : tpl Try.prog 25 = none := by kernel_rfl
@[go_sem] theorem tarr25 : tarr Try.prog 25 = none := by kernel_rfl
@[go_sem] theorem tn26 : tn Try.prog 26 = some 1 := by kernel_rfl
@[go_sem] theorem tb26 : tb Try.prog 26 = some 24 := by kernel_rfl
@[go_sem] theorem ta26 : ta Try.prog 26 = some false := by kernel_rfl
@[go_sem] theorem tz26 : tz Try.prog 26 = some [.slice none 0 0] := by kernel_rfl
@[go_sem] theorem tpl26 : tpl Try.prog 26 = none := by kernel_rfl
@[go_sem] theorem tarr26 : tarr Try.prog 26 = none := by kernel_rfl
@[go_sem] theorem tsl26 : tsl Try.prog 26 = some 5 := by kernel_rfl
@[go_sem] theorem tstr26 : tstr Try.prog 26 = false := by kernel_rfl
@[go_sem] theorem tn27 : tn Try.prog 27 = some 1 := by kernel_rfl
@[go_sem] theorem tb27 : tb Try.prog 27 = some 8 := by kernel_rfl
@[go_sem] theorem ta27 : ta Try.prog 27 = some false := by kernel_rfl
@[go_sem] theorem tz27 : tz Try.prog 27 = some [.nilFunc] := by kernel_rfl
@[go_sem] theorem tpl27 : tpl Try.prog 27 = none := by kernel_rfl
@[go_sem] theorem tarr27 : tarr Try.prog 27 = none := by kernel_rfl
@[go_sem] theorem tn28 : tn Try.prog 28 = some 1 := by kernel_rfl
@[go_sem] theorem tb28 : tb Try.prog 28 = some 8 := by kernel_rfl
@[go_sem] theorem ta28 : ta Try.prog 28 = some false := by kernel_rfl
@[go_sem] theorem tz28 : tz Try.prog 28 = some [.nilFunc] := by kernel_rfl
@[go_sem] theorem tpl28 : tpl Try.prog 28 = none := by kernel_rfl
@[go_sem] theorem tarr28 : tarr Try.prog 28 = none := by kernel_rfl
@[go_sem] theorem tn29 : tn Try.prog 29 = some 8 := by kernel_rfl
@[go_sem] theorem tb29 : tb Try.prog 29 = some 64 := by kernel_rfl
@[go_sem] theorem ta29 : ta Try.prog 29 = some true := by kernel_rfl
@[go_sem] theorem tz29 : tz Try.prog 29 = some [.int .i64 0, .int .i64 0, .int .i64 0, .int .i64 0, .int .i64 0, .int .i64 0, .int .i64 0, .int .i64 0] := by kernel_rfl
@[go_sem] theorem tpl29 : tpl Try.prog 29 = none := by kernel_rfl
@[go_sem] theorem teg29 : teg Try.prog 29 = false := by kernel_rfl
@[go_sem] theorem tflat29 : flat Try.prog 6 29 = some [some .i64, some .i64, some .i64, some .i64, some .i64, some .i64, some .i64, some .i64] := by kernel_rfl
@[go_sem] theorem tarr29 : tarr Try.prog 29 = some (8, 3) := by kernel_rfl
@[go_sem] theorem tsl29 : tsl Try.prog 29 = none := by kernel_rfl
@[go_sem] theorem tstr29 : tstr Try.prog 29 = false := by kernel_rfl
@[go_sem] theorem tn30 : tn Try.prog 30 = some 2 := by kernel_rfl
@[go_sem] theorem tb30 : tb Try.prog 30 = some 16 := by kernel_rfl
@[go_sem] theorem ta30 : ta Try.prog 30 = some true := by kernel_rfl
@[go_sem] theorem tz30 : tz Try.prog 30 = some [.int .i64 0, .int .i64 0] := by kernel_rfl
@[go_sem] theorem tf30_0 : tf Try.prog 30 0 = some 0 := by kernel_rfl
@[go_sem] theorem tf30_1 : tf Try.prog 30 1 = some 1 := by kernel_rfl
@[go_sem] theorem tpl30 : tpl Try.prog 30 = some [(0, 1), (1, 1)] := by kernel_rfl
@[go_sem] theorem tfl30_0 : tfl Try.prog 30 0 = some (0, 22) := by kernel_rfl
@[go_sem] theorem tfl30_1 : tfl Try.prog 30 1 = some (1, 3) := by kernel_rfl
@[go_sem] theorem teg30 : teg Try.prog 30 = false := by kernel_rfl
@[go_sem] theorem tflat30 : flat Try.prog 6 30 = some [some .i64, some .i64] := by kernel_rfl
@[go_sem] theorem tarr30 : tarr Try.prog 30 = none := by kernel_rfl
@[go_sem] theorem tn31 : tn Try.prog 31 = some 2 := by kernel_rfl
@[go_sem] theorem tb31 : tb Try.prog 31 = some 16 := by kernel_rfl
@[go_sem] theorem ta31 : ta Try.prog 31 = some true := by kernel_rfl
@[go_sem] theorem tz31 : tz Try.prog 31 = some [.int .i64 0, .int .i64 0] := by kernel_rfl
@[go_sem] theorem tf31_0 : tf Try.prog 31 0 = some 0 := by kernel_rfl
@[go_sem] theorem tf31_1 : tf Try.prog 31 1 = some 1 := by kernel_rfl
@[go_sem] theorem tpl31 : tpl Try.prog 31 = some [(0, 1), (1, 1)] := by kernel_rfl
@[go_sem] theorem tfl31_0 : tfl Try.prog 31 0 = some (0, 22) := by kernel_rfl
@[go_sem] theorem tfl31_1 : tfl Try.prog 31 1 = some (1, 3) := by kernel_rfl
@[go_sem] theorem teg31 : teg Try.prog 31 = false := by kernel_rfl
@[go_sem] theorem tflat31 : flat Try.prog 6 31 = some [some .i64, some .i64] := by kernel_rfl
@[go_sem] theorem tarr31 : tarr Try.prog 31 = none := by kernel_rfl
@[go_sem] theorem tn32 : tn Try.prog 32 = some 16 := by kernel_rfl
@[go_sem] theorem tb32 : tb Try.prog 32 = some 128 := by kernel_rfl
@[go_sem] theorem ta32 : ta Try.prog 32 = some true := by kernel_rfl
@[go_sem] theorem tz32 : tz Try.prog 32 = some [.int .i64 0, .int .i64 0, .int .i64 0, .int .i64 0, .int .i64 0, .int .i64 0, .int .i64 0, .int .i64 0, .int .i64 0, .int .i64 0, .int .i64 0, .int .i64 0, .int .i64 0, .int .i64 0, .int .i64 0, .int .i64 0] := by kernel_rfl
@[go_sem] theorem tpl32 : tpl Try.prog 32 = none := by kernel_rfl
@[go_sem] theorem teg32 : teg Try.prog 32 = false := by kernel_rfl
@[go_sem] theorem tflat32 : flat Try.prog 6 32 = some [some .i64, some .i64, some .i64, some .i64, some .i64, some .i64, some .i64, some .i64, some .i64, some .i64, some .i64, some .i64, some .i64, some .i64, some .i64, some .i64] := by kernel_rfl
@[go_sem] theorem tarr32 : tarr Try.prog 32 = some (8, 31) := by kernel_rfl
@[go_sem] theorem tsl32 : tsl Try.prog 32 = none := by kernel_rfl
@[go_sem] theorem tstr32 : tstr Try.prog 32 = false := by kernel_rfl
@[go_sem] theorem tn33 : tn Try.prog 33 = some 8 := by kernel_rfl
@[go_sem] theorem tb33 : tb Try.prog 33 = some 8 := by kernel_rfl
@[go_sem] theorem ta33 : ta Try.prog 33 = some true := by kernel_rfl
@[go_sem] theorem tz33 : tz Try.prog 33 = some [.bool false, .bool false, .bool false, .bool false, .bool false, .bool false, .bool false, .bool false] := by kernel_rfl
@[go_sem] theorem tpl33 : tpl Try.prog 33 = none := by kernel_rfl
@[go_sem] theorem teg33 : teg Try.prog 33 = false := by kernel_rfl
@[go_sem] theorem tflat33 : flat Try.prog 6 33 = some [none, none, none, none, none, none, none, none] := by kernel_rfl
@[go_sem] theorem tarr33 : tarr Try.prog 33 = some (8, 4) := by kernel_rfl
@[go_sem] theorem tsl33 : tsl Try.prog 33 = none := by kernel_rfl
@[go_sem] theorem tstr33 : tstr Try.prog 33 = false := by kernel_rfl
@[go_sem] theorem tn34 : tn Try.prog 34 = some 40 := by kernel_rfl
@[go_sem] theorem tb34 : tb Try.prog 34 = some 264 := by kernel_rfl
@[go_sem] theorem ta34 : ta Try.prog 34 = some true := by kernel_rfl
@[go_sem] theorem tz34 : tz Try.prog 34 = some [.int .i64 0, .int .i64 0, .int .i64 0, .int .i64 0, .int .i64 0, .int .i64 0, .int .i64 0, .int .i64 0, .int .i64 0, .int .i64 0, .int .i64 0, .int .i64 0, .int .i64 0, .int .i64 0, .int .i64 0, .int .i64 0, .int .i64 0, .int .i64 0, .int .i64 0, .int .i64 0, .int .i64 0, .int .i64 0, .int .i64 0, .int .i64 0, .int .i64 0, .int .i64 0, .int .i64 0, .int .i64 0, .int .i64 0, .int .i64 0, .int .i64 0, .int .i64 0, .bool false, .bool false, .bool false, .bool false, .bool false, .bool false, .bool false, .bool false] := by kernel_rfl
@[go_sem] theorem tf34_0 : tf Try.prog 34 0 = some 0 := by kernel_rfl
@[go_sem] theorem tf34_1 : tf Try.prog 34 1 = some 8 := by kernel_rfl
@[go_sem] theorem tf34_2 : tf Try.prog 34 2 = some 16 := by kernel_rfl
@[go_sem] theorem tf34_3 : tf Try.prog 34 3 = some 32 := by kernel_rfl
@[go_sem] theorem tpl34 : tpl Try.prog 34 = some [(0, 8), (8, 8), (16, 16), (32, 8)] := by kernel_rfl
@[go_sem] theorem tfl34_0 : tfl Try.prog 34 0 = some (0, 29) := by kernel_rfl
@[go_sem] theorem tfl34_1 : tfl Try.prog 34 1 = some (8, 29) := by kernel_rfl
@[go_sem] theorem tfl34_2 : tfl Try.prog 34 2 = some (16, 32) := by kernel_rfl
@[go_sem] theorem tfl34_3 : tfl Try.prog 34 3 = some (32, 33) := by kernel_rfl
@[go_sem] theorem teg34 : teg Try.prog 34 = false := by kernel_rfl
@[go_sem] theorem tflat34 : flat Try.prog 6 34 = some [some .i64, some .i64, some .i64, some .i64, some .i64, some .i64, some .i64, some .i64, some .i64, some .i64, some .i64, some .i64, some .i64, some .i64, some .i64, some .i64, some .i64, some .i64, some .i64, some .i64, some .i64, some .i64, some .i64, some .i64, some .i64, some .i64, some .i64, some .i64, some .i64, some .i64, some .i64, some .i64, none, none, none, none, none, none, none, none] := by kernel_rfl
@[go_sem] theorem tarr34 : tarr Try.prog 34 = none := by kernel_rfl
@[go_sem] theorem tn35 : tn Try.prog 35 = some 40 := by kernel_rfl
@[go_sem] theorem tb35 : tb Try.prog 35 = some 264 := by kernel_rfl
@[go_sem] theorem ta35 : ta Try.prog 35 = some true := by kernel_rfl
@[go_sem] theorem tz35 : tz Try.prog 35 = some [.int .i64 0, .int .i64 0, .int .i64 0, .int .i64 0, .int .i64 0, .int .i64 0, .int .i64 0, .int .i64 0, .int .i64 0, .int .i64 0, .int .i64 0, .int .i64 0, .int .i64 0, .int .i64 0, .int .i64 0, .int .i64 0, .int .i64 0, .int .i64 0, .int .i64 0, .int .i64 0, .int .i64 0, .int .i64 0, .int .i64 0, .int .i64 0, .int .i64 0, .int .i64 0, .int .i64 0, .int .i64 0, .int .i64 0, .int .i64 0, .int .i64 0, .int .i64 0, .bool false, .bool false, .bool false, .bool false, .bool false, .bool false, .bool false, .bool false] := by kernel_rfl
@[go_sem] theorem tf35_0 : tf Try.prog 35 0 = some 0 := by kernel_rfl
@[go_sem] theorem tf35_1 : tf Try.prog 35 1 = some 8 := by kernel_rfl
@[go_sem] theorem tf35_2 : tf Try.prog 35 2 = some 16 := by kernel_rfl
@[go_sem] theorem tf35_3 : tf Try.prog 35 3 = some 32 := by kernel_rfl
@[go_sem] theorem tpl35 : tpl Try.prog 35 = some [(0, 8), (8, 8), (16, 16), (32, 8)] := by kernel_rfl
@[go_sem] theorem tfl35_0 : tfl Try.prog 35 0 = some (0, 29) := by kernel_rfl
@[go_sem] theorem tfl35_1 : tfl Try.prog 35 1 = some (8, 29) := by kernel_rfl
@[go_sem] theorem tfl35_2 : tfl Try.prog 35 2 = some (16, 32) := by kernel_rfl
@[go_sem] theorem tfl35_3 : tfl Try.prog 35 3 = some (32, 33) := by kernel_rfl
@[go_sem] theorem teg35 : teg Try.prog 35 = false := by kernel_rfl
@[go_sem] theorem tflat35 : flat Try.prog 6 35 = some [some .i64, some .i64, some .i64, some .i64, some .i64, some .i64, some .i64, some .i64, some .i64, some .i64, some .i64, some .i64, some .i64, some .i64, some .i64, some .i64, some .i64, some .i64, some .i64, some .i64, some .i64, some .i64, some .i64, some .i64, some .i64, some .i64, some .i64, some .i64, some .i64, some .i64, some .i64, some .i64, none, none, none, none, none, none, none, none] := by kernel_rfl
@[go_sem] theorem tarr35 : tarr Try.prog 35 = none := by kernel_rfl
@[go_sem] theorem tn36 : tn Try.prog 36 = some 1 := by kernel_rfl
@[go_sem] theorem tb36 : tb Try.prog 36 = some 8 := by kernel_rfl
@[go_sem] theorem ta36 : ta Try.prog 36 = some false := by kernel_rfl
@[go_sem] theorem tz36 : tz Try.prog 36 = some [.nilFunc] := by kernel_rfl
@[go_sem] theorem tpl36 : tpl Try.prog 36 = none := by kernel_rfl
@[go_sem] theorem tarr36 : tarr Try.prog 36 = none := by kernel_rfl
@[go_sem] theorem tn37 : tn Try.prog 37 = some 1 := by kernel_rfl
@[go_sem] theorem tb37 : tb Try.prog 37 = some 8 := by kernel_rfl
@[go_sem] theorem ta37 : ta Try.prog 37 = some false := by kernel_rfl
@[go_sem] theorem tz37 : tz Try.prog 37 = some [.nilFunc] := by kernel_rfl
@[go_sem] theorem tpl37 : tpl Try.prog 37 = none := by kernel_rfl
@[go_sem] theorem tarr37 : tarr Try.prog 37 = none := by kernel_rfl
@[go_sem] theorem tn38 : tn Try.prog 38 = some 11 := by kernel_rfl
@[go_sem] theorem tb38 : tb Try.prog 38 = some 48 := by kernel_rfl
@[go_sem] theorem ta38 : ta Try.prog 38 = some true := by kernel_rfl
@[go_sem] theorem tz38 : tz Try.prog 38 = some [.slice none 0 0, .int .i64 0, .int .i64 0, .bool false, .bool false, .bool false, .bool false, .bool false, .bool false, .bool false, .bool false] := by kernel_rfl
@[go_sem] theorem tf38_0 : tf Try.prog 38 0 = some 0 := by kernel_rfl
@[go_sem] theorem tf38_1 : tf Try.prog 38 1 = some 1 := by kernel_rfl
@[go_sem] theorem tf38_2 : tf Try.prog 38 2 = some 2 := by kernel_rfl
@[go_sem] theorem tf38_3 : tf Try.prog 38 3 = some 3 := by kernel_rfl
@[go_sem] theorem tpl38 : tpl Try.prog 38 = some [(0, 1), (1, 1), (2, 1), (3, 8)] := by kernel_rfl
@[go_sem] theorem tfl38_0 : tfl Try.prog 38 0 = some (0, 26) := by kernel_rfl
@[go_sem] theorem tfl38_1 : tfl Try.prog 38 1 = some (1, 3) := by kernel_rfl
@[go_sem] theorem tfl38_2 : tfl Try.prog 38 2 = some (2, 3) := by kernel_rfl
@[go_sem] theorem tfl38_3 : tfl Try.prog 38 3 = some (3, 33) := by kernel_rfl
@[go_sem] theorem teg38 : teg Try.prog 38 = false := by kernel_rfl
@[go_sem] theorem tarr38 : tarr Try.prog 38 = none := by kernel_rfl
@[go_sem] theorem tn39 : tn Try.prog 39 = some 11 := by kernel_rfl
@[go_sem] theorem tb39 : tb Try.prog 39 = some 48 := by kernel_rfl
@[go_sem] theorem ta39 : ta Try.prog 39 = some true := by kernel_rfl
@[go_sem] theorem tz39 : tz Try.prog 39 = some [.slice none 0 0, .int .i64 0, .int .i64 0, .bool false, .bool false, .bool false, .bool false, .bool false, .bool false, .bool false, .bool false] := by kernel_rfl
@[go_sem] theorem tf39_0 : tf Try.prog 39 0 = some 0 := by kernel_rfl
@[go_sem] theorem tf39_1 : tf Try.prog 39 1 = some 1 := by kernel_rfl
@[go_sem] theorem tf39_2 : tf Try.prog 39 2 = some 2 := by kernel_rfl
@[go_sem] theorem tf39_3 : tf Try.prog 39 3 = some 3 := by kernel_rfl
@[go_sem] theorem tpl39 : tpl Try.prog 39 = some [(0, 1), (1, 1), (2, 1), (3, 8)] := by kernel_rfl
@[go_sem] theorem tfl39_0 : tfl Try.prog 39 0 = some (0, 26) := by kernel_rfl
@[go_sem] theorem tfl39_1 : tfl Try.prog 39 1 = some (1, 3) := by kernel_rfl
@[go_sem] theorem tfl39_2 : tfl Try.prog 39 2 = some (2, 3) := by kernel_rfl
@[go_sem] theorem tfl39_3 : tfl Try.prog 39 3 = some (3, 33) := by kernel_rfl
@[go_sem] theorem teg39 : teg Try.prog 39 = false := by kernel_rfl
@[go_sem] theorem tarr39 : tarr Try.prog 39 = none := by kernel_rfl
@[go_sem] theorem tn40 : tn Try.prog 40 = some 1 := by kernel_rfl
@[go_sem] theorem tb40 : tb Try.prog 40 = some 8 := by kernel_rfl
@[go_sem] theorem ta40 : ta Try.prog 40 = some false := by kernel_rfl
@[go_sem] theorem tz40 : tz Try.prog 40 = some [.nilFunc] := by kernel_rfl
@[go_sem] theorem tpl40 : tpl Try.prog 40 = none := by kernel_rfl
@[go_sem] theorem tarr40 : tarr Try.prog 40 = none := by kernel_rfl
@[go_sem] theorem tn41 : tn Try.prog 41 = some 1 := by kernel_rfl
@[go_sem] theorem tb41 : tb Try.prog 41 = some 8 := by kernel_rfl
@[go_sem] theorem ta41 : ta Try.prog 41 = some false := by kernel_rfl
@[go_sem] theorem tz41 : tz Try.prog 41 = some [.nilFunc] := by kernel_rfl
@[go_sem] theorem tpl41 : tpl Try.prog 41 = none := by kernel_rfl
@[go_sem] theorem tarr41 : tarr Try.prog 41 = none := by kernel_rfl
@[go_sem] theorem tn42 : tn Try.prog 42 = some 1 := by kernel_rfl
@[go_sem] theorem tb42 : tb Try.prog 42 = some 8 := by kernel_rfl
@[go_sem] theorem ta42 : ta Try.prog 42 = some false := by kernel_rfl
@[go_sem] theorem tz42 : tz Try.prog 42 = some [.nilFunc] := by kernel_rfl
@[go_sem] theorem tpl42 : tpl Try.prog 42 = none := by kernel_rfl
@[go_sem] theorem tarr42 : tarr Try.prog 42 = none := by kernel_rfl
@[go_sem] theorem tn44 : tn Try.prog 44 = some 1 := by kernel_rfl
@[go_sem] theorem tb44 : tb Try.prog 44 = some 8 := by kernel_rfl
@[go_sem] theorem ta44 : ta Try.prog 44 = some false := by kernel_rfl
@[go_sem] theorem tz44 : tz Try.prog 44 = some [.nilFunc] := by kernel_rfl
@[go_sem] theorem tpl44 : tpl Try.prog 44 = none := by kernel_rfl
@[go_sem] theorem tarr44 : tarr Try.prog 44 = none := by kernel_rfl
@[go_sem] theorem tn45 : tn Try.prog 45 = some 1 := by kernel_rfl
@[go_sem] theorem tb45 : tb Try.prog 45 = some 8 := by kernel_rfl
@[go_sem] theorem ta45 : ta Try.prog 45 = some false := by kernel_rfl
@[go_sem] theorem tz45 : tz Try.prog 45 = some [.nilFunc] := by kernel_rfl
@[go_sem] theorem tpl45 : tpl Try.prog 45 = none := by kernel_rfl
@[go_sem] theorem tarr45 : tarr Try.prog 45 = none := by kernel_rfl
@[go_sem] theorem tn46 : tn Try.prog 46 = some 1 := by kernel_rfl
@[go_sem] theorem tb46 : tb Try.prog 46 = some 8 := by kernel_rfl
@[go_sem] theorem ta46 : ta Try.prog 46 = some false := by kernel_rfl
@[go_sem] theorem tz46 : tz Try.prog 46 = some [.nilFunc] := by kernel_rfl
@[go_sem] theorem tpl46 : tpl Try.prog 46 = none := by kernel_rfl
@[go_sem] theorem tarr46 : tarr Try.prog 46 = none := by kernel_rfl
@[go_sem] theorem tn47 : tn Try.prog 47 = some 5 := by kernel_rfl
@[go_sem] theorem tb47 : tb Try.prog 47 = some 40 := by kernel_rfl
@[go_sem] theorem ta47 : ta Try.prog 47 = some true := by kernel_rfl
@[go_sem] theorem tz47 : tz Try.prog 47 = some [.int .i64 0, .int .i64 0, .int .i64 0, .int .i64 0, .int .i64 0] := by kernel_rfl
@[go_sem] theorem tf47_0 : tf Try.prog 47 0 = some 0 := by kernel_rfl
@[go_sem] theorem tf47_1 : tf Try.prog 47 1 = some 1 := by kernel_rfl
@[go_sem] theorem tf47_2 : tf Try.prog 47 2 = some 2 := by kernel_rfl
@[go_sem] theorem tf47_3 : tf Try.prog 47 3 = some 3 := by kernel_rfl
@[go_sem] theorem tf47_4 : tf Try.prog 47 4 = some 4 := by kernel_rfl
@[go_sem] theorem tpl47 : tpl Try.prog 47 = some [(0, 1), (1, 1), (2, 1), (3, 1), (4, 1)] := by kernel_rfl
@[go_sem] theorem tfl47_0 : tfl Try.prog 47 0 = some (0, 3) := by kernel_rfl
@[go_sem] theorem tfl47_1 : tfl Try.prog 47 1 = some (1, 3) := by kernel_rfl
@[go_sem] theorem tfl47_2 : tfl Try.prog 47 2 = some (2, 3) := by kernel_rfl
@[go_sem] theorem tfl47_3 : tfl Try.prog 47 3 = some (3, 3) := by kernel_rfl
@[go_sem] theorem tfl47_4 : tfl Try.prog 47 4 = some (4, 3) := by kernel_rfl
@[go_sem] theorem teg47 : teg Try.prog 47 = false := by kernel_rfl
@[go_sem] theorem tflat47 : flat Try.prog 6 47 = some [some .i64, some .i64, some .i64, some .i64, some .i64] := by kernel_rfl
@[go_sem] theorem tarr47 : tarr Try.prog 47 = none := by kernel_rfl
@[go_sem] theorem tn48 : tn Try.prog 48 = some 5 := by kernel_rfl
@[go_sem] theorem tb48 : tb Try.prog 48 = some 40 := by kernel_rfl
@[go_sem] theorem ta48 : ta Try.prog 48 = some true := by kernel_rfl
@[go_sem] theorem tz48 : tz Try.prog 48 = some [.int .i64 0, .int .i64 0, .int .i64 0, .int .i64 0, .int .i64 0] := by kernel_rfl
@[go_sem] theorem tf48_0 : tf Try.prog 48 0 = some 0 := by kernel_rfl
@[go_sem] theorem tf48_1 : tf Try.prog 48 1 = some 1 := by kernel_rfl
@[go_sem] theorem tf48_2 : tf Try.prog 48 2 = some 2 := by kernel_rfl
@[go_sem] theorem tf48_3 : tf Try.prog 48 3 = some 3 := by kernel_rfl
@[go_sem] theorem tf48_4 : tf Try.prog 48 4 = some 4 := by kernel_rfl
@[go_sem] theorem tpl48 : tpl Try.prog 48 = some [(0, 1), (1, 1), (2, 1), (3, 1), (4, 1)] := by kernel_rfl
@[go_sem] theorem tfl48_0 : tfl Try.prog 48 0 = some (0, 3) := by kernel_rfl
@[go_sem] theorem tfl48_1 : tfl Try.prog 48 1 = some (1, 3) := by kernel_rfl
@[go_sem] theorem tfl48_2 : tfl Try.prog 48 2 = some (2, 3) := by kernel_rfl
@[go_sem] theorem tfl48_3 : tfl Try.prog 48 3 = some (3, 3) := by kernel_rfl
@[go_sem] theorem tfl48_4 : tfl Try.prog 48 4 = some (4, 3) := by kernel_rfl
@[go_sem] theorem teg48 : teg Try.prog 48 = false := by kernel_rfl
@[go_sem] theorem tflat48 : flat Try.prog 6 48 = some [some .i64, some .i64, some .i64, some .i64, some .i64] := by kernel_rfl
@[go_sem] theorem tarr48 : tarr Try.prog 48 = none := by kernel_rfl
@[go_sem] theorem tn49 : tn Try.prog 49 = some 1 := by kernel_rfl
@[go_sem] theorem tb49 : tb Try.prog 49 = some 8 := by kernel_rfl
@[go_sem] theorem ta49 : ta Try.prog 49 = some false := by kernel_rfl
@[go_sem] theorem tz49 : tz Try.prog 49 = some [.nilFunc] := by kernel_rfl
@[go_sem] theorem tpl49 : tpl Try.prog 49 = none := by kernel_rfl
@[go_sem] theorem tarr49 : tarr Try.prog 49 = none := by kernel_rfl
@[go_sem] theorem tn50 : tn Try.prog 50 = some 1 := by kernel_rfl
@[go_sem] theorem tb50 : tb Try.prog 50 = some 8 := by kernel_rfl
@[go_sem] theorem ta50 : ta Try.prog 50 = some false := by kernel_rfl
@[go_sem] theorem tz50 : tz Try.prog 50 = some [.nilFunc] := by kernel_rfl
@[go_sem] theorem tpl50 : tpl Try.prog 50 = none := by kernel_rfl
@[go_sem] theorem tarr50 : tarr Try.prog 50 = none := by kernel_rfl
@[go_sem] theorem tn51 : tn Try.prog 51 = some 2 := by kernel_rfl
@[go_sem] theorem tb51 : tb Try.prog 51 = some 32 := by kernel_rfl
@[go_sem] theorem ta51 : ta Try.prog 51 = some true := by kernel_rfl
@[go_sem] theorem tz51 : tz Try.prog 51 = some [.slice none 0 0, .int .i64 0] := by kernel_rfl
@[go_sem] theorem tf51_0 : tf Try.prog 51 0 = some 0 := by kernel_rfl
@[go_sem] theorem tf51_1 : tf Try.prog 51 1 = some 1 := by kernel_rfl
@[go_sem] theorem tpl51 : tpl Try.prog 51 = some [(0, 1), (1, 1)] := by kernel_rfl
@[go_sem] theorem tfl51_0 : tfl Try.prog 51 0 = some (0, 26) := by kernel_rfl
@[go_sem] theorem tfl51_1 : tfl Try.prog 51 1 = some (1, 3) := by kernel_rfl
@[go_sem] theorem teg51 : teg Try.prog 51 = false := by kernel_rfl
@[go_sem] theorem tarr51 : tarr Try.prog 51 = none := by kernel_rfl
@[go_sem] theorem tn52 : tn Try.prog 52 = some 2 := by kernel_rfl
@[go_sem] theorem tb52 : tb Try.prog 52 = some 32 := by kernel_rfl
@[go_sem] theorem ta52 : ta Try.prog 52 = some true := by kernel_rfl
@[go_sem] theorem tz52 : tz Try.prog 52 = some [.slice none 0 0, .int .i64 0] := by kernel_rfl
@[go_sem] theorem tf52_0 : tf Try.prog 52 0 = some 0 := by kernel_rfl
@[go_sem] theorem tf52_1 : tf Try.prog 52 1 = some 1 := by kernel_rfl
@[go_sem] theorem tpl52 : tpl Try.prog 52 = some [(0, 1), (1, 1)] := by kernel_rfl
@[go_sem] theorem tfl52_0 : tfl Try.prog 52 0 = some (0, 26) := by kernel_rfl
@[go_sem] theorem tfl52_1 : tfl Try.prog 52 1 = some (1, 3) := by kernel_rfl
@[go_sem] theorem teg52 : teg Try.prog 52 = false := by kernel_rfl
@[go_sem] theorem tarr52 : tarr Try.prog 52 = none := by kernel_rfl
@[go_sem] theorem tn53 : tn Try.prog 53 = some 1 := by kernel_rfl
@[go_sem] theorem tb53 : tb Try.prog 53 = some 8 := by kernel_rfl
@[go_sem] theorem ta53 : ta Try.prog 53 = some false := by kernel_rfl
@[go_sem] theorem tz53 : tz Try.prog 53 = some [.nilFunc] := by kernel_rfl
@[go_sem] theorem tpl53 : tpl Try.prog 53 = none := by kernel_rfl
@[go_sem] theorem tarr53 : tarr Try.prog 53 = none := by kernel_rfl
@[go_sem] theorem tn55 : tn Try.prog 55 = some 1 := by kernel_rfl
@[go_sem] theorem tb55 : tb Try.prog 55 = some 8 := by kernel_rfl
@[go_sem] theorem ta55 : ta Try.prog 55 = some false := by kernel_rfl
@[go_sem] theorem tz55 : tz Try.prog 55 = some [.nilFunc] := by kernel_rfl
@[go_sem] theorem tpl55 : tpl Try.prog 55 = none := by kernel_rfl
@[go_sem] theorem tarr55 : tarr Try.prog 55 = none := by kernel_rfl
@[go_sem] theorem tn56 : tn Try.prog 56 = some 1 := by kernel_rfl
@[go_sem] theorem tb56 : tb Try.prog 56 = some 8 := by kernel_rfl
@[go_sem] theorem ta56 : ta Try.prog 56 = some false := by kernel_rfl
@[go_sem] theorem tz56 : tz Try.prog 56 = some [.nilFunc] := by kernel_rfl
@[go_sem] theorem tpl56 : tpl Try.prog 56 = none := by kernel_rfl
@[go_sem] theorem tarr56 : tarr Try.prog 56 = none := by kernel_rfl
@[go_sem] theorem tn57 : tn Try.prog 57 = some 1 := by kernel_rfl
@[go_sem] theorem tb57 : tb Try.prog 57 = some 8 := by kernel_rfl
@[go_sem] theorem ta57 : ta Try.prog 57 = some false := by kernel_rfl
@[go_sem] theorem tz57 : tz Try.prog 57 = some [.nilFunc] := by kernel_rfl
@[go_sem] theorem tpl57 : tpl Try.prog 57 = none := by kernel_rfl
@[go_sem] theorem tarr57 : tarr Try.prog 57 = none := by kernel_rfl
@[go_sem] theorem tn58 : tn Try.prog 58 = some 1 := by kernel_rfl
@[go_sem] theorem tb58 : tb Try.prog 58 = some 8 := by kernel_rfl
@[go_sem] theorem ta58 : ta Try.prog 58 = some false := by kernel_rfl
@[go_sem] theorem tz58 : tz Try.prog 58 = some [.nilFunc] := by kernel_rfl
@[go_sem] theorem tpl58 : tpl Try.prog 58 = none := by kernel_rfl
@[go_sem] theorem tarr58 : tarr Try.prog 58 = none := by kernel_rfl
@[go_sem] theorem tn59 : tn Try.prog 59 = some 1 := by kernel_rfl
@[go_sem] theorem tb59 : tb Try.prog 59 = some 8 := by kernel_rfl
@[go_sem] theorem ta59 : ta Try.prog 59 = some false := by kernel_rfl
@[go_sem] theorem tz59 : tz Try.prog 59 = some [.nilFunc] := by kernel_rfl
@[go_sem] theorem tpl59 : tpl Try.prog 59 = none := by kernel_rfl
@[go_sem] theorem tarr59 : tarr Try.prog 59 = none := by kernel_rfl
@[go_sem] theorem tn60 : tn Try.prog 60 = some 5 := by kernel_rfl
@[go_sem] theorem tb60 : tb Try.prog 60 = some 56 := by kernel_rfl
@[go_sem] theorem ta60 : ta Try.prog 60 = some true := by kernel_rfl
@[go_sem] theorem tz60 : tz Try.prog 60 = some [.int .i64 0, .int .i64 0, .int .i64 0, .int .i64 0, .slice none 0 0] := by kernel_rfl
@[go_sem] theorem tf60_0 : tf Try.prog 60 0 = some 0 := by kernel_rfl
@[go_sem] theorem tf60_1 : tf Try.prog 60 1 = some 1 := by kernel_rfl
@[go_sem] theorem tf60_2 : tf Try.prog 60 2 = some 2 := by kernel_rfl
@[go_sem] theorem tf60_3 : tf Try.prog 60 3 = some 3 := by kernel_rfl
@[go_sem] theorem tf60_4 : tf Try.prog 60 4 = some 4 := by kernel_rfl
@[go_sem] theorem tpl60 : tpl Try.prog 60 = some [(0, 1), (1, 1), (2, 1), (3, 1), (4, 1)] := by kernel_rfl
@[go_sem] theorem tfl60_0 : tfl Try.prog 60 0 = some (0, 3) := by kernel_rfl
@[go_sem] theorem tfl60_1 : tfl Try.prog 60 1 = some (1, 3) := by kernel_rfl
@[go_sem] theorem tfl60_2 : tfl Try.prog 60 2 = some (2, 3) := by kernel_rfl
@[go_sem] theorem tfl60_3 : tfl Try.prog 60 3 = some (3, 3) := by kernel_rfl
@[go_sem] theorem tfl60_4 : tfl Try.prog 60 4 = some (4, 26) := by kernel_rfl
@[go_sem] theorem teg60 : teg Try.prog 60 = false := by kernel_rfl
@[go_sem] theorem tarr60 : tarr Try.prog 60 = none := by kernel_rfl
@[go_sem] theorem tn61 : tn Try.prog 61 = some 5 := by kernel_rfl
@[go_sem] theorem tb61 : tb Try.prog 61 = some 56 := by kernel_rfl
@[go_sem] theorem ta61 : ta Try.prog 61 = some true := by kernel_rfl
@[go_sem] theorem tz61 : tz Try.prog 61 = some [.int .i64 0, .int .i64 0, .int .i64 0, .int .i64 0, .slice none 0 0] := by kernel_rfl
@[go_sem] theorem tf61_0 : tf Try.prog 61 0 = some 0 := by kernel_rfl
@[go_sem] theorem tf61_1 : tf Try.prog 61 1 = some 1 := by kernel_rfl
@[go_sem] theorem tf61_2 : tf Try.prog 61 2 = some 2 := by kernel_rfl
@[go_sem] theorem tf61_3 : tf Try.prog 61 3 = some 3 := by kernel_rfl
@[go_sem] theorem tf61_4 : tf Try.prog 61 4 = some 4 := by kernel_rfl
@[go_sem] theorem tpl61 : tpl Try.prog 61 = some [(0, 1), (1, 1), (2, 1), (3, 1), (4, 1)] := by kernel_rfl
@[go_sem] theorem tfl61_0 : tfl Try.prog 61 0 = some (0, 3) := by kernel_rfl
@[go_sem] theorem tfl61_1 : tfl Try.prog 61 1 = some (1, 3) := by kernel_rfl
@[go_sem] theorem tfl61_2 : tfl Try.prog 61 2 = some (2, 3) := by kernel_rfl
@[go_sem] theorem tfl61_3 : tfl Try.prog 61 3 = some (3, 3) := by kernel_rfl
@[go_sem] theorem tfl61_4 : tfl Try.prog 61 4 = some (4, 26) := by kernel_rfl
@[go_sem] theorem teg61 : teg Try.prog 61 = false := by kernel_rfl
@[go_sem] theorem tarr61 : tarr Try.prog 61 = none := by kernel_rfl
@[go_sem] theorem tn62 : tn Try.prog 62 = some 1 := by kernel_rfl
@[go_sem] theorem tb62 : tb Try.prog 62 = some 8 := by kernel_rfl
@[go_sem] theorem ta62 : ta Try.prog 62 = some false := by kernel_rfl
@[go_sem] theorem tz62 : tz Try.prog 62 = some [.nilFunc] := by kernel_rfl
@[go_sem] theorem tpl62 : tpl Try.prog 62 = none := by kernel_rfl
@[go_sem] theorem tarr62 : tarr Try.prog 62 = none := by kernel_rfl
@[go_sem] theorem tn63 : tn Try.prog 63 = some 1 := by kernel_rfl
@[go_sem] theorem tb63 : tb Try.prog 63 = some 8 := by kernel_rfl
@[go_sem] theorem ta63 : ta Try.prog 63 = some false := by kernel_rfl
@[go_sem] theorem tz63 : tz Try.prog 63 = some [.nilFunc] := by kernel_rfl
@[go_sem] theorem tpl63 : tpl Try.prog 63 = none := by kernel_rfl
@[go_sem] theorem tarr63 : tarr Try.prog 63 = none := by kernel_rfl
@[go_sem] theorem tn65 : tn Try.prog 65 = some 1 := by kernel_rfl
@[go_sem] theorem tb65 : tb Try.prog 65 = some 8 := by kernel_rfl
@[go_sem] theorem ta65 : ta Try.prog 65 = some false := by kernel_rfl
@[go_sem] theorem tz65 : tz Try.prog 65 = some [.nilFunc] := by kernel_rfl
@[go_sem] theorem tpl65 : tpl Try.prog 65 = none := by kernel_rfl
@[go_sem] theorem tarr65 : tarr Try.prog 65 = none := by kernel_rfl
@[go_sem] theorem tn67 : tn Try.prog 67 = some 1 := by kernel_rfl
@[go_sem] theorem tb67 : tb Try.prog 67 = some 8 := by kernel_rfl
@[go_sem] theorem ta67 : ta Try.prog 67 = some false := by kernel_rfl
@[go_sem] theorem tz67 : tz Try.prog 67 = some [.nilFunc] := by kernel_rfl
@[go_sem] theorem tpl67 : tpl Try.prog 67 = none := by kernel_rfl
@[go_sem] theorem tarr67 : tarr Try.prog 67 = none := by kernel_rfl
@[go_sem] theorem tn68 : tn Try.prog 68 = some 1 := by kernel_rfl
@[go_sem] theorem tb68 : tb Try.prog 68 = some 8 := by kernel_rfl
@[go_sem] theorem ta68 : ta Try.prog 68 = some false := by kernel_rfl
@[go_sem] theorem tz68 : tz Try.prog 68 = some [.nilFunc] := by kernel_rfl
@[go_sem] theorem tpl68 : tpl Try.prog 68 = none := by kernel_rfl
@[go_sem] theorem tarr68 : tarr Try.prog 68 = none := by kernel_rfl
@[go_sem] theorem tn69 : tn Try.prog 69 = some 1 := by kernel_rfl
@[go_sem] theorem tb69 : tb Try.prog 69 = some 8 := by kernel_rfl
@[go_sem] theorem ta69 : ta Try.prog 69 = some false := by kernel_rfl
@[go_sem] theorem tz69 : tz Try.prog 69 = some [.nilFunc] := by kernel_rfl
@[go_sem] theorem tpl69 : tpl Try.prog 69 = none := by kernel_rfl
@[go_sem] theorem tarr69 : tarr Try.prog 69 = none := by kernel_rfl
@[go_sem] theorem tn70 : tn Try.prog 70 = some 1 := by kernel_rfl
@[go_sem] theorem tb70 : tb Try.prog 70 = some 8 := by kernel_rfl
@[go_sem] theorem ta70 : ta Try.prog 70 = some false := by kernel_rfl
@[go_sem] theorem tz70 : tz Try.prog 70 = some [.nilFunc] := by kernel_rfl
@[go_sem] theorem tpl70 : tpl Try.prog 70 = none := by kernel_rfl
@[go_sem] theorem tarr70 : tarr Try.prog 70 = none := by kernel_rfl
@[go_sem] theorem tn71 : tn Try.prog 71 = some 1 := by kernel_rfl
@[go_sem] theorem tb71 : tb Try.prog 71 = some 8 := by kernel_rfl
@[go_sem] theorem ta71 : ta Try.prog 71 = some false := by kernel_rfl
@[go_sem] theorem tz71 : tz Try.prog 71 = some [.nilFunc] := by kernel_rfl
@[go_sem] theorem tpl71 : tpl Try.prog 71 = none := by kernel_rfl
@[go_sem] theorem tarr71 : tarr Try.prog 71 = none := by kernel_rfl
@[go_sem] theorem tn73 : tn Try.prog 73 = some 1 := by kernel_rfl
@[go_sem] theorem tb73 : tb Try.prog 73 = some 8 := by kernel_rfl
@[go_sem] theorem ta73 : ta Try.prog 73 = some false := by kernel_rfl
@[go_sem] theorem tz73 : tz Try.prog 73 = some [.nilFunc] := by kernel_rfl
@[go_sem] theorem tpl73 : tpl Try.prog 73 = none := by kernel_rfl
@[go_sem] theorem tarr73 : tarr Try.prog 73 = none := by kernel_rfl
@[go_sem] theorem tn74 : tn Try.prog 74 = some 1 := by kernel_rfl
@[go_sem] theorem tb74 : tb Try.prog 74 = some 8 := by kernel_rfl
@[go_sem] theorem ta74 : ta Try.prog 74 = some false := by kernel_rfl
@[go_sem] theorem tz74 : tz Try.prog 74 = some [.nilFunc] := by kernel_rfl
@[go_sem] theorem tpl74 : tpl Try.prog 74 = none := by kernel_rfl
@[go_sem] theorem tarr74 : tarr Try.prog 74 = none := by kernel_rfl
@[go_sem] theorem tn75 : tn Try.prog 75 = some 2 := by kernel_rfl
@[go_sem] theorem tb75 : tb Try.prog 75 = some 16 := by kernel_rfl
@[go_sem] theorem ta75 : ta Try.prog 75 = some true := by kernel_rfl
@[go_sem] theorem tz75 : tz Try.prog 75 = some [.int .i64 0, .int .i64 0] := by kernel_rfl
@[go_sem] theorem tf75_0 : tf Try.prog 75 0 = some 0 := by kernel_rfl
@[go_sem] theorem tf75_1 : tf Try.prog 75 1 = some 1 := by kernel_rfl
@[go_sem] theorem tpl75 : tpl Try.prog 75 = some [(0, 1), (1, 1)] := by kernel_rfl
@[go_sem] theorem tfl75_0 : tfl Try.prog 75 0 = some (0, 3) := by kernel_rfl
@[go_sem] theorem tfl75_1 : tfl Try.prog 75 1 = some (1, 3) := by kernel_rfl
@[go_sem] theorem teg75 : teg Try.prog 75 = false := by kernel_rfl
@[go_sem] theorem tflat75 : flat Try.prog 6 75 = some [some .i64, some .i64] := by kernel_rfl
@[go_sem] theorem tarr75 : tarr Try.prog 75 = none := by kernel_rfl
@[go_sem] theorem tn76 : tn Try.prog 76 = some 2 := by kernel_rfl
@[go_sem] theorem tb76 : tb Try.prog 76 = some 16 := by kernel_rfl
@[go_sem] theorem ta76 : ta Try.prog 76 = some true := by kernel_rfl
@[go_sem] theorem tz76 : tz Try.prog 76 = some [.int .i64 0, .int .i64 0] := by kernel_rfl
@[go_sem] theorem tf76_0 : tf Try.prog 76 0 = some 0 := by kernel_rfl
@[go_sem] theorem tf76_1 : tf Try.prog 76 1 = some 1 := by kernel_rfl
@[go_sem] theorem tpl76 : tpl Try.prog 76 = some [(0, 1), (1, 1)] := by kernel_rfl
@[go_sem] theorem tfl76_0 : tfl Try.prog 76 0 = some (0, 3) := by kernel_rfl
@[go_sem] theorem tfl76_1 : tfl Try.prog 76 1 = some (1, 3) := by kernel_rfl
@[go_sem] theorem teg76 : teg Try.prog 76 = false := by kernel_rfl
@[go_sem] theorem tflat76 : flat Try.prog 6 76 = some [some .i64, some .i64] := by kernel_rfl
@[go_sem] theorem tarr76 : tarr Try.prog 76 = none := by kernel_rfl
@[go_sem] theorem tn77 : tn Try.prog 77 = some 1 := by kernel_rfl
@[go_sem] theorem tb77 : tb Try.prog 77 = some 24 := by kernel_rfl
@[go_sem] theorem ta77 : ta Try.prog 77 = some false := by kernel_rfl
@[go_sem] theorem tz77 : tz Try.prog 77 = some [.slice none 0 0] := by kernel_rfl
@[go_sem] theorem tpl77 : tpl Try.prog 77 = none := by kernel_rfl
@[go_sem] theorem tarr77 : tarr Try.prog 77 = none := by kernel_rfl
@[go_sem] theorem tsl77 : tsl Try.prog 77 = some 102 := by kernel_rfl
@[go_sem] theorem tstr77 : tstr Try.prog 77 = false := by kernel_rfl
@[go_sem] theorem tn78 : tn Try.prog 78 = some 3 := by kernel_rfl
@[go_sem] theorem tb78 : tb Try.prog 78 = some 40 := by kernel_rfl
@[go_sem] theorem ta78 : ta Try.prog 78 = some true := by kernel_rfl
@[go_sem] theorem tz78 : tz Try.prog 78 = some [.int .i64 0, .int .i64 0, .slice none 0 0] := by kernel_rfl
@[go_sem] theorem tf78_0 : tf Try.prog 78 0 = some 0 := by kernel_rfl
@[go_sem] theorem tf78_1 : tf Try.prog 78 1 = some 2 := by kernel_rfl
@[go_sem] theorem tpl78 : tpl Try.prog 78 = some [(0, 2), (2, 1)] := by kernel_rfl
@[go_sem] theorem tfl78_0 : tfl Try.prog 78 0 = some (0, 76) := by kernel_rfl
@[go_sem] theorem tfl78_1 : tfl Try.prog 78 1 = some (2, 77) := by kernel_rfl
@[go_sem] theorem teg78 : teg Try.prog 78 = false := by kernel_rfl
@[go_sem] theorem tarr78 : tarr Try.prog 78 = none := by kernel_rfl
@[go_sem] theorem tn79 : tn Try.prog 79 = some 3 := by kernel_rfl
@[go_sem] theorem tb79 : tb Try.prog 79 = some 40 := by kernel_rfl
@[go_sem] theorem ta79 : ta Try.prog 79 = some true := by kernel_rfl
@[go_sem] theorem tz79 : tz Try.prog 79 = some [.int .i64 0, .int .i64 0, .slice none 0 0] := by kernel_rfl
@[go_sem] theorem tf79_0 : tf Try.prog 79 0 = some 0 := by kernel_rfl
@[go_sem] theorem tf79_1 : tf Try.prog 79 1 = some 2 := by kernel_rfl
@[go_sem] theorem tpl79 : tpl Try.prog 79 = some [(0, 2), (2, 1)] := by kernel_rfl
@[go_sem] theorem tfl79_0 : tfl Try.prog 79 0 = some (0, 76) := by kernel_rfl
@[go_sem] theorem tfl79_1 : tfl Try.prog 79 1 = some (2, 77) := by kernel_rfl
@[go_sem] theorem teg79 : teg Try.prog 79 = false := by kernel_rfl
@[go_sem] theorem tarr79 : tarr Try.prog 79 = none := by kernel_rfl
@[go_sem] theorem tn80 : tn Try.prog 80 = some 1 := by kernel_rfl
@[go_sem] theorem tb80 : tb Try.prog 80 = some 8 := by kernel_rfl
@[go_sem] theorem ta80 : ta Try.prog 80 = some false := by kernel_rfl
@[go_sem] theorem tz80 : tz Try.prog 80 = some [.nilFunc] := by kernel_rfl
@[go_sem] theorem tpl80 : tpl Try.prog 80 = none := by kernel_rfl
@[go_sem] theorem tarr80 : tarr Try.prog 80 = none := by kernel_rfl
@[go_sem] theorem tn81 : tn Try.prog 81 = some 1 := by kernel_rfl
@[go_sem] theorem tb81 : tb Try.prog 81 = some 8 := by kernel_rfl
@[go_sem] theorem ta81 : ta Try.prog 81 = some false := by kernel_rfl
@[go_sem] theorem tz81 : tz Try.prog 81 = some [.nilFunc] := by kernel_rfl
@[go_sem] theorem tpl81 : tpl Try.prog 81 = none := by kernel_rfl
@[go_sem] theorem tarr81 : tarr Try.prog 81 = none := by kernel_rfl
@[go_sem] theorem tn82 : tn Try.prog 82 = some 1 := by kernel_rfl
@[go_sem] theorem tb82 : tb Try.prog 82 = some 8 := by kernel_rfl
@[go_sem] theorem ta82 : ta Try.prog 82 = some false := by kernel_rfl
@[go_sem] theorem tz82 : tz Try.prog 82 = some [.nilFunc] := by kernel_rfl
@[go_sem] theorem tpl82 : tpl Try.prog 82 = none := by kernel_rfl
@[go_sem] theorem tarr82 : tarr Try.prog 82 = none := by kernel_rfl
@[go_sem] theorem tn83 : tn Try.prog 83 = some 1 := by kernel_rfl
@[go_sem] theorem tb83 : tb Try.prog 83 = some 24 := by kernel_rfl
@[go_sem] theorem ta83 : ta Try.prog 83 = some false := by kernel_rfl
@[go_sem] theorem tz83 : tz Try.prog 83 = some [.slice none 0 0] := by kernel_rfl
@[go_sem] theorem tpl83 : tpl Try.prog 83 = none := by kernel_rfl
@[go_sem] theorem tarr83 : tarr Try.prog 83 = none := by kernel_rfl
@[go_sem] theorem tsl83 : tsl Try.prog 83 = some 77 := by kernel_rfl
@[go_sem] theorem tstr83 : tstr Try.prog 83 = false := by kernel_rfl
@[go_sem] theorem tn85 : tn Try.prog 85 = some 1 := by kernel_rfl
@[go_sem] theorem tb85 : tb Try.prog 85 = some 8 := by kernel_rfl
@[go_sem] theorem ta85 : ta Try.prog 85 = some false := by kernel_rfl
@[go_sem] theorem tz85 : tz Try.prog 85 = some [.nilFunc] := by kernel_rfl
@[go_sem] theorem tpl85 : tpl Try.prog 85 = none := by kernel_rfl
@[go_sem] theorem tarr85 : tarr Try.prog 85 = none := by kernel_rfl
@[go_sem] theorem tn86 : tn Try.prog 86 = some 1 := by kernel_rfl
@[go_sem] theorem tb86 : tb Try.prog 86 = some 8 := by kernel_rfl
@[go_sem] theorem ta86 : ta Try.prog 86 = some false := by kernel_rfl
@[go_sem] theorem tz86 : tz Try.prog 86 = some [.nilFunc] := by kernel_rfl
@[go_sem] theorem tpl86 : tpl Try.prog 86 = none := by kernel_rfl
@[go_sem] theorem tarr86 : tarr Try.prog 86 = none := by kernel_rfl
@[go_sem] theorem tn87 : tn Try.prog 87 = some 1 := by kernel_rfl
@[go_sem] theorem tb87 : tb Try.prog 87 = some 8 := by kernel_rfl
@[go_sem] theorem ta87 : ta Try.prog 87 = some false := by kernel_rfl
@[go_sem] theorem tz87 : tz Try.prog 87 = some [.nilFunc] := by kernel_rfl
@[go_sem] theorem tpl87 : tpl Try.prog 87 = none := by kernel_rfl
@[go_sem] theorem tarr87 : tarr Try.prog 87 = none := by kernel_rfl
@[go_sem] theorem tn88 : tn Try.prog 88 = some 1 := by kernel_rfl
@[go_sem] theorem tb88 : tb Try.prog 88 = some 8 := by kernel_rfl
@[go_sem] theorem ta88 : ta Try.prog 88 = some false := by kernel_rfl
@[go_sem] theorem tz88 : tz Try.prog 88 = some [.nilFunc] := by kernel_rfl
@[go_sem] theorem tpl88 : tpl Try.prog 88 = none := by kernel_rfl
@[go_sem] theorem tarr88 : tarr Try.prog 88 = none := by kernel_rfl
@[go_sem] theorem tn90 : tn Try.prog 90 = some 1 := by kernel_rfl
@[go_sem] theorem tb90 : tb Try.prog 90 = some 8 := by kernel_rfl
@[go_sem] theorem ta90 : ta Try.prog 90 = some false := by kernel_rfl
@[go_sem] theorem tz90 : tz Try.prog 90 = some [.nilFunc] := by kernel_rfl
@[go_sem] theorem tpl90 : tpl Try.prog 90 = none := by kernel_rfl
@[go_sem] theorem tarr90 : tarr Try.prog 90 = none := by kernel_rfl
@[go_sem] theorem tn91 : tn Try.prog 91 = some 1 := by kernel_rfl
@[go_sem] theorem tb91 : tb Try.prog 91 = some 8 := by kernel_rfl
@[go_sem] theorem ta91 : ta Try.prog 91 = some false := by kernel_rfl
@[go_sem] theorem tz91 : tz Try.prog 91 = some [.nilFunc] := by kernel_rfl
@[go_sem] theorem tpl91 : tpl Try.prog 91 = none := by kernel_rfl
@[go_sem] theorem tarr91 : tarr Try.prog 91 = none := by kernel_rfl
@[go_sem] theorem tn92 : tn Try.prog 92 = some 1 := by kernel_rfl
@[go_sem] theorem tb92 : tb Try.prog 92 = some 8 := by kernel_rfl
@[go_sem] theorem ta92 : ta Try.prog 92 = some false := by kernel_rfl
@[go_sem] theorem tz92 : tz Try.prog 92 = some [.nilFunc] := by kernel_rfl
@[go_sem] theorem tpl92 : tpl Try.prog 92 = none := by kernel_rfl
@[go_sem] theorem tarr92 : tarr Try.prog 92 = none := by kernel_rfl
@[go_sem] theorem tn93 : tn Try.prog 93 = some 1 := by kernel_rfl
@[go_sem] theorem tb93 : tb Try.prog 93 = some 8 := by kernel_rfl
@[go_sem] theorem ta93 : ta Try.prog 93 = some false := by kernel_rfl
@[go_sem] theorem tz93 : tz Try.prog 93 = some [.nilFunc] := by kernel_rfl
@[go_sem] theorem tpl93 : tpl Try.prog 93 = none := by kernel_rfl
@[go_sem] theorem tarr93 : tarr Try.prog 93 = none := by kernel_rfl
@[go_sem] theorem tn94 : tn Try.prog 94 = some 1 := by kernel_rfl
@[go_sem] theorem tb94 : tb Try.prog 94 = some 24 := by kernel_rfl
@[go_sem] theorem ta94 : ta Try.prog 94 = some false := by kernel_rfl
@[go_sem] theorem tz94 : tz Try.prog 94 = some [.slice none 0 0] := by kernel_rfl
@[go_sem] theorem tpl94 : tpl Try.prog 94 = none := by kernel_rfl
@[go_sem] theorem tarr94 : tarr Try.prog 94 = none := by kernel_rfl
@[go_sem] theorem tsl94 : tsl Try.prog 94 = some 79 := by kernel_rfl
@[go_sem] theorem tstr94 : tstr Try.prog 94 = false := by kernel_rfl
@[go_sem] theorem tn95 : tn Try.prog 95 = some 1 := by kernel_rfl
@[go_sem] theorem tb95 : tb Try.prog 95 = some 8 := by kernel_rfl
@[go_sem] theorem ta95 : ta Try.prog 95 = some false := by kernel_rfl
@[go_sem] theorem tz95 : tz Try.prog 95 = some [.nilFunc] := by kernel_rfl
@[go_sem] theorem tpl95 : tpl Try.prog 95 = none := by kernel_rfl
@[go_sem] theorem tarr95 : tarr Try.prog 95 = none := by kernel_rfl
@[go_sem] theorem tn96 : tn Try.prog 96 = some 1 := by kernel_rfl
@[go_sem] theorem tb96 : tb Try.prog 96 = some 8 := by kernel_rfl
@[go_sem] theorem ta96 : ta Try.prog 96 = some false := by kernel_rfl
@[go_sem] theorem tz96 : tz Try.prog 96 = some [.nilFunc] := by kernel_rfl
@[go_sem] theorem tpl96 : tpl Try.prog 96 = none := by kernel_rfl
@[go_sem] theorem tarr96 : tarr Try.prog 96 = none := by kernel_rfl
@[go_sem] theorem tn97 : tn Try.prog 97 = some 1 := by kernel_rfl
@[go_sem] theorem tb97 : tb Try.prog 97 = some 8 := by kernel_rfl
@[go_sem] theorem ta97 : ta Try.prog 97 = some false := by kernel_rfl
@[go_sem] theorem tz97 : tz Try.prog 97 = some [.nilFunc] := by kernel_rfl
@[go_sem] theorem tpl97 : tpl Try.prog 97 = none := by kernel_rfl
@[go_sem] theorem tarr97 : tarr Try.prog 97 = none := by kernel_rfl
@[go_sem] theorem tn98 : tn Try.prog 98 = some 1 := by kernel_rfl
@[go_sem] theorem tb98 : tb Try.prog 98 = some 8 := by kernel_rfl
@[go_sem] theorem ta98 : ta Try.prog 98 = some false := by kernel_rfl
@[go_sem] theorem tz98 : tz Try.prog 98 = some [.nilFunc] := by kernel_rfl
@[go_sem] theorem tpl98 : tpl Try.prog 98 = none := by kernel_rfl
@[go_sem] theorem tarr98 : tarr Try.prog 98 = none := by kernel_rfl
@[go_sem] theorem tn99 : tn Try.prog 99 = some 1 := by kernel_rfl
@[go_sem] theorem tb99 : tb Try.prog 99 = some 8 := by kernel_rfl
@[go_sem] theorem ta99 : ta Try.prog 99 = some false := by kernel_rfl
@[go_sem] theorem tz99 : tz Try.prog 99 = some [.nilFunc] := by kernel_rfl
@[go_sem] theorem tpl99 : tpl Try.prog 99 = none := by kernel_rfl
@[go_sem] theorem tarr99 : tarr Try.prog 99 = none := by kernel_rfl
@[go_sem] theorem tn100 : tn Try.prog 100 = some 1 := by kernel_rfl
@[go_sem] theorem tb100 : tb Try.prog 100 = some 8 := by kernel_rfl
@[go_sem] theorem ta100 : ta Try.prog 100 = some false := by kernel_rfl
@[go_sem] theorem tz100 : tz Try.prog 100 = some [.nilFunc] := by kernel_rfl
@[go_sem] theorem tpl100 : tpl Try.prog 100 = none := by kernel_rfl
@[go_sem] theorem tarr100 : tarr Try.prog 100 = none := by kernel_rfl
@[go_sem] theorem tn101 : tn Try.prog 101 = some 8 := by kernel_rfl
@[go_sem] theorem tb101 : tb Try.prog 101 = some 64 := by kernel_rfl
@[go_sem] theorem ta101 : ta Try.prog 101 = some true := by kernel_rfl
@[go_sem] theorem tz101 : tz Try.prog 101 = some [.int .i64 0, .int .i64 0, .int .i64 0, .int .i64 0, .int .i64 0, .int .i64 0, .int .i64 0, .int .i64 0] := by kernel_rfl
@[go_sem] theorem tf101_0 : tf Try.prog 101 0 = some 0 := by kernel_rfl
@[go_sem] theorem tf101_1 : tf Try.prog 101 1 = some 1 := by kernel_rfl
@[go_sem] theorem tf101_2 : tf Try.prog 101 2 = some 3 := by kernel_rfl
@[go_sem] theorem tpl101 : tpl Try.prog 101 = some [(0, 1), (1, 2), (3, 5)] := by kernel_rfl
@[go_sem] theorem tfl101_0 : tfl Try.prog 101 0 = some (0, 3) := by kernel_rfl
@[go_sem] theorem tfl101_1 : tfl Try.prog 101 1 = some (1, 76) := by kernel_rfl
@[go_sem] theorem tfl101_2 : tfl Try.prog 101 2 = some (3, 48) := by kernel_rfl
@[go_sem] theorem teg101 : teg Try.prog 101 = false := by kernel_rfl
@[go_sem] theorem tflat101 : flat Try.prog 6 101 = some [some .i64, some .i64, some .i64, some .i64, some .i64, some .i64, some .i64, some .i64] := by kernel_rfl
@[go_sem] theorem tarr101 : tarr Try.prog 101 = none := by kernel_rfl
@[go_sem] theorem tn102 : tn Try.prog 102 = some 8 := by kernel_rfl
@[go_sem] theorem tb102 : tb Try.prog 102 = some 64 := by kernel_rfl
@[go_sem] theorem ta102 : ta Try.prog 102 = some true := by kernel_rfl
@[go_sem] theorem tz102 : tz Try.prog 102 = some [.int .i64 0, .int .i64 0, .int .i64 0, .int .i64 0, .int .i64 0, .int .i64 0, .int .i64 0, .int .i64 0] := by kernel_rfl
@[go_sem] theorem tf102_0 : tf Try.prog 102 0 = some 0 := by kernel_rfl
@[go_sem] theorem tf102_1 : tf Try.prog 102 1 = some 1 := by kernel_rfl
@[go_sem] theorem tf102_2 : tf Try.prog 102 2 = some 3 := by kernel_rfl
@[go_sem] theorem tpl102 : tpl Try.prog 102 = some [(0, 1), (1, 2), (3, 5)] := by kernel_rfl
@[go_sem] theorem tfl102_0 : tfl Try.prog 102 0 = some (0, 3) := by kernel_rfl
@[go_sem] theorem tfl102_1 : tfl Try.prog 102 1 = some (1, 76) := by kernel_rfl
@[go_sem] theorem tfl102_2 : tfl Try.prog 102 2 = some (3, 48) := by kernel_rfl
@[go_sem] theorem teg102 : teg Try.prog 102 = false := by kernel_rfl
@[go_sem] theorem tflat102 : flat Try.prog 6 102 = some [some .i64, some .i64, some .i64, some .i64, some .i64, some .i64, some .i64, some .i64] := by kernel_rfl
@[go_sem] theorem tarr102 : tarr Try.prog 102 = none := by kernel_rfl
@[go_sem] theorem tn104 : tn Try.prog 104 = some 1 := by kernel_rfl
@[go_sem] theorem tb104 : tb Try.prog 104 = some 8 := by kernel_rfl
@[go_sem] theorem ta104 : ta Try.prog 104 = some false := by kernel_rfl
@[go_sem] theorem tz104 : tz Try.prog 104 = some [.nilFunc] := by kernel_rfl
@[go_sem] theorem tpl104 : tpl Try.prog 104 = none := by kernel_rfl
@[go_sem] theorem tarr104 : tarr Try.prog 104 = none := by kernel_rfl
@[go_sem] theorem tn105 : tn Try.prog 105 = some 1 := by kernel_rfl
@[go_sem] theorem tb105 : tb Try.prog 105 = some 8 := by kernel_rfl
@[go_sem] theorem ta105 : ta Try.prog 105 = some false := by kernel_rfl
@[go_sem] theorem tz105 : tz Try.prog 105 = some [.nilFunc] := by kernel_rfl
@[go_sem] theorem tpl105 : tpl Try.prog 105 = none := by kernel_rfl
@[go_sem] theorem tarr105 : tarr Try.prog 105 = none := by kernel_rfl
@[go_sem] theorem tn107 : tn Try.prog 107 = some 1 := by kernel_rfl
@[go_sem] theorem tb107 : tb Try.prog 107 = some 8 := by kernel_rfl
@[go_sem] theorem ta107 : ta Try.prog 107 = some false := by kernel_rfl
@[go_sem] theorem tz107 : tz Try.prog 107 = some [.nilFunc] := by kernel_rfl
@[go_sem] theorem tpl107 : tpl Try.prog 107 = none := by kernel_rfl
@[go_sem] theorem tarr107 : tarr Try.prog 107 = none := by kernel_rfl
@[go_sem] theorem tn108 : tn Try.prog 108 = some 1 := by kernel_rfl
@[go_sem] theorem tb108 : tb Try.prog 108 = some 8 := by kernel_rfl
@[go_sem] theorem ta108 : ta Try.prog 108 = some false := by kernel_rfl
@[go_sem] theorem tz108 : tz Try.prog 108 = some [.nilFunc] := by kernel_rfl
@[go_sem] theorem tpl108 : tpl Try.prog 108 = none := by kernel_rfl
@[go_sem] theorem tarr108 : tarr Try.prog 108 = none := by kernel_rfl
@[go_sem] theorem tn109 : tn Try.prog 109 = some 1 := by kernel_rfl
@[go_sem] theorem tb109 : tb Try.prog 109 = some 8 := by kernel_rfl
@[go_sem] theorem ta109 : ta Try.prog 109 = some false := by kernel_rfl
@[go_sem] theorem tz109 : tz Try.prog 109 = some [.nilFunc] := by kernel_rfl
@[go_sem] theorem tpl109 : tpl Try.prog 109 = none := by kernel_rfl
@[go_sem] theorem tarr109 : tarr Try.prog 109 = none := by kernel_rfl
@[go_sem] theorem tn110 : tn Try.prog 110 = some 1 := by kernel_rfl
@[go_sem] theorem tb110 : tb Try.prog 110 = some 8 := by kernel_rfl
@[go_sem] theorem ta110 : ta Try.prog 110 = some false := by kernel_rfl
@[go_sem] theorem tz110 : tz Try.prog 110 = some [.nilFunc] := by kernel_rfl
@[go_sem] theorem tpl110 : tpl Try.prog 110 = none := by kernel_rfl
@[go_sem] theorem tarr110 : tarr Try.prog 110 = none := by kernel_rfl
@[go_sem] theorem tn111 : tn Try.prog 111 = some 1 := by kernel_rfl
@[go_sem] theorem tb111 : tb Try.prog 111 = some 8 := by kernel_rfl
@[go_sem] theorem ta111 : ta Try.prog 111 = some false := by kernel_rfl
@[go_sem] theorem tz111 : tz Try.prog 111 = some [.nilFunc] := by kernel_rfl
@[go_sem] theorem tpl111 : tpl Try.prog 111 = none := by kernel_rfl
@[go_sem] theorem tarr111 : tarr Try.prog 111 = none := by kernel_rfl
@[go_sem] theorem tn113 : tn Try.prog 113 = some 1 := by kernel_rfl
@[go_sem] theorem tb113 : tb Try.prog 113 = some 8 := by kernel_rfl
@[go_sem] theorem ta113 : ta Try.prog 113 = some false := by kernel_rfl
@[go_sem] theorem tz113 : tz Try.prog 113 = some [.nilFunc] := by kernel_rfl
@[go_sem] theorem tpl113 : tpl Try.prog 113 = none := by kernel_rfl
@[go_sem] theorem tarr113 : tarr Try.prog 113 = none := by kernel_rfl
@[go_sem] theorem tn114 : tn Try.prog 114 = some 1 := by kernel_rfl
@[go_sem] theorem tb114 : tb Try.prog 114 = some 8 := by kernel_rfl
@[go_sem] theorem ta114 : ta Try.prog 114 = some false := by kernel_rfl
@[go_sem] theorem tz114 : tz Try.prog 114 = some [.nilFunc] := by kernel_rfl
@[go_sem] theorem tpl114 : tpl Try.prog 114 = none := by kernel_rfl
@[go_sem] theorem tarr114 : tarr Try.prog 114 = none := by kernel_rfl
@[go_sem] theorem tn115 : tn Try.prog 115 = some 1 := by kernel_rfl
@[go_sem] theorem tb115 : tb Try.prog 115 = some 24 := by kernel_rfl
@[go_sem] theorem ta115 : ta Try.prog 115 = some false := by kernel_rfl
@[go_sem] theorem tz115 : tz Try.prog 115 = some [.slice none 0 0] := by kernel_rfl
@[go_sem] theorem tpl115 : tpl Try.prog 115 = none := by kernel_rfl
@[go_sem] theorem tarr115 : tarr Try.prog 115 = none := by kernel_rfl
@[go_sem] theorem tsl115 : tsl Try.prog 115 = some 121 := by kernel_rfl
@[go_sem] theorem tstr115 : tstr Try.prog 115 = false := by kernel_rfl
@[go_sem] theorem tn117 : tn Try.prog 117 = some 1 := by kernel_rfl
@[go_sem] theorem tb117 : tb Try.prog 117 = some 8 := by kernel_rfl
@[go_sem] theorem ta117 : ta Try.prog 117 = some false := by kernel_rfl
@[go_sem] theorem tz117 : tz Try.prog 117 = some [.nilFunc] := by kernel_rfl
@[go_sem] theorem tpl117 : tpl Try.prog 117 = none := by kernel_rfl
@[go_sem] theorem tarr117 : tarr Try.prog 117 = none := by kernel_rfl
@[go_sem] theorem tn118 : tn Try.prog 118 = some 1 := by kernel_rfl
@[go_sem] theorem tb118 : tb Try.prog 118 = some 8 := by kernel_rfl
@[go_sem] theorem ta118 : ta Try.prog 118 = some false := by kernel_rfl
@[go_sem] theorem tz118 : tz Try.prog 118 = some [.pointer none] := by kernel_rfl
@[go_sem] theorem tpl118 : tpl Try.prog 118 = none := by kernel_rfl
@[go_sem] theorem tarr118 : tarr Try.prog 118 = none := by kernel_rfl
@[go_sem] theorem tn119 : tn Try.prog 119 = some 1 := by kernel_rfl
@[go_sem] theorem tb119 : tb Try.prog 119 = some 8 := by kernel_rfl
@[go_sem] theorem ta119 : ta Try.prog 119 = some false := by kernel_rfl
@[go_sem] theorem tz119 : tz Try.prog 119 = some [.pointer none] := by kernel_rfl
@[go_sem] theorem tpl119 : tpl Try.prog 119 = none := by kernel_rfl
@[go_sem] theorem tarr119 : tarr Try.prog 119 = none := by kernel_rfl
@[go_sem] theorem tn120 : tn Try.prog 120 = some 2 := by kernel_rfl
@[go_sem] theorem tb120 : tb Try.prog 120 = some 16 := by kernel_rfl
@[go_sem] theorem ta120 : ta Try.prog 120 = some true := by kernel_rfl
@[go_sem] theorem tz120 : tz Try.prog 120 = some [.pointer none, .int .i64 0] := by kernel_rfl
@[go_sem] theorem tf120_0 : tf Try.prog 120 0 = some 0 := by kernel_rfl
@[go_sem] theorem tf120_1 : tf Try.prog 120 1 = some 1 := by kernel_rfl
@[go_sem] theorem tpl120 : tpl Try.prog 120 = some [(0, 1), (1, 1)] := by kernel_rfl
@[go_sem] theorem tfl120_0 : tfl Try.prog 120 0 = some (0, 119) := by kernel_rfl
@[go_sem] theorem tfl120_1 : tfl Try.prog 120 1 = some (1, 3) := by kernel_rfl
@[go_sem] theorem teg120 : teg Try.prog 120 = false := by kernel_rfl
@[go_sem] theorem tarr120 : tarr Try.prog 120 = none := by kernel_rfl
@[go_sem] theorem tn121 : tn Try.prog 121 = some 2 := by kernel_rfl
@[go_sem] theorem tb121 : tb Try.prog 121 = some 16 := by kernel_rfl
@[go_sem] theorem ta121 : ta Try.prog 121 = some true := by kernel_rfl
@[go_sem] theorem tz121 : tz Try.prog 121 = some [.pointer none, .int .i64 0] := by kernel_rfl
@[go_sem] theorem tf121_0 : tf Try.prog 121 0 = some 0 := by kernel_rfl
@[go_sem] theorem tf121_1 : tf Try.prog 121 1 = some 1 := by kernel_rfl
@[go_sem] theorem tpl121 : tpl Try.prog 121 = some [(0, 1), (1, 1)] := by kernel_rfl
@[go_sem] theorem tfl121_0 : tfl Try.prog 121 0 = some (0, 119) := by kernel_rfl
@[go_sem] theorem tfl121_1 : tfl Try.prog 121 1 = some (1, 3) := by kernel_rfl
@[go_sem] theorem teg121 : teg Try.prog 121 = false := by kernel_rfl
@[go_sem] theorem tarr121 : tarr Try.prog 121 = none := by kernel_rfl
@[go_sem] theorem tn123 : tn Try.prog 123 = some 1 := by kernel_rfl
@[go_sem] theorem tb123 : tb Try.prog 123 = some 8 := by kernel_rfl
@[go_sem] theorem ta123 : ta Try.prog 123 = some false := by kernel_rfl
@[go_sem] theorem tz123 : tz Try.prog 123 = some [.nilFunc] := by kernel_rfl
@[go_sem] theorem tpl123 : tpl Try.prog 123 = none := by kernel_rfl
@[go_sem] theorem tarr123 : tarr Try.prog 123 = none := by kernel_rfl
@[go_sem] theorem tn124 : tn Try.prog 124 = some 5 := by kernel_rfl
@[go_sem] theorem tb124 : tb Try.prog 124 = some 40 := by kernel_rfl
@[go_sem] theorem ta124 : ta Try.prog 124 = some true := by kernel_rfl
@[go_sem] theorem tz124 : tz Try.prog 124 = some [.pointer none, .pointer none, .pointer none, .pointer none, .pointer none] := by kernel_rfl
@[go_sem] theorem tpl124 : tpl Try.prog 124 = none := by kernel_rfl
@[go_sem] theorem teg124 : teg Try.prog 124 = false := by kernel_rfl
@[go_sem] theorem tarr124 : tarr Try.prog 124 = some (5, 119) := by kernel_rfl
@[go_sem] theorem tsl124 : tsl Try.prog 124 = none := by kernel_rfl
@[go_sem] theorem tstr124 : tstr Try.prog 124 = false := by kernel_rfl
@[go_sem] theorem tn125 : tn Try.prog 125 = some 1 := by kernel_rfl
@[go_sem] theorem tb125 : tb Try.prog 125 = some 8 := by kernel_rfl
@[go_sem] theorem ta125 : ta Try.prog 125 = some false := by kernel_rfl
@[go_sem] theorem tz125 : tz Try.prog 125 = some [.nilFunc] := by kernel_rfl
@[go_sem] theorem tpl125 : tpl Try.prog 125 = none := by kernel_rfl
@[go_sem] theorem tarr125 : tarr Try.prog 125 = none := by kernel_rfl
@[go_sem] theorem tn126 : tn Try.prog 126 = some 1 := by kernel_rfl
@[go_sem] theorem tb126 : tb Try.prog 126 = some 8 := by kernel_rfl
@[go_sem] theorem ta126 : ta Try.prog 126 = some false := by kernel_rfl
@[go_sem] theorem tz126 : tz Try.prog 126 = some [.pointer none] := by kernel_rfl
@[go_sem] theorem tpl126 : tpl Try.prog 126 = none := by kernel_rfl
@[go_sem] theorem tarr126 : tarr Try.prog 126 = none := by kernel_rfl
@[go_sem] theorem tn127 : tn Try.prog 127 = some 1 := by kernel_rfl
@[go_sem] theorem tb127 : tb Try.prog 127 = some 8 := by kernel_rfl
@[go_sem] theorem ta127 : ta Try.prog 127 = some false := by kernel_rfl
@[go_sem] theorem tz127 : tz Try.prog 127 = some [.nilFunc] := by kernel_rfl
@[go_sem] theorem tpl127 : tpl Try.prog 127 = none := by kernel_rfl
@[go_sem] theorem tarr127 : tarr Try.prog 127 = none := by kernel_rfl
@[go_sem] theorem tn128 : tn Try.prog 128 = some 1 := by kernel_rfl
@[go_sem] theorem tb128 : tb Try.prog 128 = some 8 := by kernel_rfl
@[go_sem] theorem ta128 : ta Try.prog 128 = some false := by kernel_rfl
@[go_sem] theorem tz128 : tz Try.prog 128 = some [.nilFunc] := by kernel_rfl
@[go_sem] theorem tpl128 : tpl Try.prog 128 = none := by kernel_rfl
@[go_sem] theorem tarr128 : tarr Try.prog 128 = none := by kernel_rfl
@[go_sem] theorem tn129 : tn Try.prog 129 = some 1 := by kernel_rfl
@[go_sem] theorem tb129 : tb Try.prog 129 = some 8 := by kernel_rfl
@[go_sem] theorem ta129 : ta Try.prog 129 = some false := by kernel_rfl
@[go_sem] theorem tz129 : tz Try.prog 129 = some [.int .u64 0] := by kernel_rfl
@[go_sem] theorem tpl129 : tpl Try.prog 129 = none := by kernel_rfl
@[go_sem] theorem tarr129 : tarr Try.prog 129 = none := by kernel_rfl
@[go_sem] theorem tint129 : tint Try.prog 129 = some .u64 := by kernel_rfl
@[go_sem] theorem tn130 : tn Try.prog 130 = some 1 := by kernel_rfl
@[go_sem] theorem tb130 : tb Try.prog 130 = some 8 := by kernel_rfl
@[go_sem] theorem ta130 : ta Try.prog 130 = some false := by kernel_rfl
@[go_sem] theorem tz130 : tz Try.prog 130 = some [.nilFunc] := by kernel_rfl
@[go_sem] theorem tpl130 : tpl Try.prog 130 = none := by kernel_rfl
@[go_sem] theorem tarr130 : tarr Try.prog 130 = none := by kernel_rfl
@[go_sem] theorem tn131 : tn Try.prog 131 = some 1 := by kernel_rfl
@[go_sem] theorem tb131 : tb Try.prog 131 = some 8 := by kernel_rfl
@[go_sem] theorem ta131 : ta Try.prog 131 = some false := by kernel_rfl
@[go_sem] theorem tz131 : tz Try.prog 131 = some [.nilFunc] := by kernel_rfl
@[go_sem] theorem tpl131 : tpl Try.prog 131 = none := by kernel_rfl
@[go_sem] theorem tarr131 : tarr Try.prog 131 = none := by kernel_rfl
@[go_sem] theorem tn132 : tn Try.prog 132 = some 64 := by kernel_rfl
@[go_sem] theorem tb132 : tb Try.prog 132 = some 64 := by kernel_rfl
@[go_sem] theorem ta132 : ta Try.prog 132 = some true := by kernel_rfl
@[go_sem] theorem tz132 : tz Try.prog 132 = some [.int .u8 0, .int .u8 0, .int .u8 0, .int .u8 0, .int .u8 0, .int .u8 0, .int .u8 0, .int .u8 0, .int .u8 0, .int .u8 0, .int .u8 0, .int .u8 0, .int .u8 0, .int .u8 0, .int .u8 0, .int .u8 0, .int .u8 0, .int .u8 0, .int .u8 0, .int .u8 0, .int .u8 0, .int .u8 0, .int .u8 0, .int .u8 0, .int .u8 0, .int .u8 0, .int .u8 0, .int .u8 0, .int .u8 0, .int .u8 0, .int .u8 0, .int .u8 0, .int .u8 0, .int .u8 0, .int .u8 0, .int .u8 0, .int .u8 0, .int .u8 0, .int .u8 0, .int .u8 0, .int .u8 0, .int .u8 0, .int .u8 0, .int .u8 0, .int .u8 0, .int .u8 0, .int .u8 0, .int .u8 0, .int .u8 0, .int .u8 0, .int .u8 0, .int .u8 0, .int .u8 0, .int .u8 0, .int .u8 0, .int .u8 0, .int .u8 0, .int .u8 0, .int .u8 0, .int .u8 0, .int .u8 0, .int .u8 0, .int .u8 0, .int .u8 0] := by kernel_rfl
@[go_sem] theorem tpl132 : tpl Try.prog 132 = none := by kernel_rfl
@[go_sem] theorem teg132 : teg Try.prog 132 = false := by kernel_rfl
@[go_sem] theorem tflat132 : flat Try.prog 6 132 = some [some .u8, some .u8, some .u8, some .u8, some .u8, some .u8, some .u8, some .u8, some .u8, some .u8, some .u8, some .u8, some .u8, some .u8, some .u8, some .u8, some .u8, some .u8, some .u8, some .u8, some .u8, some .u8, some .u8, some .u8, some .u8, some .u8, some .u8, some .u8, some .u8, some .u8, some .u8, some .u8, some .u8, some .u8, some .u8, some .u8, some .u8, some .u8, some .u8, some .u8, some .u8, some .u8, some .u8, some .u8, some .u8, some .u8, some .u8, some .u8, some .u8, some .u8, some .u8, some .u8, some .u8, some .u8, some .u8, some .u8, some .u8, some .u8, some .u8, some .u8, some .u8, some .u8, some .u8, some .u8] := by kernel_rfl
@[go_sem] theorem tarr132 : tarr Try.prog 132 = some (64, 5) := by kernel_rfl
@[go_sem] theorem tsl132 : tsl Try.prog 132 = none := by kernel_rfl
@[go_sem] theorem tstr132 : tstr Try.prog 132 = false := by kernel_rfl
@[go_sem] theorem tn133 : tn Try.prog 133 = some 1 := by kernel_rfl
@[go_sem] theorem tb133 : tb Try.prog 133 = some 8 := by kernel_rfl
@[go_sem] theorem ta133 : ta Try.prog 133 = some false := by kernel_rfl
@[go_sem] theorem tz133 : tz Try.prog 133 = some [.nilFunc] := by kernel_rfl
@[go_sem] theorem tpl133 : tpl Try.prog 133 = none := by kernel_rfl
@[go_sem] theorem tarr133 : tarr Try.prog 133 = none := by kernel_rfl
@[go_sem] theorem tn134 : tn Try.prog 134 = some 1 := by kernel_rfl
@[go_sem] theorem tb134 : tb Try.prog 134 = some 4 := by kernel_rfl
@[go_sem] theorem ta134 : ta Try.prog 134 = some false := by kernel_rfl
@[go_sem] theorem tz134 : tz Try.prog 134 = some [.int .u32 0] := by kernel_rfl
@[go_sem] theorem tpl134 : tpl Try.prog 134 = none := by kernel_rfl
@[go_sem] theorem tarr134 : tarr Try.prog 134 = none := by kernel_rfl
@[go_sem] theorem tint134 : tint Try.prog 134 = some .u32 := by kernel_rfl
@[go_sem] theorem tn135 : tn Try.prog 135 = some 1 := by kernel_rfl
@[go_sem] theorem tb135 : tb Try.prog 135 = some 8 := by kernel_rfl
@[go_sem] theorem ta135 : ta Try.prog 135 = some false := by kernel_rfl
@[go_sem] theorem tz135 : tz Try.prog 135 = some [.nilFunc] := by kernel_rfl
@[go_sem] theorem tpl135 : tpl Try.prog 135 = none := by kernel_rfl
@[go_sem] theorem tarr135 : tarr Try.prog 135 = none := by kernel_rfl
@[go_sem] theorem tn136 : tn Try.prog 136 = some 1 := by kernel_rfl
@[go_sem] theorem tb136 : tb Try.prog 136 = some 8 := by kernel_rfl
@[go_sem] theorem ta136 : ta Try.prog 136 = some false := by kernel_rfl
@[go_sem] theorem tz136 : tz Try.prog 136 = some [.nilFunc] := by kernel_rfl
@[go_sem] theorem tpl136 : tpl Try.prog 136 = none := by kernel_rfl
@[go_sem] theorem tarr136 : tarr Try.prog 136 = none := by kernel_rfl
@[go_sem] theorem tn137 : tn Try.prog 137 = some 1 := by kernel_rfl
@[go_sem] theorem tb137 : tb Try.prog 137 = some 8 := by kernel_rfl
@[go_sem] theorem ta137 : ta Try.prog 137 = some false := by kernel_rfl
@[go_sem] theorem tz137 : tz Try.prog 137 = some [.pointer none] := by kernel_rfl
@[go_sem] theorem tpl137 : tpl Try.prog 137 = none := by kernel_rfl
@[go_sem] theorem tarr137 : tarr Try.prog 137 = none := by kernel_rfl
@[go_sem] theorem tn138 : tn Try.prog 138 = some 1 := by kernel_rfl
@[go_sem] theorem tb138 : tb Try.prog 138 = some 8 := by kernel_rfl
@[go_sem] theorem ta138 : ta Try.prog 138 = some false := by kernel_rfl
@[go_sem] theorem tz138 : tz Try.prog 138 = some [.nilFunc] := by kernel_rfl
@[go_sem] theorem tpl138 : tpl Try.prog 138 = none := by kernel_rfl
@[go_sem] theorem tarr138 : tarr Try.prog 138 = none := by kernel_rfl
@[go_sem] theorem tn139 : tn Try.prog 139 = some 1 := by kernel_rfl
@[go_sem] theorem tb139 : tb Try.prog 139 = some 8 := by kernel_rfl
@[go_sem] theorem ta139 : ta Try.prog 139 = some false := by kernel_rfl
@[go_sem] theorem tz139 : tz Try.prog 139 = some [.nilFunc] := by kernel_rfl
@[go_sem] theorem tpl139 : tpl Try.prog 139 = none := by kernel_rfl
@[go_sem] theorem tarr139 : tarr Try.prog 139 = none := by kernel_rfl
@[go_sem] theorem tn140 : tn Try.prog 140 = some 1 := by kernel_rfl
@[go_sem] theorem tb140 : tb Try.prog 140 = some 8 := by kernel_rfl
@[go_sem] theorem ta140 : ta Try.prog 140 = some false := by kernel_rfl
@[go_sem] theorem tz140 : tz Try.prog 140 = some [.nilFunc] := by kernel_rfl
@[go_sem] theorem tpl140 : tpl Try.prog 140 = none := by kernel_rfl
@[go_sem] theorem tarr140 : tarr Try.prog 140 = none := by kernel_rfl
@[go_sem] theorem tn141 : tn Try.prog 141 = some 1 := by kernel_rfl
@[go_sem] theorem tb141 : tb Try.prog 141 = some 8 := by kernel_rfl
@[go_sem] theorem ta141 : ta Try.prog 141 = some false := by kernel_rfl
@[go_sem] theorem tz141 : tz Try.prog 141 = some [.nilFunc] := by kernel_rfl
@[go_sem] theorem tpl141 : tpl Try.prog 141 = none := by kernel_rfl
@[go_sem] theorem tarr141 : tarr Try.prog 141 = none := by kernel_rfl
@[go_sem] theorem tn142 : tn Try.prog 142 = some 1 := by kernel_rfl
@[go_sem] theorem tb142 : tb Try.prog 142 = some 8 := by kernel_rfl
@[go_sem] theorem ta142 : ta Try.prog 142 = some false := by kernel_rfl
@[go_sem] theorem tz142 : tz Try.prog 142 = some [.nilFunc] := by kernel_rfl
@[go_sem] theorem tpl142 : tpl Try.prog 142 = none := by kernel_rfl
@[go_sem] theorem tarr142 : tarr Try.prog 142 = none := by kernel_rfl
@[go_sem] theorem tn143 : tn Try.prog 143 = some 1 := by kernel_rfl
@[go_sem] theorem tb143 : tb Try.prog 143 = some 8 := by kernel_rfl
@[go_sem] theorem ta143 : ta Try.prog 143 = some false := by kernel_rfl
@[go_sem] theorem tz143 : tz Try.prog 143 = some [.map none] := by kernel_rfl
@[go_sem] theorem tpl143 : tpl Try.prog 143 = none := by kernel_rfl
@[go_sem] theorem tarr143 : tarr Try.prog 143 = none := by kernel_rfl
@[go_sem] theorem tn144 : tn Try.prog 144 = some 1 := by kernel_rfl
@[go_sem] theorem tb144 : tb Try.prog 144 = some 8 := by kernel_rfl
@[go_sem] theorem ta144 : ta Try.prog 144 = some false := by kernel_rfl
@[go_sem] theorem tz144 : tz Try.prog 144 = some [.nilFunc] := by kernel_rfl
@[go_sem] theorem tpl144 : tpl Try.prog 144 = none := by kernel_rfl
@[go_sem] theorem tarr144 : tarr Try.prog 144 = none := by kernel_rfl
@[go_sem] theorem tn145 : tn Try.prog 145 = some 1 := by kernel_rfl
@[go_sem] theorem tb145 : tb Try.prog 145 = some 8 := by kernel_rfl
@[go_sem] theorem ta145 : ta Try.prog 145 = some false := by kernel_rfl
@[go_sem] theorem tz145 : tz Try.prog 145 = some [.nilFunc] := by kernel_rfl
@[go_sem] theorem tpl145 : tpl Try.prog 145 = none := by kernel_rfl
@[go_sem] theorem tarr145 : tarr Try.prog 145 = none := by kernel_rfl
@[go_sem] theorem tn146 : tn Try.prog 146 = some 1 := by kernel_rfl
@[go_sem] theorem tb146 : tb Try.prog 146 = some 8 := by kernel_rfl
@[go_sem] theorem ta146 : ta Try.prog 146 = some false := by kernel_rfl
@[go_sem] theorem tz146 : tz Try.prog 146 = some [.nilFunc] := by kernel_rfl
@[go_sem] theorem tpl146 : tpl Try.prog 146 = none := by kernel_rfl
@[go_sem] theorem tarr146 : tarr Try.prog 146 = none := by kernel_rfl
@[go_sem] theorem tn148 : tn Try.prog 148 = some 1 := by kernel_rfl
@[go_sem] theorem tb148 : tb Try.prog 148 = some 8 := by kernel_rfl
@[go_sem] theorem ta148 : ta Try.prog 148 = some false := by kernel_rfl
@[go_sem] theorem tz148 : tz Try.prog 148 = some [.nilFunc] := by kernel_rfl
@[go_sem] theorem tpl148 : tpl Try.prog 148 = none := by kernel_rfl
@[go_sem] theorem tarr148 : tarr Try.prog 148 = none := by kernel_rfl
@[go_sem] theorem tn149 : tn Try.prog 149 = some 1 := by kernel_rfl
@[go_sem] theorem tb149 : tb Try.prog 149 = some 8 := by kernel_rfl
@[go_sem] theorem ta149 : ta Try.prog 149 = some false := by kernel_rfl
@[go_sem] theorem tz149 : tz Try.prog 149 = some [.nilFunc] := by kernel_rfl
@[go_sem] theorem tpl149 : tpl Try.prog 149 = none := by kernel_rfl
@[go_sem] theorem tarr149 : tarr Try.prog 149 = none := by kernel_rfl
@[go_sem] theorem tn150 : tn Try.prog 150 = some 1 := by kernel_rfl
@[go_sem] theorem tb150 : tb Try.prog 150 = some 8 := by kernel_rfl
@[go_sem] theorem ta150 : ta Try.prog 150 = some false := by kernel_rfl
@[go_sem] theorem tz150 : tz Try.prog 150 = some [.nilFunc] := by kernel_rfl
@[go_sem] theorem tpl150 : tpl Try.prog 150 = none := by kernel_rfl
@[go_sem] theorem tarr150 : tarr Try.prog 150 = none := by kernel_rfl
@[go_sem] theorem tn151 : tn Try.prog 151 = some 1 := by kernel_rfl
@[go_sem] theorem tb151 : tb Try.prog 151 = some 8 := by kernel_rfl
@[go_sem] theorem ta151 : ta Try.prog 151 = some false := by kernel_rfl
@[go_sem] theorem tz151 : tz Try.prog 151 = some [.nilFunc] := by kernel_rfl
@[go_sem] theorem tpl151 : tpl Try.prog 151 = none := by kernel_rfl
@[go_sem] theorem tarr151 : tarr Try.prog 151 = none := by kernel_rfl
@[go_sem] theorem tn152 : tn Try.prog 152 = some 1 := by kernel_rfl
@[go_sem] theorem tb152 : tb Try.prog 152 = some 8 := by kernel_rfl
@[go_sem] theorem ta152 : ta Try.prog 152 = some false := by kernel_rfl
@[go_sem] theorem tz152 : tz Try.prog 152 = some [.nilFunc] := by kernel_rfl
@[go_sem] theorem tpl152 : tpl Try.prog 152 = none := by kernel_rfl
@[go_sem] theorem tarr152 : tarr Try.prog 152 = none := by kernel_rfl
@[go_sem] theorem tn153 : tn Try.prog 153 = some 1 := by kernel_rfl
@[go_sem] theorem tb153 : tb Try.prog 153 = some 8 := by kernel_rfl
@[go_sem] theorem ta153 : ta Try.prog 153 = some false := by kernel_rfl
@[go_sem] theorem tz153 : tz Try.prog 153 = some [.nilFunc] := by kernel_rfl
@[go_sem] theorem tpl153 : tpl Try.prog 153 = none := by kernel_rfl
@[go_sem] theorem tarr153 : tarr Try.prog 153 = none := by kernel_rfl
@[go_sem] theorem tn154 : tn Try.prog 154 = some 16 := by kernel_rfl
@[go_sem] theorem tb154 : tb Try.prog 154 = some 64 := by kernel_rfl
@[go_sem] theorem ta154 : ta Try.prog 154 = some true := by kernel_rfl
@[go_sem] theorem tz154 : tz Try.prog 154 = some [.int .u32 0, .int .u32 0, .int .u32 0, .int .u32 0, .int .u32 0, .int .u32 0, .int .u32 0, .int .u32 0, .int .u32 0, .int .u32 0, .int .u32 0, .int .u32 0, .int .u32 0, .int .u32 0, .int .u32 0, .int .u32 0] := by kernel_rfl
@[go_sem] theorem tpl154 : tpl Try.prog 154 = none := by kernel_rfl
@[go_sem] theorem teg154 : teg Try.prog 154 = false := by kernel_rfl
@[go_sem] theorem tflat154 : flat Try.prog 6 154 = some [some .u32, some .u32, some .u32, some .u32, some .u32, some .u32, some .u32, some .u32, some .u32, some .u32, some .u32, some .u32, some .u32, some .u32, some .u32, some .u32] := by kernel_rfl
@[go_sem] theorem tarr154 : tarr Try.prog 154 = some (16, 134) := by kernel_rfl
@[go_sem] theorem tsl154 : tsl Try.prog 154 = none := by kernel_rfl
@[go_sem] theorem tstr154 : tstr Try.prog 154 = false := by kernel_rfl
@[go_sem] theorem tn155 : tn Try.prog 155 = some 16 := by kernel_rfl
@[go_sem] theorem tb155 : tb Try.prog 155 = some 64 := by kernel_rfl
@[go_sem] theorem ta155 : ta Try.prog 155 = some true := by kernel_rfl
@[go_sem] theorem tz155 : tz Try.prog 155 = some [.int .u32 0, .int .u32 0, .int .u32 0, .int .u32 0, .int .u32 0, .int .u32 0, .int .u32 0, .int .u32 0, .int .u32 0, .int .u32 0, .int .u32 0, .int .u32 0, .int .u32 0, .int .u32 0, .int .u32 0, .int .u32 0] := by kernel_rfl
@[go_sem] theorem tpl155 : tpl Try.prog 155 = none := by kernel_rfl
@[go_sem] theorem teg155 : teg Try.prog 155 = false := by kernel_rfl
@[go_sem] theorem tflat155 : flat Try.prog 6 155 = some [some .u32, some .u32, some .u32, some .u32, some .u32, some .u32, some .u32, some .u32, some .u32, some .u32, some .u32, some .u32, some .u32, some .u32, some .u32, some .u32] := by kernel_rfl
@[go_sem] theorem tarr155 : tarr Try.prog 155 = some (16, 134) := by kernel_rfl
@[go_sem] theorem tsl155 : tsl Try.prog 155 = none := by kernel_rfl
@[go_sem] theorem tstr155 : tstr Try.prog 155 = false := by kernel_rfl
@[go_sem] theorem tn156 : tn Try.prog 156 = some 1 := by kernel_rfl
@[go_sem] theorem tb156 : tb Try.prog 156 = some 8 := by kernel_rfl
@[go_sem] theorem ta156 : ta Try.prog 156 = some false := by kernel_rfl
@[go_sem] theorem tz156 : tz Try.prog 156 = some [.nilFunc] := by kernel_rfl
@[go_sem] theorem tpl156 : tpl Try.prog 156 = none := by kernel_rfl
@[go_sem] theorem tarr156 : tarr Try.prog 156 = none := by kernel_rfl
@[go_sem] theorem tn157 : tn Try.prog 157 = some 1 := by kernel_rfl
@[go_sem] theorem tb157 : tb Try.prog 157 = some 8 := by kernel_rfl
@[go_sem] theorem ta157 : ta Try.prog 157 = some false := by kernel_rfl
@[go_sem] theorem tz157 : tz Try.prog 157 = some [.nilFunc] := by kernel_rfl
@[go_sem] theorem tpl157 : tpl Try.prog 157 = none := by kernel_rfl
@[go_sem] theorem tarr157 : tarr Try.prog 157 = none := by kernel_rfl
@[go_sem] theorem tn158 : tn Try.prog 158 = some 1 := by kernel_rfl
@[go_sem] theorem tb158 : tb Try.prog 158 = some 8 := by kernel_rfl
@[go_sem] theorem ta158 : ta Try.prog 158 = some false := by kernel_rfl
@[go_sem] theorem tz158 : tz Try.prog 158 = some [.nilFunc] := by kernel_rfl
@[go_sem] theorem tpl158 : tpl Try.prog 158 = none := by kernel_rfl
@[go_sem] theorem tarr158 : tarr Try.prog 158 = none := by kernel_rfl
@[go_sem] theorem tn159 : tn Try.prog 159 = some 1 := by kernel_rfl
@[go_sem] theorem tb159 : tb Try.prog 159 = some 8 := by kernel_rfl
@[go_sem] theorem ta159 : ta Try.prog 159 = some false := by kernel_rfl
@[go_sem] theorem tz159 : tz Try.prog 159 = some [.nilFunc] := by kernel_rfl
@[go_sem] theorem tpl159 : tpl Try.prog 159 = none := by kernel_rfl
@[go_sem] theorem tarr159 : tarr Try.prog 159 = none := by kernel_rfl
@[go_sem] theorem tn160 : tn Try.prog 160 = some 1 := by kernel_rfl
@[go_sem] theorem tb160 : tb Try.prog 160 = some 8 := by kernel_rfl
@[go_sem] theorem ta160 : ta Try.prog 160 = some false := by kernel_rfl
@[go_sem] theorem tz160 : tz Try.prog 160 = some [.nilFunc] := by kernel_rfl
@[go_sem] theorem tpl160 : tpl Try.prog 160 = none := by kernel_rfl
@[go_sem] theorem tarr160 : tarr Try.prog 160 = none := by kernel_rfl
@[go_sem] theorem tn161 : tn Try.prog 161 = some 4 := by kernel_rfl
@[go_sem] theorem tb161 : tb Try.prog 161 = some 32 := by kernel_rfl
@[go_sem] theorem ta161 : ta Try.prog 161 = some true := by kernel_rfl
@[go_sem] theorem tz161 : tz Try.prog 161 = some [.int .i64 0, .int .i64 0, .int .i64 0, .int .i64 0] := by kernel_rfl
@[go_sem] theorem tpl161 : tpl Try.prog 161 = none := by kernel_rfl
@[go_sem] theorem teg161 : teg Try.prog 161 = false := by kernel_rfl
@[go_sem] theorem tflat161 : flat Try.prog 6 161 = some [some .i64, some .i64, some .i64, some .i64] := by kernel_rfl
@[go_sem] theorem tarr161 : tarr Try.prog 161 = some (4, 3) := by kernel_rfl
@[go_sem] theorem tsl161 : tsl Try.prog 161 = none := by kernel_rfl
@[go_sem] theorem tstr161 : tstr Try.prog 161 = false := by kernel_rfl
@[go_sem] theorem tn162 : tn Try.prog 162 = some 3 := by kernel_rfl
@[go_sem] theorem tb162 : tb Try.prog 162 = some 24 := by kernel_rfl
@[go_sem] theorem ta162 : ta Try.prog 162 = some true := by kernel_rfl
@[go_sem] theorem tz162 : tz Try.prog 162 = some [.int .i64 0, .int .i64 0, .int .i64 0] := by kernel_rfl
@[go_sem] theorem tpl162 : tpl Try.prog 162 = none := by kernel_rfl
@[go_sem] theorem teg162 : teg Try.prog 162 = false := by kernel_rfl
@[go_sem] theorem tflat162 : flat Try.prog 6 162 = some [some .i64, some .i64, some .i64] := by kernel_rfl
@[go_sem] theorem tarr162 : tarr Try.prog 162 = some (3, 3) := by kernel_rfl
@[go_sem] theorem tsl162 : tsl Try.prog 162 = none := by kernel_rfl
@[go_sem] theorem tstr162 : tstr Try.prog 162 = false := by kernel_rfl
@[go_sem] theorem tn163 : tn Try.prog 163 = some 1 := by kernel_rfl
@[go_sem] theorem tb163 : tb Try.prog 163 = some 8 := by kernel_rfl
@[go_sem] theorem ta163 : ta Try.prog 163 = some false := by kernel_rfl
@[go_sem] theorem tz163 : tz Try.prog 163 = some [.int .u64 0] := by kernel_rfl
@[go_sem] theorem tpl163 : tpl Try.prog 163 = none := by kernel_rfl
@[go_sem] theorem tarr163 : tarr Try.prog 163 = none := by kernel_rfl
@[go_sem] theorem tint163 : tint Try.prog 163 = some .u64 := by kernel_rfl
@[go_sem] theorem tn164 : tn Try.prog 164 = some 5 := by kernel_rfl
@[go_sem] theorem tb164 : tb Try.prog 164 = some 40 := by kernel_rfl
@[go_sem] theorem ta164 : ta Try.prog 164 = some true := by kernel_rfl
@[go_sem] theorem tz164 : tz Try.prog 164 = some [.int .u64 0, .int .u64 0, .int .u64 0, .int .u64 0, .int .u64 0] := by kernel_rfl
@[go_sem] theorem tpl164 : tpl Try.prog 164 = none := by kernel_rfl
@[go_sem] theorem teg164 : teg Try.prog 164 = false := by kernel_rfl
@[go_sem] theorem tflat164 : flat Try.prog 6 164 = some [some .u64, some .u64, some .u64, some .u64, some .u64] := by kernel_rfl
@[go_sem] theorem tarr164 : tarr Try.prog 164 = some (5, 163) := by kernel_rfl
@[go_sem] theorem tsl164 : tsl Try.prog 164 = none := by kernel_rfl
@[go_sem] theorem tstr164 : tstr Try.prog 164 = false := by kernel_rfl
@[go_sem] theorem tn165 : tn Try.prog 165 = some 5 := by kernel_rfl
@[go_sem] theorem tb165 : tb Try.prog 165 = some 40 := by kernel_rfl
@[go_sem] theorem ta165 : ta Try.prog 165 = some true := by kernel_rfl
@[go_sem] theorem tz165 : tz Try.prog 165 = some [.int .u64 0, .int .u64 0, .int .u64 0, .int .u64 0, .int .u64 0] := by kernel_rfl
@[go_sem] theorem tpl165 : tpl Try.prog 165 = none := by kernel_rfl
@[go_sem] theorem teg165 : teg Try.prog 165 = false := by kernel_rfl
@[go_sem] theorem tflat165 : flat Try.prog 6 165 = some [some .u64, some .u64, some .u64, some .u64, some .u64] := by kernel_rfl
@[go_sem] theorem tarr165 : tarr Try.prog 165 = some (5, 163) := by kernel_rfl
@[go_sem] theorem tsl165 : tsl Try.prog 165 = none := by kernel_rfl
@[go_sem] theorem tstr165 : tstr Try.prog 165 = false := by kernel_rfl
@[go_sem] theorem tn166 : tn Try.prog 166 = some 1 := by kernel_rfl
@[go_sem] theorem tb166 : tb Try.prog 166 = some 8 := by kernel_rfl
@[go_sem] theorem ta166 : ta Try.prog 166 = some false := by kernel_rfl
@[go_sem] theorem tz166 : tz Try.prog 166 = some [.nilFunc] := by kernel_rfl
@[go_sem] theorem tpl166 : tpl Try.prog 166 = none := by kernel_rfl
@[go_sem] theorem tarr166 : tarr Try.prog 166 = none := by kernel_rfl
@[go_sem] theorem tn167 : tn Try.prog 167 = some 17 := by kernel_rfl
@[go_sem] theorem tb167 : tb Try.prog 167 = some 17 := by kernel_rfl
@[go_sem] theorem ta167 : ta Try.prog 167 = some true := by kernel_rfl
@[go_sem] theorem tz167 : tz Try.prog 167 = some [.int .u8 0, .int .u8 0, .int .u8 0, .int .u8 0, .int .u8 0, .int .u8 0, .int .u8 0, .int .u8 0, .int .u8 0, .int .u8 0, .int .u8 0, .int .u8 0, .int .u8 0, .int .u8 0, .int .u8 0, .int .u8 0, .int .u8 0] := by kernel_rfl
@[go_sem] theorem tpl167 : tpl Try.prog 167 = none := by kernel_rfl
@[go_sem] theorem teg167 : teg Try.prog 167 = false := by kernel_rfl
@[go_sem] theorem tflat167 : flat Try.prog 6 167 = some [some .u8, some .u8, some .u8, some .u8, some .u8, some .u8, some .u8, some .u8, some .u8, some .u8, some .u8, some .u8, some .u8, some .u8, some .u8, some .u8, some .u8] := by kernel_rfl
@[go_sem] theorem tarr167 : tarr Try.prog 167 = some (17, 5) := by kernel_rfl
@[go_sem] theorem tsl167 : tsl Try.prog 167 = none := by kernel_rfl
@[go_sem] theorem tstr167 : tstr Try.prog 167 = false := by kernel_rfl
@[go_sem] theorem tn168 : tn Try.prog 168 = some 1 := by kernel_rfl
@[go_sem] theorem tb168 : tb Try.prog 168 = some 8 := by kernel_rfl
@[go_sem] theorem ta168 : ta Try.prog 168 = some false := by kernel_rfl
@[go_sem] theorem tz168 : tz Try.prog 168 = some [.nilFunc] := by kernel_rfl
@[go_sem] theorem tpl168 : tpl Try.prog 168 = none := by kernel_rfl
@[go_sem] theorem tarr168 : tarr Try.prog 168 = none := by kernel_rfl
@[go_sem] theorem tn169 : tn Try.prog 169 = some 1 := by kernel_rfl
@[go_sem] theorem tb169 : tb Try.prog 169 = some 8 := by kernel_rfl
@[go_sem] theorem ta169 : ta Try.prog 169 = some false := by kernel_rfl
@[go_sem] theorem tz169 : tz Try.prog 169 = some [.nilFunc] := by kernel_rfl
@[go_sem] theorem tpl169 : tpl Try.prog 169 = none := by kernel_rfl
@[go_sem] theorem tarr169 : tarr Try.prog 169 = none := by kernel_rfl
@[go_sem] theorem tn170 : tn Try.prog 170 = some 1 := by kernel_rfl
@[go_sem] theorem tb170 : tb Try.prog 170 = some 8 := by kernel_rfl
@[go_sem] theorem ta170 : ta Try.prog 170 = some false := by kernel_rfl
@[go_sem] theorem tz170 : tz Try.prog 170 = some [.nilFunc] := by kernel_rfl
@[go_sem] theorem tpl170 : tpl Try.prog 170 = none := by kernel_rfl
@[go_sem] theorem tarr170 : tarr Try.prog 170 = none := by kernel_rfl
@[go_sem] theorem tn171 : tn Try.prog 171 = some 1 := by kernel_rfl
@[go_sem] theorem tb171 : tb Try.prog 171 = some 8 := by kernel_rfl
@[go_sem] theorem ta171 : ta Try.prog 171 = some false := by kernel_rfl
@[go_sem] theorem tz171 : tz Try.prog 171 = some [.nilFunc] := by kernel_rfl
@[go_sem] theorem tpl171 : tpl Try.prog 171 = none := by kernel_rfl
@[go_sem] theorem tarr171 : tarr Try.prog 171 = none := by kernel_rfl
@[go_sem] theorem tn172 : tn Try.prog 172 = some 1 := by kernel_rfl
@[go_sem] theorem tb172 : tb Try.prog 172 = some 8 := by kernel_rfl
@[go_sem] theorem ta172 : ta Try.prog 172 = some false := by kernel_rfl
@[go_sem] theorem tz172 : tz Try.prog 172 = some [.nilFunc] := by kernel_rfl
@[go_sem] theorem tpl172 : tpl Try.prog 172 = none := by kernel_rfl
@[go_sem] theorem tarr172 : tarr Try.prog 172 = none := by kernel_rfl
@[go_sem] theorem tn173 : tn Try.prog 173 = some 16 := by kernel_rfl
@[go_sem] theorem tb173 : tb Try.prog 173 = some 128 := by kernel_rfl
@[go_sem] theorem ta173 : ta Try.prog 173 = some true := by kernel_rfl
@[go_sem] theorem tz173 : tz Try.prog 173 = some [.int .i64 0, .int .i64 0, .int .i64 0, .int .i64 0, .int .i64 0, .int .i64 0, .int .i64 0, .int .i64 0, .int .i64 0, .int .i64 0, .int .i64 0, .int .i64 0, .int .i64 0, .int .i64 0, .int .i64 0, .int .i64 0] := by kernel_rfl
@[go_sem] theorem tpl173 : tpl Try.prog 173 = none := by kernel_rfl
@[go_sem] theorem teg173 : teg Try.prog 173 = false := by kernel_rfl
@[go_sem] theorem tflat173 : flat Try.prog 6 173 = some [some .i64, some .i64, some .i64, some .i64, some .i64, some .i64, some .i64, some .i64, some .i64, some .i64, some .i64, some .i64, some .i64, some .i64, some .i64, some .i64] := by kernel_rfl
@[go_sem] theorem tarr173 : tarr Try.prog 173 = some (16, 2) := by kernel_rfl
@[go_sem] theorem tsl173 : tsl Try.prog 173 = none := by kernel_rfl
@[go_sem] theorem tstr173 : tstr Try.prog 173 = false := by kernel_rfl
@[go_sem] theorem tn174 : tn Try.prog 174 = some 16 := by kernel_rfl
@[go_sem] theorem tb174 : tb Try.prog 174 = some 128 := by kernel_rfl
@[go_sem] theorem ta174 : ta Try.prog 174 = some true := by kernel_rfl
@[go_sem] theorem tz174 : tz Try.prog 174 = some [.int .i64 0, .int .i64 0, .int .i64 0, .int .i64 0, .int .i64 0, .int .i64 0, .int .i64 0, .int .i64 0, .int .i64 0, .int .i64 0, .int .i64 0, .int .i64 0, .int .i64 0, .int .i64 0, .int .i64 0, .int .i64 0] := by kernel_rfl
@[go_sem] theorem tpl174 : tpl Try.prog 174 = none := by kernel_rfl
@[go_sem] theorem teg174 : teg Try.prog 174 = false := by kernel_rfl
@[go_sem] theorem tflat174 : flat Try.prog 6 174 = some [some .i64, some .i64, some .i64, some .i64, some .i64, some .i64, some .i64, some .i64, some .i64, some .i64, some .i64, some .i64, some .i64, some .i64, some .i64, some .i64] := by kernel_rfl
@[go_sem] theorem tarr174 : tarr Try.prog 174 = some (16, 2) := by kernel_rfl
@[go_sem] theorem tsl174 : tsl Try.prog 174 = none := by kernel_rfl
@[go_sem] theorem tstr174 : tstr Try.prog 174 = false := by kernel_rfl
@[go_sem] theorem tn175 : tn Try.prog 175 = some 1 := by kernel_rfl
@[go_sem] theorem tb175 : tb Try.prog 175 = some 8 := by kernel_rfl
@[go_sem] theorem ta175 : ta Try.prog 175 = some false := by kernel_rfl
@[go_sem] theorem tz175 : tz Try.prog 175 = some [.nilFunc] := by kernel_rfl
@[go_sem] theorem tpl175 : tpl Try.prog 175 = none := by kernel_rfl
@[go_sem] theorem tarr175 : tarr Try.prog 175 = none := by kernel_rfl
@[go_sem] theorem tn176 : tn Try.prog 176 = some 1 := by kernel_rfl
@[go_sem] theorem tb176 : tb Try.prog 176 = some 8 := by kernel_rfl
@[go_sem] theorem ta176 : ta Try.prog 176 = some false := by kernel_rfl
@[go_sem] theorem tz176 : tz Try.prog 176 = some [.nilFunc] := by kernel_rfl
@[go_sem] theorem tpl176 : tpl Try.prog 176 = none := by kernel_rfl
@[go_sem] theorem tarr176 : tarr Try.prog 176 = none := by kernel_rfl
@[go_sem] theorem tn177 : tn Try.prog 177 = some 1 := by kernel_rfl
@[go_sem] theorem tb177 : tb Try.prog 177 = some 8 := by kernel_rfl
@[go_sem] theorem ta177 : ta Try.prog 177 = some false := by kernel_rfl
@[go_sem] theorem tz177 : tz Try.prog 177 = some [.pointer none] := by kernel_rfl
@[go_sem] theorem tpl177 : tpl Try.prog 177 = none := by kernel_rfl
@[go_sem] theorem tarr177 : tarr Try.prog 177 = none := by kernel_rfl
@[go_sem] theorem tn178 : tn Try.prog 178 = some 1 := by kernel_rfl
@[go_sem] theorem tb178 : tb Try.prog 178 = some 8 := by kernel_rfl
@[go_sem] theorem ta178 : ta Try.prog 178 = some false := by kernel_rfl
@[go_sem] theorem tz178 : tz Try.prog 178 = some [.nilFunc] := by kernel_rfl
@[go_sem] theorem tpl178 : tpl Try.prog 178 = none := by kernel_rfl
@[go_sem] theorem tarr178 : tarr Try.prog 178 = none := by kernel_rfl
@[go_sem] theorem tn179 : tn Try.prog 179 = some 1 := by kernel_rfl
@[go_sem] theorem tb179 : tb Try.prog 179 = some 8 := by kernel_rfl
@[go_sem] theorem ta179 : ta Try.prog 179 = some false := by kernel_rfl
@[go_sem] theorem tz179 : tz Try.prog 179 = some [.nilFunc] := by kernel_rfl
@[go_sem] theorem tpl179 : tpl Try.prog 179 = none := by kernel_rfl
@[go_sem] theorem tarr179 : tarr Try.prog 179 = none := by kernel_rfl
@[go_sem] theorem tn180 : tn Try.prog 180 = some 1 := by kernel_rfl
@[go_sem] theorem tb180 : tb Try.prog 180 = some 8 := by kernel_rfl
@[go_sem] theorem ta180 : ta Try.prog 180 = some false := by kernel_rfl
@[go_sem] theorem tz180 : tz Try.prog 180 = some [.nilFunc] := by kernel_rfl
@[go_sem] theorem tpl180 : tpl Try.prog 180 = none := by kernel_rfl
@[go_sem] theorem tarr180 : tarr Try.prog 180 = none := by kernel_rfl
@[go_sem] theorem tn181 : tn Try.prog 181 = some 1 := by kernel_rfl
@[go_sem] theorem tb181 : tb Try.prog 181 = some 8 := by kernel_rfl
@[go_sem] theorem ta181 : ta Try.prog 181 = some false := by kernel_rfl
@[go_sem] theorem tz181 : tz Try.prog 181 = some [.nilFunc] := by kernel_rfl
@[go_sem] theorem tpl181 : tpl Try.prog 181 = none := by kernel_rfl
@[go_sem] theorem tarr181 : tarr Try.prog 181 = none := by kernel_rfl
@[go_sem] theorem tn182 : tn Try.prog 182 = some 1 := by kernel_rfl
@[go_sem] theorem tb182 : tb Try.prog 182 = some 8 := by kernel_rfl
@[go_sem] theorem ta182 : ta Try.prog 182 = some false := by kernel_rfl
@[go_sem] theorem tz182 : tz Try.prog 182 = some [.nilFunc] := by kernel_rfl
@[go_sem] theorem tpl182 : tpl Try.prog 182 = none := by kernel_rfl
@[go_sem] theorem tarr182 : tarr Try.prog 182 = none := by kernel_rfl
@[go_sem] theorem tn183 : tn Try.prog 183 = some 1 := by kernel_rfl
@[go_sem] theorem tb183 : tb Try.prog 183 = some 8 := by kernel_rfl
@[go_sem] theorem ta183 : ta Try.prog 183 = some false := by kernel_rfl
@[go_sem] theorem tz183 : tz Try.prog 183 = some [.nilFunc] := by kernel_rfl
@[go_sem] theorem tpl183 : tpl Try.prog 183 = none := by kernel_rfl
@[go_sem] theorem tarr183 : tarr Try.prog 183 = none := by kernel_rfl
@[go_sem] theorem tn184 : tn Try.prog 184 = some 1 := by kernel_rfl
@[go_sem] theorem tb184 : tb Try.prog 184 = some 8 := by kernel_rfl
@[go_sem] theorem ta184 : ta Try.prog 184 = some false := by kernel_rfl
@[go_sem] theorem tz184 : tz Try.prog 184 = some [.nilFunc] := by kernel_rfl
@[go_sem] theorem tpl184 : tpl Try.prog 184 = none := by kernel_rfl
@[go_sem] theorem tarr184 : tarr Try.prog 184 = none := by kernel_rfl
@[go_sem] theorem tn185 : tn Try.prog 185 = some 1 := by kernel_rfl
@[go_sem] theorem tb185 : tb Try.prog 185 = some 8 := by kernel_rfl
@[go_sem] theorem ta185 : ta Try.prog 185 = some false := by kernel_rfl
@[go_sem] theorem tz185 : tz Try.prog 185 = some [.nilFunc] := by kernel_rfl
@[go_sem] theorem tpl185 : tpl Try.prog 185 = none := by kernel_rfl
@[go_sem] theorem tarr185 : tarr Try.prog 185 = none := by kernel_rfl
@[go_sem] theorem tn186 : tn Try.prog 186 = some 1 := by kernel_rfl
@[go_sem] theorem tb186 : tb Try.prog 186 = some 8 := by kernel_rfl
@[go_sem] theorem ta186 : ta Try.prog 186 = some false := by kernel_rfl
@[go_sem] theorem tz186 : tz Try.prog 186 = some [.pointer none] := by kernel_rfl
@[go_sem] theorem tpl186 : tpl Try.prog 186 = none := by kernel_rfl
@[go_sem] theorem tarr186 : tarr Try.prog 186 = none := by kernel_rfl
@[go_sem] theorem tn187 : tn Try.prog 187 = some 1 := by kernel_rfl
@[go_sem] theorem tb187 : tb Try.prog 187 = some 8 := by kernel_rfl
@[go_sem] theorem ta187 : ta Try.prog 187 = some false := by kernel_rfl
@[go_sem] theorem tz187 : tz Try.prog 187 = some [.nilFunc] := by kernel_rfl
@[go_sem] theorem tpl187 : tpl Try.prog 187 = none := by kernel_rfl
@[go_sem] theorem tarr187 : tarr Try.prog 187 = none := by kernel_rfl
@[go_sem] theorem tn189 : tn Try.prog 189 = some 1 := by kernel_rfl
@[go_sem] theorem tb189 : tb Try.prog 189 = some 8 := by kernel_rfl
@[go_sem] theorem ta189 : ta Try.prog 189 = some false := by kernel_rfl
@[go_sem] theorem tz189 : tz Try.prog 189 = some [.nilFunc] := by kernel_rfl
@[go_sem] theorem tpl189 : tpl Try.prog 189 = none := by kernel_rfl
@[go_sem] theorem tarr189 : tarr Try.prog 189 = none := by kernel_rfl
@[go_sem] theorem tn190 : tn Try.prog 190 = some 1 := by kernel_rfl
@[go_sem] theorem tb190 : tb Try.prog 190 = some 8 := by kernel_rfl
@[go_sem] theorem ta190 : ta Try.prog 190 = some false := by kernel_rfl
@[go_sem] theorem tz190 : tz Try.prog 190 = some [.nilFunc] := by kernel_rfl
@[go_sem] theorem tpl190 : tpl Try.prog 190 = none := by kernel_rfl
@[go_sem] theorem tarr190 : tarr Try.prog 190 = none := by kernel_rfl
@[go_sem] theorem tn191 : tn Try.prog 191 = some 31 := by kernel_rfl
@[go_sem] theorem tb191 : tb Try.prog 191 = some 248 := by kernel_rfl
@[go_sem] theorem ta191 : ta Try.prog 191 = some true := by kernel_rfl
@[go_sem] theorem tz191 : tz Try.prog 191 = some [.int .i64 0, .int .i64 0, .int .i64 0, .int .i64 0, .int .i64 0, .int .i64 0, .int .i64 0, .int .i64 0, .int .i64 0, .int .i64 0, .int .i64 0, .int .i64 0, .int .i64 0, .int .i64 0, .int .i64 0, .int .i64 0, .int .i64 0, .int .i64 0, .int .i64 0, .int .i64 0, .int .i64 0, .int .i64 0, .int .i64 0, .int .i64 0, .int .i64 0, .int .i64 0, .int .i64 0, .int .i64 0, .int .i64 0, .int .i64 0, .int .i64 0] := by kernel_rfl
@[go_sem] theorem tpl191 : tpl Try.prog 191 = none := by kernel_rfl
@[go_sem] theorem teg191 : teg Try.prog 191 = false := by kernel_rfl
@[go_sem] theorem tflat191 : flat Try.prog 6 191 = some [some .i64, some .i64, some .i64, some .i64, some .i64, some .i64, some .i64, some .i64, some .i64, some .i64, some .i64, some .i64, some .i64, some .i64, some .i64, some .i64, some .i64, some .i64, some .i64, some .i64, some .i64, some .i64, some .i64, some .i64, some .i64, some .i64, some .i64, some .i64, some .i64, some .i64, some .i64] := by kernel_rfl
@[go_sem] theorem tarr191 : tarr Try.prog 191 = some (31, 2) := by kernel_rfl
@[go_sem] theorem tsl191 : tsl Try.prog 191 = none := by kernel_rfl
@[go_sem] theorem tstr191 : tstr Try.prog 191 = false := by kernel_rfl
@[go_sem] theorem tn192 : tn Try.prog 192 = some 1 := by kernel_rfl
@[go_sem] theorem tb192 : tb Try.prog 192 = some 8 := by kernel_rfl
@[go_sem] theorem ta192 : ta Try.prog 192 = some false := by kernel_rfl
@[go_sem] theorem tz192 : tz Try.prog 192 = some [.pointer none] := by kernel_rfl
@[go_sem] theorem tpl192 : tpl Try.prog 192 = none := by kernel_rfl
@[go_sem] theorem tarr192 : tarr Try.prog 192 = none := by kernel_rfl
@[go_sem] theorem tn193 : tn Try.prog 193 = some 1 := by kernel_rfl
@[go_sem] theorem tb193 : tb Try.prog 193 = some 8 := by kernel_rfl
@[go_sem] theorem ta193 : ta Try.prog 193 = some false := by kernel_rfl
@[go_sem] theorem tz193 : tz Try.prog 193 = some [.nilFunc] := by kernel_rfl
@[go_sem] theorem tpl193 : tpl Try.prog 193 = none := by kernel_rfl
@[go_sem] theorem tarr193 : tarr Try.prog 193 = none := by kernel_rfl
@[go_sem] theorem tn194 : tn Try.prog 194 = some 1 := by kernel_rfl
@[go_sem] theorem tb194 : tb Try.prog 194 = some 8 := by kernel_rfl
@[go_sem] theorem ta194 : ta Try.prog 194 = some false := by kernel_rfl
@[go_sem] theorem tz194 : tz Try.prog 194 = some [.nilFunc] := by kernel_rfl
@[go_sem] theorem tpl194 : tpl Try.prog 194 = none := by kernel_rfl
@[go_sem] theorem tarr194 : tarr Try.prog 194 = none := by kernel_rfl
@[go_sem] theorem tn195 : tn Try.prog 195 = some 4 := by kernel_rfl
@[go_sem] theorem tb195 : tb Try.prog 195 = some 40 := by kernel_rfl
@[go_sem] theorem ta195 : ta Try.prog 195 = some true := by kernel_rfl
@[go_sem] theorem tz195 : tz Try.prog 195 = some [.pointer none, .pointer none, .pointer none, .string ⟨#[]⟩] := by kernel_rfl
@[go_sem] theorem tf195_0 : tf Try.prog 195 0 = some 0 := by kernel_rfl
@[go_sem] theorem tf195_1 : tf Try.prog 195 1 = some 1 := by kernel_rfl
@[go_sem] theorem tf195_2 : tf Try.prog 195 2 = some 2 := by kernel_rfl
@[go_sem] theorem tf195_3 : tf Try.prog 195 3 = some 3 := by kernel_rfl
@[go_sem] theorem tpl195 : tpl Try.prog 195 = some [(0, 1), (1, 1), (2, 1), (3, 1)] := by kernel_rfl
@[go_sem] theorem tfl195_0 : tfl Try.prog 195 0 = some (0, 17) := by kernel_rfl
@[go_sem] theorem tfl195_1 : tfl Try.prog 195 1 = some (1, 17) := by kernel_rfl
@[go_sem] theorem tfl195_2 : tfl Try.prog 195 2 = some (2, 17) := by kernel_rfl
@[go_sem] theorem tfl195_3 : tfl Try.prog 195 3 = some (3, 9) := by kernel_rfl
@[go_sem] theorem teg195 : teg Try.prog 195 = false := by kernel_rfl
@[go_sem] theorem tarr195 : tarr Try.prog 195 = none := by kernel_rfl
@[go_sem] theorem tn196 : tn Try.prog 196 = some 4 := by kernel_rfl
@[go_sem] theorem tb196 : tb Try.prog 196 = some 40 := by kernel_rfl
@[go_sem] theorem ta196 : ta Try.prog 196 = some true := by kernel_rfl
@[go_sem] theorem tz196 : tz Try.prog 196 = some [.pointer none, .pointer none, .pointer none, .string ⟨#[]⟩] := by kernel_rfl
@[go_sem] theorem tf196_0 : tf Try.prog 196 0 = some 0 := by kernel_rfl
@[go_sem] theorem tf196_1 : tf Try.prog 196 1 = some 1 := by kernel_rfl
@[go_sem] theorem tf196_2 : tf Try.prog 196 2 = some 2 := by kernel_rfl
@[go_sem] theorem tf196_3 : tf Try.prog 196 3 = some 3 := by kernel_rfl
@[go_sem] theorem tpl196 : tpl Try.prog 196 = some [(0, 1), (1, 1), (2, 1), (3, 1)] := by kernel_rfl
@[go_sem] theorem tfl196_0 : tfl Try.prog 196 0 = some (0, 17) := by kernel_rfl
@[go_sem] theorem tfl196_1 : tfl Try.prog 196 1 = some (1, 17) := by kernel_rfl
@[go_sem] theorem tfl196_2 : tfl Try.prog 196 2 = some (2, 17) := by kernel_rfl
@[go_sem] theorem tfl196_3 : tfl Try.prog 196 3 = some (3, 9) := by kernel_rfl
@[go_sem] theorem teg196 : teg Try.prog 196 = false := by kernel_rfl
@[go_sem] theorem tarr196 : tarr Try.prog 196 = none := by kernel_rfl
@[go_sem] theorem tn197 : tn Try.prog 197 = some 0 := by kernel_rfl
@[go_sem] theorem tb197 : tb Try.prog 197 = some 0 := by kernel_rfl
@[go_sem] theorem ta197 : ta Try.prog 197 = some true := by kernel_rfl
@[go_sem] theorem tz197 : tz Try.prog 197 = some [] := by kernel_rfl
@[go_sem] theorem tpl197 : tpl Try.prog 197 = none := by kernel_rfl
@[go_sem] theorem teg197 : teg Try.prog 197 = false := by kernel_rfl
@[go_sem] theorem tarr197 : tarr Try.prog 197 = some (0, 16) := by kernel_rfl
@[go_sem] theorem tsl197 : tsl Try.prog 197 = none := by kernel_rfl
@[go_sem] theorem tstr197 : tstr Try.prog 197 = false := by kernel_rfl
@[go_sem] theorem tn198 : tn Try.prog 198 = some 0 := by kernel_rfl
@[go_sem] theorem tb198 : tb Try.prog 198 = some 0 := by kernel_rfl
@[go_sem] theorem ta198 : ta Try.prog 198 = some true := by kernel_rfl
@[go_sem] theorem tz198 : tz Try.prog 198 = some [] := by kernel_rfl
@[go_sem] theorem tpl198 : tpl Try.prog 198 = some [(0, 0)] := by kernel_rfl
@[go_sem] theorem tfl198_0 : tfl Try.prog 198 0 = some (0, 197) := by kernel_rfl
@[go_sem] theorem teg198 : teg Try.prog 198 = false := by kernel_rfl
@[go_sem] theorem tarr198 : tarr Try.prog 198 = none := by kernel_rfl
@[go_sem] theorem tn199 : tn Try.prog 199 = some 0 := by kernel_rfl
@[go_sem] theorem tb199 : tb Try.prog 199 = some 0 := by kernel_rfl
@[go_sem] theorem ta199 : ta Try.prog 199 = some true := by kernel_rfl
@[go_sem] theorem tz199 : tz Try.prog 199 = some [] := by kernel_rfl
@[go_sem] theorem tpl199 : tpl Try.prog 199 = some [(0, 0)] := by kernel_rfl
@[go_sem] theorem tfl199_0 : tfl Try.prog 199 0 = some (0, 197) := by kernel_rfl
@[go_sem] theorem teg199 : teg Try.prog 199 = false := by kernel_rfl
@[go_sem] theorem tarr199 : tarr Try.prog 199 = none := by kernel_rfl
@[go_sem] theorem tn200 : tn Try.prog 200 = some 1 := by kernel_rfl
@[go_sem] theorem tb200 : tb Try.prog 200 = some 8 := by kernel_rfl
@[go_sem] theorem ta200 : ta Try.prog 200 = some false := by kernel_rfl
@[go_sem] theorem tz200 : tz Try.prog 200 = some [.nilFunc] := by kernel_rfl
@[go_sem] theorem tpl200 : tpl Try.prog 200 = none := by kernel_rfl
@[go_sem] theorem tarr200 : tarr Try.prog 200 = none := by kernel_rfl
@[go_sem] theorem tn201 : tn Try.prog 201 = some 1 := by kernel_rfl
@[go_sem] theorem tb201 : tb Try.prog 201 = some 1 := by kernel_rfl
@[go_sem] theorem ta201 : ta Try.prog 201 = some false := by kernel_rfl
@[go_sem] theorem tz201 : tz Try.prog 201 = some [.int .u8 0] := by kernel_rfl
@[go_sem] theorem tpl201 : tpl Try.prog 201 = none := by kernel_rfl
@[go_sem] theorem tarr201 : tarr Try.prog 201 = none := by kernel_rfl
@[go_sem] theorem tint201 : tint Try.prog 201 = some .u8 := by kernel_rfl
@[go_sem] theorem tn202 : tn Try.prog 202 = some 1 := by kernel_rfl
@[go_sem] theorem tb202 : tb Try.prog 202 = some 1 := by kernel_rfl
@[go_sem] theorem ta202 : ta Try.prog 202 = some false := by kernel_rfl
@[go_sem] theorem tz202 : tz Try.prog 202 = some [.int .u8 0] := by kernel_rfl
@[go_sem] theorem tpl202 : tpl Try.prog 202 = none := by kernel_rfl
@[go_sem] theorem tarr202 : tarr Try.prog 202 = none := by kernel_rfl
@[go_sem] theorem tint202 : tint Try.prog 202 = some .u8 := by kernel_rfl
@[go_sem] theorem tn203 : tn Try.prog 203 = some 1 := by kernel_rfl
@[go_sem] theorem tb203 : tb Try.prog 203 = some 8 := by kernel_rfl
@[go_sem] theorem ta203 : ta Try.prog 203 = some false := by kernel_rfl
@[go_sem] theorem tz203 : tz Try.prog 203 = some [.nilFunc] := by kernel_rfl
@[go_sem] theorem tpl203 : tpl Try.prog 203 = none := by kernel_rfl
@[go_sem] theorem tarr203 : tarr Try.prog 203 = none := by kernel_rfl
@[go_sem] theorem tn204 : tn Try.prog 204 = some 1 := by kernel_rfl
@[go_sem] theorem tb204 : tb Try.prog 204 = some 8 := by kernel_rfl
@[go_sem] theorem ta204 : ta Try.prog 204 = some false := by kernel_rfl
@[go_sem] theorem tz204 : tz Try.prog 204 = some [.pointer none] := by kernel_rfl
@[go_sem] theorem tpl204 : tpl Try.prog 204 = none := by kernel_rfl
@[go_sem] theorem tarr204 : tarr Try.prog 204 = none := by kernel_rfl
@[go_sem] theorem tn205 : tn Try.prog 205 = some 1 := by kernel_rfl
@[go_sem] theorem tb205 : tb Try.prog 205 = some 4 := by kernel_rfl
@[go_sem] theorem ta205 : ta Try.prog 205 = some false := by kernel_rfl
@[go_sem] theorem tz205 : tz Try.prog 205 = some [.int .i32 0] := by kernel_rfl
@[go_sem] theorem tpl205 : tpl Try.prog 205 = none := by kernel_rfl
@[go_sem] theorem tarr205 : tarr Try.prog 205 = none := by kernel_rfl
@[go_sem] theorem tint205 : tint Try.prog 205 = some .i32 := by kernel_rfl
@[go_sem] theorem tn206 : tn Try.prog 206 = some 1 := by kernel_rfl
@[go_sem] theorem tb206 : tb Try.prog 206 = some 4 := by kernel_rfl
@[go_sem] theorem ta206 : ta Try.prog 206 = some false := by kernel_rfl
@[go_sem] theorem tz206 : tz Try.prog 206 = some [.int .i32 0] := by kernel_rfl
@[go_sem] theorem tpl206 : tpl Try.prog 206 = none := by kernel_rfl
@[go_sem] theorem tarr206 : tarr Try.prog 206 = none := by kernel_rfl
@[go_sem] theorem tint206 : tint Try.prog 206 = some .i32 := by kernel_rfl
@[go_sem] theorem tn207 : tn Try.prog 207 = some 11 := by kernel_rfl
@[go_sem] theorem tb207 : tb Try.prog 207 = some 48 := by kernel_rfl
@[go_sem] theorem ta207 : ta Try.prog 207 = some true := by kernel_rfl
@[go_sem] theorem tz207 : tz Try.prog 207 = some [.int .u64 0, .int .u64 0, .int .u32 0, .int .u8 0, .int .u8 0, .int .u8 0, .int .u8 0, .nilFunc, .pointer none, .int .i32 0, .int .i32 0] := by kernel_rfl
@[go_sem] theorem tf207_0 : tf Try.prog 207 0 = some 0 := by kernel_rfl
@[go_sem] theorem tf207_1 : tf Try.prog 207 1 = some 1 := by kernel_rfl
@[go_sem] theorem tf207_2 : tf Try.prog 207 2 = some 2 := by kernel_rfl
@[go_sem] theorem tf207_3 : tf Try.prog 207 3 = some 3 := by kernel_rfl
@[go_sem] theorem tf207_4 : tf Try.prog 207 4 = some 4 := by kernel_rfl
@[go_sem] theorem tf207_5 : tf Try.prog 207 5 = some 5 := by kernel_rfl
@[go_sem] theorem tf207_6 : tf Try.prog 207 6 = some 6 := by kernel_rfl
@[go_sem] theorem tf207_7 : tf Try.prog 207 7 = some 7 := by kernel_rfl
@[go_sem] theorem tf207_8 : tf Try.prog 207 8 = some 8 := by kernel_rfl
@[go_sem] theorem tf207_9 : tf Try.prog 207 9 = some 9 := by kernel_rfl
@[go_sem] theorem tf207_10 : tf Try.prog 207 10 = some 10 := by kernel_rfl
@[go_sem] theorem tpl207 : tpl Try.prog 207 = some [(0, 1), (1, 1), (2, 1), (3, 1), (4, 1), (5, 1), (6, 1), (7, 1), (8, 1), (9, 1), (10, 1)] := by kernel_rfl
@[go_sem] theorem tfl207_0 : tfl Try.prog 207 0 = some (0, 12) := by kernel_rfl
@[go_sem] theorem tfl207_1 : tfl Try.prog 207 1 = some (1, 12) := by kernel_rfl
@[go_sem] theorem tfl207_2 : tfl Try.prog 207 2 = some (2, 134) := by kernel_rfl
@[go_sem] theorem tfl207_3 : tfl Try.prog 207 3 = some (3, 201) := by kernel_rfl
@[go_sem] theorem tfl207_4 : tfl Try.prog 207 4 = some (4, 5) := by kernel_rfl
@[go_sem] theorem tfl207_5 : tfl Try.prog 207 5 = some (5, 5) := by kernel_rfl
@[go_sem] theorem tfl207_6 : tfl Try.prog 207 6 = some (6, 202) := by kernel_rfl
@[go_sem] theorem tfl207_7 : tfl Try.prog 207 7 = some (7, 203) := by kernel_rfl
@[go_sem] theorem tfl207_8 : tfl Try.prog 207 8 = some (8, 204) := by kernel_rfl
@[go_sem] theorem tfl207_9 : tfl Try.prog 207 9 = some (9, 205) := by kernel_rfl
@[go_sem] theorem tfl207_10 : tfl Try.prog 207 10 = some (10, 206) := by kernel_rfl
@[go_sem] theorem teg207 : teg Try.prog 207 = false := by kernel_rfl
@[go_sem] theorem tarr207 : tarr Try.prog 207 = none := by kernel_rfl
@[go_sem] theorem tn208 : tn Try.prog 208 = some 11 := by kernel_rfl
@[go_sem] theorem tb208 : tb Try.prog 208 = some 48 := by kernel_rfl
@[go_sem] theorem ta208 : ta Try.prog 208 = some true := by kernel_rfl
@[go_sem] theorem tz208 : tz Try.prog 208 = some [.int .u64 0, .int .u64 0, .int .u32 0, .int .u8 0, .int .u8 0, .int .u8 0, .int .u8 0, .nilFunc, .pointer none, .int .i32 0, .int .i32 0] := by kernel_rfl
@[go_sem] theorem tf208_0 : tf Try.prog 208 0 = some 0 := by kernel_rfl
@[go_sem] theorem tf208_1 : tf Try.prog 208 1 = some 1 := by kernel_rfl
@[go_sem] theorem tf208_2 : tf Try.prog 208 2 = some 2 := by kernel_rfl
@[go_sem] theorem tf208_3 : tf Try.prog 208 3 = some 3 := by kernel_rfl
@[go_sem] theorem tf208_4 : tf Try.prog 208 4 = some 4 := by kernel_rfl
@[go_sem] theorem tf208_5 : tf Try.prog 208 5 = some 5 := by kernel_rfl
@[go_sem] theorem tf208_6 : tf Try.prog 208 6 = some 6 := by kernel_rfl
@[go_sem] theorem tf208_7 : tf Try.prog 208 7 = some 7 := by kernel_rfl
@[go_sem] theorem tf208_8 : tf Try.prog 208 8 = some 8 := by kernel_rfl
@[go_sem] theorem tf208_9 : tf Try.prog 208 9 = some 9 := by kernel_rfl
@[go_sem] theorem tf208_10 : tf Try.prog 208 10 = some 10 := by kernel_rfl
@[go_sem] theorem tpl208 : tpl Try.prog 208 = some [(0, 1), (1, 1), (2, 1), (3, 1), (4, 1), (5, 1), (6, 1), (7, 1), (8, 1), (9, 1), (10, 1)] := by kernel_rfl
@[go_sem] theorem tfl208_0 : tfl Try.prog 208 0 = some (0, 12) := by kernel_rfl
@[go_sem] theorem tfl208_1 : tfl Try.prog 208 1 = some (1, 12) := by kernel_rfl
@[go_sem] theorem tfl208_2 : tfl Try.prog 208 2 = some (2, 134) := by kernel_rfl
@[go_sem] theorem tfl208_3 : tfl Try.prog 208 3 = some (3, 201) := by kernel_rfl
@[go_sem] theorem tfl208_4 : tfl Try.prog 208 4 = some (4, 5) := by kernel_rfl
@[go_sem] theorem tfl208_5 : tfl Try.prog 208 5 = some (5, 5) := by kernel_rfl
@[go_sem] theorem tfl208_6 : tfl Try.prog 208 6 = some (6, 202) := by kernel_rfl
@[go_sem] theorem tfl208_7 : tfl Try.prog 208 7 = some (7, 203) := by kernel_rfl
@[go_sem] theorem tfl208_8 : tfl Try.prog 208 8 = some (8, 204) := by kernel_rfl
@[go_sem] theorem tfl208_9 : tfl Try.prog 208 9 = some (9, 205) := by kernel_rfl
@[go_sem] theorem tfl208_10 : tfl Try.prog 208 10 = some (10, 206) := by kernel_rfl
@[go_sem] theorem teg208 : teg Try.prog 208 = false := by kernel_rfl
@[go_sem] theorem tarr208 : tarr Try.prog 208 = none := by kernel_rfl
@[go_sem] theorem tn209 : tn Try.prog 209 = some 1 := by kernel_rfl
@[go_sem] theorem tb209 : tb Try.prog 209 = some 8 := by kernel_rfl
@[go_sem] theorem ta209 : ta Try.prog 209 = some false := by kernel_rfl
@[go_sem] theorem tz209 : tz Try.prog 209 = some [.pointer none] := by kernel_rfl
@[go_sem] theorem tpl209 : tpl Try.prog 209 = none := by kernel_rfl
@[go_sem] theorem tarr209 : tarr Try.prog 209 = none := by kernel_rfl
@[go_sem] theorem go2 : goes Try.prog 2 = true := by kernel_rfl
@[go_sem] theorem go3 : goes Try.prog 3 = true := by kernel_rfl
@[go_sem] theorem go4 : goes Try.prog 4 = true := by kernel_rfl
@[go_sem] theorem go5 : goes Try.prog 5 = true := by kernel_rfl
@[go_sem] theorem go6 : goes Try.prog 6 = true := by kernel_rfl
@[go_sem] theorem go7 : goes Try.prog 7 = true := by kernel_rfl
@[go_sem] theorem go8 : goes Try.prog 8 = true := by kernel_rfl
@[go_sem] theorem go9 : goes Try.prog 9 = true := by kernel_rfl
@[go_sem] theorem go10 : goes Try.prog 10 = true := by kernel_rfl
@[go_sem] theorem go11 : goes Try.prog 11 = true := by kernel_rfl
@[go_sem] theorem go12 : goes Try.prog 12 = true := by kernel_rfl
@[go_sem] theorem go13 : goes Try.prog 13 = true := by kernel_rfl
@[go_sem] theorem go14 : goes Try.prog 14 = true := by kernel_rfl
@[go_sem] theorem go15 : goes Try.prog 15 = true := by kernel_rfl
@[go_sem] theorem go16 : goes Try.prog 16 = true := by kernel_rfl
@[go_sem] theorem go17 : goes Try.prog 17 = true := by kernel_rfl
@[go_sem] theorem go18 : goes Try.prog 18 = true := by kernel_rfl
@[go_sem] theorem go19 : goes Try.prog 19 = true := by kernel_rfl
@[go_sem] theorem go20 : goes Try.prog 20 = true := by kernel_rfl
@[go_sem] theorem go21 : goes Try.prog 21 = true := by kernel_rfl
@[go_sem] theorem go22 : goes Try.prog 22 = true := by kernel_rfl
@[go_sem] theorem go23 : goes Try.prog 23 = true := by kernel_rfl
@[go_sem] theorem go24 : goes Try.prog 24 = true := by kernel_rfl
@[go_sem] theorem go25 : goes Try.prog 25 = true := by kernel_rfl
@[go_sem] theorem go26 : goes Try.prog 26 = true := by kernel_rfl
@[go_sem] theorem go27 : goes Try.prog 27 = true := by kernel_rfl
@[go_sem] theorem go28 : goes Try.prog 28 = true := by kernel_rfl
@[go_sem] theorem go29 : goes Try.prog 29 = true := by kernel_rfl
@[go_sem] theorem go30 : goes Try.prog 30 = true := by kernel_rfl
@[go_sem] theorem go31 : goes Try.prog 31 = true := by kernel_rfl
@[go_sem] theorem go32 : goes Try.prog 32 = true := by kernel_rfl
@[go_sem] theorem go33 : goes Try.prog 33 = true := by kernel_rfl
@[go_sem] theorem go34 : goes Try.prog 34 = true := by kernel_rfl
@[go_sem] theorem go35 : goes Try.prog 35 = true := by kernel_rfl
@[go_sem] theorem go36 : goes Try.prog 36 = true := by kernel_rfl
@[go_sem] theorem go37 : goes Try.prog 37 = true := by kernel_rfl
@[go_sem] theorem go38 : goes Try.prog 38 = true := by kernel_rfl
@[go_sem] theorem go39 : goes Try.prog 39 = true := by kernel_rfl
@[go_sem] theorem go40 : goes Try.prog 40 = true := by kernel_rfl
@[go_sem] theorem go41 : goes Try.prog 41 = true := by kernel_rfl
@[go_sem] theorem go42 : goes Try.prog 42 = true := by kernel_rfl
@[go_sem] theorem go43 : goes Try.prog 43 = true := by kernel_rfl
@[go_sem] theorem go44 : goes Try.prog 44 = true := by kernel_rfl
@[go_sem] theorem go45 : goes Try.prog 45 = true := by kernel_rfl
@[go_sem] theorem go46 : goes Try.prog 46 = true := by kernel_rfl
@[go_sem] theorem go47 : goes Try.prog 47 = true := by kernel_rfl
@[go_sem] theorem go48 : goes Try.prog 48 = true := by kernel_rfl
@[go_sem] theorem go49 : goes Try.prog 49 = true := by kernel_rfl
@[go_sem] theorem go50 : goes Try.prog 50 = true := by kernel_rfl
@[go_sem] theorem go51 : goes Try.prog 51 = true := by kernel_rfl
@[go_sem] theorem go52 : goes Try.prog 52 = true := by kernel_rfl
@[go_sem] theorem go53 : goes Try.prog 53 = true := by kernel_rfl
@[go_sem] theorem go54 : goes Try.prog 54 = true := by kernel_rfl
@[go_sem] theorem go55 : goes Try.prog 55 = true := by kernel_rfl
@[go_sem] theorem go56 : goes Try.prog 56 = true := by kernel_rfl
@[go_sem] theorem go57 : goes Try.prog 57 = true := by kernel_rfl
@[go_sem] theorem go58 : goes Try.prog 58 = true := by kernel_rfl
@[go_sem] theorem go59 : goes Try.prog 59 = true := by kernel_rfl
@[go_sem] theorem go60 : goes Try.prog 60 = true := by kernel_rfl
@[go_sem] theorem go61 : goes Try.prog 61 = true := by kernel_rfl
@[go_sem] theorem go62 : goes Try.prog 62 = true := by kernel_rfl
@[go_sem] theorem go63 : goes Try.prog 63 = true := by kernel_rfl
@[go_sem] theorem go64 : goes Try.prog 64 = true := by kernel_rfl
@[go_sem] theorem go65 : goes Try.prog 65 = true := by kernel_rfl
@[go_sem] theorem go66 : goes Try.prog 66 = true := by kernel_rfl
@[go_sem] theorem go67 : goes Try.prog 67 = true := by kernel_rfl
@[go_sem] theorem go68 : goes Try.prog 68 = true := by kernel_rfl
@[go_sem] theorem go69 : goes Try.prog 69 = true := by kernel_rfl
@[go_sem] theorem go70 : goes Try.prog 70 = true := by kernel_rfl
@[go_sem] theorem go71 : goes Try.prog 71 = true := by kernel_rfl
@[go_sem] theorem go72 : goes Try.prog 72 = true := by kernel_rfl
@[go_sem] theorem go73 : goes Try.prog 73 = true := by kernel_rfl
@[go_sem] theorem go74 : goes Try.prog 74 = true := by kernel_rfl
@[go_sem] theorem go75 : goes Try.prog 75 = true := by kernel_rfl
@[go_sem] theorem go76 : goes Try.prog 76 = true := by kernel_rfl
@[go_sem] theorem go77 : goes Try.prog 77 = true := by kernel_rfl
@[go_sem] theorem go78 : goes Try.prog 78 = true := by kernel_rfl
@[go_sem] theorem go79 : goes Try.prog 79 = true := by kernel_rfl
@[go_sem] theorem go80 : goes Try.prog 80 = true := by kernel_rfl
@[go_sem] theorem go81 : goes Try.prog 81 = true := by kernel_rfl
@[go_sem] theorem go82 : goes Try.prog 82 = true := by kernel_rfl
@[go_sem] theorem go83 : goes Try.prog 83 = true := by kernel_rfl
@[go_sem] theorem go84 : goes Try.prog 84 = true := by kernel_rfl
@[go_sem] theorem go85 : goes Try.prog 85 = true := by kernel_rfl
@[go_sem] theorem go86 : goes Try.prog 86 = true := by kernel_rfl
@[go_sem] theorem go87 : goes Try.prog 87 = true := by kernel_rfl
@[go_sem] theorem go88 : goes Try.prog 88 = true := by kernel_rfl
@[go_sem] theorem go89 : goes Try.prog 89 = true := by kernel_rfl
@[go_sem] theorem go90 : goes Try.prog 90 = true := by kernel_rfl
@[go_sem] theorem go91 : goes Try.prog 91 = true := by kernel_rfl
@[go_sem] theorem go92 : goes Try.prog 92 = true := by kernel_rfl
@[go_sem] theorem go93 : goes Try.prog 93 = true := by kernel_rfl
@[go_sem] theorem go94 : goes Try.prog 94 = true := by kernel_rfl
@[go_sem] theorem go95 : goes Try.prog 95 = true := by kernel_rfl
@[go_sem] theorem go96 : goes Try.prog 96 = true := by kernel_rfl
@[go_sem] theorem go97 : goes Try.prog 97 = true := by kernel_rfl
@[go_sem] theorem go98 : goes Try.prog 98 = true := by kernel_rfl
@[go_sem] theorem go99 : goes Try.prog 99 = true := by kernel_rfl
@[go_sem] theorem go100 : goes Try.prog 100 = true := by kernel_rfl
@[go_sem] theorem go101 : goes Try.prog 101 = true := by kernel_rfl
@[go_sem] theorem go102 : goes Try.prog 102 = true := by kernel_rfl
@[go_sem] theorem go103 : goes Try.prog 103 = true := by kernel_rfl
@[go_sem] theorem go104 : goes Try.prog 104 = true := by kernel_rfl
@[go_sem] theorem go105 : goes Try.prog 105 = true := by kernel_rfl
@[go_sem] theorem go106 : goes Try.prog 106 = true := by kernel_rfl
@[go_sem] theorem go107 : goes Try.prog 107 = true := by kernel_rfl
@[go_sem] theorem go108 : goes Try.prog 108 = true := by kernel_rfl
@[go_sem] theorem go109 : goes Try.prog 109 = true := by kernel_rfl
@[go_sem] theorem go110 : goes Try.prog 110 = true := by kernel_rfl
@[go_sem] theorem go111 : goes Try.prog 111 = true := by kernel_rfl
@[go_sem] theorem go112 : goes Try.prog 112 = true := by kernel_rfl
@[go_sem] theorem go113 : goes Try.prog 113 = true := by kernel_rfl
@[go_sem] theorem go114 : goes Try.prog 114 = true := by kernel_rfl
@[go_sem] theorem go115 : goes Try.prog 115 = true := by kernel_rfl
@[go_sem] theorem go116 : goes Try.prog 116 = true := by kernel_rfl
@[go_sem] theorem go117 : goes Try.prog 117 = true := by kernel_rfl
@[go_sem] theorem go118 : goes Try.prog 118 = true := by kernel_rfl
@[go_sem] theorem go119 : goes Try.prog 119 = true := by kernel_rfl
@[go_sem] theorem go120 : goes Try.prog 120 = true := by kernel_rfl
@[go_sem] theorem go121 : goes Try.prog 121 = true := by kernel_rfl
@[go_sem] theorem go122 : goes Try.prog 122 = true := by kernel_rfl
@[go_sem] theorem go123 : goes Try.prog 123 = true := by kernel_rfl
@[go_sem] theorem go124 : goes Try.prog 124 = true := by kernel_rfl
@[go_sem] theorem go125 : goes Try.prog 125 = true := by kernel_rfl
@[go_sem] theorem go126 : goes Try.prog 126 = true := by kernel_rfl
@[go_sem] theorem go127 : goes Try.prog 127 = true := by kernel_rfl
@[go_sem] theorem go128 : goes Try.prog 128 = true := by kernel_rfl
@[go_sem] theorem go129 : goes Try.prog 129 = true := by kernel_rfl
@[go_sem] theorem go130 : goes Try.prog 130 = true := by kernel_rfl
@[go_sem] theorem go131 : goes Try.prog 131 = true := by kernel_rfl
@[go_sem] theorem go132 : goes Try.prog 132 = true := by kernel_rfl
@[go_sem] theorem go133 : goes Try.prog 133 = true := by kernel_rfl
@[go_sem] theorem go134 : goes Try.prog 134 = true := by kernel_rfl
@[go_sem] theorem go135 : goes Try.prog 135 = true := by kernel_rfl
@[go_sem] theorem go136 : goes Try.prog 136 = true := by kernel_rfl
@[go_sem] theorem go137 : goes Try.prog 137 = true := by kernel_rfl
@[go_sem] theorem go138 : goes Try.prog 138 = true := by kernel_rfl
@[go_sem] theorem go139 : goes Try.prog 139 = true := by kernel_rfl
@[go_sem] theorem go140 : goes Try.prog 140 = true := by kernel_rfl
@[go_sem] theorem go141 : goes Try.prog 141 = true := by kernel_rfl
@[go_sem] theorem go142 : goes Try.prog 142 = true := by kernel_rfl
@[go_sem] theorem go143 : goes Try.prog 143 = true := by kernel_rfl
@[go_sem] theorem go144 : goes Try.prog 144 = true := by kernel_rfl
@[go_sem] theorem go145 : goes Try.prog 145 = true := by kernel_rfl
@[go_sem] theorem go146 : goes Try.prog 146 = true := by kernel_rfl
@[go_sem] theorem go147 : goes Try.prog 147 = true := by kernel_rfl
@[go_sem] theorem go148 : goes Try.prog 148 = true := by kernel_rfl
@[go_sem] theorem go149 : goes Try.prog 149 = true := by kernel_rfl
@[go_sem] theorem go150 : goes Try.prog 150 = true := by kernel_rfl
@[go_sem] theorem go151 : goes Try.prog 151 = true := by kernel_rfl
@[go_sem] theorem go152 : goes Try.prog 152 = true := by kernel_rfl
@[go_sem] theorem go153 : goes Try.prog 153 = true := by kernel_rfl
@[go_sem] theorem go154 : goes Try.prog 154 = true := by kernel_rfl
@[go_sem] theorem go155 : goes Try.prog 155 = true := by kernel_rfl
@[go_sem] theorem go156 : goes Try.prog 156 = true := by kernel_rfl
@[go_sem] theorem go157 : goes Try.prog 157 = true := by kernel_rfl
@[go_sem] theorem go158 : goes Try.prog 158 = true := by kernel_rfl
@[go_sem] theorem go159 : goes Try.prog 159 = true := by kernel_rfl
@[go_sem] theorem go160 : goes Try.prog 160 = true := by kernel_rfl
@[go_sem] theorem go161 : goes Try.prog 161 = true := by kernel_rfl
@[go_sem] theorem go162 : goes Try.prog 162 = true := by kernel_rfl
@[go_sem] theorem go163 : goes Try.prog 163 = true := by kernel_rfl
@[go_sem] theorem go164 : goes Try.prog 164 = true := by kernel_rfl
@[go_sem] theorem go165 : goes Try.prog 165 = true := by kernel_rfl
@[go_sem] theorem go166 : goes Try.prog 166 = true := by kernel_rfl
@[go_sem] theorem go168 : goes Try.prog 168 = true := by kernel_rfl
@[go_sem] theorem go169 : goes Try.prog 169 = true := by kernel_rfl
@[go_sem] theorem go170 : goes Try.prog 170 = true := by kernel_rfl
@[go_sem] theorem go171 : goes Try.prog 171 = true := by kernel_rfl
@[go_sem] theorem go172 : goes Try.prog 172 = true := by kernel_rfl
@[go_sem] theorem go173 : goes Try.prog 173 = true := by kernel_rfl
@[go_sem] theorem go174 : goes Try.prog 174 = true := by kernel_rfl
@[go_sem] theorem go175 : goes Try.prog 175 = true := by kernel_rfl
@[go_sem] theorem go176 : goes Try.prog 176 = true := by kernel_rfl
@[go_sem] theorem go177 : goes Try.prog 177 = true := by kernel_rfl
@[go_sem] theorem go178 : goes Try.prog 178 = true := by kernel_rfl
@[go_sem] theorem go179 : goes Try.prog 179 = true := by kernel_rfl
@[go_sem] theorem go180 : goes Try.prog 180 = true := by kernel_rfl
def headCodes : List Nat := [104, 97, 114, 110, 101, 115, 115, 32, 55, 53, 99, 55, 49, 101, 102, 102, 53, 56, 101, 98, 49, 49, 50, 48, 50, 52, 51, 49, 49, 97, 102, 101, 48, 48, 102, 57, 97, 101, 53, 52, 99, 101, 56, 50, 54, 102, 50, 56, 100, 100, 54, 53, 53, 56, 97, 50, 51, 97, 53, 52, 98, 50, 53, 55, 98, 56, 52, 53, 54, 102, 100, 54, 32, 99, 117, 116, 32, 97, 116, 32, 99, 111, 110, 99, 108, 97, 118, 101, 47, 99, 111, 110, 99, 108, 97, 118, 101, 108, 97, 119, 46, 78, 97, 109, 101, 115, 32, 99, 111, 110, 99, 108, 97, 118, 101, 47, 99, 111, 110, 99, 108, 97, 118, 101, 108, 97, 119, 46, 83, 104, 97, 83, 97, 109, 101, 115, 32, 99, 111, 110, 99, 108, 97, 118, 101, 47, 99, 111, 110, 99, 108, 97, 118, 101, 108, 97, 119, 46, 86, 97, 117, 108, 116, 67, 104, 101, 99, 107, 115, 32, 99, 111, 110, 99, 108, 97, 118, 101, 47, 99, 111, 110, 99, 108, 97, 118, 101, 108, 97, 119, 46, 76, 105, 110, 101, 67, 104, 101, 99, 107, 115, 32, 99, 111, 110, 99, 108, 97, 118, 101, 47, 99, 111, 110, 99, 108, 97, 118, 101, 108, 97, 119, 46, 76, 105, 110, 101, 78, 101, 119, 115, 32, 99, 111, 110, 99, 108, 97, 118, 101, 47, 99, 111, 110, 99, 108, 97, 118, 101, 108, 97, 119, 46, 79, 114, 100, 101, 114, 67, 104, 101, 99, 107, 115, 32, 99, 111, 110, 99, 108, 97, 118, 101, 47, 99, 111, 110, 99, 108, 97, 118, 101, 108, 97, 119, 46, 83, 116, 97, 98, 108, 101, 83, 121, 110, 99, 115, 32, 99, 111, 110, 99, 108, 97, 118, 101, 47, 99, 111, 110, 99, 108, 97, 118, 101, 108, 97, 119, 46, 83, 116, 97, 98, 108, 101, 67, 114, 97, 115, 104, 101, 115, 32, 99, 111, 110, 99, 108, 97, 118, 101, 47, 99, 111, 110, 99, 108, 97, 118, 101, 108, 97, 119, 46, 76, 105, 110, 101, 115, 67, 104, 101, 99, 107, 115, 32, 99, 111, 110, 99, 108, 97, 118, 101, 47, 99, 111, 110, 99, 108, 97, 118, 101, 108, 97, 119, 46, 79, 114, 100, 101, 114, 69, 110, 99, 111, 100, 101, 115, 32, 99, 111, 110, 99, 108, 97, 118, 101, 47, 99, 111, 110, 99, 108, 97, 118, 101, 108, 97, 119, 46, 79, 114, 100, 101, 114, 68, 101, 99, 111, 100, 101, 115, 32, 99, 111, 110, 99, 108, 97, 118, 101, 47, 99, 111, 110, 99, 108, 97, 118, 101, 108, 97, 119, 46, 67, 104, 97, 66, 108, 111, 99, 107, 115, 32, 99, 111, 110, 99, 108, 97, 118, 101, 47, 99, 111, 110, 99, 108, 97, 118, 101, 108, 97, 119, 46, 67, 104, 97, 77, 105, 120, 101, 115, 32, 99, 111, 110, 99, 108, 97, 118, 101, 47, 99, 111, 110, 99, 108, 97, 118, 101, 108, 97, 119, 46, 86, 97, 117, 108, 116, 68, 111, 101, 115, 32, 99, 111, 110, 99, 108, 97, 118, 101, 47, 99, 111, 110, 99, 108, 97, 118, 101, 108, 97, 119, 46, 80, 97, 120, 111, 115, 67, 104, 101, 99, 107, 115, 32, 99, 111, 110, 99, 108, 97, 118, 101, 47, 99, 111, 110, 99, 108, 97, 118, 101, 108, 97, 119, 46, 80, 97, 120, 111, 115, 80, 105, 99, 107, 115, 32, 99, 111, 110, 99, 108, 97, 118, 101, 47, 99, 111, 110, 99, 108, 97, 118, 101, 108, 97, 119, 46, 80, 111, 108, 121, 84, 97, 103, 115, 32, 99, 111, 110, 99, 108, 97, 118, 101, 47, 99, 111, 110, 99, 108, 97, 118, 101, 108, 97, 119, 46, 80, 97, 120, 111, 115, 80, 114, 111, 109, 105, 115, 101, 115, 32, 99, 111, 110, 99, 108, 97, 118, 101, 47, 99, 111, 110, 99, 108, 97, 118, 101, 108, 97, 119, 46, 80, 97, 120, 111, 115, 67, 104, 111, 115, 101, 110, 115, 32, 99, 111, 110, 99, 108, 97, 118, 101, 47, 99, 111, 110, 99, 108, 97, 118, 101, 108, 97, 119, 46, 67, 117, 114, 118, 101, 83, 104, 97, 114, 101, 100, 115, 32, 99, 111, 110, 99, 108, 97, 118, 101, 47, 99, 111, 110, 99, 108, 97, 118, 101, 108, 97, 119, 46, 67, 117, 114, 118, 101, 80, 111, 105, 110, 116, 115, 32, 99, 111, 110, 99, 108, 97, 118, 101, 47, 99, 111, 110, 99, 108, 97, 118, 101, 108, 97, 119, 46, 83, 101, 97, 108, 83, 101, 97, 108, 115, 32, 99, 111, 110, 99, 108, 97, 118, 101, 47, 99, 111, 110, 99, 108, 97, 118, 101, 108, 97, 119, 46, 83, 101, 97, 108, 79, 112, 101, 110, 115, 32, 99, 111, 110, 99, 108, 97, 118, 101, 47, 99, 111, 110, 99, 108, 97, 118, 101, 108, 97, 119, 46, 80, 97, 120, 111, 115, 65, 99, 99, 101, 112, 116, 115, 32, 99, 111, 110, 99, 108, 97, 118, 101, 47, 99, 111, 110, 99, 108, 97, 118, 101, 108, 97, 119, 46, 76, 105, 110, 101, 83, 101, 110, 100, 115, 32, 99, 111, 110, 99, 108, 97, 118, 101, 47, 99, 111, 110, 99, 108, 97, 118, 101, 108, 97, 119, 46, 76, 105, 110, 101, 84, 97, 107, 101, 115]
theorem wordsT : ∃ rest, Go.behindMainWord (Go.wordsSigns Try.prog.initOrder.toList) = "cut".toList :: rest :=
  cut_words (L := headCodes.map Char.ofNat) (by kernel_rfl) (by kernel_rfl)
theorem makeT : Try.prog.make = some .cut := wordsT.elim fun _ h => cut_make h
theorem liftsT : Try.prog.liftsFinal = false := wordsT.elim fun _ h => cut_lifts h
theorem enterT : Try.prog.mayEnter = true := wordsT.elim fun _ h => cut_enter h (by kernel_rfl) (by kernel_rfl) (by kernel_rfl)
theorem ownKnobT : Go.ownKnob Try.prog.godebug = none := by kernel_rfl
theorem laidOutT : Go.laidOutB Try.prog = true := by kernel_rfl
theorem mixed : Try.prog.follows .mixedOrders = true := by kernel_rfl
end Go.Proofs.Ytjgbajgmndkfjaa
