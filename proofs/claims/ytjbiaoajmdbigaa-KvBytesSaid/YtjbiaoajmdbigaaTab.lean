/- The table of the program's types, as the logic reads it; the order in regions is open. -/
import Derived.Test.YtjbiaoajmdbigaaEB
import Derived.Test.YtjbiaoajmdbigaaProg
import Derived.KernelRfl
set_option maxRecDepth 100000
set_option linter.unusedVariables false
set_option linter.unusedSimpArgs false
namespace Go.Proofs.Ytjbiaoajmdbigaa
open Go Go.E
def ty0 : Nat × TI := (1, ⟨6, false, 1, 8, some [.nilFunc], none, none, [], none⟩)
theorem ty0_ok : tiOf Try.prog ty0.1 = some ty0.2 := by kernel_rfl
def ty1 : Nat × TI := (2, ⟨0, false, 1, 8, some [.int .i64 0], none, none, [], none⟩)
theorem ty1_ok : tiOf Try.prog ty1.1 = some ty1.2 := by kernel_rfl
def ty2 : Nat × TI := (3, ⟨0, false, 1, 8, some [.int .i64 0], none, none, [], none⟩)
theorem ty2_ok : tiOf Try.prog ty2.1 = some ty2.2 := by kernel_rfl
def ty3 : Nat × TI := (4, ⟨0, false, 1, 1, some [.bool false], none, none, [], none⟩)
theorem ty3_ok : tiOf Try.prog ty3.1 = some ty3.2 := by kernel_rfl
def ty4 : Nat × TI := (5, ⟨0, false, 1, 1, some [.int .u8 0], none, none, [], none⟩)
theorem ty4_ok : tiOf Try.prog ty4.1 = some ty4.2 := by kernel_rfl
def ty5 : Nat × TI := (6, ⟨0, false, 1, 1, some [.int .u8 0], none, none, [], none⟩)
theorem ty5_ok : tiOf Try.prog ty5.1 = some ty5.2 := by kernel_rfl
def ty6 : Nat × TI := (7, ⟨0, true, 4, 24, some [.int .i64 0, .int .i64 0, .bool false, .int .u8 0], none, some [(0, 1), (1, 1), (2, 1), (3, 1)], [2, 3, 4, 6], none⟩)
theorem ty6_ok : tiOf Try.prog ty6.1 = some ty6.2 := by kernel_rfl
def ty7 : Nat × TI := (8, ⟨0, true, 4, 24, some [.int .i64 0, .int .i64 0, .bool false, .int .u8 0], none, some [(0, 1), (1, 1), (2, 1), (3, 1)], [2, 3, 4, 6], none⟩)
theorem ty7_ok : tiOf Try.prog ty7.1 = some ty7.2 := by kernel_rfl
def ty8 : Nat × TI := (9, ⟨4, false, 1, 16, some [.string ⟨#[]⟩], none, none, [], none⟩)
theorem ty8_ok : tiOf Try.prog ty8.1 = some ty8.2 := by kernel_rfl
def ty9 : Nat × TI := (10, ⟨4, false, 1, 16, some [.string ⟨#[]⟩], none, none, [], none⟩)
theorem ty9_ok : tiOf Try.prog ty9.1 = some ty9.2 := by kernel_rfl
def ty10 : Nat × TI := (11, ⟨4, false, 1, 16, some [.string ⟨#[]⟩], none, none, [], none⟩)
theorem ty10_ok : tiOf Try.prog ty10.1 = some ty10.2 := by kernel_rfl
def ty11 : Nat × TI := (12, ⟨0, false, 1, 8, some [.int .u64 0], none, none, [], none⟩)
theorem ty11_ok : tiOf Try.prog ty11.1 = some ty11.2 := by kernel_rfl
def ty12 : Nat × TI := (13, ⟨0, true, 2, 24, some [.string ⟨#[]⟩, .int .u64 0], none, some [(0, 1), (1, 1)], [9, 12], none⟩)
theorem ty12_ok : tiOf Try.prog ty12.1 = some ty12.2 := by kernel_rfl
def ty13 : Nat × TI := (14, ⟨0, true, 2, 24, some [.string ⟨#[]⟩, .int .u64 0], none, some [(0, 1), (1, 1)], [9, 12], none⟩)
theorem ty13_ok : tiOf Try.prog ty13.1 = some ty13.2 := by kernel_rfl
def ty14 : Nat × TI := (15, ⟨1, false, 1, 8, some [.pointer none], none, none, [], none⟩)
theorem ty14_ok : tiOf Try.prog ty14.1 = some ty14.2 := by kernel_rfl
def ty15 : Nat × TI := (16, ⟨1, false, 1, 8, some [.pointer none], none, none, [], none⟩)
theorem ty15_ok : tiOf Try.prog ty15.1 = some ty15.2 := by kernel_rfl
def ty16 : Nat × TI := (17, ⟨1, false, 1, 8, some [.pointer none], none, none, [], none⟩)
theorem ty16_ok : tiOf Try.prog ty16.1 = some ty16.2 := by kernel_rfl
def ty17 : Nat × TI := (18, ⟨0, true, 1, 8, some [.pointer none], none, some [(0, 1)], [17], none⟩)
theorem ty17_ok : tiOf Try.prog ty17.1 = some ty17.2 := by kernel_rfl
def ty18 : Nat × TI := (19, ⟨0, true, 1, 8, some [.pointer none], none, some [(0, 1)], [17], none⟩)
theorem ty18_ok : tiOf Try.prog ty18.1 = some ty18.2 := by kernel_rfl
def ty19 : Nat × TI := (20, ⟨5, false, 1, 16, some [.nilIface], none, none, [], none⟩)
theorem ty19_ok : tiOf Try.prog ty19.1 = some ty19.2 := by kernel_rfl
def ty20 : Nat × TI := (21, ⟨0, false, 1, 4, some [.int .i32 0], none, none, [], none⟩)
theorem ty20_ok : tiOf Try.prog ty20.1 = some ty20.2 := by kernel_rfl
def ty21 : Nat × TI := (22, ⟨2, false, 1, 24, some [.slice none 0 0], some 46, none, [], none⟩)
theorem ty21_ok : tiOf Try.prog ty21.1 = some ty21.2 := by kernel_rfl
def ty22 : Nat × TI := (23, ⟨2, false, 1, 24, some [.slice none 0 0], some 35, none, [], none⟩)
theorem ty22_ok : tiOf Try.prog ty22.1 = some ty22.2 := by kernel_rfl
def ty23 : Nat × TI := (24, ⟨2, false, 1, 24, some [.slice none 0 0], some 3, none, [], none⟩)
theorem ty23_ok : tiOf Try.prog ty23.1 = some ty23.2 := by kernel_rfl
def ty24 : Nat × TI := (25, ⟨6, false, 1, 8, some [.nilFunc], none, none, [], none⟩)
theorem ty24_ok : tiOf Try.prog ty24.1 = some ty24.2 := by kernel_rfl
def ty25 : Nat × TI := (26, ⟨6, false, 1, 8, some [.nilFunc], none, none, [], none⟩)
theorem ty25_ok : tiOf Try.prog ty25.1 = some ty25.2 := by kernel_rfl
def ty26 : Nat × TI := (27, ⟨6, false, 1, 8, some [.nilFunc], none, none, [], none⟩)
theorem ty26_ok : tiOf Try.prog ty26.1 = some ty26.2 := by kernel_rfl
def ty27 : Nat × TI := (28, ⟨1, false, 1, 8, some [.pointer none], none, none, [], none⟩)
theorem ty27_ok : tiOf Try.prog ty27.1 = some ty27.2 := by kernel_rfl
def ty28 : Nat × TI := (29, ⟨2, false, 1, 24, some [.slice none 0 0], some 44, none, [], none⟩)
theorem ty28_ok : tiOf Try.prog ty28.1 = some ty28.2 := by kernel_rfl
def ty29 : Nat × TI := (31, ⟨6, false, 1, 8, some [.nilFunc], none, none, [], none⟩)
theorem ty29_ok : tiOf Try.prog ty29.1 = some ty29.2 := by kernel_rfl
def ty30 : Nat × TI := (32, ⟨6, false, 1, 8, some [.nilFunc], none, none, [], none⟩)
theorem ty30_ok : tiOf Try.prog ty30.1 = some ty30.2 := by kernel_rfl
def ty31 : Nat × TI := (33, ⟨6, false, 1, 8, some [.nilFunc], none, none, [], none⟩)
theorem ty31_ok : tiOf Try.prog ty31.1 = some ty31.2 := by kernel_rfl
def ty32 : Nat × TI := (34, ⟨0, true, 3, 40, some [.string ⟨#[]⟩, .bool false, .string ⟨#[]⟩], none, some [(0, 1), (1, 1), (2, 1)], [9, 4, 9], none⟩)
theorem ty32_ok : tiOf Try.prog ty32.1 = some ty32.2 := by kernel_rfl
def ty33 : Nat × TI := (35, ⟨0, true, 3, 40, some [.string ⟨#[]⟩, .bool false, .string ⟨#[]⟩], none, some [(0, 1), (1, 1), (2, 1)], [9, 4, 9], none⟩)
theorem ty33_ok : tiOf Try.prog ty33.1 = some ty33.2 := by kernel_rfl
def ty34 : Nat × TI := (36, ⟨0, false, 1, 8, some [.int .u64 0], none, none, [], none⟩)
theorem ty34_ok : tiOf Try.prog ty34.1 = some ty34.2 := by kernel_rfl
def ty35 : Nat × TI := (37, ⟨0, false, 1, 8, some [.int .i64 0], none, none, [], none⟩)
theorem ty35_ok : tiOf Try.prog ty35.1 = some ty35.2 := by kernel_rfl
def ty36 : Nat × TI := (39, ⟨6, false, 1, 8, some [.nilFunc], none, none, [], none⟩)
theorem ty36_ok : tiOf Try.prog ty36.1 = some ty36.2 := by kernel_rfl
def ty37 : Nat × TI := (40, ⟨6, false, 1, 8, some [.nilFunc], none, none, [], none⟩)
theorem ty37_ok : tiOf Try.prog ty37.1 = some ty37.2 := by kernel_rfl
def ty38 : Nat × TI := (41, ⟨6, false, 1, 8, some [.nilFunc], none, none, [], none⟩)
theorem ty38_ok : tiOf Try.prog ty38.1 = some ty38.2 := by kernel_rfl
def ty39 : Nat × TI := (42, ⟨6, false, 1, 8, some [.nilFunc], none, none, [], none⟩)
theorem ty39_ok : tiOf Try.prog ty39.1 = some ty39.2 := by kernel_rfl
def ty40 : Nat × TI := (43, ⟨0, true, 6, 72, some [.int .i64 0, .string ⟨#[]⟩, .bool false, .string ⟨#[]⟩, .bool false, .string ⟨#[]⟩], none, some [(0, 1), (1, 1), (2, 1), (3, 1), (4, 1), (5, 1)], [3, 9, 4, 9, 4, 9], none⟩)
theorem ty40_ok : tiOf Try.prog ty40.1 = some ty40.2 := by kernel_rfl
def ty41 : Nat × TI := (44, ⟨0, true, 6, 72, some [.int .i64 0, .string ⟨#[]⟩, .bool false, .string ⟨#[]⟩, .bool false, .string ⟨#[]⟩], none, some [(0, 1), (1, 1), (2, 1), (3, 1), (4, 1), (5, 1)], [3, 9, 4, 9, 4, 9], none⟩)
theorem ty41_ok : tiOf Try.prog ty41.1 = some ty41.2 := by kernel_rfl
def ty42 : Nat × TI := (45, ⟨0, true, 12, 168, some [.int .i64 0, .int .i64 0, .slice none 0 0, .slice none 0 0, .string ⟨#[]⟩, .string ⟨#[]⟩, .int .i64 0, .string ⟨#[]⟩, .bool false, .string ⟨#[]⟩, .bool false, .string ⟨#[]⟩], none, some [(0, 1), (1, 1), (2, 1), (3, 1), (4, 1), (5, 1), (6, 6)], [3, 3, 23, 23, 9, 9, 44], none⟩)
theorem ty42_ok : tiOf Try.prog ty42.1 = some ty42.2 := by kernel_rfl
def ty43 : Nat × TI := (46, ⟨0, true, 12, 168, some [.int .i64 0, .int .i64 0, .slice none 0 0, .slice none 0 0, .string ⟨#[]⟩, .string ⟨#[]⟩, .int .i64 0, .string ⟨#[]⟩, .bool false, .string ⟨#[]⟩, .bool false, .string ⟨#[]⟩], none, some [(0, 1), (1, 1), (2, 1), (3, 1), (4, 1), (5, 1), (6, 6)], [3, 3, 23, 23, 9, 9, 44], none⟩)
theorem ty43_ok : tiOf Try.prog ty43.1 = some ty43.2 := by kernel_rfl
def ty44 : Nat × TI := (47, ⟨6, false, 1, 8, some [.nilFunc], none, none, [], none⟩)
theorem ty44_ok : tiOf Try.prog ty44.1 = some ty44.2 := by kernel_rfl
def ty45 : Nat × TI := (48, ⟨6, false, 1, 8, some [.nilFunc], none, none, [], none⟩)
theorem ty45_ok : tiOf Try.prog ty45.1 = some ty45.2 := by kernel_rfl
def ty46 : Nat × TI := (49, ⟨1, false, 1, 8, some [.pointer none], none, none, [], none⟩)
theorem ty46_ok : tiOf Try.prog ty46.1 = some ty46.2 := by kernel_rfl
def ty47 : Nat × TI := (50, ⟨0, true, 1, 8, some [.pointer none], none, some [(0, 1)], [49], none⟩)
theorem ty47_ok : tiOf Try.prog ty47.1 = some ty47.2 := by kernel_rfl
def ty48 : Nat × TI := (51, ⟨0, true, 1, 8, some [.pointer none], none, some [(0, 1)], [49], none⟩)
theorem ty48_ok : tiOf Try.prog ty48.1 = some ty48.2 := by kernel_rfl
def ty49 : Nat × TI := (52, ⟨2, false, 1, 24, some [.slice none 0 0], some 28, none, [], none⟩)
theorem ty49_ok : tiOf Try.prog ty49.1 = some ty49.2 := by kernel_rfl
def ty50 : Nat × TI := (54, ⟨6, false, 1, 8, some [.nilFunc], none, none, [], none⟩)
theorem ty50_ok : tiOf Try.prog ty50.1 = some ty50.2 := by kernel_rfl
def ty51 : Nat × TI := (55, ⟨6, false, 1, 8, some [.nilFunc], none, none, [], none⟩)
theorem ty51_ok : tiOf Try.prog ty51.1 = some ty51.2 := by kernel_rfl
def ty52 : Nat × TI := (56, ⟨6, false, 1, 8, some [.nilFunc], none, none, [], none⟩)
theorem ty52_ok : tiOf Try.prog ty52.1 = some ty52.2 := by kernel_rfl
def ty53 : Nat × TI := (57, ⟨6, false, 1, 8, some [.nilFunc], none, none, [], none⟩)
theorem ty53_ok : tiOf Try.prog ty53.1 = some ty53.2 := by kernel_rfl
def ty54 : Nat × TI := (58, ⟨6, false, 1, 8, some [.nilFunc], none, none, [], none⟩)
theorem ty54_ok : tiOf Try.prog ty54.1 = some ty54.2 := by kernel_rfl
def ty55 : Nat × TI := (59, ⟨6, false, 1, 8, some [.nilFunc], none, none, [], none⟩)
theorem ty55_ok : tiOf Try.prog ty55.1 = some ty55.2 := by kernel_rfl
def ty56 : Nat × TI := (60, ⟨1, false, 1, 8, some [.pointer none], none, none, [], none⟩)
theorem ty56_ok : tiOf Try.prog ty56.1 = some ty56.2 := by kernel_rfl
def ty57 : Nat × TI := (61, ⟨0, true, 1, 24, some [.slice none 0 0], none, some [(0, 1)], [23], none⟩)
theorem ty57_ok : tiOf Try.prog ty57.1 = some ty57.2 := by kernel_rfl
def ty58 : Nat × TI := (62, ⟨0, true, 1, 24, some [.slice none 0 0], none, some [(0, 1)], [23], none⟩)
theorem ty58_ok : tiOf Try.prog ty58.1 = some ty58.2 := by kernel_rfl
def ty59 : Nat × TI := (63, ⟨6, false, 1, 8, some [.nilFunc], none, none, [], none⟩)
theorem ty59_ok : tiOf Try.prog ty59.1 = some ty59.2 := by kernel_rfl
def ty60 : Nat × TI := (64, ⟨6, false, 1, 8, some [.nilFunc], none, none, [], none⟩)
theorem ty60_ok : tiOf Try.prog ty60.1 = some ty60.2 := by kernel_rfl
def ty61 : Nat × TI := (65, ⟨2, false, 1, 24, some [.slice none 0 0], some 5, none, [], none⟩)
theorem ty61_ok : tiOf Try.prog ty61.1 = some ty61.2 := by kernel_rfl
def ty62 : Nat × TI := (66, ⟨6, false, 1, 8, some [.nilFunc], none, none, [], none⟩)
theorem ty62_ok : tiOf Try.prog ty62.1 = some ty62.2 := by kernel_rfl
def ty63 : Nat × TI := (67, ⟨6, false, 1, 8, some [.nilFunc], none, none, [], none⟩)
theorem ty63_ok : tiOf Try.prog ty63.1 = some ty63.2 := by kernel_rfl
def ty64 : Nat × TI := (68, ⟨1, false, 1, 8, some [.pointer none], none, none, [], none⟩)
theorem ty64_ok : tiOf Try.prog ty64.1 = some ty64.2 := by kernel_rfl
def ty65 : Nat × TI := (69, ⟨6, false, 1, 8, some [.nilFunc], none, none, [], none⟩)
theorem ty65_ok : tiOf Try.prog ty65.1 = some ty65.2 := by kernel_rfl
def ty66 : Nat × TI := (70, ⟨6, false, 1, 8, some [.nilFunc], none, none, [], none⟩)
theorem ty66_ok : tiOf Try.prog ty66.1 = some ty66.2 := by kernel_rfl
def ty67 : Nat × TI := (71, ⟨6, false, 1, 8, some [.nilFunc], none, none, [], none⟩)
theorem ty67_ok : tiOf Try.prog ty67.1 = some ty67.2 := by kernel_rfl
def ty68 : Nat × TI := (72, ⟨1, false, 1, 8, some [.pointer none], none, none, [], none⟩)
theorem ty68_ok : tiOf Try.prog ty68.1 = some ty68.2 := by kernel_rfl
def ty69 : Nat × TI := (73, ⟨0, true, 3, 40, some [.slice none 0 0, .int .i64 0, .int .i64 0], none, some [(0, 1), (1, 1), (2, 1)], [65, 3, 37], none⟩)
theorem ty69_ok : tiOf Try.prog ty69.1 = some ty69.2 := by kernel_rfl
def ty70 : Nat × TI := (74, ⟨0, true, 3, 40, some [.slice none 0 0, .int .i64 0, .int .i64 0], none, some [(0, 1), (1, 1), (2, 1)], [65, 3, 37], none⟩)
theorem ty70_ok : tiOf Try.prog ty70.1 = some ty70.2 := by kernel_rfl
def ty71 : Nat × TI := (75, ⟨6, false, 1, 8, some [.nilFunc], none, none, [], none⟩)
theorem ty71_ok : tiOf Try.prog ty71.1 = some ty71.2 := by kernel_rfl
def ty72 : Nat × TI := (76, ⟨6, false, 1, 8, some [.nilFunc], none, none, [], none⟩)
theorem ty72_ok : tiOf Try.prog ty72.1 = some ty72.2 := by kernel_rfl
def ty73 : Nat × TI := (77, ⟨6, false, 1, 8, some [.nilFunc], none, none, [], none⟩)
theorem ty73_ok : tiOf Try.prog ty73.1 = some ty73.2 := by kernel_rfl
def ty74 : Nat × TI := (78, ⟨2, false, 1, 24, some [.slice none 0 0], some 81, none, [], none⟩)
theorem ty74_ok : tiOf Try.prog ty74.1 = some ty74.2 := by kernel_rfl
def ty75 : Nat × TI := (79, ⟨6, false, 1, 8, some [.nilFunc], none, none, [], none⟩)
theorem ty75_ok : tiOf Try.prog ty75.1 = some ty75.2 := by kernel_rfl
def ty76 : Nat × TI := (80, ⟨0, true, 2, 32, some [.string ⟨#[]⟩, .string ⟨#[]⟩], none, some [(0, 1), (1, 1)], [9, 9], none⟩)
theorem ty76_ok : tiOf Try.prog ty76.1 = some ty76.2 := by kernel_rfl
def ty77 : Nat × TI := (81, ⟨0, true, 2, 32, some [.string ⟨#[]⟩, .string ⟨#[]⟩], none, some [(0, 1), (1, 1)], [9, 9], none⟩)
theorem ty77_ok : tiOf Try.prog ty77.1 = some ty77.2 := by kernel_rfl
def ty78 : Nat × TI := (82, ⟨6, false, 1, 8, some [.nilFunc], none, none, [], none⟩)
theorem ty78_ok : tiOf Try.prog ty78.1 = some ty78.2 := by kernel_rfl
def ty79 : Nat × TI := (83, ⟨6, false, 1, 8, some [.nilFunc], none, none, [], none⟩)
theorem ty79_ok : tiOf Try.prog ty79.1 = some ty79.2 := by kernel_rfl
def ty80 : Nat × TI := (84, ⟨6, false, 1, 8, some [.nilFunc], none, none, [], none⟩)
theorem ty80_ok : tiOf Try.prog ty80.1 = some ty80.2 := by kernel_rfl
def ty81 : Nat × TI := (85, ⟨6, false, 1, 8, some [.nilFunc], none, none, [], none⟩)
theorem ty81_ok : tiOf Try.prog ty81.1 = some ty81.2 := by kernel_rfl
def ty82 : Nat × TI := (86, ⟨2, false, 1, 24, some [.slice none 0 0], some 23, none, [], none⟩)
theorem ty82_ok : tiOf Try.prog ty82.1 = some ty82.2 := by kernel_rfl
def ty83 : Nat × TI := (87, ⟨6, false, 1, 8, some [.nilFunc], none, none, [], none⟩)
theorem ty83_ok : tiOf Try.prog ty83.1 = some ty83.2 := by kernel_rfl
def ty84 : Nat × TI := (88, ⟨6, false, 1, 8, some [.nilFunc], none, none, [], none⟩)
theorem ty84_ok : tiOf Try.prog ty84.1 = some ty84.2 := by kernel_rfl
def ty85 : Nat × TI := (89, ⟨6, false, 1, 8, some [.nilFunc], none, none, [], none⟩)
theorem ty85_ok : tiOf Try.prog ty85.1 = some ty85.2 := by kernel_rfl
def ty86 : Nat × TI := (90, ⟨6, false, 1, 8, some [.nilFunc], none, none, [], none⟩)
theorem ty86_ok : tiOf Try.prog ty86.1 = some ty86.2 := by kernel_rfl
def ty87 : Nat × TI := (91, ⟨6, false, 1, 8, some [.nilFunc], none, none, [], none⟩)
theorem ty87_ok : tiOf Try.prog ty87.1 = some ty87.2 := by kernel_rfl
def ty88 : Nat × TI := (92, ⟨6, false, 1, 8, some [.nilFunc], none, none, [], none⟩)
theorem ty88_ok : tiOf Try.prog ty88.1 = some ty88.2 := by kernel_rfl
def ty89 : Nat × TI := (93, ⟨0, true, 4, 48, some [.slice none 0 0, .int .i64 0, .int .i64 0, .bool false], none, some [(0, 1), (1, 1), (2, 1), (3, 1)], [65, 3, 37, 4], none⟩)
theorem ty89_ok : tiOf Try.prog ty89.1 = some ty89.2 := by kernel_rfl
def ty90 : Nat × TI := (94, ⟨0, true, 4, 48, some [.slice none 0 0, .int .i64 0, .int .i64 0, .bool false], none, some [(0, 1), (1, 1), (2, 1), (3, 1)], [65, 3, 37, 4], none⟩)
theorem ty90_ok : tiOf Try.prog ty90.1 = some ty90.2 := by kernel_rfl
def ty91 : Nat × TI := (95, ⟨6, false, 1, 8, some [.nilFunc], none, none, [], none⟩)
theorem ty91_ok : tiOf Try.prog ty91.1 = some ty91.2 := by kernel_rfl
def ty92 : Nat × TI := (96, ⟨6, false, 1, 8, some [.nilFunc], none, none, [], none⟩)
theorem ty92_ok : tiOf Try.prog ty92.1 = some ty92.2 := by kernel_rfl
def ty93 : Nat × TI := (97, ⟨6, false, 1, 8, some [.nilFunc], none, none, [], none⟩)
theorem ty93_ok : tiOf Try.prog ty93.1 = some ty93.2 := by kernel_rfl
def ty94 : Nat × TI := (98, ⟨1, false, 1, 8, some [.pointer none], none, none, [], none⟩)
theorem ty94_ok : tiOf Try.prog ty94.1 = some ty94.2 := by kernel_rfl
def ty95 : Nat × TI := (99, ⟨6, false, 1, 8, some [.nilFunc], none, none, [], none⟩)
theorem ty95_ok : tiOf Try.prog ty95.1 = some ty95.2 := by kernel_rfl
def ty96 : Nat × TI := (100, ⟨6, false, 1, 8, some [.nilFunc], none, none, [], none⟩)
theorem ty96_ok : tiOf Try.prog ty96.1 = some ty96.2 := by kernel_rfl
def ty97 : Nat × TI := (101, ⟨3, false, 1, 8, some [.map none], none, none, [], none⟩)
theorem ty97_ok : tiOf Try.prog ty97.1 = some ty97.2 := by kernel_rfl
def ty98 : Nat × TI := (102, ⟨0, true, 1, 8, some [.pointer none], none, some [(0, 1)], [98], none⟩)
theorem ty98_ok : tiOf Try.prog ty98.1 = some ty98.2 := by kernel_rfl
def ty99 : Nat × TI := (103, ⟨0, true, 1, 8, some [.pointer none], none, some [(0, 1)], [98], none⟩)
theorem ty99_ok : tiOf Try.prog ty99.1 = some ty99.2 := by kernel_rfl
def ty100 : Nat × TI := (104, ⟨6, false, 1, 8, some [.nilFunc], none, none, [], none⟩)
theorem ty100_ok : tiOf Try.prog ty100.1 = some ty100.2 := by kernel_rfl
def ty101 : Nat × TI := (105, ⟨0, true, 6, 64, some [.string ⟨#[]⟩, .string ⟨#[]⟩, .pointer none, .pointer none, .int .i64 0, .int .i64 0], none, some [(0, 2), (2, 1), (3, 1), (4, 1), (5, 1)], [81, 98, 98, 3, 3], none⟩)
theorem ty101_ok : tiOf Try.prog ty101.1 = some ty101.2 := by kernel_rfl
def ty102 : Nat × TI := (106, ⟨0, true, 6, 64, some [.string ⟨#[]⟩, .string ⟨#[]⟩, .pointer none, .pointer none, .int .i64 0, .int .i64 0], none, some [(0, 2), (2, 1), (3, 1), (4, 1), (5, 1)], [81, 98, 98, 3, 3], none⟩)
theorem ty102_ok : tiOf Try.prog ty102.1 = some ty102.2 := by kernel_rfl
def ty103 : Nat × TI := (107, ⟨6, false, 1, 8, some [.nilFunc], none, none, [], none⟩)
theorem ty103_ok : tiOf Try.prog ty103.1 = some ty103.2 := by kernel_rfl
def ty104 : Nat × TI := (108, ⟨6, false, 1, 8, some [.nilFunc], none, none, [], none⟩)
theorem ty104_ok : tiOf Try.prog ty104.1 = some ty104.2 := by kernel_rfl
def ty105 : Nat × TI := (109, ⟨6, false, 1, 8, some [.nilFunc], none, none, [], none⟩)
theorem ty105_ok : tiOf Try.prog ty105.1 = some ty105.2 := by kernel_rfl
def ty106 : Nat × TI := (110, ⟨6, false, 1, 8, some [.nilFunc], none, none, [], none⟩)
theorem ty106_ok : tiOf Try.prog ty106.1 = some ty106.2 := by kernel_rfl
def ty107 : Nat × TI := (112, ⟨6, false, 1, 8, some [.nilFunc], none, none, [], none⟩)
theorem ty107_ok : tiOf Try.prog ty107.1 = some ty107.2 := by kernel_rfl
def ty108 : Nat × TI := (113, ⟨6, false, 1, 8, some [.nilFunc], none, none, [], none⟩)
theorem ty108_ok : tiOf Try.prog ty108.1 = some ty108.2 := by kernel_rfl
def ty109 : Nat × TI := (114, ⟨6, false, 1, 8, some [.nilFunc], none, none, [], none⟩)
theorem ty109_ok : tiOf Try.prog ty109.1 = some ty109.2 := by kernel_rfl
def ty110 : Nat × TI := (115, ⟨6, false, 1, 8, some [.nilFunc], none, none, [], none⟩)
theorem ty110_ok : tiOf Try.prog ty110.1 = some ty110.2 := by kernel_rfl
def ty111 : Nat × TI := (116, ⟨6, false, 1, 8, some [.nilFunc], none, none, [], none⟩)
theorem ty111_ok : tiOf Try.prog ty111.1 = some ty111.2 := by kernel_rfl
def ty112 : Nat × TI := (117, ⟨6, false, 1, 8, some [.nilFunc], none, none, [], none⟩)
theorem ty112_ok : tiOf Try.prog ty112.1 = some ty112.2 := by kernel_rfl
def ty113 : Nat × TI := (118, ⟨2, false, 1, 24, some [.slice none 0 0], some 21, none, [], none⟩)
theorem ty113_ok : tiOf Try.prog ty113.1 = some ty113.2 := by kernel_rfl
def ty114 : Nat × TI := (119, ⟨6, false, 1, 8, some [.nilFunc], none, none, [], none⟩)
theorem ty114_ok : tiOf Try.prog ty114.1 = some ty114.2 := by kernel_rfl
def ty115 : Nat × TI := (120, ⟨0, false, 1, 8, some [.int .u64 0], none, none, [], none⟩)
theorem ty115_ok : tiOf Try.prog ty115.1 = some ty115.2 := by kernel_rfl
def ty116 : Nat × TI := (122, ⟨6, false, 1, 8, some [.nilFunc], none, none, [], none⟩)
theorem ty116_ok : tiOf Try.prog ty116.1 = some ty116.2 := by kernel_rfl
def ty117 : Nat × TI := (123, ⟨6, false, 1, 8, some [.nilFunc], none, none, [], none⟩)
theorem ty117_ok : tiOf Try.prog ty117.1 = some ty117.2 := by kernel_rfl
def ty118 : Nat × TI := (124, ⟨6, false, 1, 8, some [.nilFunc], none, none, [], none⟩)
theorem ty118_ok : tiOf Try.prog ty118.1 = some ty118.2 := by kernel_rfl
def ty119 : Nat × TI := (125, ⟨0, true, 4, 40, some [.pointer none, .pointer none, .pointer none, .string ⟨#[]⟩], none, some [(0, 1), (1, 1), (2, 1), (3, 1)], [17, 17, 17, 9], none⟩)
theorem ty119_ok : tiOf Try.prog ty119.1 = some ty119.2 := by kernel_rfl
def ty120 : Nat × TI := (126, ⟨0, true, 4, 40, some [.pointer none, .pointer none, .pointer none, .string ⟨#[]⟩], none, some [(0, 1), (1, 1), (2, 1), (3, 1)], [17, 17, 17, 9], none⟩)
theorem ty120_ok : tiOf Try.prog ty120.1 = some ty120.2 := by kernel_rfl
def ty121 : Nat × TI := (127, ⟨0, true, 0, 0, some [], none, none, [], some (0, 16)⟩)
theorem ty121_ok : tiOf Try.prog ty121.1 = some ty121.2 := by kernel_rfl
def ty122 : Nat × TI := (128, ⟨0, true, 0, 0, some [], none, some [(0, 0)], [127], none⟩)
theorem ty122_ok : tiOf Try.prog ty122.1 = some ty122.2 := by kernel_rfl
def ty123 : Nat × TI := (129, ⟨0, true, 0, 0, some [], none, some [(0, 0)], [127], none⟩)
theorem ty123_ok : tiOf Try.prog ty123.1 = some ty123.2 := by kernel_rfl
def ty124 : Nat × TI := (130, ⟨0, false, 1, 4, some [.int .u32 0], none, none, [], none⟩)
theorem ty124_ok : tiOf Try.prog ty124.1 = some ty124.2 := by kernel_rfl
def ty125 : Nat × TI := (131, ⟨0, false, 1, 1, some [.int .u8 0], none, none, [], none⟩)
theorem ty125_ok : tiOf Try.prog ty125.1 = some ty125.2 := by kernel_rfl
def ty126 : Nat × TI := (132, ⟨0, false, 1, 1, some [.int .u8 0], none, none, [], none⟩)
theorem ty126_ok : tiOf Try.prog ty126.1 = some ty126.2 := by kernel_rfl
def ty127 : Nat × TI := (133, ⟨6, false, 1, 8, some [.nilFunc], none, none, [], none⟩)
theorem ty127_ok : tiOf Try.prog ty127.1 = some ty127.2 := by kernel_rfl
def ty128 : Nat × TI := (134, ⟨1, false, 1, 8, some [.pointer none], none, none, [], none⟩)
theorem ty128_ok : tiOf Try.prog ty128.1 = some ty128.2 := by kernel_rfl
def ty129 : Nat × TI := (135, ⟨0, false, 1, 4, some [.int .i32 0], none, none, [], none⟩)
theorem ty129_ok : tiOf Try.prog ty129.1 = some ty129.2 := by kernel_rfl
def ty130 : Nat × TI := (136, ⟨0, false, 1, 4, some [.int .i32 0], none, none, [], none⟩)
theorem ty130_ok : tiOf Try.prog ty130.1 = some ty130.2 := by kernel_rfl
def ty131 : Nat × TI := (137, ⟨0, true, 11, 48, some [.int .u64 0, .int .u64 0, .int .u32 0, .int .u8 0, .int .u8 0, .int .u8 0, .int .u8 0, .nilFunc, .pointer none, .int .i32 0, .int .i32 0], none, some [(0, 1), (1, 1), (2, 1), (3, 1), (4, 1), (5, 1), (6, 1), (7, 1), (8, 1), (9, 1), (10, 1)], [12, 12, 130, 131, 5, 5, 132, 133, 134, 135, 136], none⟩)
theorem ty131_ok : tiOf Try.prog ty131.1 = some ty131.2 := by kernel_rfl
def ty132 : Nat × TI := (138, ⟨0, true, 11, 48, some [.int .u64 0, .int .u64 0, .int .u32 0, .int .u8 0, .int .u8 0, .int .u8 0, .int .u8 0, .nilFunc, .pointer none, .int .i32 0, .int .i32 0], none, some [(0, 1), (1, 1), (2, 1), (3, 1), (4, 1), (5, 1), (6, 1), (7, 1), (8, 1), (9, 1), (10, 1)], [12, 12, 130, 131, 5, 5, 132, 133, 134, 135, 136], none⟩)
theorem ty132_ok : tiOf Try.prog ty132.1 = some ty132.2 := by kernel_rfl
def ty133 : Nat × TI := (139, ⟨0, false, 1, 8, some [.pointer none], none, none, [], none⟩)
theorem ty133_ok : tiOf Try.prog ty133.1 = some ty133.2 := by kernel_rfl
def tab : Tab := [ty0, ty1, ty2, ty3, ty4, ty5, ty6, ty7, ty8, ty9, ty10, ty11, ty12, ty13, ty14, ty15, ty16, ty17, ty18, ty19, ty20, ty21, ty22, ty23, ty24, ty25, ty26, ty27, ty28, ty29, ty30, ty31, ty32, ty33, ty34, ty35, ty36, ty37, ty38, ty39, ty40, ty41, ty42, ty43, ty44, ty45, ty46, ty47, ty48, ty49, ty50, ty51, ty52, ty53, ty54, ty55, ty56, ty57, ty58, ty59, ty60, ty61, ty62, ty63, ty64, ty65, ty66, ty67, ty68, ty69, ty70, ty71, ty72, ty73, ty74, ty75, ty76, ty77, ty78, ty79, ty80, ty81, ty82, ty83, ty84, ty85, ty86, ty87, ty88, ty89, ty90, ty91, ty92, ty93, ty94, ty95, ty96, ty97, ty98, ty99, ty100, ty101, ty102, ty103, ty104, ty105, ty106, ty107, ty108, ty109, ty110, ty111, ty112, ty113, ty114, ty115, ty116, ty117, ty118, ty119, ty120, ty121, ty122, ty123, ty124, ty125, ty126, ty127, ty128, ty129, ty130, ty131, ty132, ty133]
theorem tab_ok : TabOK Try.prog tab := TabAll.ok ⟨ty0_ok, ty1_ok, ty2_ok, ty3_ok, ty4_ok, ty5_ok, ty6_ok, ty7_ok, ty8_ok, ty9_ok, ty10_ok, ty11_ok, ty12_ok, ty13_ok, ty14_ok, ty15_ok, ty16_ok, ty17_ok, ty18_ok, ty19_ok, ty20_ok, ty21_ok, ty22_ok, ty23_ok, ty24_ok, ty25_ok, ty26_ok, ty27_ok, ty28_ok, ty29_ok, ty30_ok, ty31_ok, ty32_ok, ty33_ok, ty34_ok, ty35_ok, ty36_ok, ty37_ok, ty38_ok, ty39_ok, ty40_ok, ty41_ok, ty42_ok, ty43_ok, ty44_ok, ty45_ok, ty46_ok, ty47_ok, ty48_ok, ty49_ok, ty50_ok, ty51_ok, ty52_ok, ty53_ok, ty54_ok, ty55_ok, ty56_ok, ty57_ok, ty58_ok, ty59_ok, ty60_ok, ty61_ok, ty62_ok, ty63_ok, ty64_ok, ty65_ok, ty66_ok, ty67_ok, ty68_ok, ty69_ok, ty70_ok, ty71_ok, ty72_ok, ty73_ok, ty74_ok, ty75_ok, ty76_ok, ty77_ok, ty78_ok, ty79_ok, ty80_ok, ty81_ok, ty82_ok, ty83_ok, ty84_ok, ty85_ok, ty86_ok, ty87_ok, ty88_ok, ty89_ok, ty90_ok, ty91_ok, ty92_ok, ty93_ok, ty94_ok, ty95_ok, ty96_ok, ty97_ok, ty98_ok, ty99_ok, ty100_ok, ty101_ok, ty102_ok, ty103_ok, ty104_ok, ty105_ok, ty106_ok, ty107_ok, ty108_ok, ty109_ok, ty110_ok, ty111_ok, ty112_ok, ty113_ok, ty114_ok, ty115_ok, ty116_ok, ty117_ok, ty118_ok, ty119_ok, ty120_ok, ty121_ok, ty122_ok, ty123_ok, ty124_ok, ty125_ok, ty126_ok, ty127_ok, ty128_ok, ty129_ok, ty130_ok, ty131_ok, ty132_ok, ty133_ok, trivial⟩
theorem mixed : Try.prog.follows .mixedOrders = true := by kernel_rfl
theorem rk {G : Gh} {ops : List Oper} {open_ : Bool} {S : E.St} {id : Nat} {Q : Exit → E.St → Prop} (D : List Nat) (hs : List Hk) (ks ho : List Nat) (S' : E.St) (h : (runK Try.prog tab D (hintsK hs) ops open_ ks ho S, (obsK ops hs).isSome) = ((obsK ops hs).map fun obs => (S', obs), true)) (hh : HoldK Try.prog ops hs) (hQ : Q .normal S') : AWp Try.prog G (.region id ops.toArray open_) Q S := awp_rk tab_ok mixed D hs ks ho S' h hh hQ
def boxes : List Nat := [106, 103]
end Go.Proofs.Ytjbiaoajmdbigaa
