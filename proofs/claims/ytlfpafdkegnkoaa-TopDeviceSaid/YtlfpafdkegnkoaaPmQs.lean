/- statements of journal: bodies, in the form in which they are walked. Printed by a program. No law of Go's is stated here. -/
import Derived.Test.YtlfpafdkegnkoaaPmMd
import Derived.Test.YtlfpafdkegnkoaaPmMc
set_option linter.all false
set_option maxRecDepth 100000
namespace Go.Proofs.Ytlfpafdkegnkoaa.Pm
open Go Go.RowKit
def kc45 : C := (.seq (.seq (.reg ([⟨some 4, .assign (.const (.bool true)), none⟩])) (.keep [4])) .ret)
@[go_sem ↓] def uq57 := @unC _ _ kc45.eq_1
def kc46 : C := (.cond (.tmp 23) kc45 .skip)
@[go_sem ↓] def uq58 := @unC _ _ kc46.eq_1
def r_top_TopDevice_2 : List I := [⟨some 25, .unOp .not 4 (.tmp 24), none⟩]
@[go_sem ↓] def uq59 := @unI _ _ r_top_TopDevice_2.eq_1
def kc47 : C := (.seq (.seq (.reg ([⟨some 4, .assign (.const (.bool false)), none⟩])) (.keep [4])) .ret)
@[go_sem ↓] def uq60 := @unC _ _ kc47.eq_1
def kc48 : C := (.cond (.tmp 25) kc47 .skip)
@[go_sem ↓] def uq61 := @unC _ _ kc48.eq_1
def r_top_TopDevice_5 : List I := [⟨some 26, .move (.tmp 27), none⟩, ⟨some 28, .extract (.tmp 26) 0, none⟩, ⟨some 29, .extract (.tmp 26) 1, none⟩, ⟨some 5, .alloc 34, none⟩, ⟨none, .store 34 (.tmp 5) (.tmp 28), none⟩, ⟨some 6, .assign (.tmp 29), none⟩]
@[go_sem ↓] def uq62 := @unI _ _ r_top_TopDevice_5.eq_1
def kc49 : C := (.seq (.seq (.reg ([⟨some 4, .assign (.const (.bool false)), none⟩])) (.keep [4])) .ret)
@[go_sem ↓] def uq63 := @unC _ _ kc49.eq_1
def kc50 : C := (.cond (.tmp 31) kc49 .skip)
@[go_sem ↓] def uq64 := @unC _ _ kc50.eq_1
def kc51 : C := (.cond (.tmp 36) .skip (.exit 0))
@[go_sem ↓] def uq65 := @unC _ _ kc51.eq_1
def r_top_TopDevice_9 : List I := [⟨some 55, .move (.tmp 57), none⟩, ⟨some 58, .extract (.tmp 55) 0, none⟩, ⟨some 59, .extract (.tmp 55) 1, none⟩, ⟨none, .store 34 (.tmp 5) (.tmp 58), none⟩, ⟨some 6, .assign (.tmp 59), none⟩]
@[go_sem ↓] def uq66 := @unI _ _ r_top_TopDevice_9.eq_1
def kc52 : C := (.seq (.reg ([⟨some 60, .move (.tmp 7), none⟩, ⟨some 61, .build 43 #[(0, (.const (.int .u8 2)))], none⟩, ⟨some 62, .buildSlice 38 1 #[(0, (.tmp 61))], none⟩, ⟨some 63, .call { callee := .builtin .append, args := #[(.tmp 60), (.tmp 62)], argTypes := #[38, 38] }, none⟩, ⟨some 7, .assign (.tmp 63), none⟩])) (.keep [0, 1, 5, 6, 7, 8, 9, 10, 11]))
@[go_sem ↓] def uq67 := @unC _ _ kc52.eq_1
def kc53 : C := (.seq (.seq (.reg (⟨some 56, .load 34 (.tmp 5), none⟩ :: ⟨some 57, .call { callee := .value (.func 7), args := #[(.tmp 56)], argTypes := #[34] }, none⟩ :: r_top_TopDevice_9)) (.keep [0, 1, 5, 6, 7, 8, 9, 10, 11])) kc52)
@[go_sem ↓] def uq68 := @unC _ _ kc53.eq_1
def r_top_TopDevice_12 : List I := [⟨some 71, .move (.tmp 73), none⟩, ⟨some 74, .extract (.tmp 71) 0, none⟩, ⟨some 75, .extract (.tmp 71) 1, none⟩, ⟨none, .store 34 (.tmp 5) (.tmp 74), none⟩, ⟨some 6, .assign (.tmp 75), none⟩]
@[go_sem ↓] def uq69 := @unI _ _ r_top_TopDevice_12.eq_1
def kc54 : C := (.seq (.reg ([⟨some 77, .move (.tmp 10), none⟩, ⟨some 78, .binOp .add 3 (.tmp 77) (.const (.int .i64 1)) 3, none⟩, ⟨some 10, .assign (.tmp 78), none⟩])) (.keep [0, 1, 5, 6, 7, 8, 9, 10, 11]))
@[go_sem ↓] def uq70 := @unC _ _ kc54.eq_1
def kc55 : C := (.seq (.seq (.reg ([⟨some 76, .move (.tmp 8), none⟩, ⟨some 7, .assign (.const (.slice none 0 0)), none⟩, ⟨some 9, .assign (.tmp 76), none⟩])) (.keep [0, 1, 5, 6, 7, 8, 9, 10, 11])) kc54)
@[go_sem ↓] def uq71 := @unC _ _ kc55.eq_1
def kc56 : C := (.seq (.seq (.reg (⟨some 72, .load 34 (.tmp 5), none⟩ :: ⟨some 73, .call { callee := .value (.func 8), args := #[(.tmp 72)], argTypes := #[34] }, none⟩ :: r_top_TopDevice_12)) (.keep [0, 1, 5, 6, 8, 10, 11])) kc55)
@[go_sem ↓] def uq72 := @unC _ _ kc56.eq_1
def r_top_TopDevice_16 : List I := [⟨some 79, .assign (.tmp 84), none⟩]
@[go_sem ↓] def uq73 := @unI _ _ r_top_TopDevice_16.eq_1
def r_top_TopDevice_17 : List I := [⟨some 91, .build 47 #[(0, (.tmp 85)), (1, (.tmp 90))], none⟩, ⟨some 12, .alloc 47, none⟩, ⟨none, .store 47 (.tmp 12) (.tmp 91), none⟩]
@[go_sem ↓] def uq74 := @unI _ _ r_top_TopDevice_17.eq_1
def r_top_TopDevice_18 : List I := [⟨some 92, .move (.tmp 94), none⟩, ⟨some 95, .extract (.tmp 92) 0, none⟩, ⟨some 96, .extract (.tmp 92) 1, none⟩, ⟨some 13, .assign (.tmp 95), none⟩, ⟨some 14, .assign (.tmp 96), none⟩]
@[go_sem ↓] def uq75 := @unI _ _ r_top_TopDevice_18.eq_1
def r_top_TopDevice_19 : List I := [⟨some 102, .unOp .not 4 (.tmp 101), some (99, false)⟩, ⟨some 103, .pick (.tmp 99) (.const (.bool true)) (.tmp 102), none⟩]
@[go_sem ↓] def uq76 := @unI _ _ r_top_TopDevice_19.eq_1
def kc57 : C := (.seq (.seq (.reg ([⟨some 4, .assign (.const (.bool false)), none⟩])) (.keep [4])) .ret)
@[go_sem ↓] def uq77 := @unC _ _ kc57.eq_1
def kc58 : C := (.cond (.tmp 103) kc57 .skip)
@[go_sem ↓] def uq78 := @unC _ _ kc58.eq_1
def d_top_TopDevice_22 : List D := [⟨⟨some 109, .move (.tmp 115), none⟩, []⟩, ⟨⟨some 116, .extract (.tmp 109) 0, none⟩, []⟩, ⟨⟨some 117, .extract (.tmp 109) 1, none⟩, [7]⟩, ⟨⟨some 118, .extract (.tmp 109) 2, none⟩, [7, 8]⟩, ⟨⟨none, .store 34 (.tmp 5) (.tmp 116), none⟩, [8, 9]⟩, ⟨⟨some 6, .assign (.tmp 118), none⟩, []⟩]
@[go_sem ↓] def uq79 := @unD _ _ d_top_TopDevice_22.eq_1
def kc59 : C := (.seq (.reg ([⟨some 119, .move (.tmp 8), none⟩, ⟨some 120, .binOp .add 3 (.tmp 119) (.const (.int .i64 1)) 3, none⟩, ⟨some 8, .assign (.tmp 120), none⟩])) (.keep [0, 1, 5, 6, 7, 8, 9, 10, 11]))
@[go_sem ↓] def uq80 := @unC _ _ kc59.eq_1
def kc60 : C := (.seq (.seq (.draw (⟨⟨some 110, .load 34 (.tmp 5), none⟩, []⟩ :: ⟨⟨some 111, .move (.tmp 0), none⟩, [0]⟩ :: ⟨⟨some 112, .move (.tmp 11), none⟩, [0, 1]⟩ :: ⟨⟨some 113, .indexAddr 22 (.tmp 111) (.tmp 112), none⟩, [0]⟩ :: ⟨⟨some 114, .load 40 (.tmp 113), none⟩, [0]⟩ :: ⟨⟨some 115, .call { callee := .value (.func 13), args := #[(.tmp 110), (.tmp 114)], argTypes := #[34, 40] }, none⟩, []⟩ :: d_top_TopDevice_22)) (.keep [0, 1, 5, 6, 7, 8, 9, 10, 11])) kc59)
@[go_sem ↓] def uq81 := @unC _ _ kc60.eq_1
def kc61 : C := (.seq (.seq (.reg ([⟨some 104, .move (.tmp 7), none⟩, ⟨some 105, .move (.tmp 13), none⟩, ⟨some 106, .build 43 #[(0, (.const (.int .u8 1))), (1, (.tmp 105))], none⟩, ⟨some 107, .buildSlice 38 1 #[(0, (.tmp 106))], none⟩, ⟨some 108, .call { callee := .builtin .append, args := #[(.tmp 104), (.tmp 107)], argTypes := #[38, 38] }, none⟩, ⟨some 7, .assign (.tmp 108), none⟩])) (.keep [0, 1, 5, 7, 8, 9, 10, 11])) kc60)
@[go_sem ↓] def uq82 := @unC _ _ kc61.eq_1
def kc62 : C := (.seq (.seq (.seq (.reg (⟨some 97, .move (.tmp 14), none⟩ :: ⟨some 98, .binOp .neq 35 (.tmp 97) (.const (.int .i64 0)) 35, none⟩ :: ⟨some 99, .move (.tmp 98), none⟩ :: ⟨some 100, .move (.tmp 13), some (99, false)⟩ :: ⟨some 101, .call { callee := .value (.func 12), args := #[(.tmp 100)], argTypes := #[24] }, some (99, false)⟩ :: r_top_TopDevice_19)) (.keep [0, 1, 5, 7, 8, 9, 10, 11, 13, 103])) kc58) kc61)
@[go_sem ↓] def uq83 := @unC _ _ kc62.eq_1
def kc63 : C := (.seq (.seq (.reg (⟨some 93, .load 47 (.tmp 12), none⟩ :: ⟨some 94, .call { callee := .value (.func 11), args := #[(.tmp 93)], argTypes := #[47] }, none⟩ :: r_top_TopDevice_18)) (.keep [0, 1, 5, 7, 8, 9, 10, 11, 13, 14])) kc62)
@[go_sem ↓] def uq84 := @unC _ _ kc63.eq_1
def kc64 : C := (.seq (.seq (.reg (⟨some 85, .move (.tmp 8), none⟩ :: ⟨some 86, .move (.tmp 0), none⟩ :: ⟨some 87, .move (.tmp 11), none⟩ :: ⟨some 88, .indexAddr 22 (.tmp 86) (.tmp 87), none⟩ :: ⟨some 89, .load 40 (.tmp 88), none⟩ :: ⟨some 90, .call { callee := .value (.func 10), args := #[(.tmp 89)], argTypes := #[40] }, none⟩ :: r_top_TopDevice_17)) (.keep [0, 1, 5, 7, 8, 9, 10, 11, 12])) kc63)
@[go_sem ↓] def uq85 := @unC _ _ kc64.eq_1
def kc65 : C := (.cond (.tmp 79) kc64 .skip)
@[go_sem ↓] def uq86 := @unC _ _ kc65.eq_1
def kc66 : C := (.seq (.seq (.reg (⟨some 80, .move (.tmp 0), none⟩ :: ⟨some 81, .move (.tmp 11), none⟩ :: ⟨some 82, .indexAddr 22 (.tmp 80) (.tmp 81), none⟩ :: ⟨some 83, .load 40 (.tmp 82), none⟩ :: ⟨some 84, .call { callee := .value (.func 9), args := #[(.tmp 83)], argTypes := #[40] }, none⟩ :: r_top_TopDevice_16)) (.keep [0, 1, 5, 6, 7, 8, 9, 10, 11, 79])) kc65)
@[go_sem ↓] def uq87 := @unC _ _ kc66.eq_1
def kc67 : C := (.cond (.tmp 64) kc56 kc66)
@[go_sem ↓] def uq88 := @unC _ _ kc67.eq_1
def kc68 : C := (.seq (.seq (.reg ([⟨some 65, .move (.tmp 0), none⟩, ⟨some 66, .move (.tmp 11), none⟩, ⟨some 67, .indexAddr 22 (.tmp 65) (.tmp 66), none⟩, ⟨some 68, .fieldAddr 40 (.tmp 67) 0, none⟩, ⟨some 69, .load 3 (.tmp 68), none⟩, ⟨some 70, .binOp .gtr 3 (.tmp 69) (.const (.int .i64 7)) 3, none⟩, ⟨some 64, .assign (.tmp 70), none⟩])) (.keep [0, 1, 5, 6, 7, 8, 9, 10, 11, 64])) kc67)
@[go_sem ↓] def uq89 := @unC _ _ kc68.eq_1
def kc69 : C := (.cond (.tmp 39) kc53 kc68)
@[go_sem ↓] def uq90 := @unC _ _ kc69.eq_1
def kc70 : C := (.seq (.seq (.reg ([⟨some 4, .assign (.const (.bool false)), none⟩])) (.keep [4])) .ret)
@[go_sem ↓] def uq91 := @unC _ _ kc70.eq_1
def kc71 : C := (.cond (.tmp 122) kc70 .skip)
@[go_sem ↓] def uq92 := @unC _ _ kc71.eq_1
def kc72 : C := (.seq (.seq (.reg ([⟨some 121, .move (.tmp 6), none⟩, ⟨some 122, .binOp .neq 35 (.tmp 121) (.const (.int .i64 0)) 35, none⟩])) (.keep [0, 1, 5, 6, 7, 8, 9, 10, 11, 122])) kc71)
@[go_sem ↓] def uq93 := @unC _ _ kc72.eq_1
def kc73 : C := (.seq (.reg ([⟨some 37, .move (.tmp 11), none⟩, ⟨some 38, .binOp .add 3 (.tmp 37) (.const (.int .i64 1)) 3, none⟩, ⟨some 11, .assign (.tmp 38), none⟩])) (.keep [0, 1, 5, 6, 7, 8, 9, 10, 11]))
@[go_sem ↓] def uq94 := @unC _ _ kc73.eq_1
def kc74 : C := (.seq (.block 1 (.seq (.block 2 (.seq (.seq (.reg ([⟨some 40, .move (.tmp 0), none⟩, ⟨some 41, .move (.tmp 11), none⟩, ⟨some 42, .indexAddr 22 (.tmp 40) (.tmp 41), none⟩, ⟨some 43, .fieldAddr 40 (.tmp 42) 0, none⟩, ⟨some 44, .load 3 (.tmp 43), none⟩, ⟨some 45, .binOp .gtr 3 (.tmp 44) (.const (.int .i64 7)) 3, none⟩, ⟨some 46, .move (.tmp 45), none⟩, ⟨some 47, .move (.tmp 0), some (46, true)⟩, ⟨some 48, .move (.tmp 11), some (46, true)⟩, ⟨some 49, .indexAddr 22 (.tmp 47) (.tmp 48), some (46, true)⟩, ⟨some 50, .fieldAddr 40 (.tmp 49) 0, some (46, true)⟩, ⟨some 51, .load 3 (.tmp 50), some (46, true)⟩, ⟨some 52, .binOp .rem 3 (.tmp 51) (.const (.int .i64 2)) 3, some (46, true)⟩, ⟨some 53, .binOp .eql 3 (.tmp 52) (.const (.int .i64 0)) 3, some (46, true)⟩, ⟨some 54, .pick (.tmp 46) (.tmp 53) (.const (.bool false)), none⟩, ⟨some 39, .assign (.tmp 54), none⟩])) (.keep [0, 1, 5, 6, 7, 8, 9, 10, 11, 39])) kc69)) kc72)) kc73)
@[go_sem ↓] def uq95 := @unC _ _ kc74.eq_1
def kc75 : C := (.seq (.seq (.seq (.reg ([⟨some 33, .move (.tmp 11), none⟩, ⟨some 34, .move (.tmp 0), none⟩, ⟨some 35, .call { callee := .builtin .len, args := #[(.tmp 34)], argTypes := #[22] }, none⟩, ⟨some 36, .binOp .lss 3 (.tmp 33) (.tmp 35) 3, none⟩])) (.keep [0, 1, 5, 6, 7, 8, 9, 10, 11, 36])) kc51) kc74)
@[go_sem ↓] def uq96 := @unC _ _ kc75.eq_1
def kc76 : C := (.block 0 (.loop [(7, 3)] [0, 1, 5, 6, 7, 8, 9, 10, 11] kc75))
@[go_sem ↓] def uq97 := @unC _ _ kc76.eq_1
def r_top_TopDevice_41 : List I := [⟨some 123, .move (.tmp 126), none⟩, ⟨some 127, .extract (.tmp 123) 0, none⟩, ⟨some 128, .extract (.tmp 123) 1, none⟩, ⟨some 129, .extract (.tmp 123) 2, none⟩, ⟨some 15, .alloc 26, none⟩, ⟨none, .store 26 (.tmp 15) (.tmp 127), none⟩, ⟨some 16, .assign (.tmp 128), none⟩, ⟨some 17, .assign (.tmp 129), none⟩]
@[go_sem ↓] def uq98 := @unI _ _ r_top_TopDevice_41.eq_1
def r_top_TopDevice_42 : List I := [⟨some 144, .unOp .not 4 (.tmp 143), some (138, false)⟩, ⟨some 145, .pick (.tmp 138) (.const (.bool true)) (.tmp 144), none⟩, ⟨some 146, .move (.tmp 145), none⟩, ⟨some 147, .fieldAddr 34 (.tmp 5) 1, some (146, false)⟩, ⟨some 148, .fieldAddr 31 (.tmp 147) 1, some (146, false)⟩, ⟨some 149, .load 3 (.tmp 148), some (146, false)⟩, ⟨some 150, .move (.tmp 9), some (146, false)⟩, ⟨some 151, .binOp .neq 3 (.tmp 149) (.tmp 150) 3, some (146, false)⟩, ⟨some 152, .pick (.tmp 146) (.const (.bool true)) (.tmp 151), none⟩, ⟨some 153, .move (.tmp 152), none⟩, ⟨some 154, .fieldAddr 34 (.tmp 5) 1, some (153, false)⟩, ⟨some 155, .fieldAddr 31 (.tmp 154) 2, some (153, false)⟩, ⟨some 156, .load 3 (.tmp 155), some (153, false)⟩, ⟨some 157, .move (.tmp 8), some (153, false)⟩, ⟨some 158, .binOp .neq 3 (.tmp 156) (.tmp 157) 3, some (153, false)⟩, ⟨some 159, .pick (.tmp 153) (.const (.bool true)) (.tmp 158), none⟩]
@[go_sem ↓] def uq99 := @unI _ _ r_top_TopDevice_42.eq_1
def kc77 : C := (.seq (.seq (.reg ([⟨some 4, .assign (.const (.bool false)), none⟩])) (.keep [4])) .ret)
@[go_sem ↓] def uq100 := @unC _ _ kc77.eq_1
def kc78 : C := (.cond (.tmp 159) kc77 .skip)
@[go_sem ↓] def uq101 := @unC _ _ kc78.eq_1
def r_top_TopDevice_45 : List I := [⟨some 160, .move (.tmp 163), none⟩, ⟨some 164, .extract (.tmp 160) 0, none⟩, ⟨some 165, .extract (.tmp 160) 1, none⟩, ⟨some 166, .extract (.tmp 160) 2, none⟩, ⟨some 18, .assign (.tmp 164), none⟩, ⟨some 19, .assign (.tmp 165), none⟩, ⟨some 20, .assign (.tmp 166), none⟩]
@[go_sem ↓] def uq102 := @unI _ _ r_top_TopDevice_45.eq_1
def kc79 : C := (.seq (.seq (.reg ([⟨some 4, .assign (.const (.bool false)), none⟩])) (.keep [4])) .ret)
@[go_sem ↓] def uq103 := @unC _ _ kc79.eq_1
def kc80 : C := (.cond (.tmp 185) kc79 .skip)
@[go_sem ↓] def uq104 := @unC _ _ kc80.eq_1
def r_top_TopDevice_48 : List I := [⟨some 4, .assign (.tmp 190), none⟩]
@[go_sem ↓] def uq105 := @unI _ _ r_top_TopDevice_48.eq_1
def kc81 : C := (.seq (.seq (.reg (⟨some 186, .load 34 (.tmp 5), none⟩ :: ⟨some 187, .load 26 (.tmp 15), none⟩ :: ⟨some 188, .move (.tmp 9), none⟩ :: ⟨some 189, .move (.tmp 1), none⟩ :: ⟨some 190, .call { callee := .value (.func 17), args := #[(.tmp 186), (.tmp 187), (.tmp 188), (.tmp 189)], argTypes := #[34, 26, 3, 3] }, none⟩ :: r_top_TopDevice_48)) (.keep [4])) .ret)
@[go_sem ↓] def uq106 := @unC _ _ kc81.eq_1
def kc82 : C := (.seq (.seq (.seq (.reg ([⟨some 167, .move (.tmp 10), none⟩, ⟨some 168, .binOp .eql 3 (.tmp 167) (.const (.int .i64 0)) 3, none⟩, ⟨some 169, .move (.tmp 168), none⟩, ⟨some 170, .move (.tmp 20), some (169, true)⟩, ⟨some 171, .binOp .neq 35 (.tmp 170) (.const (.int .i64 6)) 35, some (169, true)⟩, ⟨some 172, .pick (.tmp 169) (.tmp 171) (.const (.bool false)), none⟩, ⟨some 173, .move (.tmp 172), none⟩, ⟨some 174, .move (.tmp 10), some (173, false)⟩, ⟨some 175, .binOp .gtr 3 (.tmp 174) (.const (.int .i64 0)) 3, some (173, false)⟩, ⟨some 176, .move (.tmp 175), some (173, false)⟩, ⟨some 177, .move (.tmp 20), some (176, true)⟩, ⟨some 178, .binOp .neq 35 (.tmp 177) (.const (.int .i64 0)) 35, some (176, true)⟩, ⟨some 179, .move (.tmp 178), some (176, true)⟩, ⟨some 180, .move (.tmp 18), some (179, false)⟩, ⟨some 181, .move (.tmp 10), some (179, false)⟩, ⟨some 182, .binOp .neq 3 (.tmp 180) (.tmp 181) 3, some (179, false)⟩, ⟨some 183, .pick (.tmp 179) (.const (.bool true)) (.tmp 182), some (176, true)⟩, ⟨some 184, .pick (.tmp 176) (.tmp 183) (.const (.bool false)), some (173, false)⟩, ⟨some 185, .pick (.tmp 173) (.const (.bool true)) (.tmp 184), none⟩])) (.keep [1, 5, 9, 15, 185])) kc80) kc81)
@[go_sem ↓] def uq107 := @unC _ _ kc82.eq_1
def kc83 : C := (.seq (.seq (.reg (⟨some 161, .fieldAddr 34 (.tmp 5) 0, none⟩ :: ⟨some 162, .load 29 (.tmp 161), none⟩ :: ⟨some 163, .call { callee := .value (.func 16), args := #[(.tmp 162)], argTypes := #[29] }, none⟩ :: r_top_TopDevice_45)) (.keep [1, 5, 9, 10, 15, 18, 20])) kc82)
@[go_sem ↓] def uq108 := @unC _ _ kc83.eq_1
def kc84 : C := (.seq (.seq (.seq (.reg (⟨some 130, .move (.tmp 17), none⟩ :: ⟨some 131, .binOp .neq 35 (.tmp 130) (.const (.int .i64 0)) 35, none⟩ :: ⟨some 132, .move (.tmp 131), none⟩ :: ⟨some 133, .move (.tmp 16), some (132, false)⟩ :: ⟨some 134, .move (.tmp 7), some (132, false)⟩ :: ⟨some 135, .call { callee := .builtin .len, args := #[(.tmp 134)], argTypes := #[38] }, some (132, false)⟩ :: ⟨some 136, .binOp .neq 3 (.tmp 133) (.tmp 135) 3, some (132, false)⟩ :: ⟨some 137, .pick (.tmp 132) (.const (.bool true)) (.tmp 136), none⟩ :: ⟨some 138, .move (.tmp 137), none⟩ :: ⟨some 139, .load 26 (.tmp 15), some (138, false)⟩ :: ⟨some 140, .fieldAddr 34 (.tmp 5) 1, some (138, false)⟩ :: ⟨some 141, .fieldAddr 31 (.tmp 140) 0, some (138, false)⟩ :: ⟨some 142, .load 26 (.tmp 141), some (138, false)⟩ :: ⟨some 143, .call { callee := .value (.func 15), args := #[(.tmp 139), (.tmp 142)], argTypes := #[26, 26] }, some (138, false)⟩ :: r_top_TopDevice_42)) (.keep [1, 5, 9, 10, 15, 159])) kc78) kc83)
@[go_sem ↓] def uq109 := @unC _ _ kc84.eq_1
def kc85 : C := (.seq (.seq (.reg (⟨some 124, .build 26 #[(2, (.const (.int .i64 2000)))], none⟩ :: ⟨some 125, .move (.tmp 7), none⟩ :: ⟨some 126, .call { callee := .value (.func 14), args := #[(.tmp 124), (.tmp 125)], argTypes := #[26, 38] }, none⟩ :: r_top_TopDevice_41)) (.keep [1, 5, 7, 8, 9, 10, 15, 16, 17])) kc84)
@[go_sem ↓] def uq110 := @unC _ _ kc85.eq_1
def kc86 : C := (.seq (.seq (.seq (.reg ([⟨some 11, .assign (.const (.int .i64 0)), none⟩])) (.keep [0, 1, 5, 6, 7, 8, 9, 10, 11])) kc76) kc85)
@[go_sem ↓] def uq111 := @unC _ _ kc86.eq_1
def kc87 : C := (.seq (.seq (.reg ([⟨some 8, .assign (.const (.int .i64 0)), none⟩, ⟨some 9, .assign (.const (.int .i64 0)), none⟩, ⟨some 10, .assign (.const (.int .i64 0)), none⟩])) (.keep [0, 1, 5, 6, 7, 8, 9, 10])) kc86)
@[go_sem ↓] def uq112 := @unC _ _ kc87.eq_1
def kc88 : C := (.seq (.seq (.reg ([⟨some 32, .buildSlice 38 0 #[], none⟩, ⟨some 7, .assign (.tmp 32), none⟩])) (.keep [0, 1, 5, 6, 7])) kc87)
@[go_sem ↓] def uq113 := @unC _ _ kc88.eq_1
def kc89 : C := (.seq (.seq (.seq (.reg ([⟨some 30, .move (.tmp 6), none⟩, ⟨some 31, .binOp .neq 35 (.tmp 30) (.const (.int .i64 0)) 35, none⟩])) (.keep [0, 1, 5, 6, 31])) kc50) kc88)
@[go_sem ↓] def uq114 := @unC _ _ kc89.eq_1
def kc90 : C := (.seq (.seq (.reg (⟨some 27, .call { callee := .value (.func 6), args := #[(.const (.int .i64 2000))], argTypes := #[3] }, none⟩ :: r_top_TopDevice_5)) (.keep [0, 1, 5, 6])) kc89)
@[go_sem ↓] def uq115 := @unC _ _ kc90.eq_1
def kc91 : C := (.seq (.seq (.seq (.reg (⟨some 24, .call { callee := .value (.func 5), args := #[], argTypes := #[] }, none⟩ :: r_top_TopDevice_2)) (.keep [0, 1, 25])) kc48) kc90)
@[go_sem ↓] def uq116 := @unC _ _ kc91.eq_1
def kc92 : C := (.seq (.seq (.seq (.reg ([⟨some 21, .move (.tmp 0), none⟩, ⟨some 22, .call { callee := .builtin .len, args := #[(.tmp 21)], argTypes := #[22] }, none⟩, ⟨some 23, .binOp .gtr 3 (.tmp 22) (.const (.int .i64 20)) 3, none⟩])) (.keep [0, 1, 23])) kc46) kc91)
@[go_sem ↓] def uq117 := @unC _ _ kc92.eq_1
def c_top_TopDevice : C := (.seq (.seq (.reg ([⟨some 4, .assign (.const (.bool false)), none⟩])) (.keep [0, 1])) kc92)
attribute [go_sem ↓] c_top_TopDevice
def h_top_TopDevice : List Hint := [⟨[], [0, 1], []⟩, ⟨[], [0, 1, 23], []⟩, ⟨[], [4], []⟩, ⟨[], [0, 1, 25], []⟩, ⟨[], [4], []⟩, ⟨[], [0, 1, 5, 6], []⟩, ⟨[], [0, 1, 5, 6, 31], []⟩, ⟨[], [4], []⟩, ⟨[], [0, 1, 5, 6, 7], []⟩, ⟨[], [0, 1, 5, 6, 7, 8, 9, 10], []⟩, ⟨[], [0, 1, 5, 6, 7, 8, 9, 10, 11], []⟩, ⟨[(7, 3)], [0, 1, 5, 6, 7, 8, 9, 10, 11], []⟩, ⟨[], [0, 1, 5, 6, 7, 8, 9, 10, 11, 36], []⟩, ⟨[], [0, 1, 5, 6, 7, 8, 9, 10, 11, 39], []⟩, ⟨[], [0, 1, 5, 6, 7, 8, 9, 10, 11], []⟩, ⟨[], [0, 1, 5, 6, 7, 8, 9, 10, 11], []⟩, ⟨[], [0, 1, 5, 6, 7, 8, 9, 10, 11, 64], []⟩, ⟨[], [0, 1, 5, 6, 8, 10, 11], []⟩, ⟨[], [0, 1, 5, 6, 7, 8, 9, 10, 11], []⟩, ⟨[], [0, 1, 5, 6, 7, 8, 9, 10, 11], []⟩, ⟨[], [0, 1, 5, 6, 7, 8, 9, 10, 11, 79], []⟩, ⟨[], [0, 1, 5, 7, 8, 9, 10, 11, 12], []⟩, ⟨[], [0, 1, 5, 7, 8, 9, 10, 11, 13, 14], []⟩, ⟨[], [0, 1, 5, 7, 8, 9, 10, 11, 13, 103], []⟩, ⟨[], [4], []⟩, ⟨[], [0, 1, 5, 7, 8, 9, 10, 11], []⟩, ⟨[], [0, 1, 5, 6, 7, 8, 9, 10, 11], []⟩, ⟨[], [0, 1, 5, 6, 7, 8, 9, 10, 11], []⟩, ⟨[], [0, 1, 5, 6, 7, 8, 9, 10, 11, 122], []⟩, ⟨[], [4], []⟩, ⟨[], [0, 1, 5, 6, 7, 8, 9, 10, 11], []⟩, ⟨[], [1, 5, 7, 8, 9, 10, 15, 16, 17], []⟩, ⟨[], [1, 5, 9, 10, 15, 159], []⟩, ⟨[], [4], []⟩, ⟨[], [1, 5, 9, 10, 15, 18, 20], []⟩, ⟨[], [1, 5, 9, 15, 185], []⟩, ⟨[], [4], []⟩, ⟨[], [4], []⟩]
theorem b_top_TopDevice : Body Try.prog 3 [] h_top_TopDevice c_top_TopDevice 191 [.tmp 4] := body_of Try.func3 (by kernel_rfl) (by kernel_rfl) (by kernel_rfl) (by kernel_rfl)
def r_top_alive06_0 : List I := [⟨some 13, .move (.tmp 14), none⟩, ⟨some 15, .extract (.tmp 13) 0, none⟩, ⟨some 16, .extract (.tmp 13) 1, none⟩, ⟨some 1, .alloc 34, none⟩, ⟨none, .store 34 (.tmp 1) (.tmp 15), none⟩, ⟨some 2, .assign (.tmp 16), none⟩]
@[go_sem ↓] def uq118 := @unI _ _ r_top_alive06_0.eq_1
def r_top_alive06_1 : List I := [⟨some 17, .move (.tmp 20), none⟩, ⟨some 21, .extract (.tmp 17) 0, none⟩, ⟨some 22, .extract (.tmp 17) 1, none⟩, ⟨some 23, .extract (.tmp 17) 2, none⟩, ⟨none, .store 34 (.tmp 1) (.tmp 21), none⟩, ⟨some 3, .assign (.tmp 22), none⟩, ⟨some 4, .assign (.tmp 23), none⟩]
@[go_sem ↓] def uq119 := @unI _ _ r_top_alive06_1.eq_1
def r_top_alive06_2 : List I := [⟨some 24, .move (.tmp 26), none⟩, ⟨some 27, .extract (.tmp 24) 0, none⟩, ⟨some 28, .extract (.tmp 24) 1, none⟩, ⟨none, .store 34 (.tmp 1) (.tmp 27), none⟩, ⟨some 5, .assign (.tmp 28), none⟩]
@[go_sem ↓] def uq120 := @unI _ _ r_top_alive06_2.eq_1
def r_top_alive06_3 : List I := [⟨some 29, .move (.tmp 32), none⟩, ⟨some 33, .extract (.tmp 29) 0, none⟩, ⟨some 34, .extract (.tmp 29) 1, none⟩, ⟨some 35, .extract (.tmp 29) 2, none⟩, ⟨none, .store 34 (.tmp 1) (.tmp 33), none⟩, ⟨some 6, .assign (.tmp 34), none⟩, ⟨some 7, .assign (.tmp 35), none⟩]
@[go_sem ↓] def uq121 := @unI _ _ r_top_alive06_3.eq_1
def r_top_alive06_4 : List I := [⟨some 36, .move (.tmp 38), none⟩, ⟨some 39, .extract (.tmp 36) 0, none⟩, ⟨some 40, .extract (.tmp 36) 1, none⟩, ⟨some 8, .alloc 34, none⟩, ⟨none, .store 34 (.tmp 8) (.tmp 39), none⟩, ⟨some 9, .assign (.tmp 40), none⟩]
@[go_sem ↓] def uq122 := @unI _ _ r_top_alive06_4.eq_1
def r_top_alive06_5 : List I := [⟨some 41, .move (.tmp 43), none⟩, ⟨some 44, .extract (.tmp 41) 0, none⟩, ⟨some 45, .extract (.tmp 41) 1, none⟩, ⟨some 46, .extract (.tmp 41) 2, none⟩, ⟨some 10, .alloc 34, none⟩, ⟨none, .store 34 (.tmp 10) (.tmp 44), none⟩, ⟨some 11, .assign (.tmp 45), none⟩, ⟨some 12, .assign (.tmp 46), none⟩]
@[go_sem ↓] def uq123 := @unI _ _ r_top_alive06_5.eq_1
def kc93 : C := (.seq (.seq (.reg ([⟨some 47, .move (.tmp 2), none⟩, ⟨some 48, .binOp .eql 35 (.tmp 47) (.const (.int .i64 0)) 35, none⟩, ⟨some 49, .move (.tmp 48), none⟩, ⟨some 50, .move (.tmp 4), some (49, true)⟩, ⟨some 51, .binOp .eql 35 (.tmp 50) (.const (.int .i64 0)) 35, some (49, true)⟩, ⟨some 52, .pick (.tmp 49) (.tmp 51) (.const (.bool false)), none⟩, ⟨some 53, .move (.tmp 52), none⟩, ⟨some 54, .move (.tmp 5), some (53, true)⟩, ⟨some 55, .binOp .eql 35 (.tmp 54) (.const (.int .i64 0)) 35, some (53, true)⟩, ⟨some 56, .pick (.tmp 53) (.tmp 55) (.const (.bool false)), none⟩, ⟨some 57, .move (.tmp 56), none⟩, ⟨some 58, .move (.tmp 7), some (57, true)⟩, ⟨some 59, .binOp .eql 35 (.tmp 58) (.const (.int .i64 0)) 35, some (57, true)⟩, ⟨some 60, .pick (.tmp 57) (.tmp 59) (.const (.bool false)), none⟩, ⟨some 61, .move (.tmp 60), none⟩, ⟨some 62, .move (.tmp 9), some (61, true)⟩, ⟨some 63, .binOp .eql 35 (.tmp 62) (.const (.int .i64 0)) 35, some (61, true)⟩, ⟨some 64, .pick (.tmp 61) (.tmp 63) (.const (.bool false)), none⟩, ⟨some 65, .move (.tmp 64), none⟩, ⟨some 66, .move (.tmp 12), some (65, true)⟩, ⟨some 67, .binOp .eql 35 (.tmp 66) (.const (.int .i64 0)) 35, some (65, true)⟩, ⟨some 68, .pick (.tmp 65) (.tmp 67) (.const (.bool false)), none⟩, ⟨some 69, .move (.tmp 68), none⟩, ⟨some 70, .fieldAddr 34 (.tmp 1) 2, some (69, true)⟩, ⟨some 71, .indexAddr 32 (.tmp 70) (.const (.int .i64 2)), some (69, true)⟩, ⟨some 72, .load 3 (.tmp 71), some (69, true)⟩, ⟨some 73, .binOp .eql 3 (.tmp 72) (.const (.int .i64 5)) 3, some (69, true)⟩, ⟨some 74, .pick (.tmp 69) (.tmp 73) (.const (.bool false)), none⟩, ⟨some 75, .move (.tmp 74), none⟩, ⟨some 76, .fieldAddr 34 (.tmp 10) 2, some (75, true)⟩, ⟨some 77, .indexAddr 32 (.tmp 76) (.const (.int .i64 2)), some (75, true)⟩, ⟨some 78, .load 3 (.tmp 77), some (75, true)⟩, ⟨some 79, .binOp .eql 3 (.tmp 78) (.const (.int .i64 4)) 3, some (75, true)⟩, ⟨some 80, .pick (.tmp 75) (.tmp 79) (.const (.bool false)), none⟩, ⟨some 81, .move (.tmp 80), none⟩, ⟨some 82, .move (.tmp 11), some (81, true)⟩, ⟨some 83, .binOp .eql 3 (.tmp 82) (.const (.int .i64 1)) 3, some (81, true)⟩, ⟨some 84, .pick (.tmp 81) (.tmp 83) (.const (.bool false)), none⟩, ⟨some 0, .assign (.tmp 84), none⟩])) (.keep [0])) .ret)
@[go_sem ↓] def uq124 := @unC _ _ kc93.eq_1
def kc94 : C := (.seq (.seq (.reg (⟨some 42, .load 34 (.tmp 8), none⟩ :: ⟨some 43, .call { callee := .value (.func 22), args := #[(.tmp 42)], argTypes := #[34] }, none⟩ :: r_top_alive06_5)) (.keep [1, 2, 4, 5, 7, 9, 10, 11, 12])) kc93)
@[go_sem ↓] def uq125 := @unC _ _ kc94.eq_1
def kc95 : C := (.seq (.seq (.reg (⟨some 37, .load 34 (.tmp 1), none⟩ :: ⟨some 38, .call { callee := .value (.func 18), args := #[(.tmp 37), (.const (.int .i64 0)), (.const (.int .i64 0))], argTypes := #[34, 3, 3] }, none⟩ :: r_top_alive06_4)) (.keep [1, 2, 4, 5, 7, 8, 9])) kc94)
@[go_sem ↓] def uq126 := @unC _ _ kc95.eq_1
def kc96 : C := (.seq (.seq (.reg (⟨some 30, .load 34 (.tmp 1), none⟩ :: ⟨some 31, .build 40 #[(0, (.const (.int .i64 2))), (1, (.const (.int .i64 1)))], none⟩ :: ⟨some 32, .call { callee := .value (.func 13), args := #[(.tmp 30), (.tmp 31)], argTypes := #[34, 40] }, none⟩ :: r_top_alive06_3)) (.keep [1, 2, 4, 5, 7])) kc95)
@[go_sem ↓] def uq127 := @unC _ _ kc96.eq_1
def kc97 : C := (.seq (.seq (.reg (⟨some 25, .load 34 (.tmp 1), none⟩ :: ⟨some 26, .call { callee := .value (.func 8), args := #[(.tmp 25)], argTypes := #[34] }, none⟩ :: r_top_alive06_2)) (.keep [1, 2, 4, 5])) kc96)
@[go_sem ↓] def uq128 := @unC _ _ kc97.eq_1
def kc98 : C := (.seq (.seq (.reg (⟨some 18, .load 34 (.tmp 1), none⟩ :: ⟨some 19, .build 40 #[(0, (.const (.int .i64 2))), (1, (.const (.int .i64 4)))], none⟩ :: ⟨some 20, .call { callee := .value (.func 13), args := #[(.tmp 18), (.tmp 19)], argTypes := #[34, 40] }, none⟩ :: r_top_alive06_1)) (.keep [1, 2, 4])) kc97)
@[go_sem ↓] def uq129 := @unC _ _ kc98.eq_1
def kc99 : C := (.seq (.seq (.reg (⟨some 14, .call { callee := .value (.func 6), args := #[(.const (.int .i64 500))], argTypes := #[3] }, none⟩ :: r_top_alive06_0)) (.keep [1, 2])) kc98)
@[go_sem ↓] def uq130 := @unC _ _ kc99.eq_1
def c_top_alive06 : C := (.seq (.seq (.reg ([⟨some 0, .assign (.const (.bool false)), none⟩])) (.keep [])) kc99)
attribute [go_sem ↓] c_top_alive06
def h_top_alive06 : List Hint := [⟨[], [], []⟩, ⟨[], [1, 2], []⟩, ⟨[], [1, 2, 4], []⟩, ⟨[], [1, 2, 4, 5], []⟩, ⟨[], [1, 2, 4, 5, 7], []⟩, ⟨[], [1, 2, 4, 5, 7, 8, 9], []⟩, ⟨[], [1, 2, 4, 5, 7, 9, 10, 11, 12], []⟩, ⟨[], [0], []⟩]
theorem b_top_alive06 : Body Try.prog 5 [] h_top_alive06 c_top_alive06 85 [.tmp 0] := body_of Try.func5 (by kernel_rfl) (by kernel_rfl) (by kernel_rfl) (by kernel_rfl)
def c_top_summed06 : C := (.seq (.seq (.reg ([⟨some 2, .assign (.const (.bool false)), none⟩])) (.keep [0])) (.seq (.seq (.seq (.reg ([⟨some 5, .move (.tmp 0), none⟩, ⟨some 6, .call { callee := .builtin .len, args := #[(.tmp 5)], argTypes := #[24] }, none⟩, ⟨some 7, .binOp .lss 3 (.tmp 6) (.const (.int .i64 12)) 3, none⟩])) (.keep [0, 7])) (.cond (.tmp 7) (.seq (.seq (.reg ([⟨some 2, .assign (.const (.bool false)), none⟩])) (.keep [2])) .ret) .skip)) (.seq (.seq (.draw ([⟨⟨some 9, .buildSlice 24 0 #[], none⟩, []⟩, ⟨⟨some 10, .move (.tmp 0), none⟩, [0]⟩, ⟨⟨some 11, .slice 24 (.tmp 10) none (some (.const (.int .i64 8))) none, none⟩, [0]⟩, ⟨⟨some 12, .call { callee := .builtin .append, args := #[(.tmp 9), (.tmp 11)], argTypes := #[24, 24] }, none⟩, []⟩, ⟨⟨some 13, .move (.tmp 0), none⟩, [0, 1, 2, 3]⟩, ⟨⟨some 14, .slice 24 (.tmp 13) (some (.const (.int .i64 12))) none none, none⟩, [0, 1, 2, 3]⟩, ⟨⟨some 15, .call { callee := .builtin .append, args := #[(.tmp 12), (.tmp 14)], argTypes := #[24, 24] }, none⟩, []⟩, ⟨⟨some 16, .call { callee := .value (.func 36), args := #[(.tmp 15)], argTypes := #[24] }, none⟩, []⟩, ⟨⟨some 8, .move (.tmp 16), none⟩, []⟩, ⟨⟨some 17, .extract (.tmp 8) 0, none⟩, []⟩, ⟨⟨some 18, .extract (.tmp 8) 1, none⟩, [9]⟩, ⟨⟨some 3, .assign (.tmp 17), none⟩, [10]⟩, ⟨⟨some 4, .assign (.tmp 18), none⟩, []⟩])) (.keep [0, 3, 4])) (.seq (.seq (.reg ([⟨some 19, .move (.tmp 4), none⟩, ⟨some 20, .binOp .eql 35 (.tmp 19) (.const (.int .i64 0)) 35, none⟩, ⟨some 21, .move (.tmp 20), none⟩, ⟨some 22, .move (.tmp 0), some (21, true)⟩, ⟨some 23, .indexAddr 24 (.tmp 22) (.const (.int .i64 8)), some (21, true)⟩, ⟨some 24, .load 5 (.tmp 23), some (21, true)⟩, ⟨some 25, .move (.tmp 3), some (21, true)⟩, ⟨some 26, .convert 82 5 (.tmp 25), some (21, true)⟩, ⟨some 27, .binOp .eql 5 (.tmp 24) (.tmp 26) 5, some (21, true)⟩, ⟨some 28, .pick (.tmp 21) (.tmp 27) (.const (.bool false)), none⟩, ⟨some 29, .move (.tmp 28), none⟩, ⟨some 30, .move (.tmp 0), some (29, true)⟩, ⟨some 31, .indexAddr 24 (.tmp 30) (.const (.int .i64 9)), some (29, true)⟩, ⟨some 32, .load 5 (.tmp 31), some (29, true)⟩, ⟨some 33, .move (.tmp 3), some (29, true)⟩, ⟨some 34, .binOp .shr 82 (.tmp 33) (.const (.int .u64 8)) 85, some (29, true)⟩, ⟨some 35, .convert 82 5 (.tmp 34), some (29, true)⟩, ⟨some 36, .binOp .eql 5 (.tmp 32) (.tmp 35) 5, some (29, true)⟩, ⟨some 37, .pick (.tmp 29) (.tmp 36) (.const (.bool false)), none⟩, ⟨some 38, .move (.tmp 37), none⟩, ⟨some 39, .move (.tmp 0), some (38, true)⟩, ⟨some 40, .indexAddr 24 (.tmp 39) (.const (.int .i64 10)), some (38, true)⟩, ⟨some 41, .load 5 (.tmp 40), some (38, true)⟩, ⟨some 42, .move (.tmp 3), some (38, true)⟩, ⟨some 43, .binOp .shr 82 (.tmp 42) (.const (.int .u64 16)) 85, some (38, true)⟩, ⟨some 44, .convert 82 5 (.tmp 43), some (38, true)⟩, ⟨some 45, .binOp .eql 5 (.tmp 41) (.tmp 44) 5, some (38, true)⟩, ⟨some 46, .pick (.tmp 38) (.tmp 45) (.const (.bool false)), none⟩, ⟨some 47, .move (.tmp 46), none⟩, ⟨some 48, .move (.tmp 0), some (47, true)⟩, ⟨some 49, .indexAddr 24 (.tmp 48) (.const (.int .i64 11)), some (47, true)⟩, ⟨some 50, .load 5 (.tmp 49), some (47, true)⟩, ⟨some 51, .move (.tmp 3), some (47, true)⟩, ⟨some 52, .binOp .shr 82 (.tmp 51) (.const (.int .u64 24)) 85, some (47, true)⟩, ⟨some 53, .convert 82 5 (.tmp 52), some (47, true)⟩, ⟨some 54, .binOp .eql 5 (.tmp 50) (.tmp 53) 5, some (47, true)⟩, ⟨some 55, .pick (.tmp 47) (.tmp 54) (.const (.bool false)), none⟩, ⟨some 2, .assign (.tmp 55), none⟩])) (.keep [2])) .ret))))
attribute [go_sem ↓] c_top_summed06
def h_top_summed06 : List Hint := [⟨[], [0], []⟩, ⟨[], [0, 7], []⟩, ⟨[], [2], []⟩, ⟨[], [0, 3, 4], []⟩, ⟨[], [2], []⟩]
theorem b_top_summed06 : Body Try.prog 12 [] h_top_summed06 c_top_summed06 56 [.tmp 2] := body_of Try.func12 (by kernel_rfl) (by kernel_rfl) (by kernel_rfl) (by kernel_rfl)
def r_top_crashed06_0 : List I := [⟨some 24, .move (.tmp 27), none⟩, ⟨some 28, .extract (.tmp 24) 0, none⟩, ⟨some 29, .extract (.tmp 24) 1, none⟩, ⟨some 9, .alloc 34, none⟩, ⟨none, .store 34 (.tmp 9) (.tmp 28), none⟩, ⟨some 10, .assign (.tmp 29), none⟩]
@[go_sem ↓] def uq131 := @unI _ _ r_top_crashed06_0.eq_1
def kc100 : C := (.seq (.seq (.reg ([⟨some 32, .move (.tmp 10), none⟩, ⟨some 33, .binOp .eql 35 (.tmp 32) (.const (.int .i64 2)) 35, none⟩, ⟨some 34, .move (.tmp 33), none⟩, ⟨some 35, .move (.tmp 3), some (34, true)⟩, ⟨some 36, .binOp .lss 3 (.tmp 35) (.const (.int .i64 0)) 3, some (34, true)⟩, ⟨some 37, .move (.tmp 36), some (34, true)⟩, ⟨some 38, .move (.tmp 3), some (37, false)⟩, ⟨some 39, .fieldAddr 26 (.tmp 5) 1, some (37, false)⟩, ⟨some 40, .load 24 (.tmp 39), some (37, false)⟩, ⟨some 41, .call { callee := .builtin .len, args := #[(.tmp 40)], argTypes := #[24] }, some (37, false)⟩, ⟨some 42, .binOp .gtr 3 (.tmp 38) (.tmp 41) 3, some (37, false)⟩, ⟨some 43, .pick (.tmp 37) (.const (.bool true)) (.tmp 42), some (34, true)⟩, ⟨some 44, .pick (.tmp 34) (.tmp 43) (.const (.bool false)), none⟩, ⟨some 8, .assign (.tmp 44), none⟩])) (.keep [8])) .ret)
@[go_sem ↓] def uq132 := @unC _ _ kc100.eq_1
def kc101 : C := (.cond (.tmp 31) kc100 .skip)
@[go_sem ↓] def uq133 := @unC _ _ kc101.eq_1
def r_top_crashed06_3 : List I := [⟨some 11, .assign (.tmp 46), none⟩]
@[go_sem ↓] def uq134 := @unI _ _ r_top_crashed06_3.eq_1
def kc102 : C := (.seq (.seq (.reg ([⟨some 8, .assign (.const (.bool false)), none⟩])) (.keep [8])) .ret)
@[go_sem ↓] def uq135 := @unC _ _ kc102.eq_1
def kc103 : C := (.cond (.tmp 55) kc102 .skip)
@[go_sem ↓] def uq136 := @unC _ _ kc103.eq_1
def r_top_crashed06_6 : List I := [⟨some 56, .move (.tmp 64), none⟩, ⟨some 65, .extract (.tmp 56) 0, none⟩, ⟨some 66, .extract (.tmp 56) 1, none⟩, ⟨some 67, .extract (.tmp 56) 2, none⟩, ⟨some 12, .assign (.tmp 65), none⟩, ⟨some 13, .assign (.tmp 66), none⟩, ⟨some 14, .assign (.tmp 67), none⟩]
@[go_sem ↓] def uq137 := @unI _ _ r_top_crashed06_6.eq_1
def r_top_crashed06_7 : List I := [⟨some 68, .move (.tmp 70), none⟩, ⟨some 71, .extract (.tmp 68) 0, none⟩, ⟨some 72, .extract (.tmp 68) 1, none⟩, ⟨some 73, .extract (.tmp 68) 2, none⟩, ⟨some 15, .alloc 34, none⟩, ⟨none, .store 34 (.tmp 15) (.tmp 71), none⟩, ⟨some 16, .assign (.tmp 72), none⟩, ⟨some 17, .assign (.tmp 73), none⟩]
@[go_sem ↓] def uq138 := @unI _ _ r_top_crashed06_7.eq_1
def kc104 : C := (.seq (.seq (.reg ([⟨some 8, .assign (.const (.bool false)), none⟩])) (.keep [8])) .ret)
@[go_sem ↓] def uq139 := @unC _ _ kc104.eq_1
def kc105 : C := (.cond (.tmp 87) kc104 .skip)
@[go_sem ↓] def uq140 := @unC _ _ kc105.eq_1
def r_top_crashed06_10 : List I := [⟨some 88, .move (.tmp 92), none⟩, ⟨some 93, .extract (.tmp 88) 0, none⟩, ⟨some 94, .extract (.tmp 88) 1, none⟩, ⟨some 18, .alloc 26, none⟩, ⟨none, .store 26 (.tmp 18) (.tmp 93), none⟩, ⟨some 19, .assign (.tmp 94), none⟩]
@[go_sem ↓] def uq141 := @unI _ _ r_top_crashed06_10.eq_1
def r_top_crashed06_11 : List I := [⟨some 95, .move (.tmp 98), none⟩, ⟨some 99, .extract (.tmp 95) 0, none⟩, ⟨some 100, .extract (.tmp 95) 1, none⟩, ⟨some 20, .alloc 31, none⟩, ⟨none, .store 31 (.tmp 20) (.tmp 99), none⟩, ⟨some 21, .assign (.tmp 100), none⟩]
@[go_sem ↓] def uq142 := @unI _ _ r_top_crashed06_11.eq_1
def r_top_crashed06_12 : List I := [⟨some 101, .move (.tmp 105), none⟩, ⟨some 106, .extract (.tmp 101) 0, none⟩, ⟨some 107, .extract (.tmp 101) 1, none⟩, ⟨some 22, .assign (.tmp 106), none⟩, ⟨some 23, .assign (.tmp 107), none⟩]
@[go_sem ↓] def uq143 := @unI _ _ r_top_crashed06_12.eq_1
def r_top_crashed06_13 : List I := [⟨some 138, .pick (.tmp 131) (.tmp 137) (.const (.bool false)), none⟩, ⟨some 8, .assign (.tmp 138), none⟩]
@[go_sem ↓] def uq144 := @unI _ _ r_top_crashed06_13.eq_1
def r_top_crashed06_14 : List I := ⟨some 122, .pick (.tmp 118) (.tmp 121) (.const (.bool false)), none⟩ :: ⟨some 123, .move (.tmp 122), none⟩ :: ⟨some 124, .fieldAddr 34 (.tmp 15) 1, some (123, true)⟩ :: ⟨some 125, .fieldAddr 31 (.tmp 124) 2, some (123, true)⟩ :: ⟨some 126, .load 3 (.tmp 125), some (123, true)⟩ :: ⟨some 127, .fieldAddr 31 (.tmp 20) 2, some (123, true)⟩ :: ⟨some 128, .load 3 (.tmp 127), some (123, true)⟩ :: ⟨some 129, .binOp .eql 3 (.tmp 126) (.tmp 128) 3, some (123, true)⟩ :: ⟨some 130, .pick (.tmp 123) (.tmp 129) (.const (.bool false)), none⟩ :: ⟨some 131, .move (.tmp 130), none⟩ :: ⟨some 132, .fieldAddr 34 (.tmp 15) 1, some (131, true)⟩ :: ⟨some 133, .fieldAddr 31 (.tmp 132) 0, some (131, true)⟩ :: ⟨some 134, .load 26 (.tmp 133), some (131, true)⟩ :: ⟨some 135, .fieldAddr 31 (.tmp 20) 0, some (131, true)⟩ :: ⟨some 136, .load 26 (.tmp 135), some (131, true)⟩ :: ⟨some 137, .call { callee := .value (.func 15), args := #[(.tmp 134), (.tmp 136)], argTypes := #[26, 26] }, some (131, true)⟩ :: r_top_crashed06_13
@[go_sem ↓] def uq145 := @unI _ _ r_top_crashed06_14.eq_1
def kc106 : C := (.seq (.seq (.reg (⟨some 108, .move (.tmp 19), none⟩ :: ⟨some 109, .binOp .eql 35 (.tmp 108) (.const (.int .i64 0)) 35, none⟩ :: ⟨some 110, .move (.tmp 109), none⟩ :: ⟨some 111, .move (.tmp 21), some (110, true)⟩ :: ⟨some 112, .binOp .eql 35 (.tmp 111) (.const (.int .i64 0)) 35, some (110, true)⟩ :: ⟨some 113, .pick (.tmp 110) (.tmp 112) (.const (.bool false)), none⟩ :: ⟨some 114, .move (.tmp 113), none⟩ :: ⟨some 115, .move (.tmp 23), some (114, true)⟩ :: ⟨some 116, .binOp .eql 35 (.tmp 115) (.const (.int .i64 0)) 35, some (114, true)⟩ :: ⟨some 117, .pick (.tmp 114) (.tmp 116) (.const (.bool false)), none⟩ :: ⟨some 118, .move (.tmp 117), none⟩ :: ⟨some 119, .move (.tmp 22), some (118, true)⟩ :: ⟨some 120, .move (.tmp 12), some (118, true)⟩ :: ⟨some 121, .call { callee := .value (.func 49), args := #[(.tmp 119), (.tmp 120)], argTypes := #[96, 96] }, some (118, true)⟩ :: r_top_crashed06_14)) (.keep [8])) .ret)
@[go_sem ↓] def uq146 := @unC _ _ kc106.eq_1
def kc107 : C := (.seq (.seq (.reg (⟨some 102, .load 31 (.tmp 20), none⟩ :: ⟨some 103, .fieldAddr 31 (.tmp 20) 1, none⟩ :: ⟨some 104, .load 3 (.tmp 103), none⟩ :: ⟨some 105, .call { callee := .value (.func 48), args := #[(.tmp 102), (.tmp 104)], argTypes := #[31, 3] }, none⟩ :: r_top_crashed06_12)) (.keep [12, 15, 19, 20, 21, 22, 23])) kc106)
@[go_sem ↓] def uq147 := @unC _ _ kc107.eq_1
def kc108 : C := (.seq (.seq (.reg (⟨some 96, .load 26 (.tmp 18), none⟩ :: ⟨some 97, .move (.tmp 2), none⟩ :: ⟨some 98, .call { callee := .value (.func 27), args := #[(.tmp 96), (.tmp 97)], argTypes := #[26, 3] }, none⟩ :: r_top_crashed06_11)) (.keep [12, 15, 19, 20, 21])) kc107)
@[go_sem ↓] def uq148 := @unC _ _ kc108.eq_1
def kc109 : C := (.seq (.seq (.reg (⟨some 89, .fieldAddr 34 (.tmp 4) 1, none⟩ :: ⟨some 90, .load 31 (.tmp 89), none⟩ :: ⟨some 91, .move (.tmp 3), none⟩ :: ⟨some 92, .call { callee := .value (.func 47), args := #[(.tmp 90), (.tmp 91)], argTypes := #[31, 3] }, none⟩ :: r_top_crashed06_10)) (.keep [2, 12, 15, 18, 19])) kc108)
@[go_sem ↓] def uq149 := @unC _ _ kc109.eq_1
def kc110 : C := (.seq (.seq (.seq (.reg ([⟨some 74, .move (.tmp 14), none⟩, ⟨some 75, .binOp .neq 35 (.tmp 74) (.const (.int .i64 0)) 35, none⟩, ⟨some 76, .move (.tmp 75), none⟩, ⟨some 77, .move (.tmp 17), some (76, false)⟩, ⟨some 78, .binOp .neq 35 (.tmp 77) (.const (.int .i64 0)) 35, some (76, false)⟩, ⟨some 79, .pick (.tmp 76) (.const (.bool true)) (.tmp 78), none⟩, ⟨some 80, .move (.tmp 79), none⟩, ⟨some 81, .move (.tmp 16), some (80, false)⟩, ⟨some 82, .move (.tmp 2), some (80, false)⟩, ⟨some 83, .move (.tmp 12), some (80, false)⟩, ⟨some 84, .call { callee := .builtin .len, args := #[(.tmp 83)], argTypes := #[96] }, some (80, false)⟩, ⟨some 85, .binOp .add 3 (.tmp 82) (.tmp 84) 3, some (80, false)⟩, ⟨some 86, .binOp .neq 3 (.tmp 81) (.tmp 85) 3, some (80, false)⟩, ⟨some 87, .pick (.tmp 80) (.const (.bool true)) (.tmp 86), none⟩])) (.keep [2, 3, 4, 12, 15, 87])) kc105) kc109)
@[go_sem ↓] def uq150 := @unC _ _ kc110.eq_1
def kc111 : C := (.seq (.seq (.reg (⟨some 69, .load 34 (.tmp 9), none⟩ :: ⟨some 70, .call { callee := .value (.func 22), args := #[(.tmp 69)], argTypes := #[34] }, none⟩ :: r_top_crashed06_7)) (.keep [2, 3, 4, 12, 14, 15, 16, 17])) kc110)
@[go_sem ↓] def uq151 := @unC _ _ kc111.eq_1
def kc112 : C := (.seq (.seq (.reg (⟨some 57, .move (.tmp 11), none⟩ :: ⟨some 58, .fieldAddr 26 (.tmp 5) 0, none⟩ :: ⟨some 59, .load 24 (.tmp 58), none⟩ :: ⟨some 60, .call { callee := .builtin .len, args := #[(.tmp 59)], argTypes := #[24] }, none⟩ :: ⟨some 61, .move (.tmp 3), none⟩ :: ⟨some 62, .binOp .add 3 (.tmp 60) (.tmp 61) 3, none⟩ :: ⟨some 63, .slice 24 (.tmp 57) none (some (.tmp 62)) none, none⟩ :: ⟨some 64, .call { callee := .value (.func 46), args := #[(.tmp 63)], argTypes := #[24] }, none⟩ :: r_top_crashed06_6)) (.keep [2, 3, 4, 9, 12, 14])) kc111)
@[go_sem ↓] def uq152 := @unC _ _ kc112.eq_1
def kc113 : C := (.seq (.seq (.seq (.reg ([⟨some 47, .move (.tmp 3), none⟩, ⟨some 48, .binOp .lss 3 (.tmp 47) (.const (.int .i64 0)) 3, none⟩, ⟨some 49, .move (.tmp 48), none⟩, ⟨some 50, .move (.tmp 3), some (49, false)⟩, ⟨some 51, .fieldAddr 26 (.tmp 5) 1, some (49, false)⟩, ⟨some 52, .load 24 (.tmp 51), some (49, false)⟩, ⟨some 53, .call { callee := .builtin .len, args := #[(.tmp 52)], argTypes := #[24] }, some (49, false)⟩, ⟨some 54, .binOp .gtr 3 (.tmp 50) (.tmp 53) 3, some (49, false)⟩, ⟨some 55, .pick (.tmp 49) (.const (.bool true)) (.tmp 54), none⟩])) (.keep [2, 3, 4, 5, 9, 11, 55])) kc103) kc112)
@[go_sem ↓] def uq153 := @unC _ _ kc113.eq_1
def kc114 : C := (.seq (.seq (.reg (⟨some 45, .load 26 (.tmp 5), none⟩ :: ⟨some 46, .call { callee := .value (.func 45), args := #[(.tmp 45)], argTypes := #[26] }, none⟩ :: r_top_crashed06_3)) (.keep [2, 3, 4, 5, 9, 11])) kc113)
@[go_sem ↓] def uq154 := @unC _ _ kc114.eq_1
def kc115 : C := (.seq (.seq (.seq (.reg ([⟨some 30, .move (.tmp 10), none⟩, ⟨some 31, .binOp .neq 35 (.tmp 30) (.const (.int .i64 0)) 35, none⟩])) (.keep [2, 3, 4, 5, 9, 10, 31])) kc101) kc114)
@[go_sem ↓] def uq155 := @unC _ _ kc115.eq_1
def kc116 : C := (.seq (.seq (.reg (⟨some 25, .load 34 (.tmp 4), none⟩ :: ⟨some 26, .move (.tmp 3), none⟩ :: ⟨some 27, .call { callee := .value (.func 18), args := #[(.tmp 25), (.const (.int .i64 0)), (.tmp 26)], argTypes := #[34, 3, 3] }, none⟩ :: r_top_crashed06_0)) (.keep [2, 3, 4, 5, 9, 10])) kc115)
@[go_sem ↓] def uq156 := @unC _ _ kc116.eq_1
def c_top_crashed06 : C := (.seq (.seq (.reg ([⟨some 4, .box 34 (.tmp 0), none⟩, ⟨some 5, .box 26 (.tmp 1), none⟩, ⟨some 8, .assign (.const (.bool false)), none⟩])) (.keep [2, 3, 4, 5])) kc116)
attribute [go_sem ↓] c_top_crashed06
def h_top_crashed06 : List Hint := [⟨[], [2, 3, 4, 5], []⟩, ⟨[], [2, 3, 4, 5, 9, 10], []⟩, ⟨[], [2, 3, 4, 5, 9, 10, 31], []⟩, ⟨[], [8], []⟩, ⟨[], [2, 3, 4, 5, 9, 11], []⟩, ⟨[], [2, 3, 4, 5, 9, 11, 55], []⟩, ⟨[], [8], []⟩, ⟨[], [2, 3, 4, 9, 12, 14], []⟩, ⟨[], [2, 3, 4, 12, 14, 15, 16, 17], []⟩, ⟨[], [2, 3, 4, 12, 15, 87], []⟩, ⟨[], [8], []⟩, ⟨[], [2, 12, 15, 18, 19], []⟩, ⟨[], [12, 15, 19, 20, 21], []⟩, ⟨[], [12, 15, 19, 20, 21, 22, 23], []⟩, ⟨[], [8], []⟩]
theorem b_top_crashed06 : Body Try.prog 17 [] h_top_crashed06 c_top_crashed06 139 [.tmp 8] := body_of Try.func17 (by kernel_rfl) (by kernel_rfl) (by kernel_rfl) (by kernel_rfl)
end Go.Proofs.Ytlfpafdkegnkoaa.Pm
