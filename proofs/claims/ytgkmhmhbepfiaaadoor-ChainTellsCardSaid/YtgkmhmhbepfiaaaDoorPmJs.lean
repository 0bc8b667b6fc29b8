/- statements of chain: bodies, in the form in which they are walked. Printed by a program. No law of Go's is stated here. -/
import Derived.Test.YtgkmhmhbepfiaaaDoorPmMd
import Derived.Test.YtgkmhmhbepfiaaaDoorPmMc
set_option linter.all false
set_option maxRecDepth 100000
set_option maxHeartbeats 2000000
namespace Go.Proofs.YtgkmhmhbepfiaaaDoor.Pm
open Go Go.RowKit
def r_law44_ChainTells_0 : List I := [⟨some 36, .pick (.tmp 33) (.const (.bool true)) (.tmp 35), none⟩]
@[go_sem ↓] def uq83 := @unI _ _ r_law44_ChainTells_0.eq_1
def r_law44_ChainTells_1 : List I := ⟨some 28, .move (.tmp 27), none⟩ :: ⟨some 29, .move (.tmp 1), some (28, false)⟩ :: ⟨some 30, .call { callee := .builtin .len, args := #[(.tmp 29)], argTypes := #[22] }, some (28, false)⟩ :: ⟨some 31, .binOp .gtr 3 (.tmp 30) (.const (.int .i64 300)) 3, some (28, false)⟩ :: ⟨some 32, .pick (.tmp 28) (.const (.bool true)) (.tmp 31), none⟩ :: ⟨some 33, .move (.tmp 32), none⟩ :: ⟨some 34, .move (.tmp 2), some (33, false)⟩ :: ⟨some 35, .call { callee := .value (.func 28), args := #[(.tmp 34)], argTypes := #[54] }, some (33, false)⟩ :: r_law44_ChainTells_0
@[go_sem ↓] def uq84 := @unI _ _ r_law44_ChainTells_1.eq_1
def kc68 : C := (.seq (.seq (.reg ([⟨some 6, .assign (.const (.bool true)), none⟩])) (.keep [6])) .ret)
@[go_sem ↓] def uq85 := @unC _ _ kc68.eq_1
def kc69 : C := (.cond (.tmp 36) kc68 .skip)
@[go_sem ↓] def uq86 := @unC _ _ kc69.eq_1
def r_law44_ChainTells_4 : List I := [⟨some 7, .assign (.tmp 38), none⟩]
@[go_sem ↓] def uq87 := @unI _ _ r_law44_ChainTells_4.eq_1
def r_law44_ChainTells_5 : List I := [⟨some 39, .move (.tmp 41), none⟩, ⟨some 42, .extract (.tmp 39) 0, none⟩, ⟨some 43, .extract (.tmp 39) 1, none⟩, ⟨some 8, .assign (.tmp 42), none⟩, ⟨some 9, .assign (.tmp 43), none⟩]
@[go_sem ↓] def uq88 := @unI _ _ r_law44_ChainTells_5.eq_1
def r_law44_ChainTells_6 : List I := [⟨some 44, .move (.tmp 46), none⟩, ⟨some 47, .extract (.tmp 44) 0, none⟩, ⟨some 48, .extract (.tmp 44) 1, none⟩, ⟨some 10, .assign (.tmp 47), none⟩, ⟨some 11, .assign (.tmp 48), none⟩]
@[go_sem ↓] def uq89 := @unI _ _ r_law44_ChainTells_6.eq_1
def r_law44_ChainTells_7 : List I := [⟨some 49, .move (.tmp 51), none⟩, ⟨some 52, .extract (.tmp 49) 0, none⟩, ⟨some 53, .extract (.tmp 49) 1, none⟩, ⟨some 12, .alloc 26, none⟩, ⟨none, .store 26 (.tmp 12) (.tmp 52), none⟩, ⟨some 13, .assign (.tmp 53), none⟩]
@[go_sem ↓] def uq90 := @unI _ _ r_law44_ChainTells_7.eq_1
def r_law44_ChainTells_8 : List I := [⟨some 54, .move (.tmp 56), none⟩, ⟨some 57, .extract (.tmp 54) 0, none⟩, ⟨some 58, .extract (.tmp 54) 1, none⟩, ⟨some 14, .alloc 26, none⟩, ⟨none, .store 26 (.tmp 14) (.tmp 57), none⟩, ⟨some 15, .assign (.tmp 58), none⟩]
@[go_sem ↓] def uq91 := @unI _ _ r_law44_ChainTells_8.eq_1
def r_law44_ChainTells_9 : List I := [⟨some 59, .move (.tmp 62), none⟩, ⟨some 63, .extract (.tmp 59) 0, none⟩, ⟨some 64, .extract (.tmp 59) 1, none⟩, ⟨some 16, .assign (.tmp 63), none⟩, ⟨some 17, .assign (.tmp 64), none⟩]
@[go_sem ↓] def uq92 := @unI _ _ r_law44_ChainTells_9.eq_1
def r_law44_ChainTells_10 : List I := [⟨some 65, .move (.tmp 68), none⟩, ⟨some 69, .extract (.tmp 65) 0, none⟩, ⟨some 70, .extract (.tmp 65) 1, none⟩, ⟨some 18, .assign (.tmp 69), none⟩, ⟨some 19, .assign (.tmp 70), none⟩]
@[go_sem ↓] def uq93 := @unI _ _ r_law44_ChainTells_10.eq_1
def r_law44_ChainTells_11 : List I := [⟨some 71, .move (.tmp 73), none⟩, ⟨some 74, .extract (.tmp 71) 0, none⟩, ⟨some 75, .extract (.tmp 71) 1, none⟩, ⟨some 20, .assign (.tmp 74), none⟩, ⟨some 21, .assign (.tmp 75), none⟩]
@[go_sem ↓] def uq94 := @unI _ _ r_law44_ChainTells_11.eq_1
def r_law44_ChainTells_12 : List I := [⟨some 76, .move (.tmp 78), none⟩, ⟨some 79, .extract (.tmp 76) 0, none⟩, ⟨some 80, .extract (.tmp 76) 1, none⟩, ⟨some 22, .assign (.tmp 79), none⟩, ⟨some 23, .assign (.tmp 80), none⟩]
@[go_sem ↓] def uq95 := @unI _ _ r_law44_ChainTells_12.eq_1
def r_law44_ChainTells_13 : List I := [⟨some 121, .unOp .not 4 (.tmp 120), some (117, false)⟩, ⟨some 122, .pick (.tmp 117) (.const (.bool true)) (.tmp 121), none⟩, ⟨some 123, .move (.tmp 122), none⟩, ⟨some 124, .move (.tmp 21), some (123, false)⟩, ⟨some 125, .move (.tmp 23), some (123, false)⟩, ⟨some 126, .binOp .neq 3 (.tmp 124) (.tmp 125) 3, some (123, false)⟩, ⟨some 127, .pick (.tmp 123) (.const (.bool true)) (.tmp 126), none⟩]
@[go_sem ↓] def uq96 := @unI _ _ r_law44_ChainTells_13.eq_1
def r_law44_ChainTells_14 : List I := ⟨some 110, .unOp .not 4 (.tmp 109), some (106, false)⟩ :: ⟨some 111, .pick (.tmp 106) (.const (.bool true)) (.tmp 110), none⟩ :: ⟨some 112, .move (.tmp 111), none⟩ :: ⟨some 113, .move (.tmp 17), some (112, false)⟩ :: ⟨some 114, .move (.tmp 19), some (112, false)⟩ :: ⟨some 115, .binOp .neq 3 (.tmp 113) (.tmp 114) 3, some (112, false)⟩ :: ⟨some 116, .pick (.tmp 112) (.const (.bool true)) (.tmp 115), none⟩ :: ⟨some 117, .move (.tmp 116), none⟩ :: ⟨some 118, .move (.tmp 20), some (117, false)⟩ :: ⟨some 119, .move (.tmp 22), some (117, false)⟩ :: ⟨some 120, .call { callee := .value (.func 43), args := #[(.tmp 118), (.tmp 119)], argTypes := #[56, 56] }, some (117, false)⟩ :: r_law44_ChainTells_13
@[go_sem ↓] def uq97 := @unI _ _ r_law44_ChainTells_14.eq_1
def r_law44_ChainTells_15 : List I := ⟨some 85, .binOp .neq 3 (.tmp 82) (.tmp 84) 3, none⟩ :: ⟨some 86, .move (.tmp 85), none⟩ :: ⟨some 87, .move (.tmp 8), some (86, false)⟩ :: ⟨some 88, .move (.tmp 10), some (86, false)⟩ :: ⟨some 89, .binOp .neq 3 (.tmp 87) (.tmp 88) 3, some (86, false)⟩ :: ⟨some 90, .pick (.tmp 86) (.const (.bool true)) (.tmp 89), none⟩ :: ⟨some 91, .move (.tmp 90), none⟩ :: ⟨some 92, .move (.tmp 9), some (91, false)⟩ :: ⟨some 93, .move (.tmp 11), some (91, false)⟩ :: ⟨some 94, .binOp .neq 3 (.tmp 92) (.tmp 93) 3, some (91, false)⟩ :: ⟨some 95, .pick (.tmp 91) (.const (.bool true)) (.tmp 94), none⟩ :: ⟨some 96, .move (.tmp 95), none⟩ :: ⟨some 97, .load 26 (.tmp 12), some (96, false)⟩ :: ⟨some 98, .load 26 (.tmp 14), some (96, false)⟩ :: ⟨some 99, .binOp .neq 26 (.tmp 97) (.tmp 98) 26, some (96, false)⟩ :: ⟨some 100, .pick (.tmp 96) (.const (.bool true)) (.tmp 99), none⟩ :: ⟨some 101, .move (.tmp 100), none⟩ :: ⟨some 102, .move (.tmp 13), some (101, false)⟩ :: ⟨some 103, .move (.tmp 15), some (101, false)⟩ :: ⟨some 104, .binOp .neq 3 (.tmp 102) (.tmp 103) 3, some (101, false)⟩ :: ⟨some 105, .pick (.tmp 101) (.const (.bool true)) (.tmp 104), none⟩ :: ⟨some 106, .move (.tmp 105), none⟩ :: ⟨some 107, .move (.tmp 16), some (106, false)⟩ :: ⟨some 108, .move (.tmp 18), some (106, false)⟩ :: ⟨some 109, .call { callee := .value (.func 43), args := #[(.tmp 107), (.tmp 108)], argTypes := #[56, 56] }, some (106, false)⟩ :: r_law44_ChainTells_14
@[go_sem ↓] def uq98 := @unI _ _ r_law44_ChainTells_15.eq_1
def r_law44_ChainTells_16 : List I := ⟨some 83, .move (.tmp 0), none⟩ :: ⟨some 84, .call { callee := .value (.func 42), args := #[(.tmp 83)], argTypes := #[56] }, none⟩ :: r_law44_ChainTells_15
@[go_sem ↓] def uq99 := @unI _ _ r_law44_ChainTells_16.eq_1
def kc70 : C := (.seq (.seq (.reg ([⟨some 6, .assign (.const (.bool false)), none⟩])) (.keep [6])) .ret)
@[go_sem ↓] def uq100 := @unC _ _ kc70.eq_1
def kc71 : C := (.cond (.tmp 127) kc70 .skip)
@[go_sem ↓] def uq101 := @unC _ _ kc71.eq_1
def kc72 : C := (.cond (.tmp 131) .skip (.exit 0))
@[go_sem ↓] def uq102 := @unC _ _ kc72.eq_1
def kc73 : C := (.cond (.tmp 141) .skip (.exit 2))
@[go_sem ↓] def uq103 := @unC _ _ kc73.eq_1
def kc74 : C := (.seq (.reg ([⟨some 142, .move (.tmp 25), none⟩, ⟨some 143, .binOp .add 3 (.tmp 142) (.const (.int .i64 1)) 3, none⟩, ⟨some 25, .assign (.tmp 143), none⟩])) (.keep [0, 7, 16, 24, 25]))
@[go_sem ↓] def uq104 := @unC _ _ kc74.eq_1
def kc75 : C := (.seq (.block 3 (.seq (.sem 2 ([⟨some 144, .move (.tmp 16), none⟩, ⟨some 145, .move (.tmp 24), none⟩, ⟨some 146, .indexAddr 56 (.tmp 144) (.tmp 145), none⟩, ⟨some 147, .fieldAddr 64 (.tmp 146) 0, none⟩, ⟨some 148, .load 22 (.tmp 147), none⟩, ⟨some 149, .move (.tmp 25), none⟩, ⟨some 150, .indexAddr 22 (.tmp 148) (.tmp 149), none⟩, ⟨some 151, .load 5 (.tmp 150), none⟩, ⟨some 152, .binOp .xor 5 (.tmp 151) (.const (.int .u8 255)) 5, none⟩, ⟨some 153, .indexAddr 22 (.tmp 148) (.tmp 149), none⟩, ⟨none, .store 5 (.tmp 153) (.tmp 152), none⟩])) (.keep [0, 7, 16, 24, 25]))) kc74)
@[go_sem ↓] def uq105 := @unC _ _ kc75.eq_1
def kc76 : C := (.seq (.seq (.seq (.reg ([⟨some 134, .move (.tmp 25), none⟩, ⟨some 135, .move (.tmp 16), none⟩, ⟨some 136, .move (.tmp 24), none⟩, ⟨some 137, .indexAddr 56 (.tmp 135) (.tmp 136), none⟩, ⟨some 138, .fieldAddr 64 (.tmp 137) 0, none⟩, ⟨some 139, .load 22 (.tmp 138), none⟩, ⟨some 140, .call { callee := .builtin .len, args := #[(.tmp 139)], argTypes := #[22] }, none⟩, ⟨some 141, .binOp .lss 3 (.tmp 134) (.tmp 140) 3, none⟩])) (.keep [0, 7, 16, 24, 25, 141])) kc73) kc75)
@[go_sem ↓] def uq106 := @unC _ _ kc76.eq_1
def kc77 : C := (.block 2 (.loop [] [0, 7, 16, 24, 25] kc76))
@[go_sem ↓] def uq107 := @unC _ _ kc77.eq_1
def kc78 : C := (.seq (.reg ([⟨some 132, .move (.tmp 24), none⟩, ⟨some 133, .binOp .add 3 (.tmp 132) (.const (.int .i64 1)) 3, none⟩, ⟨some 24, .assign (.tmp 133), none⟩])) (.keep [0, 7, 16, 24]))
@[go_sem ↓] def uq108 := @unC _ _ kc78.eq_1
def kc79 : C := (.seq (.block 1 (.seq (.seq (.reg ([⟨some 25, .assign (.const (.int .i64 0)), none⟩])) (.keep [0, 7, 16, 24, 25])) kc77)) kc78)
@[go_sem ↓] def uq109 := @unC _ _ kc79.eq_1
def kc80 : C := (.seq (.seq (.seq (.reg ([⟨some 128, .move (.tmp 24), none⟩, ⟨some 129, .move (.tmp 16), none⟩, ⟨some 130, .call { callee := .builtin .len, args := #[(.tmp 129)], argTypes := #[56] }, none⟩, ⟨some 131, .binOp .lss 3 (.tmp 128) (.tmp 130) 3, none⟩])) (.keep [0, 7, 16, 24, 131])) kc72) kc79)
@[go_sem ↓] def uq110 := @unC _ _ kc80.eq_1
def kc81 : C := (.block 0 (.loop [] [0, 7, 16, 24] kc80))
@[go_sem ↓] def uq111 := @unC _ _ kc81.eq_1
def r_law44_ChainTells_29 : List I := [⟨some 6, .assign (.tmp 156), none⟩]
@[go_sem ↓] def uq112 := @unI _ _ r_law44_ChainTells_29.eq_1
def kc82 : C := (.seq (.seq (.reg (⟨some 154, .move (.tmp 0), none⟩ :: ⟨some 155, .move (.tmp 7), none⟩ :: ⟨some 156, .call { callee := .value (.func 43), args := #[(.tmp 154), (.tmp 155)], argTypes := #[56, 56] }, none⟩ :: r_law44_ChainTells_29)) (.keep [6])) .ret)
@[go_sem ↓] def uq113 := @unC _ _ kc82.eq_1
def kc83 : C := (.seq (.seq (.seq (.sem 3 ([⟨some 24, .assign (.const (.int .i64 0)), none⟩])) (.keep [0, 7, 16, 24])) kc81) kc82)
@[go_sem ↓] def uq114 := @unC _ _ kc83.eq_1
def kc84 : C := (.seq (.seq (.seq (.reg (⟨some 81, .move (.tmp 0), none⟩ :: ⟨some 82, .call { callee := .value (.func 41), args := #[(.tmp 81)], argTypes := #[56] }, none⟩ :: r_law44_ChainTells_16)) (.keep [0, 7, 16, 127])) kc71) kc83)
@[go_sem ↓] def uq115 := @unC _ _ kc84.eq_1
def kc85 : C := (.seq (.seq (.reg (⟨some 77, .move (.tmp 2), none⟩ :: ⟨some 78, .call { callee := .value (.func 40), args := #[(.tmp 77)], argTypes := #[54] }, none⟩ :: r_law44_ChainTells_12)) (.keep [0, 7, 8, 9, 10, 11, 12, 13, 14, 15, 16, 17, 18, 19, 20, 21, 22, 23])) kc84)
@[go_sem ↓] def uq116 := @unC _ _ kc85.eq_1
def kc86 : C := (.seq (.seq (.reg (⟨some 72, .move (.tmp 2), none⟩ :: ⟨some 73, .call { callee := .value (.func 29), args := #[(.tmp 72)], argTypes := #[54] }, none⟩ :: r_law44_ChainTells_11)) (.keep [0, 2, 7, 8, 9, 10, 11, 12, 13, 14, 15, 16, 17, 18, 19, 20, 21])) kc85)
@[go_sem ↓] def uq117 := @unC _ _ kc86.eq_1
def kc87 : C := (.seq (.seq (.reg (⟨some 66, .move (.tmp 0), none⟩ :: ⟨some 67, .move (.tmp 1), none⟩ :: ⟨some 68, .call { callee := .value (.func 39), args := #[(.tmp 66), (.tmp 67)], argTypes := #[56, 22] }, none⟩ :: r_law44_ChainTells_10)) (.keep [0, 2, 7, 8, 9, 10, 11, 12, 13, 14, 15, 16, 17, 18, 19])) kc86)
@[go_sem ↓] def uq118 := @unC _ _ kc87.eq_1
def kc88 : C := (.seq (.seq (.sem 1 (⟨some 60, .move (.tmp 0), none⟩ :: ⟨some 61, .move (.tmp 1), none⟩ :: ⟨some 62, .call { callee := .value (.func 38), args := #[(.tmp 60), (.tmp 61)], argTypes := #[56, 22] }, none⟩ :: r_law44_ChainTells_9)) (.keep [0, 1, 2, 7, 8, 9, 10, 11, 12, 13, 14, 15, 16, 17])) kc87)
@[go_sem ↓] def uq119 := @unC _ _ kc88.eq_1
def kc89 : C := (.seq (.seq (.reg (⟨some 55, .move (.tmp 0), none⟩ :: ⟨some 56, .call { callee := .value (.func 37), args := #[(.tmp 55)], argTypes := #[56] }, none⟩ :: r_law44_ChainTells_8)) (.keep [0, 1, 2, 7, 8, 9, 10, 11, 12, 13, 14, 15])) kc88)
@[go_sem ↓] def uq120 := @unC _ _ kc89.eq_1
def kc90 : C := (.seq (.seq (.reg (⟨some 50, .move (.tmp 0), none⟩ :: ⟨some 51, .call { callee := .value (.func 31), args := #[(.tmp 50)], argTypes := #[56] }, none⟩ :: r_law44_ChainTells_7)) (.keep [0, 1, 2, 7, 8, 9, 10, 11, 12, 13])) kc89)
@[go_sem ↓] def uq121 := @unC _ _ kc90.eq_1
def kc91 : C := (.seq (.seq (.reg (⟨some 45, .move (.tmp 0), none⟩ :: ⟨some 46, .call { callee := .value (.func 36), args := #[(.tmp 45)], argTypes := #[56] }, none⟩ :: r_law44_ChainTells_6)) (.keep [0, 1, 2, 7, 8, 9, 10, 11])) kc90)
@[go_sem ↓] def uq122 := @unC _ _ kc91.eq_1
def kc92 : C := (.seq (.seq (.reg (⟨some 40, .move (.tmp 0), none⟩ :: ⟨some 41, .call { callee := .value (.func 30), args := #[(.tmp 40)], argTypes := #[56] }, none⟩ :: r_law44_ChainTells_5)) (.keep [0, 1, 2, 7, 8, 9])) kc91)
@[go_sem ↓] def uq123 := @unC _ _ kc92.eq_1
def kc93 : C := (.seq (.seq (.reg (⟨some 37, .move (.tmp 0), none⟩ :: ⟨some 38, .call { callee := .value (.func 33), args := #[(.tmp 37)], argTypes := #[56] }, none⟩ :: r_law44_ChainTells_4)) (.keep [0, 1, 2, 7])) kc92)
@[go_sem ↓] def uq124 := @unC _ _ kc93.eq_1
def kc94 : C := (.seq (.seq (.seq (.reg (⟨some 26, .move (.tmp 0), none⟩ :: ⟨some 27, .call { callee := .value (.func 35), args := #[(.tmp 26)], argTypes := #[56] }, none⟩ :: r_law44_ChainTells_1)) (.keep [0, 1, 2, 36])) kc69) kc93)
@[go_sem ↓] def uq125 := @unC _ _ kc94.eq_1
def c_law44_ChainTells : C := (.seq (.seq (.reg ([⟨some 6, .assign (.const (.bool false)), none⟩])) (.keep [0, 1, 2])) kc94)
attribute [go_sem ↓] c_law44_ChainTells
def h_law44_ChainTells : List Hint := [⟨[], [0, 1, 2], []⟩, ⟨[], [0, 1, 2, 36], []⟩, ⟨[], [6], []⟩, ⟨[], [0, 1, 2, 7], []⟩, ⟨[], [0, 1, 2, 7, 8, 9], []⟩, ⟨[], [0, 1, 2, 7, 8, 9, 10, 11], []⟩, ⟨[], [0, 1, 2, 7, 8, 9, 10, 11, 12, 13], []⟩, ⟨[], [0, 1, 2, 7, 8, 9, 10, 11, 12, 13, 14, 15], []⟩, ⟨[], [0, 1, 2, 7, 8, 9, 10, 11, 12, 13, 14, 15, 16, 17], [1]⟩, ⟨[], [0, 2, 7, 8, 9, 10, 11, 12, 13, 14, 15, 16, 17, 18, 19], []⟩, ⟨[], [0, 2, 7, 8, 9, 10, 11, 12, 13, 14, 15, 16, 17, 18, 19, 20, 21], []⟩, ⟨[], [0, 7, 8, 9, 10, 11, 12, 13, 14, 15, 16, 17, 18, 19, 20, 21, 22, 23], []⟩, ⟨[], [0, 7, 16, 127], []⟩, ⟨[], [6], []⟩, ⟨[], [0, 7, 16, 24], [3]⟩, ⟨[], [0, 7, 16, 24], []⟩, ⟨[], [0, 7, 16, 24, 131], []⟩, ⟨[], [0, 7, 16, 24, 25], []⟩, ⟨[], [0, 7, 16, 24, 25], []⟩, ⟨[], [0, 7, 16, 24, 25, 141], []⟩, ⟨[], [0, 7, 16, 24, 25], [2]⟩, ⟨[], [0, 7, 16, 24, 25], []⟩, ⟨[], [0, 7, 16, 24], []⟩, ⟨[], [6], []⟩]
theorem b_law44_ChainTells : Body Tryd.prog 9 [] h_law44_ChainTells c_law44_ChainTells 157 [.tmp 6] := body_of Tryd.func9 (by kernel_rfl) (by kernel_rfl) (by kernel_rfl) (by kernel_rfl)
end Go.Proofs.YtgkmhmhbepfiaaaDoor.Pm
