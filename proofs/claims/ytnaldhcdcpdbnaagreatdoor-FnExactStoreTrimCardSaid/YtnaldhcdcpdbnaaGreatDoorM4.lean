/-
Part 4 of the proof of the claimed statement (its last part holds the theorem, and says what is proved). Conditions: none.
-/
import Derived.Test.YtnaldhcdcpdbnaaGreatDoorM3
import Derived.Test.YtnaldhcdcpdbnaaGreatDoorProg
import Derived.KernelRfl
set_option linter.all false
/-
The seat's own numbers: types, functions, how each is called. Written by a program.
-/
namespace Go.Proofs.YtnaldhcdcpdbnaaGreatDoor
namespace V

noncomputable abbrev PP : Program := Tryz.prog
def tt : TT := .n 86 ⟨1, 8, [.bad], .other⟩ (.n 43 ⟨1, 8, [.bad], .other⟩ (.n 22 ⟨1, 24, [.sl []], (.slice 3)⟩ (.n 11 ⟨1, 16, [.str ⟨#[]⟩], .str⟩ (.n 6 ⟨1, 1, [.int .u8 0], (.int .u8)⟩ (.n 3 ⟨1, 8, [.int .i64 0], (.int .i64)⟩ (.n 2 ⟨1, 8, [.int .i64 0], (.int .i64)⟩ (.n 1 ⟨1, 8, [.bad], .other⟩ (.e) (.e)) (.e)) (.n 5 ⟨1, 1, [.int .u8 0], (.int .u8)⟩ (.n 4 ⟨1, 1, [.bool false], .bool⟩ (.e) (.e)) (.e))) (.n 9 ⟨1, 16, [.str ⟨#[]⟩], .str⟩ (.n 8 ⟨4, 24, [.int .i64 0, .int .i64 0, .bool false, .int .u8 0], (.struct [(0, 2), (1, 3), (2, 4), (3, 6)])⟩ (.n 7 ⟨4, 24, [.int .i64 0, .int .i64 0, .bool false, .int .u8 0], (.struct [(0, 2), (1, 3), (2, 4), (3, 6)])⟩ (.e) (.e)) (.e)) (.n 10 ⟨1, 16, [.str ⟨#[]⟩], .str⟩ (.e) (.e)))) (.n 17 ⟨1, 8, [.bad], (.ptr 169)⟩ (.n 14 ⟨2, 24, [.str ⟨#[]⟩, .int .u64 0], (.struct [(0, 9), (1, 12)])⟩ (.n 13 ⟨2, 24, [.str ⟨#[]⟩, .int .u64 0], (.struct [(0, 9), (1, 12)])⟩ (.n 12 ⟨1, 8, [.int .u64 0], (.int .u64)⟩ (.e) (.e)) (.e)) (.n 16 ⟨1, 8, [.bad], (.ptr 161)⟩ (.n 15 ⟨1, 8, [.bad], (.ptr 158)⟩ (.e) (.e)) (.e))) (.n 20 ⟨1, 16, [.bad], .other⟩ (.n 19 ⟨1, 8, [.bad], (.struct [(0, 17)])⟩ (.n 18 ⟨1, 8, [.bad], (.struct [(0, 17)])⟩ (.e) (.e)) (.e)) (.n 21 ⟨1, 4, [.int .i32 0], (.int .i32)⟩ (.e) (.e))))) (.n 33 ⟨1, 24, [.sl []], (.slice 63)⟩ (.n 28 ⟨7, 88, [.int .i64 0, .sl [], .int .i64 0, .bool false, .int .i64 0, .int .i64 0, .sl []], (.struct [(0, 24), (3, 4), (4, 27)])⟩ (.n 25 ⟨1, 24, [.sl []], (.slice 113)⟩ (.n 24 ⟨3, 40, [.int .i64 0, .sl [], .int .i64 0], (.struct [(0, 3), (1, 22), (2, 3)])⟩ (.n 23 ⟨3, 40, [.int .i64 0, .sl [], .int .i64 0], (.struct [(0, 3), (1, 22), (2, 3)])⟩ (.e) (.e)) (.e)) (.n 27 ⟨3, 40, [.int .i64 0, .int .i64 0, .sl []], (.struct [(0, 3), (1, 3), (2, 25)])⟩ (.n 26 ⟨3, 40, [.int .i64 0, .int .i64 0, .sl []], (.struct [(0, 3), (1, 3), (2, 25)])⟩ (.e) (.e)) (.e))) (.n 31 ⟨1, 8, [.bad], .other⟩ (.n 30 ⟨1, 24, [.sl []], (.slice 54)⟩ (.n 29 ⟨7, 88, [.int .i64 0, .sl [], .int .i64 0, .bool false, .int .i64 0, .int .i64 0, .sl []], (.struct [(0, 24), (3, 4), (4, 27)])⟩ (.e) (.e)) (.e)) (.n 32 ⟨1, 8, [.bad], .other⟩ (.e) (.e)))) (.n 38 ⟨3, 40, [.int .i64 0, .int .i64 0, .sl []], (.struct [(0, 3), (1, 3), (2, 36)])⟩ (.n 36 ⟨1, 24, [.sl []], (.slice 67)⟩ (.n 35 ⟨3, 40, [.int .i64 0, .sl [], .int .i64 0], (.struct [(0, 3), (1, 22), (2, 3)])⟩ (.n 34 ⟨1, 8, [.bad], .other⟩ (.e) (.e)) (.e)) (.n 37 ⟨3, 40, [.int .i64 0, .int .i64 0, .sl []], (.struct [(0, 3), (1, 3), (2, 36)])⟩ (.e) (.e))) (.n 41 ⟨1, 8, [.bad], .other⟩ (.n 40 ⟨7, 88, [.int .i64 0, .sl [], .int .i64 0, .bool false, .int .i64 0, .int .i64 0, .sl []], (.struct [(0, 35), (3, 4), (4, 38)])⟩ (.n 39 ⟨7, 88, [.int .i64 0, .sl [], .int .i64 0, .bool false, .int .i64 0, .int .i64 0, .sl []], (.struct [(0, 35), (3, 4), (4, 38)])⟩ (.e) (.e)) (.e)) (.n 42 ⟨1, 8, [.bad], .other⟩ (.e) (.e)))))) (.n 64 ⟨1, 8, [.bad], .other⟩ (.n 54 ⟨4, 64, [.int .i64 0, .int .i64 0, .sl [], .sl []], (.struct [(0, 3), (1, 3), (2, 51), (3, 52)])⟩ (.n 49 ⟨1, 8, [.bad], .other⟩ (.n 46 ⟨1, 8, [.bad], .other⟩ (.n 45 ⟨1, 8, [.bad], .other⟩ (.n 44 ⟨1, 8, [.bad], .other⟩ (.e) (.e)) (.e)) (.n 48 ⟨1, 8, [.bad], .other⟩ (.n 47 ⟨1, 8, [.bad], .other⟩ (.e) (.e)) (.e))) (.n 52 ⟨1, 24, [.sl []], (.slice 117)⟩ (.n 51 ⟨1, 24, [.sl []], (.slice 115)⟩ (.n 50 ⟨1, 8, [.bad], .other⟩ (.e) (.e)) (.e)) (.n 53 ⟨4, 64, [.int .i64 0, .int .i64 0, .sl [], .sl []], (.struct [(0, 3), (1, 3), (2, 51), (3, 52)])⟩ (.e) (.e)))) (.n 59 ⟨1, 8, [.bad], .other⟩ (.n 57 ⟨1, 8, [.bad], .other⟩ (.n 56 ⟨1, 8, [.bad], .other⟩ (.n 55 ⟨1, 8, [.bad], .other⟩ (.e) (.e)) (.e)) (.n 58 ⟨1, 8, [.bad], .other⟩ (.e) (.e))) (.n 62 ⟨4, 64, [.int .i64 0, .int .i64 0, .sl [], .sl []], (.struct [(0, 3), (1, 3), (2, 60), (3, 61)])⟩ (.n 61 ⟨1, 24, [.sl []], (.slice 100)⟩ (.n 60 ⟨1, 24, [.sl []], (.slice 97)⟩ (.e) (.e)) (.e)) (.n 63 ⟨4, 64, [.int .i64 0, .int .i64 0, .sl [], .sl []], (.struct [(0, 3), (1, 3), (2, 60), (3, 61)])⟩ (.e) (.e))))) (.n 75 ⟨1, 8, [.bad], .other⟩ (.n 70 ⟨1, 8, [.bad], .other⟩ (.n 67 ⟨3, 24, [.int .i64 0, .int .i64 0, .int .i64 0], (.struct [(0, 3), (1, 3), (2, 3)])⟩ (.n 66 ⟨3, 24, [.int .i64 0, .int .i64 0, .int .i64 0], (.struct [(0, 3), (1, 3), (2, 3)])⟩ (.n 65 ⟨1, 8, [.bad], .other⟩ (.e) (.e)) (.e)) (.n 69 ⟨1, 8, [.bad], .other⟩ (.n 68 ⟨1, 8, [.bad], .other⟩ (.e) (.e)) (.e))) (.n 73 ⟨1, 8, [.bad], .other⟩ (.n 72 ⟨1, 8, [.bad], .other⟩ (.n 71 ⟨1, 8, [.bad], .other⟩ (.e) (.e)) (.e)) (.n 74 ⟨1, 8, [.bad], .other⟩ (.e) (.e)))) (.n 80 ⟨1, 8, [.bad], .other⟩ (.n 78 ⟨1, 8, [.bad], .other⟩ (.n 77 ⟨1, 8, [.bad], .other⟩ (.n 76 ⟨1, 8, [.bad], .other⟩ (.e) (.e)) (.e)) (.n 79 ⟨1, 8, [.bad], .other⟩ (.e) (.e))) (.n 84 ⟨1, 8, [.bad], .other⟩ (.n 82 ⟨1, 8, [.bad], .other⟩ (.n 81 ⟨1, 8, [.bad], .other⟩ (.e) (.e)) (.e)) (.n 85 ⟨1, 8, [.bad], .other⟩ (.e) (.e))))))) (.n 130 ⟨1, 8, [.bad], .other⟩ (.n 108 ⟨1, 8, [.bad], .other⟩ (.n 97 ⟨2, 16, [.int .i64 0, .int .i64 0], (.struct [(0, 3), (1, 3)])⟩ (.n 92 ⟨1, 8, [.bad], .other⟩ (.n 89 ⟨1, 8, [.bad], .other⟩ (.n 88 ⟨1, 8, [.bad], .other⟩ (.n 87 ⟨1, 8, [.bad], .other⟩ (.e) (.e)) (.e)) (.n 91 ⟨1, 8, [.bad], .other⟩ (.n 90 ⟨1, 8, [.bad], .other⟩ (.e) (.e)) (.e))) (.n 95 ⟨1, 8, [.bad], .other⟩ (.n 94 ⟨1, 8, [.bad], .other⟩ (.n 93 ⟨1, 8, [.bad], .other⟩ (.e) (.e)) (.e)) (.n 96 ⟨2, 16, [.int .i64 0, .int .i64 0], (.struct [(0, 3), (1, 3)])⟩ (.e) (.e)))) (.n 103 ⟨1, 8, [.bad], .other⟩ (.n 100 ⟨2, 16, [.int .i64 0, .int .i64 0], (.struct [(0, 3), (1, 3)])⟩ (.n 99 ⟨2, 16, [.int .i64 0, .int .i64 0], (.struct [(0, 3), (1, 3)])⟩ (.n 98 ⟨1, 8, [.bad], .other⟩ (.e) (.e)) (.e)) (.n 102 ⟨1, 8, [.bad], .other⟩ (.n 101 ⟨1, 8, [.bad], .other⟩ (.e) (.e)) (.e))) (.n 106 ⟨1, 8, [.bad], .other⟩ (.n 105 ⟨1, 8, [.bad], .other⟩ (.n 104 ⟨1, 8, [.bad], .other⟩ (.e) (.e)) (.e)) (.n 107 ⟨1, 8, [.bad], .other⟩ (.e) (.e))))) (.n 119 ⟨1, 8, [.bad], .other⟩ (.n 114 ⟨1, 8, [.bad], .other⟩ (.n 111 ⟨1, 8, [.bad], .other⟩ (.n 110 ⟨1, 8, [.bad], .other⟩ (.n 109 ⟨1, 8, [.bad], .other⟩ (.e) (.e)) (.e)) (.n 113 ⟨3, 24, [.int .i64 0, .int .i64 0, .int .i64 0], (.struct [(0, 3), (1, 3), (2, 3)])⟩ (.n 112 ⟨1, 8, [.bad], .other⟩ (.e) (.e)) (.e))) (.n 117 ⟨2, 16, [.int .i64 0, .int .i64 0], (.struct [(0, 3), (1, 3)])⟩ (.n 116 ⟨1, 8, [.bad], .other⟩ (.n 115 ⟨2, 16, [.int .i64 0, .int .i64 0], (.struct [(0, 3), (1, 3)])⟩ (.e) (.e)) (.e)) (.n 118 ⟨1, 8, [.bad], .other⟩ (.e) (.e)))) (.n 124 ⟨2, 32, [.bad, .sl []], (.struct [(0, 122), (1, 121)])⟩ (.n 122 ⟨1, 8, [.bad], (.ptr 124)⟩ (.n 121 ⟨1, 24, [.sl []], (.slice 5)⟩ (.n 120 ⟨1, 8, [.bad], .other⟩ (.e) (.e)) (.e)) (.n 123 ⟨2, 32, [.bad, .sl []], (.struct [(0, 122), (1, 121)])⟩ (.e) (.e))) (.n 128 ⟨1, 8, [.bad], .other⟩ (.n 126 ⟨1, 16, [.bad], .other⟩ (.n 125 ⟨1, 16, [.bad], .other⟩ (.e) (.e)) (.e)) (.n 129 ⟨1, 8, [.bad], .other⟩ (.e) (.e)))))) (.n 152 ⟨1, 8, [.int .u64 0], (.int .u64)⟩ (.n 141 ⟨24, 24, [.int .u8 0, .int .u8 0, .int .u8 0, .int .u8 0, .int .u8 0, .int .u8 0, .int .u8 0, .int .u8 0, .int .u8 0, .int .u8 0, .int .u8 0, .int .u8 0, .int .u8 0, .int .u8 0, .int .u8 0, .int .u8 0, .int .u8 0, .int .u8 0, .int .u8 0, .int .u8 0, .int .u8 0, .int .u8 0, .int .u8 0, .int .u8 0], (.array 24 5)⟩ (.n 136 ⟨1, 8, [.bad], .other⟩ (.n 133 ⟨1, 8, [.bad], .other⟩ (.n 132 ⟨1, 8, [.bad], .other⟩ (.n 131 ⟨1, 8, [.bad], .other⟩ (.e) (.e)) (.e)) (.n 135 ⟨1, 24, [.sl []], (.slice 9)⟩ (.n 134 ⟨1, 8, [.bad], .other⟩ (.e) (.e)) (.e))) (.n 139 ⟨1, 8, [.bad], .other⟩ (.n 138 ⟨1, 8, [.bad], .other⟩ (.n 137 ⟨1, 8, [.bad], (.ptr 5)⟩ (.e) (.e)) (.e)) (.n 140 ⟨1, 8, [.bad], .other⟩ (.e) (.e)))) (.n 147 ⟨1, 8, [.bad], .other⟩ (.n 144 ⟨1, 8, [.bad], .other⟩ (.n 143 ⟨1, 8, [.bad], .other⟩ (.n 142 ⟨1, 8, [.int .u64 0], (.int .u64)⟩ (.e) (.e)) (.e)) (.n 146 ⟨1, 8, [.bad], .other⟩ (.e) (.e))) (.n 150 ⟨1, 4, [.int .u32 0], (.int .u32)⟩ (.n 149 ⟨20, 160, [.int .u64 0, .int .u64 0, .int .u64 0, .int .u64 0, .int .u64 0, .int .u64 0, .int .u64 0, .int .u64 0, .int .u64 0, .int .u64 0, .int .u64 0, .int .u64 0, .int .u64 0, .int .u64 0, .int .u64 0, .int .u64 0, .int .u64 0, .int .u64 0, .int .u64 0, .int .u64 0], (.array 20 142)⟩ (.n 148 ⟨1, 8, [.bad], .other⟩ (.e) (.e)) (.e)) (.n 151 ⟨65, 65, [.int .u8 0, .int .u8 0, .int .u8 0, .int .u8 0, .int .u8 0, .int .u8 0, .int .u8 0, .int .u8 0, .int .u8 0, .int .u8 0, .int .u8 0, .int .u8 0, .int .u8 0, .int .u8 0, .int .u8 0, .int .u8 0, .int .u8 0, .int .u8 0, .int .u8 0, .int .u8 0, .int .u8 0, .int .u8 0, .int .u8 0, .int .u8 0, .int .u8 0, .int .u8 0, .int .u8 0, .int .u8 0, .int .u8 0, .int .u8 0, .int .u8 0, .int .u8 0, .int .u8 0, .int .u8 0, .int .u8 0, .int .u8 0, .int .u8 0, .int .u8 0, .int .u8 0, .int .u8 0, .int .u8 0, .int .u8 0, .int .u8 0, .int .u8 0, .int .u8 0, .int .u8 0, .int .u8 0, .int .u8 0, .int .u8 0, .int .u8 0, .int .u8 0, .int .u8 0, .int .u8 0, .int .u8 0, .int .u8 0, .int .u8 0, .int .u8 0, .int .u8 0, .int .u8 0, .int .u8 0, .int .u8 0, .int .u8 0, .int .u8 0, .int .u8 0, .int .u8 0], (.array 65 5)⟩ (.e) (.e))))) (.n 163 ⟨1, 1, [.int .u8 0], (.int .u8)⟩ (.n 158 ⟨4, 40, [.bad, .bad, .bad, .str ⟨#[]⟩], (.struct [(0, 17), (1, 17), (2, 17), (3, 9)])⟩ (.n 155 ⟨32, 32, [.int .u8 0, .int .u8 0, .int .u8 0, .int .u8 0, .int .u8 0, .int .u8 0, .int .u8 0, .int .u8 0, .int .u8 0, .int .u8 0, .int .u8 0, .int .u8 0, .int .u8 0, .int .u8 0, .int .u8 0, .int .u8 0, .int .u8 0, .int .u8 0, .int .u8 0, .int .u8 0, .int .u8 0, .int .u8 0, .int .u8 0, .int .u8 0, .int .u8 0, .int .u8 0, .int .u8 0, .int .u8 0, .int .u8 0, .int .u8 0, .int .u8 0, .int .u8 0], (.array 32 5)⟩ (.n 154 ⟨1, 8, [.bad], .other⟩ (.n 153 ⟨1, 8, [.bad], .other⟩ (.e) (.e)) (.e)) (.n 157 ⟨4, 40, [.bad, .bad, .bad, .str ⟨#[]⟩], (.struct [(0, 17), (1, 17), (2, 17), (3, 9)])⟩ (.n 156 ⟨64, 64, [.int .u8 0, .int .u8 0, .int .u8 0, .int .u8 0, .int .u8 0, .int .u8 0, .int .u8 0, .int .u8 0, .int .u8 0, .int .u8 0, .int .u8 0, .int .u8 0, .int .u8 0, .int .u8 0, .int .u8 0, .int .u8 0, .int .u8 0, .int .u8 0, .int .u8 0, .int .u8 0, .int .u8 0, .int .u8 0, .int .u8 0, .int .u8 0, .int .u8 0, .int .u8 0, .int .u8 0, .int .u8 0, .int .u8 0, .int .u8 0, .int .u8 0, .int .u8 0, .int .u8 0, .int .u8 0, .int .u8 0, .int .u8 0, .int .u8 0, .int .u8 0, .int .u8 0, .int .u8 0, .int .u8 0, .int .u8 0, .int .u8 0, .int .u8 0, .int .u8 0, .int .u8 0, .int .u8 0, .int .u8 0, .int .u8 0, .int .u8 0, .int .u8 0, .int .u8 0, .int .u8 0, .int .u8 0, .int .u8 0, .int .u8 0, .int .u8 0, .int .u8 0, .int .u8 0, .int .u8 0, .int .u8 0, .int .u8 0, .int .u8 0, .int .u8 0], (.array 64 5)⟩ (.e) (.e)) (.e))) (.n 161 ⟨0, 0, [], (.struct [(0, 159)])⟩ (.n 160 ⟨0, 0, [], (.struct [(0, 159)])⟩ (.n 159 ⟨0, 0, [], (.array 0 16)⟩ (.e) (.e)) (.e)) (.n 162 ⟨1, 8, [.bad], .other⟩ (.e) (.e)))) (.n 168 ⟨11, 48, [.int .u64 0, .int .u64 0, .int .u32 0, .int .u8 0, .int .u8 0, .int .u8 0, .int .u8 0, .bad, .bad, .int .i32 0, .int .i32 0], (.struct [(0, 12), (1, 12), (2, 150), (3, 163), (4, 5), (5, 5), (6, 164), (7, 165), (8, 137), (9, 166), (10, 167)])⟩ (.n 166 ⟨1, 4, [.int .i32 0], (.int .i32)⟩ (.n 165 ⟨1, 8, [.bad], .other⟩ (.n 164 ⟨1, 1, [.int .u8 0], (.int .u8)⟩ (.e) (.e)) (.e)) (.n 167 ⟨1, 4, [.int .i32 0], (.int .i32)⟩ (.e) (.e))) (.n 171 ⟨1, 8, [.bad], .other⟩ (.n 170 ⟨1, 8, [.bad], .other⟩ (.n 169 ⟨11, 48, [.int .u64 0, .int .u64 0, .int .u32 0, .int .u8 0, .int .u8 0, .int .u8 0, .int .u8 0, .bad, .bad, .int .i32 0, .int .i32 0], (.struct [(0, 12), (1, 12), (2, 150), (3, 163), (4, 5), (5, 5), (6, 164), (7, 165), (8, 137), (9, 166), (10, 167)])⟩ (.e) (.e)) (.e)) (.n 172 ⟨1, 8, [.bad], .other⟩ (.e) (.e)))))))
abbrev n_l_FnExactStoreTrim : Nat := 3
abbrev n_l_szTrust : Nat := 4
abbrev n_l_szPkgS : Nat := 5
abbrev n_s_StoreTrim : Nat := 6
abbrev n_l_toTrust : Nat := 7
abbrev n_l_toPkgS : Nat := 8
abbrev n_i_StoreTrim : Nat := 9
abbrev n_l_eqPkgS : Nat := 10
abbrev n_l_eqTrust : Nat := 11
abbrev n_l_markTrust : Nat := 12
abbrev n_l_markPkgS : Nat := 13
abbrev n_l_heldPkgS : Nat := 14
abbrev n_l_szRoot : Nat := 15
abbrev n_l_szIndex : Nat := 16
abbrev n_l_szPkg : Nat := 17
abbrev n_s_TrustOk : Nat := 18
abbrev n_s_StoreOk : Nat := 19
abbrev n_s_l12Trim : Nat := 20
abbrev n_s_l12Copy : Nat := 21
abbrev n_l_toRoot : Nat := 22
abbrev n_l_toIndex : Nat := 23
abbrev n_l_toPkg : Nat := 24
abbrev n_i_TrustOk : Nat := 25
abbrev n_i_StoreOk : Nat := 26
abbrev n_sl_Contains_Meta : Nat := 27
abbrev n_i_metaOf : Nat := 28
abbrev n_i_Pkg_copied : Nat := 29
abbrev n_l_eqPkg : Nat := 30
abbrev n_l_eqRoot : Nat := 31
abbrev n_l_eqIndex : Nat := 32
abbrev n_l_markRoot : Nat := 33
abbrev n_l_markIndex : Nat := 34
abbrev n_l_markFileS : Nat := 35
abbrev n_l_markDepS : Nat := 36
abbrev n_l_heldFileS : Nat := 37
abbrev n_l_heldDepS : Nat := 38
abbrev n_l_szIntS : Nat := 39
abbrev n_l_szMetaS : Nat := 40
abbrev n_l_szFileS : Nat := 41
abbrev n_l_szDepS : Nat := 42
abbrev n_s_RootOk : Nat := 43
abbrev n_s_IndexOk : Nat := 44
abbrev n_s_l3Pkgs : Nat := 45
abbrev n_s_l3Has : Nat := 46
abbrev n_s_PkgText : Nat := 47
abbrev n_s_l12PkgCopy : Nat := 48
abbrev n_l_toIntS : Nat := 49
abbrev n_l_toMetaS : Nat := 50
abbrev n_l_toFileS : Nat := 51
abbrev n_l_toDepS : Nat := 52
abbrev n_i_RootOk : Nat := 53
abbrev n_i_IndexOk : Nat := 54
abbrev n_i_Index_same : Nat := 55
abbrev n_i_PkgOk : Nat := 56
abbrev n_i_Pkg_compare : Nat := 57
abbrev n_sl_Index_Meta : Nat := 58
abbrev n_i_SumOf : Nat := 59
abbrev n_i_PkgText : Nat := 60
abbrev n_sl_Clone_File : Nat := 61
abbrev n_sl_Clone_Dep : Nat := 62
abbrev n_l_eqFileS : Nat := 63
abbrev n_l_eqDepS : Nat := 64
abbrev n_l_eqIntS : Nat := 65
abbrev n_l_eqMetaS : Nat := 66
abbrev n_l_markIntS : Nat := 67
abbrev n_l_markMetaS : Nat := 68
abbrev n_s_l6In : Nat := 69
abbrev n_s_KeysOk : Nat := 70
abbrev n_s_l3Less : Nat := 71
abbrev n_s_PkgOk : Nat := 72
abbrev n_s_PkgRead : Nat := 73
abbrev n_s_SumOf : Nat := 74
abbrev n_s_l1Name : Nat := 75
abbrev n_s_l6Dec : Nat := 76
abbrev n_l_toMeta : Nat := 77
abbrev n_l_toFile : Nat := 78
abbrev n_l_toDep : Nat := 79
abbrev n_i_in : Nat := 80
abbrev n_i_KeysOk : Nat := 81
abbrev n_i_isName : Nat := 82
abbrev n_i_isVer : Nat := 83
abbrev n_sl_Equal_Meta : Nat := 84
abbrev n_cmp_Or_int : Nat := 85
abbrev n_cmp_Compare_int : Nat := 86
abbrev n_l_eqFile : Nat := 91
abbrev n_l_eqDep : Nat := 92
abbrev n_l_eqMeta : Nat := 93
abbrev n_s_l1Files : Nat := 94
abbrev n_s_l1Deps : Nat := 95
abbrev n_s_l1Cut : Nat := 96
abbrev n_cmp_isNaN_int : Nat := 97
abbrev s_s_PkgRead : Sig := ⟨[.v false [.s]], [.v true [.s, .s, .r, .r], .v false [.s]]⟩
abbrev s_s_l1Cut : Sig := ⟨[.v false [.s], .v false [.s]], [.v false [.r]]⟩
abbrev s_s_l12Copy : Sig := ⟨[.v false [.b]], [.v false [.r]]⟩
abbrev s_s_l12PkgCopy : Sig := ⟨[.v true [.s, .s, .b, .b]], [.v true [.s, .s, .o false ⟨2, false⟩, .o false ⟨2, false⟩]]⟩
abbrev s_s_l12Trim : Sig := ⟨[.v true [.s, .b, .s, .s, .s, .s, .b], .v false [.r]], [.v false [.r]]⟩
abbrev s_s_l3Has : Sig := ⟨[.v true [.s, .s, .b], .v false [.s]], [.v true [.s, .s, .r, .r], .v false [.s]]⟩
abbrev s_l_szTrust : Sig := ⟨[.v true [.s, .b, .s, .s, .s, .s, .b], .v false [.s]], [.v false [.s]]⟩
abbrev s_l_szPkgS : Sig := ⟨[.v false [.b], .v false [.s]], [.v false [.s]]⟩
abbrev s_s_StoreTrim : Sig := ⟨[.v true [.s, .r, .s, .s, .s, .s, .r], .v false [.r]], [.v false [.r]]⟩
abbrev s_l_toTrust : Sig := ⟨[.v true [.s, .b, .s, .s, .s, .s, .b]], [.v true [.s, .o true ⟨1, false⟩, .s, .s, .s, .s, .o true ⟨3, false⟩]]⟩
abbrev s_l_toPkgS : Sig := ⟨[.v false [.b]], [.v false [.o true ⟨4, false⟩]]⟩
abbrev s_i_StoreTrim : Sig := ⟨[.v true [.s, .b, .s, .s, .s, .s, .b], .v false [.b]], [.v false [.o false ⟨4, false⟩]]⟩
abbrev s_l_eqPkgS : Sig := ⟨[.v false [.b], .v false [.b]], [.v false [.s]]⟩
abbrev s_l_eqTrust : Sig := ⟨[.v true [.s, .b, .s, .s, .s, .s, .b], .v true [.s, .b, .s, .s, .s, .s, .b]], [.v false [.s]]⟩
abbrev s_l_markTrust : Sig := ⟨[.v true [.s, .b, .s, .s, .s, .s, .b], .v false [.s]], [.v false [.s]]⟩
abbrev s_l_markPkgS : Sig := ⟨[.v false [.b], .v false [.s]], [.v false [.s]]⟩
abbrev s_l_heldPkgS : Sig := ⟨[.v false [.b], .v false [.s]], [.v false [.s]]⟩
abbrev s_l_szRoot : Sig := ⟨[.v true [.s, .b, .s], .v false [.s]], [.v false [.s]]⟩
abbrev s_l_szIndex : Sig := ⟨[.v true [.s, .s, .b], .v false [.s]], [.v false [.s]]⟩
abbrev s_l_szPkg : Sig := ⟨[.v true [.s, .s, .b, .b], .v false [.s]], [.v false [.s]]⟩
abbrev s_s_TrustOk : Sig := ⟨[.v true [.s, .b, .s, .s, .s, .s, .b]], [.v false [.s]]⟩
abbrev s_s_StoreOk : Sig := ⟨[.v false [.b]], [.v false [.s]]⟩
abbrev s_l_toRoot : Sig := ⟨[.v true [.s, .b, .s]], [.v true [.s, .o true ⟨1, false⟩, .s]]⟩
abbrev s_l_toIndex : Sig := ⟨[.v true [.s, .s, .b]], [.v true [.s, .s, .o true ⟨3, false⟩]]⟩
abbrev s_l_toPkg : Sig := ⟨[.v true [.s, .s, .b, .b]], [.v true [.s, .s, .o true ⟨2, false⟩, .o true ⟨2, false⟩]]⟩
abbrev s_i_TrustOk : Sig := ⟨[.v true [.s, .b, .s, .s, .s, .s, .b]], [.v false [.s]]⟩
abbrev s_i_StoreOk : Sig := ⟨[.v false [.b]], [.v false [.s]]⟩
abbrev s_sl_Contains_Meta : Sig := ⟨[.v false [.b], .v true [.s, .s, .s]], [.v false [.s]]⟩
abbrev s_i_metaOf : Sig := ⟨[.v true [.s, .s, .b, .b]], [.v true [.s, .s, .s]]⟩
abbrev s_i_Pkg_copied : Sig := ⟨[.v true [.s, .s, .b, .b]], [.v true [.s, .s, .o false ⟨2, false⟩, .o false ⟨2, false⟩]]⟩
abbrev s_l_eqPkg : Sig := ⟨[.v true [.s, .s, .b, .b], .v true [.s, .s, .b, .b]], [.v false [.s]]⟩
abbrev s_l_eqRoot : Sig := ⟨[.v true [.s, .b, .s], .v true [.s, .b, .s]], [.v false [.s]]⟩
abbrev s_l_eqIndex : Sig := ⟨[.v true [.s, .s, .b], .v true [.s, .s, .b]], [.v false [.s]]⟩
abbrev s_l_markRoot : Sig := ⟨[.v true [.s, .b, .s], .v false [.s]], [.v false [.s]]⟩
abbrev s_l_markIndex : Sig := ⟨[.v true [.s, .s, .b], .v false [.s]], [.v false [.s]]⟩
abbrev s_l_markFileS : Sig := ⟨[.v false [.b], .v false [.s]], [.v false [.s]]⟩
abbrev s_l_markDepS : Sig := ⟨[.v false [.b], .v false [.s]], [.v false [.s]]⟩
abbrev s_l_heldFileS : Sig := ⟨[.v false [.b], .v false [.s]], [.v false [.s]]⟩
abbrev s_l_heldDepS : Sig := ⟨[.v false [.b], .v false [.s]], [.v false [.s]]⟩
abbrev s_l_szIntS : Sig := ⟨[.v false [.b], .v false [.s]], [.v false [.s]]⟩
abbrev s_l_szMetaS : Sig := ⟨[.v false [.b], .v false [.s]], [.v false [.s]]⟩
abbrev s_l_szFileS : Sig := ⟨[.v false [.b], .v false [.s]], [.v false [.s]]⟩
abbrev s_l_szDepS : Sig := ⟨[.v false [.b], .v false [.s]], [.v false [.s]]⟩
abbrev s_s_RootOk : Sig := ⟨[.v true [.s, .b, .s]], [.v false [.s]]⟩
abbrev s_s_IndexOk : Sig := ⟨[.v true [.s, .s, .b]], [.v false [.s]]⟩
abbrev s_s_l3Pkgs : Sig := ⟨[.v false [.b]], [.v false [.s]]⟩
abbrev s_s_PkgText : Sig := ⟨[.v true [.s, .s, .b, .b]], [.v false [.s]]⟩
abbrev s_l_toIntS : Sig := ⟨[.v false [.b]], [.v false [.o true ⟨1, false⟩]]⟩
abbrev s_l_toMetaS : Sig := ⟨[.v false [.b]], [.v false [.o true ⟨3, false⟩]]⟩
abbrev s_l_toFileS : Sig := ⟨[.v false [.b]], [.v false [.o true ⟨2, false⟩]]⟩
abbrev s_l_toDepS : Sig := ⟨[.v false [.b]], [.v false [.o true ⟨2, false⟩]]⟩
abbrev s_i_RootOk : Sig := ⟨[.v true [.s, .b, .s]], [.v false [.s]]⟩
abbrev s_i_IndexOk : Sig := ⟨[.v true [.s, .s, .b]], [.v false [.s]]⟩
abbrev s_i_Index_same : Sig := ⟨[.v true [.s, .s, .b], .v true [.s, .s, .b]], [.v false [.s]]⟩
abbrev s_i_PkgOk : Sig := ⟨[.v true [.s, .s, .b, .b]], [.v false [.s]]⟩
abbrev s_i_Pkg_compare : Sig := ⟨[.v true [.s, .s, .b, .b], .v true [.s, .s, .b, .b]], [.v false [.s]]⟩
abbrev s_sl_Index_Meta : Sig := ⟨[.v false [.b], .v true [.s, .s, .s]], [.v false [.s]]⟩
abbrev s_i_SumOf : Sig := ⟨[.v false [.s]], [.v false [.s]]⟩
abbrev s_i_PkgText : Sig := ⟨[.v true [.s, .s, .b, .b]], [.v false [.s]]⟩
abbrev s_sl_Clone_File : Sig := ⟨[.v false [.b]], [.v false [.o true ⟨2, false⟩]]⟩
abbrev s_sl_Clone_Dep : Sig := ⟨[.v false [.b]], [.v false [.o true ⟨2, false⟩]]⟩
abbrev s_l_eqFileS : Sig := ⟨[.v false [.b], .v false [.b]], [.v false [.s]]⟩
abbrev s_l_eqDepS : Sig := ⟨[.v false [.b], .v false [.b]], [.v false [.s]]⟩
abbrev s_l_eqIntS : Sig := ⟨[.v false [.b], .v false [.b]], [.v false [.s]]⟩
abbrev s_l_eqMetaS : Sig := ⟨[.v false [.b], .v false [.b]], [.v false [.s]]⟩
abbrev s_l_markIntS : Sig := ⟨[.v false [.b], .v false [.s]], [.v false [.s]]⟩
abbrev s_l_markMetaS : Sig := ⟨[.v false [.b], .v false [.s]], [.v false [.s]]⟩
abbrev s_s_l6In : Sig := ⟨[.v false [.s], .v false [.s], .v false [.s]], [.v false [.s]]⟩
abbrev s_s_KeysOk : Sig := ⟨[.v false [.b]], [.v false [.s]]⟩
abbrev s_s_l3Less : Sig := ⟨[.v false [.s], .v false [.s], .v false [.s], .v false [.s]], [.v false [.s]]⟩
abbrev s_s_PkgOk : Sig := ⟨[.v true [.s, .s, .b, .b]], [.v false [.s]]⟩
abbrev s_s_SumOf : Sig := ⟨[.v false [.s]], [.v false [.s]]⟩
abbrev s_s_l1Name : Sig := ⟨[.v false [.s], .v false [.s]], [.v false [.s]]⟩
abbrev s_s_l6Dec : Sig := ⟨[.v false [.s]], [.v false [.s]]⟩
abbrev s_l_toMeta : Sig := ⟨[.v true [.s, .s, .s]], [.v true [.s, .s, .s]]⟩
abbrev s_l_toFile : Sig := ⟨[.v true [.s, .s]], [.v true [.s, .s]]⟩
abbrev s_l_toDep : Sig := ⟨[.v true [.s, .s]], [.v true [.s, .s]]⟩
abbrev s_i_in : Sig := ⟨[.v false [.s], .v false [.s], .v false [.s]], [.v false [.s]]⟩
abbrev s_i_KeysOk : Sig := ⟨[.v false [.b]], [.v false [.s]]⟩
abbrev s_i_isName : Sig := ⟨[.v false [.s]], [.v false [.s]]⟩
abbrev s_i_isVer : Sig := ⟨[.v false [.s]], [.v false [.s]]⟩
abbrev s_sl_Equal_Meta : Sig := ⟨[.v false [.b], .v false [.b]], [.v false [.s]]⟩
abbrev s_cmp_Or_int : Sig := ⟨[.v false [.b]], [.v false [.s]]⟩
abbrev s_cmp_Compare_int : Sig := ⟨[.v false [.s], .v false [.s]], [.v false [.s]]⟩
abbrev s_l_eqFile : Sig := ⟨[.v true [.s, .s], .v true [.s, .s]], [.v false [.s]]⟩
abbrev s_l_eqDep : Sig := ⟨[.v true [.s, .s], .v true [.s, .s]], [.v false [.s]]⟩
abbrev s_l_eqMeta : Sig := ⟨[.v true [.s, .s, .s], .v true [.s, .s, .s]], [.v false [.s]]⟩
abbrev s_s_l1Files : Sig := ⟨[.v false [.b]], [.v false [.s]]⟩
abbrev s_s_l1Deps : Sig := ⟨[.v false [.s], .v false [.b]], [.v false [.s]]⟩
abbrev s_cmp_isNaN_int : Sig := ⟨[.v false [.s]], [.v false [.s]]⟩
def sigs : Tr (List Sig) := .n 49 [s_l_toIntS] (.n 26 [s_i_StoreOk] (.n 15 [s_l_szRoot] (.n 9 [s_i_StoreTrim] (.n 6 [s_s_StoreTrim] (.n 5 [s_l_szPkgS] (.n 4 [s_l_szTrust] (.e) (.e)) (.e)) (.n 8 [s_l_toPkgS] (.n 7 [s_l_toTrust] (.e) (.e)) (.e))) (.n 12 [s_l_markTrust] (.n 11 [s_l_eqTrust] (.n 10 [s_l_eqPkgS] (.e) (.e)) (.e)) (.n 14 [s_l_heldPkgS] (.n 13 [s_l_markPkgS] (.e) (.e)) (.e)))) (.n 21 [s_s_l12Copy] (.n 18 [s_s_TrustOk] (.n 17 [s_l_szPkg] (.n 16 [s_l_szIndex] (.e) (.e)) (.e)) (.n 20 [s_s_l12Trim] (.n 19 [s_s_StoreOk] (.e) (.e)) (.e))) (.n 24 [s_l_toPkg] (.n 23 [s_l_toIndex] (.n 22 [s_l_toRoot] (.e) (.e)) (.e)) (.n 25 [s_i_TrustOk] (.e) (.e))))) (.n 38 [s_l_heldDepS] (.n 32 [s_l_eqIndex] (.n 29 [s_i_Pkg_copied] (.n 28 [s_i_metaOf] (.n 27 [s_sl_Contains_Meta] (.e) (.e)) (.e)) (.n 31 [s_l_eqRoot] (.n 30 [s_l_eqPkg] (.e) (.e)) (.e))) (.n 35 [s_l_markFileS] (.n 34 [s_l_markIndex] (.n 33 [s_l_markRoot] (.e) (.e)) (.e)) (.n 37 [s_l_heldFileS] (.n 36 [s_l_markDepS] (.e) (.e)) (.e)))) (.n 44 [s_s_IndexOk] (.n 41 [s_l_szFileS] (.n 40 [s_l_szMetaS] (.n 39 [s_l_szIntS] (.e) (.e)) (.e)) (.n 43 [s_s_RootOk] (.n 42 [s_l_szDepS] (.e) (.e)) (.e))) (.n 47 [s_s_PkgText] (.n 46 [s_s_l3Has] (.n 45 [s_s_l3Pkgs] (.e) (.e)) (.e)) (.n 48 [s_s_l12PkgCopy] (.e) (.e)))))) (.n 72 [s_s_PkgOk] (.n 61 [s_sl_Clone_File] (.n 55 [s_i_Index_same] (.n 52 [s_l_toDepS] (.n 51 [s_l_toFileS] (.n 50 [s_l_toMetaS] (.e) (.e)) (.e)) (.n 54 [s_i_IndexOk] (.n 53 [s_i_RootOk] (.e) (.e)) (.e))) (.n 58 [s_sl_Index_Meta] (.n 57 [s_i_Pkg_compare] (.n 56 [s_i_PkgOk] (.e) (.e)) (.e)) (.n 60 [s_i_PkgText] (.n 59 [s_i_SumOf] (.e) (.e)) (.e)))) (.n 67 [s_l_markIntS] (.n 64 [s_l_eqDepS] (.n 63 [s_l_eqFileS] (.n 62 [s_sl_Clone_Dep] (.e) (.e)) (.e)) (.n 66 [s_l_eqMetaS] (.n 65 [s_l_eqIntS] (.e) (.e)) (.e))) (.n 70 [s_s_KeysOk] (.n 69 [s_s_l6In] (.n 68 [s_l_markMetaS] (.e) (.e)) (.e)) (.n 71 [s_s_l3Less] (.e) (.e))))) (.n 83 [s_i_isVer] (.n 78 [s_l_toFile] (.n 75 [s_s_l1Name] (.n 74 [s_s_SumOf] (.n 73 [s_s_PkgRead] (.e) (.e)) (.e)) (.n 77 [s_l_toMeta] (.n 76 [s_s_l6Dec] (.e) (.e)) (.e))) (.n 81 [s_i_KeysOk] (.n 80 [s_i_in] (.n 79 [s_l_toDep] (.e) (.e)) (.e)) (.n 82 [s_i_isName] (.e) (.e)))) (.n 93 [s_l_eqMeta] (.n 86 [s_cmp_Compare_int] (.n 85 [s_cmp_Or_int] (.n 84 [s_sl_Equal_Meta] (.e) (.e)) (.e)) (.n 92 [s_l_eqDep] (.n 91 [s_l_eqFile] (.e) (.e)) (.e))) (.n 96 [s_s_l1Cut] (.n 95 [s_s_l1Deps] (.n 94 [s_s_l1Files] (.e) (.e)) (.e)) (.n 97 [s_cmp_isNaN_int] (.e) (.e))))))
def eqL : List Nat := [67]
theorem tt_ok : tt.all (tyChk PP) = true := by kernel_rfl
theorem cfg_ok {C : Cfg} (h : C.tt = tt) : CfgOk PP C := fun t ti ht => tyChk_ok (Tr.get_all (p := tyChk PP) tt_ok (by rw [← h]; exact ht))
theorem eq_chk : eqL.all (fun t => match tt.get t with | some ti => chkEq PP t ti.zero | none => true) = true := by kernel_rfl
theorem eq_ok {C : Cfg} (ht : C.tt = tt) (he : C.eqt = eqL) : EqOk PP C := eqOk_of (by unfold Cfg.ty; rw [ht, he]; exact eq_chk)
theorem mixed : PP.follows .mixedOrders = true := by kernel_rfl

end V
end Go.Proofs.YtnaldhcdcpdbnaaGreatDoor

/-
How functions are called where all that is owned is owned with its list. Written by a program.
-/
namespace Go.Proofs.YtnaldhcdcpdbnaaGreatDoor
namespace V

abbrev s_l_toIntS_X : Sig := ⟨[.v false [.b]], [.v false [.o true ⟨1, true⟩]]⟩
abbrev s_l_toRoot_X : Sig := ⟨[.v true [.s, .b, .s]], [.v true [.s, .o true ⟨1, true⟩, .s]]⟩
abbrev s_l_toFile_X : Sig := ⟨[.v true [.s, .s]], [.v true [.s, .s]]⟩
abbrev s_l_toFileS_X : Sig := ⟨[.v false [.b]], [.v false [.o true ⟨2, true⟩]]⟩
abbrev s_l_toDep_X : Sig := ⟨[.v true [.s, .s]], [.v true [.s, .s]]⟩
abbrev s_l_toDepS_X : Sig := ⟨[.v false [.b]], [.v false [.o true ⟨2, true⟩]]⟩
abbrev s_l_toPkg_X : Sig := ⟨[.v true [.s, .s, .b, .b]], [.v true [.s, .s, .o true ⟨2, true⟩, .o true ⟨2, true⟩]]⟩
abbrev s_l_toPkgS_X : Sig := ⟨[.v false [.b]], [.v false [.o true ⟨4, true⟩]]⟩
abbrev s_l_markIntS_X : Sig := ⟨[.io false [.o true ⟨0, true⟩], .v false [.s]], [.v false [.s]]⟩
abbrev s_l_markRoot_X : Sig := ⟨[.io true [.s, .o true ⟨0, true⟩, .s], .v false [.s]], [.v false [.s]]⟩
abbrev s_l_markFileS_X : Sig := ⟨[.io false [.o true ⟨0, true⟩], .v false [.s]], [.v false [.s]]⟩
abbrev s_l_markDepS_X : Sig := ⟨[.io false [.o true ⟨0, true⟩], .v false [.s]], [.v false [.s]]⟩
abbrev s_l_markPkgS_X : Sig := ⟨[.io false [.o true ⟨0, true⟩], .v false [.s]], [.v false [.s]]⟩
abbrev s_i_Pkg_copied_X : Sig := ⟨[.v true [.s, .s, .b, .b]], [.v true [.s, .s, .o true ⟨2, true⟩, .o true ⟨2, true⟩]]⟩
abbrev s_sl_Clone_File_X : Sig := ⟨[.v false [.b]], [.v false [.o true ⟨2, true⟩]]⟩
abbrev s_sl_Clone_Dep_X : Sig := ⟨[.v false [.b]], [.v false [.o true ⟨2, true⟩]]⟩
abbrev s_l_markTrust_X : Sig := ⟨[.io true [.s, .o true ⟨0, true⟩, .s, .s, .s, .s, .o true ⟨0, true⟩], .v false [.s]], [.v false [.s]]⟩
abbrev s_l_markIndex_X : Sig := ⟨[.io true [.s, .s, .o true ⟨0, true⟩], .v false [.s]], [.v false [.s]]⟩
abbrev s_l_markMetaS_X : Sig := ⟨[.io false [.o true ⟨0, true⟩], .v false [.s]], [.v false [.s]]⟩
abbrev s_l_toMeta_X : Sig := ⟨[.v true [.s, .s, .s]], [.v true [.s, .s, .s]]⟩
abbrev s_l_toMetaS_X : Sig := ⟨[.v false [.b]], [.v false [.o true ⟨3, true⟩]]⟩
abbrev s_l_toIndex_X : Sig := ⟨[.v true [.s, .s, .b]], [.v true [.s, .s, .o true ⟨3, true⟩]]⟩
abbrev s_l_toTrust_X : Sig := ⟨[.v true [.s, .b, .s, .s, .s, .s, .b]], [.v true [.s, .o true ⟨1, true⟩, .s, .s, .s, .s, .o true ⟨3, true⟩]]⟩
abbrev s_l_FnExactStoreTrim_X : Sig := ⟨[.v true [.s, .b, .s, .s, .s, .s, .b], .v false [.b]], [.v false [.s]]⟩
abbrev s_i_StoreTrim_X : Sig := ⟨[.v true [.s, .b, .s, .s, .s, .s, .b], .v false [.b]], [.v false [.o true ⟨4, true⟩]]⟩
def sigsx : Tr (List Sig) := .n 49 [s_l_toIntS_X, s_l_toIntS] (.n 26 [s_i_StoreOk] (.n 15 [s_l_szRoot] (.n 9 [s_i_StoreTrim_X, s_i_StoreTrim] (.n 6 [s_s_StoreTrim] (.n 5 [s_l_szPkgS] (.n 4 [s_l_szTrust] (.e) (.e)) (.e)) (.n 8 [s_l_toPkgS_X, s_l_toPkgS] (.n 7 [s_l_toTrust_X, s_l_toTrust] (.e) (.e)) (.e))) (.n 12 [s_l_markTrust_X, s_l_markTrust] (.n 11 [s_l_eqTrust] (.n 10 [s_l_eqPkgS] (.e) (.e)) (.e)) (.n 14 [s_l_heldPkgS] (.n 13 [s_l_markPkgS_X, s_l_markPkgS] (.e) (.e)) (.e)))) (.n 21 [s_s_l12Copy] (.n 18 [s_s_TrustOk] (.n 17 [s_l_szPkg] (.n 16 [s_l_szIndex] (.e) (.e)) (.e)) (.n 20 [s_s_l12Trim] (.n 19 [s_s_StoreOk] (.e) (.e)) (.e))) (.n 24 [s_l_toPkg_X, s_l_toPkg] (.n 23 [s_l_toIndex_X, s_l_toIndex] (.n 22 [s_l_toRoot_X, s_l_toRoot] (.e) (.e)) (.e)) (.n 25 [s_i_TrustOk] (.e) (.e))))) (.n 38 [s_l_heldDepS] (.n 32 [s_l_eqIndex] (.n 29 [s_i_Pkg_copied_X, s_i_Pkg_copied] (.n 28 [s_i_metaOf] (.n 27 [s_sl_Contains_Meta] (.e) (.e)) (.e)) (.n 31 [s_l_eqRoot] (.n 30 [s_l_eqPkg] (.e) (.e)) (.e))) (.n 35 [s_l_markFileS_X, s_l_markFileS] (.n 34 [s_l_markIndex_X, s_l_markIndex] (.n 33 [s_l_markRoot_X, s_l_markRoot] (.e) (.e)) (.e)) (.n 37 [s_l_heldFileS] (.n 36 [s_l_markDepS_X, s_l_markDepS] (.e) (.e)) (.e)))) (.n 44 [s_s_IndexOk] (.n 41 [s_l_szFileS] (.n 40 [s_l_szMetaS] (.n 39 [s_l_szIntS] (.e) (.e)) (.e)) (.n 43 [s_s_RootOk] (.n 42 [s_l_szDepS] (.e) (.e)) (.e))) (.n 47 [s_s_PkgText] (.n 46 [s_s_l3Has] (.n 45 [s_s_l3Pkgs] (.e) (.e)) (.e)) (.n 48 [s_s_l12PkgCopy] (.e) (.e)))))) (.n 72 [s_s_PkgOk] (.n 61 [s_sl_Clone_File_X, s_sl_Clone_File] (.n 55 [s_i_Index_same] (.n 52 [s_l_toDepS_X, s_l_toDepS] (.n 51 [s_l_toFileS_X, s_l_toFileS] (.n 50 [s_l_toMetaS_X, s_l_toMetaS] (.e) (.e)) (.e)) (.n 54 [s_i_IndexOk] (.n 53 [s_i_RootOk] (.e) (.e)) (.e))) (.n 58 [s_sl_Index_Meta] (.n 57 [s_i_Pkg_compare] (.n 56 [s_i_PkgOk] (.e) (.e)) (.e)) (.n 60 [s_i_PkgText] (.n 59 [s_i_SumOf] (.e) (.e)) (.e)))) (.n 67 [s_l_markIntS_X, s_l_markIntS] (.n 64 [s_l_eqDepS] (.n 63 [s_l_eqFileS] (.n 62 [s_sl_Clone_Dep_X, s_sl_Clone_Dep] (.e) (.e)) (.e)) (.n 66 [s_l_eqMetaS] (.n 65 [s_l_eqIntS] (.e) (.e)) (.e))) (.n 70 [s_s_KeysOk] (.n 69 [s_s_l6In] (.n 68 [s_l_markMetaS_X, s_l_markMetaS] (.e) (.e)) (.e)) (.n 71 [s_s_l3Less] (.e) (.e))))) (.n 83 [s_i_isVer] (.n 78 [s_l_toFile_X] (.n 75 [s_s_l1Name] (.n 74 [s_s_SumOf] (.n 73 [s_s_PkgRead] (.e) (.e)) (.e)) (.n 77 [s_l_toMeta_X] (.n 76 [s_s_l6Dec] (.e) (.e)) (.e))) (.n 81 [s_i_KeysOk] (.n 80 [s_i_in] (.n 79 [s_l_toDep_X] (.e) (.e)) (.e)) (.n 82 [s_i_isName] (.e) (.e)))) (.n 93 [s_l_eqMeta] (.n 86 [s_cmp_Compare_int] (.n 85 [s_cmp_Or_int] (.n 84 [s_sl_Equal_Meta] (.e) (.e)) (.e)) (.n 92 [s_l_eqDep] (.n 91 [s_l_eqFile] (.e) (.e)) (.e))) (.n 96 [s_s_l1Cut] (.n 95 [s_s_l1Deps] (.n 94 [s_s_l1Files] (.e) (.e)) (.e)) (.n 97 [s_cmp_isNaN_int] (.e) (.e))))))

end V
end Go.Proofs.YtnaldhcdcpdbnaaGreatDoor

/-
What the seat's functions come to, as statements; that the checker says so. Written by a program.
-/
namespace Go.Proofs.YtnaldhcdcpdbnaaGreatDoor
namespace V

def p_s_PkgRead : PC := .seq (.ss [.bld 2 [.int .i64 0, .int .i64 0, .sl [], .sl []] [], .mv 3 (.c (.bool false))]) (.seq (.seq (.ss [.mv 8 (.t 0), .slen 9 (.t 8), .bin 10 .gtr (.t 9) (.c (.int .i64 30))]) (.cond (.t 10) (.seq (.ss [.bld 11 [.int .i64 0, .int .i64 0, .sl [], .sl []] [], .st 2 0 (.t 11), .mv 3 (.c (.bool false))]) (.ret [2, 3])) (.skip))) (.seq (.ss [.mv 12 (.t 0), .call 13 n_s_l1Cut s_s_l1Cut [(.t 12), (.c (.int .u8 32))] [], .mv 4 (.t 13)]) (.seq (.ss [.lit 14 0 [.int .i64 0, .int .i64 0] [], .lit 15 0 [.int .i64 0, .int .i64 0] [], .bld 16 [.int .i64 0, .int .i64 0, .sl [], .sl []] [(2, (.t 14)), (3, (.t 15))], .bld 5 [.int .i64 0, .int .i64 0, .sl [], .sl []] [], .st 5 0 (.t 16)]) (.seq (.seq (.ss [.mv 6 (.c (.int .i64 0))]) (.block 0 (.loop (.seq (.seq (.ss [.mv 17 (.t 6), .mv 18 (.t 4), .len 19 (.t 18), .bin 20 .lss (.t 17) (.t 19)]) (.cond (.t 20) (.skip) (.exit 0))) (.seq (.block 1 (.seq (.ss [.mv 23 (.t 4), .mv 24 (.t 6), .elp 25 (.t 23) (.t 24) 1, .eld 26 25 0 [.str ⟨#[]⟩], .mv 7 (.t 26)]) (.block 2 (.seq (.ss [.mv 28 (.t 6), .bin 29 .eql (.t 28) (.c (.int .i64 0)), .mv 30 (.t 29), .g 30 true 31 (.mv 31 (.t 7)), .g 30 true 32 (.slen 32 (.t 31)), .g 30 true 33 (.bin 33 .eql (.t 32) (.c (.int .i64 2))), .pick 34 (.t 30) (.t 33) (.c (.bool false)), .mv 27 (.t 34)]) (.cond (.t 27) (.seq (.ss [.mv 35 (.t 7), .sidx 36 (.t 35) (.c (.int .i64 0)), .cvt 37 .i64 (.t 36), .bin 38 .sub (.t 37) (.c (.int .i64 97)), .bin 39 .add (.t 38) (.c (.int .i64 1)), .nop, .st 5 0 (.t 39)]) (.ss [.mv 41 (.t 7), .sidx 42 (.t 41) (.c (.int .i64 1)), .cvt 43 .i64 (.t 42), .bin 44 .sub (.t 43) (.c (.int .i64 48)), .nop, .st 5 1 (.t 44)])) (.seq (.ss [.mv 47 (.t 6), .bin 48 .gtr (.t 47) (.c (.int .i64 0)), .mv 49 (.t 48), .g 49 true 50 (.mv 50 (.t 7)), .g 49 true 51 (.slen 51 (.t 50)), .g 49 true 52 (.bin 52 .eql (.t 51) (.c (.int .i64 3))), .pick 53 (.t 49) (.t 52) (.c (.bool false)), .mv 46 (.t 53)]) (.cond (.t 46) (.ss [.nop, .sub 55 5 2 1, .mv 56 (.t 7), .sidx 57 (.t 56) (.c (.int .i64 0)), .cvt 58 .i64 (.t 57), .bin 59 .sub (.t 58) (.c (.int .i64 48)), .mv 60 (.t 7), .sidx 61 (.t 60) (.c (.int .i64 2)), .cvt 62 .i64 (.t 61), .bin 63 .sub (.t 62) (.c (.int .i64 48)), .bld 64 [.int .i64 0, .int .i64 0] [(0, (.t 59)), (1, (.t 63))], .lit 65 1 [.int .i64 0, .int .i64 0] [(0, (.t 64))], .app 66 2 true (.t 55) (.t 65), .nop, .st 5 2 (.t 66)]) (.seq (.ss [.mv 69 (.t 6), .bin 70 .gtr (.t 69) (.c (.int .i64 0)), .mv 71 (.t 70), .g 71 true 72 (.mv 72 (.t 7)), .g 71 true 73 (.slen 73 (.t 72)), .g 71 true 74 (.bin 74 .eql (.t 73) (.c (.int .i64 2))), .pick 75 (.t 71) (.t 74) (.c (.bool false)), .mv 68 (.t 75)]) (.cond (.t 68) (.ss [.nop, .sub 77 5 3 1, .mv 78 (.t 7), .sidx 79 (.t 78) (.c (.int .i64 0)), .cvt 80 .i64 (.t 79), .bin 81 .sub (.t 80) (.c (.int .i64 97)), .bin 82 .add (.t 81) (.c (.int .i64 1)), .mv 83 (.t 7), .sidx 84 (.t 83) (.c (.int .i64 1)), .cvt 85 .i64 (.t 84), .bin 86 .sub (.t 85) (.c (.int .i64 48)), .bld 87 [.int .i64 0, .int .i64 0] [(0, (.t 82)), (1, (.t 86))], .lit 88 1 [.int .i64 0, .int .i64 0] [(0, (.t 87))], .app 89 2 true (.t 77) (.t 88), .nop, .st 5 3 (.t 89)]) (.skip)))))))))) (.ss [.mv 21 (.t 6), .bin 22 .add (.t 21) (.c (.int .i64 1)), .mv 6 (.t 22)])))))) (.seq (.seq (.ss [.sub 91 5 0 4, .call 92 n_s_PkgText s_s_PkgText [(.t 91)] [], .mv 93 (.t 0), .bin 94 .neq (.t 92) (.t 93), .mv 95 (.t 94), .g 95 false 96 (.mv 96 (.t 0)), .g 95 false 97 (.bin 97 .eql (.t 96) (.c (.str ⟨#[]⟩))), .pick 98 (.t 95) (.c (.bool true)) (.t 97)]) (.cond (.t 98) (.seq (.ss [.bld 99 [.int .i64 0, .int .i64 0, .sl [], .sl []] [], .st 2 0 (.t 99), .mv 3 (.c (.bool false))]) (.ret [2, 3])) (.skip))) (.seq (.ss [.sub 100 5 0 4, .st 2 0 (.t 100), .mv 3 (.c (.bool true))]) (.ret [2, 3])))))))
def k_s_PkgRead : Cfg := { tt := tt, sigs := sigs, mv := false, bm := [], eqt := eqL, keep := [true, false, true, true, true, true, true, true, false, false, true, false, false, false, false, false, false, false, false, false, true, false, false, false, false, false, false, true, false, false, false, false, false, false, false, false, false, false, false, false, false, false, false, false, false, false, true, false, false, false, false, false, false, false, false, false, false, false, false, false, false, false, false, false, false, false, false, false, true, false, false, false, false, false, false, false, false, false, false, false, false, false, false, false, false, false, false, false, false, false, false, false, false, false, false, false, false, false, true, false, false], n := 101, pin := [], fail := [], fz := [] }
theorem c_s_PkgRead : cFun k_s_PkgRead Tryz.f73 s_s_PkgRead = some p_s_PkgRead := by kernel_rfl
theorem F_s_PkgRead {W : Wld} {ins outs : List (List D)} (h : pwp (FunOk PP W) p_s_PkgRead (RetIs outs) (envL ins)) : FunOk PP W n_s_PkgRead s_s_PkgRead ins outs := fun_ok (C := k_s_PkgRead) (cfg_ok rfl) (eq_ok rfl rfl) mixed Tryz.func73 (by kernel_rfl) (by kernel_rfl) c_s_PkgRead h

def p_s_l1Cut : PC := .seq (.ss [.mv 4 (.c (.sl []))]) (.seq (.ss [.lit 7 1 [.str ⟨#[]⟩] [(0, (.c (.str ⟨#[]⟩)))], .mv 5 (.t 7)]) (.seq (.seq (.ss [.mv 6 (.c (.int .i64 0))]) (.block 0 (.loop (.seq (.seq (.ss [.mv 8 (.t 6), .mv 9 (.t 0), .slen 10 (.t 9), .bin 11 .lss (.t 8) (.t 10)]) (.cond (.t 11) (.skip) (.exit 0))) (.seq (.block 1 (.seq (.ss [.mv 14 (.t 0), .mv 15 (.t 6), .sidx 16 (.t 14) (.t 15), .mv 17 (.t 1), .bin 18 .eql (.t 16) (.t 17)]) (.cond (.t 18) (.ss [.mv 19 (.t 5), .lit 20 1 [.str ⟨#[]⟩] [(0, (.c (.str ⟨#[]⟩)))], .app 21 1 true (.t 19) (.t 20), .mv 5 (.t 21)]) (.ss [.mv 22 (.t 5), .mv 23 (.t 5), .len 24 (.t 23), .bin 25 .sub (.t 24) (.c (.int .i64 1)), .mv 26 (.t 5), .mv 27 (.t 5), .len 28 (.t 27), .bin 29 .sub (.t 28) (.c (.int .i64 1)), .elp 30 (.t 26) (.t 29) 1, .eld 31 30 0 [.str ⟨#[]⟩], .mv 32 (.t 0), .mv 33 (.t 6), .sidx 34 (.t 32) (.t 33), .lit 35 1 [.int .u8 0] [(0, (.t 34))], .b2s 36 (.t 35), .bin 37 .add (.t 31) (.t 36), .elp 38 (.t 22) (.t 25) 1, .els 38 0 5 0 (.t 37)])))) (.ss [.mv 12 (.t 6), .bin 13 .add (.t 12) (.c (.int .i64 1)), .mv 6 (.t 13)])))))) (.seq (.ss [.mv 39 (.t 5), .mv 4 (.t 39)]) (.ret [4]))))
def k_s_l1Cut : Cfg := { tt := tt, sigs := sigs, mv := false, bm := [7], eqt := eqL, keep := [true, true, false, false, true, true, true, false, false, false, false, true, false, false, false, false, false, false, true, false, false, false, false, false, false, false, false, false, false, false, false, false, false, false, false, false, false, false, false, false], n := 40, pin := [], fail := [], fz := [] }
theorem c_s_l1Cut : cFun k_s_l1Cut Tryz.f96 s_s_l1Cut = some p_s_l1Cut := by kernel_rfl
theorem F_s_l1Cut {W : Wld} {ins outs : List (List D)} (h : pwp (FunOk PP W) p_s_l1Cut (RetIs outs) (envL ins)) : FunOk PP W n_s_l1Cut s_s_l1Cut ins outs := fun_ok (C := k_s_l1Cut) (cfg_ok rfl) (eq_ok rfl rfl) mixed Tryz.func96 (by kernel_rfl) (by kernel_rfl) c_s_l1Cut h

def p_s_l12Copy : PC := .seq (.ss [.mv 2 (.c (.sl []))]) (.seq (.ss [.lit 5 0 [.int .i64 0, .int .i64 0, .sl [], .sl []] [], .mv 3 (.t 5)]) (.seq (.seq (.ss [.mv 4 (.c (.int .i64 0))]) (.block 0 (.loop (.seq (.seq (.ss [.mv 6 (.t 4), .mv 7 (.t 0), .len 8 (.t 7), .bin 9 .lss (.t 6) (.t 8)]) (.cond (.t 9) (.skip) (.exit 0))) (.seq (.block 1 (.ss [.mv 12 (.t 3), .mv 13 (.t 0), .mv 14 (.t 4), .elp 15 (.t 13) (.t 14) 4, .eld 16 15 0 [.int .i64 0, .int .i64 0, .sl [], .sl []], .call 17 n_s_l12PkgCopy s_s_l12PkgCopy [(.t 16)] [], .lit 18 1 [.int .i64 0, .int .i64 0, .sl [], .sl []] [(0, (.t 17))], .app 19 4 false (.t 12) (.t 18), .mv 3 (.t 19)])) (.ss [.mv 10 (.t 4), .bin 11 .add (.t 10) (.c (.int .i64 1)), .mv 4 (.t 11)])))))) (.seq (.ss [.mv 20 (.t 3), .mv 2 (.t 20)]) (.ret [2]))))
def k_s_l12Copy : Cfg := { tt := tt, sigs := sigs, mv := false, bm := [], eqt := eqL, keep := [true, false, true, true, true, false, false, false, false, true, false, false, false, false, false, false, false, false, false, false, false], n := 21, pin := [], fail := [], fz := [] }
theorem c_s_l12Copy : cFun k_s_l12Copy Tryz.f21 s_s_l12Copy = some p_s_l12Copy := by kernel_rfl
theorem F_s_l12Copy {W : Wld} {ins outs : List (List D)} (h : pwp (FunOk PP W) p_s_l12Copy (RetIs outs) (envL ins)) : FunOk PP W n_s_l12Copy s_s_l12Copy ins outs := fun_ok (C := k_s_l12Copy) (cfg_ok rfl) (eq_ok rfl rfl) mixed Tryz.func21 (by kernel_rfl) (by kernel_rfl) c_s_l12Copy h

def p_s_l12PkgCopy : PC := .seq (.ss [.mv 1 (.t 0), .bld 2 [.int .i64 0, .int .i64 0, .sl [], .sl []] []]) (.seq (.ss [.lit 3 0 [.int .i64 0, .int .i64 0] [], .nop, .sub 5 1 2 1, .app 6 2 true (.t 3) (.t 5), .nop, .st 1 2 (.t 6)]) (.seq (.ss [.lit 8 0 [.int .i64 0, .int .i64 0] [], .nop, .sub 10 1 3 1, .app 11 2 true (.t 8) (.t 10), .nop, .st 1 3 (.t 11)]) (.seq (.ss [.sub 13 1 0 4, .st 2 0 (.t 13)]) (.ret [2]))))
def k_s_l12PkgCopy : Cfg := { tt := tt, sigs := sigs, mv := false, bm := [], eqt := eqL, keep := [true, true, true, false, false, false, false, false, false, false, false, false, false, false], n := 14, pin := [], fail := [], fz := [] }
theorem c_s_l12PkgCopy : cFun k_s_l12PkgCopy Tryz.f48 s_s_l12PkgCopy = some p_s_l12PkgCopy := by kernel_rfl
theorem F_s_l12PkgCopy {W : Wld} {ins outs : List (List D)} (h : pwp (FunOk PP W) p_s_l12PkgCopy (RetIs outs) (envL ins)) : FunOk PP W n_s_l12PkgCopy s_s_l12PkgCopy ins outs := fun_ok (C := k_s_l12PkgCopy) (cfg_ok rfl) (eq_ok rfl rfl) mixed Tryz.func48 (by kernel_rfl) (by kernel_rfl) c_s_l12PkgCopy h

def p_s_l12Trim : PC := .seq (.ss [.mv 2 (.t 0), .mv 4 (.c (.sl []))]) (.seq (.ss [.lit 9 0 [.int .i64 0, .int .i64 0, .sl [], .sl []] [], .mv 5 (.t 9)]) (.seq (.seq (.ss [.mv 6 (.c (.int .i64 0))]) (.block 0 (.loop (.seq (.seq (.ss [.mv 10 (.t 6), .mv 11 (.t 1), .len 12 (.t 11), .bin 13 .lss (.t 10) (.t 12)]) (.cond (.t 13) (.skip) (.exit 0))) (.seq (.block 1 (.seq (.ss [.nop, .sub 18 2 4 3, .mv 19 (.t 1), .mv 20 (.t 6), .elp 21 (.t 19) (.t 20) 4, .eld 22 21 0 [.int .i64 0, .int .i64 0, .sl [], .sl []], .call 23 n_s_PkgText s_s_PkgText [(.t 22)] [], .call 24 n_s_l3Has s_s_l3Has [(.t 18), (.t 23)] [], .mv 16 (.t 24), .ext 25 16 0 4, .ext 26 16 4 1, .bld 7 [.int .i64 0, .int .i64 0, .sl [], .sl []] [], .st 7 0 (.t 25), .mv 8 (.t 26)]) (.seq (.ss [.nop, .sub 28 2 3 1, .mv 29 (.t 28), .g 29 true 30 (.mv 30 (.t 8)), .pick 31 (.t 29) (.t 30) (.c (.bool false))]) (.cond (.t 31) (.ss [.mv 32 (.t 5), .mv 33 (.t 1), .mv 34 (.t 6), .elp 35 (.t 33) (.t 34) 4, .eld 36 35 0 [.int .i64 0, .int .i64 0, .sl [], .sl []], .lit 37 1 [.int .i64 0, .int .i64 0, .sl [], .sl []] [(0, (.t 36))], .app 38 4 false (.t 32) (.t 37), .mv 5 (.t 38)]) (.skip))))) (.ss [.mv 14 (.t 6), .bin 15 .add (.t 14) (.c (.int .i64 1)), .mv 6 (.t 15)])))))) (.seq (.ss [.mv 39 (.t 5), .mv 4 (.t 39)]) (.ret [4]))))
def k_s_l12Trim : Cfg := { tt := tt, sigs := sigs, mv := false, bm := [], eqt := eqL, keep := [true, true, true, false, true, true, true, true, true, false, false, false, false, true, false, false, false, false, false, false, false, false, false, false, false, false, false, false, false, false, false, true, false, false, false, false, false, false, false, false], n := 40, pin := [], fail := [], fz := [] }
theorem c_s_l12Trim : cFun k_s_l12Trim Tryz.f20 s_s_l12Trim = some p_s_l12Trim := by kernel_rfl
theorem F_s_l12Trim {W : Wld} {ins outs : List (List D)} (h : pwp (FunOk PP W) p_s_l12Trim (RetIs outs) (envL ins)) : FunOk PP W n_s_l12Trim s_s_l12Trim ins outs := fun_ok (C := k_s_l12Trim) (cfg_ok rfl) (eq_ok rfl rfl) mixed Tryz.func20 (by kernel_rfl) (by kernel_rfl) c_s_l12Trim h

def p_s_l3Has : PC := .seq (.ss [.mv 2 (.t 0), .bld 4 [.int .i64 0, .int .i64 0, .sl [], .sl []] [], .mv 5 (.c (.bool false))]) (.seq (.ss [.mv 11 (.t 1), .call 12 n_s_PkgRead s_s_PkgRead [(.t 11)] [], .mv 10 (.t 12), .ext 13 10 0 4, .ext 14 10 4 1, .bld 6 [.int .i64 0, .int .i64 0, .sl [], .sl []] [], .st 6 0 (.t 13), .mv 7 (.t 14)]) (.seq (.seq (.ss [.mv 15 (.t 7), .un 16 .not (.t 15)]) (.cond (.t 16) (.seq (.ss [.bld 17 [.int .i64 0, .int .i64 0, .sl [], .sl []] [], .st 4 0 (.t 17), .mv 5 (.c (.bool false))]) (.ret [4, 5])) (.skip))) (.seq (.seq (.ss [.mv 8 (.c (.int .i64 0))]) (.block 0 (.loop (.seq (.seq (.ss [.mv 18 (.t 8), .nop, .sub 20 2 2 1, .len 21 (.t 20), .bin 22 .lss (.t 18) (.t 21)]) (.cond (.t 22) (.skip) (.exit 0))) (.seq (.block 1 (.seq (.ss [.nop, .sub 26 2 2 1, .mv 27 (.t 8), .elp 28 (.t 26) (.t 27) 3, .eld 29 28 0 [.int .i64 0, .int .i64 0, .int .i64 0], .bld 9 [.int .i64 0, .int .i64 0, .int .i64 0] [], .st 9 0 (.t 29)]) (.seq (.ss [.nop, .sub 31 9 0 1, .nop, .sub 33 6 0 1, .bin 34 .eql (.t 31) (.t 33), .mv 35 (.t 34), .g 35 true 36 (.nop), .g 35 true 37 (.sub 37 9 1 1), .g 35 true 38 (.nop), .g 35 true 39 (.sub 39 6 1 1), .g 35 true 40 (.bin 40 .eql (.t 37) (.t 39)), .pick 41 (.t 35) (.t 40) (.c (.bool false)), .mv 42 (.t 41), .g 42 true 43 (.nop), .g 42 true 44 (.sub 44 9 2 1), .g 42 true 45 (.mv 45 (.t 1)), .g 42 true 46 (.call 46 n_s_SumOf s_s_SumOf [(.t 45)] []), .g 42 true 47 (.bin 47 .eql (.t 44) (.t 46)), .pick 48 (.t 42) (.t 47) (.c (.bool false))]) (.cond (.t 48) (.seq (.ss [.sub 49 6 0 4, .st 4 0 (.t 49), .mv 5 (.c (.bool true))]) (.ret [4, 5])) (.skip))))) (.ss [.mv 23 (.t 8), .bin 24 .add (.t 23) (.c (.int .i64 1)), .mv 8 (.t 24)])))))) (.seq (.ss [.bld 50 [.int .i64 0, .int .i64 0, .sl [], .sl []] [], .st 4 0 (.t 50), .mv 5 (.c (.bool false))]) (.ret [4, 5])))))
def k_s_l3Has : Cfg := { tt := tt, sigs := sigs, mv := false, bm := [], eqt := eqL, keep := [true, true, true, false, true, true, true, true, true, true, false, false, false, false, false, false, true, false, false, false, false, false, true, false, false, false, false, false, false, false, false, false, false, false, false, false, false, false, false, false, false, false, false, false, false, false, false, false, true, false, false], n := 51, pin := [], fail := [], fz := [] }
theorem c_s_l3Has : cFun k_s_l3Has Tryz.f46 s_s_l3Has = some p_s_l3Has := by kernel_rfl
theorem F_s_l3Has {W : Wld} {ins outs : List (List D)} (h : pwp (FunOk PP W) p_s_l3Has (RetIs outs) (envL ins)) : FunOk PP W n_s_l3Has s_s_l3Has ins outs := fun_ok (C := k_s_l3Has) (cfg_ok rfl) (eq_ok rfl rfl) mixed Tryz.func46 (by kernel_rfl) (by kernel_rfl) c_s_l3Has h

def p_l_szTrust : PC := .seq (.ss [.mv 2 (.t 0), .mv 4 (.c (.int .i64 0))]) (.seq (.ss [.nop, .sub 6 2 0 3, .mv 7 (.t 1), .call 8 n_l_szRoot s_l_szRoot [(.t 6), (.t 7)] [], .mv 1 (.t 8)]) (.seq (.seq (.ss [.mv 9 (.t 1), .bin 10 .lss (.t 9) (.c (.int .i64 0))]) (.cond (.t 10) (.seq (.ss [.mv 4 (.c (.int .i64 (-1)))]) (.ret [4])) (.skip))) (.seq (.ss [.nop, .sub 12 2 4 3, .mv 13 (.t 1), .call 14 n_l_szIndex s_l_szIndex [(.t 12), (.t 13)] [], .mv 1 (.t 14)]) (.seq (.seq (.ss [.mv 15 (.t 1), .bin 16 .lss (.t 15) (.c (.int .i64 0))]) (.cond (.t 16) (.seq (.ss [.mv 4 (.c (.int .i64 (-1)))]) (.ret [4])) (.skip))) (.seq (.ss [.mv 17 (.t 1), .mv 4 (.t 17)]) (.ret [4]))))))
def k_l_szTrust : Cfg := { tt := tt, sigs := sigs, mv := false, bm := [], eqt := eqL, keep := [true, true, true, false, true, false, false, false, false, false, true, false, false, false, false, false, true, false], n := 18, pin := [], fail := [], fz := [] }
theorem c_l_szTrust : cFun k_l_szTrust Tryz.f4 s_l_szTrust = some p_l_szTrust := by kernel_rfl
theorem F_l_szTrust {W : Wld} {ins outs : List (List D)} (h : pwp (FunOk PP W) p_l_szTrust (RetIs outs) (envL ins)) : FunOk PP W n_l_szTrust s_l_szTrust ins outs := fun_ok (C := k_l_szTrust) (cfg_ok rfl) (eq_ok rfl rfl) mixed Tryz.func4 (by kernel_rfl) (by kernel_rfl) c_l_szTrust h

def p_l_szPkgS : PC := .seq (.ss [.mv 4 (.c (.int .i64 0))]) (.seq (.ss [.mv 6 (.t 1), .mv 7 (.t 0), .len 8 (.t 7), .bin 9 .sub (.t 6) (.t 8), .mv 1 (.t 9)]) (.seq (.seq (.ss [.mv 10 (.t 1), .bin 11 .lss (.t 10) (.c (.int .i64 0))]) (.cond (.t 11) (.seq (.ss [.mv 4 (.c (.int .i64 (-1)))]) (.ret [4])) (.skip))) (.seq (.seq (.ss [.mv 5 (.c (.int .i64 0))]) (.block 0 (.loop (.seq (.seq (.ss [.mv 12 (.t 5), .mv 13 (.t 0), .len 14 (.t 13), .bin 15 .lss (.t 12) (.t 14)]) (.cond (.t 15) (.skip) (.exit 0))) (.seq (.block 1 (.seq (.ss [.mv 18 (.t 0), .mv 19 (.t 5), .elp 20 (.t 18) (.t 19) 4, .eld 21 20 0 [.int .i64 0, .int .i64 0, .sl [], .sl []], .mv 22 (.t 1), .call 23 n_l_szPkg s_l_szPkg [(.t 21), (.t 22)] [], .mv 1 (.t 23)]) (.seq (.ss [.mv 24 (.t 1), .bin 25 .lss (.t 24) (.c (.int .i64 0))]) (.cond (.t 25) (.seq (.ss [.mv 4 (.c (.int .i64 (-1)))]) (.ret [4])) (.skip))))) (.ss [.mv 16 (.t 5), .bin 17 .add (.t 16) (.c (.int .i64 1)), .mv 5 (.t 17)])))))) (.seq (.ss [.mv 26 (.t 1), .mv 4 (.t 26)]) (.ret [4])))))
def k_l_szPkgS : Cfg := { tt := tt, sigs := sigs, mv := false, bm := [], eqt := eqL, keep := [true, true, false, false, true, true, false, false, false, false, false, true, false, false, false, true, false, false, false, false, false, false, false, false, false, true, false], n := 27, pin := [], fail := [], fz := [] }
theorem c_l_szPkgS : cFun k_l_szPkgS Tryz.f5 s_l_szPkgS = some p_l_szPkgS := by kernel_rfl
theorem F_l_szPkgS {W : Wld} {ins outs : List (List D)} (h : pwp (FunOk PP W) p_l_szPkgS (RetIs outs) (envL ins)) : FunOk PP W n_l_szPkgS s_l_szPkgS ins outs := fun_ok (C := k_l_szPkgS) (cfg_ok rfl) (eq_ok rfl rfl) mixed Tryz.func5 (by kernel_rfl) (by kernel_rfl) c_l_szPkgS h

def p_s_StoreTrim : PC := .seq (.ss [.mv 2 (.t 0), .mv 4 (.c (.sl []))]) (.seq (.seq (.ss [.sub 5 2 0 7, .call 6 n_s_TrustOk s_s_TrustOk [(.t 5)] [], .un 7 .not (.t 6), .mv 8 (.t 7), .g 8 false 9 (.mv 9 (.t 1)), .g 8 false 10 (.call 10 n_s_StoreOk s_s_StoreOk [(.t 9)] []), .g 8 false 11 (.un 11 .not (.t 10)), .pick 12 (.t 8) (.c (.bool true)) (.t 11)]) (.cond (.t 12) (.seq (.ss [.lit 13 0 [.int .i64 0, .int .i64 0, .sl [], .sl []] [], .mv 4 (.t 13)]) (.ret [4])) (.skip))) (.seq (.ss [.sub 14 2 0 7, .mv 15 (.t 1), .call 16 n_s_l12Copy s_s_l12Copy [(.t 15)] [], .call 17 n_s_l12Trim s_s_l12Trim [(.t 14), (.t 16)] [], .mv 4 (.t 17)]) (.ret [4])))
def k_s_StoreTrim : Cfg := { tt := tt, sigs := sigs, mv := false, bm := [], eqt := eqL, keep := [true, true, true, false, true, false, false, false, false, false, false, false, true, false, false, false, false, false], n := 18, pin := [], fail := [], fz := [] }
theorem c_s_StoreTrim : cFun k_s_StoreTrim Tryz.f6 s_s_StoreTrim = some p_s_StoreTrim := by kernel_rfl
theorem F_s_StoreTrim {W : Wld} {ins outs : List (List D)} (h : pwp (FunOk PP W) p_s_StoreTrim (RetIs outs) (envL ins)) : FunOk PP W n_s_StoreTrim s_s_StoreTrim ins outs := fun_ok (C := k_s_StoreTrim) (cfg_ok rfl) (eq_ok rfl rfl) mixed Tryz.func6 (by kernel_rfl) (by kernel_rfl) c_s_StoreTrim h

def p_l_eqPkgS : PC := .seq (.ss [.mv 4 (.c (.bool false))]) (.seq (.seq (.ss [.mv 6 (.t 0), .len 7 (.t 6), .mv 8 (.t 1), .len 9 (.t 8), .bin 10 .neq (.t 7) (.t 9)]) (.cond (.t 10) (.seq (.ss [.mv 4 (.c (.bool false))]) (.ret [4])) (.skip))) (.seq (.seq (.ss [.mv 5 (.c (.int .i64 0))]) (.block 0 (.loop (.seq (.seq (.ss [.mv 11 (.t 5), .mv 12 (.t 0), .len 13 (.t 12), .bin 14 .lss (.t 11) (.t 13)]) (.cond (.t 14) (.skip) (.exit 0))) (.seq (.block 1 (.seq (.ss [.mv 17 (.t 0), .mv 18 (.t 5), .elp 19 (.t 17) (.t 18) 4, .eld 20 19 0 [.int .i64 0, .int .i64 0, .sl [], .sl []], .mv 21 (.t 1), .mv 22 (.t 5), .elp 23 (.t 21) (.t 22) 4, .eld 24 23 0 [.int .i64 0, .int .i64 0, .sl [], .sl []], .call 25 n_l_eqPkg s_l_eqPkg [(.t 20), (.t 24)] [], .un 26 .not (.t 25)]) (.cond (.t 26) (.seq (.ss [.mv 4 (.c (.bool false))]) (.ret [4])) (.skip)))) (.ss [.mv 15 (.t 5), .bin 16 .add (.t 15) (.c (.int .i64 1)), .mv 5 (.t 16)])))))) (.seq (.ss [.mv 4 (.c (.bool true))]) (.ret [4]))))
def k_l_eqPkgS : Cfg := { tt := tt, sigs := sigs, mv := false, bm := [], eqt := eqL, keep := [true, true, false, false, true, true, false, false, false, false, true, false, false, false, true, false, false, false, false, false, false, false, false, false, false, false, true], n := 27, pin := [], fail := [], fz := [] }
theorem c_l_eqPkgS : cFun k_l_eqPkgS Tryz.f10 s_l_eqPkgS = some p_l_eqPkgS := by kernel_rfl
theorem F_l_eqPkgS {W : Wld} {ins outs : List (List D)} (h : pwp (FunOk PP W) p_l_eqPkgS (RetIs outs) (envL ins)) : FunOk PP W n_l_eqPkgS s_l_eqPkgS ins outs := fun_ok (C := k_l_eqPkgS) (cfg_ok rfl) (eq_ok rfl rfl) mixed Tryz.func10 (by kernel_rfl) (by kernel_rfl) c_l_eqPkgS h

def p_l_eqTrust : PC := .seq (.ss [.mv 2 (.t 0), .mv 3 (.t 1), .mv 4 (.c (.bool false))]) (.seq (.seq (.ss [.nop, .sub 6 2 0 3, .nop, .sub 8 3 0 3, .call 9 n_l_eqRoot s_l_eqRoot [(.t 6), (.t 8)] [], .un 10 .not (.t 9)]) (.cond (.t 10) (.seq (.ss [.mv 4 (.c (.bool false))]) (.ret [4])) (.skip))) (.seq (.seq (.ss [.nop, .sub 12 2 3 1, .nop, .sub 14 3 3 1, .beq 15 true (.t 12) (.t 14)]) (.cond (.t 15) (.seq (.ss [.mv 4 (.c (.bool false))]) (.ret [4])) (.skip))) (.seq (.seq (.ss [.nop, .sub 17 2 4 3, .nop, .sub 19 3 4 3, .call 20 n_l_eqIndex s_l_eqIndex [(.t 17), (.t 19)] [], .un 21 .not (.t 20)]) (.cond (.t 21) (.seq (.ss [.mv 4 (.c (.bool false))]) (.ret [4])) (.skip))) (.seq (.ss [.mv 4 (.c (.bool true))]) (.ret [4])))))
def k_l_eqTrust : Cfg := { tt := tt, sigs := sigs, mv := false, bm := [], eqt := eqL, keep := [true, true, true, true, true, false, false, false, false, false, true, false, false, false, false, true, false, false, false, false, false, true], n := 22, pin := [], fail := [], fz := [] }
theorem c_l_eqTrust : cFun k_l_eqTrust Tryz.f11 s_l_eqTrust = some p_l_eqTrust := by kernel_rfl
theorem F_l_eqTrust {W : Wld} {ins outs : List (List D)} (h : pwp (FunOk PP W) p_l_eqTrust (RetIs outs) (envL ins)) : FunOk PP W n_l_eqTrust s_l_eqTrust ins outs := fun_ok (C := k_l_eqTrust) (cfg_ok rfl) (eq_ok rfl rfl) mixed Tryz.func11 (by kernel_rfl) (by kernel_rfl) c_l_eqTrust h

def p_l_heldPkgS : PC := .seq (.ss [.mv 4 (.c (.int .i64 0))]) (.seq (.seq (.ss [.mv 5 (.c (.int .i64 0))]) (.block 0 (.loop (.seq (.seq (.ss [.mv 6 (.t 5), .mv 7 (.t 0), .len 8 (.t 7), .bin 9 .lss (.t 6) (.t 8)]) (.cond (.t 9) (.skip) (.exit 0))) (.seq (.block 1 (.seq (.seq (.ss [.mv 12 (.t 0), .mv 13 (.t 5), .elp 14 (.t 12) (.t 13) 4, .mv 15 (.t 14), .eld 16 15 0 [.int .i64 0], .mv 17 (.t 1), .bin 18 .neq (.t 16) (.t 17)]) (.cond (.t 18) (.seq (.ss [.mv 4 (.c (.int .i64 (-1)))]) (.ret [4])) (.skip))) (.seq (.ss [.mv 19 (.t 1), .bin 20 .add (.t 19) (.c (.int .i64 1)), .mv 1 (.t 20)]) (.seq (.seq (.ss [.mv 21 (.t 0), .mv 22 (.t 5), .elp 23 (.t 21) (.t 22) 4, .mv 24 (.t 23), .eld 25 24 1 [.int .i64 0], .mv 26 (.t 1), .bin 27 .neq (.t 25) (.t 26)]) (.cond (.t 27) (.seq (.ss [.mv 4 (.c (.int .i64 (-1)))]) (.ret [4])) (.skip))) (.seq (.ss [.mv 28 (.t 1), .bin 29 .add (.t 28) (.c (.int .i64 1)), .mv 1 (.t 29)]) (.seq (.ss [.mv 30 (.t 0), .mv 31 (.t 5), .elp 32 (.t 30) (.t 31) 4, .mv 33 (.t 32), .eld 34 33 2 [.sl []], .mv 35 (.t 1), .call 36 n_l_heldFileS s_l_heldFileS [(.t 34), (.t 35)] [], .mv 1 (.t 36)]) (.seq (.seq (.ss [.mv 37 (.t 1), .bin 38 .lss (.t 37) (.c (.int .i64 0))]) (.cond (.t 38) (.seq (.ss [.mv 4 (.c (.int .i64 (-1)))]) (.ret [4])) (.skip))) (.seq (.ss [.mv 39 (.t 0), .mv 40 (.t 5), .elp 41 (.t 39) (.t 40) 4, .mv 42 (.t 41), .eld 43 42 3 [.sl []], .mv 44 (.t 1), .call 45 n_l_heldDepS s_l_heldDepS [(.t 43), (.t 44)] [], .mv 1 (.t 45)]) (.seq (.ss [.mv 46 (.t 1), .bin 47 .lss (.t 46) (.c (.int .i64 0))]) (.cond (.t 47) (.seq (.ss [.mv 4 (.c (.int .i64 (-1)))]) (.ret [4])) (.skip))))))))))) (.ss [.mv 10 (.t 5), .bin 11 .add (.t 10) (.c (.int .i64 1)), .mv 5 (.t 11)])))))) (.seq (.ss [.mv 48 (.t 1), .mv 4 (.t 48)]) (.ret [4])))
def k_l_heldPkgS : Cfg := { tt := tt, sigs := sigs, mv := false, bm := [], eqt := eqL, keep := [true, true, false, false, true, true, false, false, false, true, false, false, false, false, false, false, false, false, true, false, false, false, false, false, false, false, false, true, false, false, false, false, false, false, false, false, false, false, true, false, false, false, false, false, false, false, false, true, false], n := 49, pin := [], fail := [], fz := [] }
theorem c_l_heldPkgS : cFun k_l_heldPkgS Tryz.f14 s_l_heldPkgS = some p_l_heldPkgS := by kernel_rfl
theorem F_l_heldPkgS {W : Wld} {ins outs : List (List D)} (h : pwp (FunOk PP W) p_l_heldPkgS (RetIs outs) (envL ins)) : FunOk PP W n_l_heldPkgS s_l_heldPkgS ins outs := fun_ok (C := k_l_heldPkgS) (cfg_ok rfl) (eq_ok rfl rfl) mixed Tryz.func14 (by kernel_rfl) (by kernel_rfl) c_l_heldPkgS h

def p_l_szRoot : PC := .seq (.ss [.mv 2 (.t 0), .mv 4 (.c (.int .i64 0))]) (.seq (.ss [.nop, .sub 6 2 1 1, .mv 7 (.t 1), .call 8 n_l_szIntS s_l_szIntS [(.t 6), (.t 7)] [], .mv 1 (.t 8)]) (.seq (.seq (.ss [.mv 9 (.t 1), .bin 10 .lss (.t 9) (.c (.int .i64 0))]) (.cond (.t 10) (.seq (.ss [.mv 4 (.c (.int .i64 (-1)))]) (.ret [4])) (.skip))) (.seq (.ss [.mv 11 (.t 1), .mv 4 (.t 11)]) (.ret [4]))))
def k_l_szRoot : Cfg := { tt := tt, sigs := sigs, mv := false, bm := [], eqt := eqL, keep := [true, true, true, false, true, false, false, false, false, false, true, false], n := 12, pin := [], fail := [], fz := [] }
theorem c_l_szRoot : cFun k_l_szRoot Tryz.f15 s_l_szRoot = some p_l_szRoot := by kernel_rfl
theorem F_l_szRoot {W : Wld} {ins outs : List (List D)} (h : pwp (FunOk PP W) p_l_szRoot (RetIs outs) (envL ins)) : FunOk PP W n_l_szRoot s_l_szRoot ins outs := fun_ok (C := k_l_szRoot) (cfg_ok rfl) (eq_ok rfl rfl) mixed Tryz.func15 (by kernel_rfl) (by kernel_rfl) c_l_szRoot h

def p_l_szIndex : PC := .seq (.ss [.mv 2 (.t 0), .mv 4 (.c (.int .i64 0))]) (.seq (.ss [.nop, .sub 6 2 2 1, .mv 7 (.t 1), .call 8 n_l_szMetaS s_l_szMetaS [(.t 6), (.t 7)] [], .mv 1 (.t 8)]) (.seq (.seq (.ss [.mv 9 (.t 1), .bin 10 .lss (.t 9) (.c (.int .i64 0))]) (.cond (.t 10) (.seq (.ss [.mv 4 (.c (.int .i64 (-1)))]) (.ret [4])) (.skip))) (.seq (.ss [.mv 11 (.t 1), .mv 4 (.t 11)]) (.ret [4]))))
def k_l_szIndex : Cfg := { tt := tt, sigs := sigs, mv := false, bm := [], eqt := eqL, keep := [true, true, true, false, true, false, false, false, false, false, true, false], n := 12, pin := [], fail := [], fz := [] }
theorem c_l_szIndex : cFun k_l_szIndex Tryz.f16 s_l_szIndex = some p_l_szIndex := by kernel_rfl
theorem F_l_szIndex {W : Wld} {ins outs : List (List D)} (h : pwp (FunOk PP W) p_l_szIndex (RetIs outs) (envL ins)) : FunOk PP W n_l_szIndex s_l_szIndex ins outs := fun_ok (C := k_l_szIndex) (cfg_ok rfl) (eq_ok rfl rfl) mixed Tryz.func16 (by kernel_rfl) (by kernel_rfl) c_l_szIndex h

def p_l_szPkg : PC := .seq (.ss [.mv 2 (.t 0), .mv 4 (.c (.int .i64 0))]) (.seq (.ss [.nop, .sub 6 2 2 1, .mv 7 (.t 1), .call 8 n_l_szFileS s_l_szFileS [(.t 6), (.t 7)] [], .mv 1 (.t 8)]) (.seq (.seq (.ss [.mv 9 (.t 1), .bin 10 .lss (.t 9) (.c (.int .i64 0))]) (.cond (.t 10) (.seq (.ss [.mv 4 (.c (.int .i64 (-1)))]) (.ret [4])) (.skip))) (.seq (.ss [.nop, .sub 12 2 3 1, .mv 13 (.t 1), .call 14 n_l_szDepS s_l_szDepS [(.t 12), (.t 13)] [], .mv 1 (.t 14)]) (.seq (.seq (.ss [.mv 15 (.t 1), .bin 16 .lss (.t 15) (.c (.int .i64 0))]) (.cond (.t 16) (.seq (.ss [.mv 4 (.c (.int .i64 (-1)))]) (.ret [4])) (.skip))) (.seq (.ss [.mv 17 (.t 1), .mv 4 (.t 17)]) (.ret [4]))))))
def k_l_szPkg : Cfg := { tt := tt, sigs := sigs, mv := false, bm := [], eqt := eqL, keep := [true, true, true, false, true, false, false, false, false, false, true, false, false, false, false, false, true, false], n := 18, pin := [], fail := [], fz := [] }
theorem c_l_szPkg : cFun k_l_szPkg Tryz.f17 s_l_szPkg = some p_l_szPkg := by kernel_rfl
theorem F_l_szPkg {W : Wld} {ins outs : List (List D)} (h : pwp (FunOk PP W) p_l_szPkg (RetIs outs) (envL ins)) : FunOk PP W n_l_szPkg s_l_szPkg ins outs := fun_ok (C := k_l_szPkg) (cfg_ok rfl) (eq_ok rfl rfl) mixed Tryz.func17 (by kernel_rfl) (by kernel_rfl) c_l_szPkg h

def p_s_TrustOk : PC := .seq (.ss [.mv 1 (.t 0), .mv 2 (.c (.bool false))]) (.seq (.seq (.ss [.nop, .sub 4 1 0 3, .call 5 n_s_RootOk s_s_RootOk [(.t 4)] [], .un 6 .not (.t 5)]) (.cond (.t 6) (.seq (.ss [.mv 2 (.c (.bool false))]) (.ret [2])) (.skip))) (.seq (.seq (.ss [.nop, .sub 8 1 3 1]) (.cond (.t 8) (.seq (.ss [.nop, .sub 10 1 4 3, .call 11 n_s_IndexOk s_s_IndexOk [(.t 10)] [], .mv 2 (.t 11)]) (.ret [2])) (.skip))) (.seq (.ss [.nop, .nop, .sub 14 1 4 1, .bin 15 .eql (.t 14) (.c (.int .i64 0)), .mv 16 (.t 15), .g 16 true 17 (.nop), .g 16 true 18 (.nop), .g 16 true 19 (.sub 19 1 5 1), .g 16 true 20 (.bin 20 .eql (.t 19) (.c (.int .i64 0))), .pick 21 (.t 16) (.t 20) (.c (.bool false)), .mv 22 (.t 21), .g 22 true 23 (.nop), .g 22 true 24 (.nop), .g 22 true 25 (.sub 25 1 6 1), .g 22 true 26 (.len 26 (.t 25)), .g 22 true 27 (.bin 27 .eql (.t 26) (.c (.int .i64 0))), .pick 28 (.t 22) (.t 27) (.c (.bool false)), .mv 2 (.t 28)]) (.ret [2]))))
def k_s_TrustOk : Cfg := { tt := tt, sigs := sigs, mv := false, bm := [], eqt := eqL, keep := [true, true, true, false, false, false, true, false, true, false, false, false, false, false, false, false, false, false, false, false, false, false, false, false, false, false, false, false, false], n := 29, pin := [], fail := [], fz := [] }
theorem c_s_TrustOk : cFun k_s_TrustOk Tryz.f18 s_s_TrustOk = some p_s_TrustOk := by kernel_rfl
theorem F_s_TrustOk {W : Wld} {ins outs : List (List D)} (h : pwp (FunOk PP W) p_s_TrustOk (RetIs outs) (envL ins)) : FunOk PP W n_s_TrustOk s_s_TrustOk ins outs := fun_ok (C := k_s_TrustOk) (cfg_ok rfl) (eq_ok rfl rfl) mixed Tryz.func18 (by kernel_rfl) (by kernel_rfl) c_s_TrustOk h

def p_s_StoreOk : PC := .seq (.ss [.mv 2 (.c (.bool false))]) (.seq (.ss [.mv 3 (.t 0), .call 4 n_s_l3Pkgs s_s_l3Pkgs [(.t 3)] [], .mv 2 (.t 4)]) (.ret [2]))
def k_s_StoreOk : Cfg := { tt := tt, sigs := sigs, mv := false, bm := [], eqt := eqL, keep := [true, false, true, false, false], n := 5, pin := [], fail := [], fz := [] }
theorem c_s_StoreOk : cFun k_s_StoreOk Tryz.f19 s_s_StoreOk = some p_s_StoreOk := by kernel_rfl
theorem F_s_StoreOk {W : Wld} {ins outs : List (List D)} (h : pwp (FunOk PP W) p_s_StoreOk (RetIs outs) (envL ins)) : FunOk PP W n_s_StoreOk s_s_StoreOk ins outs := fun_ok (C := k_s_StoreOk) (cfg_ok rfl) (eq_ok rfl rfl) mixed Tryz.func19 (by kernel_rfl) (by kernel_rfl) c_s_StoreOk h

def p_i_TrustOk : PC := .seq (.ss [.mv 1 (.t 0), .mv 2 (.c (.bool false))]) (.seq (.seq (.ss [.nop, .sub 4 1 0 3, .call 5 n_i_RootOk s_i_RootOk [(.t 4)] [], .un 6 .not (.t 5)]) (.cond (.t 6) (.seq (.ss [.mv 2 (.c (.bool false))]) (.ret [2])) (.skip))) (.seq (.seq (.ss [.nop, .sub 8 1 3 1]) (.cond (.t 8) (.seq (.ss [.nop, .sub 10 1 4 3, .call 11 n_i_IndexOk s_i_IndexOk [(.t 10)] [], .mv 2 (.t 11)]) (.ret [2])) (.skip))) (.seq (.ss [.nop, .sub 13 1 4 3, .bld 14 [.int .i64 0, .int .i64 0, .sl []] [], .call 15 n_i_Index_same s_i_Index_same [(.t 13), (.t 14)] [], .mv 2 (.t 15)]) (.ret [2]))))
def k_i_TrustOk : Cfg := { tt := tt, sigs := sigs, mv := false, bm := [], eqt := eqL, keep := [true, true, true, false, false, false, true, false, true, false, false, false, false, false, false, false], n := 16, pin := [], fail := [], fz := [] }
theorem c_i_TrustOk : cFun k_i_TrustOk Tryz.f25 s_i_TrustOk = some p_i_TrustOk := by kernel_rfl
theorem F_i_TrustOk {W : Wld} {ins outs : List (List D)} (h : pwp (FunOk PP W) p_i_TrustOk (RetIs outs) (envL ins)) : FunOk PP W n_i_TrustOk s_i_TrustOk ins outs := fun_ok (C := k_i_TrustOk) (cfg_ok rfl) (eq_ok rfl rfl) mixed Tryz.func25 (by kernel_rfl) (by kernel_rfl) c_i_TrustOk h

def p_i_StoreOk : PC := .seq (.ss [.mv 2 (.c (.bool false))]) (.seq (.seq (.ss [.mv 5 (.t 0), .len 6 (.t 5), .mv 7 (.c (.int .i64 0))]) (.block 0 (.loop (.seq (.ss [.bin 8 .lss (.t 7) (.t 6)]) (.seq (.cond (.t 8) (.skip) (.exit 0)) (.seq (.block 1 (.seq (.ss [.mv 9 (.t 7), .elp 10 (.t 5) (.t 7) 4, .eld 11 10 0 [.int .i64 0, .int .i64 0, .sl [], .sl []], .bld 4 [.int .i64 0, .int .i64 0, .sl [], .sl []] [], .mv 3 (.t 9), .st 4 0 (.t 11)]) (.seq (.ss [.sub 12 4 0 4, .call 13 n_i_PkgOk s_i_PkgOk [(.t 12)] [], .un 14 .not (.t 13), .mv 15 (.t 14), .g 15 false 16 (.mv 16 (.t 3)), .g 15 false 17 (.bin 17 .gtr (.t 16) (.c (.int .i64 0))), .g 15 false 18 (.mv 18 (.t 17)), .g 18 true 19 (.mv 19 (.t 0)), .g 18 true 20 (.mv 20 (.t 3)), .g 18 true 21 (.bin 21 .sub (.t 20) (.c (.int .i64 1))), .g 18 true 22 (.elp 22 (.t 19) (.t 21) 4), .g 18 true 23 (.eld 23 22 0 [.int .i64 0, .int .i64 0, .sl [], .sl []]), .g 18 true 24 (.sub 24 4 0 4), .g 18 true 25 (.call 25 n_i_Pkg_compare s_i_Pkg_compare [(.t 23), (.t 24)] []), .g 18 true 26 (.bin 26 .geq (.t 25) (.c (.int .i64 0))), .g 15 false 27 (.pick 27 (.t 18) (.t 26) (.c (.bool false))), .pick 28 (.t 15) (.c (.bool true)) (.t 27)]) (.cond (.t 28) (.seq (.ss [.mv 2 (.c (.bool false))]) (.ret [2])) (.skip))))) (.ss [.bin 29 .add (.t 7) (.c (.int .i64 1)), .mv 7 (.t 29)]))))))) (.seq (.ss [.mv 2 (.c (.bool true))]) (.ret [2])))
def k_i_StoreOk : Cfg := { tt := tt, sigs := sigs, mv := false, bm := [], eqt := eqL, keep := [true, false, true, true, true, true, true, true, true, false, false, false, false, false, false, false, false, false, false, false, false, false, false, false, false, false, false, false, true, false], n := 30, pin := [], fail := [], fz := [] }
theorem c_i_StoreOk : cFun k_i_StoreOk Tryz.f26 s_i_StoreOk = some p_i_StoreOk := by kernel_rfl
theorem F_i_StoreOk {W : Wld} {ins outs : List (List D)} (h : pwp (FunOk PP W) p_i_StoreOk (RetIs outs) (envL ins)) : FunOk PP W n_i_StoreOk s_i_StoreOk ins outs := fun_ok (C := k_i_StoreOk) (cfg_ok rfl) (eq_ok rfl rfl) mixed Tryz.func26 (by kernel_rfl) (by kernel_rfl) c_i_StoreOk h

def p_sl_Contains_Meta : PC := .seq (.ss [.mv 3 (.t 1), .mv 4 (.c (.bool false))]) (.seq (.ss [.mv 5 (.t 0), .sub 6 3 0 3, .call 7 n_sl_Index_Meta s_sl_Index_Meta [(.t 5), (.t 6)] [], .bin 8 .geq (.t 7) (.c (.int .i64 0)), .mv 4 (.t 8)]) (.ret [4]))
def k_sl_Contains_Meta : Cfg := { tt := tt, sigs := sigs, mv := false, bm := [], eqt := eqL, keep := [true, true, false, true, true, false, false, false, false], n := 9, pin := [], fail := [], fz := [] }
theorem c_sl_Contains_Meta : cFun k_sl_Contains_Meta Tryz.f27 s_sl_Contains_Meta = some p_sl_Contains_Meta := by kernel_rfl
theorem F_sl_Contains_Meta {W : Wld} {ins outs : List (List D)} (h : pwp (FunOk PP W) p_sl_Contains_Meta (RetIs outs) (envL ins)) : FunOk PP W n_sl_Contains_Meta s_sl_Contains_Meta ins outs := fun_ok (C := k_sl_Contains_Meta) (cfg_ok rfl) (eq_ok rfl rfl) mixed Tryz.func27 (by kernel_rfl) (by kernel_rfl) c_sl_Contains_Meta h

def p_i_metaOf : PC := .seq (.ss [.mv 1 (.t 0), .bld 2 [.int .i64 0, .int .i64 0, .int .i64 0] []]) (.seq (.ss [.nop, .sub 4 1 0 1, .nop, .sub 6 1 1 1, .sub 7 1 0 4, .call 8 n_i_PkgText s_i_PkgText [(.t 7)] [], .call 9 n_i_SumOf s_i_SumOf [(.t 8)] [], .bld 10 [.int .i64 0, .int .i64 0, .int .i64 0] [(0, (.t 4)), (1, (.t 6)), (2, (.t 9))], .st 2 0 (.t 10)]) (.ret [2]))
def k_i_metaOf : Cfg := { tt := tt, sigs := sigs, mv := false, bm := [], eqt := eqL, keep := [true, true, true, false, false, false, false, false, false, false, false], n := 11, pin := [], fail := [], fz := [] }
theorem c_i_metaOf : cFun k_i_metaOf Tryz.f28 s_i_metaOf = some p_i_metaOf := by kernel_rfl
theorem F_i_metaOf {W : Wld} {ins outs : List (List D)} (h : pwp (FunOk PP W) p_i_metaOf (RetIs outs) (envL ins)) : FunOk PP W n_i_metaOf s_i_metaOf ins outs := fun_ok (C := k_i_metaOf) (cfg_ok rfl) (eq_ok rfl rfl) mixed Tryz.func28 (by kernel_rfl) (by kernel_rfl) c_i_metaOf h

def p_l_eqPkg : PC := .seq (.ss [.mv 2 (.t 0), .mv 3 (.t 1), .mv 4 (.c (.bool false))]) (.seq (.seq (.ss [.nop, .sub 6 2 0 1, .nop, .sub 8 3 0 1, .bin 9 .neq (.t 6) (.t 8)]) (.cond (.t 9) (.seq (.ss [.mv 4 (.c (.bool false))]) (.ret [4])) (.skip))) (.seq (.seq (.ss [.nop, .sub 11 2 1 1, .nop, .sub 13 3 1 1, .bin 14 .neq (.t 11) (.t 13)]) (.cond (.t 14) (.seq (.ss [.mv 4 (.c (.bool false))]) (.ret [4])) (.skip))) (.seq (.seq (.ss [.nop, .sub 16 2 2 1, .nop, .sub 18 3 2 1, .call 19 n_l_eqFileS s_l_eqFileS [(.t 16), (.t 18)] [], .un 20 .not (.t 19)]) (.cond (.t 20) (.seq (.ss [.mv 4 (.c (.bool false))]) (.ret [4])) (.skip))) (.seq (.seq (.ss [.nop, .sub 22 2 3 1, .nop, .sub 24 3 3 1, .call 25 n_l_eqDepS s_l_eqDepS [(.t 22), (.t 24)] [], .un 26 .not (.t 25)]) (.cond (.t 26) (.seq (.ss [.mv 4 (.c (.bool false))]) (.ret [4])) (.skip))) (.seq (.ss [.mv 4 (.c (.bool true))]) (.ret [4]))))))
def k_l_eqPkg : Cfg := { tt := tt, sigs := sigs, mv := false, bm := [], eqt := eqL, keep := [true, true, true, true, true, false, false, false, false, true, false, false, false, false, true, false, false, false, false, false, true, false, false, false, false, false, true], n := 27, pin := [], fail := [], fz := [] }
theorem c_l_eqPkg : cFun k_l_eqPkg Tryz.f30 s_l_eqPkg = some p_l_eqPkg := by kernel_rfl
theorem F_l_eqPkg {W : Wld} {ins outs : List (List D)} (h : pwp (FunOk PP W) p_l_eqPkg (RetIs outs) (envL ins)) : FunOk PP W n_l_eqPkg s_l_eqPkg ins outs := fun_ok (C := k_l_eqPkg) (cfg_ok rfl) (eq_ok rfl rfl) mixed Tryz.func30 (by kernel_rfl) (by kernel_rfl) c_l_eqPkg h

def p_l_eqRoot : PC := .seq (.ss [.mv 2 (.t 0), .mv 3 (.t 1), .mv 4 (.c (.bool false))]) (.seq (.seq (.ss [.nop, .sub 6 2 0 1, .nop, .sub 8 3 0 1, .bin 9 .neq (.t 6) (.t 8)]) (.cond (.t 9) (.seq (.ss [.mv 4 (.c (.bool false))]) (.ret [4])) (.skip))) (.seq (.seq (.ss [.nop, .sub 11 2 1 1, .nop, .sub 13 3 1 1, .call 14 n_l_eqIntS s_l_eqIntS [(.t 11), (.t 13)] [], .un 15 .not (.t 14)]) (.cond (.t 15) (.seq (.ss [.mv 4 (.c (.bool false))]) (.ret [4])) (.skip))) (.seq (.seq (.ss [.nop, .sub 17 2 2 1, .nop, .sub 19 3 2 1, .bin 20 .neq (.t 17) (.t 19)]) (.cond (.t 20) (.seq (.ss [.mv 4 (.c (.bool false))]) (.ret [4])) (.skip))) (.seq (.ss [.mv 4 (.c (.bool true))]) (.ret [4])))))
def k_l_eqRoot : Cfg := { tt := tt, sigs := sigs, mv := false, bm := [], eqt := eqL, keep := [true, true, true, true, true, false, false, false, false, true, false, false, false, false, false, true, false, false, false, false, true], n := 21, pin := [], fail := [], fz := [] }
theorem c_l_eqRoot : cFun k_l_eqRoot Tryz.f31 s_l_eqRoot = some p_l_eqRoot := by kernel_rfl
theorem F_l_eqRoot {W : Wld} {ins outs : List (List D)} (h : pwp (FunOk PP W) p_l_eqRoot (RetIs outs) (envL ins)) : FunOk PP W n_l_eqRoot s_l_eqRoot ins outs := fun_ok (C := k_l_eqRoot) (cfg_ok rfl) (eq_ok rfl rfl) mixed Tryz.func31 (by kernel_rfl) (by kernel_rfl) c_l_eqRoot h

def p_l_eqIndex : PC := .seq (.ss [.mv 2 (.t 0), .mv 3 (.t 1), .mv 4 (.c (.bool false))]) (.seq (.seq (.ss [.nop, .sub 6 2 0 1, .nop, .sub 8 3 0 1, .bin 9 .neq (.t 6) (.t 8)]) (.cond (.t 9) (.seq (.ss [.mv 4 (.c (.bool false))]) (.ret [4])) (.skip))) (.seq (.seq (.ss [.nop, .sub 11 2 1 1, .nop, .sub 13 3 1 1, .bin 14 .neq (.t 11) (.t 13)]) (.cond (.t 14) (.seq (.ss [.mv 4 (.c (.bool false))]) (.ret [4])) (.skip))) (.seq (.seq (.ss [.nop, .sub 16 2 2 1, .nop, .sub 18 3 2 1, .call 19 n_l_eqMetaS s_l_eqMetaS [(.t 16), (.t 18)] [], .un 20 .not (.t 19)]) (.cond (.t 20) (.seq (.ss [.mv 4 (.c (.bool false))]) (.ret [4])) (.skip))) (.seq (.ss [.mv 4 (.c (.bool true))]) (.ret [4])))))
def k_l_eqIndex : Cfg := { tt := tt, sigs := sigs, mv := false, bm := [], eqt := eqL, keep := [true, true, true, true, true, false, false, false, false, true, false, false, false, false, true, false, false, false, false, false, true], n := 21, pin := [], fail := [], fz := [] }
theorem c_l_eqIndex : cFun k_l_eqIndex Tryz.f32 s_l_eqIndex = some p_l_eqIndex := by kernel_rfl
theorem F_l_eqIndex {W : Wld} {ins outs : List (List D)} (h : pwp (FunOk PP W) p_l_eqIndex (RetIs outs) (envL ins)) : FunOk PP W n_l_eqIndex s_l_eqIndex ins outs := fun_ok (C := k_l_eqIndex) (cfg_ok rfl) (eq_ok rfl rfl) mixed Tryz.func32 (by kernel_rfl) (by kernel_rfl) c_l_eqIndex h

def p_l_heldFileS : PC := .seq (.ss [.mv 4 (.c (.int .i64 0))]) (.seq (.seq (.ss [.mv 5 (.c (.int .i64 0))]) (.block 0 (.loop (.seq (.seq (.ss [.mv 6 (.t 5), .mv 7 (.t 0), .len 8 (.t 7), .bin 9 .lss (.t 6) (.t 8)]) (.cond (.t 9) (.skip) (.exit 0))) (.seq (.block 1 (.seq (.seq (.ss [.mv 12 (.t 0), .mv 13 (.t 5), .elp 14 (.t 12) (.t 13) 2, .mv 15 (.t 14), .eld 16 15 0 [.int .i64 0], .mv 17 (.t 1), .bin 18 .neq (.t 16) (.t 17)]) (.cond (.t 18) (.seq (.ss [.mv 4 (.c (.int .i64 (-1)))]) (.ret [4])) (.skip))) (.seq (.ss [.mv 19 (.t 1), .bin 20 .add (.t 19) (.c (.int .i64 1)), .mv 1 (.t 20)]) (.seq (.seq (.ss [.mv 21 (.t 0), .mv 22 (.t 5), .elp 23 (.t 21) (.t 22) 2, .mv 24 (.t 23), .eld 25 24 1 [.int .i64 0], .mv 26 (.t 1), .bin 27 .neq (.t 25) (.t 26)]) (.cond (.t 27) (.seq (.ss [.mv 4 (.c (.int .i64 (-1)))]) (.ret [4])) (.skip))) (.ss [.mv 28 (.t 1), .bin 29 .add (.t 28) (.c (.int .i64 1)), .mv 1 (.t 29)]))))) (.ss [.mv 10 (.t 5), .bin 11 .add (.t 10) (.c (.int .i64 1)), .mv 5 (.t 11)])))))) (.seq (.ss [.mv 30 (.t 1), .mv 4 (.t 30)]) (.ret [4])))
def k_l_heldFileS : Cfg := { tt := tt, sigs := sigs, mv := false, bm := [], eqt := eqL, keep := [true, true, false, false, true, true, false, false, false, true, false, false, false, false, false, false, false, false, true, false, false, false, false, false, false, false, false, true, false, false, false], n := 31, pin := [], fail := [], fz := [] }
theorem c_l_heldFileS : cFun k_l_heldFileS Tryz.f37 s_l_heldFileS = some p_l_heldFileS := by kernel_rfl
theorem F_l_heldFileS {W : Wld} {ins outs : List (List D)} (h : pwp (FunOk PP W) p_l_heldFileS (RetIs outs) (envL ins)) : FunOk PP W n_l_heldFileS s_l_heldFileS ins outs := fun_ok (C := k_l_heldFileS) (cfg_ok rfl) (eq_ok rfl rfl) mixed Tryz.func37 (by kernel_rfl) (by kernel_rfl) c_l_heldFileS h

def p_l_heldDepS : PC := .seq (.ss [.mv 4 (.c (.int .i64 0))]) (.seq (.seq (.ss [.mv 5 (.c (.int .i64 0))]) (.block 0 (.loop (.seq (.seq (.ss [.mv 6 (.t 5), .mv 7 (.t 0), .len 8 (.t 7), .bin 9 .lss (.t 6) (.t 8)]) (.cond (.t 9) (.skip) (.exit 0))) (.seq (.block 1 (.seq (.seq (.ss [.mv 12 (.t 0), .mv 13 (.t 5), .elp 14 (.t 12) (.t 13) 2, .mv 15 (.t 14), .eld 16 15 0 [.int .i64 0], .mv 17 (.t 1), .bin 18 .neq (.t 16) (.t 17)]) (.cond (.t 18) (.seq (.ss [.mv 4 (.c (.int .i64 (-1)))]) (.ret [4])) (.skip))) (.seq (.ss [.mv 19 (.t 1), .bin 20 .add (.t 19) (.c (.int .i64 1)), .mv 1 (.t 20)]) (.seq (.seq (.ss [.mv 21 (.t 0), .mv 22 (.t 5), .elp 23 (.t 21) (.t 22) 2, .mv 24 (.t 23), .eld 25 24 1 [.int .i64 0], .mv 26 (.t 1), .bin 27 .neq (.t 25) (.t 26)]) (.cond (.t 27) (.seq (.ss [.mv 4 (.c (.int .i64 (-1)))]) (.ret [4])) (.skip))) (.ss [.mv 28 (.t 1), .bin 29 .add (.t 28) (.c (.int .i64 1)), .mv 1 (.t 29)]))))) (.ss [.mv 10 (.t 5), .bin 11 .add (.t 10) (.c (.int .i64 1)), .mv 5 (.t 11)])))))) (.seq (.ss [.mv 30 (.t 1), .mv 4 (.t 30)]) (.ret [4])))
def k_l_heldDepS : Cfg := { tt := tt, sigs := sigs, mv := false, bm := [], eqt := eqL, keep := [true, true, false, false, true, true, false, false, false, true, false, false, false, false, false, false, false, false, true, false, false, false, false, false, false, false, false, true, false, false, false], n := 31, pin := [], fail := [], fz := [] }
theorem c_l_heldDepS : cFun k_l_heldDepS Tryz.f38 s_l_heldDepS = some p_l_heldDepS := by kernel_rfl
theorem F_l_heldDepS {W : Wld} {ins outs : List (List D)} (h : pwp (FunOk PP W) p_l_heldDepS (RetIs outs) (envL ins)) : FunOk PP W n_l_heldDepS s_l_heldDepS ins outs := fun_ok (C := k_l_heldDepS) (cfg_ok rfl) (eq_ok rfl rfl) mixed Tryz.func38 (by kernel_rfl) (by kernel_rfl) c_l_heldDepS h

def p_l_szIntS : PC := .seq (.ss [.mv 4 (.c (.int .i64 0))]) (.seq (.ss [.mv 5 (.t 1), .mv 6 (.t 0), .len 7 (.t 6), .bin 8 .sub (.t 5) (.t 7), .mv 1 (.t 8)]) (.seq (.seq (.ss [.mv 9 (.t 1), .bin 10 .lss (.t 9) (.c (.int .i64 0))]) (.cond (.t 10) (.seq (.ss [.mv 4 (.c (.int .i64 (-1)))]) (.ret [4])) (.skip))) (.seq (.ss [.mv 11 (.t 1), .mv 4 (.t 11)]) (.ret [4]))))
def k_l_szIntS : Cfg := { tt := tt, sigs := sigs, mv := false, bm := [], eqt := eqL, keep := [true, true, false, false, true, false, false, false, false, false, true, false], n := 12, pin := [], fail := [], fz := [] }
theorem c_l_szIntS : cFun k_l_szIntS Tryz.f39 s_l_szIntS = some p_l_szIntS := by kernel_rfl
theorem F_l_szIntS {W : Wld} {ins outs : List (List D)} (h : pwp (FunOk PP W) p_l_szIntS (RetIs outs) (envL ins)) : FunOk PP W n_l_szIntS s_l_szIntS ins outs := fun_ok (C := k_l_szIntS) (cfg_ok rfl) (eq_ok rfl rfl) mixed Tryz.func39 (by kernel_rfl) (by kernel_rfl) c_l_szIntS h

def p_l_szMetaS : PC := .seq (.ss [.mv 4 (.c (.int .i64 0))]) (.seq (.ss [.mv 5 (.t 1), .mv 6 (.t 0), .len 7 (.t 6), .bin 8 .sub (.t 5) (.t 7), .mv 1 (.t 8)]) (.seq (.seq (.ss [.mv 9 (.t 1), .bin 10 .lss (.t 9) (.c (.int .i64 0))]) (.cond (.t 10) (.seq (.ss [.mv 4 (.c (.int .i64 (-1)))]) (.ret [4])) (.skip))) (.seq (.ss [.mv 11 (.t 1), .mv 4 (.t 11)]) (.ret [4]))))
def k_l_szMetaS : Cfg := { tt := tt, sigs := sigs, mv := false, bm := [], eqt := eqL, keep := [true, true, false, false, true, false, false, false, false, false, true, false], n := 12, pin := [], fail := [], fz := [] }
theorem c_l_szMetaS : cFun k_l_szMetaS Tryz.f40 s_l_szMetaS = some p_l_szMetaS := by kernel_rfl
theorem F_l_szMetaS {W : Wld} {ins outs : List (List D)} (h : pwp (FunOk PP W) p_l_szMetaS (RetIs outs) (envL ins)) : FunOk PP W n_l_szMetaS s_l_szMetaS ins outs := fun_ok (C := k_l_szMetaS) (cfg_ok rfl) (eq_ok rfl rfl) mixed Tryz.func40 (by kernel_rfl) (by kernel_rfl) c_l_szMetaS h

def p_l_szFileS : PC := .seq (.ss [.mv 4 (.c (.int .i64 0))]) (.seq (.ss [.mv 5 (.t 1), .mv 6 (.t 0), .len 7 (.t 6), .bin 8 .sub (.t 5) (.t 7), .mv 1 (.t 8)]) (.seq (.seq (.ss [.mv 9 (.t 1), .bin 10 .lss (.t 9) (.c (.int .i64 0))]) (.cond (.t 10) (.seq (.ss [.mv 4 (.c (.int .i64 (-1)))]) (.ret [4])) (.skip))) (.seq (.ss [.mv 11 (.t 1), .mv 4 (.t 11)]) (.ret [4]))))
def k_l_szFileS : Cfg := { tt := tt, sigs := sigs, mv := false, bm := [], eqt := eqL, keep := [true, true, false, false, true, false, false, false, false, false, true, false], n := 12, pin := [], fail := [], fz := [] }
theorem c_l_szFileS : cFun k_l_szFileS Tryz.f41 s_l_szFileS = some p_l_szFileS := by kernel_rfl
theorem F_l_szFileS {W : Wld} {ins outs : List (List D)} (h : pwp (FunOk PP W) p_l_szFileS (RetIs outs) (envL ins)) : FunOk PP W n_l_szFileS s_l_szFileS ins outs := fun_ok (C := k_l_szFileS) (cfg_ok rfl) (eq_ok rfl rfl) mixed Tryz.func41 (by kernel_rfl) (by kernel_rfl) c_l_szFileS h

def p_l_szDepS : PC := .seq (.ss [.mv 4 (.c (.int .i64 0))]) (.seq (.ss [.mv 5 (.t 1), .mv 6 (.t 0), .len 7 (.t 6), .bin 8 .sub (.t 5) (.t 7), .mv 1 (.t 8)]) (.seq (.seq (.ss [.mv 9 (.t 1), .bin 10 .lss (.t 9) (.c (.int .i64 0))]) (.cond (.t 10) (.seq (.ss [.mv 4 (.c (.int .i64 (-1)))]) (.ret [4])) (.skip))) (.seq (.ss [.mv 11 (.t 1), .mv 4 (.t 11)]) (.ret [4]))))
def k_l_szDepS : Cfg := { tt := tt, sigs := sigs, mv := false, bm := [], eqt := eqL, keep := [true, true, false, false, true, false, false, false, false, false, true, false], n := 12, pin := [], fail := [], fz := [] }
theorem c_l_szDepS : cFun k_l_szDepS Tryz.f42 s_l_szDepS = some p_l_szDepS := by kernel_rfl
theorem F_l_szDepS {W : Wld} {ins outs : List (List D)} (h : pwp (FunOk PP W) p_l_szDepS (RetIs outs) (envL ins)) : FunOk PP W n_l_szDepS s_l_szDepS ins outs := fun_ok (C := k_l_szDepS) (cfg_ok rfl) (eq_ok rfl rfl) mixed Tryz.func42 (by kernel_rfl) (by kernel_rfl) c_l_szDepS h

def p_s_RootOk : PC := .seq (.ss [.mv 1 (.t 0), .mv 2 (.c (.bool false))]) (.seq (.ss [.nop, .sub 4 1 0 1, .call 5 n_s_l6In s_s_l6In [(.t 4), (.c (.int .i64 1)), (.c (.int .i64 9))] [], .mv 6 (.t 5), .g 6 true 7 (.nop), .g 6 true 8 (.sub 8 1 1 1), .g 6 true 9 (.call 9 n_s_KeysOk s_s_KeysOk [(.t 8)] []), .pick 10 (.t 6) (.t 9) (.c (.bool false)), .mv 11 (.t 10), .g 11 true 12 (.nop), .g 11 true 13 (.sub 13 1 2 1), .g 11 true 14 (.nop), .g 11 true 15 (.sub 15 1 1 1), .g 11 true 16 (.len 16 (.t 15)), .g 11 true 17 (.call 17 n_s_l6In s_s_l6In [(.t 13), (.c (.int .i64 1)), (.t 16)] []), .pick 18 (.t 11) (.t 17) (.c (.bool false)), .mv 2 (.t 18)]) (.ret [2]))
def k_s_RootOk : Cfg := { tt := tt, sigs := sigs, mv := false, bm := [], eqt := eqL, keep := [true, true, true, false, false, false, false, false, false, false, false, false, false, false, false, false, false, false, false], n := 19, pin := [], fail := [], fz := [] }
theorem c_s_RootOk : cFun k_s_RootOk Tryz.f43 s_s_RootOk = some p_s_RootOk := by kernel_rfl
theorem F_s_RootOk {W : Wld} {ins outs : List (List D)} (h : pwp (FunOk PP W) p_s_RootOk (RetIs outs) (envL ins)) : FunOk PP W n_s_RootOk s_s_RootOk ins outs := fun_ok (C := k_s_RootOk) (cfg_ok rfl) (eq_ok rfl rfl) mixed Tryz.func43 (by kernel_rfl) (by kernel_rfl) c_s_RootOk h

def p_s_IndexOk : PC := .seq (.ss [.mv 1 (.t 0), .mv 2 (.c (.bool false))]) (.seq (.seq (.ss [.nop, .sub 6 1 0 1, .call 7 n_s_l6In s_s_l6In [(.t 6), (.c (.int .i64 1)), (.c (.int .i64 30))] [], .un 8 .not (.t 7), .mv 9 (.t 8), .g 9 false 10 (.nop), .g 9 false 11 (.sub 11 1 1 1), .g 9 false 12 (.call 12 n_s_l6In s_s_l6In [(.t 11), (.c (.int .i64 0)), (.c (.int .i64 60))] []), .g 9 false 13 (.un 13 .not (.t 12)), .pick 14 (.t 9) (.c (.bool true)) (.t 13), .mv 15 (.t 14), .g 15 false 16 (.nop), .g 15 false 17 (.sub 17 1 2 1), .g 15 false 18 (.len 18 (.t 17)), .g 15 false 19 (.bin 19 .gtr (.t 18) (.c (.int .i64 8))), .pick 20 (.t 15) (.c (.bool true)) (.t 19)]) (.cond (.t 20) (.seq (.ss [.mv 2 (.c (.bool false))]) (.ret [2])) (.skip))) (.seq (.seq (.ss [.mv 3 (.c (.int .i64 0))]) (.block 0 (.loop (.seq (.seq (.ss [.mv 21 (.t 3), .nop, .sub 23 1 2 1, .len 24 (.t 23), .bin 25 .lss (.t 21) (.t 24)]) (.cond (.t 25) (.skip) (.exit 0))) (.seq (.block 1 (.seq (.ss [.nop, .sub 29 1 2 1, .mv 30 (.t 3), .elp 31 (.t 29) (.t 30) 3, .eld 32 31 0 [.int .i64 0, .int .i64 0, .int .i64 0], .bld 4 [.int .i64 0, .int .i64 0, .int .i64 0] [], .st 4 0 (.t 32)]) (.seq (.seq (.ss [.nop, .sub 34 4 0 1, .call 35 n_s_l6In s_s_l6In [(.t 34), (.c (.int .i64 1)), (.c (.int .i64 4))] [], .un 36 .not (.t 35), .mv 37 (.t 36), .g 37 false 38 (.nop), .g 37 false 39 (.sub 39 4 1 1), .g 37 false 40 (.call 40 n_s_l6In s_s_l6In [(.t 39), (.c (.int .i64 1)), (.c (.int .i64 5))] []), .g 37 false 41 (.un 41 .not (.t 40)), .pick 42 (.t 37) (.c (.bool true)) (.t 41), .mv 43 (.t 42), .g 43 false 44 (.nop), .g 43 false 45 (.sub 45 4 2 1), .g 43 false 46 (.call 46 n_s_l6In s_s_l6In [(.t 45), (.c (.int .i64 0)), (.c (.int .i64 9972))] []), .g 43 false 47 (.un 47 .not (.t 46)), .pick 48 (.t 43) (.c (.bool true)) (.t 47)]) (.cond (.t 48) (.seq (.ss [.mv 2 (.c (.bool false))]) (.ret [2])) (.skip))) (.seq (.ss [.mv 49 (.t 3), .bin 50 .gtr (.t 49) (.c (.int .i64 0)), .mv 51 (.t 50), .g 51 true 52 (.nop), .g 51 true 53 (.sub 53 1 2 1), .g 51 true 54 (.mv 54 (.t 3)), .g 51 true 55 (.bin 55 .sub (.t 54) (.c (.int .i64 1))), .g 51 true 56 (.elp 56 (.t 53) (.t 55) 3), .g 51 true 57 (.mv 57 (.t 56)), .g 51 true 58 (.eld 58 57 0 [.int .i64 0]), .g 51 true 59 (.nop), .g 51 true 60 (.sub 60 1 2 1), .g 51 true 61 (.mv 61 (.t 3)), .g 51 true 62 (.bin 62 .sub (.t 61) (.c (.int .i64 1))), .g 51 true 63 (.elp 63 (.t 60) (.t 62) 3), .g 51 true 64 (.mv 64 (.t 63)), .g 51 true 65 (.eld 65 64 1 [.int .i64 0]), .g 51 true 66 (.nop), .g 51 true 67 (.sub 67 4 0 1), .g 51 true 68 (.nop), .g 51 true 69 (.sub 69 4 1 1), .g 51 true 70 (.call 70 n_s_l3Less s_s_l3Less [(.t 58), (.t 65), (.t 67), (.t 69)] []), .g 51 true 71 (.un 71 .not (.t 70)), .pick 72 (.t 51) (.t 71) (.c (.bool false))]) (.cond (.t 72) (.seq (.ss [.mv 2 (.c (.bool false))]) (.ret [2])) (.skip)))))) (.ss [.mv 26 (.t 3), .bin 27 .add (.t 26) (.c (.int .i64 1)), .mv 3 (.t 27)])))))) (.seq (.ss [.mv 2 (.c (.bool true))]) (.ret [2]))))
def k_s_IndexOk : Cfg := { tt := tt, sigs := sigs, mv := false, bm := [], eqt := eqL, keep := [true, true, true, true, true, false, false, false, false, false, false, false, false, false, false, false, false, false, false, false, true, false, false, false, false, true, false, false, false, false, false, false, false, false, false, false, false, false, false, false, false, false, false, false, false, false, false, false, true, false, false, false, false, false, false, false, false, false, false, false, false, false, false, false, false, false, false, false, false, false, false, false, true], n := 73, pin := [], fail := [], fz := [] }
theorem c_s_IndexOk : cFun k_s_IndexOk Tryz.f44 s_s_IndexOk = some p_s_IndexOk := by kernel_rfl
theorem F_s_IndexOk {W : Wld} {ins outs : List (List D)} (h : pwp (FunOk PP W) p_s_IndexOk (RetIs outs) (envL ins)) : FunOk PP W n_s_IndexOk s_s_IndexOk ins outs := fun_ok (C := k_s_IndexOk) (cfg_ok rfl) (eq_ok rfl rfl) mixed Tryz.func44 (by kernel_rfl) (by kernel_rfl) c_s_IndexOk h

def p_s_l3Pkgs : PC := .seq (.ss [.mv 2 (.c (.bool false))]) (.seq (.seq (.ss [.mv 3 (.c (.int .i64 0))]) (.block 0 (.loop (.seq (.seq (.ss [.mv 4 (.t 3), .mv 5 (.t 0), .len 6 (.t 5), .bin 7 .lss (.t 4) (.t 6)]) (.cond (.t 7) (.skip) (.exit 0))) (.seq (.block 1 (.seq (.ss [.mv 10 (.t 0), .mv 11 (.t 3), .elp 12 (.t 10) (.t 11) 4, .eld 13 12 0 [.int .i64 0, .int .i64 0, .sl [], .sl []], .call 14 n_s_PkgOk s_s_PkgOk [(.t 13)] [], .un 15 .not (.t 14), .mv 16 (.t 15), .g 16 false 17 (.mv 17 (.t 3)), .g 16 false 18 (.bin 18 .gtr (.t 17) (.c (.int .i64 0))), .g 16 false 19 (.mv 19 (.t 18)), .g 19 true 20 (.mv 20 (.t 0)), .g 19 true 21 (.mv 21 (.t 3)), .g 19 true 22 (.bin 22 .sub (.t 21) (.c (.int .i64 1))), .g 19 true 23 (.elp 23 (.t 20) (.t 22) 4), .g 19 true 24 (.mv 24 (.t 23)), .g 19 true 25 (.eld 25 24 0 [.int .i64 0]), .g 19 true 26 (.mv 26 (.t 0)), .g 19 true 27 (.mv 27 (.t 3)), .g 19 true 28 (.bin 28 .sub (.t 27) (.c (.int .i64 1))), .g 19 true 29 (.elp 29 (.t 26) (.t 28) 4), .g 19 true 30 (.mv 30 (.t 29)), .g 19 true 31 (.eld 31 30 1 [.int .i64 0]), .g 19 true 32 (.mv 32 (.t 0)), .g 19 true 33 (.mv 33 (.t 3)), .g 19 true 34 (.elp 34 (.t 32) (.t 33) 4), .g 19 true 35 (.mv 35 (.t 34)), .g 19 true 36 (.eld 36 35 0 [.int .i64 0]), .g 19 true 37 (.mv 37 (.t 0)), .g 19 true 38 (.mv 38 (.t 3)), .g 19 true 39 (.elp 39 (.t 37) (.t 38) 4), .g 19 true 40 (.mv 40 (.t 39)), .g 19 true 41 (.eld 41 40 1 [.int .i64 0]), .g 19 true 42 (.call 42 n_s_l3Less s_s_l3Less [(.t 25), (.t 31), (.t 36), (.t 41)] []), .g 19 true 43 (.un 43 .not (.t 42)), .g 16 false 44 (.pick 44 (.t 19) (.t 43) (.c (.bool false))), .pick 45 (.t 16) (.c (.bool true)) (.t 44)]) (.cond (.t 45) (.seq (.ss [.mv 2 (.c (.bool false))]) (.ret [2])) (.skip)))) (.ss [.mv 8 (.t 3), .bin 9 .add (.t 8) (.c (.int .i64 1)), .mv 3 (.t 9)])))))) (.seq (.ss [.mv 2 (.c (.bool true))]) (.ret [2])))
def k_s_l3Pkgs : Cfg := { tt := tt, sigs := sigs, mv := false, bm := [], eqt := eqL, keep := [true, false, true, true, false, false, false, true, false, false, false, false, false, false, false, false, false, false, false, false, false, false, false, false, false, false, false, false, false, false, false, false, false, false, false, false, false, false, false, false, false, false, false, false, false, true], n := 46, pin := [], fail := [], fz := [] }
theorem c_s_l3Pkgs : cFun k_s_l3Pkgs Tryz.f45 s_s_l3Pkgs = some p_s_l3Pkgs := by kernel_rfl
theorem F_s_l3Pkgs {W : Wld} {ins outs : List (List D)} (h : pwp (FunOk PP W) p_s_l3Pkgs (RetIs outs) (envL ins)) : FunOk PP W n_s_l3Pkgs s_s_l3Pkgs ins outs := fun_ok (C := k_s_l3Pkgs) (cfg_ok rfl) (eq_ok rfl rfl) mixed Tryz.func45 (by kernel_rfl) (by kernel_rfl) c_s_l3Pkgs h

def p_s_PkgText : PC := .seq (.ss [.mv 1 (.t 0), .mv 2 (.c (.str ⟨#[]⟩))]) (.seq (.seq (.ss [.sub 6 1 0 4, .call 7 n_s_PkgOk s_s_PkgOk [(.t 6)] [], .un 8 .not (.t 7)]) (.cond (.t 8) (.seq (.ss [.mv 2 (.c (.str ⟨#[]⟩))]) (.ret [2])) (.skip))) (.seq (.ss [.nop, .sub 10 1 0 1, .nop, .sub 12 1 1 1, .call 13 n_s_l1Name s_s_l1Name [(.t 10), (.t 12)] [], .mv 3 (.t 13)]) (.seq (.seq (.ss [.mv 4 (.c (.int .i64 0))]) (.block 0 (.loop (.seq (.seq (.ss [.mv 14 (.t 4), .nop, .sub 16 1 2 1, .len 17 (.t 16), .bin 18 .lss (.t 14) (.t 17)]) (.cond (.t 18) (.skip) (.exit 0))) (.seq (.block 1 (.ss [.mv 21 (.t 3), .bin 22 .add (.t 21) (.c (.str ⟨#[32]⟩)), .nop, .sub 24 1 2 1, .mv 25 (.t 4), .elp 26 (.t 24) (.t 25) 2, .mv 27 (.t 26), .eld 28 27 0 [.int .i64 0], .call 29 n_s_l6Dec s_s_l6Dec [(.t 28)] [], .bin 30 .add (.t 22) (.t 29), .bin 31 .add (.t 30) (.c (.str ⟨#[58]⟩)), .nop, .sub 33 1 2 1, .mv 34 (.t 4), .elp 35 (.t 33) (.t 34) 2, .mv 36 (.t 35), .eld 37 36 1 [.int .i64 0], .call 38 n_s_l6Dec s_s_l6Dec [(.t 37)] [], .bin 39 .add (.t 31) (.t 38), .mv 3 (.t 39)])) (.ss [.mv 19 (.t 4), .bin 20 .add (.t 19) (.c (.int .i64 1)), .mv 4 (.t 20)])))))) (.seq (.seq (.ss [.mv 5 (.c (.int .i64 0))]) (.block 2 (.loop (.seq (.seq (.ss [.mv 40 (.t 5), .nop, .sub 42 1 3 1, .len 43 (.t 42), .bin 44 .lss (.t 40) (.t 43)]) (.cond (.t 44) (.skip) (.exit 2))) (.seq (.block 3 (.ss [.mv 47 (.t 3), .bin 48 .add (.t 47) (.c (.str ⟨#[32]⟩)), .nop, .sub 50 1 3 1, .mv 51 (.t 5), .elp 52 (.t 50) (.t 51) 2, .mv 53 (.t 52), .eld 54 53 0 [.int .i64 0], .nop, .sub 56 1 3 1, .mv 57 (.t 5), .elp 58 (.t 56) (.t 57) 2, .mv 59 (.t 58), .eld 60 59 1 [.int .i64 0], .call 61 n_s_l1Name s_s_l1Name [(.t 54), (.t 60)] [], .bin 62 .add (.t 48) (.t 61), .mv 3 (.t 62)])) (.ss [.mv 45 (.t 5), .bin 46 .add (.t 45) (.c (.int .i64 1)), .mv 5 (.t 46)])))))) (.seq (.ss [.mv 63 (.t 3), .mv 2 (.t 63)]) (.ret [2]))))))
def k_s_PkgText : Cfg := { tt := tt, sigs := sigs, mv := false, bm := [], eqt := eqL, keep := [true, true, true, true, true, true, false, false, true, false, false, false, false, false, false, false, false, false, true, false, false, false, false, false, false, false, false, false, false, false, false, false, false, false, false, false, false, false, false, false, false, false, false, false, true, false, false, false, false, false, false, false, false, false, false, false, false, false, false, false, false, false, false, false], n := 64, pin := [], fail := [], fz := [] }
theorem c_s_PkgText : cFun k_s_PkgText Tryz.f47 s_s_PkgText = some p_s_PkgText := by kernel_rfl
theorem F_s_PkgText {W : Wld} {ins outs : List (List D)} (h : pwp (FunOk PP W) p_s_PkgText (RetIs outs) (envL ins)) : FunOk PP W n_s_PkgText s_s_PkgText ins outs := fun_ok (C := k_s_PkgText) (cfg_ok rfl) (eq_ok rfl rfl) mixed Tryz.func47 (by kernel_rfl) (by kernel_rfl) c_s_PkgText h

def p_i_RootOk : PC := .seq (.ss [.mv 1 (.t 0), .mv 2 (.c (.bool false))]) (.seq (.ss [.nop, .sub 4 1 0 1, .call 5 n_i_in s_i_in [(.t 4), (.c (.int .i64 1)), (.c (.int .i64 9))] [], .mv 6 (.t 5), .g 6 true 7 (.nop), .g 6 true 8 (.sub 8 1 1 1), .g 6 true 9 (.call 9 n_i_KeysOk s_i_KeysOk [(.t 8)] []), .pick 10 (.t 6) (.t 9) (.c (.bool false)), .mv 11 (.t 10), .g 11 true 12 (.nop), .g 11 true 13 (.sub 13 1 2 1), .g 11 true 14 (.nop), .g 11 true 15 (.sub 15 1 1 1), .g 11 true 16 (.len 16 (.t 15)), .g 11 true 17 (.call 17 n_i_in s_i_in [(.t 13), (.c (.int .i64 1)), (.t 16)] []), .pick 18 (.t 11) (.t 17) (.c (.bool false)), .mv 2 (.t 18)]) (.ret [2]))
def k_i_RootOk : Cfg := { tt := tt, sigs := sigs, mv := false, bm := [], eqt := eqL, keep := [true, true, true, false, false, false, false, false, false, false, false, false, false, false, false, false, false, false, false], n := 19, pin := [], fail := [], fz := [] }
theorem c_i_RootOk : cFun k_i_RootOk Tryz.f53 s_i_RootOk = some p_i_RootOk := by kernel_rfl
theorem F_i_RootOk {W : Wld} {ins outs : List (List D)} (h : pwp (FunOk PP W) p_i_RootOk (RetIs outs) (envL ins)) : FunOk PP W n_i_RootOk s_i_RootOk ins outs := fun_ok (C := k_i_RootOk) (cfg_ok rfl) (eq_ok rfl rfl) mixed Tryz.func53 (by kernel_rfl) (by kernel_rfl) c_i_RootOk h

def p_i_IndexOk : PC := .seq (.ss [.mv 1 (.t 0), .mv 2 (.c (.bool false))]) (.seq (.seq (.ss [.nop, .sub 6 1 2 1, .len 7 (.t 6), .mv 8 (.c (.int .i64 0))]) (.block 0 (.loop (.seq (.ss [.bin 9 .lss (.t 8) (.t 7)]) (.seq (.cond (.t 9) (.skip) (.exit 0)) (.seq (.block 1 (.seq (.ss [.mv 10 (.t 8), .elp 11 (.t 6) (.t 8) 3, .eld 12 11 0 [.int .i64 0, .int .i64 0, .int .i64 0], .bld 4 [.int .i64 0, .int .i64 0, .int .i64 0] [], .mv 3 (.t 10), .st 4 0 (.t 12)]) (.seq (.seq (.ss [.nop, .sub 14 4 0 1, .call 15 n_i_isName s_i_isName [(.t 14)] [], .un 16 .not (.t 15), .mv 17 (.t 16), .g 17 false 18 (.nop), .g 17 false 19 (.sub 19 4 1 1), .g 17 false 20 (.call 20 n_i_isVer s_i_isVer [(.t 19)] []), .g 17 false 21 (.un 21 .not (.t 20)), .pick 22 (.t 17) (.c (.bool true)) (.t 21), .mv 23 (.t 22), .g 23 false 24 (.nop), .g 23 false 25 (.sub 25 4 2 1), .g 23 false 26 (.call 26 n_i_in s_i_in [(.t 25), (.c (.int .i64 0)), (.c (.int .i64 9972))] []), .g 23 false 27 (.un 27 .not (.t 26)), .pick 28 (.t 23) (.c (.bool true)) (.t 27)]) (.cond (.t 28) (.seq (.ss [.mv 2 (.c (.bool false))]) (.ret [2])) (.skip))) (.seq (.ss [.mv 29 (.t 3), .bin 30 .gtr (.t 29) (.c (.int .i64 0)), .mv 31 (.t 30), .g 31 true 32 (.nop), .g 31 true 33 (.sub 33 4 0 1), .g 31 true 34 (.nop), .g 31 true 35 (.sub 35 1 2 1), .g 31 true 36 (.mv 36 (.t 3)), .g 31 true 37 (.bin 37 .sub (.t 36) (.c (.int .i64 1))), .g 31 true 38 (.elp 38 (.t 35) (.t 37) 3), .g 31 true 39 (.mv 39 (.t 38)), .g 31 true 40 (.eld 40 39 0 [.int .i64 0]), .g 31 true 41 (.bin 41 .lss (.t 33) (.t 40)), .g 31 true 42 (.mv 42 (.t 41)), .g 42 false 43 (.nop), .g 42 false 44 (.sub 44 4 0 1), .g 42 false 45 (.nop), .g 42 false 46 (.sub 46 1 2 1), .g 42 false 47 (.mv 47 (.t 3)), .g 42 false 48 (.bin 48 .sub (.t 47) (.c (.int .i64 1))), .g 42 false 49 (.elp 49 (.t 46) (.t 48) 3), .g 42 false 50 (.mv 50 (.t 49)), .g 42 false 51 (.eld 51 50 0 [.int .i64 0]), .g 42 false 52 (.bin 52 .eql (.t 44) (.t 51)), .g 42 false 53 (.mv 53 (.t 52)), .g 53 true 54 (.nop), .g 53 true 55 (.sub 55 4 1 1), .g 53 true 56 (.nop), .g 53 true 57 (.sub 57 1 2 1), .g 53 true 58 (.mv 58 (.t 3)), .g 53 true 59 (.bin 59 .sub (.t 58) (.c (.int .i64 1))), .g 53 true 60 (.elp 60 (.t 57) (.t 59) 3), .g 53 true 61 (.mv 61 (.t 60)), .g 53 true 62 (.eld 62 61 1 [.int .i64 0]), .g 53 true 63 (.bin 63 .leq (.t 55) (.t 62)), .g 42 false 64 (.pick 64 (.t 53) (.t 63) (.c (.bool false))), .g 31 true 65 (.pick 65 (.t 42) (.c (.bool true)) (.t 64)), .pick 66 (.t 31) (.t 65) (.c (.bool false))]) (.cond (.t 66) (.seq (.ss [.mv 2 (.c (.bool false))]) (.ret [2])) (.skip)))))) (.ss [.bin 67 .add (.t 8) (.c (.int .i64 1)), .mv 8 (.t 67)]))))))) (.seq (.ss [.nop, .sub 69 1 0 1, .call 70 n_i_in s_i_in [(.t 69), (.c (.int .i64 1)), (.c (.int .i64 30))] [], .mv 71 (.t 70), .g 71 true 72 (.nop), .g 71 true 73 (.sub 73 1 1 1), .g 71 true 74 (.call 74 n_i_in s_i_in [(.t 73), (.c (.int .i64 0)), (.c (.int .i64 60))] []), .pick 75 (.t 71) (.t 74) (.c (.bool false)), .mv 76 (.t 75), .g 76 true 77 (.nop), .g 76 true 78 (.sub 78 1 2 1), .g 76 true 79 (.len 79 (.t 78)), .g 76 true 80 (.bin 80 .leq (.t 79) (.c (.int .i64 8))), .pick 81 (.t 76) (.t 80) (.c (.bool false)), .mv 2 (.t 81)]) (.ret [2])))
def k_i_IndexOk : Cfg := { tt := tt, sigs := sigs, mv := false, bm := [], eqt := eqL, keep := [true, true, true, true, true, false, true, true, true, true, false, false, false, false, false, false, false, false, false, false, false, false, false, false, false, false, false, false, true, false, false, false, false, false, false, false, false, false, false, false, false, false, false, false, false, false, false, false, false, false, false, false, false, false, false, false, false, false, false, false, false, false, false, false, false, false, true, false, false, false, false, false, false, false, false, false, false, false, false, false, false, false], n := 82, pin := [], fail := [], fz := [] }
theorem c_i_IndexOk : cFun k_i_IndexOk Tryz.f54 s_i_IndexOk = some p_i_IndexOk := by kernel_rfl
theorem F_i_IndexOk {W : Wld} {ins outs : List (List D)} (h : pwp (FunOk PP W) p_i_IndexOk (RetIs outs) (envL ins)) : FunOk PP W n_i_IndexOk s_i_IndexOk ins outs := fun_ok (C := k_i_IndexOk) (cfg_ok rfl) (eq_ok rfl rfl) mixed Tryz.func54 (by kernel_rfl) (by kernel_rfl) c_i_IndexOk h

def p_i_Index_same : PC := .seq (.ss [.mv 2 (.t 0), .mv 3 (.t 1), .mv 4 (.c (.bool false))]) (.seq (.ss [.nop, .sub 6 2 0 1, .nop, .sub 8 3 0 1, .bin 9 .eql (.t 6) (.t 8), .mv 10 (.t 9), .g 10 true 11 (.nop), .g 10 true 12 (.sub 12 2 1 1), .g 10 true 13 (.nop), .g 10 true 14 (.sub 14 3 1 1), .g 10 true 15 (.bin 15 .eql (.t 12) (.t 14)), .pick 16 (.t 10) (.t 15) (.c (.bool false)), .mv 17 (.t 16), .g 17 true 18 (.nop), .g 17 true 19 (.sub 19 2 2 1), .g 17 true 20 (.nop), .g 17 true 21 (.sub 21 3 2 1), .g 17 true 22 (.call 22 n_sl_Equal_Meta s_sl_Equal_Meta [(.t 19), (.t 21)] []), .pick 23 (.t 17) (.t 22) (.c (.bool false)), .mv 4 (.t 23)]) (.ret [4]))
def k_i_Index_same : Cfg := { tt := tt, sigs := sigs, mv := false, bm := [], eqt := eqL, keep := [true, true, true, true, true, false, false, false, false, false, false, false, false, false, false, false, false, false, false, false, false, false, false, false], n := 24, pin := [], fail := [], fz := [] }
theorem c_i_Index_same : cFun k_i_Index_same Tryz.f55 s_i_Index_same = some p_i_Index_same := by kernel_rfl
theorem F_i_Index_same {W : Wld} {ins outs : List (List D)} (h : pwp (FunOk PP W) p_i_Index_same (RetIs outs) (envL ins)) : FunOk PP W n_i_Index_same s_i_Index_same ins outs := fun_ok (C := k_i_Index_same) (cfg_ok rfl) (eq_ok rfl rfl) mixed Tryz.func55 (by kernel_rfl) (by kernel_rfl) c_i_Index_same h

def p_i_PkgOk : PC := .seq (.ss [.mv 1 (.t 0), .mv 2 (.c (.bool false))]) (.seq (.seq (.ss [.nop, .sub 8 1 0 1, .call 9 n_i_isName s_i_isName [(.t 8)] [], .un 10 .not (.t 9), .mv 11 (.t 10), .g 11 false 12 (.nop), .g 11 false 13 (.sub 13 1 1 1), .g 11 false 14 (.call 14 n_i_isVer s_i_isVer [(.t 13)] []), .g 11 false 15 (.un 15 .not (.t 14)), .pick 16 (.t 11) (.c (.bool true)) (.t 15), .mv 17 (.t 16), .g 17 false 18 (.nop), .g 17 false 19 (.sub 19 1 2 1), .g 17 false 20 (.len 20 (.t 19)), .g 17 false 21 (.bin 21 .gtr (.t 20) (.c (.int .i64 2))), .pick 22 (.t 17) (.c (.bool true)) (.t 21), .mv 23 (.t 22), .g 23 false 24 (.nop), .g 23 false 25 (.sub 25 1 3 1), .g 23 false 26 (.len 26 (.t 25)), .g 23 false 27 (.bin 27 .gtr (.t 26) (.c (.int .i64 2))), .pick 28 (.t 23) (.c (.bool true)) (.t 27)]) (.cond (.t 28) (.seq (.ss [.mv 2 (.c (.bool false))]) (.ret [2])) (.skip))) (.seq (.seq (.ss [.nop, .sub 30 1 2 1, .len 31 (.t 30), .mv 32 (.c (.int .i64 0))]) (.block 0 (.loop (.seq (.ss [.bin 33 .lss (.t 32) (.t 31)]) (.seq (.cond (.t 33) (.skip) (.exit 0)) (.seq (.block 1 (.seq (.ss [.mv 34 (.t 32), .elp 35 (.t 30) (.t 32) 2, .eld 36 35 0 [.int .i64 0, .int .i64 0], .bld 4 [.int .i64 0, .int .i64 0] [], .mv 3 (.t 34), .st 4 0 (.t 36)]) (.seq (.ss [.nop, .sub 38 4 0 1, .call 39 n_i_in s_i_in [(.t 38), (.c (.int .i64 0)), (.c (.int .i64 5))] [], .un 40 .not (.t 39), .mv 41 (.t 40), .g 41 false 42 (.nop), .g 41 false 43 (.sub 43 4 1 1), .g 41 false 44 (.call 44 n_i_in s_i_in [(.t 43), (.c (.int .i64 0)), (.c (.int .i64 9))] []), .g 41 false 45 (.un 45 .not (.t 44)), .pick 46 (.t 41) (.c (.bool true)) (.t 45), .mv 47 (.t 46), .g 47 false 48 (.mv 48 (.t 3)), .g 47 false 49 (.bin 49 .gtr (.t 48) (.c (.int .i64 0))), .g 47 false 50 (.mv 50 (.t 49)), .g 50 true 51 (.nop), .g 50 true 52 (.sub 52 4 0 1), .g 50 true 53 (.nop), .g 50 true 54 (.sub 54 1 2 1), .g 50 true 55 (.mv 55 (.t 3)), .g 50 true 56 (.bin 56 .sub (.t 55) (.c (.int .i64 1))), .g 50 true 57 (.elp 57 (.t 54) (.t 56) 2), .g 50 true 58 (.mv 58 (.t 57)), .g 50 true 59 (.eld 59 58 0 [.int .i64 0]), .g 50 true 60 (.bin 60 .leq (.t 52) (.t 59)), .g 47 false 61 (.pick 61 (.t 50) (.t 60) (.c (.bool false))), .pick 62 (.t 47) (.c (.bool true)) (.t 61)]) (.cond (.t 62) (.seq (.ss [.mv 2 (.c (.bool false))]) (.ret [2])) (.skip))))) (.ss [.bin 63 .add (.t 32) (.c (.int .i64 1)), .mv 32 (.t 63)]))))))) (.seq (.seq (.ss [.nop, .sub 65 1 3 1, .len 66 (.t 65), .mv 67 (.c (.int .i64 0))]) (.block 2 (.loop (.seq (.ss [.bin 68 .lss (.t 67) (.t 66)]) (.seq (.cond (.t 68) (.skip) (.exit 2)) (.seq (.block 3 (.seq (.ss [.mv 69 (.t 67), .elp 70 (.t 65) (.t 67) 2, .eld 71 70 0 [.int .i64 0, .int .i64 0], .bld 6 [.int .i64 0, .int .i64 0] [], .mv 5 (.t 69), .st 6 0 (.t 71)]) (.seq (.ss [.nop, .sub 73 6 0 1, .call 74 n_i_isName s_i_isName [(.t 73)] [], .un 75 .not (.t 74), .mv 76 (.t 75), .g 76 false 77 (.nop), .g 76 false 78 (.sub 78 6 0 1), .g 76 false 79 (.nop), .g 76 false 80 (.sub 80 1 0 1), .g 76 false 81 (.bin 81 .eql (.t 78) (.t 80)), .pick 82 (.t 76) (.c (.bool true)) (.t 81), .mv 83 (.t 82), .g 83 false 84 (.nop), .g 83 false 85 (.sub 85 6 1 1), .g 83 false 86 (.call 86 n_i_isVer s_i_isVer [(.t 85)] []), .g 83 false 87 (.un 87 .not (.t 86)), .pick 88 (.t 83) (.c (.bool true)) (.t 87), .mv 89 (.t 88), .g 89 false 90 (.mv 90 (.t 5)), .g 89 false 91 (.bin 91 .gtr (.t 90) (.c (.int .i64 0))), .g 89 false 92 (.mv 92 (.t 91)), .g 92 true 93 (.nop), .g 92 true 94 (.sub 94 6 0 1), .g 92 true 95 (.nop), .g 92 true 96 (.sub 96 1 3 1), .g 92 true 97 (.mv 97 (.t 5)), .g 92 true 98 (.bin 98 .sub (.t 97) (.c (.int .i64 1))), .g 92 true 99 (.elp 99 (.t 96) (.t 98) 2), .g 92 true 100 (.mv 100 (.t 99)), .g 92 true 101 (.eld 101 100 0 [.int .i64 0]), .g 92 true 102 (.bin 102 .leq (.t 94) (.t 101)), .g 89 false 103 (.pick 103 (.t 92) (.t 102) (.c (.bool false))), .pick 104 (.t 89) (.c (.bool true)) (.t 103)]) (.cond (.t 104) (.seq (.ss [.mv 2 (.c (.bool false))]) (.ret [2])) (.skip))))) (.ss [.bin 105 .add (.t 67) (.c (.int .i64 1)), .mv 67 (.t 105)]))))))) (.seq (.ss [.mv 2 (.c (.bool true))]) (.ret [2])))))
def k_i_PkgOk : Cfg := { tt := tt, sigs := sigs, mv := false, bm := [], eqt := eqL, keep := [true, true, true, true, true, true, true, false, false, false, false, false, false, false, false, false, false, false, false, false, false, false, false, false, false, false, false, false, true, false, true, true, true, true, false, false, false, false, false, false, false, false, false, false, false, false, false, false, false, false, false, false, false, false, false, false, false, false, false, false, false, false, true, false, false, true, true, true, true, false, false, false, false, false, false, false, false, false, false, false, false, false, false, false, false, false, false, false, false, false, false, false, false, false, false, false, false, false, false, false, false, false, false, false, true, false], n := 106, pin := [], fail := [], fz := [] }
theorem c_i_PkgOk : cFun k_i_PkgOk Tryz.f56 s_i_PkgOk = some p_i_PkgOk := by kernel_rfl
theorem F_i_PkgOk {W : Wld} {ins outs : List (List D)} (h : pwp (FunOk PP W) p_i_PkgOk (RetIs outs) (envL ins)) : FunOk PP W n_i_PkgOk s_i_PkgOk ins outs := fun_ok (C := k_i_PkgOk) (cfg_ok rfl) (eq_ok rfl rfl) mixed Tryz.func56 (by kernel_rfl) (by kernel_rfl) c_i_PkgOk h

def p_i_Pkg_compare : PC := .seq (.ss [.mv 2 (.t 0), .mv 3 (.t 1), .mv 4 (.c (.int .i64 0))]) (.seq (.ss [.nop, .sub 6 2 0 1, .nop, .sub 8 3 0 1, .call 9 n_cmp_Compare_int s_cmp_Compare_int [(.t 6), (.t 8)] [], .nop, .sub 11 2 1 1, .nop, .sub 13 3 1 1, .call 14 n_cmp_Compare_int s_cmp_Compare_int [(.t 11), (.t 13)] [], .lit 15 2 [.int .i64 0] [(0, (.t 9)), (1, (.t 14))], .call 16 n_cmp_Or_int s_cmp_Or_int [(.t 15)] [], .mv 4 (.t 16)]) (.ret [4]))
def k_i_Pkg_compare : Cfg := { tt := tt, sigs := sigs, mv := false, bm := [], eqt := eqL, keep := [true, true, true, true, true, false, false, false, false, false, false, false, false, false, false, false, false], n := 17, pin := [], fail := [], fz := [] }
theorem c_i_Pkg_compare : cFun k_i_Pkg_compare Tryz.f57 s_i_Pkg_compare = some p_i_Pkg_compare := by kernel_rfl
theorem F_i_Pkg_compare {W : Wld} {ins outs : List (List D)} (h : pwp (FunOk PP W) p_i_Pkg_compare (RetIs outs) (envL ins)) : FunOk PP W n_i_Pkg_compare s_i_Pkg_compare ins outs := fun_ok (C := k_i_Pkg_compare) (cfg_ok rfl) (eq_ok rfl rfl) mixed Tryz.func57 (by kernel_rfl) (by kernel_rfl) c_i_Pkg_compare h

def p_sl_Index_Meta : PC := .seq (.ss [.mv 3 (.t 1), .mv 4 (.c (.int .i64 0))]) (.seq (.seq (.ss [.mv 6 (.t 0), .len 7 (.t 6), .mv 8 (.c (.int .i64 0))]) (.block 0 (.loop (.seq (.ss [.bin 9 .lss (.t 8) (.t 7)]) (.seq (.cond (.t 9) (.skip) (.exit 0)) (.seq (.block 1 (.seq (.ss [.mv 10 (.t 8), .mv 5 (.t 10)]) (.seq (.ss [.sub 11 3 0 3, .mv 12 (.t 0), .mv 13 (.t 5), .elp 14 (.t 12) (.t 13) 3, .eld 15 14 0 [.int .i64 0, .int .i64 0, .int .i64 0], .eqs 16 false [.int .i64 0, .int .i64 0, .int .i64 0] (.t 11) (.t 15)]) (.cond (.t 16) (.seq (.ss [.mv 17 (.t 5), .mv 4 (.t 17)]) (.ret [4])) (.skip))))) (.ss [.bin 18 .add (.t 8) (.c (.int .i64 1)), .mv 8 (.t 18)]))))))) (.seq (.ss [.mv 4 (.c (.int .i64 (-1)))]) (.ret [4])))
def k_sl_Index_Meta : Cfg := { tt := tt, sigs := sigs, mv := false, bm := [], eqt := eqL, keep := [true, true, false, true, true, true, false, true, true, true, false, false, false, false, false, false, true, false, false], n := 19, pin := [], fail := [], fz := [] }
theorem c_sl_Index_Meta : cFun k_sl_Index_Meta Tryz.f58 s_sl_Index_Meta = some p_sl_Index_Meta := by kernel_rfl
theorem F_sl_Index_Meta {W : Wld} {ins outs : List (List D)} (h : pwp (FunOk PP W) p_sl_Index_Meta (RetIs outs) (envL ins)) : FunOk PP W n_sl_Index_Meta s_sl_Index_Meta ins outs := fun_ok (C := k_sl_Index_Meta) (cfg_ok rfl) (eq_ok rfl rfl) mixed Tryz.func58 (by kernel_rfl) (by kernel_rfl) c_sl_Index_Meta h

def p_i_SumOf : PC := .seq (.ss [.mv 2 (.c (.int .i64 0))]) (.seq (.ss [.mv 3 (.c (.int .i64 7))]) (.seq (.seq (.ss [.mv 6 (.t 0), .s2b 7 (.t 6), .len 8 (.t 7), .mv 9 (.c (.int .i64 0))]) (.block 0 (.loop (.seq (.ss [.bin 10 .lss (.t 9) (.t 8)]) (.seq (.cond (.t 10) (.skip) (.exit 0)) (.seq (.block 1 (.seq (.ss [.elp 11 (.t 7) (.t 9) 1, .eld 12 11 0 [.int .u8 0], .mv 5 (.t 12)]) (.ss [.mv 13 (.t 3), .bin 14 .mul (.c (.int .i64 31)) (.t 13), .mv 15 (.t 5), .cvt 16 .i64 (.t 15), .bin 17 .add (.t 14) (.t 16), .bin 18 .add (.t 17) (.c (.int .i64 1)), .bin 19 .rem (.t 18) (.c (.int .i64 9973)), .mv 3 (.t 19)]))) (.ss [.bin 20 .add (.t 9) (.c (.int .i64 1)), .mv 9 (.t 20)]))))))) (.seq (.ss [.mv 21 (.t 3), .mv 2 (.t 21)]) (.ret [2]))))
def k_i_SumOf : Cfg := { tt := tt, sigs := sigs, mv := false, bm := [], eqt := eqL, keep := [true, false, true, true, false, true, false, true, true, true, true, false, false, false, false, false, false, false, false, false, false, false], n := 22, pin := [], fail := [], fz := [] }
theorem c_i_SumOf : cFun k_i_SumOf Tryz.f59 s_i_SumOf = some p_i_SumOf := by kernel_rfl
theorem F_i_SumOf {W : Wld} {ins outs : List (List D)} (h : pwp (FunOk PP W) p_i_SumOf (RetIs outs) (envL ins)) : FunOk PP W n_i_SumOf s_i_SumOf ins outs := fun_ok (C := k_i_SumOf) (cfg_ok rfl) (eq_ok rfl rfl) mixed Tryz.func59 (by kernel_rfl) (by kernel_rfl) c_i_SumOf h

end V
end Go.Proofs.YtnaldhcdcpdbnaaGreatDoor

/-
What the seat's functions come to, as statements; that the checker says so. Written by a program.
-/
namespace Go.Proofs.YtnaldhcdcpdbnaaGreatDoor
namespace V

def p_l_eqFileS : PC := .seq (.ss [.mv 4 (.c (.bool false))]) (.seq (.seq (.ss [.mv 6 (.t 0), .len 7 (.t 6), .mv 8 (.t 1), .len 9 (.t 8), .bin 10 .neq (.t 7) (.t 9)]) (.cond (.t 10) (.seq (.ss [.mv 4 (.c (.bool false))]) (.ret [4])) (.skip))) (.seq (.seq (.ss [.mv 5 (.c (.int .i64 0))]) (.block 0 (.loop (.seq (.seq (.ss [.mv 11 (.t 5), .mv 12 (.t 0), .len 13 (.t 12), .bin 14 .lss (.t 11) (.t 13)]) (.cond (.t 14) (.skip) (.exit 0))) (.seq (.block 1 (.seq (.ss [.mv 17 (.t 0), .mv 18 (.t 5), .elp 19 (.t 17) (.t 18) 2, .eld 20 19 0 [.int .i64 0, .int .i64 0], .mv 21 (.t 1), .mv 22 (.t 5), .elp 23 (.t 21) (.t 22) 2, .eld 24 23 0 [.int .i64 0, .int .i64 0], .call 25 n_l_eqFile s_l_eqFile [(.t 20), (.t 24)] [], .un 26 .not (.t 25)]) (.cond (.t 26) (.seq (.ss [.mv 4 (.c (.bool false))]) (.ret [4])) (.skip)))) (.ss [.mv 15 (.t 5), .bin 16 .add (.t 15) (.c (.int .i64 1)), .mv 5 (.t 16)])))))) (.seq (.ss [.mv 4 (.c (.bool true))]) (.ret [4]))))
def k_l_eqFileS : Cfg := { tt := tt, sigs := sigs, mv := false, bm := [], eqt := eqL, keep := [true, true, false, false, true, true, false, false, false, false, true, false, false, false, true, false, false, false, false, false, false, false, false, false, false, false, true], n := 27, pin := [], fail := [], fz := [] }
theorem c_l_eqFileS : cFun k_l_eqFileS Tryz.f63 s_l_eqFileS = some p_l_eqFileS := by kernel_rfl
theorem F_l_eqFileS {W : Wld} {ins outs : List (List D)} (h : pwp (FunOk PP W) p_l_eqFileS (RetIs outs) (envL ins)) : FunOk PP W n_l_eqFileS s_l_eqFileS ins outs := fun_ok (C := k_l_eqFileS) (cfg_ok rfl) (eq_ok rfl rfl) mixed Tryz.func63 (by kernel_rfl) (by kernel_rfl) c_l_eqFileS h

def p_l_eqDepS : PC := .seq (.ss [.mv 4 (.c (.bool false))]) (.seq (.seq (.ss [.mv 6 (.t 0), .len 7 (.t 6), .mv 8 (.t 1), .len 9 (.t 8), .bin 10 .neq (.t 7) (.t 9)]) (.cond (.t 10) (.seq (.ss [.mv 4 (.c (.bool false))]) (.ret [4])) (.skip))) (.seq (.seq (.ss [.mv 5 (.c (.int .i64 0))]) (.block 0 (.loop (.seq (.seq (.ss [.mv 11 (.t 5), .mv 12 (.t 0), .len 13 (.t 12), .bin 14 .lss (.t 11) (.t 13)]) (.cond (.t 14) (.skip) (.exit 0))) (.seq (.block 1 (.seq (.ss [.mv 17 (.t 0), .mv 18 (.t 5), .elp 19 (.t 17) (.t 18) 2, .eld 20 19 0 [.int .i64 0, .int .i64 0], .mv 21 (.t 1), .mv 22 (.t 5), .elp 23 (.t 21) (.t 22) 2, .eld 24 23 0 [.int .i64 0, .int .i64 0], .call 25 n_l_eqDep s_l_eqDep [(.t 20), (.t 24)] [], .un 26 .not (.t 25)]) (.cond (.t 26) (.seq (.ss [.mv 4 (.c (.bool false))]) (.ret [4])) (.skip)))) (.ss [.mv 15 (.t 5), .bin 16 .add (.t 15) (.c (.int .i64 1)), .mv 5 (.t 16)])))))) (.seq (.ss [.mv 4 (.c (.bool true))]) (.ret [4]))))
def k_l_eqDepS : Cfg := { tt := tt, sigs := sigs, mv := false, bm := [], eqt := eqL, keep := [true, true, false, false, true, true, false, false, false, false, true, false, false, false, true, false, false, false, false, false, false, false, false, false, false, false, true], n := 27, pin := [], fail := [], fz := [] }
theorem c_l_eqDepS : cFun k_l_eqDepS Tryz.f64 s_l_eqDepS = some p_l_eqDepS := by kernel_rfl
theorem F_l_eqDepS {W : Wld} {ins outs : List (List D)} (h : pwp (FunOk PP W) p_l_eqDepS (RetIs outs) (envL ins)) : FunOk PP W n_l_eqDepS s_l_eqDepS ins outs := fun_ok (C := k_l_eqDepS) (cfg_ok rfl) (eq_ok rfl rfl) mixed Tryz.func64 (by kernel_rfl) (by kernel_rfl) c_l_eqDepS h

def p_l_eqIntS : PC := .seq (.ss [.mv 4 (.c (.bool false))]) (.seq (.seq (.ss [.mv 6 (.t 0), .len 7 (.t 6), .mv 8 (.t 1), .len 9 (.t 8), .bin 10 .neq (.t 7) (.t 9)]) (.cond (.t 10) (.seq (.ss [.mv 4 (.c (.bool false))]) (.ret [4])) (.skip))) (.seq (.seq (.ss [.mv 5 (.c (.int .i64 0))]) (.block 0 (.loop (.seq (.seq (.ss [.mv 11 (.t 5), .mv 12 (.t 0), .len 13 (.t 12), .bin 14 .lss (.t 11) (.t 13)]) (.cond (.t 14) (.skip) (.exit 0))) (.seq (.block 1 (.seq (.ss [.mv 17 (.t 0), .mv 18 (.t 5), .elp 19 (.t 17) (.t 18) 1, .eld 20 19 0 [.int .i64 0], .mv 21 (.t 1), .mv 22 (.t 5), .elp 23 (.t 21) (.t 22) 1, .eld 24 23 0 [.int .i64 0], .bin 25 .neq (.t 20) (.t 24)]) (.cond (.t 25) (.seq (.ss [.mv 4 (.c (.bool false))]) (.ret [4])) (.skip)))) (.ss [.mv 15 (.t 5), .bin 16 .add (.t 15) (.c (.int .i64 1)), .mv 5 (.t 16)])))))) (.seq (.ss [.mv 4 (.c (.bool true))]) (.ret [4]))))
def k_l_eqIntS : Cfg := { tt := tt, sigs := sigs, mv := false, bm := [], eqt := eqL, keep := [true, true, false, false, true, true, false, false, false, false, true, false, false, false, true, false, false, false, false, false, false, false, false, false, false, true], n := 26, pin := [], fail := [], fz := [] }
theorem c_l_eqIntS : cFun k_l_eqIntS Tryz.f65 s_l_eqIntS = some p_l_eqIntS := by kernel_rfl
theorem F_l_eqIntS {W : Wld} {ins outs : List (List D)} (h : pwp (FunOk PP W) p_l_eqIntS (RetIs outs) (envL ins)) : FunOk PP W n_l_eqIntS s_l_eqIntS ins outs := fun_ok (C := k_l_eqIntS) (cfg_ok rfl) (eq_ok rfl rfl) mixed Tryz.func65 (by kernel_rfl) (by kernel_rfl) c_l_eqIntS h

def p_l_eqMetaS : PC := .seq (.ss [.mv 4 (.c (.bool false))]) (.seq (.seq (.ss [.mv 6 (.t 0), .len 7 (.t 6), .mv 8 (.t 1), .len 9 (.t 8), .bin 10 .neq (.t 7) (.t 9)]) (.cond (.t 10) (.seq (.ss [.mv 4 (.c (.bool false))]) (.ret [4])) (.skip))) (.seq (.seq (.ss [.mv 5 (.c (.int .i64 0))]) (.block 0 (.loop (.seq (.seq (.ss [.mv 11 (.t 5), .mv 12 (.t 0), .len 13 (.t 12), .bin 14 .lss (.t 11) (.t 13)]) (.cond (.t 14) (.skip) (.exit 0))) (.seq (.block 1 (.seq (.ss [.mv 17 (.t 0), .mv 18 (.t 5), .elp 19 (.t 17) (.t 18) 3, .eld 20 19 0 [.int .i64 0, .int .i64 0, .int .i64 0], .mv 21 (.t 1), .mv 22 (.t 5), .elp 23 (.t 21) (.t 22) 3, .eld 24 23 0 [.int .i64 0, .int .i64 0, .int .i64 0], .call 25 n_l_eqMeta s_l_eqMeta [(.t 20), (.t 24)] [], .un 26 .not (.t 25)]) (.cond (.t 26) (.seq (.ss [.mv 4 (.c (.bool false))]) (.ret [4])) (.skip)))) (.ss [.mv 15 (.t 5), .bin 16 .add (.t 15) (.c (.int .i64 1)), .mv 5 (.t 16)])))))) (.seq (.ss [.mv 4 (.c (.bool true))]) (.ret [4]))))
def k_l_eqMetaS : Cfg := { tt := tt, sigs := sigs, mv := false, bm := [], eqt := eqL, keep := [true, true, false, false, true, true, false, false, false, false, true, false, false, false, true, false, false, false, false, false, false, false, false, false, false, false, true], n := 27, pin := [], fail := [], fz := [] }
theorem c_l_eqMetaS : cFun k_l_eqMetaS Tryz.f66 s_l_eqMetaS = some p_l_eqMetaS := by kernel_rfl
theorem F_l_eqMetaS {W : Wld} {ins outs : List (List D)} (h : pwp (FunOk PP W) p_l_eqMetaS (RetIs outs) (envL ins)) : FunOk PP W n_l_eqMetaS s_l_eqMetaS ins outs := fun_ok (C := k_l_eqMetaS) (cfg_ok rfl) (eq_ok rfl rfl) mixed Tryz.func66 (by kernel_rfl) (by kernel_rfl) c_l_eqMetaS h

def p_s_l6In : PC := .seq (.ss [.mv 6 (.c (.bool false))]) (.seq (.ss [.mv 7 (.t 0), .mv 8 (.t 1), .bin 9 .geq (.t 7) (.t 8), .mv 10 (.t 9), .g 10 true 11 (.mv 11 (.t 0)), .g 10 true 12 (.mv 12 (.t 2)), .g 10 true 13 (.bin 13 .leq (.t 11) (.t 12)), .pick 14 (.t 10) (.t 13) (.c (.bool false)), .mv 6 (.t 14)]) (.ret [6]))
def k_s_l6In : Cfg := { tt := tt, sigs := sigs, mv := false, bm := [], eqt := eqL, keep := [true, true, true, false, false, false, true, false, false, false, false, false, false, false, false], n := 15, pin := [], fail := [], fz := [] }
theorem c_s_l6In : cFun k_s_l6In Tryz.f69 s_s_l6In = some p_s_l6In := by kernel_rfl
theorem F_s_l6In {W : Wld} {ins outs : List (List D)} (h : pwp (FunOk PP W) p_s_l6In (RetIs outs) (envL ins)) : FunOk PP W n_s_l6In s_s_l6In ins outs := fun_ok (C := k_s_l6In) (cfg_ok rfl) (eq_ok rfl rfl) mixed Tryz.func69 (by kernel_rfl) (by kernel_rfl) c_s_l6In h

def p_s_KeysOk : PC := .seq (.ss [.mv 2 (.c (.bool false))]) (.seq (.seq (.ss [.mv 3 (.c (.int .i64 0))]) (.block 0 (.loop (.seq (.seq (.ss [.mv 4 (.t 3), .mv 5 (.t 0), .len 6 (.t 5), .bin 7 .lss (.t 4) (.t 6)]) (.cond (.t 7) (.skip) (.exit 0))) (.seq (.block 1 (.seq (.ss [.mv 10 (.t 0), .mv 11 (.t 3), .elp 12 (.t 10) (.t 11) 1, .eld 13 12 0 [.int .i64 0], .call 14 n_s_l6In s_s_l6In [(.t 13), (.c (.int .i64 1)), (.c (.int .i64 6))] [], .un 15 .not (.t 14), .mv 16 (.t 15), .g 16 false 17 (.mv 17 (.t 3)), .g 16 false 18 (.bin 18 .gtr (.t 17) (.c (.int .i64 0))), .g 16 false 19 (.mv 19 (.t 18)), .g 19 true 20 (.mv 20 (.t 0)), .g 19 true 21 (.mv 21 (.t 3)), .g 19 true 22 (.bin 22 .sub (.t 21) (.c (.int .i64 1))), .g 19 true 23 (.elp 23 (.t 20) (.t 22) 1), .g 19 true 24 (.eld 24 23 0 [.int .i64 0]), .g 19 true 25 (.mv 25 (.t 0)), .g 19 true 26 (.mv 26 (.t 3)), .g 19 true 27 (.elp 27 (.t 25) (.t 26) 1), .g 19 true 28 (.eld 28 27 0 [.int .i64 0]), .g 19 true 29 (.bin 29 .geq (.t 24) (.t 28)), .g 16 false 30 (.pick 30 (.t 19) (.t 29) (.c (.bool false))), .pick 31 (.t 16) (.c (.bool true)) (.t 30)]) (.cond (.t 31) (.seq (.ss [.mv 2 (.c (.bool false))]) (.ret [2])) (.skip)))) (.ss [.mv 8 (.t 3), .bin 9 .add (.t 8) (.c (.int .i64 1)), .mv 3 (.t 9)])))))) (.seq (.ss [.mv 2 (.c (.bool true))]) (.ret [2])))
def k_s_KeysOk : Cfg := { tt := tt, sigs := sigs, mv := false, bm := [], eqt := eqL, keep := [true, false, true, true, false, false, false, true, false, false, false, false, false, false, false, false, false, false, false, false, false, false, false, false, false, false, false, false, false, false, false, true], n := 32, pin := [], fail := [], fz := [] }
theorem c_s_KeysOk : cFun k_s_KeysOk Tryz.f70 s_s_KeysOk = some p_s_KeysOk := by kernel_rfl
theorem F_s_KeysOk {W : Wld} {ins outs : List (List D)} (h : pwp (FunOk PP W) p_s_KeysOk (RetIs outs) (envL ins)) : FunOk PP W n_s_KeysOk s_s_KeysOk ins outs := fun_ok (C := k_s_KeysOk) (cfg_ok rfl) (eq_ok rfl rfl) mixed Tryz.func70 (by kernel_rfl) (by kernel_rfl) c_s_KeysOk h

def p_s_l3Less : PC := .seq (.ss [.mv 8 (.c (.bool false))]) (.seq (.ss [.mv 9 (.t 0), .mv 10 (.t 2), .bin 11 .lss (.t 9) (.t 10), .mv 12 (.t 11), .g 12 false 13 (.mv 13 (.t 0)), .g 12 false 14 (.mv 14 (.t 2)), .g 12 false 15 (.bin 15 .eql (.t 13) (.t 14)), .g 12 false 16 (.mv 16 (.t 15)), .g 16 true 17 (.mv 17 (.t 1)), .g 16 true 18 (.mv 18 (.t 3)), .g 16 true 19 (.bin 19 .lss (.t 17) (.t 18)), .g 12 false 20 (.pick 20 (.t 16) (.t 19) (.c (.bool false))), .pick 21 (.t 12) (.c (.bool true)) (.t 20), .mv 8 (.t 21)]) (.ret [8]))
def k_s_l3Less : Cfg := { tt := tt, sigs := sigs, mv := false, bm := [], eqt := eqL, keep := [true, true, true, true, false, false, false, false, true, false, false, false, false, false, false, false, false, false, false, false, false, false], n := 22, pin := [], fail := [], fz := [] }
theorem c_s_l3Less : cFun k_s_l3Less Tryz.f71 s_s_l3Less = some p_s_l3Less := by kernel_rfl
theorem F_s_l3Less {W : Wld} {ins outs : List (List D)} (h : pwp (FunOk PP W) p_s_l3Less (RetIs outs) (envL ins)) : FunOk PP W n_s_l3Less s_s_l3Less ins outs := fun_ok (C := k_s_l3Less) (cfg_ok rfl) (eq_ok rfl rfl) mixed Tryz.func71 (by kernel_rfl) (by kernel_rfl) c_s_l3Less h

def p_s_PkgOk : PC := .seq (.ss [.mv 1 (.t 0), .mv 2 (.c (.bool false))]) (.seq (.ss [.nop, .sub 4 1 0 1, .call 5 n_s_l6In s_s_l6In [(.t 4), (.c (.int .i64 1)), (.c (.int .i64 4))] [], .mv 6 (.t 5), .g 6 true 7 (.nop), .g 6 true 8 (.sub 8 1 1 1), .g 6 true 9 (.call 9 n_s_l6In s_s_l6In [(.t 8), (.c (.int .i64 1)), (.c (.int .i64 5))] []), .pick 10 (.t 6) (.t 9) (.c (.bool false)), .mv 11 (.t 10), .g 11 true 12 (.nop), .g 11 true 13 (.sub 13 1 2 1), .g 11 true 14 (.call 14 n_s_l1Files s_s_l1Files [(.t 13)] []), .pick 15 (.t 11) (.t 14) (.c (.bool false)), .mv 16 (.t 15), .g 16 true 17 (.nop), .g 16 true 18 (.sub 18 1 0 1), .g 16 true 19 (.nop), .g 16 true 20 (.sub 20 1 3 1), .g 16 true 21 (.call 21 n_s_l1Deps s_s_l1Deps [(.t 18), (.t 20)] []), .pick 22 (.t 16) (.t 21) (.c (.bool false)), .mv 2 (.t 22)]) (.ret [2]))
def k_s_PkgOk : Cfg := { tt := tt, sigs := sigs, mv := false, bm := [], eqt := eqL, keep := [true, true, true, false, false, false, false, false, false, false, false, false, false, false, false, false, false, false, false, false, false, false, false], n := 23, pin := [], fail := [], fz := [] }
theorem c_s_PkgOk : cFun k_s_PkgOk Tryz.f72 s_s_PkgOk = some p_s_PkgOk := by kernel_rfl
theorem F_s_PkgOk {W : Wld} {ins outs : List (List D)} (h : pwp (FunOk PP W) p_s_PkgOk (RetIs outs) (envL ins)) : FunOk PP W n_s_PkgOk s_s_PkgOk ins outs := fun_ok (C := k_s_PkgOk) (cfg_ok rfl) (eq_ok rfl rfl) mixed Tryz.func72 (by kernel_rfl) (by kernel_rfl) c_s_PkgOk h

def p_s_SumOf : PC := .seq (.ss [.mv 2 (.c (.int .i64 0))]) (.seq (.ss [.mv 3 (.c (.int .i64 7))]) (.seq (.seq (.ss [.mv 4 (.c (.int .i64 0))]) (.block 0 (.loop (.seq (.seq (.ss [.mv 5 (.t 4), .mv 6 (.t 0), .slen 7 (.t 6), .bin 8 .lss (.t 5) (.t 7)]) (.cond (.t 8) (.skip) (.exit 0))) (.seq (.block 1 (.ss [.mv 11 (.t 3), .bin 12 .mul (.c (.int .i64 31)) (.t 11), .mv 13 (.t 0), .mv 14 (.t 4), .sidx 15 (.t 13) (.t 14), .cvt 16 .i64 (.t 15), .bin 17 .add (.t 12) (.t 16), .bin 18 .add (.t 17) (.c (.int .i64 1)), .bin 19 .rem (.t 18) (.c (.int .i64 9973)), .mv 3 (.t 19)])) (.ss [.mv 9 (.t 4), .bin 10 .add (.t 9) (.c (.int .i64 1)), .mv 4 (.t 10)])))))) (.seq (.ss [.mv 20 (.t 3), .mv 2 (.t 20)]) (.ret [2]))))
def k_s_SumOf : Cfg := { tt := tt, sigs := sigs, mv := false, bm := [], eqt := eqL, keep := [true, false, true, true, true, false, false, false, true, false, false, false, false, false, false, false, false, false, false, false, false], n := 21, pin := [], fail := [], fz := [] }
theorem c_s_SumOf : cFun k_s_SumOf Tryz.f74 s_s_SumOf = some p_s_SumOf := by kernel_rfl
theorem F_s_SumOf {W : Wld} {ins outs : List (List D)} (h : pwp (FunOk PP W) p_s_SumOf (RetIs outs) (envL ins)) : FunOk PP W n_s_SumOf s_s_SumOf ins outs := fun_ok (C := k_s_SumOf) (cfg_ok rfl) (eq_ok rfl rfl) mixed Tryz.func74 (by kernel_rfl) (by kernel_rfl) c_s_SumOf h

def p_s_l1Name : PC := .seq (.ss [.mv 4 (.c (.str ⟨#[]⟩))]) (.seq (.ss [.mv 5 (.t 0), .bin 6 .add (.c (.int .i64 97)) (.t 5), .bin 7 .sub (.t 6) (.c (.int .i64 1)), .cvt 8 .u8 (.t 7), .lit 9 1 [.int .u8 0] [(0, (.t 8))], .b2s 10 (.t 9), .mv 11 (.t 1), .call 12 n_s_l6Dec s_s_l6Dec [(.t 11)] [], .bin 13 .add (.t 10) (.t 12), .mv 4 (.t 13)]) (.ret [4]))
def k_s_l1Name : Cfg := { tt := tt, sigs := sigs, mv := false, bm := [], eqt := eqL, keep := [true, true, false, false, true, false, false, false, false, false, false, false, false, false], n := 14, pin := [], fail := [], fz := [] }
theorem c_s_l1Name : cFun k_s_l1Name Tryz.f75 s_s_l1Name = some p_s_l1Name := by kernel_rfl
theorem F_s_l1Name {W : Wld} {ins outs : List (List D)} (h : pwp (FunOk PP W) p_s_l1Name (RetIs outs) (envL ins)) : FunOk PP W n_s_l1Name s_s_l1Name ins outs := fun_ok (C := k_s_l1Name) (cfg_ok rfl) (eq_ok rfl rfl) mixed Tryz.func75 (by kernel_rfl) (by kernel_rfl) c_s_l1Name h

def p_s_l6Dec : PC := .seq (.ss [.mv 2 (.c (.str ⟨#[]⟩))]) (.seq (.seq (.ss [.mv 3 (.t 0), .bin 4 .lss (.t 3) (.c (.int .i64 (-9223372036854775807)))]) (.cond (.t 4) (.seq (.ss [.mv 2 (.c (.str ⟨#[45, 57, 50, 50, 51, 51, 55, 50, 48, 51, 54, 56, 53, 52, 55, 55, 53, 56, 48, 56]⟩))]) (.ret [2])) (.skip))) (.seq (.seq (.ss [.mv 5 (.t 0), .bin 6 .lss (.t 5) (.c (.int .i64 0))]) (.cond (.t 6) (.seq (.ss [.mv 7 (.t 0), .un 8 .neg (.t 7), .call 9 n_s_l6Dec s_s_l6Dec [(.t 8)] [], .bin 10 .add (.c (.str ⟨#[45]⟩)) (.t 9), .mv 2 (.t 10)]) (.ret [2])) (.skip))) (.seq (.seq (.ss [.mv 11 (.t 0), .bin 12 .lss (.t 11) (.c (.int .i64 10))]) (.cond (.t 12) (.seq (.ss [.mv 13 (.t 0), .bin 14 .add (.c (.int .i64 48)) (.t 13), .cvt 15 .u8 (.t 14), .lit 16 1 [.int .u8 0] [(0, (.t 15))], .b2s 17 (.t 16), .mv 2 (.t 17)]) (.ret [2])) (.skip))) (.seq (.ss [.mv 18 (.t 0), .bin 19 .quo (.t 18) (.c (.int .i64 10)), .call 20 n_s_l6Dec s_s_l6Dec [(.t 19)] [], .mv 21 (.t 0), .bin 22 .rem (.t 21) (.c (.int .i64 10)), .bin 23 .add (.c (.int .i64 48)) (.t 22), .cvt 24 .u8 (.t 23), .lit 25 1 [.int .u8 0] [(0, (.t 24))], .b2s 26 (.t 25), .bin 27 .add (.t 20) (.t 26), .mv 2 (.t 27)]) (.ret [2])))))
def k_s_l6Dec : Cfg := { tt := tt, sigs := sigs, mv := false, bm := [], eqt := eqL, keep := [true, false, true, false, true, false, true, false, false, false, false, false, true, false, false, false, false, false, false, false, false, false, false, false, false, false, false, false], n := 28, pin := [], fail := [], fz := [] }
theorem c_s_l6Dec : cFun k_s_l6Dec Tryz.f76 s_s_l6Dec = some p_s_l6Dec := by kernel_rfl
theorem F_s_l6Dec {W : Wld} {ins outs : List (List D)} (h : pwp (FunOk PP W) p_s_l6Dec (RetIs outs) (envL ins)) : FunOk PP W n_s_l6Dec s_s_l6Dec ins outs := fun_ok (C := k_s_l6Dec) (cfg_ok rfl) (eq_ok rfl rfl) mixed Tryz.func76 (by kernel_rfl) (by kernel_rfl) c_s_l6Dec h

def p_i_in : PC := .seq (.ss [.mv 6 (.c (.bool false))]) (.seq (.ss [.mv 7 (.t 0), .mv 8 (.t 1), .bin 9 .geq (.t 7) (.t 8), .mv 10 (.t 9), .g 10 true 11 (.mv 11 (.t 0)), .g 10 true 12 (.mv 12 (.t 2)), .g 10 true 13 (.bin 13 .leq (.t 11) (.t 12)), .pick 14 (.t 10) (.t 13) (.c (.bool false)), .mv 6 (.t 14)]) (.ret [6]))
def k_i_in : Cfg := { tt := tt, sigs := sigs, mv := false, bm := [], eqt := eqL, keep := [true, true, true, false, false, false, true, false, false, false, false, false, false, false, false], n := 15, pin := [], fail := [], fz := [] }
theorem c_i_in : cFun k_i_in Tryz.f80 s_i_in = some p_i_in := by kernel_rfl
theorem F_i_in {W : Wld} {ins outs : List (List D)} (h : pwp (FunOk PP W) p_i_in (RetIs outs) (envL ins)) : FunOk PP W n_i_in s_i_in ins outs := fun_ok (C := k_i_in) (cfg_ok rfl) (eq_ok rfl rfl) mixed Tryz.func80 (by kernel_rfl) (by kernel_rfl) c_i_in h

def p_i_KeysOk : PC := .seq (.ss [.mv 2 (.c (.bool false))]) (.seq (.seq (.ss [.mv 5 (.t 0), .len 6 (.t 5), .mv 7 (.c (.int .i64 0))]) (.block 0 (.loop (.seq (.ss [.bin 8 .lss (.t 7) (.t 6)]) (.seq (.cond (.t 8) (.skip) (.exit 0)) (.seq (.block 1 (.seq (.ss [.mv 9 (.t 7), .elp 10 (.t 5) (.t 7) 1, .eld 11 10 0 [.int .i64 0], .mv 3 (.t 9), .mv 4 (.t 11)]) (.seq (.ss [.mv 12 (.t 4), .call 13 n_i_in s_i_in [(.t 12), (.c (.int .i64 1)), (.c (.int .i64 6))] [], .un 14 .not (.t 13), .mv 15 (.t 14), .g 15 false 16 (.mv 16 (.t 3)), .g 15 false 17 (.bin 17 .gtr (.t 16) (.c (.int .i64 0))), .g 15 false 18 (.mv 18 (.t 17)), .g 18 true 19 (.mv 19 (.t 4)), .g 18 true 20 (.mv 20 (.t 0)), .g 18 true 21 (.mv 21 (.t 3)), .g 18 true 22 (.bin 22 .sub (.t 21) (.c (.int .i64 1))), .g 18 true 23 (.elp 23 (.t 20) (.t 22) 1), .g 18 true 24 (.eld 24 23 0 [.int .i64 0]), .g 18 true 25 (.bin 25 .leq (.t 19) (.t 24)), .g 15 false 26 (.pick 26 (.t 18) (.t 25) (.c (.bool false))), .pick 27 (.t 15) (.c (.bool true)) (.t 26)]) (.cond (.t 27) (.seq (.ss [.mv 2 (.c (.bool false))]) (.ret [2])) (.skip))))) (.ss [.bin 28 .add (.t 7) (.c (.int .i64 1)), .mv 7 (.t 28)]))))))) (.seq (.ss [.mv 2 (.c (.bool true))]) (.ret [2])))
def k_i_KeysOk : Cfg := { tt := tt, sigs := sigs, mv := false, bm := [], eqt := eqL, keep := [true, false, true, true, true, true, true, true, true, false, false, false, false, false, false, false, false, false, false, false, false, false, false, false, false, false, false, true, false], n := 29, pin := [], fail := [], fz := [] }
theorem c_i_KeysOk : cFun k_i_KeysOk Tryz.f81 s_i_KeysOk = some p_i_KeysOk := by kernel_rfl
theorem F_i_KeysOk {W : Wld} {ins outs : List (List D)} (h : pwp (FunOk PP W) p_i_KeysOk (RetIs outs) (envL ins)) : FunOk PP W n_i_KeysOk s_i_KeysOk ins outs := fun_ok (C := k_i_KeysOk) (cfg_ok rfl) (eq_ok rfl rfl) mixed Tryz.func81 (by kernel_rfl) (by kernel_rfl) c_i_KeysOk h

def p_i_isName : PC := .seq (.ss [.mv 2 (.c (.bool false))]) (.seq (.ss [.mv 3 (.t 0), .call 4 n_i_in s_i_in [(.t 3), (.c (.int .i64 1)), (.c (.int .i64 4))] [], .mv 2 (.t 4)]) (.ret [2]))
def k_i_isName : Cfg := { tt := tt, sigs := sigs, mv := false, bm := [], eqt := eqL, keep := [true, false, true, false, false], n := 5, pin := [], fail := [], fz := [] }
theorem c_i_isName : cFun k_i_isName Tryz.f82 s_i_isName = some p_i_isName := by kernel_rfl
theorem F_i_isName {W : Wld} {ins outs : List (List D)} (h : pwp (FunOk PP W) p_i_isName (RetIs outs) (envL ins)) : FunOk PP W n_i_isName s_i_isName ins outs := fun_ok (C := k_i_isName) (cfg_ok rfl) (eq_ok rfl rfl) mixed Tryz.func82 (by kernel_rfl) (by kernel_rfl) c_i_isName h

def p_i_isVer : PC := .seq (.ss [.mv 2 (.c (.bool false))]) (.seq (.ss [.mv 3 (.t 0), .call 4 n_i_in s_i_in [(.t 3), (.c (.int .i64 1)), (.c (.int .i64 5))] [], .mv 2 (.t 4)]) (.ret [2]))
def k_i_isVer : Cfg := { tt := tt, sigs := sigs, mv := false, bm := [], eqt := eqL, keep := [true, false, true, false, false], n := 5, pin := [], fail := [], fz := [] }
theorem c_i_isVer : cFun k_i_isVer Tryz.f83 s_i_isVer = some p_i_isVer := by kernel_rfl
theorem F_i_isVer {W : Wld} {ins outs : List (List D)} (h : pwp (FunOk PP W) p_i_isVer (RetIs outs) (envL ins)) : FunOk PP W n_i_isVer s_i_isVer ins outs := fun_ok (C := k_i_isVer) (cfg_ok rfl) (eq_ok rfl rfl) mixed Tryz.func83 (by kernel_rfl) (by kernel_rfl) c_i_isVer h

def p_sl_Equal_Meta : PC := .seq (.ss [.mv 4 (.c (.bool false))]) (.seq (.seq (.ss [.mv 6 (.t 0), .len 7 (.t 6), .mv 8 (.t 1), .len 9 (.t 8), .bin 10 .neq (.t 7) (.t 9)]) (.cond (.t 10) (.seq (.ss [.mv 4 (.c (.bool false))]) (.ret [4])) (.skip))) (.seq (.seq (.ss [.mv 11 (.t 0), .len 12 (.t 11), .mv 13 (.c (.int .i64 0))]) (.block 0 (.loop (.seq (.ss [.bin 14 .lss (.t 13) (.t 12)]) (.seq (.cond (.t 14) (.skip) (.exit 0)) (.seq (.block 1 (.seq (.ss [.mv 15 (.t 13), .mv 5 (.t 15)]) (.seq (.ss [.mv 16 (.t 0), .mv 17 (.t 5), .elp 18 (.t 16) (.t 17) 3, .eld 19 18 0 [.int .i64 0, .int .i64 0, .int .i64 0], .mv 20 (.t 1), .mv 21 (.t 5), .elp 22 (.t 20) (.t 21) 3, .eld 23 22 0 [.int .i64 0, .int .i64 0, .int .i64 0], .eqs 24 true [.int .i64 0, .int .i64 0, .int .i64 0] (.t 19) (.t 23)]) (.cond (.t 24) (.seq (.ss [.mv 4 (.c (.bool false))]) (.ret [4])) (.skip))))) (.ss [.bin 25 .add (.t 13) (.c (.int .i64 1)), .mv 13 (.t 25)]))))))) (.seq (.ss [.mv 4 (.c (.bool true))]) (.ret [4]))))
def k_sl_Equal_Meta : Cfg := { tt := tt, sigs := sigs, mv := false, bm := [], eqt := eqL, keep := [true, true, false, false, true, true, false, false, false, false, true, false, true, true, true, false, false, false, false, false, false, false, false, false, true, false], n := 26, pin := [], fail := [], fz := [] }
theorem c_sl_Equal_Meta : cFun k_sl_Equal_Meta Tryz.f84 s_sl_Equal_Meta = some p_sl_Equal_Meta := by kernel_rfl
theorem F_sl_Equal_Meta {W : Wld} {ins outs : List (List D)} (h : pwp (FunOk PP W) p_sl_Equal_Meta (RetIs outs) (envL ins)) : FunOk PP W n_sl_Equal_Meta s_sl_Equal_Meta ins outs := fun_ok (C := k_sl_Equal_Meta) (cfg_ok rfl) (eq_ok rfl rfl) mixed Tryz.func84 (by kernel_rfl) (by kernel_rfl) c_sl_Equal_Meta h

def p_cmp_Or_int : PC := .seq (.ss [.mv 2 (.c (.int .i64 0))]) (.seq (.ss [.mv 3 (.c (.int .i64 0))]) (.seq (.seq (.ss [.mv 6 (.t 0), .len 7 (.t 6), .mv 8 (.c (.int .i64 0))]) (.block 0 (.loop (.seq (.ss [.bin 9 .lss (.t 8) (.t 7)]) (.seq (.cond (.t 9) (.skip) (.exit 0)) (.seq (.block 1 (.seq (.ss [.elp 10 (.t 6) (.t 8) 1, .eld 11 10 0 [.int .i64 0], .mv 5 (.t 11)]) (.seq (.ss [.mv 12 (.t 5), .mv 13 (.t 3), .bin 14 .neq (.t 12) (.t 13)]) (.cond (.t 14) (.seq (.ss [.mv 15 (.t 5), .mv 2 (.t 15)]) (.ret [2])) (.skip))))) (.ss [.bin 16 .add (.t 8) (.c (.int .i64 1)), .mv 8 (.t 16)]))))))) (.seq (.ss [.mv 17 (.t 3), .mv 2 (.t 17)]) (.ret [2]))))
def k_cmp_Or_int : Cfg := { tt := tt, sigs := sigs, mv := false, bm := [], eqt := eqL, keep := [true, false, true, true, false, true, true, true, true, true, false, false, false, false, true, false, false, false], n := 18, pin := [], fail := [], fz := [] }
theorem c_cmp_Or_int : cFun k_cmp_Or_int Tryz.f85 s_cmp_Or_int = some p_cmp_Or_int := by kernel_rfl
theorem F_cmp_Or_int {W : Wld} {ins outs : List (List D)} (h : pwp (FunOk PP W) p_cmp_Or_int (RetIs outs) (envL ins)) : FunOk PP W n_cmp_Or_int s_cmp_Or_int ins outs := fun_ok (C := k_cmp_Or_int) (cfg_ok rfl) (eq_ok rfl rfl) mixed Tryz.func85 (by kernel_rfl) (by kernel_rfl) c_cmp_Or_int h

def p_cmp_Compare_int : PC := .seq (.ss [.mv 4 (.c (.int .i64 0))]) (.seq (.ss [.mv 7 (.t 0), .call 8 n_cmp_isNaN_int s_cmp_isNaN_int [(.t 7)] [], .mv 5 (.t 8)]) (.seq (.ss [.mv 9 (.t 1), .call 10 n_cmp_isNaN_int s_cmp_isNaN_int [(.t 9)] [], .mv 6 (.t 10)]) (.seq (.seq (.ss [.mv 11 (.t 5)]) (.cond (.t 11) (.seq (.seq (.ss [.mv 12 (.t 6)]) (.cond (.t 12) (.seq (.ss [.mv 4 (.c (.int .i64 0))]) (.ret [4])) (.skip))) (.seq (.ss [.mv 4 (.c (.int .i64 (-1)))]) (.ret [4]))) (.skip))) (.seq (.seq (.ss [.mv 13 (.t 6)]) (.cond (.t 13) (.seq (.ss [.mv 4 (.c (.int .i64 1))]) (.ret [4])) (.skip))) (.seq (.seq (.ss [.mv 14 (.t 0), .mv 15 (.t 1), .bin 16 .lss (.t 14) (.t 15)]) (.cond (.t 16) (.seq (.ss [.mv 4 (.c (.int .i64 (-1)))]) (.ret [4])) (.skip))) (.seq (.seq (.ss [.mv 17 (.t 0), .mv 18 (.t 1), .bin 19 .gtr (.t 17) (.t 18)]) (.cond (.t 19) (.seq (.ss [.mv 4 (.c (.int .i64 1))]) (.ret [4])) (.skip))) (.seq (.ss [.mv 4 (.c (.int .i64 0))]) (.ret [4]))))))))
def k_cmp_Compare_int : Cfg := { tt := tt, sigs := sigs, mv := false, bm := [], eqt := eqL, keep := [true, true, false, false, true, true, true, false, false, false, false, true, true, true, false, false, true, false, false, true], n := 20, pin := [], fail := [], fz := [] }
theorem c_cmp_Compare_int : cFun k_cmp_Compare_int Tryz.f86 s_cmp_Compare_int = some p_cmp_Compare_int := by kernel_rfl
theorem F_cmp_Compare_int {W : Wld} {ins outs : List (List D)} (h : pwp (FunOk PP W) p_cmp_Compare_int (RetIs outs) (envL ins)) : FunOk PP W n_cmp_Compare_int s_cmp_Compare_int ins outs := fun_ok (C := k_cmp_Compare_int) (cfg_ok rfl) (eq_ok rfl rfl) mixed Tryz.func86 (by kernel_rfl) (by kernel_rfl) c_cmp_Compare_int h

def p_l_eqFile : PC := .seq (.ss [.mv 2 (.t 0), .mv 3 (.t 1), .mv 4 (.c (.bool false))]) (.seq (.seq (.ss [.nop, .sub 6 2 0 1, .nop, .sub 8 3 0 1, .bin 9 .neq (.t 6) (.t 8)]) (.cond (.t 9) (.seq (.ss [.mv 4 (.c (.bool false))]) (.ret [4])) (.skip))) (.seq (.seq (.ss [.nop, .sub 11 2 1 1, .nop, .sub 13 3 1 1, .bin 14 .neq (.t 11) (.t 13)]) (.cond (.t 14) (.seq (.ss [.mv 4 (.c (.bool false))]) (.ret [4])) (.skip))) (.seq (.ss [.mv 4 (.c (.bool true))]) (.ret [4]))))
def k_l_eqFile : Cfg := { tt := tt, sigs := sigs, mv := false, bm := [], eqt := eqL, keep := [true, true, true, true, true, false, false, false, false, true, false, false, false, false, true], n := 15, pin := [], fail := [], fz := [] }
theorem c_l_eqFile : cFun k_l_eqFile Tryz.f91 s_l_eqFile = some p_l_eqFile := by kernel_rfl
theorem F_l_eqFile {W : Wld} {ins outs : List (List D)} (h : pwp (FunOk PP W) p_l_eqFile (RetIs outs) (envL ins)) : FunOk PP W n_l_eqFile s_l_eqFile ins outs := fun_ok (C := k_l_eqFile) (cfg_ok rfl) (eq_ok rfl rfl) mixed Tryz.func91 (by kernel_rfl) (by kernel_rfl) c_l_eqFile h

def p_l_eqDep : PC := .seq (.ss [.mv 2 (.t 0), .mv 3 (.t 1), .mv 4 (.c (.bool false))]) (.seq (.seq (.ss [.nop, .sub 6 2 0 1, .nop, .sub 8 3 0 1, .bin 9 .neq (.t 6) (.t 8)]) (.cond (.t 9) (.seq (.ss [.mv 4 (.c (.bool false))]) (.ret [4])) (.skip))) (.seq (.seq (.ss [.nop, .sub 11 2 1 1, .nop, .sub 13 3 1 1, .bin 14 .neq (.t 11) (.t 13)]) (.cond (.t 14) (.seq (.ss [.mv 4 (.c (.bool false))]) (.ret [4])) (.skip))) (.seq (.ss [.mv 4 (.c (.bool true))]) (.ret [4]))))
def k_l_eqDep : Cfg := { tt := tt, sigs := sigs, mv := false, bm := [], eqt := eqL, keep := [true, true, true, true, true, false, false, false, false, true, false, false, false, false, true], n := 15, pin := [], fail := [], fz := [] }
theorem c_l_eqDep : cFun k_l_eqDep Tryz.f92 s_l_eqDep = some p_l_eqDep := by kernel_rfl
theorem F_l_eqDep {W : Wld} {ins outs : List (List D)} (h : pwp (FunOk PP W) p_l_eqDep (RetIs outs) (envL ins)) : FunOk PP W n_l_eqDep s_l_eqDep ins outs := fun_ok (C := k_l_eqDep) (cfg_ok rfl) (eq_ok rfl rfl) mixed Tryz.func92 (by kernel_rfl) (by kernel_rfl) c_l_eqDep h

def p_l_eqMeta : PC := .seq (.ss [.mv 2 (.t 0), .mv 3 (.t 1), .mv 4 (.c (.bool false))]) (.seq (.seq (.ss [.nop, .sub 6 2 0 1, .nop, .sub 8 3 0 1, .bin 9 .neq (.t 6) (.t 8)]) (.cond (.t 9) (.seq (.ss [.mv 4 (.c (.bool false))]) (.ret [4])) (.skip))) (.seq (.seq (.ss [.nop, .sub 11 2 1 1, .nop, .sub 13 3 1 1, .bin 14 .neq (.t 11) (.t 13)]) (.cond (.t 14) (.seq (.ss [.mv 4 (.c (.bool false))]) (.ret [4])) (.skip))) (.seq (.seq (.ss [.nop, .sub 16 2 2 1, .nop, .sub 18 3 2 1, .bin 19 .neq (.t 16) (.t 18)]) (.cond (.t 19) (.seq (.ss [.mv 4 (.c (.bool false))]) (.ret [4])) (.skip))) (.seq (.ss [.mv 4 (.c (.bool true))]) (.ret [4])))))
def k_l_eqMeta : Cfg := { tt := tt, sigs := sigs, mv := false, bm := [], eqt := eqL, keep := [true, true, true, true, true, false, false, false, false, true, false, false, false, false, true, false, false, false, false, true], n := 20, pin := [], fail := [], fz := [] }
theorem c_l_eqMeta : cFun k_l_eqMeta Tryz.f93 s_l_eqMeta = some p_l_eqMeta := by kernel_rfl
theorem F_l_eqMeta {W : Wld} {ins outs : List (List D)} (h : pwp (FunOk PP W) p_l_eqMeta (RetIs outs) (envL ins)) : FunOk PP W n_l_eqMeta s_l_eqMeta ins outs := fun_ok (C := k_l_eqMeta) (cfg_ok rfl) (eq_ok rfl rfl) mixed Tryz.func93 (by kernel_rfl) (by kernel_rfl) c_l_eqMeta h

def p_s_l1Files : PC := .seq (.ss [.mv 2 (.c (.bool false))]) (.seq (.seq (.ss [.mv 3 (.c (.int .i64 0))]) (.block 0 (.loop (.seq (.seq (.ss [.mv 4 (.t 3), .mv 5 (.t 0), .len 6 (.t 5), .bin 7 .lss (.t 4) (.t 6)]) (.cond (.t 7) (.skip) (.exit 0))) (.seq (.block 1 (.seq (.ss [.mv 10 (.t 0), .mv 11 (.t 3), .elp 12 (.t 10) (.t 11) 2, .mv 13 (.t 12), .eld 14 13 0 [.int .i64 0], .call 15 n_s_l6In s_s_l6In [(.t 14), (.c (.int .i64 0)), (.c (.int .i64 5))] [], .un 16 .not (.t 15), .mv 17 (.t 16), .g 17 false 18 (.mv 18 (.t 0)), .g 17 false 19 (.mv 19 (.t 3)), .g 17 false 20 (.elp 20 (.t 18) (.t 19) 2), .g 17 false 21 (.mv 21 (.t 20)), .g 17 false 22 (.eld 22 21 1 [.int .i64 0]), .g 17 false 23 (.call 23 n_s_l6In s_s_l6In [(.t 22), (.c (.int .i64 0)), (.c (.int .i64 9))] []), .g 17 false 24 (.un 24 .not (.t 23)), .pick 25 (.t 17) (.c (.bool true)) (.t 24), .mv 26 (.t 25), .g 26 false 27 (.mv 27 (.t 3)), .g 26 false 28 (.bin 28 .gtr (.t 27) (.c (.int .i64 0))), .g 26 false 29 (.mv 29 (.t 28)), .g 29 true 30 (.mv 30 (.t 0)), .g 29 true 31 (.mv 31 (.t 3)), .g 29 true 32 (.bin 32 .sub (.t 31) (.c (.int .i64 1))), .g 29 true 33 (.elp 33 (.t 30) (.t 32) 2), .g 29 true 34 (.mv 34 (.t 33)), .g 29 true 35 (.eld 35 34 0 [.int .i64 0]), .g 29 true 36 (.mv 36 (.t 0)), .g 29 true 37 (.mv 37 (.t 3)), .g 29 true 38 (.elp 38 (.t 36) (.t 37) 2), .g 29 true 39 (.mv 39 (.t 38)), .g 29 true 40 (.eld 40 39 0 [.int .i64 0]), .g 29 true 41 (.bin 41 .geq (.t 35) (.t 40)), .g 26 false 42 (.pick 42 (.t 29) (.t 41) (.c (.bool false))), .pick 43 (.t 26) (.c (.bool true)) (.t 42)]) (.cond (.t 43) (.seq (.ss [.mv 2 (.c (.bool false))]) (.ret [2])) (.skip)))) (.ss [.mv 8 (.t 3), .bin 9 .add (.t 8) (.c (.int .i64 1)), .mv 3 (.t 9)])))))) (.seq (.ss [.mv 44 (.t 0), .len 45 (.t 44), .bin 46 .leq (.t 45) (.c (.int .i64 2)), .mv 2 (.t 46)]) (.ret [2])))
def k_s_l1Files : Cfg := { tt := tt, sigs := sigs, mv := false, bm := [], eqt := eqL, keep := [true, false, true, true, false, false, false, true, false, false, false, false, false, false, false, false, false, false, false, false, false, false, false, false, false, false, false, false, false, false, false, false, false, false, false, false, false, false, false, false, false, false, false, true, false, false, false], n := 47, pin := [], fail := [], fz := [] }
theorem c_s_l1Files : cFun k_s_l1Files Tryz.f94 s_s_l1Files = some p_s_l1Files := by kernel_rfl
theorem F_s_l1Files {W : Wld} {ins outs : List (List D)} (h : pwp (FunOk PP W) p_s_l1Files (RetIs outs) (envL ins)) : FunOk PP W n_s_l1Files s_s_l1Files ins outs := fun_ok (C := k_s_l1Files) (cfg_ok rfl) (eq_ok rfl rfl) mixed Tryz.func94 (by kernel_rfl) (by kernel_rfl) c_s_l1Files h

def p_s_l1Deps : PC := .seq (.ss [.mv 4 (.c (.bool false))]) (.seq (.seq (.ss [.mv 5 (.c (.int .i64 0))]) (.block 0 (.loop (.seq (.seq (.ss [.mv 7 (.t 5), .mv 8 (.t 1), .len 9 (.t 8), .bin 10 .lss (.t 7) (.t 9)]) (.cond (.t 10) (.skip) (.exit 0))) (.seq (.block 1 (.seq (.ss [.mv 13 (.t 1), .mv 14 (.t 5), .elp 15 (.t 13) (.t 14) 2, .eld 16 15 0 [.int .i64 0, .int .i64 0], .bld 6 [.int .i64 0, .int .i64 0] [], .st 6 0 (.t 16)]) (.seq (.ss [.nop, .sub 18 6 0 1, .call 19 n_s_l6In s_s_l6In [(.t 18), (.c (.int .i64 1)), (.c (.int .i64 4))] [], .un 20 .not (.t 19), .mv 21 (.t 20), .g 21 false 22 (.nop), .g 21 false 23 (.sub 23 6 0 1), .g 21 false 24 (.mv 24 (.t 0)), .g 21 false 25 (.bin 25 .eql (.t 23) (.t 24)), .pick 26 (.t 21) (.c (.bool true)) (.t 25), .mv 27 (.t 26), .g 27 false 28 (.nop), .g 27 false 29 (.sub 29 6 1 1), .g 27 false 30 (.call 30 n_s_l6In s_s_l6In [(.t 29), (.c (.int .i64 1)), (.c (.int .i64 5))] []), .g 27 false 31 (.un 31 .not (.t 30)), .pick 32 (.t 27) (.c (.bool true)) (.t 31), .mv 33 (.t 32), .g 33 false 34 (.mv 34 (.t 5)), .g 33 false 35 (.bin 35 .gtr (.t 34) (.c (.int .i64 0))), .g 33 false 36 (.mv 36 (.t 35)), .g 36 true 37 (.mv 37 (.t 1)), .g 36 true 38 (.mv 38 (.t 5)), .g 36 true 39 (.bin 39 .sub (.t 38) (.c (.int .i64 1))), .g 36 true 40 (.elp 40 (.t 37) (.t 39) 2), .g 36 true 41 (.mv 41 (.t 40)), .g 36 true 42 (.eld 42 41 0 [.int .i64 0]), .g 36 true 43 (.nop), .g 36 true 44 (.sub 44 6 0 1), .g 36 true 45 (.bin 45 .geq (.t 42) (.t 44)), .g 33 false 46 (.pick 46 (.t 36) (.t 45) (.c (.bool false))), .pick 47 (.t 33) (.c (.bool true)) (.t 46)]) (.cond (.t 47) (.seq (.ss [.mv 4 (.c (.bool false))]) (.ret [4])) (.skip))))) (.ss [.mv 11 (.t 5), .bin 12 .add (.t 11) (.c (.int .i64 1)), .mv 5 (.t 12)])))))) (.seq (.ss [.mv 48 (.t 1), .len 49 (.t 48), .bin 50 .leq (.t 49) (.c (.int .i64 2)), .mv 4 (.t 50)]) (.ret [4])))
def k_s_l1Deps : Cfg := { tt := tt, sigs := sigs, mv := false, bm := [], eqt := eqL, keep := [true, true, false, false, true, true, true, false, false, false, true, false, false, false, false, false, false, false, false, false, false, false, false, false, false, false, false, false, false, false, false, false, false, false, false, false, false, false, false, false, false, false, false, false, false, false, false, true, false, false, false], n := 51, pin := [], fail := [], fz := [] }
theorem c_s_l1Deps : cFun k_s_l1Deps Tryz.f95 s_s_l1Deps = some p_s_l1Deps := by kernel_rfl
theorem F_s_l1Deps {W : Wld} {ins outs : List (List D)} (h : pwp (FunOk PP W) p_s_l1Deps (RetIs outs) (envL ins)) : FunOk PP W n_s_l1Deps s_s_l1Deps ins outs := fun_ok (C := k_s_l1Deps) (cfg_ok rfl) (eq_ok rfl rfl) mixed Tryz.func95 (by kernel_rfl) (by kernel_rfl) c_s_l1Deps h

def p_cmp_isNaN_int : PC := .seq (.ss [.mv 2 (.c (.bool false))]) (.seq (.ss [.mv 3 (.t 0), .mv 4 (.t 0), .bin 5 .neq (.t 3) (.t 4), .mv 2 (.t 5)]) (.ret [2]))
def k_cmp_isNaN_int : Cfg := { tt := tt, sigs := sigs, mv := false, bm := [], eqt := eqL, keep := [true, false, true, false, false, false], n := 6, pin := [], fail := [], fz := [] }
theorem c_cmp_isNaN_int : cFun k_cmp_isNaN_int Tryz.f97 s_cmp_isNaN_int = some p_cmp_isNaN_int := by kernel_rfl
theorem F_cmp_isNaN_int {W : Wld} {ins outs : List (List D)} (h : pwp (FunOk PP W) p_cmp_isNaN_int (RetIs outs) (envL ins)) : FunOk PP W n_cmp_isNaN_int s_cmp_isNaN_int ins outs := fun_ok (C := k_cmp_isNaN_int) (cfg_ok rfl) (eq_ok rfl rfl) mixed Tryz.func97 (by kernel_rfl) (by kernel_rfl) c_cmp_isNaN_int h

end V
end Go.Proofs.YtnaldhcdcpdbnaaGreatDoor

/-
What these functions come to, as statements; that the checker says so. Written by a program.
-/
namespace Go.Proofs.YtnaldhcdcpdbnaaGreatDoor
namespace V

def p_l_toIntS_X : PC := .seq (.ss [.mv 2 (.c (.sl []))]) (.seq (.ss [.mv 5 (.t 0), .len 6 (.t 5), .mk 7 [.int .i64 0] (.t 6) (.t 6), .mv 3 (.t 7)]) (.seq (.seq (.ss [.mv 4 (.c (.int .i64 0))]) (.block 0 (.loop (.seq (.seq (.ss [.mv 8 (.t 4), .mv 9 (.t 0), .len 10 (.t 9), .bin 11 .lss (.t 8) (.t 10)]) (.cond (.t 11) (.skip) (.exit 0))) (.seq (.block 1 (.ss [.mv 14 (.t 3), .mv 15 (.t 4), .mv 16 (.t 0), .mv 17 (.t 4), .elp 18 (.t 16) (.t 17) 1, .eld 19 18 0 [.int .i64 0], .elp 20 (.t 14) (.t 15) 1, .els 20 0 3 0 (.t 19)])) (.ss [.mv 12 (.t 4), .bin 13 .add (.t 12) (.c (.int .i64 1)), .mv 4 (.t 13)])))))) (.seq (.ss [.mv 21 (.t 3), .mv 2 (.t 21)]) (.ret [2]))))
def k_l_toIntS_X : Cfg := { tt := tt, sigs := sigsx, mv := true, bm := [], eqt := eqL, keep := [true, false, true, true, true, false, false, false, false, false, false, true, false, false, false, false, false, false, false, false, false, false], n := 22, pin := [], fz := [], al := false }
theorem c_l_toIntS_X : cFun k_l_toIntS_X Tryz.f49 s_l_toIntS_X = some p_l_toIntS_X := by kernel_rfl
theorem F_l_toIntS_X {W : Wld} {ins outs : List (List D)} (h : pwp (FunOk PP W) p_l_toIntS_X (RetIs outs) (envL ins)) : FunOk PP W n_l_toIntS s_l_toIntS_X ins outs := fun_ok (C := k_l_toIntS_X) (cfg_ok rfl) (eq_ok rfl rfl) mixed Tryz.func49 (by kernel_rfl) (by kernel_rfl) c_l_toIntS_X h

def p_l_toRoot_X : PC := .seq (.ss [.mv 1 (.t 0), .bld 2 [.int .i64 0, .sl [], .int .i64 0] []]) (.seq (.ss [.bld 3 [.int .i64 0, .sl [], .int .i64 0] []]) (.seq (.ss [.nop, .sub 5 1 0 1, .nop, .st 3 0 (.t 5)]) (.seq (.ss [.nop, .sub 8 1 1 1, .call 9 n_l_toIntS s_l_toIntS_X [(.t 8)] [], .nop, .st 3 1 (.t 9)]) (.seq (.ss [.nop, .sub 12 1 2 1, .nop, .st 3 2 (.t 12)]) (.seq (.ss [.sub 14 3 0 3, .st 2 0 (.t 14)]) (.ret [2]))))))
def k_l_toRoot_X : Cfg := { tt := tt, sigs := sigsx, mv := true, bm := [], eqt := eqL, keep := [true, true, true, true, false, false, false, false, false, false, false, false, false, false, false], n := 15, pin := [], fz := [], al := false }
theorem c_l_toRoot_X : cFun k_l_toRoot_X Tryz.f22 s_l_toRoot_X = some p_l_toRoot_X := by kernel_rfl
theorem F_l_toRoot_X {W : Wld} {ins outs : List (List D)} (h : pwp (FunOk PP W) p_l_toRoot_X (RetIs outs) (envL ins)) : FunOk PP W n_l_toRoot s_l_toRoot_X ins outs := fun_ok (C := k_l_toRoot_X) (cfg_ok rfl) (eq_ok rfl rfl) mixed Tryz.func22 (by kernel_rfl) (by kernel_rfl) c_l_toRoot_X h

def p_l_toFile_X : PC := .seq (.ss [.mv 1 (.t 0), .bld 2 [.int .i64 0, .int .i64 0] []]) (.seq (.ss [.bld 3 [.int .i64 0, .int .i64 0] []]) (.seq (.ss [.nop, .sub 5 1 0 1, .nop, .st 3 0 (.t 5)]) (.seq (.ss [.nop, .sub 8 1 1 1, .nop, .st 3 1 (.t 8)]) (.seq (.ss [.sub 10 3 0 2, .st 2 0 (.t 10)]) (.ret [2])))))
def k_l_toFile_X : Cfg := { tt := tt, sigs := sigsx, mv := true, bm := [], eqt := eqL, keep := [true, true, true, true, false, false, false, false, false, false, false], n := 11, pin := [], fz := [], al := false }
theorem c_l_toFile_X : cFun k_l_toFile_X Tryz.f78 s_l_toFile_X = some p_l_toFile_X := by kernel_rfl
theorem F_l_toFile_X {W : Wld} {ins outs : List (List D)} (h : pwp (FunOk PP W) p_l_toFile_X (RetIs outs) (envL ins)) : FunOk PP W n_l_toFile s_l_toFile_X ins outs := fun_ok (C := k_l_toFile_X) (cfg_ok rfl) (eq_ok rfl rfl) mixed Tryz.func78 (by kernel_rfl) (by kernel_rfl) c_l_toFile_X h

def p_l_toFileS_X : PC := .seq (.ss [.mv 2 (.c (.sl []))]) (.seq (.ss [.mv 5 (.t 0), .len 6 (.t 5), .mk 7 [.int .i64 0, .int .i64 0] (.t 6) (.t 6), .mv 3 (.t 7)]) (.seq (.seq (.ss [.mv 4 (.c (.int .i64 0))]) (.block 0 (.loop (.seq (.seq (.ss [.mv 8 (.t 4), .mv 9 (.t 0), .len 10 (.t 9), .bin 11 .lss (.t 8) (.t 10)]) (.cond (.t 11) (.skip) (.exit 0))) (.seq (.block 1 (.ss [.mv 14 (.t 3), .mv 15 (.t 4), .mv 16 (.t 0), .mv 17 (.t 4), .elp 18 (.t 16) (.t 17) 2, .eld 19 18 0 [.int .i64 0, .int .i64 0], .call 20 n_l_toFile s_l_toFile_X [(.t 19)] [], .elp 21 (.t 14) (.t 15) 2, .els 21 0 3 0 (.t 20)])) (.ss [.mv 12 (.t 4), .bin 13 .add (.t 12) (.c (.int .i64 1)), .mv 4 (.t 13)])))))) (.seq (.ss [.mv 22 (.t 3), .mv 2 (.t 22)]) (.ret [2]))))
def k_l_toFileS_X : Cfg := { tt := tt, sigs := sigsx, mv := true, bm := [], eqt := eqL, keep := [true, false, true, true, true, false, false, false, false, false, false, true, false, false, false, false, false, false, false, false, false, false, false], n := 23, pin := [], fz := [], al := false }
theorem c_l_toFileS_X : cFun k_l_toFileS_X Tryz.f51 s_l_toFileS_X = some p_l_toFileS_X := by kernel_rfl
theorem F_l_toFileS_X {W : Wld} {ins outs : List (List D)} (h : pwp (FunOk PP W) p_l_toFileS_X (RetIs outs) (envL ins)) : FunOk PP W n_l_toFileS s_l_toFileS_X ins outs := fun_ok (C := k_l_toFileS_X) (cfg_ok rfl) (eq_ok rfl rfl) mixed Tryz.func51 (by kernel_rfl) (by kernel_rfl) c_l_toFileS_X h

def p_l_toDep_X : PC := .seq (.ss [.mv 1 (.t 0), .bld 2 [.int .i64 0, .int .i64 0] []]) (.seq (.ss [.bld 3 [.int .i64 0, .int .i64 0] []]) (.seq (.ss [.nop, .sub 5 1 0 1, .nop, .st 3 0 (.t 5)]) (.seq (.ss [.nop, .sub 8 1 1 1, .nop, .st 3 1 (.t 8)]) (.seq (.ss [.sub 10 3 0 2, .st 2 0 (.t 10)]) (.ret [2])))))
def k_l_toDep_X : Cfg := { tt := tt, sigs := sigsx, mv := true, bm := [], eqt := eqL, keep := [true, true, true, true, false, false, false, false, false, false, false], n := 11, pin := [], fz := [], al := false }
theorem c_l_toDep_X : cFun k_l_toDep_X Tryz.f79 s_l_toDep_X = some p_l_toDep_X := by kernel_rfl
theorem F_l_toDep_X {W : Wld} {ins outs : List (List D)} (h : pwp (FunOk PP W) p_l_toDep_X (RetIs outs) (envL ins)) : FunOk PP W n_l_toDep s_l_toDep_X ins outs := fun_ok (C := k_l_toDep_X) (cfg_ok rfl) (eq_ok rfl rfl) mixed Tryz.func79 (by kernel_rfl) (by kernel_rfl) c_l_toDep_X h

def p_l_toDepS_X : PC := .seq (.ss [.mv 2 (.c (.sl []))]) (.seq (.ss [.mv 5 (.t 0), .len 6 (.t 5), .mk 7 [.int .i64 0, .int .i64 0] (.t 6) (.t 6), .mv 3 (.t 7)]) (.seq (.seq (.ss [.mv 4 (.c (.int .i64 0))]) (.block 0 (.loop (.seq (.seq (.ss [.mv 8 (.t 4), .mv 9 (.t 0), .len 10 (.t 9), .bin 11 .lss (.t 8) (.t 10)]) (.cond (.t 11) (.skip) (.exit 0))) (.seq (.block 1 (.ss [.mv 14 (.t 3), .mv 15 (.t 4), .mv 16 (.t 0), .mv 17 (.t 4), .elp 18 (.t 16) (.t 17) 2, .eld 19 18 0 [.int .i64 0, .int .i64 0], .call 20 n_l_toDep s_l_toDep_X [(.t 19)] [], .elp 21 (.t 14) (.t 15) 2, .els 21 0 3 0 (.t 20)])) (.ss [.mv 12 (.t 4), .bin 13 .add (.t 12) (.c (.int .i64 1)), .mv 4 (.t 13)])))))) (.seq (.ss [.mv 22 (.t 3), .mv 2 (.t 22)]) (.ret [2]))))
def k_l_toDepS_X : Cfg := { tt := tt, sigs := sigsx, mv := true, bm := [], eqt := eqL, keep := [true, false, true, true, true, false, false, false, false, false, false, true, false, false, false, false, false, false, false, false, false, false, false], n := 23, pin := [], fz := [], al := false }
theorem c_l_toDepS_X : cFun k_l_toDepS_X Tryz.f52 s_l_toDepS_X = some p_l_toDepS_X := by kernel_rfl
theorem F_l_toDepS_X {W : Wld} {ins outs : List (List D)} (h : pwp (FunOk PP W) p_l_toDepS_X (RetIs outs) (envL ins)) : FunOk PP W n_l_toDepS s_l_toDepS_X ins outs := fun_ok (C := k_l_toDepS_X) (cfg_ok rfl) (eq_ok rfl rfl) mixed Tryz.func52 (by kernel_rfl) (by kernel_rfl) c_l_toDepS_X h

def p_l_toPkg_X : PC := .seq (.ss [.mv 1 (.t 0), .bld 2 [.int .i64 0, .int .i64 0, .sl [], .sl []] []]) (.seq (.ss [.bld 3 [.int .i64 0, .int .i64 0, .sl [], .sl []] []]) (.seq (.ss [.nop, .sub 5 1 0 1, .nop, .st 3 0 (.t 5)]) (.seq (.ss [.nop, .sub 8 1 1 1, .nop, .st 3 1 (.t 8)]) (.seq (.ss [.nop, .sub 11 1 2 1, .call 12 n_l_toFileS s_l_toFileS_X [(.t 11)] [], .nop, .st 3 2 (.t 12)]) (.seq (.ss [.nop, .sub 15 1 3 1, .call 16 n_l_toDepS s_l_toDepS_X [(.t 15)] [], .nop, .st 3 3 (.t 16)]) (.seq (.ss [.sub 18 3 0 4, .st 2 0 (.t 18)]) (.ret [2])))))))
def k_l_toPkg_X : Cfg := { tt := tt, sigs := sigsx, mv := true, bm := [], eqt := eqL, keep := [true, true, true, true, false, false, false, false, false, false, false, false, false, false, false, false, false, false, false], n := 19, pin := [], fz := [], al := false }
theorem c_l_toPkg_X : cFun k_l_toPkg_X Tryz.f24 s_l_toPkg_X = some p_l_toPkg_X := by kernel_rfl
theorem F_l_toPkg_X {W : Wld} {ins outs : List (List D)} (h : pwp (FunOk PP W) p_l_toPkg_X (RetIs outs) (envL ins)) : FunOk PP W n_l_toPkg s_l_toPkg_X ins outs := fun_ok (C := k_l_toPkg_X) (cfg_ok rfl) (eq_ok rfl rfl) mixed Tryz.func24 (by kernel_rfl) (by kernel_rfl) c_l_toPkg_X h

def p_l_toPkgS_X : PC := .seq (.ss [.mv 2 (.c (.sl []))]) (.seq (.ss [.mv 5 (.t 0), .len 6 (.t 5), .mk 7 [.int .i64 0, .int .i64 0, .sl [], .sl []] (.t 6) (.t 6), .mv 3 (.t 7)]) (.seq (.seq (.ss [.mv 4 (.c (.int .i64 0))]) (.block 0 (.loop (.seq (.seq (.ss [.mv 8 (.t 4), .mv 9 (.t 0), .len 10 (.t 9), .bin 11 .lss (.t 8) (.t 10)]) (.cond (.t 11) (.skip) (.exit 0))) (.seq (.block 1 (.ss [.mv 14 (.t 3), .mv 15 (.t 4), .mv 16 (.t 0), .mv 17 (.t 4), .elp 18 (.t 16) (.t 17) 4, .eld 19 18 0 [.int .i64 0, .int .i64 0, .sl [], .sl []], .call 20 n_l_toPkg s_l_toPkg_X [(.t 19)] [], .elp 21 (.t 14) (.t 15) 4, .els 21 0 3 0 (.t 20)])) (.ss [.mv 12 (.t 4), .bin 13 .add (.t 12) (.c (.int .i64 1)), .mv 4 (.t 13)])))))) (.seq (.ss [.mv 22 (.t 3), .mv 2 (.t 22)]) (.ret [2]))))
def k_l_toPkgS_X : Cfg := { tt := tt, sigs := sigsx, mv := true, bm := [], eqt := eqL, keep := [true, false, true, true, true, false, false, false, false, false, false, true, false, false, false, false, false, false, false, false, false, false, false], n := 23, pin := [], fz := [], al := false }
theorem c_l_toPkgS_X : cFun k_l_toPkgS_X Tryz.f8 s_l_toPkgS_X = some p_l_toPkgS_X := by kernel_rfl
theorem F_l_toPkgS_X {W : Wld} {ins outs : List (List D)} (h : pwp (FunOk PP W) p_l_toPkgS_X (RetIs outs) (envL ins)) : FunOk PP W n_l_toPkgS s_l_toPkgS_X ins outs := fun_ok (C := k_l_toPkgS_X) (cfg_ok rfl) (eq_ok rfl rfl) mixed Tryz.func8 (by kernel_rfl) (by kernel_rfl) c_l_toPkgS_X h

def p_l_markIntS_X : PC := .seq (.ss [.mv 4 (.c (.int .i64 0))]) (.seq (.seq (.ss [.mv 5 (.c (.int .i64 0))]) (.block 0 (.loop (.seq (.seq (.ss [.mv 6 (.t 5), .mv 7 (.t 0), .len 8 (.t 7), .bin 9 .lss (.t 6) (.t 8)]) (.cond (.t 9) (.skip) (.exit 0))) (.seq (.block 1 (.seq (.ss [.mv 12 (.t 0), .mv 13 (.t 5), .mv 14 (.t 1), .elp 15 (.t 12) (.t 13) 1, .els 15 0 0 0 (.t 14)]) (.ss [.mv 16 (.t 1), .bin 17 .add (.t 16) (.c (.int .i64 1)), .mv 1 (.t 17)]))) (.ss [.mv 10 (.t 5), .bin 11 .add (.t 10) (.c (.int .i64 1)), .mv 5 (.t 11)])))))) (.seq (.ss [.mv 18 (.t 1), .mv 4 (.t 18)]) (.ret [4, 0])))
def k_l_markIntS_X : Cfg := { tt := tt, sigs := sigsx, mv := true, bm := [], eqt := eqL, keep := [true, true, false, false, true, true, false, false, false, true, false, false, false, false, false, false, false, false, false], n := 19, pin := [0], fz := [], al := false }
theorem c_l_markIntS_X : cFunIo k_l_markIntS_X Tryz.f67 s_l_markIntS_X = some p_l_markIntS_X := by kernel_rfl
theorem F_l_markIntS_X {W : Wld} {ins outs : List (List D)} (h : pwp (FunOk PP W) p_l_markIntS_X (RetIs outs) (envL ins)) : FunOk PP W n_l_markIntS s_l_markIntS_X ins outs := fun_io (C := k_l_markIntS_X) (cfg_ok rfl) (eq_ok rfl rfl) mixed Tryz.func67 (by kernel_rfl) c_l_markIntS_X h

def p_l_markRoot_X : PC := .seq (.ss [.mv 2 (.t 0), .mv 4 (.c (.int .i64 0))]) (.seq (.ss [.nop, .sub 6 2 1 1, .mv 7 (.t 1), .ioc 8 n_l_markIntS s_l_markIntS_X (.t 6) (.t 7) 0 1 none, .mv 1 (.t 8)]) (.seq (.ss [.mv 9 (.t 1), .mv 4 (.t 9)]) (.ret [4, 0])))
def k_l_markRoot_X : Cfg := { tt := tt, sigs := sigsx, mv := true, bm := [], eqt := eqL, keep := [true, true, true, false, true, false, false, false, false, false], n := 10, pin := [0], fz := [], al := true }
theorem c_l_markRoot_X : cFunIo k_l_markRoot_X Tryz.f33 s_l_markRoot_X = some p_l_markRoot_X := by kernel_rfl
theorem F_l_markRoot_X {W : Wld} {ins outs : List (List D)} (h : pwp (FunOk PP W) p_l_markRoot_X (RetIs outs) (envL ins)) : FunOk PP W n_l_markRoot s_l_markRoot_X ins outs := fun_io (C := k_l_markRoot_X) (cfg_ok rfl) (eq_ok rfl rfl) mixed Tryz.func33 (by kernel_rfl) c_l_markRoot_X h

def p_l_markFileS_X : PC := .seq (.ss [.mv 4 (.c (.int .i64 0))]) (.seq (.seq (.ss [.mv 5 (.c (.int .i64 0))]) (.block 0 (.loop (.seq (.seq (.ss [.mv 6 (.t 5), .mv 7 (.t 0), .len 8 (.t 7), .bin 9 .lss (.t 6) (.t 8)]) (.cond (.t 9) (.skip) (.exit 0))) (.seq (.block 1 (.seq (.ss [.mv 12 (.t 0), .mv 13 (.t 5), .mv 14 (.t 1), .elp 15 (.t 12) (.t 13) 2, .mv 16 (.t 15), .els 16 0 0 0 (.t 14)]) (.seq (.ss [.mv 17 (.t 1), .bin 18 .add (.t 17) (.c (.int .i64 1)), .mv 1 (.t 18)]) (.seq (.ss [.mv 19 (.t 0), .mv 20 (.t 5), .mv 21 (.t 1), .elp 22 (.t 19) (.t 20) 2, .mv 23 (.t 22), .els 23 1 0 0 (.t 21)]) (.ss [.mv 24 (.t 1), .bin 25 .add (.t 24) (.c (.int .i64 1)), .mv 1 (.t 25)]))))) (.ss [.mv 10 (.t 5), .bin 11 .add (.t 10) (.c (.int .i64 1)), .mv 5 (.t 11)])))))) (.seq (.ss [.mv 26 (.t 1), .mv 4 (.t 26)]) (.ret [4, 0])))
def k_l_markFileS_X : Cfg := { tt := tt, sigs := sigsx, mv := true, bm := [], eqt := eqL, keep := [true, true, false, false, true, true, false, false, false, true, false, false, false, false, false, false, false, false, false, false, false, false, false, false, false, false, false], n := 27, pin := [0], fz := [], al := false }
theorem c_l_markFileS_X : cFunIo k_l_markFileS_X Tryz.f35 s_l_markFileS_X = some p_l_markFileS_X := by kernel_rfl
theorem F_l_markFileS_X {W : Wld} {ins outs : List (List D)} (h : pwp (FunOk PP W) p_l_markFileS_X (RetIs outs) (envL ins)) : FunOk PP W n_l_markFileS s_l_markFileS_X ins outs := fun_io (C := k_l_markFileS_X) (cfg_ok rfl) (eq_ok rfl rfl) mixed Tryz.func35 (by kernel_rfl) c_l_markFileS_X h

def p_l_markDepS_X : PC := .seq (.ss [.mv 4 (.c (.int .i64 0))]) (.seq (.seq (.ss [.mv 5 (.c (.int .i64 0))]) (.block 0 (.loop (.seq (.seq (.ss [.mv 6 (.t 5), .mv 7 (.t 0), .len 8 (.t 7), .bin 9 .lss (.t 6) (.t 8)]) (.cond (.t 9) (.skip) (.exit 0))) (.seq (.block 1 (.seq (.ss [.mv 12 (.t 0), .mv 13 (.t 5), .mv 14 (.t 1), .elp 15 (.t 12) (.t 13) 2, .mv 16 (.t 15), .els 16 0 0 0 (.t 14)]) (.seq (.ss [.mv 17 (.t 1), .bin 18 .add (.t 17) (.c (.int .i64 1)), .mv 1 (.t 18)]) (.seq (.ss [.mv 19 (.t 0), .mv 20 (.t 5), .mv 21 (.t 1), .elp 22 (.t 19) (.t 20) 2, .mv 23 (.t 22), .els 23 1 0 0 (.t 21)]) (.ss [.mv 24 (.t 1), .bin 25 .add (.t 24) (.c (.int .i64 1)), .mv 1 (.t 25)]))))) (.ss [.mv 10 (.t 5), .bin 11 .add (.t 10) (.c (.int .i64 1)), .mv 5 (.t 11)])))))) (.seq (.ss [.mv 26 (.t 1), .mv 4 (.t 26)]) (.ret [4, 0])))
def k_l_markDepS_X : Cfg := { tt := tt, sigs := sigsx, mv := true, bm := [], eqt := eqL, keep := [true, true, false, false, true, true, false, false, false, true, false, false, false, false, false, false, false, false, false, false, false, false, false, false, false, false, false], n := 27, pin := [0], fz := [], al := false }
theorem c_l_markDepS_X : cFunIo k_l_markDepS_X Tryz.f36 s_l_markDepS_X = some p_l_markDepS_X := by kernel_rfl
theorem F_l_markDepS_X {W : Wld} {ins outs : List (List D)} (h : pwp (FunOk PP W) p_l_markDepS_X (RetIs outs) (envL ins)) : FunOk PP W n_l_markDepS s_l_markDepS_X ins outs := fun_io (C := k_l_markDepS_X) (cfg_ok rfl) (eq_ok rfl rfl) mixed Tryz.func36 (by kernel_rfl) c_l_markDepS_X h

def p_l_markPkgS_X : PC := .seq (.ss [.mv 4 (.c (.int .i64 0))]) (.seq (.seq (.ss [.mv 5 (.c (.int .i64 0))]) (.block 0 (.loop (.seq (.seq (.ss [.mv 6 (.t 5), .mv 7 (.t 0), .len 8 (.t 7), .bin 9 .lss (.t 6) (.t 8)]) (.cond (.t 9) (.skip) (.exit 0))) (.seq (.block 1 (.seq (.ss [.mv 12 (.t 0), .mv 13 (.t 5), .mv 14 (.t 1), .elp 15 (.t 12) (.t 13) 4, .mv 16 (.t 15), .els 16 0 0 0 (.t 14)]) (.seq (.ss [.mv 17 (.t 1), .bin 18 .add (.t 17) (.c (.int .i64 1)), .mv 1 (.t 18)]) (.seq (.ss [.mv 19 (.t 0), .mv 20 (.t 5), .mv 21 (.t 1), .elp 22 (.t 19) (.t 20) 4, .mv 23 (.t 22), .els 23 1 0 0 (.t 21)]) (.seq (.ss [.mv 24 (.t 1), .bin 25 .add (.t 24) (.c (.int .i64 1)), .mv 1 (.t 25)]) (.seq (.ss [.mv 26 (.t 0), .mv 27 (.t 5), .elp 28 (.t 26) (.t 27) 4, .mv 29 (.t 28), .eld 30 29 2 [.sl []], .mv 31 (.t 1), .ioc 32 n_l_markFileS s_l_markFileS_X (.t 30) (.t 31) 0 0 (some (29, 2)), .mv 1 (.t 32)]) (.ss [.mv 33 (.t 0), .mv 34 (.t 5), .elp 35 (.t 33) (.t 34) 4, .mv 36 (.t 35), .eld 37 36 3 [.sl []], .mv 38 (.t 1), .ioc 39 n_l_markDepS s_l_markDepS_X (.t 37) (.t 38) 0 0 (some (36, 3)), .mv 1 (.t 39)]))))))) (.ss [.mv 10 (.t 5), .bin 11 .add (.t 10) (.c (.int .i64 1)), .mv 5 (.t 11)])))))) (.seq (.ss [.mv 40 (.t 1), .mv 4 (.t 40)]) (.ret [4, 0])))
def k_l_markPkgS_X : Cfg := { tt := tt, sigs := sigsx, mv := true, bm := [], eqt := eqL, keep := [true, true, false, false, true, true, false, false, false, true, false, false, false, false, false, false, false, false, false, false, false, false, false, false, false, false, false, false, false, false, false, false, false, false, false, false, false, false, false, false, false], n := 41, pin := [0], fz := [], al := false }
theorem c_l_markPkgS_X : cFunIo k_l_markPkgS_X Tryz.f13 s_l_markPkgS_X = some p_l_markPkgS_X := by kernel_rfl
theorem F_l_markPkgS_X {W : Wld} {ins outs : List (List D)} (h : pwp (FunOk PP W) p_l_markPkgS_X (RetIs outs) (envL ins)) : FunOk PP W n_l_markPkgS s_l_markPkgS_X ins outs := fun_io (C := k_l_markPkgS_X) (cfg_ok rfl) (eq_ok rfl rfl) mixed Tryz.func13 (by kernel_rfl) c_l_markPkgS_X h

def p_i_Pkg_copied_X : PC := .seq (.ss [.mv 1 (.t 0), .bld 2 [.int .i64 0, .int .i64 0, .sl [], .sl []] []]) (.seq (.ss [.nop, .sub 4 1 2 1, .call 5 n_sl_Clone_File s_sl_Clone_File_X [(.t 4)] [], .nop, .sub 7 1 3 1, .call 8 n_sl_Clone_Dep s_sl_Clone_Dep_X [(.t 7)] [], .nop, .st 1 2 (.t 5), .nop, .st 1 3 (.t 8)]) (.seq (.ss [.sub 11 1 0 4, .st 2 0 (.t 11)]) (.ret [2])))
def k_i_Pkg_copied_X : Cfg := { tt := tt, sigs := sigsx, mv := true, bm := [], eqt := eqL, keep := [true, true, true, false, false, false, false, false, false, false, false, false], n := 12, pin := [], fz := [], al := false }
theorem c_i_Pkg_copied_X : cFun k_i_Pkg_copied_X Tryz.f29 s_i_Pkg_copied_X = some p_i_Pkg_copied_X := by kernel_rfl
theorem F_i_Pkg_copied_X {W : Wld} {ins outs : List (List D)} (h : pwp (FunOk PP W) p_i_Pkg_copied_X (RetIs outs) (envL ins)) : FunOk PP W n_i_Pkg_copied s_i_Pkg_copied_X ins outs := fun_ok (C := k_i_Pkg_copied_X) (cfg_ok rfl) (eq_ok rfl rfl) mixed Tryz.func29 (by kernel_rfl) (by kernel_rfl) c_i_Pkg_copied_X h

def p_l_markTrust_X : PC := .seq (.ss [.mv 2 (.t 0), .mv 4 (.c (.int .i64 0))]) (.seq (.ss [.nop, .sub 6 2 0 3, .mv 7 (.t 1), .ioc 8 n_l_markRoot s_l_markRoot_X (.t 6) (.t 7) 0 0 none, .mv 1 (.t 8)]) (.seq (.ss [.nop, .sub 10 2 4 3, .mv 11 (.t 1), .ioc 12 n_l_markIndex s_l_markIndex_X (.t 10) (.t 11) 0 4 none, .mv 1 (.t 12)]) (.seq (.ss [.mv 13 (.t 1), .mv 4 (.t 13)]) (.ret [4, 0]))))
def k_l_markTrust_X : Cfg := { tt := tt, sigs := sigsx, mv := true, bm := [], eqt := eqL, keep := [true, true, true, false, true, false, false, false, false, false, false, false, false, false], n := 14, pin := [0], fz := [], al := true }
theorem c_l_markTrust_X : cFunIo k_l_markTrust_X Tryz.f12 s_l_markTrust_X = some p_l_markTrust_X := by kernel_rfl
theorem F_l_markTrust_X {W : Wld} {ins outs : List (List D)} (h : pwp (FunOk PP W) p_l_markTrust_X (RetIs outs) (envL ins)) : FunOk PP W n_l_markTrust s_l_markTrust_X ins outs := fun_io (C := k_l_markTrust_X) (cfg_ok rfl) (eq_ok rfl rfl) mixed Tryz.func12 (by kernel_rfl) c_l_markTrust_X h

def p_l_markIndex_X : PC := .seq (.ss [.mv 2 (.t 0), .mv 4 (.c (.int .i64 0))]) (.seq (.ss [.nop, .sub 6 2 2 1, .mv 7 (.t 1), .ioc 8 n_l_markMetaS s_l_markMetaS_X (.t 6) (.t 7) 0 2 none, .mv 1 (.t 8)]) (.seq (.ss [.mv 9 (.t 1), .mv 4 (.t 9)]) (.ret [4, 0])))
def k_l_markIndex_X : Cfg := { tt := tt, sigs := sigsx, mv := true, bm := [], eqt := eqL, keep := [true, true, true, false, true, false, false, false, false, false], n := 10, pin := [0], fz := [], al := true }
theorem c_l_markIndex_X : cFunIo k_l_markIndex_X Tryz.f34 s_l_markIndex_X = some p_l_markIndex_X := by kernel_rfl
theorem F_l_markIndex_X {W : Wld} {ins outs : List (List D)} (h : pwp (FunOk PP W) p_l_markIndex_X (RetIs outs) (envL ins)) : FunOk PP W n_l_markIndex s_l_markIndex_X ins outs := fun_io (C := k_l_markIndex_X) (cfg_ok rfl) (eq_ok rfl rfl) mixed Tryz.func34 (by kernel_rfl) c_l_markIndex_X h

def p_l_markMetaS_X : PC := .seq (.ss [.mv 4 (.c (.int .i64 0))]) (.seq (.seq (.ss [.mv 5 (.c (.int .i64 0))]) (.block 0 (.loop (.seq (.seq (.ss [.mv 6 (.t 5), .mv 7 (.t 0), .len 8 (.t 7), .bin 9 .lss (.t 6) (.t 8)]) (.cond (.t 9) (.skip) (.exit 0))) (.seq (.block 1 (.seq (.ss [.mv 12 (.t 0), .mv 13 (.t 5), .mv 14 (.t 1), .elp 15 (.t 12) (.t 13) 3, .mv 16 (.t 15), .els 16 0 0 0 (.t 14)]) (.seq (.ss [.mv 17 (.t 1), .bin 18 .add (.t 17) (.c (.int .i64 1)), .mv 1 (.t 18)]) (.seq (.ss [.mv 19 (.t 0), .mv 20 (.t 5), .mv 21 (.t 1), .elp 22 (.t 19) (.t 20) 3, .mv 23 (.t 22), .els 23 1 0 0 (.t 21)]) (.seq (.ss [.mv 24 (.t 1), .bin 25 .add (.t 24) (.c (.int .i64 1)), .mv 1 (.t 25)]) (.seq (.ss [.mv 26 (.t 0), .mv 27 (.t 5), .mv 28 (.t 1), .elp 29 (.t 26) (.t 27) 3, .mv 30 (.t 29), .els 30 2 0 0 (.t 28)]) (.ss [.mv 31 (.t 1), .bin 32 .add (.t 31) (.c (.int .i64 1)), .mv 1 (.t 32)]))))))) (.ss [.mv 10 (.t 5), .bin 11 .add (.t 10) (.c (.int .i64 1)), .mv 5 (.t 11)])))))) (.seq (.ss [.mv 33 (.t 1), .mv 4 (.t 33)]) (.ret [4, 0])))
def k_l_markMetaS_X : Cfg := { tt := tt, sigs := sigsx, mv := true, bm := [], eqt := eqL, keep := [true, true, false, false, true, true, false, false, false, true, false, false, false, false, false, false, false, false, false, false, false, false, false, false, false, false, false, false, false, false, false, false, false, false], n := 34, pin := [0], fz := [], al := false }
theorem c_l_markMetaS_X : cFunIo k_l_markMetaS_X Tryz.f68 s_l_markMetaS_X = some p_l_markMetaS_X := by kernel_rfl
theorem F_l_markMetaS_X {W : Wld} {ins outs : List (List D)} (h : pwp (FunOk PP W) p_l_markMetaS_X (RetIs outs) (envL ins)) : FunOk PP W n_l_markMetaS s_l_markMetaS_X ins outs := fun_io (C := k_l_markMetaS_X) (cfg_ok rfl) (eq_ok rfl rfl) mixed Tryz.func68 (by kernel_rfl) c_l_markMetaS_X h

def p_l_toMeta_X : PC := .seq (.ss [.mv 1 (.t 0), .bld 2 [.int .i64 0, .int .i64 0, .int .i64 0] []]) (.seq (.ss [.bld 3 [.int .i64 0, .int .i64 0, .int .i64 0] []]) (.seq (.ss [.nop, .sub 5 1 0 1, .nop, .st 3 0 (.t 5)]) (.seq (.ss [.nop, .sub 8 1 1 1, .nop, .st 3 1 (.t 8)]) (.seq (.ss [.nop, .sub 11 1 2 1, .nop, .st 3 2 (.t 11)]) (.seq (.ss [.sub 13 3 0 3, .st 2 0 (.t 13)]) (.ret [2]))))))
def k_l_toMeta_X : Cfg := { tt := tt, sigs := sigsx, mv := true, bm := [], eqt := eqL, keep := [true, true, true, true, false, false, false, false, false, false, false, false, false, false], n := 14, pin := [], fz := [], al := false }
theorem c_l_toMeta_X : cFun k_l_toMeta_X Tryz.f77 s_l_toMeta_X = some p_l_toMeta_X := by kernel_rfl
theorem F_l_toMeta_X {W : Wld} {ins outs : List (List D)} (h : pwp (FunOk PP W) p_l_toMeta_X (RetIs outs) (envL ins)) : FunOk PP W n_l_toMeta s_l_toMeta_X ins outs := fun_ok (C := k_l_toMeta_X) (cfg_ok rfl) (eq_ok rfl rfl) mixed Tryz.func77 (by kernel_rfl) (by kernel_rfl) c_l_toMeta_X h

def p_l_toMetaS_X : PC := .seq (.ss [.mv 2 (.c (.sl []))]) (.seq (.ss [.mv 5 (.t 0), .len 6 (.t 5), .mk 7 [.int .i64 0, .int .i64 0, .int .i64 0] (.t 6) (.t 6), .mv 3 (.t 7)]) (.seq (.seq (.ss [.mv 4 (.c (.int .i64 0))]) (.block 0 (.loop (.seq (.seq (.ss [.mv 8 (.t 4), .mv 9 (.t 0), .len 10 (.t 9), .bin 11 .lss (.t 8) (.t 10)]) (.cond (.t 11) (.skip) (.exit 0))) (.seq (.block 1 (.ss [.mv 14 (.t 3), .mv 15 (.t 4), .mv 16 (.t 0), .mv 17 (.t 4), .elp 18 (.t 16) (.t 17) 3, .eld 19 18 0 [.int .i64 0, .int .i64 0, .int .i64 0], .call 20 n_l_toMeta s_l_toMeta_X [(.t 19)] [], .elp 21 (.t 14) (.t 15) 3, .els 21 0 3 0 (.t 20)])) (.ss [.mv 12 (.t 4), .bin 13 .add (.t 12) (.c (.int .i64 1)), .mv 4 (.t 13)])))))) (.seq (.ss [.mv 22 (.t 3), .mv 2 (.t 22)]) (.ret [2]))))
def k_l_toMetaS_X : Cfg := { tt := tt, sigs := sigsx, mv := true, bm := [], eqt := eqL, keep := [true, false, true, true, true, false, false, false, false, false, false, true, false, false, false, false, false, false, false, false, false, false, false], n := 23, pin := [], fz := [], al := false }
theorem c_l_toMetaS_X : cFun k_l_toMetaS_X Tryz.f50 s_l_toMetaS_X = some p_l_toMetaS_X := by kernel_rfl
theorem F_l_toMetaS_X {W : Wld} {ins outs : List (List D)} (h : pwp (FunOk PP W) p_l_toMetaS_X (RetIs outs) (envL ins)) : FunOk PP W n_l_toMetaS s_l_toMetaS_X ins outs := fun_ok (C := k_l_toMetaS_X) (cfg_ok rfl) (eq_ok rfl rfl) mixed Tryz.func50 (by kernel_rfl) (by kernel_rfl) c_l_toMetaS_X h

def p_l_toIndex_X : PC := .seq (.ss [.mv 1 (.t 0), .bld 2 [.int .i64 0, .int .i64 0, .sl []] []]) (.seq (.ss [.bld 3 [.int .i64 0, .int .i64 0, .sl []] []]) (.seq (.ss [.nop, .sub 5 1 0 1, .nop, .st 3 0 (.t 5)]) (.seq (.ss [.nop, .sub 8 1 1 1, .nop, .st 3 1 (.t 8)]) (.seq (.ss [.nop, .sub 11 1 2 1, .call 12 n_l_toMetaS s_l_toMetaS_X [(.t 11)] [], .nop, .st 3 2 (.t 12)]) (.seq (.ss [.sub 14 3 0 3, .st 2 0 (.t 14)]) (.ret [2]))))))
def k_l_toIndex_X : Cfg := { tt := tt, sigs := sigsx, mv := true, bm := [], eqt := eqL, keep := [true, true, true, true, false, false, false, false, false, false, false, false, false, false, false], n := 15, pin := [], fz := [], al := false }
theorem c_l_toIndex_X : cFun k_l_toIndex_X Tryz.f23 s_l_toIndex_X = some p_l_toIndex_X := by kernel_rfl
theorem F_l_toIndex_X {W : Wld} {ins outs : List (List D)} (h : pwp (FunOk PP W) p_l_toIndex_X (RetIs outs) (envL ins)) : FunOk PP W n_l_toIndex s_l_toIndex_X ins outs := fun_ok (C := k_l_toIndex_X) (cfg_ok rfl) (eq_ok rfl rfl) mixed Tryz.func23 (by kernel_rfl) (by kernel_rfl) c_l_toIndex_X h

def p_l_toTrust_X : PC := .seq (.ss [.mv 1 (.t 0), .bld 2 [.int .i64 0, .sl [], .int .i64 0, .bool false, .int .i64 0, .int .i64 0, .sl []] []]) (.seq (.ss [.bld 3 [.int .i64 0, .sl [], .int .i64 0, .bool false, .int .i64 0, .int .i64 0, .sl []] []]) (.seq (.ss [.nop, .sub 5 1 0 3, .call 6 n_l_toRoot s_l_toRoot_X [(.t 5)] [], .nop, .st 3 0 (.t 6)]) (.seq (.ss [.nop, .sub 9 1 3 1, .nop, .st 3 3 (.t 9)]) (.seq (.ss [.nop, .sub 12 1 4 3, .call 13 n_l_toIndex s_l_toIndex_X [(.t 12)] [], .nop, .st 3 4 (.t 13)]) (.seq (.ss [.sub 15 3 0 7, .st 2 0 (.t 15)]) (.ret [2]))))))
def k_l_toTrust_X : Cfg := { tt := tt, sigs := sigsx, mv := true, bm := [], eqt := eqL, keep := [true, true, true, true, false, false, false, false, false, false, false, false, false, false, false, false], n := 16, pin := [], fz := [], al := false }
theorem c_l_toTrust_X : cFun k_l_toTrust_X Tryz.f7 s_l_toTrust_X = some p_l_toTrust_X := by kernel_rfl
theorem F_l_toTrust_X {W : Wld} {ins outs : List (List D)} (h : pwp (FunOk PP W) p_l_toTrust_X (RetIs outs) (envL ins)) : FunOk PP W n_l_toTrust s_l_toTrust_X ins outs := fun_ok (C := k_l_toTrust_X) (cfg_ok rfl) (eq_ok rfl rfl) mixed Tryz.func7 (by kernel_rfl) (by kernel_rfl) c_l_toTrust_X h

def p_l_FnExactStoreTrim_X : PC := .seq (.ss [.mv 2 (.t 0), .mv 4 (.c (.bool false))]) (.seq (.ss [.mv 5 (.c (.int .i64 1048576))]) (.seq (.ss [.sub 14 2 0 7, .mv 15 (.t 5), .call 16 n_l_szTrust s_l_szTrust [(.t 14), (.t 15)] [], .mv 5 (.t 16)]) (.seq (.seq (.ss [.mv 17 (.t 5), .bin 18 .lss (.t 17) (.c (.int .i64 0))]) (.cond (.t 18) (.seq (.ss [.mv 4 (.c (.bool true))]) (.ret [4])) (.skip))) (.seq (.ss [.mv 19 (.t 1), .mv 20 (.t 5), .call 21 n_l_szPkgS s_l_szPkgS [(.t 19), (.t 20)] [], .mv 5 (.t 21)]) (.seq (.seq (.ss [.mv 22 (.t 5), .bin 23 .lss (.t 22) (.c (.int .i64 0))]) (.cond (.t 23) (.seq (.ss [.mv 4 (.c (.bool true))]) (.ret [4])) (.skip))) (.seq (.ss [.sub 24 2 0 7, .call 25 n_l_toTrust s_l_toTrust_X [(.t 24)] [], .mv 26 (.t 1), .call 27 n_l_toPkgS s_l_toPkgS_X [(.t 26)] [], .call 28 n_s_StoreTrim s_s_StoreTrim [(.t 25), (.t 27)] [], .mv 6 (.t 28)]) (.seq (.ss [.sub 29 2 0 7, .call 30 n_l_toTrust s_l_toTrust_X [(.t 29)] [], .bld 7 [.int .i64 0, .sl [], .int .i64 0, .bool false, .int .i64 0, .int .i64 0, .sl []] [], .st 7 0 (.t 30)]) (.seq (.ss [.mv 31 (.t 1), .call 32 n_l_toPkgS s_l_toPkgS_X [(.t 31)] [], .mv 8 (.t 32)]) (.seq (.ss [.sub 33 7 0 7, .mv 34 (.t 8), .call 35 n_i_StoreTrim s_i_StoreTrim_X [(.t 33), (.t 34)] [], .mv 9 (.t 35)]) (.seq (.seq (.ss [.mv 36 (.t 9), .mv 37 (.t 6), .call 38 n_l_eqPkgS s_l_eqPkgS [(.t 36), (.t 37)] [], .un 39 .not (.t 38)]) (.cond (.t 39) (.seq (.ss [.mv 4 (.c (.bool false))]) (.ret [4])) (.skip))) (.seq (.seq (.ss [.sub 40 7 0 7, .sub 41 2 0 7, .call 42 n_l_toTrust s_l_toTrust_X [(.t 41)] [], .call 43 n_l_eqTrust s_l_eqTrust [(.t 40), (.t 42)] [], .un 44 .not (.t 43)]) (.cond (.t 44) (.seq (.ss [.mv 4 (.c (.bool false))]) (.ret [4])) (.skip))) (.seq (.seq (.ss [.mv 45 (.t 8), .mv 46 (.t 1), .call 47 n_l_toPkgS s_l_toPkgS_X [(.t 46)] [], .call 48 n_l_eqPkgS s_l_eqPkgS [(.t 45), (.t 47)] [], .un 49 .not (.t 48)]) (.cond (.t 49) (.seq (.ss [.mv 4 (.c (.bool false))]) (.ret [4])) (.skip))) (.seq (.ss [.mv 10 (.c (.int .i64 1))]) (.seq (.ss [.sub 50 7 0 7, .mv 51 (.t 10), .ioc 52 n_l_markTrust s_l_markTrust_X (.t 50) (.t 51) 7 0 none, .mv 10 (.t 52)]) (.seq (.ss [.mv 53 (.t 8), .mv 54 (.t 10), .ioc 55 n_l_markPkgS s_l_markPkgS_X (.t 53) (.t 54) 8 0 none, .mv 10 (.t 55)]) (.seq (.seq (.ss [.mv 56 (.t 10), .bin 57 .lss (.t 56) (.c (.int .i64 0)), .mv 58 (.t 57), .g 58 false 59 (.mv 59 (.t 9)), .g 58 false 60 (.mv 60 (.t 6)), .g 58 false 61 (.call 61 n_l_eqPkgS s_l_eqPkgS [(.t 59), (.t 60)] []), .g 58 false 62 (.un 62 .not (.t 61)), .pick 63 (.t 58) (.c (.bool true)) (.t 62)]) (.cond (.t 63) (.seq (.ss [.mv 4 (.c (.bool false))]) (.ret [4])) (.skip))) (.seq (.ss [.mv 11 (.c (.int .i64 1))]) (.seq (.ss [.mv 64 (.t 9), .mv 65 (.t 11), .ioc 66 n_l_markPkgS s_l_markPkgS_X (.t 64) (.t 65) 9 0 none, .mv 11 (.t 66)]) (.seq (.ss [.mv 12 (.c (.int .i64 1))]) (.seq (.ss [.mv 67 (.t 9), .mv 68 (.t 12), .call 69 n_l_heldPkgS s_l_heldPkgS [(.t 67), (.t 68)] [], .mv 12 (.t 69)]) (.seq (.seq (.ss [.mv 70 (.t 12), .bin 71 .lss (.t 70) (.c (.int .i64 0))]) (.cond (.t 71) (.seq (.ss [.mv 4 (.c (.bool false))]) (.ret [4])) (.skip))) (.seq (.seq (.ss [.mv 72 (.t 12), .mv 73 (.t 11), .bin 74 .neq (.t 72) (.t 73)]) (.cond (.t 74) (.seq (.ss [.mv 4 (.c (.bool false))]) (.ret [4])) (.skip))) (.seq (.ss [.sub 75 2 0 7, .call 76 n_l_toTrust s_l_toTrust_X [(.t 75)] [], .mv 77 (.t 1), .call 78 n_l_toPkgS s_l_toPkgS_X [(.t 77)] [], .call 79 n_i_StoreTrim s_i_StoreTrim_X [(.t 76), (.t 78)] [], .mv 13 (.t 79)]) (.seq (.seq (.ss [.mv 80 (.t 13), .mv 81 (.t 6), .call 82 n_l_eqPkgS s_l_eqPkgS [(.t 80), (.t 81)] [], .un 83 .not (.t 82)]) (.cond (.t 83) (.seq (.ss [.mv 4 (.c (.bool false))]) (.ret [4])) (.skip))) (.seq (.ss [.mv 12 (.c (.int .i64 1))]) (.seq (.ss [.mv 84 (.t 9), .mv 85 (.t 12), .call 86 n_l_heldPkgS s_l_heldPkgS [(.t 84), (.t 85)] [], .mv 12 (.t 86)]) (.seq (.seq (.ss [.mv 87 (.t 12), .bin 88 .lss (.t 87) (.c (.int .i64 0))]) (.cond (.t 88) (.seq (.ss [.mv 4 (.c (.bool false))]) (.ret [4])) (.skip))) (.seq (.seq (.ss [.mv 89 (.t 12), .mv 90 (.t 11), .bin 91 .neq (.t 89) (.t 90)]) (.cond (.t 91) (.seq (.ss [.mv 4 (.c (.bool false))]) (.ret [4])) (.skip))) (.seq (.ss [.mv 4 (.c (.bool true))]) (.ret [4]))))))))))))))))))))))))))))))
def k_l_FnExactStoreTrim_X : Cfg := { tt := tt, sigs := sigsx, mv := true, bm := [], eqt := eqL, keep := [true, true, true, false, true, true, true, true, true, true, true, true, true, true, false, false, false, false, true, false, false, false, false, true, false, false, false, false, false, false, false, false, false, false, false, false, false, false, false, true, false, false, false, false, true, false, false, false, false, true, false, false, false, false, false, false, false, false, false, false, false, false, false, true, false, false, false, false, false, false, false, true, false, false, true, false, false, false, false, false, false, false, false, true, false, false, false, false, true, false, false, true], n := 92, pin := [], fz := [], al := false }
theorem c_l_FnExactStoreTrim_X : cFun k_l_FnExactStoreTrim_X Tryz.f3 s_l_FnExactStoreTrim_X = some p_l_FnExactStoreTrim_X := by kernel_rfl
theorem F_l_FnExactStoreTrim_X {W : Wld} {ins outs : List (List D)} (h : pwp (FunOk PP W) p_l_FnExactStoreTrim_X (RetIs outs) (envL ins)) : FunOk PP W n_l_FnExactStoreTrim s_l_FnExactStoreTrim_X ins outs := fun_ok (C := k_l_FnExactStoreTrim_X) (cfg_ok rfl) (eq_ok rfl rfl) mixed Tryz.func3 (by kernel_rfl) (by kernel_rfl) c_l_FnExactStoreTrim_X h

def p_i_StoreTrim_X : PC := .seq (.ss [.mv 2 (.t 0), .mv 4 (.c (.sl []))]) (.seq (.seq (.ss [.sub 8 2 0 7, .call 9 n_i_TrustOk s_i_TrustOk [(.t 8)] [], .un 10 .not (.t 9), .mv 11 (.t 10), .g 11 false 12 (.mv 12 (.t 1)), .g 11 false 13 (.call 13 n_i_StoreOk s_i_StoreOk [(.t 12)] []), .g 11 false 14 (.un 14 .not (.t 13)), .pick 15 (.t 11) (.c (.bool true)) (.t 14)]) (.cond (.t 15) (.seq (.ss [.mv 4 (.c (.sl []))]) (.ret [4])) (.skip))) (.seq (.ss [.mv 5 (.c (.sl []))]) (.seq (.seq (.ss [.mv 16 (.t 1), .len 17 (.t 16), .mv 18 (.c (.int .i64 0))]) (.block 0 (.loop (.seq (.ss [.bin 19 .lss (.t 18) (.t 17)]) (.seq (.cond (.t 19) (.skip) (.exit 0)) (.seq (.block 1 (.seq (.ss [.elp 20 (.t 16) (.t 18) 4, .eld 21 20 0 [.int .i64 0, .int .i64 0, .sl [], .sl []], .bld 7 [.int .i64 0, .int .i64 0, .sl [], .sl []] [], .st 7 0 (.t 21)]) (.seq (.ss [.nop, .sub 23 2 3 1, .mv 24 (.t 23), .g 24 true 25 (.nop), .g 24 true 26 (.nop), .g 24 true 27 (.sub 27 2 6 1), .g 24 true 28 (.sub 28 7 0 4), .g 24 true 29 (.call 29 n_i_metaOf s_i_metaOf [(.t 28)] []), .g 24 true 30 (.call 30 n_sl_Contains_Meta s_sl_Contains_Meta [(.t 27), (.t 29)] []), .pick 31 (.t 24) (.t 30) (.c (.bool false))]) (.cond (.t 31) (.ss [.mv 32 (.t 5), .sub 33 7 0 4, .call 34 n_i_Pkg_copied s_i_Pkg_copied_X [(.t 33)] [], .lit 35 1 [.int .i64 0, .int .i64 0, .sl [], .sl []] [(0, (.t 34))], .app 36 4 false (.t 32) (.t 35), .mv 5 (.t 36)]) (.skip))))) (.ss [.bin 37 .add (.t 18) (.c (.int .i64 1)), .mv 18 (.t 37)]))))))) (.seq (.ss [.mv 38 (.t 5), .mv 4 (.t 38)]) (.ret [4])))))
def k_i_StoreTrim_X : Cfg := { tt := tt, sigs := sigsx, mv := true, bm := [], eqt := eqL, keep := [true, true, true, false, true, true, false, true, false, false, false, false, false, false, false, true, true, true, true, true, false, false, false, false, false, false, false, false, false, false, false, true, false, false, false, false, false, false, false], n := 39, pin := [], fz := [], al := false }
theorem c_i_StoreTrim_X : cFun k_i_StoreTrim_X Tryz.f9 s_i_StoreTrim_X = some p_i_StoreTrim_X := by kernel_rfl
theorem F_i_StoreTrim_X {W : Wld} {ins outs : List (List D)} (h : pwp (FunOk PP W) p_i_StoreTrim_X (RetIs outs) (envL ins)) : FunOk PP W n_i_StoreTrim s_i_StoreTrim_X ins outs := fun_ok (C := k_i_StoreTrim_X) (cfg_ok rfl) (eq_ok rfl rfl) mixed Tryz.func9 (by kernel_rfl) (by kernel_rfl) c_i_StoreTrim_X h

end V
end Go.Proofs.YtnaldhcdcpdbnaaGreatDoor

/-
Plain proofs, first part: ranges, files, dependencies, packages.
-/
namespace Go.Proofs.YtnaldhcdcpdbnaaGreatDoor
namespace V
open Classical
set_option maxRecDepth 100000
variable {W : Wld}

theorem l6In_ok (n lo hi : Int) : FunOk PP W n_s_l6In s_s_l6In [i64 n, i64 lo, i64 hi] [bo (decide (lo ≤ n ∧ n ≤ hi))] := by
 refine F_s_l6In (wq_fun ?_)
 (repeat' first
  | (refine iteB_mk (fun h => ?_) (fun h => ?_) <;> (try simp (disch := omega) only [zB, eqDs, eqD, Nat.reduceAdd, wrap64] at h) <;> (try (exfalso; omega)))
  | (refine Need.mk (by (try simp (disch := omega) only [zB, eqDs, eqD, Nat.reduceAdd, wrap64]); first | exact elp_m (by omega) (by omega) (fun _ => rfl) | exact eld_m (by omega) (by omega) (fun _ => rfl) | exact els_m (by omega) (by omega) (by omega) rfl | exact lsl_m (by omega) (fun _ => rfl) | exact app_nil_m (by omega) (fun _ => rfl) (fun _ => rfl) | exact app_m_one (by omega) (fun _ => rfl) rfl rfl | exact app_m_m (by omega) (fun _ => rfl) (fun _ => rfl)) ?_)
  | (refine Need.mk ?_ ?_)
  | refine rb ?_
  | refine ri ?_
  | refine rs2 ?_ ?_
  | refine rs1 ?_)
 ·simp_all
 ·exact fD (by omega)

theorem in_ok (n lo hi : Int) : FunOk PP W n_i_in s_i_in [i64 n, i64 lo, i64 hi] [bo (decide (lo ≤ n ∧ n ≤ hi))] := by
 refine F_i_in (wq_fun ?_)
 (repeat' first
  | (refine iteB_mk (fun h => ?_) (fun h => ?_) <;> (try simp (disch := omega) only [zB, eqDs, eqD, Nat.reduceAdd, wrap64] at h) <;> (try (exfalso; omega)))
  | (refine Need.mk (by (try simp (disch := omega) only [zB, eqDs, eqD, Nat.reduceAdd, wrap64]); first | exact elp_m (by omega) (by omega) (fun _ => rfl) | exact eld_m (by omega) (by omega) (fun _ => rfl) | exact els_m (by omega) (by omega) (by omega) rfl | exact lsl_m (by omega) (fun _ => rfl) | exact app_nil_m (by omega) (fun _ => rfl) (fun _ => rfl) | exact app_m_one (by omega) (fun _ => rfl) rfl rfl | exact app_m_m (by omega) (fun _ => rfl) (fun _ => rfl)) ?_)
  | (refine Need.mk ?_ ?_)
  | refine rb ?_
  | refine ri ?_
  | refine rs2 ?_ ?_
  | refine rs1 ?_)
 ·simp_all
 ·exact fD (by omega)

theorem isName_ok (n : Int) : FunOk PP W n_i_isName s_i_isName [i64 n] [bo (decide (1 ≤ n ∧ n ≤ 4))] := by
 refine F_i_isName (wq_fun ?_)
 (repeat' first
  | (refine iteB_mk (fun h => ?_) (fun h => ?_) <;> (try simp (disch := omega) only [zB, eqDs, eqD, Nat.reduceAdd, wrap64] at h) <;> (try (exfalso; omega)))
  | (refine Need.mk (by (try simp (disch := omega) only [zB, eqDs, eqD, Nat.reduceAdd, wrap64]); first | exact elp_m (by omega) (by omega) (fun _ => rfl) | exact eld_m (by omega) (by omega) (fun _ => rfl) | exact els_m (by omega) (by omega) (by omega) rfl | exact lsl_m (by omega) (fun _ => rfl) | exact app_nil_m (by omega) (fun _ => rfl) (fun _ => rfl) | exact app_m_one (by omega) (fun _ => rfl) rfl rfl | exact app_m_m (by omega) (fun _ => rfl) (fun _ => rfl)) ?_)
  | (refine call_mk (in_ok ..) rfl ?_)
  | (refine Need.mk ?_ ?_)
  | refine rb ?_
  | refine ri ?_
  | refine rs2 ?_ ?_
  | refine rs1 ?_)
 rfl
theorem isVer_ok (n : Int) : FunOk PP W n_i_isVer s_i_isVer [i64 n] [bo (decide (1 ≤ n ∧ n ≤ 5))] := by
 refine F_i_isVer (wq_fun ?_)
 (repeat' first
  | (refine iteB_mk (fun h => ?_) (fun h => ?_) <;> (try simp (disch := omega) only [zB, eqDs, eqD, Nat.reduceAdd, wrap64] at h) <;> (try (exfalso; omega)))
  | (refine Need.mk (by (try simp (disch := omega) only [zB, eqDs, eqD, Nat.reduceAdd, wrap64]); first | exact elp_m (by omega) (by omega) (fun _ => rfl) | exact eld_m (by omega) (by omega) (fun _ => rfl) | exact els_m (by omega) (by omega) (by omega) rfl | exact lsl_m (by omega) (fun _ => rfl) | exact app_nil_m (by omega) (fun _ => rfl) (fun _ => rfl) | exact app_m_one (by omega) (fun _ => rfl) rfl rfl | exact app_m_m (by omega) (fun _ => rfl) (fun _ => rfl)) ?_)
  | (refine call_mk (in_ok ..) rfl ?_)
  | (refine Need.mk ?_ ?_)
  | refine rb ?_
  | refine ri ?_
  | refine rs2 ?_ ?_
  | refine rs1 ?_)
 rfl

def FileAt (fs : List P2) (i : Int) : Prop := (0 ≤ (ix fs i).a ∧ (ix fs i).a ≤ 5) ∧ (0 ≤ (ix fs i).b ∧ (ix fs i).b ≤ 9) ∧ (0 < i → (ix fs (i - 1)).a < (ix fs i).a)
def FilesOk (fs : List P2) : Prop := Blw fs.length (FileAt fs) ∧ (fs.length : Int) ≤ 2
def DepAt (name : Int) (fs : List P2) (i : Int) : Prop := (1 ≤ (ix fs i).a ∧ (ix fs i).a ≤ 4) ∧ (ix fs i).a ≠ name ∧ (1 ≤ (ix fs i).b ∧ (ix fs i).b ≤ 5) ∧ (0 < i → (ix fs (i - 1)).a < (ix fs i).a)
def DepsOk (name : Int) (fs : List P2) : Prop := Blw fs.length (DepAt name fs) ∧ (fs.length : Int) ≤ 2
def PkOk (p : Pk) : Prop := (1 ≤ p.name ∧ p.name ≤ 4) ∧ (1 ≤ p.ver ∧ p.ver ≤ 5) ∧ FilesOk p.files ∧ DepsOk p.name p.deps
def SmP (p : Pk) : Prop := p.files.length ≤ lim ∧ p.deps.length ≤ lim

theorem l1Files_ok (fs : List P2) (hl : fs.length ≤ lim) : FunOk PP W n_s_l1Files s_s_l1Files [eP2s fs] [bo (decide (FilesOk fs))] := by
 refine F_s_l1Files (wq_fun ?_)
 unfold lim at hl
 refine loop_mk (fun i : Int => 0 ≤ i ∧ i ≤ fs.length ∧ Blw i (FileAt fs)) (fun i => [(3, i64 i), (0, eP2s fs)]) (fun i => (fs.length - i).toNat) 0 ⟨by omega, by omega, blw_zero _⟩ ⟨rfl, rfl, trivial⟩ ?_
 rintro i e ⟨h0, hN, hP⟩
 (repeat' first
  | (refine iteB_mk (fun h => ?_) (fun h => ?_) <;> (try simp (disch := omega) only [zB, eqDs, eqD, Nat.reduceAdd, wrap64] at h) <;> (try (exfalso; omega)))
  | (refine Need.mk (by (try simp (disch := omega) only [zB, eqDs, eqD, Nat.reduceAdd, wrap64]); first | exact elp_m (by omega) (by omega) (fun _ => rfl) | exact eld_m (by omega) (by omega) (fun _ => rfl) | exact els_m (by omega) (by omega) (by omega) rfl | exact lsl_m (by omega) (fun _ => rfl) | exact app_nil_m (by omega) (fun _ => rfl) (fun _ => rfl) | exact app_m_one (by omega) (fun _ => rfl) rfl rfl | exact app_m_m (by omega) (fun _ => rfl) (fun _ => rfl)) ?_)
  | (refine call_mk (l6In_ok ..) rfl ?_)
  | (refine Exists.intro (i + 1) ⟨by omega, ⟨by omega, by omega, blw_succ hP ?_⟩, i64_eq (wrap64 _ (by omega)), rfl, trivial⟩)
  | (refine Need.mk ?_ ?_)
  | refine rb ?_
  | refine ri ?_
  | refine rs2 ?_ ?_
  | refine rs1 ?_)
 ·exact fD (fun ⟨h, _⟩ => by have := h i (by omega) (by omega); unfold FileAt at this; omega)
 ·exact fD (fun ⟨h, _⟩ => by have := h i (by omega) (by omega); unfold FileAt at this; omega)
 ·exact fD (fun ⟨h, _⟩ => by have := h i (by omega) (by omega); unfold FileAt at this; omega)
 ·unfold FileAt; omega
 ·unfold FileAt; omega
 ·simp only [List.length_map]
  congr 1
  simp only [FilesOk, eq_iff_iff]
  exact ⟨fun h1 => ⟨blw_to hP (by omega), h1⟩, fun h => h.2⟩

theorem l1Deps_ok (name : Int) (fs : List P2) (hl : fs.length ≤ lim) : FunOk PP W n_s_l1Deps s_s_l1Deps [i64 name, eP2s fs] [bo (decide (DepsOk name fs))] := by
 refine F_s_l1Deps (wq_fun ?_)
 unfold lim at hl
 refine loop_mk (fun i : Int => 0 ≤ i ∧ i ≤ fs.length ∧ Blw i (DepAt name fs)) (fun i => [(5, i64 i), (1, eP2s fs), (0, i64 name)]) (fun i => (fs.length - i).toNat) 0 ⟨by omega, by omega, blw_zero _⟩ ⟨rfl, rfl, rfl, trivial⟩ ?_
 rintro i e ⟨h0, hN, hP⟩
 (repeat' first
  | (refine iteB_mk (fun h => ?_) (fun h => ?_) <;> (try simp (disch := omega) only [zB, eqDs, eqD, Nat.reduceAdd, wrap64] at h) <;> (try (exfalso; omega)))
  | (refine Need.mk (by (try simp (disch := omega) only [zB, eqDs, eqD, Nat.reduceAdd, wrap64]); first | exact elp_m (by omega) (by omega) (fun _ => rfl) | exact eld_m (by omega) (by omega) (fun _ => rfl) | exact els_m (by omega) (by omega) (by omega) rfl | exact lsl_m (by omega) (fun _ => rfl) | exact app_nil_m (by omega) (fun _ => rfl) (fun _ => rfl) | exact app_m_one (by omega) (fun _ => rfl) rfl rfl | exact app_m_m (by omega) (fun _ => rfl) (fun _ => rfl)) ?_)
  | (refine call_mk (l6In_ok ..) rfl ?_)
  | (refine Exists.intro (i + 1) ⟨by omega, ⟨by omega, by omega, blw_succ hP ?_⟩, i64_eq (wrap64 _ (by omega)), rfl, rfl, trivial⟩)
  | (refine Need.mk ?_ ?_)
  | refine rb ?_
  | refine ri ?_
  | refine rs2 ?_ ?_
  | refine rs1 ?_)
 ·exact fD (fun ⟨h, _⟩ => by have := h i (by omega) (by omega); unfold DepAt at this; omega)
 ·exact fD (fun ⟨h, _⟩ => by have := h i (by omega) (by omega); unfold DepAt at this; omega)
 ·exact fD (fun ⟨h, _⟩ => by have := h i (by omega) (by omega); unfold DepAt at this; omega)
 ·exact fD (fun ⟨h, _⟩ => by have := h i (by omega) (by omega); unfold DepAt at this; omega)
 ·unfold DepAt; omega
 ·unfold DepAt; omega
 ·simp only [List.length_map]
  congr 1
  simp only [DepsOk, eq_iff_iff]
  exact ⟨fun h1 => ⟨blw_to hP (by omega), h1⟩, fun h => h.2⟩

theorem sPkgOk_ok (p : Pk) (hs : SmP p) : FunOk PP W n_s_PkgOk s_s_PkgOk [ePk p] [bo (decide (PkOk p))] := by
 refine F_s_PkgOk (wq_fun ?_)
 (repeat' first
  | (refine iteB_mk (fun h => ?_) (fun h => ?_) <;> (try simp (disch := omega) only [zB, eqDs, eqD, Nat.reduceAdd, wrap64] at h) <;> (try (exfalso; omega)))
  | (refine Need.mk (by (try simp (disch := omega) only [zB, eqDs, eqD, Nat.reduceAdd, wrap64]); first | exact elp_m (by omega) (by omega) (fun _ => rfl) | exact eld_m (by omega) (by omega) (fun _ => rfl) | exact els_m (by omega) (by omega) (by omega) rfl | exact lsl_m (by omega) (fun _ => rfl) | exact app_nil_m (by omega) (fun _ => rfl) (fun _ => rfl) | exact app_m_one (by omega) (fun _ => rfl) rfl rfl | exact app_m_m (by omega) (fun _ => rfl) (fun _ => rfl)) ?_)
  | (refine call_mk (l6In_ok ..) rfl ?_)
  | (refine call_mk (l1Files_ok p.files hs.1) rfl ?_)
  | (refine call_mk (l1Deps_ok p.name p.deps hs.2) rfl ?_)
  | (refine Need.mk ?_ ?_)
  | refine rb ?_
  | refine ri ?_
  | refine rs2 ?_ ?_
  | refine rs1 ?_)
 ·congr 1
  simp only [PkOk, eq_iff_iff]
  exact ⟨fun h => ⟨by assumption, by assumption, by assumption, h⟩, fun h => h.2.2.2⟩
 ·exact fD (fun h => absurd h.2.2.1 (by assumption))
 ·exact fD (fun h => absurd h.2.1 (by assumption))
 ·exact fD (fun h => absurd h.1 (by assumption))

end V
end Go.Proofs.YtnaldhcdcpdbnaaGreatDoor

/-
Plain proofs, first part: ranges, files, dependencies, packages.
-/
namespace Go.Proofs.YtnaldhcdcpdbnaaGreatDoor
namespace V
open Classical
set_option maxRecDepth 100000
variable {W : Wld}

theorem l3Less_ok (n v m w : Int) : FunOk PP W n_s_l3Less s_s_l3Less [i64 n, i64 v, i64 m, i64 w] [bo (decide (n < m ∨ (n = m ∧ v < w)))] := by
 refine F_s_l3Less (wq_fun ?_)
 (repeat' first
  | (refine iteB_mk (fun h => ?_) (fun h => ?_) <;> (try simp (disch := omega) only [zB, eqDs, eqD, Nat.reduceAdd, wrap64] at h) <;> (try (exfalso; omega)))
  | (refine Need.mk (by (try simp (disch := omega) only [zB, eqDs, eqD, Nat.reduceAdd, wrap64]); first | exact elp_m (by omega) (by omega) (fun _ => rfl) | exact eld_m (by omega) (by omega) (fun _ => rfl) | exact els_m (by omega) (by omega) (by omega) rfl | exact lsl_m (by omega) (fun _ => rfl) | exact app_nil_m (by omega) (fun _ => rfl) (fun _ => rfl) | exact app_m_one (by omega) (fun _ => rfl) rfl rfl | exact app_m_m (by omega) (fun _ => rfl) (fun _ => rfl)) ?_)
  | (refine Need.mk ?_ ?_)
  | refine rb ?_
  | refine ri ?_
  | refine rs2 ?_ ?_
  | refine rs1 ?_)
 all_goals simp_all

def lessM (p q : Pk) : Prop := p.name < q.name ∨ (p.name = q.name ∧ p.ver < q.ver)
def PkAt (ps : List Pk) (i : Int) : Prop := PkOk (ix ps i) ∧ (0 < i → lessM (ix ps (i - 1)) (ix ps i))
def PksOk (ps : List Pk) : Prop := Blw ps.length (PkAt ps)
def SmPs (ps : List Pk) : Prop := ps.length ≤ lim ∧ ∀ p ∈ ps, SmP p
theorem smPs_ix {ps : List Pk} (h : SmPs ps) {i : Int} (h0 : 0 ≤ i) (h1 : i < ps.length) : SmP (ix ps i) := h.2 _ (ix_mem h0 h1)

theorem l3Pkgs_ok (ps : List Pk) (hs : SmPs ps) : FunOk PP W n_s_l3Pkgs s_s_l3Pkgs [ePks ps] [bo (decide (PksOk ps))] := by
 refine F_s_l3Pkgs (wq_fun ?_)
 have hl := hs.1
 unfold lim at hl
 refine loop_mk (fun i : Int => 0 ≤ i ∧ i ≤ ps.length ∧ Blw i (PkAt ps)) (fun i => [(3, i64 i), (0, ePks ps)]) (fun i => (ps.length - i).toNat) 0 ⟨by omega, by omega, blw_zero _⟩ ⟨rfl, rfl, trivial⟩ ?_
 rintro i e ⟨h0, hN, hP⟩
 (repeat' first
  | (refine iteB_mk (fun h => ?_) (fun h => ?_) <;> (try simp (disch := omega) only [zB, eqDs, eqD, Nat.reduceAdd, wrap64] at h) <;> (try (exfalso; omega)))
  | (refine Need.mk (by (try simp (disch := omega) only [zB, eqDs, eqD, Nat.reduceAdd, wrap64]); first | exact elp_m (by omega) (by omega) (fun _ => rfl) | exact eld_m (by omega) (by omega) (fun _ => rfl) | exact els_m (by omega) (by omega) (by omega) rfl | exact lsl_m (by omega) (fun _ => rfl) | exact app_nil_m (by omega) (fun _ => rfl) (fun _ => rfl) | exact app_m_one (by omega) (fun _ => rfl) rfl rfl | exact app_m_m (by omega) (fun _ => rfl) (fun _ => rfl)) ?_)
  | (refine call_mk2 (sPkgOk_ok (ix ps i) (smPs_ix hs (by omega) (by omega))) (by simp (disch := omega) only [zB, eqDs, eqD, Nat.reduceAdd, wrap64]) rfl ?_)
  | (refine call_mk2 (l3Less_ok (ix ps (i - 1)).name (ix ps (i - 1)).ver (ix ps i).name (ix ps i).ver) (by simp (disch := omega) only [zB, eqDs, eqD, Nat.reduceAdd, wrap64]) rfl ?_)
  | (refine Exists.intro (i + 1) ⟨by omega, ⟨by omega, by omega, blw_succ hP ?_⟩, i64_eq (wrap64 _ (by omega)), rfl, trivial⟩)
  | (refine Need.mk ?_ ?_)
  | refine rb ?_
  | refine ri ?_
  | refine rs2 ?_ ?_
  | refine rs1 ?_)
 ·exact fD (fun h => absurd (h i (by omega) (by omega)).1 (by assumption))
 ·exact fD (fun h => absurd ((h i (by omega) (by omega)).2 (by assumption)) (by assumption))
 ·exact ⟨by assumption, fun _ => by assumption⟩
 ·exact ⟨by assumption, fun h => absurd h (by assumption)⟩
 ·exact tD (blw_to hP (by omega))

theorem sStoreOk_ok (ps : List Pk) (hs : SmPs ps) : FunOk PP W n_s_StoreOk s_s_StoreOk [ePks ps] [bo (decide (PksOk ps))] := by
 refine F_s_StoreOk (wq_fun ?_)
 (repeat' first
  | (refine iteB_mk (fun h => ?_) (fun h => ?_) <;> (try simp (disch := omega) only [zB, eqDs, eqD, Nat.reduceAdd, wrap64] at h) <;> (try (exfalso; omega)))
  | (refine Need.mk (by (try simp (disch := omega) only [zB, eqDs, eqD, Nat.reduceAdd, wrap64]); first | exact elp_m (by omega) (by omega) (fun _ => rfl) | exact eld_m (by omega) (by omega) (fun _ => rfl) | exact els_m (by omega) (by omega) (by omega) rfl | exact lsl_m (by omega) (fun _ => rfl) | exact app_nil_m (by omega) (fun _ => rfl) (fun _ => rfl) | exact app_m_one (by omega) (fun _ => rfl) rfl rfl | exact app_m_m (by omega) (fun _ => rfl) (fun _ => rfl)) ?_)
  | (refine call_mk (l3Pkgs_ok ps hs) rfl ?_)
  | (refine Need.mk ?_ ?_)
  | refine rb ?_
  | refine ri ?_
  | refine rs2 ?_ ?_
  | refine rs1 ?_)
 rfl
end V
end Go.Proofs.YtnaldhcdcpdbnaaGreatDoor

/-
Plain proofs: what a plan asks of packages.
-/
namespace Go.Proofs.YtnaldhcdcpdbnaaGreatDoor
namespace V
open Classical
set_option maxRecDepth 100000
variable {W : Wld}

theorem l12PkgCopy_ok (p : Pk) (hs : SmP p) : FunOk PP W n_s_l12PkgCopy s_s_l12PkgCopy [ePk p] [ePk p] := by
 refine F_s_l12PkgCopy (wq_fun ?_)
 obtain ⟨h1, h2⟩ := hs
 unfold lim at h1 h2
 (repeat' first
  | (refine iteB_mk (fun h => ?_) (fun h => ?_) <;> (try simp (disch := omega) only [zB, eqDs, eqD, Nat.reduceAdd, wrap64] at h) <;> (try (exfalso; omega)))
  | (refine Need.mk (by (try simp (disch := omega) only [zB, eqDs, eqD, Nat.reduceAdd, wrap64]); first | exact elp_m (by omega) (by omega) (fun _ => rfl) | exact eld_m (by omega) (by omega) (fun _ => rfl) | exact els_m (by omega) (by omega) (by omega) rfl | exact lsl_m (by omega) (fun _ => rfl) | exact app_nil_m (by omega) (fun _ => rfl) (fun _ => rfl) | exact app_m_one (by omega) (fun _ => rfl) rfl rfl | exact app_m_m (by omega) (fun _ => rfl) (fun _ => rfl)) ?_)
  | (refine Need.mk ?_ ?_)
  | refine rb ?_
  | refine ri ?_
  | refine rs2 ?_ ?_
  | refine rs1 ?_)
 rfl

theorem l12Copy_ok (ps : List Pk) (hs : SmPs ps) : FunOk PP W n_s_l12Copy s_s_l12Copy [ePks ps] [ePks ps] := by
 refine F_s_l12Copy (wq_fun ?_)
 have hl := hs.1
 unfold lim at hl
 refine loop_mk (fun i : Int => 0 ≤ i ∧ i ≤ ps.length) (fun i => [(4, i64 i), (0, ePks ps), (3, ePks (ps.take i.toNat))]) (fun i => (ps.length - i).toNat) 0 ⟨by omega, by omega⟩ ⟨rfl, rfl, rfl, trivial⟩ ?_
 rintro i e ⟨h0, hN⟩
 have ht : (ps.take i.toNat).length ≤ i := by rw [List.length_take]; omega
 (repeat' first
  | (refine iteB_mk (fun h => ?_) (fun h => ?_) <;> (try simp (disch := omega) only [zB, eqDs, eqD, Nat.reduceAdd, wrap64] at h) <;> (try (exfalso; omega)))
  | (refine Need.mk (by (try simp (disch := omega) only [zB, eqDs, eqD, Nat.reduceAdd, wrap64]); first | exact elp_m (by omega) (by omega) (fun _ => rfl) | exact eld_m (by omega) (by omega) (fun _ => rfl) | exact els_m (by omega) (by omega) (by omega) rfl | exact lsl_m (by omega) (fun _ => rfl) | exact app_nil_m (by omega) (fun _ => rfl) (fun _ => rfl) | exact app_m_one (by omega) (fun _ => rfl) rfl rfl | exact app_m_m (by omega) (fun _ => rfl) (fun _ => rfl)) ?_)
  | (refine call_mk2 (l12PkgCopy_ok (ix ps i) (smPs_ix hs (by omega) (by omega))) (by simp (disch := omega) only [zB, eqDs, eqD, Nat.reduceAdd, wrap64]) rfl ?_)
  | (refine Exists.intro (i + 1) ⟨by omega, ⟨by omega, by omega⟩, i64_eq (wrap64 _ (by omega)), rfl, ?_, trivial⟩)
  | (refine Need.mk ?_ ?_)
  | refine rb ?_
  | refine ri ?_
  | refine rs2 ?_ ?_
  | refine rs1 ?_)
 ·refine sl_eq ?_
  rw [take_ix ps h0 (by omega), List.map_append]
  rfl
 ·refine sl_eq ?_
  rw [List.take_of_length_le (by omega)]

end V
end Go.Proofs.YtnaldhcdcpdbnaaGreatDoor

/-
Plain proofs: what steps do to a disk, and which steps the reference takes.
-/
namespace Go.Proofs.YtnaldhcdcpdbnaaGreatDoor
namespace V
open Classical
set_option maxRecDepth 100000
variable {W : Wld}

theorem mem_ix {α : Type} [Inhabited α] {xs : List α} {x : α} (h : x ∈ xs) : ∃ i : Int, 0 ≤ i ∧ i < xs.length ∧ ix xs i = x := by
 obtain ⟨n, hn, rfl⟩ := List.mem_iff_getElem.1 h
 exact ⟨n, by omega, by omega, by simp [ix, hn]⟩
end V
end Go.Proofs.YtnaldhcdcpdbnaaGreatDoor

/-
Plain proofs: what functions of the library do.
-/
namespace Go.Proofs.YtnaldhcdcpdbnaaGreatDoor
namespace V
set_option maxRecDepth 100000
variable {W : Wld}

theorem clone_pwp {Φ : Ask} {α : Type} {enc : α → List D} (l : List α) (hl : l.length ≤ lim) (sz : Nat) (hz : ∀ x, (enc x).length = sz) (hs : ∀ x, (enc x).all isScal = true) (z : List D) :
  pwp Φ (.ss [.mv 2 (.c (.sl []))]) (fun x e => x = .normal ∧ ∃ e1 xs, PRel Φ (.mv 3 (.t 0)) e e1 ∧ e1 3 = [.sl xs] ∧ ∀ b, (b = true → xs = []) →
   pwp Φ (.cond (.t 4) (.seq (.ss [.mv 2 (.c (.sl []))]) (.ret [2])) .skip) (PX.then (pwp Φ (.seq (.ss [.lit 5 0 z [], .mv 6 (.t 0), .app 7 sz true (.t 5) (.t 6), .mv 2 (.t 7)]) (.ret [2])) (RetIs [[.sl (l.map enc)]])) (RetIs [[.sl (l.map enc)]])) (put e1 4 [.bool b])) (envL [[.sl (l.map enc)]]) := by
 refine ⟨_, ⟨_, rfl, rfl⟩, rfl, _, l.map enc, rfl, rfl, fun b hb => ?_⟩
 cases b with
 | true =>
  refine .inl ⟨rfl, _, ⟨_, rfl, rfl⟩, ?_⟩
  show ([[D.sl []]] : List (List D)) = [[.sl (l.map enc)]]
  rw [hb rfl]
 | false =>
  have happ : ∀ e : Env, e 5 = [.sl []] → e 6 = [.sl (l.map enc)] → pstep (.app 7 sz true (.t 5) (.t 6)) e = some (put e 7 [.sl (l.map enc)]) := fun e h5 h6 => by
   have h5' : (Opd.t 5).get e = [.sl []] := h5
   have h6' : (Opd.t 6).get e = [.sl (l.map enc)] := h6
   simp only [pstep, h5', h6', List.nil_append]
   refine if_pos ⟨by simpa using hl, fun x hx => ?_, fun _ y hy => ?_⟩
   ·obtain ⟨w, _, rfl⟩ := List.mem_map.1 hx
    exact hz w
   ·obtain ⟨w, _, rfl⟩ := List.mem_map.1 hy
    exact hs w
  exact .inr ⟨rfl, _, ⟨_, rfl, _, rfl, _, happ _ rfl rfl, _, rfl, rfl⟩, rfl⟩

end V
end Go.Proofs.YtnaldhcdcpdbnaaGreatDoor

/-
Plain proofs, the program's packages.
-/
namespace Go.Proofs.YtnaldhcdcpdbnaaGreatDoor
namespace V
open Classical
set_option maxRecDepth 100000
variable {W : Wld}

theorem iPkgOk_ok (p : Pk) (hs : SmP p) : FunOk PP W n_i_PkgOk s_i_PkgOk [ePk p] [bo (decide (PkOk p))] := by
 refine F_i_PkgOk (run_fun ?_)
 obtain ⟨hs1, hs2⟩ := hs
 unfold lim at hs1 hs2
 (repeat' first
  | (refine run_ite rfl (fun h => ?_) (fun h => ?_) <;> (try simp (disch := omega) only [zB, eqDs, eqD, Nat.reduceAdd, wrap64] at h) <;> (try (exfalso; omega)))
  | refine run_nd rfl ?_
  | refine run_nn rfl ?_
  | refine run_call1 rfl (isName_ok ..) rfl ?_
  | refine run_call1 rfl (isVer_ok ..) rfl ?_
  | refine run_need rfl ?_ ?_
  | (refine run_ret rfl ?_ ; first | refine rb ?_ | refine ri ?_ | refine rs2 ?_ ?_ | refine rs1 ?_)
  | refine run_retx rfl ?_)
 ·exact fD (fun h => by unfold PkOk at h; omega)
 ·exact fD (fun h => by unfold PkOk at h; omega)
 ·exact fD (fun h => by unfold PkOk FilesOk at h; omega)
 ·exact fD (fun h => by unfold PkOk DepsOk at h; omega)
 rename_i q1 q2 q3
 have q4 := h
 clear h
 refine run_loop rfl (fun i : Int => 0 ≤ i ∧ i ≤ p.files.length ∧ Blw i (FileAt p.files)) (fun i => [(32, .val (i64 i)), (30, .val (eP2s p.files)), (31, .val (i64 (p.files.map eP2).length)), (1, .val (ePk p))]) (fun i => (p.files.length - i).toNat) 0 ⟨by omega, by omega, blw_zero _⟩ ⟨rfl, rfl, rfl, rfl, trivial⟩ rfl ?_
 rintro i e ⟨h0, hN, hP⟩
 (repeat' first
  | (refine run_ite rfl (fun h => ?_) (fun h => ?_) <;> (try simp (disch := omega) only [zB, eqDs, eqD, Nat.reduceAdd, wrap64] at h) <;> (try (exfalso; omega)))
  | refine run_nd rfl ?_
  | refine run_nn rfl ?_
  | refine run_call1 rfl (in_ok ..) rfl ?_
  | (refine run_next rfl (Exists.intro (i + 1) ⟨by omega, ⟨by omega, by omega, blw_succ hP ?_⟩, i64_eq (wrap64 _ (by omega)), rfl, rfl, rfl, trivial⟩))
  | refine run_need rfl ?_ ?_
  | (refine run_ret rfl ?_ ; first | refine rb ?_ | refine ri ?_ | refine rs2 ?_ ?_ | refine rs1 ?_)
  | refine run_retx rfl ?_)
 ·exact fD (fun ⟨_, _, ⟨h, _⟩, _⟩ => by have := h i (by omega) (by omega); unfold FileAt at this; omega)
 ·exact fD (fun ⟨_, _, ⟨h, _⟩, _⟩ => by have := h i (by omega) (by omega); unfold FileAt at this; omega)
 ·exact fD (fun ⟨_, _, ⟨h, _⟩, _⟩ => by have := h i (by omega) (by omega); unfold FileAt at this; omega)
 ·unfold FileAt; omega
 ·unfold FileAt; omega
 have hF : FilesOk p.files := ⟨blw_to hP (by omega), by omega⟩
 clear hP h0 hN
 refine run_loop rfl (fun i : Int => 0 ≤ i ∧ i ≤ p.deps.length ∧ Blw i (DepAt p.name p.deps)) (fun i => [(67, .val (i64 i)), (65, .val (eP2s p.deps)), (66, .val (i64 (p.deps.map eP2).length)), (1, .val (ePk p))]) (fun i => (p.deps.length - i).toNat) 0 ⟨by omega, by omega, blw_zero _⟩ ⟨rfl, rfl, rfl, rfl, trivial⟩ rfl ?_
 rintro i e ⟨h0, hN, hP⟩
 (repeat' first
  | (refine run_ite rfl (fun h => ?_) (fun h => ?_) <;> (try simp (disch := omega) only [zB, eqDs, eqD, Nat.reduceAdd, wrap64] at h) <;> (try (exfalso; omega)))
  | refine run_nd rfl ?_
  | refine run_nn rfl ?_
  | refine run_call1 rfl (isName_ok ..) rfl ?_
  | refine run_call1 rfl (isVer_ok ..) rfl ?_
  | (refine run_next rfl (Exists.intro (i + 1) ⟨by omega, ⟨by omega, by omega, blw_succ hP ?_⟩, i64_eq (wrap64 _ (by omega)), rfl, rfl, rfl, trivial⟩))
  | refine run_need rfl ?_ ?_
  | (refine run_ret rfl ?_ ; first | refine rb ?_ | refine ri ?_ | refine rs2 ?_ ?_ | refine rs1 ?_)
  | refine run_retx rfl ?_)
 ·exact fD (fun ⟨_, _, _, h, _⟩ => by have := h i (by omega) (by omega); unfold DepAt at this; omega)
 ·exact fD (fun ⟨_, _, _, h, _⟩ => by have := h i (by omega) (by omega); unfold DepAt at this; omega)
 ·exact fD (fun ⟨_, _, _, h, _⟩ => by have := h i (by omega) (by omega); unfold DepAt at this; omega)
 ·exact fD (fun ⟨_, _, _, h, _⟩ => by have := h i (by omega) (by omega); unfold DepAt at this; omega)
 ·unfold DepAt; omega
 ·unfold DepAt; omega
 ·exact tD ⟨q1, q2, hF, blw_to hP (by omega), by omega⟩

end V
end Go.Proofs.YtnaldhcdcpdbnaaGreatDoor

/-
Plain proofs: what the laws compare.
-/
namespace Go.Proofs.YtnaldhcdcpdbnaaGreatDoor
namespace V
open Classical
set_option maxRecDepth 100000
variable {W : Wld}

theorem p2_ext {p q : P2} (h1 : p.a = q.a) (h2 : p.b = q.b) : p = q := by cases p; cases q; simp_all
theorem pk_ext {p q : Pk} (h1 : p.name = q.name) (h2 : p.ver = q.ver) (h3 : p.files = q.files) (h4 : p.deps = q.deps) : p = q := by cases p; cases q; simp_all

end V
end Go.Proofs.YtnaldhcdcpdbnaaGreatDoor

/-
Plain proofs: the program's stores.
-/
namespace Go.Proofs.YtnaldhcdcpdbnaaGreatDoor
namespace V
open Classical
set_option maxRecDepth 100000
variable {W : Wld}

theorem isNaN_ok (a : Int) : FunOk PP W n_cmp_isNaN_int s_cmp_isNaN_int [i64 a] [bo false] := by
 refine F_cmp_isNaN_int (run_fun ?_)
 (repeat' first
  | (refine run_ite rfl (fun h => ?_) (fun h => ?_) <;> (try simp (disch := omega) only [zB, eqDs, eqD, Nat.reduceAdd, wrap64] at h) <;> (try (exfalso; omega)))
  | refine run_nd rfl ?_
  | refine run_nn rfl ?_
  | refine run_need rfl ?_ ?_
  | (refine run_ret rfl ?_ ; first | refine rb ?_ | refine ri ?_ | refine rs2 ?_ ?_ | refine rs1 ?_)
  | refine run_retx rfl ?_)
 simp

def cmpM (a b : Int) : Int := if a < b then -1 else if b < a then 1 else 0
theorem cmpI_ok (a b : Int) : FunOk PP W n_cmp_Compare_int s_cmp_Compare_int [i64 a, i64 b] [i64 (cmpM a b)] := by
 refine F_cmp_Compare_int (run_fun ?_)
 (repeat' first
  | (refine run_ite rfl (fun h => ?_) (fun h => ?_) <;> (try simp (disch := omega) only [zB, eqDs, eqD, Nat.reduceAdd, wrap64] at h) <;> (try (exfalso; omega)))
  | refine run_nd rfl ?_
  | refine run_nn rfl ?_
  | refine run_call1 rfl (isNaN_ok ..) rfl ?_
  | refine run_need rfl ?_ ?_
  | (refine run_ret rfl ?_ ; first | refine rb ?_ | refine ri ?_ | refine rs2 ?_ ?_ | refine rs1 ?_)
  | refine run_retx rfl ?_)
 all_goals unfold cmpM
 all_goals (repeat' split) <;> omega

theorem cmpOr_ok (a b : Int) : FunOk PP W n_cmp_Or_int s_cmp_Or_int [eIs [a, b]] [i64 (if a = 0 then b else a)] := by
 refine F_cmp_Or_int (run_fun ?_)
 (repeat' first
  | (refine run_ite rfl (fun h => ?_) (fun h => ?_) <;> (try simp (disch := omega) only [zB, eqDs, eqD, Nat.reduceAdd, wrap64] at h) <;> (try (exfalso; omega)))
  | refine run_nd rfl ?_
  | refine run_nn rfl ?_
  | refine run_need rfl ?_ ?_
  | (refine run_ret rfl ?_ ; first | refine rb ?_ | refine ri ?_ | refine rs2 ?_ ?_ | refine rs1 ?_)
  | refine run_retx rfl ?_)
 refine run_loop rfl (fun i : Int => 0 ≤ i ∧ i ≤ 2 ∧ (0 < i → a = 0) ∧ (1 < i → b = 0)) (fun i => [(8, .val (i64 i)), (6, .val (eIs [a, b])), (7, .val (i64 2)), (3, .val (i64 0))]) (fun i => (2 - i).toNat) 0 ⟨by omega, by omega, by omega, by omega⟩ ⟨rfl, rfl, rfl, rfl, trivial⟩ rfl ?_
 rintro i e ⟨h0, hN, hP1, hP2⟩
 (repeat' first
  | (refine run_ite rfl (fun h => ?_) (fun h => ?_) <;> (try simp (disch := omega) only [zB, eqDs, eqD, Nat.reduceAdd, wrap64] at h) <;> (try (exfalso; omega)))
  | refine run_nd rfl ?_
  | refine run_nn rfl ?_
  | (refine run_next rfl (Exists.intro (i + 1) ⟨by omega, ⟨by omega, by omega, ?_, ?_⟩, i64_eq (wrap64 _ (by omega)), rfl, rfl, rfl, trivial⟩))
  | refine run_need rfl ?_ ?_
  | (refine run_ret rfl ?_ ; first | refine rb ?_ | refine ri ?_ | refine rs2 ?_ ?_ | refine rs1 ?_)
  | refine run_retx rfl ?_)
 ·rw [cI_I]
  have hi : i = 0 ∨ i = 1 := by omega
  rcases hi with rfl | rfl <;> simp_all [ix]
 ·intro _
  have hi : i = 0 ∨ i = 1 := by omega
  rcases hi with rfl | rfl <;> simp_all [ix]
 ·intro _
  have hi : i = 1 := by omega
  subst hi
  simp_all [ix]
 ·rw [if_pos (hP1 (by omega)), hP2 (by omega)]

theorem compare_ok (p q : Pk) : FunOk PP W n_i_Pkg_compare s_i_Pkg_compare [ePk p, ePk q] [i64 (if cmpM p.name q.name = 0 then cmpM p.ver q.ver else cmpM p.name q.name)] := by
 refine F_i_Pkg_compare (run_fun ?_)
 (repeat' first
  | (refine run_ite rfl (fun h => ?_) (fun h => ?_) <;> (try simp (disch := omega) only [zB, eqDs, eqD, Nat.reduceAdd, wrap64] at h) <;> (try (exfalso; omega)))
  | refine run_nd rfl ?_
  | refine run_nn rfl ?_
  | refine run_call1 rfl (cmpI_ok ..) rfl ?_
  | refine run_call1 rfl (cmpOr_ok ..) rfl ?_
  | refine run_need rfl ?_ ?_
  | (refine run_ret rfl ?_ ; first | refine rb ?_ | refine ri ?_ | refine rs2 ?_ ?_ | refine rs1 ?_)
  | refine run_retx rfl ?_)
 rfl
theorem compare_less (p q : Pk) : ¬ 0 ≤ (if cmpM p.name q.name = 0 then cmpM p.ver q.ver else cmpM p.name q.name) ↔ lessM p q := by
 unfold cmpM lessM
 (repeat' split) <;> omega

theorem iStoreOk_ok (ps : List Pk) (hs : SmPs ps) : FunOk PP W n_i_StoreOk s_i_StoreOk [ePks ps] [bo (decide (PksOk ps))] := by
 refine F_i_StoreOk (run_fun ?_)
 have hl := hs.1
 unfold lim at hl
 refine run_loop rfl (fun i : Int => 0 ≤ i ∧ i ≤ ps.length ∧ Blw i (PkAt ps)) (fun i => [(7, .val (i64 i)), (0, .val (ePks ps)), (5, .val (ePks ps)), (6, .val (i64 (ps.map ePk).length))]) (fun i => (ps.length - i).toNat) 0 ⟨by omega, by omega, blw_zero _⟩ ⟨rfl, rfl, rfl, rfl, trivial⟩ rfl ?_
 rintro i e ⟨h0, hN, hP⟩
 (repeat' first
  | (refine run_ite rfl (fun h => ?_) (fun h => ?_) <;> (try simp (disch := omega) only [zB, eqDs, eqD, Nat.reduceAdd, wrap64] at h) <;> (try (exfalso; omega)))
  | refine run_nd rfl ?_
  | refine run_nn rfl ?_
  | refine run_cq rfl (iPkgOk_ok (ix ps i) (smPs_ix hs (by omega) (by omega))) rfl ?_
  | refine run_cq rfl (compare_ok (ix ps (i - 1)) (ix ps i)) rfl ?_
  | (refine run_next rfl (Exists.intro (i + 1) ⟨by omega, ⟨by omega, by omega, blw_succ hP ?_⟩, i64_eq (wrap64 _ (by omega)), rfl, rfl, rfl, trivial⟩))
  | refine run_need rfl ?_ ?_
  | (refine run_ret rfl ?_ ; first | refine rb ?_ | refine ri ?_ | refine rs2 ?_ ?_ | refine rs1 ?_)
  | refine run_retx rfl ?_)
 ·exact fD (fun h' => absurd (h' i (by omega) (by omega)).1 (by assumption))
 ·exact fD (fun h' => (compare_less _ _).2 ((h' i (by omega) (by omega)).2 (by assumption)) h)
 ·exact ⟨by assumption, fun _ => (compare_less _ _).1 h⟩
 ·exact ⟨by assumption, fun h' => absurd h' (by assumption)⟩
 ·exact tD (blw_to hP (by omega))
end V
end Go.Proofs.YtnaldhcdcpdbnaaGreatDoor

/-
Plain proofs: the program's plans.
-/
namespace Go.Proofs.YtnaldhcdcpdbnaaGreatDoor
namespace V
open Classical
set_option maxRecDepth 100000
variable {W : Wld}

noncomputable def idxF {α : Type} [Inhabited α] (P : α → Prop) (xs : List α) : Nat → Int → Int
 | 0, _ => -1
 | n + 1, i => if P (ix xs i) then i else idxF P xs n (i + 1)

theorem idxF_pos {α : Type} [Inhabited α] (P : α → Prop) (xs : List α) : ∀ (n : Nat) (i : Int), 0 ≤ i → (0 ≤ idxF P xs n i ↔ ∃ j, i ≤ j ∧ j < i + n ∧ P (ix xs j))
 | 0, i, h0 => by
  unfold idxF
  constructor
  ·intro h; omega
  ·rintro ⟨j, h1, h2, _⟩; omega
 | n + 1, i, h0 => by
  unfold idxF
  by_cases hp : P (ix xs i)
  ·rw [if_pos hp]
   exact ⟨fun _ => ⟨i, by omega, by omega, hp⟩, fun _ => h0⟩
  ·rw [if_neg hp, idxF_pos P xs n (i + 1) (by omega)]
   constructor
   ·rintro ⟨j, h1, h2, h3⟩; exact ⟨j, by omega, by omega, h3⟩
   ·rintro ⟨j, h1, h2, h3⟩
    by_cases hj : j = i
    ·subst hj; exact absurd h3 hp
    ·exact ⟨j, by omega, by omega, h3⟩
theorem idxF_mem {α : Type} [Inhabited α] (P : α → Prop) (xs : List α) : 0 ≤ idxF P xs xs.length 0 ↔ ∃ x ∈ xs, P x := by
 rw [idxF_pos P xs xs.length 0 (by omega)]
 constructor
 ·rintro ⟨j, h1, h2, h3⟩; exact ⟨_, ix_mem h1 (by omega), h3⟩
 ·rintro ⟨x, hx, h⟩
  obtain ⟨j, h1, h2, rfl⟩ := mem_ix hx
  exact ⟨j, h1, by omega, h⟩

end V
end Go.Proofs.YtnaldhcdcpdbnaaGreatDoor

/-
Plain proofs: the program's disks and steps.
-/
namespace Go.Proofs.YtnaldhcdcpdbnaaGreatDoor
namespace V
open Classical
set_option maxRecDepth 100000
variable {W : Wld}

theorem dI {p : Prop} [Decidable p] {b : Bool} (h : b = true ↔ p) : b = decide p := by
 by_cases hp : p <;> simp_all
end V
end Go.Proofs.YtnaldhcdcpdbnaaGreatDoor

/-
Plain proofs: what functions of the library do where all that is owned is owned with its list.
-/
namespace Go.Proofs.YtnaldhcdcpdbnaaGreatDoor
namespace V
set_option maxRecDepth 100000
variable {W : Wld}

def kx_sl_Clone_File : Cfg := { tt := tt, sigs := sigsx, mv := true, bm := [5], eqt := eqL, keep := [true, false, true, false, true, false, false, false], n := 8, pin := [] }
theorem cx_sl_Clone_File : cIsNil kx_sl_Clone_File Tryz.f61 s_sl_Clone_File_X = some (.ss [.mv 2 (.c (.sl []))], .mv 3 (.t 0), 3, 4, .cond (.t 4) (.seq (.ss [.mv 2 (.c (.sl []))]) (.ret [2])) .skip, .seq (.ss [.lit 5 0 [.int .i64 0, .int .i64 0] [], .mv 6 (.t 0), .app 7 2 true (.t 5) (.t 6), .mv 2 (.t 7)]) (.ret [2])) := by kernel_rfl
theorem cloneF_X (l : List P2) (hl : l.length ≤ lim) : FunOk PP W n_sl_Clone_File s_sl_Clone_File_X [eP2s l] [eP2s l] := by
 refine cIsNil_ok (C := kx_sl_Clone_File) (cfg_ok rfl) (eq_ok rfl rfl) mixed Tryz.func61 (by kernel_rfl) (by kernel_rfl) cx_sl_Clone_File ?_
 exact clone_pwp (enc := eP2) l hl 2 (fun _ => rfl) (fun _ => rfl) [.int .i64 0, .int .i64 0]

def kx_sl_Clone_Dep : Cfg := { tt := tt, sigs := sigsx, mv := true, bm := [5], eqt := eqL, keep := [true, false, true, false, true, false, false, false], n := 8, pin := [] }
theorem cx_sl_Clone_Dep : cIsNil kx_sl_Clone_Dep Tryz.f62 s_sl_Clone_Dep_X = some (.ss [.mv 2 (.c (.sl []))], .mv 3 (.t 0), 3, 4, .cond (.t 4) (.seq (.ss [.mv 2 (.c (.sl []))]) (.ret [2])) .skip, .seq (.ss [.lit 5 0 [.int .i64 0, .int .i64 0] [], .mv 6 (.t 0), .app 7 2 true (.t 5) (.t 6), .mv 2 (.t 7)]) (.ret [2])) := by kernel_rfl
theorem cloneD_X (l : List P2) (hl : l.length ≤ lim) : FunOk PP W n_sl_Clone_Dep s_sl_Clone_Dep_X [eP2s l] [eP2s l] := by
 refine cIsNil_ok (C := kx_sl_Clone_Dep) (cfg_ok rfl) (eq_ok rfl rfl) mixed Tryz.func62 (by kernel_rfl) (by kernel_rfl) cx_sl_Clone_Dep ?_
 exact clone_pwp (enc := eP2) l hl 2 (fun _ => rfl) (fun _ => rfl) [.int .i64 0, .int .i64 0]

/-! Writing into lists that are encoded. -/
theorem els_gx {α : Type} {enc : α → List D} {xs ys : List α} {i : Int} {off sz : Nat} {c : List D} (h0 : 0 ≤ i) (h1 : i < xs.length) (h2 : i < ys.length) (hz : ∀ x, (enc x).length = sz) (hc : off + c.length ≤ sz) : ElsOk (xs.map enc) (ys.map enc) i off c := by
 have a : i.toNat < xs.length := by omega
 have b : i.toNat < ys.length := by omega
 exact ⟨enc xs[i.toNat], enc ys[i.toNat], by simp [a], by simp [b], by rw [hz, hz], by rw [hz]; exact hc⟩
theorem elsV_gx {α : Type} [Inhabited α] {enc : α → List D} {ys : List α} {i : Int} {off : Nat} {c : List D} {z : α} (h0 : 0 ≤ i) (h2 : i < ys.length) (hz : splice (enc (ix ys i)) off c = enc z) : elsV (ys.map enc) i off c = (ys.set i.toNat z).map enc := by
 have b : i.toNat < ys.length := by omega
 have e : enc (ix ys i) = enc ys[i.toNat] := by simp [ix, b]
 rw [e] at hz
 simp only [elsV, List.getD_eq_getElem?_getD, List.getElem?_map, List.getElem?_eq_getElem b, Option.map_some, Option.getD_some, hz]
 rw [List.map_set]
theorem elsP2_0 {ys : List P2} {i v : Int} (h0 : 0 ≤ i) (h2 : i < ys.length) : elsV (ys.map eP2) i 0 [.int .i64 v] = (ys.set i.toNat ⟨v, (ix ys i).b⟩).map eP2 := elsV_gx h0 h2 rfl
theorem elsP2_1 {ys : List P2} {i v : Int} (h0 : 0 ≤ i) (h2 : i < ys.length) : elsV (ys.map eP2) i 1 [.int .i64 v] = (ys.set i.toNat ⟨(ix ys i).a, v⟩).map eP2 := elsV_gx h0 h2 rfl
theorem elsP2_a {ys : List P2} {i v u : Int} (h0 : 0 ≤ i) (h2 : i < ys.length) : elsV (ys.map eP2) i 0 [.int .i64 v, .int .i64 u] = (ys.set i.toNat ⟨v, u⟩).map eP2 := elsV_gx h0 h2 rfl
theorem elsPk_0 {ys : List Pk} {i v : Int} (h0 : 0 ≤ i) (h2 : i < ys.length) : elsV (ys.map ePk) i 0 [.int .i64 v] = (ys.set i.toNat ⟨v, (ix ys i).ver, (ix ys i).files, (ix ys i).deps⟩).map ePk := elsV_gx h0 h2 rfl
theorem elsPk_1 {ys : List Pk} {i v : Int} (h0 : 0 ≤ i) (h2 : i < ys.length) : elsV (ys.map ePk) i 1 [.int .i64 v] = (ys.set i.toNat ⟨(ix ys i).name, v, (ix ys i).files, (ix ys i).deps⟩).map ePk := elsV_gx h0 h2 rfl
theorem elsPk_a {ys : List Pk} {i v u : Int} {f d : List P2} (h0 : 0 ≤ i) (h2 : i < ys.length) : elsV (ys.map ePk) i 0 [.int .i64 v, .int .i64 u, .sl (f.map eP2), .sl (d.map eP2)] = (ys.set i.toNat ⟨v, u, f, d⟩).map ePk := elsV_gx h0 h2 rfl
theorem run_elsc {Φ : Ask} {Q : PX → Env → Prop} {Ns : List (Env → Prop)} {e : Env} {fs fs' : List Fr} {l l' : Sm} {N : Prop} {h : Nat} {r c : List D} (hr : run 100000 e fs l = .need N fs' ((h, .val r) :: l')) (hp : N) (he : r = c) (hk : RunM Φ Q Ns e fs' ((h, .val c) :: l')) : RunM Φ Q Ns e fs l := by
 subst he
 exact run_need hr hp hk

theorem ix_sgx {α : Type} [Inhabited α] {ys : List α} {i j : Int} {z : α} (h0 : 0 ≤ i) (h1 : i < ys.length) (hj : 0 ≤ j) : ix (ys.set i.toNat z) j = if j = i then z else ix ys j := by
 by_cases h : j = i
 ·subst h
  have : j.toNat < ys.length := by omega
  simp [ix, this]
 ·have : j.toNat ≠ i.toNat := by omega
  simp only [ix, List.getD_eq_getElem?_getD, if_neg h]
  rw [List.getElem?_set_ne (Ne.symm this)]
theorem ix_ssx {α : Type} [Inhabited α] {ys : List α} {i : Int} {z : α} (h0 : 0 ≤ i) (h1 : i < ys.length) : ix (ys.set i.toNat z) i = z := by rw [ix_sgx h0 h1 h0, if_pos rfl]
end V
end Go.Proofs.YtnaldhcdcpdbnaaGreatDoor

/-
Plain proofs: what the laws copy, measure and mark: lists of numbers, files, packages.
-/
namespace Go.Proofs.YtnaldhcdcpdbnaaGreatDoor
namespace V
open Classical
set_option maxRecDepth 100000
variable {W : Wld}

theorem blw_set {α : Type} [Inhabited α] {xs ys : List α} {i : Int} (h0 : 0 ≤ i) (h1 : i < ys.length) (h : Blw i (fun j => ix ys j = ix xs j)) : Blw (i + 1) (fun j => ix (ys.set i.toNat (ix xs i)) j = ix xs j) := fun j j0 j1 => by
 show ix (ys.set i.toNat (ix xs i)) j = ix xs j
 rw [ix_sgx h0 h1 j0]
 by_cases e : j = i
 ·rw [if_pos e, e]
 ·rw [if_neg e]
  exact h j j0 (by omega)

/-! What is copied. -/
theorem toIntS_X (l : List Int) (hl : l.length ≤ lim) : FunOk PP W n_l_toIntS s_l_toIntS_X [eIs l] [eIs l] := by
 refine F_l_toIntS_X (run_fun ?_)
 unfold lim at hl
 (repeat' first
  | (refine run_ite rfl (fun h => ?_) (fun h => ?_) <;> (try simp (disch := omega) only [zB, eqDs, eqD, Nat.reduceAdd, wrap64] at h) <;> (try (exfalso; omega)))
  | refine run_nd rfl ?_
  | refine run_nn rfl ?_
  | refine run_need rfl ?_ ?_
  | (refine run_ret rfl ?_ ; first | refine rb ?_ | refine ri ?_ | refine rs2 ?_ ?_ | refine rs1 ?_)
  | refine run_retx rfl ?_)
 ·simp [lim]; omega
 refine run_loop rfl (fun x : Int × List Int => 0 ≤ x.1 ∧ x.1 ≤ l.length ∧ x.2.length = l.length ∧ Blw x.1 (fun j => ix x.2 j = ix l j)) (fun x => [(4, .val (i64 x.1)), (3, .val (eIs x.2)), (0, .val (eIs l))]) (fun x => (l.length - x.1).toNat) (0, List.replicate l.length 0) ⟨by omega, by simp, by simp, blw_zero _⟩ ⟨rfl, sl_eq (by simp), rfl, trivial⟩ rfl ?_
 rintro ⟨i, ys⟩ e ⟨h0, hN, hy, hP⟩
 dsimp only at h0 hN hy hP ⊢
 (repeat' first
  | (refine run_ite rfl (fun h => ?_) (fun h => ?_) <;> (try simp (disch := omega) only [zB, eqDs, eqD, Nat.reduceAdd, wrap64] at h) <;> (try (exfalso; omega)))
  | refine run_nd rfl ?_
  | refine run_nn rfl ?_
  | (refine run_next rfl (Exists.intro (i + 1, ys.set i.toNat (ix l i)) ⟨by dsimp only; omega, ⟨by dsimp only; omega, by dsimp only; omega, by simpa using hy, blw_set h0 (by omega) hP⟩, i64_eq (wrap64 _ (by omega)), sl_eq (by rw [els_v h0 (by omega), z11]), rfl, trivial⟩))
  | refine run_need rfl ?_ ?_
  | (refine run_ret rfl ?_ ; first | refine rb ?_ | refine ri ?_ | refine rs2 ?_ ?_ | refine rs1 ?_)
  | refine run_retx rfl ?_)
 ·exact sl_eq (by rw [ix_ext hy (blw_to hP (by omega))])

theorem toFile_X (p : P2) : FunOk PP W n_l_toFile s_l_toFile_X [eP2 p] [eP2 p] := by
 refine F_l_toFile_X (run_fun ?_)
 (repeat' first
  | (refine run_ite rfl (fun h => ?_) (fun h => ?_) <;> (try simp (disch := omega) only [zB, eqDs, eqD, Nat.reduceAdd, wrap64] at h) <;> (try (exfalso; omega)))
  | refine run_nd rfl ?_
  | refine run_nn rfl ?_
  | refine run_need rfl ?_ ?_
  | (refine run_ret rfl ?_ ; first | refine rb ?_ | refine ri ?_ | refine rs2 ?_ ?_ | refine rs1 ?_)
  | refine run_retx rfl ?_)
 rfl
theorem toFileS_X (l : List P2) (hl : l.length ≤ lim) : FunOk PP W n_l_toFileS s_l_toFileS_X [eP2s l] [eP2s l] := by
 refine F_l_toFileS_X (run_fun ?_)
 unfold lim at hl
 (repeat' first
  | (refine run_ite rfl (fun h => ?_) (fun h => ?_) <;> (try simp (disch := omega) only [zB, eqDs, eqD, Nat.reduceAdd, wrap64] at h) <;> (try (exfalso; omega)))
  | refine run_nd rfl ?_
  | refine run_nn rfl ?_
  | refine run_need rfl ?_ ?_
  | (refine run_ret rfl ?_ ; first | refine rb ?_ | refine ri ?_ | refine rs2 ?_ ?_ | refine rs1 ?_)
  | refine run_retx rfl ?_)
 ·simp [lim]; omega
 refine run_loop rfl (fun x : Int × List P2 => 0 ≤ x.1 ∧ x.1 ≤ l.length ∧ x.2.length = l.length ∧ Blw x.1 (fun j => ix x.2 j = ix l j)) (fun x => [(4, .val (i64 x.1)), (3, .val (eP2s x.2)), (0, .val (eP2s l))]) (fun x => (l.length - x.1).toNat) (0, List.replicate l.length ⟨0, 0⟩) ⟨by omega, by simp, by simp, blw_zero _⟩ ⟨rfl, sl_eq (by simp), rfl, trivial⟩ rfl ?_
 rintro ⟨i, ys⟩ e ⟨h0, hN, hy, hP⟩
 dsimp only at h0 hN hy hP ⊢
 (repeat' first
  | (refine run_ite rfl (fun h => ?_) (fun h => ?_) <;> (try simp (disch := omega) only [zB, eqDs, eqD, Nat.reduceAdd, wrap64] at h) <;> (try (exfalso; omega)))
  | refine run_nd rfl ?_
  | refine run_nn rfl ?_
  | refine run_cq rfl (toFile_X (ix l i)) rfl ?_
  | (refine run_elsc rfl (els_gx (sz := 2) h0 (by omega) (by omega) (fun _ => rfl) (Nat.le_of_ble_eq_true rfl)) (sl_eq (elsP2_a h0 (by omega))) ?_)
  | (refine run_next rfl (Exists.intro (i + 1, ys.set i.toNat (ix l i)) ⟨by dsimp only; omega, ⟨by dsimp only; omega, by dsimp only; omega, by simpa using hy, blw_set h0 (by omega) hP⟩, i64_eq (wrap64 _ (by omega)), rfl, rfl, trivial⟩))
  | refine run_need rfl ?_ ?_
  | (refine run_ret rfl ?_ ; first | refine rb ?_ | refine ri ?_ | refine rs2 ?_ ?_ | refine rs1 ?_)
  | refine run_retx rfl ?_)
 ·exact sl_eq (by rw [ix_ext hy (blw_to hP (by omega))])

theorem toDep_X (p : P2) : FunOk PP W n_l_toDep s_l_toDep_X [eP2 p] [eP2 p] := by
 refine F_l_toDep_X (run_fun ?_)
 (repeat' first
  | (refine run_ite rfl (fun h => ?_) (fun h => ?_) <;> (try simp (disch := omega) only [zB, eqDs, eqD, Nat.reduceAdd, wrap64] at h) <;> (try (exfalso; omega)))
  | refine run_nd rfl ?_
  | refine run_nn rfl ?_
  | refine run_need rfl ?_ ?_
  | (refine run_ret rfl ?_ ; first | refine rb ?_ | refine ri ?_ | refine rs2 ?_ ?_ | refine rs1 ?_)
  | refine run_retx rfl ?_)
 rfl
theorem toDepS_X (l : List P2) (hl : l.length ≤ lim) : FunOk PP W n_l_toDepS s_l_toDepS_X [eP2s l] [eP2s l] := by
 refine F_l_toDepS_X (run_fun ?_)
 unfold lim at hl
 (repeat' first
  | (refine run_ite rfl (fun h => ?_) (fun h => ?_) <;> (try simp (disch := omega) only [zB, eqDs, eqD, Nat.reduceAdd, wrap64] at h) <;> (try (exfalso; omega)))
  | refine run_nd rfl ?_
  | refine run_nn rfl ?_
  | refine run_need rfl ?_ ?_
  | (refine run_ret rfl ?_ ; first | refine rb ?_ | refine ri ?_ | refine rs2 ?_ ?_ | refine rs1 ?_)
  | refine run_retx rfl ?_)
 ·simp [lim]; omega
 refine run_loop rfl (fun x : Int × List P2 => 0 ≤ x.1 ∧ x.1 ≤ l.length ∧ x.2.length = l.length ∧ Blw x.1 (fun j => ix x.2 j = ix l j)) (fun x => [(4, .val (i64 x.1)), (3, .val (eP2s x.2)), (0, .val (eP2s l))]) (fun x => (l.length - x.1).toNat) (0, List.replicate l.length ⟨0, 0⟩) ⟨by omega, by simp, by simp, blw_zero _⟩ ⟨rfl, sl_eq (by simp), rfl, trivial⟩ rfl ?_
 rintro ⟨i, ys⟩ e ⟨h0, hN, hy, hP⟩
 dsimp only at h0 hN hy hP ⊢
 (repeat' first
  | (refine run_ite rfl (fun h => ?_) (fun h => ?_) <;> (try simp (disch := omega) only [zB, eqDs, eqD, Nat.reduceAdd, wrap64] at h) <;> (try (exfalso; omega)))
  | refine run_nd rfl ?_
  | refine run_nn rfl ?_
  | refine run_cq rfl (toDep_X (ix l i)) rfl ?_
  | (refine run_elsc rfl (els_gx (sz := 2) h0 (by omega) (by omega) (fun _ => rfl) (Nat.le_of_ble_eq_true rfl)) (sl_eq (elsP2_a h0 (by omega))) ?_)
  | (refine run_next rfl (Exists.intro (i + 1, ys.set i.toNat (ix l i)) ⟨by dsimp only; omega, ⟨by dsimp only; omega, by dsimp only; omega, by simpa using hy, blw_set h0 (by omega) hP⟩, i64_eq (wrap64 _ (by omega)), rfl, rfl, trivial⟩))
  | refine run_need rfl ?_ ?_
  | (refine run_ret rfl ?_ ; first | refine rb ?_ | refine ri ?_ | refine rs2 ?_ ?_ | refine rs1 ?_)
  | refine run_retx rfl ?_)
 ·exact sl_eq (by rw [ix_ext hy (blw_to hP (by omega))])

theorem toPkg_X (p : Pk) (hs : SmP p) : FunOk PP W n_l_toPkg s_l_toPkg_X [ePk p] [ePk p] := by
 refine F_l_toPkg_X (run_fun ?_)
 obtain ⟨h1, h2⟩ := hs
 (repeat' first
  | (refine run_ite rfl (fun h => ?_) (fun h => ?_) <;> (try simp (disch := omega) only [zB, eqDs, eqD, Nat.reduceAdd, wrap64] at h) <;> (try (exfalso; omega)))
  | refine run_nd rfl ?_
  | refine run_nn rfl ?_
  | refine run_call1 rfl (toFileS_X p.files h1) rfl ?_
  | refine run_call1 rfl (toDepS_X p.deps h2) rfl ?_
  | refine run_need rfl ?_ ?_
  | (refine run_ret rfl ?_ ; first | refine rb ?_ | refine ri ?_ | refine rs2 ?_ ?_ | refine rs1 ?_)
  | refine run_retx rfl ?_)
 rfl
theorem toPkgS_X (l : List Pk) (hs : SmPs l) : FunOk PP W n_l_toPkgS s_l_toPkgS_X [ePks l] [ePks l] := by
 refine F_l_toPkgS_X (run_fun ?_)
 have hl := hs.1
 unfold lim at hl
 (repeat' first
  | (refine run_ite rfl (fun h => ?_) (fun h => ?_) <;> (try simp (disch := omega) only [zB, eqDs, eqD, Nat.reduceAdd, wrap64] at h) <;> (try (exfalso; omega)))
  | refine run_nd rfl ?_
  | refine run_nn rfl ?_
  | refine run_need rfl ?_ ?_
  | (refine run_ret rfl ?_ ; first | refine rb ?_ | refine ri ?_ | refine rs2 ?_ ?_ | refine rs1 ?_)
  | refine run_retx rfl ?_)
 ·simp [lim]; omega
 refine run_loop rfl (fun x : Int × List Pk => 0 ≤ x.1 ∧ x.1 ≤ l.length ∧ x.2.length = l.length ∧ Blw x.1 (fun j => ix x.2 j = ix l j)) (fun x => [(4, .val (i64 x.1)), (3, .val (ePks x.2)), (0, .val (ePks l))]) (fun x => (l.length - x.1).toNat) (0, List.replicate l.length ⟨0, 0, [], []⟩) ⟨by omega, by simp, by simp, blw_zero _⟩ ⟨rfl, sl_eq (by simp), rfl, trivial⟩ rfl ?_
 rintro ⟨i, ys⟩ e ⟨h0, hN, hy, hP⟩
 dsimp only at h0 hN hy hP ⊢
 (repeat' first
  | (refine run_ite rfl (fun h => ?_) (fun h => ?_) <;> (try simp (disch := omega) only [zB, eqDs, eqD, Nat.reduceAdd, wrap64] at h) <;> (try (exfalso; omega)))
  | refine run_nd rfl ?_
  | refine run_nn rfl ?_
  | refine run_cq rfl (toPkg_X (ix l i) (smPs_ix hs h0 (by omega))) rfl ?_
  | (refine run_elsc rfl (els_gx (sz := 4) h0 (by omega) (by omega) (fun _ => rfl) (Nat.le_of_ble_eq_true rfl)) (sl_eq (elsPk_a h0 (by omega))) ?_)
  | (refine run_next rfl (Exists.intro (i + 1, ys.set i.toNat (ix l i)) ⟨by dsimp only; omega, ⟨by dsimp only; omega, by dsimp only; omega, by simpa using hy, blw_set h0 (by omega) hP⟩, i64_eq (wrap64 _ (by omega)), rfl, rfl, trivial⟩))
  | refine run_need rfl ?_ ?_
  | (refine run_ret rfl ?_ ; first | refine rb ?_ | refine ri ?_ | refine rs2 ?_ ?_ | refine rs1 ?_)
  | refine run_retx rfl ?_)
 ·exact sl_eq (by rw [ix_ext hy (blw_to hP (by omega))])
end V
end Go.Proofs.YtnaldhcdcpdbnaaGreatDoor

/-
Plain proofs: what the laws measure, compare, mark and find marked: lists of numbers, files, packages.
-/
namespace Go.Proofs.YtnaldhcdcpdbnaaGreatDoor
namespace V
open Classical
set_option maxRecDepth 100000
variable {W : Wld}

/-! Sums. -/
def sumF {α : Type} (f : α → Int) (xs : List α) : Int := (xs.map f).sum
theorem sumF_take {α : Type} [Inhabited α] (f : α → Int) (xs : List α) {i : Int} (h0 : 0 ≤ i) (h1 : i < xs.length) : sumF f (xs.take (i + 1).toNat) = sumF f (xs.take i.toNat) + f (ix xs i) := by
 rw [take_ix xs h0 h1]
 simp [sumF]
theorem sumF_nn {α : Type} {f : α → Int} (hf : ∀ x, 0 ≤ f x) : ∀ xs : List α, 0 ≤ sumF f xs
 | [] => by simp [sumF]
 | x :: r => by
  have := sumF_nn hf r
  have := hf x
  simp only [sumF, List.map_cons, List.sum_cons] at *
  omega
theorem sumF_le {α : Type} {f : α → Int} (hf : ∀ x, 0 ≤ f x) (xs : List α) (n : Nat) : sumF f (xs.take n) ≤ sumF f xs := by
 have h : sumF f xs = sumF f (xs.take n) + sumF f (xs.drop n) := by
  conv => lhs; rw [← List.take_append_drop n xs]
  simp only [sumF, List.map_append, List.sum_append]
 have := sumF_nn hf (xs.drop n)
 omega
theorem sumF_all {α : Type} (f : α → Int) (xs : List α) {n : Nat} (h : xs.length ≤ n) : sumF f (xs.take n) = sumF f xs := by rw [List.take_of_length_le h]

/-! How much comes in. -/
def mx : Int := 9223372036854775807
def cP (p : Pk) : Int := p.files.length + p.deps.length
def szPs (ps : List Pk) : Int := ps.length + sumF cP ps
theorem cP_nn (p : Pk) : 0 ≤ cP p := by unfold cP; omega
theorem szPs_nn (ps : List Pk) : 0 ≤ szPs ps := by have := sumF_nn cP_nn ps; unfold szPs; omega
def BgP (p : Pk) : Prop := (p.files.length : Int) ≤ mx ∧ (p.deps.length : Int) ≤ mx
def BgPs (ps : List Pk) : Prop := (ps.length : Int) ≤ mx ∧ ∀ p ∈ ps, BgP p
noncomputable def less (left n : Int) : Int := if left < n then -1 else left - n
theorem less_lt {left n : Int} (h : left < n) : less left n = -1 := if_pos h
theorem less_ge {left n : Int} (h : n ≤ left) : less left n = left - n := if_neg (by omega)

theorem szIntS_ok (l : List Int) (left : Int) (h : 0 ≤ left ∧ left ≤ 1048576) (hb : (l.length : Int) ≤ mx) : FunOk PP W n_l_szIntS s_l_szIntS [eIs l, i64 left] [i64 (less left l.length)] := by
 refine F_l_szIntS (run_fun ?_)
 unfold mx at hb
 (repeat' first
  | (refine run_ite rfl (fun h => ?_) (fun h => ?_) <;> (try simp (disch := omega) only [zB, eqDs, eqD, Nat.reduceAdd, wrap64] at h) <;> (try (exfalso; omega)))
  | refine run_nd rfl ?_
  | refine run_nn rfl ?_
  | refine run_need rfl ?_ ?_
  | (refine run_ret rfl ?_ ; first | refine rb ?_ | refine ri ?_ | refine rs2 ?_ ?_ | refine rs1 ?_)
  | refine run_retx rfl ?_)
 ·rw [less_lt (by omega)]
 ·rw [List.length_map, wrap64 _ (by omega), less_ge (by omega)]

theorem szFileS_ok (l : List P2) (left : Int) (h : 0 ≤ left ∧ left ≤ 1048576) (hb : (l.length : Int) ≤ mx) : FunOk PP W n_l_szFileS s_l_szFileS [eP2s l, i64 left] [i64 (less left l.length)] := by
 refine F_l_szFileS (run_fun ?_)
 unfold mx at hb
 (repeat' first
  | (refine run_ite rfl (fun h => ?_) (fun h => ?_) <;> (try simp (disch := omega) only [zB, eqDs, eqD, Nat.reduceAdd, wrap64] at h) <;> (try (exfalso; omega)))
  | refine run_nd rfl ?_
  | refine run_nn rfl ?_
  | refine run_need rfl ?_ ?_
  | (refine run_ret rfl ?_ ; first | refine rb ?_ | refine ri ?_ | refine rs2 ?_ ?_ | refine rs1 ?_)
  | refine run_retx rfl ?_)
 ·rw [less_lt (by omega)]
 ·rw [List.length_map, wrap64 _ (by omega), less_ge (by omega)]

theorem szDepS_ok (l : List P2) (left : Int) (h : 0 ≤ left ∧ left ≤ 1048576) (hb : (l.length : Int) ≤ mx) : FunOk PP W n_l_szDepS s_l_szDepS [eP2s l, i64 left] [i64 (less left l.length)] := by
 refine F_l_szDepS (run_fun ?_)
 unfold mx at hb
 (repeat' first
  | (refine run_ite rfl (fun h => ?_) (fun h => ?_) <;> (try simp (disch := omega) only [zB, eqDs, eqD, Nat.reduceAdd, wrap64] at h) <;> (try (exfalso; omega)))
  | refine run_nd rfl ?_
  | refine run_nn rfl ?_
  | refine run_need rfl ?_ ?_
  | (refine run_ret rfl ?_ ; first | refine rb ?_ | refine ri ?_ | refine rs2 ?_ ?_ | refine rs1 ?_)
  | refine run_retx rfl ?_)
 ·rw [less_lt (by omega)]
 ·rw [List.length_map, wrap64 _ (by omega), less_ge (by omega)]

theorem szPkg_ok (p : Pk) (left : Int) (h : 0 ≤ left ∧ left ≤ 1048576) (hb : BgP p) : FunOk PP W n_l_szPkg s_l_szPkg [ePk p, i64 left] [i64 (less left (cP p))] := by
 refine F_l_szPkg (run_fun ?_)
 obtain ⟨b1, b2⟩ := hb
 unfold cP
 have f1 := szFileS_ok (W := W) p.files left h b1
 by_cases c1 : left < p.files.length
 ·rw [less_lt c1] at f1
  (repeat' first
  | (refine run_ite rfl (fun h => ?_) (fun h => ?_) <;> (try simp (disch := omega) only [zB, eqDs, eqD, Nat.reduceAdd, wrap64] at h) <;> (try (exfalso; omega)))
  | refine run_nd rfl ?_
  | refine run_nn rfl ?_
  | refine run_call1 rfl (f1) rfl ?_
  | refine run_need rfl ?_ ?_
  | (refine run_ret rfl ?_ ; first | refine rb ?_ | refine ri ?_ | refine rs2 ?_ ?_ | refine rs1 ?_)
  | refine run_retx rfl ?_)
  rw [less_lt (by omega)]
 ·rw [less_ge (by omega)] at f1
  have f2 := szDepS_ok (W := W) p.deps (left - p.files.length) (by omega) b2
  by_cases c2 : left - p.files.length < p.deps.length
  ·rw [less_lt c2] at f2
   (repeat' first
  | (refine run_ite rfl (fun h => ?_) (fun h => ?_) <;> (try simp (disch := omega) only [zB, eqDs, eqD, Nat.reduceAdd, wrap64] at h) <;> (try (exfalso; omega)))
  | refine run_nd rfl ?_
  | refine run_nn rfl ?_
  | refine run_call1 rfl (f1) rfl ?_
  | refine run_call1 rfl (f2) rfl ?_
  | refine run_need rfl ?_ ?_
  | (refine run_ret rfl ?_ ; first | refine rb ?_ | refine ri ?_ | refine rs2 ?_ ?_ | refine rs1 ?_)
  | refine run_retx rfl ?_)
   rw [less_lt (by omega)]
  ·rw [less_ge (by omega)] at f2
   (repeat' first
  | (refine run_ite rfl (fun h => ?_) (fun h => ?_) <;> (try simp (disch := omega) only [zB, eqDs, eqD, Nat.reduceAdd, wrap64] at h) <;> (try (exfalso; omega)))
  | refine run_nd rfl ?_
  | refine run_nn rfl ?_
  | refine run_call1 rfl (f1) rfl ?_
  | refine run_call1 rfl (f2) rfl ?_
  | refine run_need rfl ?_ ?_
  | (refine run_ret rfl ?_ ; first | refine rb ?_ | refine ri ?_ | refine rs2 ?_ ?_ | refine rs1 ?_)
  | refine run_retx rfl ?_)
   rw [less_ge (by omega)]; omega

theorem szPkgS_ok (l : List Pk) (left : Int) (h : 0 ≤ left ∧ left ≤ 1048576) (hb : BgPs l) : FunOk PP W n_l_szPkgS s_l_szPkgS [ePks l, i64 left] [i64 (less left (szPs l))] := by
 refine F_l_szPkgS (run_fun ?_)
 obtain ⟨b1, b2⟩ := hb
 unfold mx at b1
 have hnn := sumF_nn cP_nn l
 (repeat' first
  | (refine run_ite rfl (fun h => ?_) (fun h => ?_) <;> (try simp (disch := omega) only [zB, eqDs, eqD, Nat.reduceAdd, wrap64] at h) <;> (try (exfalso; omega)))
  | refine run_nd rfl ?_
  | refine run_nn rfl ?_
  | refine run_need rfl ?_ ?_
  | (refine run_ret rfl ?_ ; first | refine rb ?_ | refine ri ?_ | refine rs2 ?_ ?_ | refine rs1 ?_)
  | refine run_retx rfl ?_)
 ·rw [less_lt (by unfold szPs; omega)]
 rename_i h'
 refine run_loop rfl (fun i : Int => 0 ≤ i ∧ i ≤ l.length ∧ 0 ≤ left - l.length - sumF cP (l.take i.toNat)) (fun i => [(5, .val (i64 i)), (1, .val (i64 (left - l.length - sumF cP (l.take i.toNat)))), (0, .val (ePks l))]) (fun i => (l.length - i).toNat) 0 ⟨by omega, by omega, by simp [sumF]; omega⟩ ⟨rfl, i64_eq (by rw [List.length_map, wrap64 _ (by omega)]; simp [sumF]), rfl, trivial⟩ rfl ?_
 rintro i e ⟨h0, hN, hP⟩
 have hs := sumF_nn cP_nn (l.take i.toNat)
 by_cases hi : i < l.length
 ·have f := szPkg_ok (W := W) (ix l i) (left - l.length - sumF cP (l.take i.toNat)) (by omega) (b2 _ (ix_mem h0 hi))
  have ht := sumF_take cP l h0 hi
  have hle := sumF_le cP_nn l (i + 1).toNat
  have hc := cP_nn (ix l i)
  by_cases c : left - l.length - sumF cP (l.take i.toNat) < cP (ix l i)
  ·rw [less_lt c] at f
   (repeat' first
  | (refine run_ite rfl (fun h => ?_) (fun h => ?_) <;> (try simp (disch := omega) only [zB, eqDs, eqD, Nat.reduceAdd, wrap64] at h) <;> (try (exfalso; omega)))
  | refine run_nd rfl ?_
  | refine run_nn rfl ?_
  | refine run_cq rfl (f) rfl ?_
  | refine run_need rfl ?_ ?_
  | (refine run_ret rfl ?_ ; first | refine rb ?_ | refine ri ?_ | refine rs2 ?_ ?_ | refine rs1 ?_)
  | refine run_retx rfl ?_)
   rw [less_lt (by unfold szPs; omega)]
  ·rw [less_ge (by omega)] at f
   (repeat' first
  | (refine run_ite rfl (fun h => ?_) (fun h => ?_) <;> (try simp (disch := omega) only [zB, eqDs, eqD, Nat.reduceAdd, wrap64] at h) <;> (try (exfalso; omega)))
  | refine run_nd rfl ?_
  | refine run_nn rfl ?_
  | refine run_cq rfl (f) rfl ?_
  | (refine run_next rfl (Exists.intro (i + 1) ⟨by omega, ⟨by omega, by omega, by omega⟩, i64_eq (wrap64 _ (by omega)), i64_eq (by omega), rfl, trivial⟩))
  | refine run_need rfl ?_ ?_
  | (refine run_ret rfl ?_ ; first | refine rb ?_ | refine ri ?_ | refine rs2 ?_ ?_ | refine rs1 ?_)
  | refine run_retx rfl ?_)
 ·(repeat' first
  | (refine run_ite rfl (fun h => ?_) (fun h => ?_) <;> (try simp (disch := omega) only [zB, eqDs, eqD, Nat.reduceAdd, wrap64] at h) <;> (try (exfalso; omega)))
  | refine run_nd rfl ?_
  | refine run_nn rfl ?_
  | refine run_need rfl ?_ ?_
  | (refine run_ret rfl ?_ ; first | refine rb ?_ | refine ri ?_ | refine rs2 ?_ ?_ | refine rs1 ?_)
  | refine run_retx rfl ?_)
  rw [sumF_all _ _ (by omega)] at hP
  rw [sumF_all _ _ (by omega), less_ge (by unfold szPs; omega)]
  unfold szPs
  omega
end V
end Go.Proofs.YtnaldhcdcpdbnaaGreatDoor

/-
Plain proofs: what the laws compare, mark and find marked: lists of numbers, files, packages.
-/
namespace Go.Proofs.YtnaldhcdcpdbnaaGreatDoor
namespace V
open Classical
set_option maxRecDepth 100000
variable {W : Wld}

theorem eqIntS_ok (a b : List Int) (ha : a.length ≤ lim) : FunOk PP W n_l_eqIntS s_l_eqIntS [eIs a, eIs b] [bo (decide (a = b))] := by
 refine F_l_eqIntS (run_fun ?_)
 unfold lim at ha
 (repeat' first
  | (refine run_ite rfl (fun h => ?_) (fun h => ?_) <;> (try simp (disch := omega) only [zB, eqDs, eqD, Nat.reduceAdd, wrap64] at h) <;> (try (exfalso; omega)))
  | refine run_nd rfl ?_
  | refine run_nn rfl ?_
  | refine run_need rfl ?_ ?_
  | (refine run_ret rfl ?_ ; first | refine rb ?_ | refine ri ?_ | refine rs2 ?_ ?_ | refine rs1 ?_)
  | refine run_retx rfl ?_)
 ·exact fD (fun h' => by simp_all)
 have hn : a.length = b.length := by omega
 clear h
 refine run_loop rfl (fun i : Int => 0 ≤ i ∧ i ≤ a.length ∧ Blw i (fun j => ix a j = ix b j)) (fun i => [(5, .val (i64 i)), (0, .val (eIs a)), (1, .val (eIs b))]) (fun i => (a.length - i).toNat) 0 ⟨by omega, by omega, blw_zero _⟩ ⟨rfl, rfl, rfl, trivial⟩ rfl ?_
 rintro i e ⟨h0, hN, hP⟩
 (repeat' first
  | (refine run_ite rfl (fun h => ?_) (fun h => ?_) <;> (try simp (disch := omega) only [zB, eqDs, eqD, Nat.reduceAdd, wrap64] at h) <;> (try (exfalso; omega)))
  | refine run_nd rfl ?_
  | refine run_nn rfl ?_
  | (refine run_next rfl (Exists.intro (i + 1) ⟨by omega, ⟨by omega, by omega, blw_succ hP (by assumption)⟩, i64_eq (wrap64 _ (by omega)), rfl, rfl, trivial⟩))
  | refine run_need rfl ?_ ?_
  | (refine run_ret rfl ?_ ; first | refine rb ?_ | refine ri ?_ | refine rs2 ?_ ?_ | refine rs1 ?_)
  | refine run_retx rfl ?_)
 ·exact fD (fun h' => by subst h'; exact absurd rfl (by assumption))
 ·exact tD (ix_ext hn (blw_to hP (by omega)))

theorem eqFile_ok (p q : P2) : FunOk PP W n_l_eqFile s_l_eqFile [eP2 p, eP2 q] [bo (decide (p = q))] := by
 refine F_l_eqFile (run_fun ?_)
 (repeat' first
  | (refine run_ite rfl (fun h => ?_) (fun h => ?_) <;> (try simp (disch := omega) only [zB, eqDs, eqD, Nat.reduceAdd, wrap64] at h) <;> (try (exfalso; omega)))
  | refine run_nd rfl ?_
  | refine run_nn rfl ?_
  | refine run_need rfl ?_ ?_
  | (refine run_ret rfl ?_ ; first | refine rb ?_ | refine ri ?_ | refine rs2 ?_ ?_ | refine rs1 ?_)
  | refine run_retx rfl ?_)
 ·exact fD (fun h' => by simp_all)
 ·exact fD (fun h' => by simp_all)
 ·exact tD (p2_ext (by assumption) (by assumption))
theorem eqFileS_ok (a b : List P2) (ha : a.length ≤ lim) : FunOk PP W n_l_eqFileS s_l_eqFileS [eP2s a, eP2s b] [bo (decide (a = b))] := by
 refine F_l_eqFileS (run_fun ?_)
 unfold lim at ha
 (repeat' first
  | (refine run_ite rfl (fun h => ?_) (fun h => ?_) <;> (try simp (disch := omega) only [zB, eqDs, eqD, Nat.reduceAdd, wrap64] at h) <;> (try (exfalso; omega)))
  | refine run_nd rfl ?_
  | refine run_nn rfl ?_
  | refine run_need rfl ?_ ?_
  | (refine run_ret rfl ?_ ; first | refine rb ?_ | refine ri ?_ | refine rs2 ?_ ?_ | refine rs1 ?_)
  | refine run_retx rfl ?_)
 ·exact fD (fun h' => by simp_all)
 have hn : a.length = b.length := by omega
 clear h
 refine run_loop rfl (fun i : Int => 0 ≤ i ∧ i ≤ a.length ∧ Blw i (fun j => ix a j = ix b j)) (fun i => [(5, .val (i64 i)), (0, .val (eP2s a)), (1, .val (eP2s b))]) (fun i => (a.length - i).toNat) 0 ⟨by omega, by omega, blw_zero _⟩ ⟨rfl, rfl, rfl, trivial⟩ rfl ?_
 rintro i e ⟨h0, hN, hP⟩
 (repeat' first
  | (refine run_ite rfl (fun h => ?_) (fun h => ?_) <;> (try simp (disch := omega) only [zB, eqDs, eqD, Nat.reduceAdd, wrap64] at h) <;> (try (exfalso; omega)))
  | refine run_nd rfl ?_
  | refine run_nn rfl ?_
  | refine run_cq rfl (eqFile_ok (ix a i) (ix b i)) rfl ?_
  | (refine run_next rfl (Exists.intro (i + 1) ⟨by omega, ⟨by omega, by omega, blw_succ hP (by assumption)⟩, i64_eq (wrap64 _ (by omega)), rfl, rfl, trivial⟩))
  | refine run_need rfl ?_ ?_
  | (refine run_ret rfl ?_ ; first | refine rb ?_ | refine ri ?_ | refine rs2 ?_ ?_ | refine rs1 ?_)
  | refine run_retx rfl ?_)
 ·exact fD (fun h' => by subst h'; exact absurd rfl (by assumption))
 ·exact tD (ix_ext hn (blw_to hP (by omega)))

theorem eqDep_ok (p q : P2) : FunOk PP W n_l_eqDep s_l_eqDep [eP2 p, eP2 q] [bo (decide (p = q))] := by
 refine F_l_eqDep (run_fun ?_)
 (repeat' first
  | (refine run_ite rfl (fun h => ?_) (fun h => ?_) <;> (try simp (disch := omega) only [zB, eqDs, eqD, Nat.reduceAdd, wrap64] at h) <;> (try (exfalso; omega)))
  | refine run_nd rfl ?_
  | refine run_nn rfl ?_
  | refine run_need rfl ?_ ?_
  | (refine run_ret rfl ?_ ; first | refine rb ?_ | refine ri ?_ | refine rs2 ?_ ?_ | refine rs1 ?_)
  | refine run_retx rfl ?_)
 ·exact fD (fun h' => by simp_all)
 ·exact fD (fun h' => by simp_all)
 ·exact tD (p2_ext (by assumption) (by assumption))
theorem eqDepS_ok (a b : List P2) (ha : a.length ≤ lim) : FunOk PP W n_l_eqDepS s_l_eqDepS [eP2s a, eP2s b] [bo (decide (a = b))] := by
 refine F_l_eqDepS (run_fun ?_)
 unfold lim at ha
 (repeat' first
  | (refine run_ite rfl (fun h => ?_) (fun h => ?_) <;> (try simp (disch := omega) only [zB, eqDs, eqD, Nat.reduceAdd, wrap64] at h) <;> (try (exfalso; omega)))
  | refine run_nd rfl ?_
  | refine run_nn rfl ?_
  | refine run_need rfl ?_ ?_
  | (refine run_ret rfl ?_ ; first | refine rb ?_ | refine ri ?_ | refine rs2 ?_ ?_ | refine rs1 ?_)
  | refine run_retx rfl ?_)
 ·exact fD (fun h' => by simp_all)
 have hn : a.length = b.length := by omega
 clear h
 refine run_loop rfl (fun i : Int => 0 ≤ i ∧ i ≤ a.length ∧ Blw i (fun j => ix a j = ix b j)) (fun i => [(5, .val (i64 i)), (0, .val (eP2s a)), (1, .val (eP2s b))]) (fun i => (a.length - i).toNat) 0 ⟨by omega, by omega, blw_zero _⟩ ⟨rfl, rfl, rfl, trivial⟩ rfl ?_
 rintro i e ⟨h0, hN, hP⟩
 (repeat' first
  | (refine run_ite rfl (fun h => ?_) (fun h => ?_) <;> (try simp (disch := omega) only [zB, eqDs, eqD, Nat.reduceAdd, wrap64] at h) <;> (try (exfalso; omega)))
  | refine run_nd rfl ?_
  | refine run_nn rfl ?_
  | refine run_cq rfl (eqDep_ok (ix a i) (ix b i)) rfl ?_
  | (refine run_next rfl (Exists.intro (i + 1) ⟨by omega, ⟨by omega, by omega, blw_succ hP (by assumption)⟩, i64_eq (wrap64 _ (by omega)), rfl, rfl, trivial⟩))
  | refine run_need rfl ?_ ?_
  | (refine run_ret rfl ?_ ; first | refine rb ?_ | refine ri ?_ | refine rs2 ?_ ?_ | refine rs1 ?_)
  | refine run_retx rfl ?_)
 ·exact fD (fun h' => by subst h'; exact absurd rfl (by assumption))
 ·exact tD (ix_ext hn (blw_to hP (by omega)))

theorem eqPkg_ok (p q : Pk) (hs : SmP p) : FunOk PP W n_l_eqPkg s_l_eqPkg [ePk p, ePk q] [bo (decide (p = q))] := by
 refine F_l_eqPkg (run_fun ?_)
 obtain ⟨h1, h2⟩ := hs
 (repeat' first
  | (refine run_ite rfl (fun h => ?_) (fun h => ?_) <;> (try simp (disch := omega) only [zB, eqDs, eqD, Nat.reduceAdd, wrap64] at h) <;> (try (exfalso; omega)))
  | refine run_nd rfl ?_
  | refine run_nn rfl ?_
  | refine run_call1 rfl (eqFileS_ok p.files q.files h1) rfl ?_
  | refine run_call1 rfl (eqDepS_ok p.deps q.deps h2) rfl ?_
  | refine run_need rfl ?_ ?_
  | (refine run_ret rfl ?_ ; first | refine rb ?_ | refine ri ?_ | refine rs2 ?_ ?_ | refine rs1 ?_)
  | refine run_retx rfl ?_)
 ·exact fD (fun h' => by simp_all)
 ·exact fD (fun h' => by simp_all)
 ·exact fD (fun h' => by subst h'; exact absurd rfl (by assumption))
 ·exact fD (fun h' => by subst h'; exact absurd rfl (by assumption))
 ·exact tD (pk_ext (by assumption) (by assumption) (by assumption) (by assumption))
theorem eqPkgS_ok (a b : List Pk) (ha : SmPs a) : FunOk PP W n_l_eqPkgS s_l_eqPkgS [ePks a, ePks b] [bo (decide (a = b))] := by
 refine F_l_eqPkgS (run_fun ?_)
 have hl := ha.1
 unfold lim at hl
 (repeat' first
  | (refine run_ite rfl (fun h => ?_) (fun h => ?_) <;> (try simp (disch := omega) only [zB, eqDs, eqD, Nat.reduceAdd, wrap64] at h) <;> (try (exfalso; omega)))
  | refine run_nd rfl ?_
  | refine run_nn rfl ?_
  | refine run_need rfl ?_ ?_
  | (refine run_ret rfl ?_ ; first | refine rb ?_ | refine ri ?_ | refine rs2 ?_ ?_ | refine rs1 ?_)
  | refine run_retx rfl ?_)
 ·exact fD (fun h' => by simp_all)
 have hn : a.length = b.length := by omega
 clear h
 refine run_loop rfl (fun i : Int => 0 ≤ i ∧ i ≤ a.length ∧ Blw i (fun j => ix a j = ix b j)) (fun i => [(5, .val (i64 i)), (0, .val (ePks a)), (1, .val (ePks b))]) (fun i => (a.length - i).toNat) 0 ⟨by omega, by omega, blw_zero _⟩ ⟨rfl, rfl, rfl, trivial⟩ rfl ?_
 rintro i e ⟨h0, hN, hP⟩
 (repeat' first
  | (refine run_ite rfl (fun h => ?_) (fun h => ?_) <;> (try simp (disch := omega) only [zB, eqDs, eqD, Nat.reduceAdd, wrap64] at h) <;> (try (exfalso; omega)))
  | refine run_nd rfl ?_
  | refine run_nn rfl ?_
  | refine run_cq rfl (eqPkg_ok (ix a i) (ix b i) (smPs_ix ha (by omega) (by omega))) rfl ?_
  | (refine run_next rfl (Exists.intro (i + 1) ⟨by omega, ⟨by omega, by omega, blw_succ hP (by assumption)⟩, i64_eq (wrap64 _ (by omega)), rfl, rfl, trivial⟩))
  | refine run_need rfl ?_ ?_
  | (refine run_ret rfl ?_ ; first | refine rb ?_ | refine ri ?_ | refine rs2 ?_ ?_ | refine rs1 ?_)
  | refine run_retx rfl ?_)
 ·exact fD (fun h' => by subst h'; exact absurd rfl (by assumption))
 ·exact tD (ix_ext hn (blw_to hP (by omega)))

/-! What is marked. -/
def markI (l : List Int) (k : Int) : List Int := (List.range l.length).map fun (j : Nat) => k + (j : Int)
def markP2 (l : List P2) (k : Int) : List P2 := (List.range l.length).map fun (j : Nat) => ⟨k + 2 * (j : Int), k + 2 * (j : Int) + 1⟩
theorem markI_len (l : List Int) (k : Int) : (markI l k).length = l.length := by simp [markI]
theorem markP2_len (l : List P2) (k : Int) : (markP2 l k).length = l.length := by simp [markP2]
theorem ix_range {α : Type} [Inhabited α] {n : Nat} {f : Nat → α} {i : Int} (h0 : 0 ≤ i) (h1 : i < n) : ix ((List.range n).map f) i = f i.toNat := by
 have : i.toNat < n := by omega
 simp [ix, this]
theorem markI_ix (l : List Int) (k : Int) {i : Int} (h0 : 0 ≤ i) (h1 : i < l.length) : ix (markI l k) i = k + i := by
 unfold markI
 rw [ix_range h0 h1]
 omega
theorem markP2_ix (l : List P2) (k : Int) {i : Int} (h0 : 0 ≤ i) (h1 : i < l.length) : ix (markP2 l k) i = ⟨k + 2 * i, k + 2 * i + 1⟩ := by
 unfold markP2
 rw [ix_range h0 h1]
 simp only [show ((i.toNat : Nat) : Int) = i by omega]
theorem blw_put {α : Type} [Inhabited α] {ys : List α} {f : Int → α} {i : Int} (h0 : 0 ≤ i) (h1 : i < ys.length) (h : Blw i (fun j => ix ys j = f j)) : Blw (i + 1) (fun j => ix (ys.set i.toNat (f i)) j = f j) := fun j j0 j1 => by
 show ix (ys.set i.toNat (f i)) j = f j
 rw [ix_sgx h0 h1 j0]
 by_cases e : j = i
 ·rw [if_pos e, e]
 ·rw [if_neg e]
  exact h j j0 (by omega)

theorem markIntS_ok (l : List Int) (k : Int) (h0 : 0 ≤ k) (hk : k + l.length ≤ 1099511627776) : FunOk PP W n_l_markIntS s_l_markIntS_X [eIs l, i64 k] [i64 (k + l.length), eIs (markI l k)] := by
 refine F_l_markIntS_X (run_fun ?_)
 (repeat' first
  | (refine run_ite rfl (fun h => ?_) (fun h => ?_) <;> (try simp (disch := omega) only [zB, eqDs, eqD, Nat.reduceAdd, wrap64] at h) <;> (try (exfalso; omega)))
  | refine run_nd rfl ?_
  | refine run_nn rfl ?_
  | refine run_need rfl ?_ ?_
  | (refine run_ret rfl ?_ ; first | refine rb ?_ | refine ri ?_ | refine rs2 ?_ ?_ | refine rs1 ?_)
  | refine run_retx rfl ?_)
 refine run_loop rfl (fun x : Int × List Int => 0 ≤ x.1 ∧ x.1 ≤ l.length ∧ x.2.length = l.length ∧ Blw x.1 (fun j => ix x.2 j = k + j)) (fun x => [(5, .val (i64 x.1)), (1, .val (i64 (k + x.1))), (0, .val (eIs x.2))]) (fun x => (l.length - x.1).toNat) (0, l) ⟨by omega, by simp, rfl, blw_zero _⟩ ⟨rfl, i64_eq (by simp), rfl, trivial⟩ rfl ?_
 rintro ⟨i, ys⟩ e ⟨i0, hN, hy, hP⟩
 dsimp only at i0 hN hy hP ⊢
 (repeat' first
  | (refine run_ite rfl (fun h => ?_) (fun h => ?_) <;> (try simp (disch := omega) only [zB, eqDs, eqD, Nat.reduceAdd, wrap64] at h) <;> (try (exfalso; omega)))
  | refine run_nd rfl ?_
  | refine run_nn rfl ?_
  | (refine run_next rfl (Exists.intro (i + 1, ys.set i.toNat (k + i)) ⟨by dsimp only; omega, ⟨by dsimp only; omega, by dsimp only; omega, by simpa using hy, blw_put (f := fun j => k + j) i0 (by omega) hP⟩, i64_eq (wrap64 _ (by omega)), i64_eq (by rw [wrap64 _ (by omega)]; dsimp only; omega), sl_eq (els_v i0 (by omega)), trivial⟩))
  | refine run_need rfl ?_ ?_
  | (refine run_ret rfl ?_ ; first | refine rb ?_ | refine ri ?_ | refine rs2 ?_ ?_ | refine rs1 ?_)
  | refine run_retx rfl ?_)
 ·exact i64_eq (by omega)
 ·refine sl_eq ?_
  rw [ix_ext (xs := ys) (ys := markI l k) (by rw [markI_len, hy]) (fun j j0 j1 => (hP j j0 (by omega)).trans (markI_ix l k j0 (by omega)).symm)]
theorem markFileS_ok (l : List P2) (k : Int) (h0 : 0 ≤ k) (hk : k + 2 * l.length ≤ 1099511627776) : FunOk PP W n_l_markFileS s_l_markFileS_X [eP2s l, i64 k] [i64 (k + 2 * l.length), eP2s (markP2 l k)] := by
 refine F_l_markFileS_X (run_fun ?_)
 (repeat' first
  | (refine run_ite rfl (fun h => ?_) (fun h => ?_) <;> (try simp (disch := omega) only [zB, eqDs, eqD, Nat.reduceAdd, wrap64] at h) <;> (try (exfalso; omega)))
  | refine run_nd rfl ?_
  | refine run_nn rfl ?_
  | refine run_need rfl ?_ ?_
  | (refine run_ret rfl ?_ ; first | refine rb ?_ | refine ri ?_ | refine rs2 ?_ ?_ | refine rs1 ?_)
  | refine run_retx rfl ?_)
 refine run_loop rfl (fun x : Int × List P2 => 0 ≤ x.1 ∧ x.1 ≤ l.length ∧ x.2.length = l.length ∧ Blw x.1 (fun j => ix x.2 j = ⟨k + 2 * j, k + 2 * j + 1⟩)) (fun x => [(5, .val (i64 x.1)), (1, .val (i64 (k + 2 * x.1))), (0, .val (eP2s x.2))]) (fun x => (l.length - x.1).toNat) (0, l) ⟨by omega, by simp, rfl, blw_zero _⟩ ⟨rfl, i64_eq (by simp), rfl, trivial⟩ rfl ?_
 rintro ⟨i, ys⟩ e ⟨i0, hN, hy, hP⟩
 dsimp only at i0 hN hy hP ⊢
 (repeat' first
  | (refine run_ite rfl (fun h => ?_) (fun h => ?_) <;> (try simp (disch := omega) only [zB, eqDs, eqD, Nat.reduceAdd, wrap64] at h) <;> (try (exfalso; omega)))
  | refine run_nd rfl ?_
  | refine run_nn rfl ?_
  | (refine run_elsc rfl (els_gx (sz := 2) i0 (by first | omega | (simp only [List.length_set]; omega)) (by first | omega | (simp only [List.length_set]; omega)) (fun _ => rfl) (Nat.le_of_ble_eq_true rfl)) (sl_eq (elsP2_0 i0 (by omega))) ?_)
  | (refine run_elsc rfl (els_gx (sz := 2) i0 (by first | omega | (simp only [List.length_set]; omega)) (by first | omega | (simp only [List.length_set]; omega)) (fun _ => rfl) (Nat.le_of_ble_eq_true rfl)) (sl_eq ((elsP2_1 i0 (by first | omega | (simp only [List.length_set]; omega))).trans (by rw [ix_ssx i0 (by omega), List.set_set, wrap64 _ (by omega)]))) ?_)
  | (refine run_next rfl (Exists.intro (i + 1, ys.set i.toNat ⟨k + 2 * i, k + 2 * i + 1⟩) ⟨by dsimp only; omega, ⟨by dsimp only; omega, by dsimp only; omega, by simpa using hy, blw_put (f := fun j => (⟨k + 2 * j, k + 2 * j + 1⟩ : P2)) i0 (by omega) hP⟩, i64_eq (wrap64 _ (by omega)), i64_eq (by rw [wrap64 (k + 2 * i + 1) (by omega), wrap64 _ (by omega)]; dsimp only; omega), rfl, trivial⟩))
  | refine run_need rfl ?_ ?_
  | (refine run_ret rfl ?_ ; first | refine rb ?_ | refine ri ?_ | refine rs2 ?_ ?_ | refine rs1 ?_)
  | refine run_retx rfl ?_)
 ·exact i64_eq (by omega)
 ·refine sl_eq ?_
  rw [ix_ext (xs := ys) (ys := markP2 l k) (by rw [markP2_len, hy]) (fun j j0 j1 => (hP j j0 (by omega)).trans (markP2_ix l k j0 (by omega)).symm)]
theorem heldFileS_ok (l : List P2) (k : Int) (h0 : 0 ≤ k) (hk : k + 2 * l.length ≤ 1099511627776) (hh : Blw l.length (fun j => ix l j = ⟨k + 2 * j, k + 2 * j + 1⟩)) : FunOk PP W n_l_heldFileS s_l_heldFileS [eP2s l, i64 k] [i64 (k + 2 * l.length)] := by
 refine F_l_heldFileS (run_fun ?_)
 (repeat' first
  | (refine run_ite rfl (fun h => ?_) (fun h => ?_) <;> (try simp (disch := omega) only [zB, eqDs, eqD, Nat.reduceAdd, wrap64] at h) <;> (try (exfalso; omega)))
  | refine run_nd rfl ?_
  | refine run_nn rfl ?_
  | refine run_need rfl ?_ ?_
  | (refine run_ret rfl ?_ ; first | refine rb ?_ | refine ri ?_ | refine rs2 ?_ ?_ | refine rs1 ?_)
  | refine run_retx rfl ?_)
 refine run_loop rfl (fun x : Int => 0 ≤ x ∧ x ≤ l.length) (fun x => [(5, .val (i64 x)), (1, .val (i64 (k + 2 * x))), (0, .val (eP2s l))]) (fun x => (l.length - x).toNat) 0 ⟨by omega, by simp⟩ ⟨rfl, i64_eq (by simp), rfl, trivial⟩ rfl ?_
 rintro i e ⟨i0, hN⟩
 by_cases hi : i < l.length
 ·have hx : ix l i = ⟨k + 2 * i, k + 2 * i + 1⟩ := hh i i0 hi
  have hxa : (ix l i).a = k + 2 * i := by rw [hx]
  have hxb : (ix l i).b = k + 2 * i + 1 := by rw [hx]
  (repeat' first
  | (refine run_ite rfl (fun h => ?_) (fun h => ?_) <;> (try simp (disch := omega) only [zB, eqDs, eqD, Nat.reduceAdd, wrap64] at h) <;> (try (exfalso; omega)))
  | refine run_nd rfl ?_
  | refine run_nn rfl ?_
  | (refine run_next rfl (Exists.intro (i + 1) ⟨by omega, ⟨by omega, by omega⟩, i64_eq (wrap64 _ (by omega)), i64_eq (by rw [wrap64 (k + 2 * i + 1) (by omega), wrap64 _ (by omega)]; omega), rfl, trivial⟩))
  | refine run_need rfl ?_ ?_
  | (refine run_ret rfl ?_ ; first | refine rb ?_ | refine ri ?_ | refine rs2 ?_ ?_ | refine rs1 ?_)
  | refine run_retx rfl ?_)
 ·(repeat' first
  | (refine run_ite rfl (fun h => ?_) (fun h => ?_) <;> (try simp (disch := omega) only [zB, eqDs, eqD, Nat.reduceAdd, wrap64] at h) <;> (try (exfalso; omega)))
  | refine run_nd rfl ?_
  | refine run_nn rfl ?_
  | refine run_need rfl ?_ ?_
  | (refine run_ret rfl ?_ ; first | refine rb ?_ | refine ri ?_ | refine rs2 ?_ ?_ | refine rs1 ?_)
  | refine run_retx rfl ?_)
  omega

theorem markDepS_ok (l : List P2) (k : Int) (h0 : 0 ≤ k) (hk : k + 2 * l.length ≤ 1099511627776) : FunOk PP W n_l_markDepS s_l_markDepS_X [eP2s l, i64 k] [i64 (k + 2 * l.length), eP2s (markP2 l k)] := by
 refine F_l_markDepS_X (run_fun ?_)
 (repeat' first
  | (refine run_ite rfl (fun h => ?_) (fun h => ?_) <;> (try simp (disch := omega) only [zB, eqDs, eqD, Nat.reduceAdd, wrap64] at h) <;> (try (exfalso; omega)))
  | refine run_nd rfl ?_
  | refine run_nn rfl ?_
  | refine run_need rfl ?_ ?_
  | (refine run_ret rfl ?_ ; first | refine rb ?_ | refine ri ?_ | refine rs2 ?_ ?_ | refine rs1 ?_)
  | refine run_retx rfl ?_)
 refine run_loop rfl (fun x : Int × List P2 => 0 ≤ x.1 ∧ x.1 ≤ l.length ∧ x.2.length = l.length ∧ Blw x.1 (fun j => ix x.2 j = ⟨k + 2 * j, k + 2 * j + 1⟩)) (fun x => [(5, .val (i64 x.1)), (1, .val (i64 (k + 2 * x.1))), (0, .val (eP2s x.2))]) (fun x => (l.length - x.1).toNat) (0, l) ⟨by omega, by simp, rfl, blw_zero _⟩ ⟨rfl, i64_eq (by simp), rfl, trivial⟩ rfl ?_
 rintro ⟨i, ys⟩ e ⟨i0, hN, hy, hP⟩
 dsimp only at i0 hN hy hP ⊢
 (repeat' first
  | (refine run_ite rfl (fun h => ?_) (fun h => ?_) <;> (try simp (disch := omega) only [zB, eqDs, eqD, Nat.reduceAdd, wrap64] at h) <;> (try (exfalso; omega)))
  | refine run_nd rfl ?_
  | refine run_nn rfl ?_
  | (refine run_elsc rfl (els_gx (sz := 2) i0 (by first | omega | (simp only [List.length_set]; omega)) (by first | omega | (simp only [List.length_set]; omega)) (fun _ => rfl) (Nat.le_of_ble_eq_true rfl)) (sl_eq (elsP2_0 i0 (by omega))) ?_)
  | (refine run_elsc rfl (els_gx (sz := 2) i0 (by first | omega | (simp only [List.length_set]; omega)) (by first | omega | (simp only [List.length_set]; omega)) (fun _ => rfl) (Nat.le_of_ble_eq_true rfl)) (sl_eq ((elsP2_1 i0 (by first | omega | (simp only [List.length_set]; omega))).trans (by rw [ix_ssx i0 (by omega), List.set_set, wrap64 _ (by omega)]))) ?_)
  | (refine run_next rfl (Exists.intro (i + 1, ys.set i.toNat ⟨k + 2 * i, k + 2 * i + 1⟩) ⟨by dsimp only; omega, ⟨by dsimp only; omega, by dsimp only; omega, by simpa using hy, blw_put (f := fun j => (⟨k + 2 * j, k + 2 * j + 1⟩ : P2)) i0 (by omega) hP⟩, i64_eq (wrap64 _ (by omega)), i64_eq (by rw [wrap64 (k + 2 * i + 1) (by omega), wrap64 _ (by omega)]; dsimp only; omega), rfl, trivial⟩))
  | refine run_need rfl ?_ ?_
  | (refine run_ret rfl ?_ ; first | refine rb ?_ | refine ri ?_ | refine rs2 ?_ ?_ | refine rs1 ?_)
  | refine run_retx rfl ?_)
 ·exact i64_eq (by omega)
 ·refine sl_eq ?_
  rw [ix_ext (xs := ys) (ys := markP2 l k) (by rw [markP2_len, hy]) (fun j j0 j1 => (hP j j0 (by omega)).trans (markP2_ix l k j0 (by omega)).symm)]
theorem heldDepS_ok (l : List P2) (k : Int) (h0 : 0 ≤ k) (hk : k + 2 * l.length ≤ 1099511627776) (hh : Blw l.length (fun j => ix l j = ⟨k + 2 * j, k + 2 * j + 1⟩)) : FunOk PP W n_l_heldDepS s_l_heldDepS [eP2s l, i64 k] [i64 (k + 2 * l.length)] := by
 refine F_l_heldDepS (run_fun ?_)
 (repeat' first
  | (refine run_ite rfl (fun h => ?_) (fun h => ?_) <;> (try simp (disch := omega) only [zB, eqDs, eqD, Nat.reduceAdd, wrap64] at h) <;> (try (exfalso; omega)))
  | refine run_nd rfl ?_
  | refine run_nn rfl ?_
  | refine run_need rfl ?_ ?_
  | (refine run_ret rfl ?_ ; first | refine rb ?_ | refine ri ?_ | refine rs2 ?_ ?_ | refine rs1 ?_)
  | refine run_retx rfl ?_)
 refine run_loop rfl (fun x : Int => 0 ≤ x ∧ x ≤ l.length) (fun x => [(5, .val (i64 x)), (1, .val (i64 (k + 2 * x))), (0, .val (eP2s l))]) (fun x => (l.length - x).toNat) 0 ⟨by omega, by simp⟩ ⟨rfl, i64_eq (by simp), rfl, trivial⟩ rfl ?_
 rintro i e ⟨i0, hN⟩
 by_cases hi : i < l.length
 ·have hx : ix l i = ⟨k + 2 * i, k + 2 * i + 1⟩ := hh i i0 hi
  have hxa : (ix l i).a = k + 2 * i := by rw [hx]
  have hxb : (ix l i).b = k + 2 * i + 1 := by rw [hx]
  (repeat' first
  | (refine run_ite rfl (fun h => ?_) (fun h => ?_) <;> (try simp (disch := omega) only [zB, eqDs, eqD, Nat.reduceAdd, wrap64] at h) <;> (try (exfalso; omega)))
  | refine run_nd rfl ?_
  | refine run_nn rfl ?_
  | (refine run_next rfl (Exists.intro (i + 1) ⟨by omega, ⟨by omega, by omega⟩, i64_eq (wrap64 _ (by omega)), i64_eq (by rw [wrap64 (k + 2 * i + 1) (by omega), wrap64 _ (by omega)]; omega), rfl, trivial⟩))
  | refine run_need rfl ?_ ?_
  | (refine run_ret rfl ?_ ; first | refine rb ?_ | refine ri ?_ | refine rs2 ?_ ?_ | refine rs1 ?_)
  | refine run_retx rfl ?_)
 ·(repeat' first
  | (refine run_ite rfl (fun h => ?_) (fun h => ?_) <;> (try simp (disch := omega) only [zB, eqDs, eqD, Nat.reduceAdd, wrap64] at h) <;> (try (exfalso; omega)))
  | refine run_nd rfl ?_
  | refine run_nn rfl ?_
  | refine run_need rfl ?_ ?_
  | (refine run_ret rfl ?_ ; first | refine rb ?_ | refine ri ?_ | refine rs2 ?_ ?_ | refine rs1 ?_)
  | refine run_retx rfl ?_)
  omega
end V
end Go.Proofs.YtnaldhcdcpdbnaaGreatDoor

/-
Plain proofs: packages that are marked, and found marked.
-/
namespace Go.Proofs.YtnaldhcdcpdbnaaGreatDoor
namespace V
open Classical
set_option maxRecDepth 100000
variable {W : Wld}

def cntP (p : Pk) : Int := 2 + 2 * p.files.length + 2 * p.deps.length
theorem cntP_nn (p : Pk) : 0 ≤ cntP p := by unfold cntP; omega
def cntPs (ps : List Pk) : Int := sumF cntP ps
def markPk (p : Pk) (k : Int) : Pk := ⟨k, k + 1, markP2 p.files (k + 2), markP2 p.deps (k + 2 + 2 * p.files.length)⟩
def markPs (l : List Pk) (k : Int) : List Pk := (List.range l.length).map fun (j : Nat) => markPk (ix l j) (k + cntPs (l.take j))
theorem markPs_len (l : List Pk) (k : Int) : (markPs l k).length = l.length := by simp [markPs]
theorem markPs_ix (l : List Pk) (k : Int) {i : Int} (h0 : 0 ≤ i) (h1 : i < l.length) : ix (markPs l k) i = markPk (ix l i) (k + cntPs (l.take i.toNat)) := by
 unfold markPs
 rw [ix_range h0 h1]
 simp only [show ((i.toNat : Nat) : Int) = i by omega]
theorem cntP_mark (p : Pk) (k : Int) : cntP (markPk p k) = cntP p := by simp [cntP, markPk, markP2_len]
theorem sumF_ext {α : Type} [Inhabited α] {f : α → Int} {xs ys : List α} (hl : xs.length = ys.length) (h : Blw xs.length (fun i => f (ix xs i) = f (ix ys i))) : sumF f xs = sumF f ys := by
 unfold sumF
 congr 1
 refine List.ext_getElem (by simp [hl]) (fun n h1 h2 => ?_)
 have h1' : n < xs.length := by simpa using h1
 have h2' : n < ys.length := by simpa using h2
 have h3 : f (ix xs (n : Int)) = f (ix ys (n : Int)) := h n (by omega) (by omega)
 simpa [ix, h1', h2'] using h3
theorem ix_takeN {α : Type} [Inhabited α] (xs : List α) {n : Nat} {i : Int} (h0 : 0 ≤ i) (h1 : i < n) : ix (xs.take n) i = ix xs i := by
 have : i.toNat < n := by omega
 simp only [ix, List.getD_eq_getElem?_getD]
 rw [List.getElem?_take_of_lt this]
theorem cntPs_mark (l : List Pk) (k : Int) (n : Nat) : cntPs ((markPs l k).take n) = cntPs (l.take n) := by
 refine sumF_ext (by simp [markPs_len]) (fun i h0 h1 => ?_)
 simp only [List.length_take, markPs_len] at h1
 show cntP _ = cntP _
 rw [ix_takeN _ h0 (by omega), ix_takeN _ h0 (by omega), markPs_ix l k h0 (by omega), cntP_mark]
theorem cntPs_mark' (l : List Pk) (k : Int) : cntPs (markPs l k) = cntPs l := by
 have := cntPs_mark l k l.length
 rwa [List.take_of_length_le (by rw [markPs_len]; exact Nat.le_refl _), List.take_of_length_le (Nat.le_refl _)] at this
theorem cntPs_nn (l : List Pk) : 0 ≤ cntPs l := sumF_nn cntP_nn l

theorem len_cnt : ∀ l : List Pk, 2 * (l.length : Int) ≤ cntPs l
 | [] => by simp [cntPs, sumF]
 | p :: r => by
  have h := len_cnt r
  simp only [cntPs, sumF, List.map_cons, List.sum_cons, List.length_cons] at *
  have : cntP p = 2 + 2 * p.files.length + 2 * p.deps.length := rfl
  omega
theorem get_ss {α : Type} [Inhabited α] {enc : α → List D} {ys : List α} {i : Int} {q : α} (h0 : 0 ≤ i) (h1 : i < ys.length) : ((ys.set i.toNat q).map enc)[i.toNat]? = some (enc q) := by
 have : i.toNat < ys.length := by omega
 simp [this]
theorem set_ss {α : Type} {enc : α → List D} {ys : List α} {i : Int} {q q' : α} {j : Nat} {d : D} (h : (enc q).set j d = enc q') : ([.sl ((ys.set i.toNat q).map enc)] : List D).set 0 (.sl (((ys.set i.toNat q).map enc).set i.toNat ((enc q).set j d))) = [.sl ((ys.set i.toNat q').map enc)] := by
 rw [h, ← List.map_set, List.set_set]
 rfl

theorem blw_from {α : Type} [Inhabited α] {l ys : List α} {i : Int} {z : α} (h0 : 0 ≤ i) (h1 : i < ys.length) (h : ∀ j, i ≤ j → ix ys j = ix l j) : ∀ j, i + 1 ≤ j → ix (ys.set i.toNat z) j = ix l j := fun j hj => by
 rw [ix_sgx h0 h1 (by omega), if_neg (by omega)]
 exact h j (by omega)

theorem markPkgS_ok (l : List Pk) (k : Int) (h0 : 0 ≤ k) (hk : k + cntPs l ≤ 1099511627776) : FunOk PP W n_l_markPkgS s_l_markPkgS_X [ePks l, i64 k] [i64 (k + cntPs l), ePks (markPs l k)] := by
 refine F_l_markPkgS_X (run_fun ?_)
 have hlc := len_cnt l
 (repeat' first
  | (refine run_ite rfl (fun h => ?_) (fun h => ?_) <;> (try simp (disch := omega) only [zB, eqDs, eqD, Nat.reduceAdd, wrap64] at h) <;> (try (exfalso; omega)))
  | refine run_nd rfl ?_
  | refine run_nn rfl ?_
  | refine run_need rfl ?_ ?_
  | (refine run_ret rfl ?_ ; first | refine rb ?_ | refine ri ?_ | refine rs2 ?_ ?_ | refine rs1 ?_)
  | refine run_retx rfl ?_)
 refine run_loop rfl (fun x : Int × List Pk => 0 ≤ x.1 ∧ x.1 ≤ l.length ∧ x.2.length = l.length ∧ Blw x.1 (fun j => ix x.2 j = markPk (ix l j) (k + cntPs (l.take j.toNat))) ∧ ∀ j, x.1 ≤ j → ix x.2 j = ix l j)
  (fun x => [(5, .val (i64 x.1)), (1, .val (i64 (k + cntPs (l.take x.1.toNat)))), (0, .val (ePks x.2))]) (fun x => (l.length - x.1).toNat) (0, l) ⟨by omega, by simp, rfl, blw_zero _, fun _ _ => rfl⟩ ⟨rfl, i64_eq (by simp [cntPs, sumF]), rfl, trivial⟩ rfl ?_
 rintro ⟨i, ys⟩ e ⟨i0, hN, hy, hP, hI⟩
 dsimp only at i0 hN hy hP hI ⊢
 have hnn : 0 ≤ cntPs (l.take i.toNat) := cntPs_nn _
 by_cases hi : i < l.length
 ·have hix : ix ys i = ix l i := hI i (by omega)
  have hle := sumF_le cntP_nn l (i + 1).toNat
  have ht := sumF_take cntP l i0 hi
  have hc : cntP (ix l i) = 2 + 2 * (ix l i).files.length + 2 * (ix l i).deps.length := rfl
  simp only [show sumF cntP = cntPs from rfl] at hle ht
  generalize hK : k + cntPs (l.take i.toNat) = K at *
  have f1 := markFileS_ok (W := W) (ix l i).files (K + 2) (by omega) (by omega)
  have f2 := markDepS_ok (W := W) (ix l i).deps (K + 2 + 2 * (ix l i).files.length) (by omega) (by omega)
  (repeat' first
  | (refine run_ite rfl (fun h => ?_) (fun h => ?_) <;> (try simp (disch := omega) only [zB, eqDs, eqD, Nat.reduceAdd, wrap64] at h) <;> (try (exfalso; omega)))
  | refine run_nd rfl ?_
  | refine run_nn rfl ?_
  | (refine run_elsc rfl (els_gx (sz := 4) i0 (by omega) (by omega) (fun _ => rfl) (Nat.le_of_ble_eq_true rfl)) (sl_eq ((elsPk_0 i0 (by omega)).trans (by rw [hix]))) ?_)
  | (refine run_elsc (c := [.sl ((ys.set i.toNat ⟨K, K + 1, (ix l i).files, (ix l i).deps⟩).map ePk)]) rfl (els_gx (sz := 4) i0 (by simp only [List.length_set]; omega) (by simp only [List.length_set]; omega) (fun _ => rfl) (Nat.le_of_ble_eq_true rfl)) (sl_eq ((elsPk_1 i0 (by simp only [List.length_set]; omega)).trans (by rw [ix_ssx i0 (by omega), List.set_set, wrap64 _ (by omega)]))) ?_)
  | (refine run_ioe rfl rfl rfl (get_ss i0 (by omega)) (get_ss i0 (by omega)) rfl rfl f1 (i64_eq (by rw [wrap64 (K + 1) (by omega), wrap64 _ (by omega)]; omega)) (set_ss (q' := ⟨K, K + 1, markP2 (ix l i).files (K + 2), (ix l i).deps⟩) rfl) ?_)
  | (refine run_ioe rfl rfl rfl (get_ss i0 (by omega)) (get_ss i0 (by omega)) rfl rfl f2 rfl (set_ss (q' := ⟨K, K + 1, markP2 (ix l i).files (K + 2), markP2 (ix l i).deps (K + 2 + 2 * (ix l i).files.length)⟩) rfl) ?_)
  | (refine run_next rfl (Exists.intro (i + 1, ys.set i.toNat (markPk (ix l i) K)) ⟨?_, ⟨?_, ?_, ?_, ?_, ?_⟩, ?_, ?_, ?_, trivial⟩))
  | refine run_need rfl ?_ ?_
  | (refine run_ret rfl ?_ ; first | refine rb ?_ | refine ri ?_ | refine rs2 ?_ ?_ | refine rs1 ?_)
  | refine run_retx rfl ?_)
  ·dsimp only; omega
  ·dsimp only; omega
  ·dsimp only; omega
  ·simpa using hy
  ·subst hK
   exact blw_put (f := fun j => markPk (ix l j) (k + cntPs (l.take j.toNat))) i0 (by omega) hP
  ·exact blw_from i0 (by omega) hI
  ·exact i64_eq (wrap64 _ (by omega))
  ·exact i64_eq (by dsimp only; omega)
  ·rfl
 ·(repeat' first
  | (refine run_ite rfl (fun h => ?_) (fun h => ?_) <;> (try simp (disch := omega) only [zB, eqDs, eqD, Nat.reduceAdd, wrap64] at h) <;> (try (exfalso; omega)))
  | refine run_nd rfl ?_
  | refine run_nn rfl ?_
  | refine run_need rfl ?_ ?_
  | (refine run_ret rfl ?_ ; first | refine rb ?_ | refine ri ?_ | refine rs2 ?_ ?_ | refine rs1 ?_)
  | refine run_retx rfl ?_)
  ·rw [List.take_of_length_le (by omega)]
  ·refine sl_eq ?_
   rw [ix_ext (xs := ys) (ys := markPs l k) (by rw [markPs_len, hy]) (fun j j0 j1 => (hP j j0 (by omega)).trans (markPs_ix l k j0 (by omega)).symm)]

def HdP2 (l : List P2) (k : Int) : Prop := Blw l.length (fun j => ix l j = ⟨k + 2 * j, k + 2 * j + 1⟩)
def HdPk (p : Pk) (k : Int) : Prop := p.name = k ∧ p.ver = k + 1 ∧ HdP2 p.files (k + 2) ∧ HdP2 p.deps (k + 2 + 2 * p.files.length)
def HdPs (l : List Pk) (k : Int) : Prop := Blw l.length (fun j => HdPk (ix l j) (k + cntPs (l.take j.toNat)))
theorem hdP2_mark (l : List P2) (k : Int) : HdP2 (markP2 l k) k := fun j j0 j1 => by
 rw [markP2_len] at j1
 exact markP2_ix l k j0 j1
theorem hdPk_mark (p : Pk) (k : Int) : HdPk (markPk p k) k := ⟨rfl, rfl, hdP2_mark _ _, by
 show HdP2 (markP2 p.deps (k + 2 + 2 * p.files.length)) (k + 2 + 2 * (markP2 p.files (k + 2)).length)
 rw [markP2_len]
 exact hdP2_mark _ _⟩
theorem hdPs_mark (l : List Pk) (k : Int) : HdPs (markPs l k) k := fun j j0 j1 => by
 rw [markPs_len] at j1
 show HdPk (ix (markPs l k) j) (k + cntPs ((markPs l k).take j.toNat))
 rw [cntPs_mark, markPs_ix l k j0 j1]
 exact hdPk_mark _ _

theorem heldPkgS_ok (l : List Pk) (k : Int) (h0 : 0 ≤ k) (hk : k + cntPs l ≤ 1099511627776) (hh : HdPs l k) : FunOk PP W n_l_heldPkgS s_l_heldPkgS [ePks l, i64 k] [i64 (k + cntPs l)] := by
 refine F_l_heldPkgS (run_fun ?_)
 have hlc := len_cnt l
 (repeat' first
  | (refine run_ite rfl (fun h => ?_) (fun h => ?_) <;> (try simp (disch := omega) only [zB, eqDs, eqD, Nat.reduceAdd, wrap64] at h) <;> (try (exfalso; omega)))
  | refine run_nd rfl ?_
  | refine run_nn rfl ?_
  | refine run_need rfl ?_ ?_
  | (refine run_ret rfl ?_ ; first | refine rb ?_ | refine ri ?_ | refine rs2 ?_ ?_ | refine rs1 ?_)
  | refine run_retx rfl ?_)
 refine run_loop rfl (fun i : Int => 0 ≤ i ∧ i ≤ l.length) (fun i => [(5, .val (i64 i)), (1, .val (i64 (k + cntPs (l.take i.toNat)))), (0, .val (ePks l))]) (fun i => (l.length - i).toNat) 0 ⟨by omega, by simp⟩ ⟨rfl, i64_eq (by simp [cntPs, sumF]), rfl, trivial⟩ rfl ?_
 rintro i e ⟨i0, hN⟩
 have hnn : 0 ≤ cntPs (l.take i.toNat) := cntPs_nn _
 by_cases hi : i < l.length
 ·have hle := sumF_le cntP_nn l (i + 1).toNat
  have ht := sumF_take cntP l i0 hi
  have hc : cntP (ix l i) = 2 + 2 * (ix l i).files.length + 2 * (ix l i).deps.length := rfl
  simp only [show sumF cntP = cntPs from rfl] at hle ht
  obtain ⟨g1, g2, g3, g4⟩ := hh i i0 hi
  generalize hK : k + cntPs (l.take i.toNat) = K at *
  have f1 := heldFileS_ok (W := W) (ix l i).files (K + 2) (by omega) (by omega) g3
  have f2 := heldDepS_ok (W := W) (ix l i).deps (K + 2 + 2 * (ix l i).files.length) (by omega) (by omega) g4
  have w1 : IntKind.i64.wrap (IntKind.i64.wrap (K + 1) + 1) = K + 2 := by rw [wrap64 (K + 1) (by omega), wrap64 _ (by omega)]; omega
  (repeat' first
  | (refine run_ite rfl (fun h => ?_) (fun h => ?_) <;> (try simp (disch := omega) only [zB, eqDs, eqD, Nat.reduceAdd, wrap64] at h) <;> (try (exfalso; omega)))
  | refine run_nd rfl ?_
  | refine run_nn rfl ?_
  | (refine run_calleq rfl f1 (rs2 (sl_eq (z5 _ _)) (i64_eq w1)) rfl ?_)
  | (refine run_calleq rfl f2 (rs2 (sl_eq (z6 _ _)) rfl) rfl ?_)
  | (refine run_next rfl (Exists.intro (i + 1) ⟨by omega, ⟨by omega, by omega⟩, i64_eq (wrap64 _ (by omega)), i64_eq (by omega), rfl, trivial⟩))
  | refine run_need rfl ?_ ?_
  | (refine run_ret rfl ?_ ; first | refine rb ?_ | refine ri ?_ | refine rs2 ?_ ?_ | refine rs1 ?_)
  | refine run_retx rfl ?_)
 ·(repeat' first
  | (refine run_ite rfl (fun h => ?_) (fun h => ?_) <;> (try simp (disch := omega) only [zB, eqDs, eqD, Nat.reduceAdd, wrap64] at h) <;> (try (exfalso; omega)))
  | refine run_nd rfl ?_
  | refine run_nn rfl ?_
  | refine run_need rfl ?_ ?_
  | (refine run_ret rfl ?_ ; first | refine rb ?_ | refine ri ?_ | refine rs2 ?_ ?_ | refine rs1 ?_)
  | refine run_retx rfl ?_)
  rw [List.take_of_length_le (by omega)]
end V
end Go.Proofs.YtnaldhcdcpdbnaaGreatDoor

/-
Plain proofs: what the program's functions do, where all that comes back is owned.
-/
namespace Go.Proofs.YtnaldhcdcpdbnaaGreatDoor
namespace V
open Classical
set_option maxRecDepth 100000
variable {W : Wld}

theorem pkgCopied_X (p : Pk) (hs : SmP p) : FunOk PP W n_i_Pkg_copied s_i_Pkg_copied_X [ePk p] [ePk p] := by
 refine F_i_Pkg_copied_X (run_fun ?_)
 (repeat' first
  | (refine run_ite rfl (fun h => ?_) (fun h => ?_) <;> (try simp (disch := omega) only [zB, eqDs, eqD, Nat.reduceAdd, wrap64] at h) <;> (try (exfalso; omega)))
  | refine run_nd rfl ?_
  | refine run_nn rfl ?_
  | refine run_call1 rfl (cloneF_X p.files hs.1) rfl ?_
  | refine run_call1 rfl (cloneD_X p.deps hs.2) rfl ?_
  | refine run_need rfl ?_ ?_
  | (refine run_ret rfl ?_ ; first | refine rb ?_ | refine ri ?_ | refine rs2 ?_ ?_ | refine rs1 ?_)
  | refine run_retx rfl ?_)
 rfl
end V
end Go.Proofs.YtnaldhcdcpdbnaaGreatDoor

/-
The law FnExactDiskDo, in plain terms: it answers true whatever comes in.
-/
namespace Go.Proofs.YtnaldhcdcpdbnaaGreatDoor
namespace V
open Classical
set_option maxRecDepth 100000
variable {W : Wld}

theorem cntPs_sz : ∀ ps : List Pk, cntPs ps = 2 * szPs ps
 | [] => by simp [cntPs, szPs, sumF]
 | p :: r => by
  have h := cntPs_sz r
  simp only [cntPs, szPs, sumF, List.map_cons, List.sum_cons, List.length_cons] at *
  have e1 : cntP p = 2 + 2 * p.files.length + 2 * p.deps.length := rfl
  have e2 : cP p = p.files.length + p.deps.length := rfl
  omega
theorem sum_mem {α : Type} {f : α → Int} (hf : ∀ x, 0 ≤ f x) : ∀ {xs : List α} {x : α}, x ∈ xs → f x ≤ sumF f xs
 | y :: r, x, h => by
  have h1 := sumF_nn hf r
  have h2 := hf y
  simp only [sumF, List.map_cons, List.sum_cons] at *
  rcases List.mem_cons.1 h with e | h'
  ·rw [e]; omega
  ·have := sum_mem hf h'
   simp only [sumF] at this
   omega
theorem smPs_sz {ps : List Pk} (h : szPs ps ≤ 1073741824) : SmPs ps := by
 have hn := sumF_nn cP_nn ps
 unfold szPs at h
 refine ⟨by unfold lim; omega, fun p hp => ?_⟩
 have := sum_mem cP_nn hp
 have e : cP p = p.files.length + p.deps.length := rfl
 exact ⟨by unfold lim; omega, by unfold lim; omega⟩
end V
end Go.Proofs.YtnaldhcdcpdbnaaGreatDoor

