/-
Part 4 of the proof of the claimed statement (its last part holds the theorem, and says what is proved). Conditions: none.
-/
import Derived.Test.YtgialjcichiaoaaM3
import Derived.Test.YtgialjcichiaoaaProg
import Derived.KernelRfl
import Derived.Test.YtgialjcichiaoaaChecked
import Derived.Tactics
import Derived.Tactics2
import Derived.WalkKit
import Derived.Laws.IdiomCopy
import Derived.RowKit3
import Derived.LoopTactic
import Derived.Below
import Derived.RegionTactic
set_option linter.all false
/-
The seat's own numbers: types, functions, how each is called. Written by a program.
-/
namespace Go.Proofs.Ytgialjcichiaoaa
namespace V

noncomputable abbrev PP : Program := Try.prog
def tt : TT := .n 120 ⟨2, 16, [.int .i64 0, .int .i64 0], (.struct [(0, 3), (1, 3)])⟩ (.n 61 ⟨1, 8, [.bad], .other⟩ (.n 30 ⟨1, 8, [.bad], .other⟩ (.n 15 ⟨1, 8, [.bad], (.ptr 223)⟩ (.n 8 ⟨4, 24, [.int .i64 0, .int .i64 0, .bool false, .int .u8 0], (.struct [(0, 2), (1, 3), (2, 4), (3, 6)])⟩ (.n 4 ⟨1, 1, [.bool false], .bool⟩ (.n 2 ⟨1, 8, [.int .i64 0], (.int .i64)⟩ (.n 1 ⟨1, 8, [.bad], .other⟩ (.e) (.e)) (.n 3 ⟨1, 8, [.int .i64 0], (.int .i64)⟩ (.e) (.e))) (.n 6 ⟨1, 1, [.int .u8 0], (.int .u8)⟩ (.n 5 ⟨1, 1, [.int .u8 0], (.int .u8)⟩ (.e) (.e)) (.n 7 ⟨4, 24, [.int .i64 0, .int .i64 0, .bool false, .int .u8 0], (.struct [(0, 2), (1, 3), (2, 4), (3, 6)])⟩ (.e) (.e)))) (.n 12 ⟨1, 8, [.int .u64 0], (.int .u64)⟩ (.n 10 ⟨1, 16, [.str ⟨#[]⟩], .str⟩ (.n 9 ⟨1, 16, [.str ⟨#[]⟩], .str⟩ (.e) (.e)) (.n 11 ⟨1, 16, [.str ⟨#[]⟩], .str⟩ (.e) (.e))) (.n 14 ⟨2, 24, [.str ⟨#[]⟩, .int .u64 0], (.struct [(0, 9), (1, 12)])⟩ (.n 13 ⟨2, 24, [.str ⟨#[]⟩, .int .u64 0], (.struct [(0, 9), (1, 12)])⟩ (.e) (.e)) (.e)))) (.n 22 ⟨1, 24, [.sl []], (.slice 5)⟩ (.n 19 ⟨1, 8, [.bad], (.struct [(0, 17)])⟩ (.n 17 ⟨1, 8, [.bad], (.ptr 235)⟩ (.n 16 ⟨1, 8, [.bad], (.ptr 226)⟩ (.e) (.e)) (.n 18 ⟨1, 8, [.bad], (.struct [(0, 17)])⟩ (.e) (.e))) (.n 21 ⟨1, 4, [.int .i32 0], (.int .i32)⟩ (.n 20 ⟨1, 16, [.bad], .other⟩ (.e) (.e)) (.e))) (.n 26 ⟨4, 80, [.sl [], .sl [], .bool false, .sl []], (.struct [(0, 23), (1, 24), (2, 4), (3, 23)])⟩ (.n 24 ⟨1, 24, [.sl []], (.slice 3)⟩ (.n 23 ⟨1, 24, [.sl []], (.slice 104)⟩ (.e) (.e)) (.n 25 ⟨4, 80, [.sl [], .sl [], .bool false, .sl []], (.struct [(0, 23), (1, 24), (2, 4), (3, 23)])⟩ (.e) (.e))) (.n 29 ⟨1, 8, [.bad], .other⟩ (.n 27 ⟨1, 8, [.bad], .other⟩ (.e) (.e)) (.e))))) (.n 45 ⟨1, 8, [.bad], .other⟩ (.n 38 ⟨4, 48, [.int .i64 0, .int .i64 0, .int .i64 0, .sl []], (.struct [(0, 3), (1, 3), (2, 3), (3, 34)])⟩ (.n 34 ⟨1, 24, [.sl []], (.slice 128)⟩ (.n 32 ⟨1, 8, [.bad], .other⟩ (.n 31 ⟨1, 8, [.bad], .other⟩ (.e) (.e)) (.n 33 ⟨1, 8, [.bad], .other⟩ (.e) (.e))) (.n 36 ⟨4, 80, [.sl [], .sl [], .bool false, .sl []], (.struct [(0, 34), (1, 24), (2, 4), (3, 34)])⟩ (.n 35 ⟨4, 80, [.sl [], .sl [], .bool false, .sl []], (.struct [(0, 34), (1, 24), (2, 4), (3, 34)])⟩ (.e) (.e)) (.n 37 ⟨4, 48, [.int .i64 0, .int .i64 0, .int .i64 0, .sl []], (.struct [(0, 3), (1, 3), (2, 3), (3, 34)])⟩ (.e) (.e)))) (.n 42 ⟨1, 8, [.bad], .other⟩ (.n 40 ⟨1, 8, [.bad], .other⟩ (.n 39 ⟨1, 8, [.bad], .other⟩ (.e) (.e)) (.n 41 ⟨1, 8, [.bad], .other⟩ (.e) (.e))) (.n 44 ⟨4, 48, [.int .i64 0, .int .i64 0, .int .i64 0, .sl []], (.struct [(0, 3), (1, 3), (2, 3), (3, 23)])⟩ (.n 43 ⟨4, 48, [.int .i64 0, .int .i64 0, .int .i64 0, .sl []], (.struct [(0, 3), (1, 3), (2, 3), (3, 23)])⟩ (.e) (.e)) (.e)))) (.n 53 ⟨1, 8, [.bad], .other⟩ (.n 49 ⟨1, 8, [.bad], .other⟩ (.n 47 ⟨1, 8, [.bad], .other⟩ (.n 46 ⟨1, 8, [.bad], .other⟩ (.e) (.e)) (.n 48 ⟨1, 8, [.bad], .other⟩ (.e) (.e))) (.n 52 ⟨1, 24, [.sl []], (.slice 44)⟩ (.n 51 ⟨1, 8, [.bad], .other⟩ (.e) (.e)) (.e))) (.n 57 ⟨1, 8, [.bad], .other⟩ (.n 55 ⟨1, 8, [.bad], .other⟩ (.n 54 ⟨1, 8, [.bad], .other⟩ (.e) (.e)) (.n 56 ⟨1, 8, [.bad], .other⟩ (.e) (.e))) (.n 60 ⟨1, 8, [.bad], .other⟩ (.n 58 ⟨1, 8, [.bad], .other⟩ (.e) (.e)) (.e)))))) (.n 91 ⟨1, 8, [.bad], .other⟩ (.n 76 ⟨3, 40, [.int .i64 0, .int .i64 0, .sl []], (.struct [(0, 3), (1, 3), (2, 74)])⟩ (.n 69 ⟨3, 40, [.int .i64 0, .sl [], .int .i64 0], (.struct [(0, 3), (1, 24), (2, 3)])⟩ (.n 65 ⟨1, 8, [.bad], .other⟩ (.n 63 ⟨1, 8, [.bad], .other⟩ (.n 62 ⟨1, 8, [.bad], .other⟩ (.e) (.e)) (.n 64 ⟨1, 8, [.bad], .other⟩ (.e) (.e))) (.n 67 ⟨1, 8, [.bad], .other⟩ (.n 66 ⟨1, 8, [.bad], .other⟩ (.e) (.e)) (.n 68 ⟨3, 40, [.int .i64 0, .sl [], .int .i64 0], (.struct [(0, 3), (1, 24), (2, 3)])⟩ (.e) (.e)))) (.n 73 ⟨3, 40, [.int .i64 0, .sl [], .int .i64 0], (.struct [(0, 3), (1, 24), (2, 3)])⟩ (.n 71 ⟨1, 24, [.sl []], (.slice 146)⟩ (.n 70 ⟨1, 8, [.bad], .other⟩ (.e) (.e)) (.n 72 ⟨1, 24, [.sl []], (.slice 186)⟩ (.e) (.e))) (.n 75 ⟨3, 40, [.int .i64 0, .int .i64 0, .sl []], (.struct [(0, 3), (1, 3), (2, 74)])⟩ (.n 74 ⟨1, 24, [.sl []], (.slice 215)⟩ (.e) (.e)) (.e)))) (.n 84 ⟨1, 8, [.bad], .other⟩ (.n 80 ⟨17, 296, [.int .i64 0, .sl [], .sl [], .sl [], .sl [], .int .i64 0, .sl [], .int .i64 0, .bool false, .int .i64 0, .int .i64 0, .sl [], .sl [], .sl [], .sl [], .bool false, .sl []], (.struct [(0, 3), (1, 71), (2, 72), (3, 23), (4, 24), (5, 78), (12, 23), (13, 26)])⟩ (.n 78 ⟨7, 88, [.int .i64 0, .sl [], .int .i64 0, .bool false, .int .i64 0, .int .i64 0, .sl []], (.struct [(0, 73), (3, 4), (4, 76)])⟩ (.n 77 ⟨7, 88, [.int .i64 0, .sl [], .int .i64 0, .bool false, .int .i64 0, .int .i64 0, .sl []], (.struct [(0, 73), (3, 4), (4, 76)])⟩ (.e) (.e)) (.n 79 ⟨17, 296, [.int .i64 0, .sl [], .sl [], .sl [], .sl [], .int .i64 0, .sl [], .int .i64 0, .bool false, .int .i64 0, .int .i64 0, .sl [], .sl [], .sl [], .sl [], .bool false, .sl []], (.struct [(0, 3), (1, 71), (2, 72), (3, 23), (4, 24), (5, 78), (12, 23), (13, 26)])⟩ (.e) (.e))) (.n 83 ⟨1, 8, [.bad], .other⟩ (.n 82 ⟨1, 8, [.bad], .other⟩ (.e) (.e)) (.e))) (.n 88 ⟨1, 8, [.bad], .other⟩ (.n 86 ⟨1, 8, [.bad], .other⟩ (.n 85 ⟨1, 8, [.bad], .other⟩ (.e) (.e)) (.n 87 ⟨1, 8, [.bad], .other⟩ (.e) (.e))) (.n 90 ⟨1, 8, [.bad], .other⟩ (.n 89 ⟨1, 8, [.bad], .other⟩ (.e) (.e)) (.e))))) (.n 106 ⟨1, 8, [.bad], .other⟩ (.n 99 ⟨1, 8, [.bad], .other⟩ (.n 95 ⟨1, 8, [.bad], .other⟩ (.n 93 ⟨1, 24, [.sl []], (.slice 38)⟩ (.n 92 ⟨1, 8, [.bad], .other⟩ (.e) (.e)) (.n 94 ⟨1, 8, [.bad], .other⟩ (.e) (.e))) (.n 97 ⟨1, 8, [.bad], .other⟩ (.n 96 ⟨1, 8, [.bad], .other⟩ (.e) (.e)) (.n 98 ⟨1, 8, [.bad], .other⟩ (.e) (.e)))) (.n 103 ⟨4, 64, [.int .i64 0, .int .i64 0, .sl [], .sl []], (.struct [(0, 3), (1, 3), (2, 101), (3, 102)])⟩ (.n 101 ⟨1, 24, [.sl []], (.slice 121)⟩ (.n 100 ⟨1, 8, [.bad], .other⟩ (.e) (.e)) (.n 102 ⟨1, 24, [.sl []], (.slice 118)⟩ (.e) (.e))) (.n 105 ⟨1, 8, [.bad], .other⟩ (.n 104 ⟨4, 64, [.int .i64 0, .int .i64 0, .sl [], .sl []], (.struct [(0, 3), (1, 3), (2, 101), (3, 102)])⟩ (.e) (.e)) (.e)))) (.n 113 ⟨1, 8, [.bad], .other⟩ (.n 110 ⟨1, 8, [.bad], .other⟩ (.n 108 ⟨1, 8, [.bad], .other⟩ (.n 107 ⟨1, 8, [.bad], .other⟩ (.e) (.e)) (.n 109 ⟨1, 8, [.bad], (.ptr 157)⟩ (.e) (.e))) (.n 112 ⟨1, 8, [.bad], .other⟩ (.n 111 ⟨1, 8, [.bad], .other⟩ (.e) (.e)) (.e))) (.n 117 ⟨2, 16, [.int .i64 0, .int .i64 0], (.struct [(0, 3), (1, 3)])⟩ (.n 115 ⟨1, 8, [.bad], .other⟩ (.n 114 ⟨1, 8, [.bad], .other⟩ (.e) (.e)) (.n 116 ⟨1, 8, [.bad], .other⟩ (.e) (.e))) (.n 119 ⟨1, 8, [.bad], .other⟩ (.n 118 ⟨2, 16, [.int .i64 0, .int .i64 0], (.struct [(0, 3), (1, 3)])⟩ (.e) (.e)) (.e))))))) (.n 182 ⟨1, 8, [.bad], .other⟩ (.n 151 ⟨1, 8, [.bad], .other⟩ (.n 136 ⟨1, 8, [.bad], .other⟩ (.n 128 ⟨4, 64, [.int .i64 0, .int .i64 0, .sl [], .sl []], (.struct [(0, 3), (1, 3), (2, 125), (3, 126)])⟩ (.n 124 ⟨1, 8, [.bad], .other⟩ (.n 122 ⟨1, 8, [.bad], .other⟩ (.n 121 ⟨2, 16, [.int .i64 0, .int .i64 0], (.struct [(0, 3), (1, 3)])⟩ (.e) (.e)) (.n 123 ⟨1, 8, [.bad], .other⟩ (.e) (.e))) (.n 126 ⟨1, 24, [.sl []], (.slice 207)⟩ (.n 125 ⟨1, 24, [.sl []], (.slice 205)⟩ (.e) (.e)) (.n 127 ⟨4, 64, [.int .i64 0, .int .i64 0, .sl [], .sl []], (.struct [(0, 3), (1, 3), (2, 125), (3, 126)])⟩ (.e) (.e)))) (.n 132 ⟨1, 8, [.bad], .other⟩ (.n 130 ⟨1, 8, [.bad], .other⟩ (.n 129 ⟨1, 8, [.bad], .other⟩ (.e) (.e)) (.n 131 ⟨1, 8, [.bad], .other⟩ (.e) (.e))) (.n 135 ⟨1, 8, [.bad], .other⟩ (.n 134 ⟨1, 8, [.bad], .other⟩ (.e) (.e)) (.e)))) (.n 144 ⟨1, 8, [.bad], .other⟩ (.n 140 ⟨1, 8, [.bad], .other⟩ (.n 138 ⟨1, 8, [.bad], .other⟩ (.n 137 ⟨1, 8, [.bad], .other⟩ (.e) (.e)) (.n 139 ⟨1, 8, [.bad], .other⟩ (.e) (.e))) (.n 143 ⟨1, 8, [.bad], .other⟩ (.n 141 ⟨1, 8, [.bad], .other⟩ (.e) (.e)) (.e))) (.n 148 ⟨1, 8, [.bad], .other⟩ (.n 146 ⟨4, 64, [.int .i64 0, .sl [], .int .i64 0, .sl []], (.struct [(0, 73), (3, 24)])⟩ (.n 145 ⟨4, 64, [.int .i64 0, .sl [], .int .i64 0, .sl []], (.struct [(0, 73), (3, 24)])⟩ (.e) (.e)) (.n 147 ⟨1, 8, [.bad], .other⟩ (.e) (.e))) (.n 150 ⟨1, 8, [.bad], .other⟩ (.n 149 ⟨1, 8, [.bad], .other⟩ (.e) (.e)) (.e))))) (.n 166 ⟨1, 8, [.int .u64 0], (.int .u64)⟩ (.n 159 ⟨1, 8, [.bad], .other⟩ (.n 155 ⟨1, 8, [.bad], (.ptr 26)⟩ (.n 153 ⟨1, 8, [.bad], .other⟩ (.n 152 ⟨1, 8, [.bad], .other⟩ (.e) (.e)) (.n 154 ⟨1, 8, [.bad], .other⟩ (.e) (.e))) (.n 157 ⟨2, 32, [.sl [], .int .i64 0], (.struct [(0, 22), (1, 3)])⟩ (.n 156 ⟨2, 32, [.sl [], .int .i64 0], (.struct [(0, 22), (1, 3)])⟩ (.e) (.e)) (.n 158 ⟨1, 8, [.bad], .other⟩ (.e) (.e)))) (.n 163 ⟨1, 8, [.bad], .other⟩ (.n 161 ⟨1, 8, [.bad], .other⟩ (.n 160 ⟨6, 6, [.bool false, .bool false, .bool false, .bool false, .bool false, .bool false], (.array 6 4)⟩ (.e) (.e)) (.n 162 ⟨1, 8, [.bad], .other⟩ (.e) (.e))) (.n 165 ⟨1, 8, [.bad], .other⟩ (.n 164 ⟨1, 8, [.bad], .other⟩ (.e) (.e)) (.e)))) (.n 174 ⟨1, 8, [.bad], .other⟩ (.n 171 ⟨1, 24, [.sl []], (.slice 4)⟩ (.n 169 ⟨1, 8, [.bad], .other⟩ (.n 168 ⟨1, 8, [.bad], .other⟩ (.e) (.e)) (.n 170 ⟨1, 8, [.bad], .other⟩ (.e) (.e))) (.n 173 ⟨1, 8, [.bad], .other⟩ (.n 172 ⟨1, 8, [.bad], .other⟩ (.e) (.e)) (.e))) (.n 179 ⟨1, 8, [.bad], .other⟩ (.n 176 ⟨1, 8, [.bad], .other⟩ (.n 175 ⟨1, 8, [.bad], .other⟩ (.e) (.e)) (.n 178 ⟨1, 8, [.bad], .other⟩ (.e) (.e))) (.n 181 ⟨1, 8, [.bad], .other⟩ (.n 180 ⟨1, 8, [.bad], .other⟩ (.e) (.e)) (.e)))))) (.n 213 ⟨1, 8, [.bad], .other⟩ (.n 197 ⟨1, 8, [.bad], .other⟩ (.n 190 ⟨1, 8, [.bad], .other⟩ (.n 186 ⟨4, 64, [.int .i64 0, .int .i64 0, .sl [], .sl []], (.struct [(0, 76), (3, 24)])⟩ (.n 184 ⟨1, 8, [.bad], .other⟩ (.n 183 ⟨1, 8, [.bad], .other⟩ (.e) (.e)) (.n 185 ⟨4, 64, [.int .i64 0, .int .i64 0, .sl [], .sl []], (.struct [(0, 76), (3, 24)])⟩ (.e) (.e))) (.n 188 ⟨1, 8, [.bad], .other⟩ (.n 187 ⟨1, 8, [.bad], .other⟩ (.e) (.e)) (.n 189 ⟨1, 8, [.bad], .other⟩ (.e) (.e)))) (.n 194 ⟨1, 8, [.bad], .other⟩ (.n 192 ⟨1, 8, [.bad], .other⟩ (.n 191 ⟨1, 8, [.bad], .other⟩ (.e) (.e)) (.n 193 ⟨1, 8, [.bad], .other⟩ (.e) (.e))) (.n 196 ⟨1, 8, [.bad], .other⟩ (.n 195 ⟨1, 8, [.bad], .other⟩ (.e) (.e)) (.e)))) (.n 206 ⟨1, 8, [.bad], .other⟩ (.n 203 ⟨1, 8, [.bad], .other⟩ (.n 200 ⟨1, 8, [.bad], .other⟩ (.n 198 ⟨1, 4, [.int .u32 0], (.int .u32)⟩ (.e) (.e)) (.n 201 ⟨1, 8, [.int .u64 0], (.int .u64)⟩ (.e) (.e))) (.n 205 ⟨2, 16, [.int .i64 0, .int .i64 0], (.struct [(0, 3), (1, 3)])⟩ (.n 204 ⟨1, 8, [.bad], .other⟩ (.e) (.e)) (.e))) (.n 210 ⟨1, 8, [.bad], .other⟩ (.n 208 ⟨1, 8, [.bad], .other⟩ (.n 207 ⟨2, 16, [.int .i64 0, .int .i64 0], (.struct [(0, 3), (1, 3)])⟩ (.e) (.e)) (.n 209 ⟨1, 8, [.bad], .other⟩ (.e) (.e))) (.n 212 ⟨1, 8, [.bad], .other⟩ (.n 211 ⟨1, 8, [.bad], .other⟩ (.e) (.e)) (.e))))) (.n 227 ⟨1, 8, [.bad], .other⟩ (.n 220 ⟨1, 8, [.bad], .other⟩ (.n 217 ⟨1, 8, [.bad], .other⟩ (.n 215 ⟨3, 24, [.int .i64 0, .int .i64 0, .int .i64 0], (.struct [(0, 3), (1, 3), (2, 3)])⟩ (.n 214 ⟨3, 24, [.int .i64 0, .int .i64 0, .int .i64 0], (.struct [(0, 3), (1, 3), (2, 3)])⟩ (.e) (.e)) (.n 216 ⟨1, 8, [.bad], .other⟩ (.e) (.e))) (.n 219 ⟨1, 8, [.bad], .other⟩ (.n 218 ⟨1, 8, [.bad], .other⟩ (.e) (.e)) (.e))) (.n 224 ⟨0, 0, [], (.array 0 16)⟩ (.n 222 ⟨4, 40, [.bad, .bad, .bad, .str ⟨#[]⟩], (.struct [(0, 17), (1, 17), (2, 17), (3, 9)])⟩ (.n 221 ⟨1, 8, [.bad], .other⟩ (.e) (.e)) (.n 223 ⟨4, 40, [.bad, .bad, .bad, .str ⟨#[]⟩], (.struct [(0, 17), (1, 17), (2, 17), (3, 9)])⟩ (.e) (.e))) (.n 226 ⟨0, 0, [], (.struct [(0, 224)])⟩ (.n 225 ⟨0, 0, [], (.struct [(0, 224)])⟩ (.e) (.e)) (.e)))) (.n 234 ⟨11, 48, [.int .u64 0, .int .u64 0, .int .u32 0, .int .u8 0, .int .u8 0, .int .u8 0, .int .u8 0, .bad, .bad, .int .i32 0, .int .i32 0], (.struct [(0, 12), (1, 12), (2, 198), (3, 228), (4, 5), (5, 5), (6, 229), (7, 230), (8, 231), (9, 232), (10, 233)])⟩ (.n 231 ⟨1, 8, [.bad], (.ptr 5)⟩ (.n 229 ⟨1, 1, [.int .u8 0], (.int .u8)⟩ (.n 228 ⟨1, 1, [.int .u8 0], (.int .u8)⟩ (.e) (.e)) (.n 230 ⟨1, 8, [.bad], .other⟩ (.e) (.e))) (.n 233 ⟨1, 4, [.int .i32 0], (.int .i32)⟩ (.n 232 ⟨1, 4, [.int .i32 0], (.int .i32)⟩ (.e) (.e)) (.e))) (.n 238 ⟨1, 8, [.bad], .other⟩ (.n 236 ⟨1, 8, [.bad], .other⟩ (.n 235 ⟨11, 48, [.int .u64 0, .int .u64 0, .int .u32 0, .int .u8 0, .int .u8 0, .int .u8 0, .int .u8 0, .bad, .bad, .int .i32 0, .int .i32 0], (.struct [(0, 12), (1, 12), (2, 198), (3, 228), (4, 5), (5, 5), (6, 229), (7, 230), (8, 231), (9, 232), (10, 233)])⟩ (.e) (.e)) (.n 237 ⟨1, 8, [.bad], .other⟩ (.e) (.e))) (.n 240 ⟨1, 8, [.bad], .other⟩ (.n 239 ⟨1, 8, [.bad], .other⟩ (.e) (.e)) (.e)))))))
abbrev n_l_FnExactWorldNew : Nat := 10
abbrev n_l_eqDisk : Nat := 26
abbrev n_l_markDisk : Nat := 28
abbrev n_l_heldDisk : Nat := 30
abbrev n_i_DiskNew : Nat := 36
abbrev n_l_eqPkgS : Nat := 41
abbrev n_l_markPkgS : Nat := 42
abbrev n_l_heldPkgS : Nat := 43
abbrev n_l_szRoot : Nat := 49
abbrev n_s_WorldNew : Nat := 50
abbrev n_l_toRoot : Nat := 51
abbrev n_l_toIntS : Nat := 52
abbrev n_i_WorldNew : Nat := 53
abbrev n_l_eqWorld : Nat := 54
abbrev n_l_eqRoot : Nat := 55
abbrev n_l_eqIntS : Nat := 56
abbrev n_l_markRoot : Nat := 57
abbrev n_l_markIntS : Nat := 58
abbrev n_l_markWorld : Nat := 59
abbrev n_l_heldWorld : Nat := 60
abbrev n_l_szIntS : Nat := 74
abbrev n_l_heldIntS : Nat := 80
abbrev n_sl_Repeat_int : Nat := 98
abbrev n_s_l6In : Nat := 100
abbrev n_sl_Contains_int : Nat := 105
abbrev n_l_eqPkg : Nat := 108
abbrev n_l_markFileS : Nat := 109
abbrev n_l_markDepS : Nat := 110
abbrev n_l_heldFileS : Nat := 111
abbrev n_l_heldDepS : Nat := 112
abbrev n_s_RootOk : Nat := 114
abbrev n_s_KeysOk : Nat := 115
abbrev n_s_l2Both : Nat := 116
abbrev n_s_TrustNew : Nat := 117
abbrev n_s_l11RootCopy : Nat := 118
abbrev n_s_DiskNew : Nat := 119
abbrev n_i_RootOk : Nat := 120
abbrev n_i_KeysOk : Nat := 121
abbrev n_i_Root_safe : Nat := 122
abbrev n_i_TrustNew : Nat := 123
abbrev n_i_Root_copied : Nat := 124
abbrev n_sl_Clone_int : Nat := 125
abbrev n_l_eqSigRootS : Nat := 126
abbrev n_l_eqSigIndexS : Nat := 127
abbrev n_l_eqTrust : Nat := 128
abbrev n_l_markSigRootS : Nat := 129
abbrev n_l_markSigIndexS : Nat := 130
abbrev n_l_markTrust : Nat := 131
abbrev n_l_heldSigRootS : Nat := 132
abbrev n_l_heldSigIndexS : Nat := 133
abbrev n_l_heldTrust : Nat := 134
abbrev n_i_in : Nat := 138
abbrev n_s_l13Files : Nat := 149
abbrev n_sl_Index_int : Nat := 162
abbrev n_l_eqFileS : Nat := 166
abbrev n_l_eqDepS : Nat := 167
abbrev n_i_KeysBoth : Nat := 168
abbrev n_l_eqSigRoot : Nat := 169
abbrev n_l_eqSigIndex : Nat := 170
abbrev n_l_eqIndex : Nat := 171
abbrev n_l_markMetaS : Nat := 172
abbrev n_l_markIndex : Nat := 173
abbrev n_l_heldMetaS : Nat := 174
abbrev n_l_heldRoot : Nat := 175
abbrev n_l_heldIndex : Nat := 176
abbrev n_l_eqFile : Nat := 196
abbrev n_l_eqDep : Nat := 197
abbrev n_l_eqMetaS : Nat := 198
abbrev n_l_eqMeta : Nat := 204
abbrev s_s_DiskNew : Sig := ⟨[], [.v true [.r, .o true ⟨1, false⟩, .s, .r]]⟩
abbrev s_s_l13Files : Sig := ⟨[.v false [.b]], [.v false [.o true ⟨1, false⟩]]⟩
abbrev s_s_l11RootCopy : Sig := ⟨[.v true [.s, .b, .s]], [.v true [.s, .o false ⟨1, false⟩, .s]]⟩
abbrev s_s_WorldNew : Sig := ⟨[.v true [.s, .b, .s], .v false [.b]], [.v true [.s, .o false ⟨4, false⟩, .o false ⟨4, false⟩, .r, .r, .s, .r, .s, .s, .s, .s, .r, .r, .r, .o true ⟨1, false⟩, .s, .r], .v false [.s]]⟩
abbrev s_s_TrustNew : Sig := ⟨[.v true [.s, .b, .s]], [.v true [.s, .r, .s, .s, .s, .s, .r], .v false [.s]]⟩
abbrev s_i_DiskNew : Sig := ⟨[], [.v true [.o false ⟨4, false⟩, .o true ⟨1, false⟩, .s, .o false ⟨4, false⟩]]⟩
abbrev s_i_WorldNew : Sig := ⟨[.v true [.s, .b, .s], .v false [.b]], [.v true [.s, .o false ⟨4, false⟩, .o false ⟨4, false⟩, .o false ⟨4, false⟩, .o false ⟨1, false⟩, .s, .o false ⟨1, false⟩, .s, .s, .s, .s, .o false ⟨3, false⟩, .o false ⟨4, false⟩, .o false ⟨4, false⟩, .o true ⟨1, false⟩, .s, .o false ⟨4, false⟩], .v false [.s]]⟩
abbrev s_l_eqDisk : Sig := ⟨[.v true [.b, .b, .s, .b], .v true [.b, .b, .s, .b]], [.v false [.s]]⟩
abbrev s_l_markDisk : Sig := ⟨[.v true [.b, .b, .s, .b], .v false [.s]], [.v false [.s]]⟩
abbrev s_l_heldDisk : Sig := ⟨[.v true [.b, .b, .s, .b], .v false [.s]], [.v false [.s]]⟩
abbrev s_l_eqPkgS : Sig := ⟨[.v false [.b], .v false [.b]], [.v false [.s]]⟩
abbrev s_l_markPkgS : Sig := ⟨[.v false [.b], .v false [.s]], [.v false [.s]]⟩
abbrev s_l_heldPkgS : Sig := ⟨[.v false [.b], .v false [.s]], [.v false [.s]]⟩
abbrev s_l_szRoot : Sig := ⟨[.v true [.s, .b, .s], .v false [.s]], [.v false [.s]]⟩
abbrev s_l_toRoot : Sig := ⟨[.v true [.s, .b, .s]], [.v true [.s, .o true ⟨1, false⟩, .s]]⟩
abbrev s_l_toIntS : Sig := ⟨[.v false [.b]], [.v false [.o true ⟨1, false⟩]]⟩
abbrev s_l_eqWorld : Sig := ⟨[.v true [.s, .b, .b, .b, .b, .s, .b, .s, .s, .s, .s, .b, .b, .b, .b, .s, .b], .v true [.s, .b, .b, .b, .b, .s, .b, .s, .s, .s, .s, .b, .b, .b, .b, .s, .b]], [.v false [.s]]⟩
abbrev s_l_eqRoot : Sig := ⟨[.v true [.s, .b, .s], .v true [.s, .b, .s]], [.v false [.s]]⟩
abbrev s_l_eqIntS : Sig := ⟨[.v false [.b], .v false [.b]], [.v false [.s]]⟩
abbrev s_l_markRoot : Sig := ⟨[.v true [.s, .b, .s], .v false [.s]], [.v false [.s]]⟩
abbrev s_l_markIntS : Sig := ⟨[.v false [.b], .v false [.s]], [.v false [.s]]⟩
abbrev s_l_markWorld : Sig := ⟨[.v true [.s, .b, .b, .b, .b, .s, .b, .s, .s, .s, .s, .b, .b, .b, .b, .s, .b], .v false [.s]], [.v false [.s]]⟩
abbrev s_l_heldWorld : Sig := ⟨[.v true [.s, .b, .b, .b, .b, .s, .b, .s, .s, .s, .s, .b, .b, .b, .b, .s, .b], .v false [.s]], [.v false [.s]]⟩
abbrev s_l_szIntS : Sig := ⟨[.v false [.b], .v false [.s]], [.v false [.s]]⟩
abbrev s_l_heldIntS : Sig := ⟨[.v false [.b], .v false [.s]], [.v false [.s]]⟩
abbrev s_sl_Repeat_int : Sig := ⟨[.v false [.b], .v false [.s]], [.v false [.o true ⟨1, false⟩]]⟩
abbrev s_s_l6In : Sig := ⟨[.v false [.s], .v false [.s], .v false [.s]], [.v false [.s]]⟩
abbrev s_sl_Contains_int : Sig := ⟨[.v false [.b], .v false [.s]], [.v false [.s]]⟩
abbrev s_l_eqPkg : Sig := ⟨[.v true [.s, .s, .b, .b], .v true [.s, .s, .b, .b]], [.v false [.s]]⟩
abbrev s_l_markFileS : Sig := ⟨[.v false [.b], .v false [.s]], [.v false [.s]]⟩
abbrev s_l_markDepS : Sig := ⟨[.v false [.b], .v false [.s]], [.v false [.s]]⟩
abbrev s_l_heldFileS : Sig := ⟨[.v false [.b], .v false [.s]], [.v false [.s]]⟩
abbrev s_l_heldDepS : Sig := ⟨[.v false [.b], .v false [.s]], [.v false [.s]]⟩
abbrev s_s_RootOk : Sig := ⟨[.v true [.s, .b, .s]], [.v false [.s]]⟩
abbrev s_s_KeysOk : Sig := ⟨[.v false [.b]], [.v false [.s]]⟩
abbrev s_s_l2Both : Sig := ⟨[.v false [.b], .v false [.b]], [.v false [.s]]⟩
abbrev s_i_RootOk : Sig := ⟨[.v true [.s, .b, .s]], [.v false [.s]]⟩
abbrev s_i_KeysOk : Sig := ⟨[.v false [.b]], [.v false [.s]]⟩
abbrev s_i_Root_safe : Sig := ⟨[.v true [.s, .b, .s], .v false [.b]], [.v false [.s]]⟩
abbrev s_i_TrustNew : Sig := ⟨[.v true [.s, .b, .s]], [.v true [.s, .o false ⟨1, false⟩, .s, .s, .s, .s, .o false ⟨3, false⟩], .v false [.s]]⟩
abbrev s_i_Root_copied : Sig := ⟨[.v true [.s, .b, .s]], [.v true [.s, .o false ⟨1, false⟩, .s]]⟩
abbrev s_sl_Clone_int : Sig := ⟨[.v false [.b]], [.v false [.o true ⟨1, false⟩]]⟩
abbrev s_l_eqSigRootS : Sig := ⟨[.v false [.b], .v false [.b]], [.v false [.s]]⟩
abbrev s_l_eqSigIndexS : Sig := ⟨[.v false [.b], .v false [.b]], [.v false [.s]]⟩
abbrev s_l_eqTrust : Sig := ⟨[.v true [.s, .b, .s, .s, .s, .s, .b], .v true [.s, .b, .s, .s, .s, .s, .b]], [.v false [.s]]⟩
abbrev s_l_markSigRootS : Sig := ⟨[.v false [.b], .v false [.s]], [.v false [.s]]⟩
abbrev s_l_markSigIndexS : Sig := ⟨[.v false [.b], .v false [.s]], [.v false [.s]]⟩
abbrev s_l_markTrust : Sig := ⟨[.v true [.s, .b, .s, .s, .s, .s, .b], .v false [.s]], [.v false [.s]]⟩
abbrev s_l_heldSigRootS : Sig := ⟨[.v false [.b], .v false [.s]], [.v false [.s]]⟩
abbrev s_l_heldSigIndexS : Sig := ⟨[.v false [.b], .v false [.s]], [.v false [.s]]⟩
abbrev s_l_heldTrust : Sig := ⟨[.v true [.s, .b, .s, .s, .s, .s, .b], .v false [.s]], [.v false [.s]]⟩
abbrev s_i_in : Sig := ⟨[.v false [.s], .v false [.s], .v false [.s]], [.v false [.s]]⟩
abbrev s_sl_Index_int : Sig := ⟨[.v false [.b], .v false [.s]], [.v false [.s]]⟩
abbrev s_l_eqFileS : Sig := ⟨[.v false [.b], .v false [.b]], [.v false [.s]]⟩
abbrev s_l_eqDepS : Sig := ⟨[.v false [.b], .v false [.b]], [.v false [.s]]⟩
abbrev s_i_KeysBoth : Sig := ⟨[.v false [.b], .v false [.b]], [.v false [.s]]⟩
abbrev s_l_eqSigRoot : Sig := ⟨[.v true [.s, .b, .s, .b], .v true [.s, .b, .s, .b]], [.v false [.s]]⟩
abbrev s_l_eqSigIndex : Sig := ⟨[.v true [.s, .s, .b, .b], .v true [.s, .s, .b, .b]], [.v false [.s]]⟩
abbrev s_l_eqIndex : Sig := ⟨[.v true [.s, .s, .b], .v true [.s, .s, .b]], [.v false [.s]]⟩
abbrev s_l_markMetaS : Sig := ⟨[.v false [.b], .v false [.s]], [.v false [.s]]⟩
abbrev s_l_markIndex : Sig := ⟨[.v true [.s, .s, .b], .v false [.s]], [.v false [.s]]⟩
abbrev s_l_heldMetaS : Sig := ⟨[.v false [.b], .v false [.s]], [.v false [.s]]⟩
abbrev s_l_heldRoot : Sig := ⟨[.v true [.s, .b, .s], .v false [.s]], [.v false [.s]]⟩
abbrev s_l_heldIndex : Sig := ⟨[.v true [.s, .s, .b], .v false [.s]], [.v false [.s]]⟩
abbrev s_l_eqFile : Sig := ⟨[.v true [.s, .s], .v true [.s, .s]], [.v false [.s]]⟩
abbrev s_l_eqDep : Sig := ⟨[.v true [.s, .s], .v true [.s, .s]], [.v false [.s]]⟩
abbrev s_l_eqMetaS : Sig := ⟨[.v false [.b], .v false [.b]], [.v false [.s]]⟩
abbrev s_l_eqMeta : Sig := ⟨[.v true [.s, .s, .s], .v true [.s, .s, .s]], [.v false [.s]]⟩
def sigs : Tr (List Sig) := .n 119 [s_s_DiskNew] (.n 59 [s_l_markWorld] (.n 50 [s_s_WorldNew] (.n 41 [s_l_eqPkgS] (.n 30 [s_l_heldDisk] (.n 28 [s_l_markDisk] (.n 26 [s_l_eqDisk] (.e) (.e)) (.e)) (.n 36 [s_i_DiskNew] (.e) (.e))) (.n 43 [s_l_heldPkgS] (.n 42 [s_l_markPkgS] (.e) (.e)) (.n 49 [s_l_szRoot] (.e) (.e)))) (.n 55 [s_l_eqRoot] (.n 53 [s_i_WorldNew] (.n 52 [s_l_toIntS] (.n 51 [s_l_toRoot] (.e) (.e)) (.e)) (.n 54 [s_l_eqWorld] (.e) (.e))) (.n 57 [s_l_markRoot] (.n 56 [s_l_eqIntS] (.e) (.e)) (.n 58 [s_l_markIntS] (.e) (.e))))) (.n 110 [s_l_markDepS] (.n 100 [s_s_l6In] (.n 80 [s_l_heldIntS] (.n 74 [s_l_szIntS] (.n 60 [s_l_heldWorld] (.e) (.e)) (.e)) (.n 98 [s_sl_Repeat_int] (.e) (.e))) (.n 108 [s_l_eqPkg] (.n 105 [s_sl_Contains_int] (.e) (.e)) (.n 109 [s_l_markFileS] (.e) (.e)))) (.n 115 [s_s_KeysOk] (.n 112 [s_l_heldDepS] (.n 111 [s_l_heldFileS] (.e) (.e)) (.n 114 [s_s_RootOk] (.e) (.e))) (.n 117 [s_s_TrustNew] (.n 116 [s_s_l2Both] (.e) (.e)) (.n 118 [s_s_l11RootCopy] (.e) (.e)))))) (.n 149 [s_s_l13Files] (.n 128 [s_l_eqTrust] (.n 124 [s_i_Root_copied] (.n 122 [s_i_Root_safe] (.n 121 [s_i_KeysOk] (.n 120 [s_i_RootOk] (.e) (.e)) (.e)) (.n 123 [s_i_TrustNew] (.e) (.e))) (.n 126 [s_l_eqSigRootS] (.n 125 [s_sl_Clone_int] (.e) (.e)) (.n 127 [s_l_eqSigIndexS] (.e) (.e)))) (.n 132 [s_l_heldSigRootS] (.n 130 [s_l_markSigIndexS] (.n 129 [s_l_markSigRootS] (.e) (.e)) (.n 131 [s_l_markTrust] (.e) (.e))) (.n 134 [s_l_heldTrust] (.n 133 [s_l_heldSigIndexS] (.e) (.e)) (.n 138 [s_i_in] (.e) (.e))))) (.n 173 [s_l_markIndex] (.n 169 [s_l_eqSigRoot] (.n 167 [s_l_eqDepS] (.n 166 [s_l_eqFileS] (.n 162 [s_sl_Index_int] (.e) (.e)) (.e)) (.n 168 [s_i_KeysBoth] (.e) (.e))) (.n 171 [s_l_eqIndex] (.n 170 [s_l_eqSigIndex] (.e) (.e)) (.n 172 [s_l_markMetaS] (.e) (.e)))) (.n 196 [s_l_eqFile] (.n 175 [s_l_heldRoot] (.n 174 [s_l_heldMetaS] (.e) (.e)) (.n 176 [s_l_heldIndex] (.e) (.e))) (.n 198 [s_l_eqMetaS] (.n 197 [s_l_eqDep] (.e) (.e)) (.n 204 [s_l_eqMeta] (.e) (.e))))))
def eqL : List Nat := [121, 118]
theorem tt_ok : tt.all (tyChk PP) = true := by kernel_rfl
theorem cfg_ok {C : Cfg} (h : C.tt = tt) : CfgOk PP C := fun t ti ht => tyChk_ok (Tr.get_all (p := tyChk PP) tt_ok (by rw [← h]; exact ht))
theorem eq_chk : eqL.all (fun t => match tt.get t with | some ti => chkEq PP t ti.zero | none => true) = true := by kernel_rfl
theorem eq_ok {C : Cfg} (ht : C.tt = tt) (he : C.eqt = eqL) : EqOk PP C := eqOk_of (by unfold Cfg.ty; rw [ht, he]; exact eq_chk)
theorem mixed : PP.follows .mixedOrders = true := by kernel_rfl

end V
end Go.Proofs.Ytgialjcichiaoaa

/-
How functions are called where all that is owned is owned with its list. Written by a program.
-/
namespace Go.Proofs.Ytgialjcichiaoaa
namespace V

abbrev s_l_toIntS_X : Sig := ⟨[.v false [.b]], [.v false [.o true ⟨1, true⟩]]⟩
abbrev s_l_toRoot_X : Sig := ⟨[.v true [.s, .b, .s]], [.v true [.s, .o true ⟨1, true⟩, .s]]⟩
abbrev s_l_markIntS_X : Sig := ⟨[.io false [.o true ⟨0, true⟩], .v false [.s]], [.v false [.s]]⟩
abbrev s_l_markRoot_X : Sig := ⟨[.io true [.s, .o true ⟨0, true⟩, .s], .v false [.s]], [.v false [.s]]⟩
abbrev s_l_markFileS_X : Sig := ⟨[.io false [.o true ⟨0, true⟩], .v false [.s]], [.v false [.s]]⟩
abbrev s_l_markDepS_X : Sig := ⟨[.io false [.o true ⟨0, true⟩], .v false [.s]], [.v false [.s]]⟩
abbrev s_l_markPkgS_X : Sig := ⟨[.io false [.o true ⟨0, true⟩], .v false [.s]], [.v false [.s]]⟩
abbrev s_l_markDisk_X : Sig := ⟨[.io true [.o true ⟨0, true⟩, .o true ⟨0, true⟩, .s, .o true ⟨0, true⟩], .v false [.s]], [.v false [.s]]⟩
abbrev s_l_FnExactWorldNew_X : Sig := ⟨[.v true [.s, .b, .s], .v false [.b]], [.v false [.s]]⟩
abbrev s_i_DiskNew_X : Sig := ⟨[], [.v true [.o true ⟨4, true⟩, .o true ⟨1, true⟩, .s, .o true ⟨4, true⟩]]⟩
abbrev s_i_Root_copied_X : Sig := ⟨[.v true [.s, .b, .s]], [.v true [.s, .o true ⟨1, true⟩, .s]]⟩
abbrev s_i_TrustNew_X : Sig := ⟨[.v true [.s, .b, .s]], [.v true [.s, .o true ⟨1, true⟩, .s, .s, .s, .s, .o true ⟨3, true⟩], .v false [.s]]⟩
abbrev s_i_WorldNew_X : Sig := ⟨[.v true [.s, .b, .s], .v false [.b]], [.v true [.s, .o true ⟨4, true⟩, .o true ⟨4, true⟩, .o true ⟨4, true⟩, .o true ⟨1, true⟩, .s, .o true ⟨1, true⟩, .s, .s, .s, .s, .o true ⟨3, true⟩, .o true ⟨4, true⟩, .o true ⟨4, true⟩, .o true ⟨1, true⟩, .s, .o true ⟨4, true⟩], .v false [.s]]⟩
abbrev s_sl_Clone_int_X : Sig := ⟨[.v false [.b]], [.v false [.o true ⟨1, true⟩]]⟩
abbrev s_sl_Repeat_int_X : Sig := ⟨[.v false [.b], .v false [.s]], [.v false [.o true ⟨1, true⟩]]⟩
abbrev s_l_markWorld_X : Sig := ⟨[.io true [.s, .o true ⟨0, true⟩, .o true ⟨0, true⟩, .o true ⟨0, true⟩, .o true ⟨0, true⟩, .s, .o true ⟨0, true⟩, .s, .s, .s, .s, .o true ⟨0, true⟩, .o true ⟨0, true⟩, .o true ⟨0, true⟩, .o true ⟨0, true⟩, .s, .o true ⟨0, true⟩], .v false [.s]], [.v false [.s]]⟩
abbrev s_l_markTrust_X : Sig := ⟨[.io true [.s, .o true ⟨0, true⟩, .s, .s, .s, .s, .o true ⟨0, true⟩], .v false [.s]], [.v false [.s]]⟩
abbrev s_l_markIndex_X : Sig := ⟨[.io true [.s, .s, .o true ⟨0, true⟩], .v false [.s]], [.v false [.s]]⟩
abbrev s_l_markMetaS_X : Sig := ⟨[.io false [.o true ⟨0, true⟩], .v false [.s]], [.v false [.s]]⟩
abbrev s_l_markSigRootS_X : Sig := ⟨[.io false [.o true ⟨0, true⟩], .v false [.s]], [.v false [.s]]⟩
abbrev s_l_markSigIndexS_X : Sig := ⟨[.io false [.o true ⟨0, true⟩], .v false [.s]], [.v false [.s]]⟩
def sigsx : Tr (List Sig) := .n 119 [s_s_DiskNew] (.n 59 [s_l_markWorld_X, s_l_markWorld] (.n 50 [s_s_WorldNew] (.n 41 [s_l_eqPkgS] (.n 30 [s_l_heldDisk] (.n 28 [s_l_markDisk_X, s_l_markDisk] (.n 26 [s_l_eqDisk] (.e) (.e)) (.e)) (.n 36 [s_i_DiskNew_X, s_i_DiskNew] (.e) (.e))) (.n 43 [s_l_heldPkgS] (.n 42 [s_l_markPkgS_X, s_l_markPkgS] (.e) (.e)) (.n 49 [s_l_szRoot] (.e) (.e)))) (.n 55 [s_l_eqRoot] (.n 53 [s_i_WorldNew_X, s_i_WorldNew] (.n 52 [s_l_toIntS_X, s_l_toIntS] (.n 51 [s_l_toRoot_X, s_l_toRoot] (.e) (.e)) (.e)) (.n 54 [s_l_eqWorld] (.e) (.e))) (.n 57 [s_l_markRoot_X, s_l_markRoot] (.n 56 [s_l_eqIntS] (.e) (.e)) (.n 58 [s_l_markIntS_X, s_l_markIntS] (.e) (.e))))) (.n 110 [s_l_markDepS_X, s_l_markDepS] (.n 100 [s_s_l6In] (.n 80 [s_l_heldIntS] (.n 74 [s_l_szIntS] (.n 60 [s_l_heldWorld] (.e) (.e)) (.e)) (.n 98 [s_sl_Repeat_int_X, s_sl_Repeat_int] (.e) (.e))) (.n 108 [s_l_eqPkg] (.n 105 [s_sl_Contains_int] (.e) (.e)) (.n 109 [s_l_markFileS_X, s_l_markFileS] (.e) (.e)))) (.n 115 [s_s_KeysOk] (.n 112 [s_l_heldDepS] (.n 111 [s_l_heldFileS] (.e) (.e)) (.n 114 [s_s_RootOk] (.e) (.e))) (.n 117 [s_s_TrustNew] (.n 116 [s_s_l2Both] (.e) (.e)) (.n 118 [s_s_l11RootCopy] (.e) (.e)))))) (.n 149 [s_s_l13Files] (.n 128 [s_l_eqTrust] (.n 124 [s_i_Root_copied_X, s_i_Root_copied] (.n 122 [s_i_Root_safe] (.n 121 [s_i_KeysOk] (.n 120 [s_i_RootOk] (.e) (.e)) (.e)) (.n 123 [s_i_TrustNew_X, s_i_TrustNew] (.e) (.e))) (.n 126 [s_l_eqSigRootS] (.n 125 [s_sl_Clone_int_X, s_sl_Clone_int] (.e) (.e)) (.n 127 [s_l_eqSigIndexS] (.e) (.e)))) (.n 132 [s_l_heldSigRootS] (.n 130 [s_l_markSigIndexS_X, s_l_markSigIndexS] (.n 129 [s_l_markSigRootS_X, s_l_markSigRootS] (.e) (.e)) (.n 131 [s_l_markTrust_X, s_l_markTrust] (.e) (.e))) (.n 134 [s_l_heldTrust] (.n 133 [s_l_heldSigIndexS] (.e) (.e)) (.n 138 [s_i_in] (.e) (.e))))) (.n 173 [s_l_markIndex_X, s_l_markIndex] (.n 169 [s_l_eqSigRoot] (.n 167 [s_l_eqDepS] (.n 166 [s_l_eqFileS] (.n 162 [s_sl_Index_int] (.e) (.e)) (.e)) (.n 168 [s_i_KeysBoth] (.e) (.e))) (.n 171 [s_l_eqIndex] (.n 170 [s_l_eqSigIndex] (.e) (.e)) (.n 172 [s_l_markMetaS_X, s_l_markMetaS] (.e) (.e)))) (.n 196 [s_l_eqFile] (.n 175 [s_l_heldRoot] (.n 174 [s_l_heldMetaS] (.e) (.e)) (.n 176 [s_l_heldIndex] (.e) (.e))) (.n 198 [s_l_eqMetaS] (.n 197 [s_l_eqDep] (.e) (.e)) (.n 204 [s_l_eqMeta] (.e) (.e))))))

end V
end Go.Proofs.Ytgialjcichiaoaa

/-
What the seat's functions come to, as statements; that the checker says so. Written by a program.
-/
namespace Go.Proofs.Ytgialjcichiaoaa
namespace V

def p_s_DiskNew : PC := .seq (.ss [.bld 0 [.sl [], .sl [], .bool false, .sl []] []]) (.seq (.ss [.lit 1 0 [.int .i64 0, .int .i64 0, .sl [], .sl []] [], .call 2 n_s_l13Files s_s_l13Files [(.c (.sl []))] [], .lit 3 0 [.int .i64 0, .int .i64 0, .sl [], .sl []] [], .bld 4 [.sl [], .sl [], .bool false, .sl []] [(0, (.t 1)), (1, (.t 2)), (3, (.t 3))], .st 0 0 (.t 4)]) (.ret [0]))
def k_s_DiskNew : Cfg := { tt := tt, sigs := sigs, mv := false, bm := [], eqt := eqL, keep := [true, false, false, false, false], n := 5, pin := [], fail := [], fz := [] }
theorem c_s_DiskNew : cFun k_s_DiskNew Try.f119 s_s_DiskNew = some p_s_DiskNew := by kernel_rfl
theorem F_s_DiskNew {W : Wld} {ins outs : List (List D)} (h : pwp (FunOk PP W) p_s_DiskNew (RetIs outs) (envL ins)) : FunOk PP W n_s_DiskNew s_s_DiskNew ins outs := fun_ok (C := k_s_DiskNew) (cfg_ok rfl) (eq_ok rfl rfl) mixed Try.func119 (by kernel_rfl) (by kernel_rfl) c_s_DiskNew h

def p_s_l13Files : PC := .seq (.ss [.mv 2 (.c (.sl []))]) (.seq (.ss [.mk 7 [.int .i64 0] (.c (.int .i64 6)) (.c (.int .i64 6)), .mv 3 (.t 7)]) (.seq (.seq (.ss [.mv 4 (.c (.int .i64 0))]) (.block 0 (.loop (.seq (.seq (.ss [.mv 8 (.t 4), .mv 9 (.t 3), .len 10 (.t 9), .bin 11 .lss (.t 8) (.t 10)]) (.cond (.t 11) (.skip) (.exit 0))) (.seq (.block 1 (.ss [.mv 14 (.t 3), .mv 15 (.t 4), .elp 16 (.t 14) (.t 15) 1, .els 16 0 3 0 (.c (.int .i64 (-1)))])) (.ss [.mv 12 (.t 4), .bin 13 .add (.t 12) (.c (.int .i64 1)), .mv 4 (.t 13)])))))) (.seq (.seq (.ss [.mv 5 (.c (.int .i64 0))]) (.block 2 (.loop (.seq (.seq (.ss [.mv 17 (.t 5), .mv 18 (.t 0), .len 19 (.t 18), .bin 20 .lss (.t 17) (.t 19)]) (.cond (.t 20) (.skip) (.exit 2))) (.seq (.block 3 (.seq (.ss [.mv 6 (.c (.int .i64 0))]) (.block 4 (.loop (.seq (.seq (.ss [.mv 23 (.t 6), .mv 24 (.t 0), .mv 25 (.t 5), .elp 26 (.t 24) (.t 25) 4, .mv 27 (.t 26), .eld 28 27 2 [.sl []], .len 29 (.t 28), .bin 30 .lss (.t 23) (.t 29)]) (.cond (.t 30) (.skip) (.exit 4))) (.seq (.block 5 (.ss [.mv 33 (.t 3), .mv 34 (.t 0), .mv 35 (.t 5), .elp 36 (.t 34) (.t 35) 4, .mv 37 (.t 36), .eld 38 37 2 [.sl []], .mv 39 (.t 6), .elp 40 (.t 38) (.t 39) 2, .mv 41 (.t 40), .eld 42 41 0 [.int .i64 0], .mv 43 (.t 0), .mv 44 (.t 5), .elp 45 (.t 43) (.t 44) 4, .mv 46 (.t 45), .eld 47 46 2 [.sl []], .mv 48 (.t 6), .elp 49 (.t 47) (.t 48) 2, .mv 50 (.t 49), .eld 51 50 1 [.int .i64 0], .elp 52 (.t 33) (.t 42) 1, .els 52 0 3 0 (.t 51)])) (.ss [.mv 31 (.t 6), .bin 32 .add (.t 31) (.c (.int .i64 1)), .mv 6 (.t 32)]))))))) (.ss [.mv 21 (.t 5), .bin 22 .add (.t 21) (.c (.int .i64 1)), .mv 5 (.t 22)])))))) (.seq (.ss [.mv 53 (.t 3), .mv 2 (.t 53)]) (.ret [2])))))
def k_s_l13Files : Cfg := { tt := tt, sigs := sigs, mv := false, bm := [], eqt := eqL, keep := [true, false, true, true, true, true, true, false, false, false, false, true, false, false, false, false, false, false, false, false, true, false, false, false, false, false, false, false, false, false, true, false, false, false, false, false, false, false, false, false, false, false, false, false, false, false, false, false, false, false, false, false, false, false], n := 54, pin := [], fail := [], fz := [] }
theorem c_s_l13Files : cFun k_s_l13Files Try.f149 s_s_l13Files = some p_s_l13Files := by kernel_rfl
theorem F_s_l13Files {W : Wld} {ins outs : List (List D)} (h : pwp (FunOk PP W) p_s_l13Files (RetIs outs) (envL ins)) : FunOk PP W n_s_l13Files s_s_l13Files ins outs := fun_ok (C := k_s_l13Files) (cfg_ok rfl) (eq_ok rfl rfl) mixed Try.func149 (by kernel_rfl) (by kernel_rfl) c_s_l13Files h

def p_s_l11RootCopy : PC := .seq (.ss [.mv 1 (.t 0), .bld 2 [.int .i64 0, .sl [], .int .i64 0] []]) (.seq (.ss [.lit 3 0 [.int .i64 0] [], .nop, .sub 5 1 1 1, .app 6 1 true (.t 3) (.t 5), .nop, .st 1 1 (.t 6)]) (.seq (.ss [.sub 8 1 0 3, .st 2 0 (.t 8)]) (.ret [2])))
def k_s_l11RootCopy : Cfg := { tt := tt, sigs := sigs, mv := false, bm := [], eqt := eqL, keep := [true, true, true, false, false, false, false, false, false], n := 9, pin := [], fail := [], fz := [] }
theorem c_s_l11RootCopy : cFun k_s_l11RootCopy Try.f118 s_s_l11RootCopy = some p_s_l11RootCopy := by kernel_rfl
theorem F_s_l11RootCopy {W : Wld} {ins outs : List (List D)} (h : pwp (FunOk PP W) p_s_l11RootCopy (RetIs outs) (envL ins)) : FunOk PP W n_s_l11RootCopy s_s_l11RootCopy ins outs := fun_ok (C := k_s_l11RootCopy) (cfg_ok rfl) (eq_ok rfl rfl) mixed Try.func118 (by kernel_rfl) (by kernel_rfl) c_s_l11RootCopy h

def p_s_WorldNew : PC := .seq (.ss [.mv 2 (.t 0), .bld 4 [.int .i64 0, .sl [], .sl [], .sl [], .sl [], .int .i64 0, .sl [], .int .i64 0, .bool false, .int .i64 0, .int .i64 0, .sl [], .sl [], .sl [], .sl [], .bool false, .sl []] [], .mv 5 (.c (.bool false))]) (.seq (.seq (.ss [.sub 9 2 0 3, .call 10 n_s_RootOk s_s_RootOk [(.t 9)] [], .un 11 .not (.t 10), .mv 12 (.t 11), .g 12 false 13 (.mv 13 (.t 1)), .g 12 false 14 (.call 14 n_s_KeysOk s_s_KeysOk [(.t 13)] []), .g 12 false 15 (.un 15 .not (.t 14)), .pick 16 (.t 12) (.c (.bool true)) (.t 15), .mv 17 (.t 16), .g 17 false 18 (.nop), .g 17 false 19 (.sub 19 2 1 1), .g 17 false 20 (.mv 20 (.t 1)), .g 17 false 21 (.call 21 n_s_l2Both s_s_l2Both [(.t 19), (.t 20)] []), .g 17 false 22 (.nop), .g 17 false 23 (.sub 23 2 2 1), .g 17 false 24 (.bin 24 .geq (.t 21) (.t 23)), .pick 25 (.t 17) (.c (.bool true)) (.t 24), .mv 26 (.t 25), .g 26 false 27 (.nop), .g 26 false 28 (.sub 28 2 0 1), .g 26 false 29 (.bin 29 .neq (.t 28) (.c (.int .i64 1))), .pick 30 (.t 26) (.c (.bool true)) (.t 29)]) (.cond (.t 30) (.seq (.ss [.bld 31 [.int .i64 0, .sl [], .sl [], .sl [], .sl [], .int .i64 0, .sl [], .int .i64 0, .bool false, .int .i64 0, .int .i64 0, .sl [], .sl [], .sl [], .sl [], .bool false, .sl []] [], .st 4 0 (.t 31), .mv 5 (.c (.bool false))]) (.ret [4, 5])) (.skip))) (.seq (.ss [.sub 33 2 0 3, .call 34 n_s_TrustNew s_s_TrustNew [(.t 33)] [], .mv 32 (.t 34), .ext 35 32 0 7, .ext 36 32 7 1, .bld 6 [.int .i64 0, .sl [], .int .i64 0, .bool false, .int .i64 0, .int .i64 0, .sl []] [], .st 6 0 (.t 35), .mv 7 (.t 36)]) (.seq (.ss [.sub 37 2 0 3, .call 38 n_s_l11RootCopy s_s_l11RootCopy [(.t 37)] [], .lit 39 0 [.int .i64 0] [], .nop, .sub 41 2 1 1, .app 42 1 true (.t 39) (.t 41), .bld 43 [.int .i64 0, .sl [], .int .i64 0, .sl []] [(0, (.t 38)), (3, (.t 42))], .bld 8 [.int .i64 0, .sl [], .int .i64 0, .sl []] [], .st 8 0 (.t 43)]) (.seq (.ss [.sub 44 8 0 4, .lit 45 1 [.int .i64 0, .sl [], .int .i64 0, .sl []] [(0, (.t 44))], .lit 46 0 [.int .i64 0, .int .i64 0, .sl [], .sl []] [], .lit 47 0 [.int .i64 0, .int .i64 0, .sl [], .sl []] [], .lit 48 0 [.int .i64 0] [], .mv 49 (.t 1), .app 50 1 true (.t 48) (.t 49), .sub 51 6 0 7, .lit 52 0 [.int .i64 0, .int .i64 0, .sl [], .sl []] [], .call 53 n_s_DiskNew s_s_DiskNew [] [], .bld 54 [.int .i64 0, .sl [], .sl [], .sl [], .sl [], .int .i64 0, .sl [], .int .i64 0, .bool false, .int .i64 0, .int .i64 0, .sl [], .sl [], .sl [], .sl [], .bool false, .sl []] [(1, (.t 45)), (2, (.t 46)), (3, (.t 47)), (4, (.t 50)), (5, (.t 51)), (12, (.t 52)), (13, (.t 53))], .st 4 0 (.t 54), .mv 5 (.c (.bool true))]) (.ret [4, 5])))))
def k_s_WorldNew : Cfg := { tt := tt, sigs := sigs, mv := false, bm := [], eqt := eqL, keep := [true, true, true, false, true, true, true, false, true, false, false, false, false, false, false, false, false, false, false, false, false, false, false, false, false, false, false, false, false, false, true, false, false, false, false, false, false, false, false, false, false, false, false, false, false, false, false, false, false, false, false, false, false, false, false], n := 55, pin := [], fail := [], fz := [] }
theorem c_s_WorldNew : cFun k_s_WorldNew Try.f50 s_s_WorldNew = some p_s_WorldNew := by kernel_rfl
theorem F_s_WorldNew {W : Wld} {ins outs : List (List D)} (h : pwp (FunOk PP W) p_s_WorldNew (RetIs outs) (envL ins)) : FunOk PP W n_s_WorldNew s_s_WorldNew ins outs := fun_ok (C := k_s_WorldNew) (cfg_ok rfl) (eq_ok rfl rfl) mixed Try.func50 (by kernel_rfl) (by kernel_rfl) c_s_WorldNew h

def p_s_TrustNew : PC := .seq (.ss [.mv 1 (.t 0), .bld 2 [.int .i64 0, .sl [], .int .i64 0, .bool false, .int .i64 0, .int .i64 0, .sl []] [], .mv 3 (.c (.bool false))]) (.seq (.seq (.ss [.sub 4 1 0 3, .call 5 n_s_RootOk s_s_RootOk [(.t 4)] [], .un 6 .not (.t 5)]) (.cond (.t 6) (.seq (.ss [.bld 7 [.int .i64 0, .sl [], .int .i64 0, .bool false, .int .i64 0, .int .i64 0, .sl []] [], .st 2 0 (.t 7), .mv 3 (.c (.bool false))]) (.ret [2, 3])) (.skip))) (.seq (.ss [.sub 8 1 0 3, .call 9 n_s_l11RootCopy s_s_l11RootCopy [(.t 8)] [], .bld 10 [.int .i64 0, .sl [], .int .i64 0, .bool false, .int .i64 0, .int .i64 0, .sl []] [(0, (.t 9))], .st 2 0 (.t 10), .mv 3 (.c (.bool true))]) (.ret [2, 3])))
def k_s_TrustNew : Cfg := { tt := tt, sigs := sigs, mv := false, bm := [], eqt := eqL, keep := [true, true, true, true, false, false, true, false, false, false, false], n := 11, pin := [], fail := [], fz := [] }
theorem c_s_TrustNew : cFun k_s_TrustNew Try.f117 s_s_TrustNew = some p_s_TrustNew := by kernel_rfl
theorem F_s_TrustNew {W : Wld} {ins outs : List (List D)} (h : pwp (FunOk PP W) p_s_TrustNew (RetIs outs) (envL ins)) : FunOk PP W n_s_TrustNew s_s_TrustNew ins outs := fun_ok (C := k_s_TrustNew) (cfg_ok rfl) (eq_ok rfl rfl) mixed Try.func117 (by kernel_rfl) (by kernel_rfl) c_s_TrustNew h

end V
end Go.Proofs.Ytgialjcichiaoaa

/-
What the seat's functions come to, as statements; that the checker says so. Written by a program.
-/
namespace Go.Proofs.Ytgialjcichiaoaa
namespace V

def p_l_eqDisk : PC := .seq (.ss [.mv 2 (.t 0), .mv 3 (.t 1), .mv 4 (.c (.bool false))]) (.seq (.seq (.ss [.nop, .sub 6 2 0 1, .nop, .sub 8 3 0 1, .call 9 n_l_eqPkgS s_l_eqPkgS [(.t 6), (.t 8)] [], .un 10 .not (.t 9)]) (.cond (.t 10) (.seq (.ss [.mv 4 (.c (.bool false))]) (.ret [4])) (.skip))) (.seq (.seq (.ss [.nop, .sub 12 2 1 1, .nop, .sub 14 3 1 1, .call 15 n_l_eqIntS s_l_eqIntS [(.t 12), (.t 14)] [], .un 16 .not (.t 15)]) (.cond (.t 16) (.seq (.ss [.mv 4 (.c (.bool false))]) (.ret [4])) (.skip))) (.seq (.seq (.ss [.nop, .sub 18 2 2 1, .nop, .sub 20 3 2 1, .beq 21 true (.t 18) (.t 20)]) (.cond (.t 21) (.seq (.ss [.mv 4 (.c (.bool false))]) (.ret [4])) (.skip))) (.seq (.seq (.ss [.nop, .sub 23 2 3 1, .nop, .sub 25 3 3 1, .call 26 n_l_eqPkgS s_l_eqPkgS [(.t 23), (.t 25)] [], .un 27 .not (.t 26)]) (.cond (.t 27) (.seq (.ss [.mv 4 (.c (.bool false))]) (.ret [4])) (.skip))) (.seq (.ss [.mv 4 (.c (.bool true))]) (.ret [4]))))))
def k_l_eqDisk : Cfg := { tt := tt, sigs := sigs, mv := false, bm := [], eqt := eqL, keep := [true, true, true, true, true, false, false, false, false, false, true, false, false, false, false, false, true, false, false, false, false, true, false, false, false, false, false, true], n := 28, pin := [], fail := [], fz := [] }
theorem c_l_eqDisk : cFun k_l_eqDisk Try.f26 s_l_eqDisk = some p_l_eqDisk := by kernel_rfl
theorem F_l_eqDisk {W : Wld} {ins outs : List (List D)} (h : pwp (FunOk PP W) p_l_eqDisk (RetIs outs) (envL ins)) : FunOk PP W n_l_eqDisk s_l_eqDisk ins outs := fun_ok (C := k_l_eqDisk) (cfg_ok rfl) (eq_ok rfl rfl) mixed Try.func26 (by kernel_rfl) (by kernel_rfl) c_l_eqDisk h

def p_l_heldDisk : PC := .seq (.ss [.mv 2 (.t 0), .mv 4 (.c (.int .i64 0))]) (.seq (.ss [.nop, .sub 6 2 0 1, .mv 7 (.t 1), .call 8 n_l_heldPkgS s_l_heldPkgS [(.t 6), (.t 7)] [], .mv 1 (.t 8)]) (.seq (.seq (.ss [.mv 9 (.t 1), .bin 10 .lss (.t 9) (.c (.int .i64 0))]) (.cond (.t 10) (.seq (.ss [.mv 4 (.c (.int .i64 (-1)))]) (.ret [4])) (.skip))) (.seq (.ss [.nop, .sub 12 2 1 1, .mv 13 (.t 1), .call 14 n_l_heldIntS s_l_heldIntS [(.t 12), (.t 13)] [], .mv 1 (.t 14)]) (.seq (.seq (.ss [.mv 15 (.t 1), .bin 16 .lss (.t 15) (.c (.int .i64 0))]) (.cond (.t 16) (.seq (.ss [.mv 4 (.c (.int .i64 (-1)))]) (.ret [4])) (.skip))) (.seq (.ss [.nop, .sub 18 2 3 1, .mv 19 (.t 1), .call 20 n_l_heldPkgS s_l_heldPkgS [(.t 18), (.t 19)] [], .mv 1 (.t 20)]) (.seq (.seq (.ss [.mv 21 (.t 1), .bin 22 .lss (.t 21) (.c (.int .i64 0))]) (.cond (.t 22) (.seq (.ss [.mv 4 (.c (.int .i64 (-1)))]) (.ret [4])) (.skip))) (.seq (.ss [.mv 23 (.t 1), .mv 4 (.t 23)]) (.ret [4]))))))))
def k_l_heldDisk : Cfg := { tt := tt, sigs := sigs, mv := false, bm := [], eqt := eqL, keep := [true, true, true, false, true, false, false, false, false, false, true, false, false, false, false, false, true, false, false, false, false, false, true, false], n := 24, pin := [], fail := [], fz := [] }
theorem c_l_heldDisk : cFun k_l_heldDisk Try.f30 s_l_heldDisk = some p_l_heldDisk := by kernel_rfl
theorem F_l_heldDisk {W : Wld} {ins outs : List (List D)} (h : pwp (FunOk PP W) p_l_heldDisk (RetIs outs) (envL ins)) : FunOk PP W n_l_heldDisk s_l_heldDisk ins outs := fun_ok (C := k_l_heldDisk) (cfg_ok rfl) (eq_ok rfl rfl) mixed Try.func30 (by kernel_rfl) (by kernel_rfl) c_l_heldDisk h

def p_l_eqPkgS : PC := .seq (.ss [.mv 4 (.c (.bool false))]) (.seq (.seq (.ss [.mv 6 (.t 0), .len 7 (.t 6), .mv 8 (.t 1), .len 9 (.t 8), .bin 10 .neq (.t 7) (.t 9)]) (.cond (.t 10) (.seq (.ss [.mv 4 (.c (.bool false))]) (.ret [4])) (.skip))) (.seq (.seq (.ss [.mv 5 (.c (.int .i64 0))]) (.block 0 (.loop (.seq (.seq (.ss [.mv 11 (.t 5), .mv 12 (.t 0), .len 13 (.t 12), .bin 14 .lss (.t 11) (.t 13)]) (.cond (.t 14) (.skip) (.exit 0))) (.seq (.block 1 (.seq (.ss [.mv 17 (.t 0), .mv 18 (.t 5), .elp 19 (.t 17) (.t 18) 4, .eld 20 19 0 [.int .i64 0, .int .i64 0, .sl [], .sl []], .mv 21 (.t 1), .mv 22 (.t 5), .elp 23 (.t 21) (.t 22) 4, .eld 24 23 0 [.int .i64 0, .int .i64 0, .sl [], .sl []], .call 25 n_l_eqPkg s_l_eqPkg [(.t 20), (.t 24)] [], .un 26 .not (.t 25)]) (.cond (.t 26) (.seq (.ss [.mv 4 (.c (.bool false))]) (.ret [4])) (.skip)))) (.ss [.mv 15 (.t 5), .bin 16 .add (.t 15) (.c (.int .i64 1)), .mv 5 (.t 16)])))))) (.seq (.ss [.mv 4 (.c (.bool true))]) (.ret [4]))))
def k_l_eqPkgS : Cfg := { tt := tt, sigs := sigs, mv := false, bm := [], eqt := eqL, keep := [true, true, false, false, true, true, false, false, false, false, true, false, false, false, true, false, false, false, false, false, false, false, false, false, false, false, true], n := 27, pin := [], fail := [], fz := [] }
theorem c_l_eqPkgS : cFun k_l_eqPkgS Try.f41 s_l_eqPkgS = some p_l_eqPkgS := by kernel_rfl
theorem F_l_eqPkgS {W : Wld} {ins outs : List (List D)} (h : pwp (FunOk PP W) p_l_eqPkgS (RetIs outs) (envL ins)) : FunOk PP W n_l_eqPkgS s_l_eqPkgS ins outs := fun_ok (C := k_l_eqPkgS) (cfg_ok rfl) (eq_ok rfl rfl) mixed Try.func41 (by kernel_rfl) (by kernel_rfl) c_l_eqPkgS h

def p_l_heldPkgS : PC := .seq (.ss [.mv 4 (.c (.int .i64 0))]) (.seq (.seq (.ss [.mv 5 (.c (.int .i64 0))]) (.block 0 (.loop (.seq (.seq (.ss [.mv 6 (.t 5), .mv 7 (.t 0), .len 8 (.t 7), .bin 9 .lss (.t 6) (.t 8)]) (.cond (.t 9) (.skip) (.exit 0))) (.seq (.block 1 (.seq (.seq (.ss [.mv 12 (.t 0), .mv 13 (.t 5), .elp 14 (.t 12) (.t 13) 4, .mv 15 (.t 14), .eld 16 15 0 [.int .i64 0], .mv 17 (.t 1), .bin 18 .neq (.t 16) (.t 17)]) (.cond (.t 18) (.seq (.ss [.mv 4 (.c (.int .i64 (-1)))]) (.ret [4])) (.skip))) (.seq (.ss [.mv 19 (.t 1), .bin 20 .add (.t 19) (.c (.int .i64 1)), .mv 1 (.t 20)]) (.seq (.seq (.ss [.mv 21 (.t 0), .mv 22 (.t 5), .elp 23 (.t 21) (.t 22) 4, .mv 24 (.t 23), .eld 25 24 1 [.int .i64 0], .mv 26 (.t 1), .bin 27 .neq (.t 25) (.t 26)]) (.cond (.t 27) (.seq (.ss [.mv 4 (.c (.int .i64 (-1)))]) (.ret [4])) (.skip))) (.seq (.ss [.mv 28 (.t 1), .bin 29 .add (.t 28) (.c (.int .i64 1)), .mv 1 (.t 29)]) (.seq (.ss [.mv 30 (.t 0), .mv 31 (.t 5), .elp 32 (.t 30) (.t 31) 4, .mv 33 (.t 32), .eld 34 33 2 [.sl []], .mv 35 (.t 1), .call 36 n_l_heldFileS s_l_heldFileS [(.t 34), (.t 35)] [], .mv 1 (.t 36)]) (.seq (.seq (.ss [.mv 37 (.t 1), .bin 38 .lss (.t 37) (.c (.int .i64 0))]) (.cond (.t 38) (.seq (.ss [.mv 4 (.c (.int .i64 (-1)))]) (.ret [4])) (.skip))) (.seq (.ss [.mv 39 (.t 0), .mv 40 (.t 5), .elp 41 (.t 39) (.t 40) 4, .mv 42 (.t 41), .eld 43 42 3 [.sl []], .mv 44 (.t 1), .call 45 n_l_heldDepS s_l_heldDepS [(.t 43), (.t 44)] [], .mv 1 (.t 45)]) (.seq (.ss [.mv 46 (.t 1), .bin 47 .lss (.t 46) (.c (.int .i64 0))]) (.cond (.t 47) (.seq (.ss [.mv 4 (.c (.int .i64 (-1)))]) (.ret [4])) (.skip))))))))))) (.ss [.mv 10 (.t 5), .bin 11 .add (.t 10) (.c (.int .i64 1)), .mv 5 (.t 11)])))))) (.seq (.ss [.mv 48 (.t 1), .mv 4 (.t 48)]) (.ret [4])))
def k_l_heldPkgS : Cfg := { tt := tt, sigs := sigs, mv := false, bm := [], eqt := eqL, keep := [true, true, false, false, true, true, false, false, false, true, false, false, false, false, false, false, false, false, true, false, false, false, false, false, false, false, false, true, false, false, false, false, false, false, false, false, false, false, true, false, false, false, false, false, false, false, false, true, false], n := 49, pin := [], fail := [], fz := [] }
theorem c_l_heldPkgS : cFun k_l_heldPkgS Try.f43 s_l_heldPkgS = some p_l_heldPkgS := by kernel_rfl
theorem F_l_heldPkgS {W : Wld} {ins outs : List (List D)} (h : pwp (FunOk PP W) p_l_heldPkgS (RetIs outs) (envL ins)) : FunOk PP W n_l_heldPkgS s_l_heldPkgS ins outs := fun_ok (C := k_l_heldPkgS) (cfg_ok rfl) (eq_ok rfl rfl) mixed Try.func43 (by kernel_rfl) (by kernel_rfl) c_l_heldPkgS h

def p_l_szRoot : PC := .seq (.ss [.mv 2 (.t 0), .mv 4 (.c (.int .i64 0))]) (.seq (.ss [.nop, .sub 6 2 1 1, .mv 7 (.t 1), .call 8 n_l_szIntS s_l_szIntS [(.t 6), (.t 7)] [], .mv 1 (.t 8)]) (.seq (.seq (.ss [.mv 9 (.t 1), .bin 10 .lss (.t 9) (.c (.int .i64 0))]) (.cond (.t 10) (.seq (.ss [.mv 4 (.c (.int .i64 (-1)))]) (.ret [4])) (.skip))) (.seq (.ss [.mv 11 (.t 1), .mv 4 (.t 11)]) (.ret [4]))))
def k_l_szRoot : Cfg := { tt := tt, sigs := sigs, mv := false, bm := [], eqt := eqL, keep := [true, true, true, false, true, false, false, false, false, false, true, false], n := 12, pin := [], fail := [], fz := [] }
theorem c_l_szRoot : cFun k_l_szRoot Try.f49 s_l_szRoot = some p_l_szRoot := by kernel_rfl
theorem F_l_szRoot {W : Wld} {ins outs : List (List D)} (h : pwp (FunOk PP W) p_l_szRoot (RetIs outs) (envL ins)) : FunOk PP W n_l_szRoot s_l_szRoot ins outs := fun_ok (C := k_l_szRoot) (cfg_ok rfl) (eq_ok rfl rfl) mixed Try.func49 (by kernel_rfl) (by kernel_rfl) c_l_szRoot h

def p_l_eqWorld : PC := .seq (.ss [.mv 2 (.t 0), .mv 3 (.t 1), .mv 4 (.c (.bool false))]) (.seq (.seq (.ss [.nop, .sub 6 2 0 1, .nop, .sub 8 3 0 1, .bin 9 .neq (.t 6) (.t 8)]) (.cond (.t 9) (.seq (.ss [.mv 4 (.c (.bool false))]) (.ret [4])) (.skip))) (.seq (.seq (.ss [.nop, .sub 11 2 1 1, .nop, .sub 13 3 1 1, .call 14 n_l_eqSigRootS s_l_eqSigRootS [(.t 11), (.t 13)] [], .un 15 .not (.t 14)]) (.cond (.t 15) (.seq (.ss [.mv 4 (.c (.bool false))]) (.ret [4])) (.skip))) (.seq (.seq (.ss [.nop, .sub 17 2 2 1, .nop, .sub 19 3 2 1, .call 20 n_l_eqSigIndexS s_l_eqSigIndexS [(.t 17), (.t 19)] [], .un 21 .not (.t 20)]) (.cond (.t 21) (.seq (.ss [.mv 4 (.c (.bool false))]) (.ret [4])) (.skip))) (.seq (.seq (.ss [.nop, .sub 23 2 3 1, .nop, .sub 25 3 3 1, .call 26 n_l_eqPkgS s_l_eqPkgS [(.t 23), (.t 25)] [], .un 27 .not (.t 26)]) (.cond (.t 27) (.seq (.ss [.mv 4 (.c (.bool false))]) (.ret [4])) (.skip))) (.seq (.seq (.ss [.nop, .sub 29 2 4 1, .nop, .sub 31 3 4 1, .call 32 n_l_eqIntS s_l_eqIntS [(.t 29), (.t 31)] [], .un 33 .not (.t 32)]) (.cond (.t 33) (.seq (.ss [.mv 4 (.c (.bool false))]) (.ret [4])) (.skip))) (.seq (.seq (.ss [.nop, .sub 35 2 5 7, .nop, .sub 37 3 5 7, .call 38 n_l_eqTrust s_l_eqTrust [(.t 35), (.t 37)] [], .un 39 .not (.t 38)]) (.cond (.t 39) (.seq (.ss [.mv 4 (.c (.bool false))]) (.ret [4])) (.skip))) (.seq (.seq (.ss [.nop, .sub 41 2 12 1, .nop, .sub 43 3 12 1, .call 44 n_l_eqPkgS s_l_eqPkgS [(.t 41), (.t 43)] [], .un 45 .not (.t 44)]) (.cond (.t 45) (.seq (.ss [.mv 4 (.c (.bool false))]) (.ret [4])) (.skip))) (.seq (.seq (.ss [.nop, .sub 47 2 13 4, .nop, .sub 49 3 13 4, .call 50 n_l_eqDisk s_l_eqDisk [(.t 47), (.t 49)] [], .un 51 .not (.t 50)]) (.cond (.t 51) (.seq (.ss [.mv 4 (.c (.bool false))]) (.ret [4])) (.skip))) (.seq (.ss [.mv 4 (.c (.bool true))]) (.ret [4]))))))))))
def k_l_eqWorld : Cfg := { tt := tt, sigs := sigs, mv := false, bm := [], eqt := eqL, keep := [true, true, true, true, true, false, false, false, false, true, false, false, false, false, false, true, false, false, false, false, false, true, false, false, false, false, false, true, false, false, false, false, false, true, false, false, false, false, false, true, false, false, false, false, false, true, false, false, false, false, false, true], n := 52, pin := [], fail := [], fz := [] }
theorem c_l_eqWorld : cFun k_l_eqWorld Try.f54 s_l_eqWorld = some p_l_eqWorld := by kernel_rfl
theorem F_l_eqWorld {W : Wld} {ins outs : List (List D)} (h : pwp (FunOk PP W) p_l_eqWorld (RetIs outs) (envL ins)) : FunOk PP W n_l_eqWorld s_l_eqWorld ins outs := fun_ok (C := k_l_eqWorld) (cfg_ok rfl) (eq_ok rfl rfl) mixed Try.func54 (by kernel_rfl) (by kernel_rfl) c_l_eqWorld h

def p_l_eqRoot : PC := .seq (.ss [.mv 2 (.t 0), .mv 3 (.t 1), .mv 4 (.c (.bool false))]) (.seq (.seq (.ss [.nop, .sub 6 2 0 1, .nop, .sub 8 3 0 1, .bin 9 .neq (.t 6) (.t 8)]) (.cond (.t 9) (.seq (.ss [.mv 4 (.c (.bool false))]) (.ret [4])) (.skip))) (.seq (.seq (.ss [.nop, .sub 11 2 1 1, .nop, .sub 13 3 1 1, .call 14 n_l_eqIntS s_l_eqIntS [(.t 11), (.t 13)] [], .un 15 .not (.t 14)]) (.cond (.t 15) (.seq (.ss [.mv 4 (.c (.bool false))]) (.ret [4])) (.skip))) (.seq (.seq (.ss [.nop, .sub 17 2 2 1, .nop, .sub 19 3 2 1, .bin 20 .neq (.t 17) (.t 19)]) (.cond (.t 20) (.seq (.ss [.mv 4 (.c (.bool false))]) (.ret [4])) (.skip))) (.seq (.ss [.mv 4 (.c (.bool true))]) (.ret [4])))))
def k_l_eqRoot : Cfg := { tt := tt, sigs := sigs, mv := false, bm := [], eqt := eqL, keep := [true, true, true, true, true, false, false, false, false, true, false, false, false, false, false, true, false, false, false, false, true], n := 21, pin := [], fail := [], fz := [] }
theorem c_l_eqRoot : cFun k_l_eqRoot Try.f55 s_l_eqRoot = some p_l_eqRoot := by kernel_rfl
theorem F_l_eqRoot {W : Wld} {ins outs : List (List D)} (h : pwp (FunOk PP W) p_l_eqRoot (RetIs outs) (envL ins)) : FunOk PP W n_l_eqRoot s_l_eqRoot ins outs := fun_ok (C := k_l_eqRoot) (cfg_ok rfl) (eq_ok rfl rfl) mixed Try.func55 (by kernel_rfl) (by kernel_rfl) c_l_eqRoot h

def p_l_eqIntS : PC := .seq (.ss [.mv 4 (.c (.bool false))]) (.seq (.seq (.ss [.mv 6 (.t 0), .len 7 (.t 6), .mv 8 (.t 1), .len 9 (.t 8), .bin 10 .neq (.t 7) (.t 9)]) (.cond (.t 10) (.seq (.ss [.mv 4 (.c (.bool false))]) (.ret [4])) (.skip))) (.seq (.seq (.ss [.mv 5 (.c (.int .i64 0))]) (.block 0 (.loop (.seq (.seq (.ss [.mv 11 (.t 5), .mv 12 (.t 0), .len 13 (.t 12), .bin 14 .lss (.t 11) (.t 13)]) (.cond (.t 14) (.skip) (.exit 0))) (.seq (.block 1 (.seq (.ss [.mv 17 (.t 0), .mv 18 (.t 5), .elp 19 (.t 17) (.t 18) 1, .eld 20 19 0 [.int .i64 0], .mv 21 (.t 1), .mv 22 (.t 5), .elp 23 (.t 21) (.t 22) 1, .eld 24 23 0 [.int .i64 0], .bin 25 .neq (.t 20) (.t 24)]) (.cond (.t 25) (.seq (.ss [.mv 4 (.c (.bool false))]) (.ret [4])) (.skip)))) (.ss [.mv 15 (.t 5), .bin 16 .add (.t 15) (.c (.int .i64 1)), .mv 5 (.t 16)])))))) (.seq (.ss [.mv 4 (.c (.bool true))]) (.ret [4]))))
def k_l_eqIntS : Cfg := { tt := tt, sigs := sigs, mv := false, bm := [], eqt := eqL, keep := [true, true, false, false, true, true, false, false, false, false, true, false, false, false, true, false, false, false, false, false, false, false, false, false, false, true], n := 26, pin := [], fail := [], fz := [] }
theorem c_l_eqIntS : cFun k_l_eqIntS Try.f56 s_l_eqIntS = some p_l_eqIntS := by kernel_rfl
theorem F_l_eqIntS {W : Wld} {ins outs : List (List D)} (h : pwp (FunOk PP W) p_l_eqIntS (RetIs outs) (envL ins)) : FunOk PP W n_l_eqIntS s_l_eqIntS ins outs := fun_ok (C := k_l_eqIntS) (cfg_ok rfl) (eq_ok rfl rfl) mixed Try.func56 (by kernel_rfl) (by kernel_rfl) c_l_eqIntS h

def p_l_heldWorld : PC := .seq (.ss [.mv 2 (.t 0), .mv 4 (.c (.int .i64 0))]) (.seq (.ss [.nop, .sub 6 2 1 1, .mv 7 (.t 1), .call 8 n_l_heldSigRootS s_l_heldSigRootS [(.t 6), (.t 7)] [], .mv 1 (.t 8)]) (.seq (.seq (.ss [.mv 9 (.t 1), .bin 10 .lss (.t 9) (.c (.int .i64 0))]) (.cond (.t 10) (.seq (.ss [.mv 4 (.c (.int .i64 (-1)))]) (.ret [4])) (.skip))) (.seq (.ss [.nop, .sub 12 2 2 1, .mv 13 (.t 1), .call 14 n_l_heldSigIndexS s_l_heldSigIndexS [(.t 12), (.t 13)] [], .mv 1 (.t 14)]) (.seq (.seq (.ss [.mv 15 (.t 1), .bin 16 .lss (.t 15) (.c (.int .i64 0))]) (.cond (.t 16) (.seq (.ss [.mv 4 (.c (.int .i64 (-1)))]) (.ret [4])) (.skip))) (.seq (.ss [.nop, .sub 18 2 3 1, .mv 19 (.t 1), .call 20 n_l_heldPkgS s_l_heldPkgS [(.t 18), (.t 19)] [], .mv 1 (.t 20)]) (.seq (.seq (.ss [.mv 21 (.t 1), .bin 22 .lss (.t 21) (.c (.int .i64 0))]) (.cond (.t 22) (.seq (.ss [.mv 4 (.c (.int .i64 (-1)))]) (.ret [4])) (.skip))) (.seq (.ss [.nop, .sub 24 2 4 1, .mv 25 (.t 1), .call 26 n_l_heldIntS s_l_heldIntS [(.t 24), (.t 25)] [], .mv 1 (.t 26)]) (.seq (.seq (.ss [.mv 27 (.t 1), .bin 28 .lss (.t 27) (.c (.int .i64 0))]) (.cond (.t 28) (.seq (.ss [.mv 4 (.c (.int .i64 (-1)))]) (.ret [4])) (.skip))) (.seq (.ss [.nop, .sub 30 2 5 7, .mv 31 (.t 1), .call 32 n_l_heldTrust s_l_heldTrust [(.t 30), (.t 31)] [], .mv 1 (.t 32)]) (.seq (.seq (.ss [.mv 33 (.t 1), .bin 34 .lss (.t 33) (.c (.int .i64 0))]) (.cond (.t 34) (.seq (.ss [.mv 4 (.c (.int .i64 (-1)))]) (.ret [4])) (.skip))) (.seq (.ss [.nop, .sub 36 2 12 1, .mv 37 (.t 1), .call 38 n_l_heldPkgS s_l_heldPkgS [(.t 36), (.t 37)] [], .mv 1 (.t 38)]) (.seq (.seq (.ss [.mv 39 (.t 1), .bin 40 .lss (.t 39) (.c (.int .i64 0))]) (.cond (.t 40) (.seq (.ss [.mv 4 (.c (.int .i64 (-1)))]) (.ret [4])) (.skip))) (.seq (.ss [.nop, .sub 42 2 13 4, .mv 43 (.t 1), .call 44 n_l_heldDisk s_l_heldDisk [(.t 42), (.t 43)] [], .mv 1 (.t 44)]) (.seq (.seq (.ss [.mv 45 (.t 1), .bin 46 .lss (.t 45) (.c (.int .i64 0))]) (.cond (.t 46) (.seq (.ss [.mv 4 (.c (.int .i64 (-1)))]) (.ret [4])) (.skip))) (.seq (.ss [.mv 47 (.t 1), .mv 4 (.t 47)]) (.ret [4]))))))))))))))))
def k_l_heldWorld : Cfg := { tt := tt, sigs := sigs, mv := false, bm := [], eqt := eqL, keep := [true, true, true, false, true, false, false, false, false, false, true, false, false, false, false, false, true, false, false, false, false, false, true, false, false, false, false, false, true, false, false, false, false, false, true, false, false, false, false, false, true, false, false, false, false, false, true, false], n := 48, pin := [], fail := [], fz := [] }
theorem c_l_heldWorld : cFun k_l_heldWorld Try.f60 s_l_heldWorld = some p_l_heldWorld := by kernel_rfl
theorem F_l_heldWorld {W : Wld} {ins outs : List (List D)} (h : pwp (FunOk PP W) p_l_heldWorld (RetIs outs) (envL ins)) : FunOk PP W n_l_heldWorld s_l_heldWorld ins outs := fun_ok (C := k_l_heldWorld) (cfg_ok rfl) (eq_ok rfl rfl) mixed Try.func60 (by kernel_rfl) (by kernel_rfl) c_l_heldWorld h

end V
end Go.Proofs.Ytgialjcichiaoaa

/-
What the seat's functions come to, as statements; that the checker says so. Written by a program.
-/
namespace Go.Proofs.Ytgialjcichiaoaa
namespace V

def p_l_szIntS : PC := .seq (.ss [.mv 4 (.c (.int .i64 0))]) (.seq (.ss [.mv 5 (.t 1), .mv 6 (.t 0), .len 7 (.t 6), .bin 8 .sub (.t 5) (.t 7), .mv 1 (.t 8)]) (.seq (.seq (.ss [.mv 9 (.t 1), .bin 10 .lss (.t 9) (.c (.int .i64 0))]) (.cond (.t 10) (.seq (.ss [.mv 4 (.c (.int .i64 (-1)))]) (.ret [4])) (.skip))) (.seq (.ss [.mv 11 (.t 1), .mv 4 (.t 11)]) (.ret [4]))))
def k_l_szIntS : Cfg := { tt := tt, sigs := sigs, mv := false, bm := [], eqt := eqL, keep := [true, true, false, false, true, false, false, false, false, false, true, false], n := 12, pin := [], fail := [], fz := [] }
theorem c_l_szIntS : cFun k_l_szIntS Try.f74 s_l_szIntS = some p_l_szIntS := by kernel_rfl
theorem F_l_szIntS {W : Wld} {ins outs : List (List D)} (h : pwp (FunOk PP W) p_l_szIntS (RetIs outs) (envL ins)) : FunOk PP W n_l_szIntS s_l_szIntS ins outs := fun_ok (C := k_l_szIntS) (cfg_ok rfl) (eq_ok rfl rfl) mixed Try.func74 (by kernel_rfl) (by kernel_rfl) c_l_szIntS h

def p_l_heldIntS : PC := .seq (.ss [.mv 4 (.c (.int .i64 0))]) (.seq (.seq (.ss [.mv 5 (.c (.int .i64 0))]) (.block 0 (.loop (.seq (.seq (.ss [.mv 6 (.t 5), .mv 7 (.t 0), .len 8 (.t 7), .bin 9 .lss (.t 6) (.t 8)]) (.cond (.t 9) (.skip) (.exit 0))) (.seq (.block 1 (.seq (.seq (.ss [.mv 12 (.t 0), .mv 13 (.t 5), .elp 14 (.t 12) (.t 13) 1, .eld 15 14 0 [.int .i64 0], .mv 16 (.t 1), .bin 17 .neq (.t 15) (.t 16)]) (.cond (.t 17) (.seq (.ss [.mv 4 (.c (.int .i64 (-1)))]) (.ret [4])) (.skip))) (.ss [.mv 18 (.t 1), .bin 19 .add (.t 18) (.c (.int .i64 1)), .mv 1 (.t 19)]))) (.ss [.mv 10 (.t 5), .bin 11 .add (.t 10) (.c (.int .i64 1)), .mv 5 (.t 11)])))))) (.seq (.ss [.mv 20 (.t 1), .mv 4 (.t 20)]) (.ret [4])))
def k_l_heldIntS : Cfg := { tt := tt, sigs := sigs, mv := false, bm := [], eqt := eqL, keep := [true, true, false, false, true, true, false, false, false, true, false, false, false, false, false, false, false, true, false, false, false], n := 21, pin := [], fail := [], fz := [] }
theorem c_l_heldIntS : cFun k_l_heldIntS Try.f80 s_l_heldIntS = some p_l_heldIntS := by kernel_rfl
theorem F_l_heldIntS {W : Wld} {ins outs : List (List D)} (h : pwp (FunOk PP W) p_l_heldIntS (RetIs outs) (envL ins)) : FunOk PP W n_l_heldIntS s_l_heldIntS ins outs := fun_ok (C := k_l_heldIntS) (cfg_ok rfl) (eq_ok rfl rfl) mixed Try.func80 (by kernel_rfl) (by kernel_rfl) c_l_heldIntS h

def p_s_l6In : PC := .seq (.ss [.mv 6 (.c (.bool false))]) (.seq (.ss [.mv 7 (.t 0), .mv 8 (.t 1), .bin 9 .geq (.t 7) (.t 8), .mv 10 (.t 9), .g 10 true 11 (.mv 11 (.t 0)), .g 10 true 12 (.mv 12 (.t 2)), .g 10 true 13 (.bin 13 .leq (.t 11) (.t 12)), .pick 14 (.t 10) (.t 13) (.c (.bool false)), .mv 6 (.t 14)]) (.ret [6]))
def k_s_l6In : Cfg := { tt := tt, sigs := sigs, mv := false, bm := [], eqt := eqL, keep := [true, true, true, false, false, false, true, false, false, false, false, false, false, false, false], n := 15, pin := [], fail := [], fz := [] }
theorem c_s_l6In : cFun k_s_l6In Try.f100 s_s_l6In = some p_s_l6In := by kernel_rfl
theorem F_s_l6In {W : Wld} {ins outs : List (List D)} (h : pwp (FunOk PP W) p_s_l6In (RetIs outs) (envL ins)) : FunOk PP W n_s_l6In s_s_l6In ins outs := fun_ok (C := k_s_l6In) (cfg_ok rfl) (eq_ok rfl rfl) mixed Try.func100 (by kernel_rfl) (by kernel_rfl) c_s_l6In h

def p_sl_Contains_int : PC := .seq (.ss [.mv 4 (.c (.bool false))]) (.seq (.ss [.mv 5 (.t 0), .mv 6 (.t 1), .call 7 n_sl_Index_int s_sl_Index_int [(.t 5), (.t 6)] [], .bin 8 .geq (.t 7) (.c (.int .i64 0)), .mv 4 (.t 8)]) (.ret [4]))
def k_sl_Contains_int : Cfg := { tt := tt, sigs := sigs, mv := false, bm := [], eqt := eqL, keep := [true, true, false, false, true, false, false, false, false], n := 9, pin := [], fail := [], fz := [] }
theorem c_sl_Contains_int : cFun k_sl_Contains_int Try.f105 s_sl_Contains_int = some p_sl_Contains_int := by kernel_rfl
theorem F_sl_Contains_int {W : Wld} {ins outs : List (List D)} (h : pwp (FunOk PP W) p_sl_Contains_int (RetIs outs) (envL ins)) : FunOk PP W n_sl_Contains_int s_sl_Contains_int ins outs := fun_ok (C := k_sl_Contains_int) (cfg_ok rfl) (eq_ok rfl rfl) mixed Try.func105 (by kernel_rfl) (by kernel_rfl) c_sl_Contains_int h

def p_l_eqPkg : PC := .seq (.ss [.mv 2 (.t 0), .mv 3 (.t 1), .mv 4 (.c (.bool false))]) (.seq (.seq (.ss [.nop, .sub 6 2 0 1, .nop, .sub 8 3 0 1, .bin 9 .neq (.t 6) (.t 8)]) (.cond (.t 9) (.seq (.ss [.mv 4 (.c (.bool false))]) (.ret [4])) (.skip))) (.seq (.seq (.ss [.nop, .sub 11 2 1 1, .nop, .sub 13 3 1 1, .bin 14 .neq (.t 11) (.t 13)]) (.cond (.t 14) (.seq (.ss [.mv 4 (.c (.bool false))]) (.ret [4])) (.skip))) (.seq (.seq (.ss [.nop, .sub 16 2 2 1, .nop, .sub 18 3 2 1, .call 19 n_l_eqFileS s_l_eqFileS [(.t 16), (.t 18)] [], .un 20 .not (.t 19)]) (.cond (.t 20) (.seq (.ss [.mv 4 (.c (.bool false))]) (.ret [4])) (.skip))) (.seq (.seq (.ss [.nop, .sub 22 2 3 1, .nop, .sub 24 3 3 1, .call 25 n_l_eqDepS s_l_eqDepS [(.t 22), (.t 24)] [], .un 26 .not (.t 25)]) (.cond (.t 26) (.seq (.ss [.mv 4 (.c (.bool false))]) (.ret [4])) (.skip))) (.seq (.ss [.mv 4 (.c (.bool true))]) (.ret [4]))))))
def k_l_eqPkg : Cfg := { tt := tt, sigs := sigs, mv := false, bm := [], eqt := eqL, keep := [true, true, true, true, true, false, false, false, false, true, false, false, false, false, true, false, false, false, false, false, true, false, false, false, false, false, true], n := 27, pin := [], fail := [], fz := [] }
theorem c_l_eqPkg : cFun k_l_eqPkg Try.f108 s_l_eqPkg = some p_l_eqPkg := by kernel_rfl
theorem F_l_eqPkg {W : Wld} {ins outs : List (List D)} (h : pwp (FunOk PP W) p_l_eqPkg (RetIs outs) (envL ins)) : FunOk PP W n_l_eqPkg s_l_eqPkg ins outs := fun_ok (C := k_l_eqPkg) (cfg_ok rfl) (eq_ok rfl rfl) mixed Try.func108 (by kernel_rfl) (by kernel_rfl) c_l_eqPkg h

def p_l_heldFileS : PC := .seq (.ss [.mv 4 (.c (.int .i64 0))]) (.seq (.seq (.ss [.mv 5 (.c (.int .i64 0))]) (.block 0 (.loop (.seq (.seq (.ss [.mv 6 (.t 5), .mv 7 (.t 0), .len 8 (.t 7), .bin 9 .lss (.t 6) (.t 8)]) (.cond (.t 9) (.skip) (.exit 0))) (.seq (.block 1 (.seq (.seq (.ss [.mv 12 (.t 0), .mv 13 (.t 5), .elp 14 (.t 12) (.t 13) 2, .mv 15 (.t 14), .eld 16 15 0 [.int .i64 0], .mv 17 (.t 1), .bin 18 .neq (.t 16) (.t 17)]) (.cond (.t 18) (.seq (.ss [.mv 4 (.c (.int .i64 (-1)))]) (.ret [4])) (.skip))) (.seq (.ss [.mv 19 (.t 1), .bin 20 .add (.t 19) (.c (.int .i64 1)), .mv 1 (.t 20)]) (.seq (.seq (.ss [.mv 21 (.t 0), .mv 22 (.t 5), .elp 23 (.t 21) (.t 22) 2, .mv 24 (.t 23), .eld 25 24 1 [.int .i64 0], .mv 26 (.t 1), .bin 27 .neq (.t 25) (.t 26)]) (.cond (.t 27) (.seq (.ss [.mv 4 (.c (.int .i64 (-1)))]) (.ret [4])) (.skip))) (.ss [.mv 28 (.t 1), .bin 29 .add (.t 28) (.c (.int .i64 1)), .mv 1 (.t 29)]))))) (.ss [.mv 10 (.t 5), .bin 11 .add (.t 10) (.c (.int .i64 1)), .mv 5 (.t 11)])))))) (.seq (.ss [.mv 30 (.t 1), .mv 4 (.t 30)]) (.ret [4])))
def k_l_heldFileS : Cfg := { tt := tt, sigs := sigs, mv := false, bm := [], eqt := eqL, keep := [true, true, false, false, true, true, false, false, false, true, false, false, false, false, false, false, false, false, true, false, false, false, false, false, false, false, false, true, false, false, false], n := 31, pin := [], fail := [], fz := [] }
theorem c_l_heldFileS : cFun k_l_heldFileS Try.f111 s_l_heldFileS = some p_l_heldFileS := by kernel_rfl
theorem F_l_heldFileS {W : Wld} {ins outs : List (List D)} (h : pwp (FunOk PP W) p_l_heldFileS (RetIs outs) (envL ins)) : FunOk PP W n_l_heldFileS s_l_heldFileS ins outs := fun_ok (C := k_l_heldFileS) (cfg_ok rfl) (eq_ok rfl rfl) mixed Try.func111 (by kernel_rfl) (by kernel_rfl) c_l_heldFileS h

def p_l_heldDepS : PC := .seq (.ss [.mv 4 (.c (.int .i64 0))]) (.seq (.seq (.ss [.mv 5 (.c (.int .i64 0))]) (.block 0 (.loop (.seq (.seq (.ss [.mv 6 (.t 5), .mv 7 (.t 0), .len 8 (.t 7), .bin 9 .lss (.t 6) (.t 8)]) (.cond (.t 9) (.skip) (.exit 0))) (.seq (.block 1 (.seq (.seq (.ss [.mv 12 (.t 0), .mv 13 (.t 5), .elp 14 (.t 12) (.t 13) 2, .mv 15 (.t 14), .eld 16 15 0 [.int .i64 0], .mv 17 (.t 1), .bin 18 .neq (.t 16) (.t 17)]) (.cond (.t 18) (.seq (.ss [.mv 4 (.c (.int .i64 (-1)))]) (.ret [4])) (.skip))) (.seq (.ss [.mv 19 (.t 1), .bin 20 .add (.t 19) (.c (.int .i64 1)), .mv 1 (.t 20)]) (.seq (.seq (.ss [.mv 21 (.t 0), .mv 22 (.t 5), .elp 23 (.t 21) (.t 22) 2, .mv 24 (.t 23), .eld 25 24 1 [.int .i64 0], .mv 26 (.t 1), .bin 27 .neq (.t 25) (.t 26)]) (.cond (.t 27) (.seq (.ss [.mv 4 (.c (.int .i64 (-1)))]) (.ret [4])) (.skip))) (.ss [.mv 28 (.t 1), .bin 29 .add (.t 28) (.c (.int .i64 1)), .mv 1 (.t 29)]))))) (.ss [.mv 10 (.t 5), .bin 11 .add (.t 10) (.c (.int .i64 1)), .mv 5 (.t 11)])))))) (.seq (.ss [.mv 30 (.t 1), .mv 4 (.t 30)]) (.ret [4])))
def k_l_heldDepS : Cfg := { tt := tt, sigs := sigs, mv := false, bm := [], eqt := eqL, keep := [true, true, false, false, true, true, false, false, false, true, false, false, false, false, false, false, false, false, true, false, false, false, false, false, false, false, false, true, false, false, false], n := 31, pin := [], fail := [], fz := [] }
theorem c_l_heldDepS : cFun k_l_heldDepS Try.f112 s_l_heldDepS = some p_l_heldDepS := by kernel_rfl
theorem F_l_heldDepS {W : Wld} {ins outs : List (List D)} (h : pwp (FunOk PP W) p_l_heldDepS (RetIs outs) (envL ins)) : FunOk PP W n_l_heldDepS s_l_heldDepS ins outs := fun_ok (C := k_l_heldDepS) (cfg_ok rfl) (eq_ok rfl rfl) mixed Try.func112 (by kernel_rfl) (by kernel_rfl) c_l_heldDepS h

def p_s_RootOk : PC := .seq (.ss [.mv 1 (.t 0), .mv 2 (.c (.bool false))]) (.seq (.ss [.nop, .sub 4 1 0 1, .call 5 n_s_l6In s_s_l6In [(.t 4), (.c (.int .i64 1)), (.c (.int .i64 9))] [], .mv 6 (.t 5), .g 6 true 7 (.nop), .g 6 true 8 (.sub 8 1 1 1), .g 6 true 9 (.call 9 n_s_KeysOk s_s_KeysOk [(.t 8)] []), .pick 10 (.t 6) (.t 9) (.c (.bool false)), .mv 11 (.t 10), .g 11 true 12 (.nop), .g 11 true 13 (.sub 13 1 2 1), .g 11 true 14 (.nop), .g 11 true 15 (.sub 15 1 1 1), .g 11 true 16 (.len 16 (.t 15)), .g 11 true 17 (.call 17 n_s_l6In s_s_l6In [(.t 13), (.c (.int .i64 1)), (.t 16)] []), .pick 18 (.t 11) (.t 17) (.c (.bool false)), .mv 2 (.t 18)]) (.ret [2]))
def k_s_RootOk : Cfg := { tt := tt, sigs := sigs, mv := false, bm := [], eqt := eqL, keep := [true, true, true, false, false, false, false, false, false, false, false, false, false, false, false, false, false, false, false], n := 19, pin := [], fail := [], fz := [] }
theorem c_s_RootOk : cFun k_s_RootOk Try.f114 s_s_RootOk = some p_s_RootOk := by kernel_rfl
theorem F_s_RootOk {W : Wld} {ins outs : List (List D)} (h : pwp (FunOk PP W) p_s_RootOk (RetIs outs) (envL ins)) : FunOk PP W n_s_RootOk s_s_RootOk ins outs := fun_ok (C := k_s_RootOk) (cfg_ok rfl) (eq_ok rfl rfl) mixed Try.func114 (by kernel_rfl) (by kernel_rfl) c_s_RootOk h

def p_s_KeysOk : PC := .seq (.ss [.mv 2 (.c (.bool false))]) (.seq (.seq (.ss [.mv 3 (.c (.int .i64 0))]) (.block 0 (.loop (.seq (.seq (.ss [.mv 4 (.t 3), .mv 5 (.t 0), .len 6 (.t 5), .bin 7 .lss (.t 4) (.t 6)]) (.cond (.t 7) (.skip) (.exit 0))) (.seq (.block 1 (.seq (.ss [.mv 10 (.t 0), .mv 11 (.t 3), .elp 12 (.t 10) (.t 11) 1, .eld 13 12 0 [.int .i64 0], .call 14 n_s_l6In s_s_l6In [(.t 13), (.c (.int .i64 1)), (.c (.int .i64 6))] [], .un 15 .not (.t 14), .mv 16 (.t 15), .g 16 false 17 (.mv 17 (.t 3)), .g 16 false 18 (.bin 18 .gtr (.t 17) (.c (.int .i64 0))), .g 16 false 19 (.mv 19 (.t 18)), .g 19 true 20 (.mv 20 (.t 0)), .g 19 true 21 (.mv 21 (.t 3)), .g 19 true 22 (.bin 22 .sub (.t 21) (.c (.int .i64 1))), .g 19 true 23 (.elp 23 (.t 20) (.t 22) 1), .g 19 true 24 (.eld 24 23 0 [.int .i64 0]), .g 19 true 25 (.mv 25 (.t 0)), .g 19 true 26 (.mv 26 (.t 3)), .g 19 true 27 (.elp 27 (.t 25) (.t 26) 1), .g 19 true 28 (.eld 28 27 0 [.int .i64 0]), .g 19 true 29 (.bin 29 .geq (.t 24) (.t 28)), .g 16 false 30 (.pick 30 (.t 19) (.t 29) (.c (.bool false))), .pick 31 (.t 16) (.c (.bool true)) (.t 30)]) (.cond (.t 31) (.seq (.ss [.mv 2 (.c (.bool false))]) (.ret [2])) (.skip)))) (.ss [.mv 8 (.t 3), .bin 9 .add (.t 8) (.c (.int .i64 1)), .mv 3 (.t 9)])))))) (.seq (.ss [.mv 2 (.c (.bool true))]) (.ret [2])))
def k_s_KeysOk : Cfg := { tt := tt, sigs := sigs, mv := false, bm := [], eqt := eqL, keep := [true, false, true, true, false, false, false, true, false, false, false, false, false, false, false, false, false, false, false, false, false, false, false, false, false, false, false, false, false, false, false, true], n := 32, pin := [], fail := [], fz := [] }
theorem c_s_KeysOk : cFun k_s_KeysOk Try.f115 s_s_KeysOk = some p_s_KeysOk := by kernel_rfl
theorem F_s_KeysOk {W : Wld} {ins outs : List (List D)} (h : pwp (FunOk PP W) p_s_KeysOk (RetIs outs) (envL ins)) : FunOk PP W n_s_KeysOk s_s_KeysOk ins outs := fun_ok (C := k_s_KeysOk) (cfg_ok rfl) (eq_ok rfl rfl) mixed Try.func115 (by kernel_rfl) (by kernel_rfl) c_s_KeysOk h

def p_s_l2Both : PC := .seq (.ss [.mv 4 (.c (.int .i64 0))]) (.seq (.ss [.mv 5 (.c (.int .i64 0))]) (.seq (.seq (.ss [.mv 6 (.c (.int .i64 0))]) (.block 0 (.loop (.seq (.seq (.ss [.mv 8 (.t 6), .mv 9 (.t 0), .len 10 (.t 9), .bin 11 .lss (.t 8) (.t 10)]) (.cond (.t 11) (.skip) (.exit 0))) (.seq (.block 1 (.seq (.ss [.mv 7 (.c (.int .i64 0))]) (.block 2 (.loop (.seq (.seq (.ss [.mv 14 (.t 7), .mv 15 (.t 1), .len 16 (.t 15), .bin 17 .lss (.t 14) (.t 16)]) (.cond (.t 17) (.skip) (.exit 2))) (.seq (.block 3 (.seq (.ss [.mv 20 (.t 0), .mv 21 (.t 6), .elp 22 (.t 20) (.t 21) 1, .eld 23 22 0 [.int .i64 0], .mv 24 (.t 1), .mv 25 (.t 7), .elp 26 (.t 24) (.t 25) 1, .eld 27 26 0 [.int .i64 0], .bin 28 .eql (.t 23) (.t 27)]) (.cond (.t 28) (.ss [.mv 29 (.t 5), .bin 30 .add (.t 29) (.c (.int .i64 1)), .mv 5 (.t 30)]) (.skip)))) (.ss [.mv 18 (.t 7), .bin 19 .add (.t 18) (.c (.int .i64 1)), .mv 7 (.t 19)]))))))) (.ss [.mv 12 (.t 6), .bin 13 .add (.t 12) (.c (.int .i64 1)), .mv 6 (.t 13)])))))) (.seq (.ss [.mv 31 (.t 5), .mv 4 (.t 31)]) (.ret [4]))))
def k_s_l2Both : Cfg := { tt := tt, sigs := sigs, mv := false, bm := [], eqt := eqL, keep := [true, true, false, false, true, true, true, true, false, false, false, true, false, false, false, false, false, true, false, false, false, false, false, false, false, false, false, false, true, false, false, false], n := 32, pin := [], fail := [], fz := [] }
theorem c_s_l2Both : cFun k_s_l2Both Try.f116 s_s_l2Both = some p_s_l2Both := by kernel_rfl
theorem F_s_l2Both {W : Wld} {ins outs : List (List D)} (h : pwp (FunOk PP W) p_s_l2Both (RetIs outs) (envL ins)) : FunOk PP W n_s_l2Both s_s_l2Both ins outs := fun_ok (C := k_s_l2Both) (cfg_ok rfl) (eq_ok rfl rfl) mixed Try.func116 (by kernel_rfl) (by kernel_rfl) c_s_l2Both h

def p_i_RootOk : PC := .seq (.ss [.mv 1 (.t 0), .mv 2 (.c (.bool false))]) (.seq (.ss [.nop, .sub 4 1 0 1, .call 5 n_i_in s_i_in [(.t 4), (.c (.int .i64 1)), (.c (.int .i64 9))] [], .mv 6 (.t 5), .g 6 true 7 (.nop), .g 6 true 8 (.sub 8 1 1 1), .g 6 true 9 (.call 9 n_i_KeysOk s_i_KeysOk [(.t 8)] []), .pick 10 (.t 6) (.t 9) (.c (.bool false)), .mv 11 (.t 10), .g 11 true 12 (.nop), .g 11 true 13 (.sub 13 1 2 1), .g 11 true 14 (.nop), .g 11 true 15 (.sub 15 1 1 1), .g 11 true 16 (.len 16 (.t 15)), .g 11 true 17 (.call 17 n_i_in s_i_in [(.t 13), (.c (.int .i64 1)), (.t 16)] []), .pick 18 (.t 11) (.t 17) (.c (.bool false)), .mv 2 (.t 18)]) (.ret [2]))
def k_i_RootOk : Cfg := { tt := tt, sigs := sigs, mv := false, bm := [], eqt := eqL, keep := [true, true, true, false, false, false, false, false, false, false, false, false, false, false, false, false, false, false, false], n := 19, pin := [], fail := [], fz := [] }
theorem c_i_RootOk : cFun k_i_RootOk Try.f120 s_i_RootOk = some p_i_RootOk := by kernel_rfl
theorem F_i_RootOk {W : Wld} {ins outs : List (List D)} (h : pwp (FunOk PP W) p_i_RootOk (RetIs outs) (envL ins)) : FunOk PP W n_i_RootOk s_i_RootOk ins outs := fun_ok (C := k_i_RootOk) (cfg_ok rfl) (eq_ok rfl rfl) mixed Try.func120 (by kernel_rfl) (by kernel_rfl) c_i_RootOk h

def p_i_KeysOk : PC := .seq (.ss [.mv 2 (.c (.bool false))]) (.seq (.seq (.ss [.mv 5 (.t 0), .len 6 (.t 5), .mv 7 (.c (.int .i64 0))]) (.block 0 (.loop (.seq (.ss [.bin 8 .lss (.t 7) (.t 6)]) (.seq (.cond (.t 8) (.skip) (.exit 0)) (.seq (.block 1 (.seq (.ss [.mv 9 (.t 7), .elp 10 (.t 5) (.t 7) 1, .eld 11 10 0 [.int .i64 0], .mv 3 (.t 9), .mv 4 (.t 11)]) (.seq (.ss [.mv 12 (.t 4), .call 13 n_i_in s_i_in [(.t 12), (.c (.int .i64 1)), (.c (.int .i64 6))] [], .un 14 .not (.t 13), .mv 15 (.t 14), .g 15 false 16 (.mv 16 (.t 3)), .g 15 false 17 (.bin 17 .gtr (.t 16) (.c (.int .i64 0))), .g 15 false 18 (.mv 18 (.t 17)), .g 18 true 19 (.mv 19 (.t 4)), .g 18 true 20 (.mv 20 (.t 0)), .g 18 true 21 (.mv 21 (.t 3)), .g 18 true 22 (.bin 22 .sub (.t 21) (.c (.int .i64 1))), .g 18 true 23 (.elp 23 (.t 20) (.t 22) 1), .g 18 true 24 (.eld 24 23 0 [.int .i64 0]), .g 18 true 25 (.bin 25 .leq (.t 19) (.t 24)), .g 15 false 26 (.pick 26 (.t 18) (.t 25) (.c (.bool false))), .pick 27 (.t 15) (.c (.bool true)) (.t 26)]) (.cond (.t 27) (.seq (.ss [.mv 2 (.c (.bool false))]) (.ret [2])) (.skip))))) (.ss [.bin 28 .add (.t 7) (.c (.int .i64 1)), .mv 7 (.t 28)]))))))) (.seq (.ss [.mv 2 (.c (.bool true))]) (.ret [2])))
def k_i_KeysOk : Cfg := { tt := tt, sigs := sigs, mv := false, bm := [], eqt := eqL, keep := [true, false, true, true, true, true, true, true, true, false, false, false, false, false, false, false, false, false, false, false, false, false, false, false, false, false, false, true, false], n := 29, pin := [], fail := [], fz := [] }
theorem c_i_KeysOk : cFun k_i_KeysOk Try.f121 s_i_KeysOk = some p_i_KeysOk := by kernel_rfl
theorem F_i_KeysOk {W : Wld} {ins outs : List (List D)} (h : pwp (FunOk PP W) p_i_KeysOk (RetIs outs) (envL ins)) : FunOk PP W n_i_KeysOk s_i_KeysOk ins outs := fun_ok (C := k_i_KeysOk) (cfg_ok rfl) (eq_ok rfl rfl) mixed Try.func121 (by kernel_rfl) (by kernel_rfl) c_i_KeysOk h

def p_i_Root_safe : PC := .seq (.ss [.mv 2 (.t 0), .mv 4 (.c (.bool false))]) (.seq (.ss [.nop, .sub 6 2 1 1, .mv 7 (.t 1), .call 8 n_i_KeysBoth s_i_KeysBoth [(.t 6), (.t 7)] [], .nop, .sub 10 2 2 1, .bin 11 .lss (.t 8) (.t 10), .mv 4 (.t 11)]) (.ret [4]))
def k_i_Root_safe : Cfg := { tt := tt, sigs := sigs, mv := false, bm := [], eqt := eqL, keep := [true, true, true, false, true, false, false, false, false, false, false, false], n := 12, pin := [], fail := [], fz := [] }
theorem c_i_Root_safe : cFun k_i_Root_safe Try.f122 s_i_Root_safe = some p_i_Root_safe := by kernel_rfl
theorem F_i_Root_safe {W : Wld} {ins outs : List (List D)} (h : pwp (FunOk PP W) p_i_Root_safe (RetIs outs) (envL ins)) : FunOk PP W n_i_Root_safe s_i_Root_safe ins outs := fun_ok (C := k_i_Root_safe) (cfg_ok rfl) (eq_ok rfl rfl) mixed Try.func122 (by kernel_rfl) (by kernel_rfl) c_i_Root_safe h

def p_l_eqSigRootS : PC := .seq (.ss [.mv 4 (.c (.bool false))]) (.seq (.seq (.ss [.mv 6 (.t 0), .len 7 (.t 6), .mv 8 (.t 1), .len 9 (.t 8), .bin 10 .neq (.t 7) (.t 9)]) (.cond (.t 10) (.seq (.ss [.mv 4 (.c (.bool false))]) (.ret [4])) (.skip))) (.seq (.seq (.ss [.mv 5 (.c (.int .i64 0))]) (.block 0 (.loop (.seq (.seq (.ss [.mv 11 (.t 5), .mv 12 (.t 0), .len 13 (.t 12), .bin 14 .lss (.t 11) (.t 13)]) (.cond (.t 14) (.skip) (.exit 0))) (.seq (.block 1 (.seq (.ss [.mv 17 (.t 0), .mv 18 (.t 5), .elp 19 (.t 17) (.t 18) 4, .eld 20 19 0 [.int .i64 0, .sl [], .int .i64 0, .sl []], .mv 21 (.t 1), .mv 22 (.t 5), .elp 23 (.t 21) (.t 22) 4, .eld 24 23 0 [.int .i64 0, .sl [], .int .i64 0, .sl []], .call 25 n_l_eqSigRoot s_l_eqSigRoot [(.t 20), (.t 24)] [], .un 26 .not (.t 25)]) (.cond (.t 26) (.seq (.ss [.mv 4 (.c (.bool false))]) (.ret [4])) (.skip)))) (.ss [.mv 15 (.t 5), .bin 16 .add (.t 15) (.c (.int .i64 1)), .mv 5 (.t 16)])))))) (.seq (.ss [.mv 4 (.c (.bool true))]) (.ret [4]))))
def k_l_eqSigRootS : Cfg := { tt := tt, sigs := sigs, mv := false, bm := [], eqt := eqL, keep := [true, true, false, false, true, true, false, false, false, false, true, false, false, false, true, false, false, false, false, false, false, false, false, false, false, false, true], n := 27, pin := [], fail := [], fz := [] }
theorem c_l_eqSigRootS : cFun k_l_eqSigRootS Try.f126 s_l_eqSigRootS = some p_l_eqSigRootS := by kernel_rfl
theorem F_l_eqSigRootS {W : Wld} {ins outs : List (List D)} (h : pwp (FunOk PP W) p_l_eqSigRootS (RetIs outs) (envL ins)) : FunOk PP W n_l_eqSigRootS s_l_eqSigRootS ins outs := fun_ok (C := k_l_eqSigRootS) (cfg_ok rfl) (eq_ok rfl rfl) mixed Try.func126 (by kernel_rfl) (by kernel_rfl) c_l_eqSigRootS h

def p_l_eqSigIndexS : PC := .seq (.ss [.mv 4 (.c (.bool false))]) (.seq (.seq (.ss [.mv 6 (.t 0), .len 7 (.t 6), .mv 8 (.t 1), .len 9 (.t 8), .bin 10 .neq (.t 7) (.t 9)]) (.cond (.t 10) (.seq (.ss [.mv 4 (.c (.bool false))]) (.ret [4])) (.skip))) (.seq (.seq (.ss [.mv 5 (.c (.int .i64 0))]) (.block 0 (.loop (.seq (.seq (.ss [.mv 11 (.t 5), .mv 12 (.t 0), .len 13 (.t 12), .bin 14 .lss (.t 11) (.t 13)]) (.cond (.t 14) (.skip) (.exit 0))) (.seq (.block 1 (.seq (.ss [.mv 17 (.t 0), .mv 18 (.t 5), .elp 19 (.t 17) (.t 18) 4, .eld 20 19 0 [.int .i64 0, .int .i64 0, .sl [], .sl []], .mv 21 (.t 1), .mv 22 (.t 5), .elp 23 (.t 21) (.t 22) 4, .eld 24 23 0 [.int .i64 0, .int .i64 0, .sl [], .sl []], .call 25 n_l_eqSigIndex s_l_eqSigIndex [(.t 20), (.t 24)] [], .un 26 .not (.t 25)]) (.cond (.t 26) (.seq (.ss [.mv 4 (.c (.bool false))]) (.ret [4])) (.skip)))) (.ss [.mv 15 (.t 5), .bin 16 .add (.t 15) (.c (.int .i64 1)), .mv 5 (.t 16)])))))) (.seq (.ss [.mv 4 (.c (.bool true))]) (.ret [4]))))
def k_l_eqSigIndexS : Cfg := { tt := tt, sigs := sigs, mv := false, bm := [], eqt := eqL, keep := [true, true, false, false, true, true, false, false, false, false, true, false, false, false, true, false, false, false, false, false, false, false, false, false, false, false, true], n := 27, pin := [], fail := [], fz := [] }
theorem c_l_eqSigIndexS : cFun k_l_eqSigIndexS Try.f127 s_l_eqSigIndexS = some p_l_eqSigIndexS := by kernel_rfl
theorem F_l_eqSigIndexS {W : Wld} {ins outs : List (List D)} (h : pwp (FunOk PP W) p_l_eqSigIndexS (RetIs outs) (envL ins)) : FunOk PP W n_l_eqSigIndexS s_l_eqSigIndexS ins outs := fun_ok (C := k_l_eqSigIndexS) (cfg_ok rfl) (eq_ok rfl rfl) mixed Try.func127 (by kernel_rfl) (by kernel_rfl) c_l_eqSigIndexS h

def p_l_eqTrust : PC := .seq (.ss [.mv 2 (.t 0), .mv 3 (.t 1), .mv 4 (.c (.bool false))]) (.seq (.seq (.ss [.nop, .sub 6 2 0 3, .nop, .sub 8 3 0 3, .call 9 n_l_eqRoot s_l_eqRoot [(.t 6), (.t 8)] [], .un 10 .not (.t 9)]) (.cond (.t 10) (.seq (.ss [.mv 4 (.c (.bool false))]) (.ret [4])) (.skip))) (.seq (.seq (.ss [.nop, .sub 12 2 3 1, .nop, .sub 14 3 3 1, .beq 15 true (.t 12) (.t 14)]) (.cond (.t 15) (.seq (.ss [.mv 4 (.c (.bool false))]) (.ret [4])) (.skip))) (.seq (.seq (.ss [.nop, .sub 17 2 4 3, .nop, .sub 19 3 4 3, .call 20 n_l_eqIndex s_l_eqIndex [(.t 17), (.t 19)] [], .un 21 .not (.t 20)]) (.cond (.t 21) (.seq (.ss [.mv 4 (.c (.bool false))]) (.ret [4])) (.skip))) (.seq (.ss [.mv 4 (.c (.bool true))]) (.ret [4])))))
def k_l_eqTrust : Cfg := { tt := tt, sigs := sigs, mv := false, bm := [], eqt := eqL, keep := [true, true, true, true, true, false, false, false, false, false, true, false, false, false, false, true, false, false, false, false, false, true], n := 22, pin := [], fail := [], fz := [] }
theorem c_l_eqTrust : cFun k_l_eqTrust Try.f128 s_l_eqTrust = some p_l_eqTrust := by kernel_rfl
theorem F_l_eqTrust {W : Wld} {ins outs : List (List D)} (h : pwp (FunOk PP W) p_l_eqTrust (RetIs outs) (envL ins)) : FunOk PP W n_l_eqTrust s_l_eqTrust ins outs := fun_ok (C := k_l_eqTrust) (cfg_ok rfl) (eq_ok rfl rfl) mixed Try.func128 (by kernel_rfl) (by kernel_rfl) c_l_eqTrust h

def p_l_heldSigRootS : PC := .seq (.ss [.mv 4 (.c (.int .i64 0))]) (.seq (.seq (.ss [.mv 5 (.c (.int .i64 0))]) (.block 0 (.loop (.seq (.seq (.ss [.mv 6 (.t 5), .mv 7 (.t 0), .len 8 (.t 7), .bin 9 .lss (.t 6) (.t 8)]) (.cond (.t 9) (.skip) (.exit 0))) (.seq (.block 1 (.seq (.seq (.ss [.mv 12 (.t 0), .mv 13 (.t 5), .elp 14 (.t 12) (.t 13) 4, .mv 15 (.t 14), .mv 16 (.t 15), .eld 17 16 0 [.int .i64 0], .mv 18 (.t 1), .bin 19 .neq (.t 17) (.t 18)]) (.cond (.t 19) (.seq (.ss [.mv 4 (.c (.int .i64 (-1)))]) (.ret [4])) (.skip))) (.seq (.ss [.mv 20 (.t 1), .bin 21 .add (.t 20) (.c (.int .i64 1)), .mv 1 (.t 21)]) (.seq (.ss [.mv 22 (.t 0), .mv 23 (.t 5), .elp 24 (.t 22) (.t 23) 4, .mv 25 (.t 24), .mv 26 (.t 25), .eld 27 26 1 [.sl []], .mv 28 (.t 1), .call 29 n_l_heldIntS s_l_heldIntS [(.t 27), (.t 28)] [], .mv 1 (.t 29)]) (.seq (.seq (.ss [.mv 30 (.t 1), .bin 31 .lss (.t 30) (.c (.int .i64 0))]) (.cond (.t 31) (.seq (.ss [.mv 4 (.c (.int .i64 (-1)))]) (.ret [4])) (.skip))) (.seq (.seq (.ss [.mv 32 (.t 0), .mv 33 (.t 5), .elp 34 (.t 32) (.t 33) 4, .mv 35 (.t 34), .mv 36 (.t 35), .eld 37 36 2 [.int .i64 0], .mv 38 (.t 1), .bin 39 .neq (.t 37) (.t 38)]) (.cond (.t 39) (.seq (.ss [.mv 4 (.c (.int .i64 (-1)))]) (.ret [4])) (.skip))) (.seq (.ss [.mv 40 (.t 1), .bin 41 .add (.t 40) (.c (.int .i64 1)), .mv 1 (.t 41)]) (.seq (.ss [.mv 42 (.t 0), .mv 43 (.t 5), .elp 44 (.t 42) (.t 43) 4, .mv 45 (.t 44), .eld 46 45 3 [.sl []], .mv 47 (.t 1), .call 48 n_l_heldIntS s_l_heldIntS [(.t 46), (.t 47)] [], .mv 1 (.t 48)]) (.seq (.ss [.mv 49 (.t 1), .bin 50 .lss (.t 49) (.c (.int .i64 0))]) (.cond (.t 50) (.seq (.ss [.mv 4 (.c (.int .i64 (-1)))]) (.ret [4])) (.skip))))))))))) (.ss [.mv 10 (.t 5), .bin 11 .add (.t 10) (.c (.int .i64 1)), .mv 5 (.t 11)])))))) (.seq (.ss [.mv 51 (.t 1), .mv 4 (.t 51)]) (.ret [4])))
def k_l_heldSigRootS : Cfg := { tt := tt, sigs := sigs, mv := false, bm := [], eqt := eqL, keep := [true, true, false, false, true, true, false, false, false, true, false, false, false, false, false, false, false, false, false, true, false, false, false, false, false, false, false, false, false, false, false, true, false, false, false, false, false, false, false, true, false, false, false, false, false, false, false, false, false, false, true, false], n := 52, pin := [], fail := [], fz := [] }
theorem c_l_heldSigRootS : cFun k_l_heldSigRootS Try.f132 s_l_heldSigRootS = some p_l_heldSigRootS := by kernel_rfl
theorem F_l_heldSigRootS {W : Wld} {ins outs : List (List D)} (h : pwp (FunOk PP W) p_l_heldSigRootS (RetIs outs) (envL ins)) : FunOk PP W n_l_heldSigRootS s_l_heldSigRootS ins outs := fun_ok (C := k_l_heldSigRootS) (cfg_ok rfl) (eq_ok rfl rfl) mixed Try.func132 (by kernel_rfl) (by kernel_rfl) c_l_heldSigRootS h

def p_l_heldSigIndexS : PC := .seq (.ss [.mv 4 (.c (.int .i64 0))]) (.seq (.seq (.ss [.mv 5 (.c (.int .i64 0))]) (.block 0 (.loop (.seq (.seq (.ss [.mv 6 (.t 5), .mv 7 (.t 0), .len 8 (.t 7), .bin 9 .lss (.t 6) (.t 8)]) (.cond (.t 9) (.skip) (.exit 0))) (.seq (.block 1 (.seq (.seq (.ss [.mv 12 (.t 0), .mv 13 (.t 5), .elp 14 (.t 12) (.t 13) 4, .mv 15 (.t 14), .mv 16 (.t 15), .eld 17 16 0 [.int .i64 0], .mv 18 (.t 1), .bin 19 .neq (.t 17) (.t 18)]) (.cond (.t 19) (.seq (.ss [.mv 4 (.c (.int .i64 (-1)))]) (.ret [4])) (.skip))) (.seq (.ss [.mv 20 (.t 1), .bin 21 .add (.t 20) (.c (.int .i64 1)), .mv 1 (.t 21)]) (.seq (.seq (.ss [.mv 22 (.t 0), .mv 23 (.t 5), .elp 24 (.t 22) (.t 23) 4, .mv 25 (.t 24), .mv 26 (.t 25), .eld 27 26 1 [.int .i64 0], .mv 28 (.t 1), .bin 29 .neq (.t 27) (.t 28)]) (.cond (.t 29) (.seq (.ss [.mv 4 (.c (.int .i64 (-1)))]) (.ret [4])) (.skip))) (.seq (.ss [.mv 30 (.t 1), .bin 31 .add (.t 30) (.c (.int .i64 1)), .mv 1 (.t 31)]) (.seq (.ss [.mv 32 (.t 0), .mv 33 (.t 5), .elp 34 (.t 32) (.t 33) 4, .mv 35 (.t 34), .mv 36 (.t 35), .eld 37 36 2 [.sl []], .mv 38 (.t 1), .call 39 n_l_heldMetaS s_l_heldMetaS [(.t 37), (.t 38)] [], .mv 1 (.t 39)]) (.seq (.seq (.ss [.mv 40 (.t 1), .bin 41 .lss (.t 40) (.c (.int .i64 0))]) (.cond (.t 41) (.seq (.ss [.mv 4 (.c (.int .i64 (-1)))]) (.ret [4])) (.skip))) (.seq (.ss [.mv 42 (.t 0), .mv 43 (.t 5), .elp 44 (.t 42) (.t 43) 4, .mv 45 (.t 44), .eld 46 45 3 [.sl []], .mv 47 (.t 1), .call 48 n_l_heldIntS s_l_heldIntS [(.t 46), (.t 47)] [], .mv 1 (.t 48)]) (.seq (.ss [.mv 49 (.t 1), .bin 50 .lss (.t 49) (.c (.int .i64 0))]) (.cond (.t 50) (.seq (.ss [.mv 4 (.c (.int .i64 (-1)))]) (.ret [4])) (.skip))))))))))) (.ss [.mv 10 (.t 5), .bin 11 .add (.t 10) (.c (.int .i64 1)), .mv 5 (.t 11)])))))) (.seq (.ss [.mv 51 (.t 1), .mv 4 (.t 51)]) (.ret [4])))
def k_l_heldSigIndexS : Cfg := { tt := tt, sigs := sigs, mv := false, bm := [], eqt := eqL, keep := [true, true, false, false, true, true, false, false, false, true, false, false, false, false, false, false, false, false, false, true, false, false, false, false, false, false, false, false, false, true, false, false, false, false, false, false, false, false, false, false, false, true, false, false, false, false, false, false, false, false, true, false], n := 52, pin := [], fail := [], fz := [] }
theorem c_l_heldSigIndexS : cFun k_l_heldSigIndexS Try.f133 s_l_heldSigIndexS = some p_l_heldSigIndexS := by kernel_rfl
theorem F_l_heldSigIndexS {W : Wld} {ins outs : List (List D)} (h : pwp (FunOk PP W) p_l_heldSigIndexS (RetIs outs) (envL ins)) : FunOk PP W n_l_heldSigIndexS s_l_heldSigIndexS ins outs := fun_ok (C := k_l_heldSigIndexS) (cfg_ok rfl) (eq_ok rfl rfl) mixed Try.func133 (by kernel_rfl) (by kernel_rfl) c_l_heldSigIndexS h

def p_l_heldTrust : PC := .seq (.ss [.mv 2 (.t 0), .mv 4 (.c (.int .i64 0))]) (.seq (.ss [.nop, .sub 6 2 0 3, .mv 7 (.t 1), .call 8 n_l_heldRoot s_l_heldRoot [(.t 6), (.t 7)] [], .mv 1 (.t 8)]) (.seq (.seq (.ss [.mv 9 (.t 1), .bin 10 .lss (.t 9) (.c (.int .i64 0))]) (.cond (.t 10) (.seq (.ss [.mv 4 (.c (.int .i64 (-1)))]) (.ret [4])) (.skip))) (.seq (.ss [.nop, .sub 12 2 4 3, .mv 13 (.t 1), .call 14 n_l_heldIndex s_l_heldIndex [(.t 12), (.t 13)] [], .mv 1 (.t 14)]) (.seq (.seq (.ss [.mv 15 (.t 1), .bin 16 .lss (.t 15) (.c (.int .i64 0))]) (.cond (.t 16) (.seq (.ss [.mv 4 (.c (.int .i64 (-1)))]) (.ret [4])) (.skip))) (.seq (.ss [.mv 17 (.t 1), .mv 4 (.t 17)]) (.ret [4]))))))
def k_l_heldTrust : Cfg := { tt := tt, sigs := sigs, mv := false, bm := [], eqt := eqL, keep := [true, true, true, false, true, false, false, false, false, false, true, false, false, false, false, false, true, false], n := 18, pin := [], fail := [], fz := [] }
theorem c_l_heldTrust : cFun k_l_heldTrust Try.f134 s_l_heldTrust = some p_l_heldTrust := by kernel_rfl
theorem F_l_heldTrust {W : Wld} {ins outs : List (List D)} (h : pwp (FunOk PP W) p_l_heldTrust (RetIs outs) (envL ins)) : FunOk PP W n_l_heldTrust s_l_heldTrust ins outs := fun_ok (C := k_l_heldTrust) (cfg_ok rfl) (eq_ok rfl rfl) mixed Try.func134 (by kernel_rfl) (by kernel_rfl) c_l_heldTrust h

def p_i_in : PC := .seq (.ss [.mv 6 (.c (.bool false))]) (.seq (.ss [.mv 7 (.t 0), .mv 8 (.t 1), .bin 9 .geq (.t 7) (.t 8), .mv 10 (.t 9), .g 10 true 11 (.mv 11 (.t 0)), .g 10 true 12 (.mv 12 (.t 2)), .g 10 true 13 (.bin 13 .leq (.t 11) (.t 12)), .pick 14 (.t 10) (.t 13) (.c (.bool false)), .mv 6 (.t 14)]) (.ret [6]))
def k_i_in : Cfg := { tt := tt, sigs := sigs, mv := false, bm := [], eqt := eqL, keep := [true, true, true, false, false, false, true, false, false, false, false, false, false, false, false], n := 15, pin := [], fail := [], fz := [] }
theorem c_i_in : cFun k_i_in Try.f138 s_i_in = some p_i_in := by kernel_rfl
theorem F_i_in {W : Wld} {ins outs : List (List D)} (h : pwp (FunOk PP W) p_i_in (RetIs outs) (envL ins)) : FunOk PP W n_i_in s_i_in ins outs := fun_ok (C := k_i_in) (cfg_ok rfl) (eq_ok rfl rfl) mixed Try.func138 (by kernel_rfl) (by kernel_rfl) c_i_in h

def p_sl_Index_int : PC := .seq (.ss [.mv 4 (.c (.int .i64 0))]) (.seq (.seq (.ss [.mv 6 (.t 0), .len 7 (.t 6), .mv 8 (.c (.int .i64 0))]) (.block 0 (.loop (.seq (.ss [.bin 9 .lss (.t 8) (.t 7)]) (.seq (.cond (.t 9) (.skip) (.exit 0)) (.seq (.block 1 (.seq (.ss [.mv 10 (.t 8), .mv 5 (.t 10)]) (.seq (.ss [.mv 11 (.t 1), .mv 12 (.t 0), .mv 13 (.t 5), .elp 14 (.t 12) (.t 13) 1, .eld 15 14 0 [.int .i64 0], .bin 16 .eql (.t 11) (.t 15)]) (.cond (.t 16) (.seq (.ss [.mv 17 (.t 5), .mv 4 (.t 17)]) (.ret [4])) (.skip))))) (.ss [.bin 18 .add (.t 8) (.c (.int .i64 1)), .mv 8 (.t 18)]))))))) (.seq (.ss [.mv 4 (.c (.int .i64 (-1)))]) (.ret [4])))
def k_sl_Index_int : Cfg := { tt := tt, sigs := sigs, mv := false, bm := [], eqt := eqL, keep := [true, true, false, false, true, true, false, true, true, true, false, false, false, false, false, false, true, false, false], n := 19, pin := [], fail := [], fz := [] }
theorem c_sl_Index_int : cFun k_sl_Index_int Try.f162 s_sl_Index_int = some p_sl_Index_int := by kernel_rfl
theorem F_sl_Index_int {W : Wld} {ins outs : List (List D)} (h : pwp (FunOk PP W) p_sl_Index_int (RetIs outs) (envL ins)) : FunOk PP W n_sl_Index_int s_sl_Index_int ins outs := fun_ok (C := k_sl_Index_int) (cfg_ok rfl) (eq_ok rfl rfl) mixed Try.func162 (by kernel_rfl) (by kernel_rfl) c_sl_Index_int h

end V
end Go.Proofs.Ytgialjcichiaoaa

/-
What the seat's functions come to, as statements; that the checker says so. Written by a program.
-/
namespace Go.Proofs.Ytgialjcichiaoaa
namespace V

def p_l_eqFileS : PC := .seq (.ss [.mv 4 (.c (.bool false))]) (.seq (.seq (.ss [.mv 6 (.t 0), .len 7 (.t 6), .mv 8 (.t 1), .len 9 (.t 8), .bin 10 .neq (.t 7) (.t 9)]) (.cond (.t 10) (.seq (.ss [.mv 4 (.c (.bool false))]) (.ret [4])) (.skip))) (.seq (.seq (.ss [.mv 5 (.c (.int .i64 0))]) (.block 0 (.loop (.seq (.seq (.ss [.mv 11 (.t 5), .mv 12 (.t 0), .len 13 (.t 12), .bin 14 .lss (.t 11) (.t 13)]) (.cond (.t 14) (.skip) (.exit 0))) (.seq (.block 1 (.seq (.ss [.mv 17 (.t 0), .mv 18 (.t 5), .elp 19 (.t 17) (.t 18) 2, .eld 20 19 0 [.int .i64 0, .int .i64 0], .mv 21 (.t 1), .mv 22 (.t 5), .elp 23 (.t 21) (.t 22) 2, .eld 24 23 0 [.int .i64 0, .int .i64 0], .call 25 n_l_eqFile s_l_eqFile [(.t 20), (.t 24)] [], .un 26 .not (.t 25)]) (.cond (.t 26) (.seq (.ss [.mv 4 (.c (.bool false))]) (.ret [4])) (.skip)))) (.ss [.mv 15 (.t 5), .bin 16 .add (.t 15) (.c (.int .i64 1)), .mv 5 (.t 16)])))))) (.seq (.ss [.mv 4 (.c (.bool true))]) (.ret [4]))))
def k_l_eqFileS : Cfg := { tt := tt, sigs := sigs, mv := false, bm := [], eqt := eqL, keep := [true, true, false, false, true, true, false, false, false, false, true, false, false, false, true, false, false, false, false, false, false, false, false, false, false, false, true], n := 27, pin := [], fail := [], fz := [] }
theorem c_l_eqFileS : cFun k_l_eqFileS Try.f166 s_l_eqFileS = some p_l_eqFileS := by kernel_rfl
theorem F_l_eqFileS {W : Wld} {ins outs : List (List D)} (h : pwp (FunOk PP W) p_l_eqFileS (RetIs outs) (envL ins)) : FunOk PP W n_l_eqFileS s_l_eqFileS ins outs := fun_ok (C := k_l_eqFileS) (cfg_ok rfl) (eq_ok rfl rfl) mixed Try.func166 (by kernel_rfl) (by kernel_rfl) c_l_eqFileS h

def p_l_eqDepS : PC := .seq (.ss [.mv 4 (.c (.bool false))]) (.seq (.seq (.ss [.mv 6 (.t 0), .len 7 (.t 6), .mv 8 (.t 1), .len 9 (.t 8), .bin 10 .neq (.t 7) (.t 9)]) (.cond (.t 10) (.seq (.ss [.mv 4 (.c (.bool false))]) (.ret [4])) (.skip))) (.seq (.seq (.ss [.mv 5 (.c (.int .i64 0))]) (.block 0 (.loop (.seq (.seq (.ss [.mv 11 (.t 5), .mv 12 (.t 0), .len 13 (.t 12), .bin 14 .lss (.t 11) (.t 13)]) (.cond (.t 14) (.skip) (.exit 0))) (.seq (.block 1 (.seq (.ss [.mv 17 (.t 0), .mv 18 (.t 5), .elp 19 (.t 17) (.t 18) 2, .eld 20 19 0 [.int .i64 0, .int .i64 0], .mv 21 (.t 1), .mv 22 (.t 5), .elp 23 (.t 21) (.t 22) 2, .eld 24 23 0 [.int .i64 0, .int .i64 0], .call 25 n_l_eqDep s_l_eqDep [(.t 20), (.t 24)] [], .un 26 .not (.t 25)]) (.cond (.t 26) (.seq (.ss [.mv 4 (.c (.bool false))]) (.ret [4])) (.skip)))) (.ss [.mv 15 (.t 5), .bin 16 .add (.t 15) (.c (.int .i64 1)), .mv 5 (.t 16)])))))) (.seq (.ss [.mv 4 (.c (.bool true))]) (.ret [4]))))
def k_l_eqDepS : Cfg := { tt := tt, sigs := sigs, mv := false, bm := [], eqt := eqL, keep := [true, true, false, false, true, true, false, false, false, false, true, false, false, false, true, false, false, false, false, false, false, false, false, false, false, false, true], n := 27, pin := [], fail := [], fz := [] }
theorem c_l_eqDepS : cFun k_l_eqDepS Try.f167 s_l_eqDepS = some p_l_eqDepS := by kernel_rfl
theorem F_l_eqDepS {W : Wld} {ins outs : List (List D)} (h : pwp (FunOk PP W) p_l_eqDepS (RetIs outs) (envL ins)) : FunOk PP W n_l_eqDepS s_l_eqDepS ins outs := fun_ok (C := k_l_eqDepS) (cfg_ok rfl) (eq_ok rfl rfl) mixed Try.func167 (by kernel_rfl) (by kernel_rfl) c_l_eqDepS h

def p_i_KeysBoth : PC := .seq (.ss [.mv 4 (.c (.int .i64 0))]) (.seq (.seq (.ss [.mv 8 (.t 0), .call 9 n_i_KeysOk s_i_KeysOk [(.t 8)] [], .un 10 .not (.t 9), .mv 11 (.t 10), .g 11 false 12 (.mv 12 (.t 1)), .g 11 false 13 (.call 13 n_i_KeysOk s_i_KeysOk [(.t 12)] []), .g 11 false 14 (.un 14 .not (.t 13)), .pick 15 (.t 11) (.c (.bool true)) (.t 14)]) (.cond (.t 15) (.seq (.ss [.mv 4 (.c (.int .i64 (-1)))]) (.ret [4])) (.skip))) (.seq (.ss [.mv 5 (.c (.int .i64 0))]) (.seq (.seq (.ss [.mv 16 (.t 0), .len 17 (.t 16), .mv 18 (.c (.int .i64 0))]) (.block 0 (.loop (.seq (.ss [.bin 19 .lss (.t 18) (.t 17)]) (.seq (.cond (.t 19) (.skip) (.exit 0)) (.seq (.block 1 (.seq (.ss [.elp 20 (.t 16) (.t 18) 1, .eld 21 20 0 [.int .i64 0], .mv 7 (.t 21)]) (.seq (.ss [.mv 22 (.t 1), .mv 23 (.t 7), .call 24 n_sl_Contains_int s_sl_Contains_int [(.t 22), (.t 23)] []]) (.cond (.t 24) (.ss [.mv 25 (.t 5), .bin 26 .add (.t 25) (.c (.int .i64 1)), .mv 5 (.t 26)]) (.skip))))) (.ss [.bin 27 .add (.t 18) (.c (.int .i64 1)), .mv 18 (.t 27)]))))))) (.seq (.ss [.mv 28 (.t 5), .mv 4 (.t 28)]) (.ret [4])))))
def k_i_KeysBoth : Cfg := { tt := tt, sigs := sigs, mv := false, bm := [], eqt := eqL, keep := [true, true, false, false, true, true, false, true, false, false, false, false, false, false, false, true, true, true, true, true, false, false, false, false, true, false, false, false, false], n := 29, pin := [], fail := [], fz := [] }
theorem c_i_KeysBoth : cFun k_i_KeysBoth Try.f168 s_i_KeysBoth = some p_i_KeysBoth := by kernel_rfl
theorem F_i_KeysBoth {W : Wld} {ins outs : List (List D)} (h : pwp (FunOk PP W) p_i_KeysBoth (RetIs outs) (envL ins)) : FunOk PP W n_i_KeysBoth s_i_KeysBoth ins outs := fun_ok (C := k_i_KeysBoth) (cfg_ok rfl) (eq_ok rfl rfl) mixed Try.func168 (by kernel_rfl) (by kernel_rfl) c_i_KeysBoth h

def p_l_eqSigRoot : PC := .seq (.ss [.mv 2 (.t 0), .mv 3 (.t 1), .mv 4 (.c (.bool false))]) (.seq (.seq (.ss [.nop, .sub 6 2 0 3, .nop, .sub 8 3 0 3, .call 9 n_l_eqRoot s_l_eqRoot [(.t 6), (.t 8)] [], .un 10 .not (.t 9)]) (.cond (.t 10) (.seq (.ss [.mv 4 (.c (.bool false))]) (.ret [4])) (.skip))) (.seq (.seq (.ss [.nop, .sub 12 2 3 1, .nop, .sub 14 3 3 1, .call 15 n_l_eqIntS s_l_eqIntS [(.t 12), (.t 14)] [], .un 16 .not (.t 15)]) (.cond (.t 16) (.seq (.ss [.mv 4 (.c (.bool false))]) (.ret [4])) (.skip))) (.seq (.ss [.mv 4 (.c (.bool true))]) (.ret [4]))))
def k_l_eqSigRoot : Cfg := { tt := tt, sigs := sigs, mv := false, bm := [], eqt := eqL, keep := [true, true, true, true, true, false, false, false, false, false, true, false, false, false, false, false, true], n := 17, pin := [], fail := [], fz := [] }
theorem c_l_eqSigRoot : cFun k_l_eqSigRoot Try.f169 s_l_eqSigRoot = some p_l_eqSigRoot := by kernel_rfl
theorem F_l_eqSigRoot {W : Wld} {ins outs : List (List D)} (h : pwp (FunOk PP W) p_l_eqSigRoot (RetIs outs) (envL ins)) : FunOk PP W n_l_eqSigRoot s_l_eqSigRoot ins outs := fun_ok (C := k_l_eqSigRoot) (cfg_ok rfl) (eq_ok rfl rfl) mixed Try.func169 (by kernel_rfl) (by kernel_rfl) c_l_eqSigRoot h

def p_l_eqIndex : PC := .seq (.ss [.mv 2 (.t 0), .mv 3 (.t 1), .mv 4 (.c (.bool false))]) (.seq (.seq (.ss [.nop, .sub 6 2 0 1, .nop, .sub 8 3 0 1, .bin 9 .neq (.t 6) (.t 8)]) (.cond (.t 9) (.seq (.ss [.mv 4 (.c (.bool false))]) (.ret [4])) (.skip))) (.seq (.seq (.ss [.nop, .sub 11 2 1 1, .nop, .sub 13 3 1 1, .bin 14 .neq (.t 11) (.t 13)]) (.cond (.t 14) (.seq (.ss [.mv 4 (.c (.bool false))]) (.ret [4])) (.skip))) (.seq (.seq (.ss [.nop, .sub 16 2 2 1, .nop, .sub 18 3 2 1, .call 19 n_l_eqMetaS s_l_eqMetaS [(.t 16), (.t 18)] [], .un 20 .not (.t 19)]) (.cond (.t 20) (.seq (.ss [.mv 4 (.c (.bool false))]) (.ret [4])) (.skip))) (.seq (.ss [.mv 4 (.c (.bool true))]) (.ret [4])))))
def k_l_eqIndex : Cfg := { tt := tt, sigs := sigs, mv := false, bm := [], eqt := eqL, keep := [true, true, true, true, true, false, false, false, false, true, false, false, false, false, true, false, false, false, false, false, true], n := 21, pin := [], fail := [], fz := [] }
theorem c_l_eqIndex : cFun k_l_eqIndex Try.f171 s_l_eqIndex = some p_l_eqIndex := by kernel_rfl
theorem F_l_eqIndex {W : Wld} {ins outs : List (List D)} (h : pwp (FunOk PP W) p_l_eqIndex (RetIs outs) (envL ins)) : FunOk PP W n_l_eqIndex s_l_eqIndex ins outs := fun_ok (C := k_l_eqIndex) (cfg_ok rfl) (eq_ok rfl rfl) mixed Try.func171 (by kernel_rfl) (by kernel_rfl) c_l_eqIndex h

def p_l_heldMetaS : PC := .seq (.ss [.mv 4 (.c (.int .i64 0))]) (.seq (.seq (.ss [.mv 5 (.c (.int .i64 0))]) (.block 0 (.loop (.seq (.seq (.ss [.mv 6 (.t 5), .mv 7 (.t 0), .len 8 (.t 7), .bin 9 .lss (.t 6) (.t 8)]) (.cond (.t 9) (.skip) (.exit 0))) (.seq (.block 1 (.seq (.seq (.ss [.mv 12 (.t 0), .mv 13 (.t 5), .elp 14 (.t 12) (.t 13) 3, .mv 15 (.t 14), .eld 16 15 0 [.int .i64 0], .mv 17 (.t 1), .bin 18 .neq (.t 16) (.t 17)]) (.cond (.t 18) (.seq (.ss [.mv 4 (.c (.int .i64 (-1)))]) (.ret [4])) (.skip))) (.seq (.ss [.mv 19 (.t 1), .bin 20 .add (.t 19) (.c (.int .i64 1)), .mv 1 (.t 20)]) (.seq (.seq (.ss [.mv 21 (.t 0), .mv 22 (.t 5), .elp 23 (.t 21) (.t 22) 3, .mv 24 (.t 23), .eld 25 24 1 [.int .i64 0], .mv 26 (.t 1), .bin 27 .neq (.t 25) (.t 26)]) (.cond (.t 27) (.seq (.ss [.mv 4 (.c (.int .i64 (-1)))]) (.ret [4])) (.skip))) (.seq (.ss [.mv 28 (.t 1), .bin 29 .add (.t 28) (.c (.int .i64 1)), .mv 1 (.t 29)]) (.seq (.seq (.ss [.mv 30 (.t 0), .mv 31 (.t 5), .elp 32 (.t 30) (.t 31) 3, .mv 33 (.t 32), .eld 34 33 2 [.int .i64 0], .mv 35 (.t 1), .bin 36 .neq (.t 34) (.t 35)]) (.cond (.t 36) (.seq (.ss [.mv 4 (.c (.int .i64 (-1)))]) (.ret [4])) (.skip))) (.ss [.mv 37 (.t 1), .bin 38 .add (.t 37) (.c (.int .i64 1)), .mv 1 (.t 38)]))))))) (.ss [.mv 10 (.t 5), .bin 11 .add (.t 10) (.c (.int .i64 1)), .mv 5 (.t 11)])))))) (.seq (.ss [.mv 39 (.t 1), .mv 4 (.t 39)]) (.ret [4])))
def k_l_heldMetaS : Cfg := { tt := tt, sigs := sigs, mv := false, bm := [], eqt := eqL, keep := [true, true, false, false, true, true, false, false, false, true, false, false, false, false, false, false, false, false, true, false, false, false, false, false, false, false, false, true, false, false, false, false, false, false, false, false, true, false, false, false], n := 40, pin := [], fail := [], fz := [] }
theorem c_l_heldMetaS : cFun k_l_heldMetaS Try.f174 s_l_heldMetaS = some p_l_heldMetaS := by kernel_rfl
theorem F_l_heldMetaS {W : Wld} {ins outs : List (List D)} (h : pwp (FunOk PP W) p_l_heldMetaS (RetIs outs) (envL ins)) : FunOk PP W n_l_heldMetaS s_l_heldMetaS ins outs := fun_ok (C := k_l_heldMetaS) (cfg_ok rfl) (eq_ok rfl rfl) mixed Try.func174 (by kernel_rfl) (by kernel_rfl) c_l_heldMetaS h

def p_l_heldRoot : PC := .seq (.ss [.mv 2 (.t 0), .mv 4 (.c (.int .i64 0))]) (.seq (.ss [.nop, .sub 6 2 1 1, .mv 7 (.t 1), .call 8 n_l_heldIntS s_l_heldIntS [(.t 6), (.t 7)] [], .mv 1 (.t 8)]) (.seq (.seq (.ss [.mv 9 (.t 1), .bin 10 .lss (.t 9) (.c (.int .i64 0))]) (.cond (.t 10) (.seq (.ss [.mv 4 (.c (.int .i64 (-1)))]) (.ret [4])) (.skip))) (.seq (.ss [.mv 11 (.t 1), .mv 4 (.t 11)]) (.ret [4]))))
def k_l_heldRoot : Cfg := { tt := tt, sigs := sigs, mv := false, bm := [], eqt := eqL, keep := [true, true, true, false, true, false, false, false, false, false, true, false], n := 12, pin := [], fail := [], fz := [] }
theorem c_l_heldRoot : cFun k_l_heldRoot Try.f175 s_l_heldRoot = some p_l_heldRoot := by kernel_rfl
theorem F_l_heldRoot {W : Wld} {ins outs : List (List D)} (h : pwp (FunOk PP W) p_l_heldRoot (RetIs outs) (envL ins)) : FunOk PP W n_l_heldRoot s_l_heldRoot ins outs := fun_ok (C := k_l_heldRoot) (cfg_ok rfl) (eq_ok rfl rfl) mixed Try.func175 (by kernel_rfl) (by kernel_rfl) c_l_heldRoot h

def p_l_heldIndex : PC := .seq (.ss [.mv 2 (.t 0), .mv 4 (.c (.int .i64 0))]) (.seq (.ss [.nop, .sub 6 2 2 1, .mv 7 (.t 1), .call 8 n_l_heldMetaS s_l_heldMetaS [(.t 6), (.t 7)] [], .mv 1 (.t 8)]) (.seq (.seq (.ss [.mv 9 (.t 1), .bin 10 .lss (.t 9) (.c (.int .i64 0))]) (.cond (.t 10) (.seq (.ss [.mv 4 (.c (.int .i64 (-1)))]) (.ret [4])) (.skip))) (.seq (.ss [.mv 11 (.t 1), .mv 4 (.t 11)]) (.ret [4]))))
def k_l_heldIndex : Cfg := { tt := tt, sigs := sigs, mv := false, bm := [], eqt := eqL, keep := [true, true, true, false, true, false, false, false, false, false, true, false], n := 12, pin := [], fail := [], fz := [] }
theorem c_l_heldIndex : cFun k_l_heldIndex Try.f176 s_l_heldIndex = some p_l_heldIndex := by kernel_rfl
theorem F_l_heldIndex {W : Wld} {ins outs : List (List D)} (h : pwp (FunOk PP W) p_l_heldIndex (RetIs outs) (envL ins)) : FunOk PP W n_l_heldIndex s_l_heldIndex ins outs := fun_ok (C := k_l_heldIndex) (cfg_ok rfl) (eq_ok rfl rfl) mixed Try.func176 (by kernel_rfl) (by kernel_rfl) c_l_heldIndex h

def p_l_eqFile : PC := .seq (.ss [.mv 2 (.t 0), .mv 3 (.t 1), .mv 4 (.c (.bool false))]) (.seq (.seq (.ss [.nop, .sub 6 2 0 1, .nop, .sub 8 3 0 1, .bin 9 .neq (.t 6) (.t 8)]) (.cond (.t 9) (.seq (.ss [.mv 4 (.c (.bool false))]) (.ret [4])) (.skip))) (.seq (.seq (.ss [.nop, .sub 11 2 1 1, .nop, .sub 13 3 1 1, .bin 14 .neq (.t 11) (.t 13)]) (.cond (.t 14) (.seq (.ss [.mv 4 (.c (.bool false))]) (.ret [4])) (.skip))) (.seq (.ss [.mv 4 (.c (.bool true))]) (.ret [4]))))
def k_l_eqFile : Cfg := { tt := tt, sigs := sigs, mv := false, bm := [], eqt := eqL, keep := [true, true, true, true, true, false, false, false, false, true, false, false, false, false, true], n := 15, pin := [], fail := [], fz := [] }
theorem c_l_eqFile : cFun k_l_eqFile Try.f196 s_l_eqFile = some p_l_eqFile := by kernel_rfl
theorem F_l_eqFile {W : Wld} {ins outs : List (List D)} (h : pwp (FunOk PP W) p_l_eqFile (RetIs outs) (envL ins)) : FunOk PP W n_l_eqFile s_l_eqFile ins outs := fun_ok (C := k_l_eqFile) (cfg_ok rfl) (eq_ok rfl rfl) mixed Try.func196 (by kernel_rfl) (by kernel_rfl) c_l_eqFile h

def p_l_eqDep : PC := .seq (.ss [.mv 2 (.t 0), .mv 3 (.t 1), .mv 4 (.c (.bool false))]) (.seq (.seq (.ss [.nop, .sub 6 2 0 1, .nop, .sub 8 3 0 1, .bin 9 .neq (.t 6) (.t 8)]) (.cond (.t 9) (.seq (.ss [.mv 4 (.c (.bool false))]) (.ret [4])) (.skip))) (.seq (.seq (.ss [.nop, .sub 11 2 1 1, .nop, .sub 13 3 1 1, .bin 14 .neq (.t 11) (.t 13)]) (.cond (.t 14) (.seq (.ss [.mv 4 (.c (.bool false))]) (.ret [4])) (.skip))) (.seq (.ss [.mv 4 (.c (.bool true))]) (.ret [4]))))
def k_l_eqDep : Cfg := { tt := tt, sigs := sigs, mv := false, bm := [], eqt := eqL, keep := [true, true, true, true, true, false, false, false, false, true, false, false, false, false, true], n := 15, pin := [], fail := [], fz := [] }
theorem c_l_eqDep : cFun k_l_eqDep Try.f197 s_l_eqDep = some p_l_eqDep := by kernel_rfl
theorem F_l_eqDep {W : Wld} {ins outs : List (List D)} (h : pwp (FunOk PP W) p_l_eqDep (RetIs outs) (envL ins)) : FunOk PP W n_l_eqDep s_l_eqDep ins outs := fun_ok (C := k_l_eqDep) (cfg_ok rfl) (eq_ok rfl rfl) mixed Try.func197 (by kernel_rfl) (by kernel_rfl) c_l_eqDep h

def p_l_eqMetaS : PC := .seq (.ss [.mv 4 (.c (.bool false))]) (.seq (.seq (.ss [.mv 6 (.t 0), .len 7 (.t 6), .mv 8 (.t 1), .len 9 (.t 8), .bin 10 .neq (.t 7) (.t 9)]) (.cond (.t 10) (.seq (.ss [.mv 4 (.c (.bool false))]) (.ret [4])) (.skip))) (.seq (.seq (.ss [.mv 5 (.c (.int .i64 0))]) (.block 0 (.loop (.seq (.seq (.ss [.mv 11 (.t 5), .mv 12 (.t 0), .len 13 (.t 12), .bin 14 .lss (.t 11) (.t 13)]) (.cond (.t 14) (.skip) (.exit 0))) (.seq (.block 1 (.seq (.ss [.mv 17 (.t 0), .mv 18 (.t 5), .elp 19 (.t 17) (.t 18) 3, .eld 20 19 0 [.int .i64 0, .int .i64 0, .int .i64 0], .mv 21 (.t 1), .mv 22 (.t 5), .elp 23 (.t 21) (.t 22) 3, .eld 24 23 0 [.int .i64 0, .int .i64 0, .int .i64 0], .call 25 n_l_eqMeta s_l_eqMeta [(.t 20), (.t 24)] [], .un 26 .not (.t 25)]) (.cond (.t 26) (.seq (.ss [.mv 4 (.c (.bool false))]) (.ret [4])) (.skip)))) (.ss [.mv 15 (.t 5), .bin 16 .add (.t 15) (.c (.int .i64 1)), .mv 5 (.t 16)])))))) (.seq (.ss [.mv 4 (.c (.bool true))]) (.ret [4]))))
def k_l_eqMetaS : Cfg := { tt := tt, sigs := sigs, mv := false, bm := [], eqt := eqL, keep := [true, true, false, false, true, true, false, false, false, false, true, false, false, false, true, false, false, false, false, false, false, false, false, false, false, false, true], n := 27, pin := [], fail := [], fz := [] }
theorem c_l_eqMetaS : cFun k_l_eqMetaS Try.f198 s_l_eqMetaS = some p_l_eqMetaS := by kernel_rfl
theorem F_l_eqMetaS {W : Wld} {ins outs : List (List D)} (h : pwp (FunOk PP W) p_l_eqMetaS (RetIs outs) (envL ins)) : FunOk PP W n_l_eqMetaS s_l_eqMetaS ins outs := fun_ok (C := k_l_eqMetaS) (cfg_ok rfl) (eq_ok rfl rfl) mixed Try.func198 (by kernel_rfl) (by kernel_rfl) c_l_eqMetaS h

end V
end Go.Proofs.Ytgialjcichiaoaa

/-
What these functions come to, as statements; that the checker says so. Written by a program.
-/
namespace Go.Proofs.Ytgialjcichiaoaa
namespace V

def p_l_toIntS_X : PC := .seq (.ss [.mv 2 (.c (.sl []))]) (.seq (.ss [.mv 5 (.t 0), .len 6 (.t 5), .mk 7 [.int .i64 0] (.t 6) (.t 6), .mv 3 (.t 7)]) (.seq (.seq (.ss [.mv 4 (.c (.int .i64 0))]) (.block 0 (.loop (.seq (.seq (.ss [.mv 8 (.t 4), .mv 9 (.t 0), .len 10 (.t 9), .bin 11 .lss (.t 8) (.t 10)]) (.cond (.t 11) (.skip) (.exit 0))) (.seq (.block 1 (.ss [.mv 14 (.t 3), .mv 15 (.t 4), .mv 16 (.t 0), .mv 17 (.t 4), .elp 18 (.t 16) (.t 17) 1, .eld 19 18 0 [.int .i64 0], .elp 20 (.t 14) (.t 15) 1, .els 20 0 3 0 (.t 19)])) (.ss [.mv 12 (.t 4), .bin 13 .add (.t 12) (.c (.int .i64 1)), .mv 4 (.t 13)])))))) (.seq (.ss [.mv 21 (.t 3), .mv 2 (.t 21)]) (.ret [2]))))
def k_l_toIntS_X : Cfg := { tt := tt, sigs := sigsx, mv := true, bm := [], eqt := eqL, keep := [true, false, true, true, true, false, false, false, false, false, false, true, false, false, false, false, false, false, false, false, false, false], n := 22, pin := [], fz := [], al := false }
theorem c_l_toIntS_X : cFun k_l_toIntS_X Try.f52 s_l_toIntS_X = some p_l_toIntS_X := by kernel_rfl
theorem F_l_toIntS_X {W : Wld} {ins outs : List (List D)} (h : pwp (FunOk PP W) p_l_toIntS_X (RetIs outs) (envL ins)) : FunOk PP W n_l_toIntS s_l_toIntS_X ins outs := fun_ok (C := k_l_toIntS_X) (cfg_ok rfl) (eq_ok rfl rfl) mixed Try.func52 (by kernel_rfl) (by kernel_rfl) c_l_toIntS_X h

def p_l_toRoot_X : PC := .seq (.ss [.mv 1 (.t 0), .bld 2 [.int .i64 0, .sl [], .int .i64 0] []]) (.seq (.ss [.bld 3 [.int .i64 0, .sl [], .int .i64 0] []]) (.seq (.ss [.nop, .sub 5 1 0 1, .nop, .st 3 0 (.t 5)]) (.seq (.ss [.nop, .sub 8 1 1 1, .call 9 n_l_toIntS s_l_toIntS_X [(.t 8)] [], .nop, .st 3 1 (.t 9)]) (.seq (.ss [.nop, .sub 12 1 2 1, .nop, .st 3 2 (.t 12)]) (.seq (.ss [.sub 14 3 0 3, .st 2 0 (.t 14)]) (.ret [2]))))))
def k_l_toRoot_X : Cfg := { tt := tt, sigs := sigsx, mv := true, bm := [], eqt := eqL, keep := [true, true, true, true, false, false, false, false, false, false, false, false, false, false, false], n := 15, pin := [], fz := [], al := false }
theorem c_l_toRoot_X : cFun k_l_toRoot_X Try.f51 s_l_toRoot_X = some p_l_toRoot_X := by kernel_rfl
theorem F_l_toRoot_X {W : Wld} {ins outs : List (List D)} (h : pwp (FunOk PP W) p_l_toRoot_X (RetIs outs) (envL ins)) : FunOk PP W n_l_toRoot s_l_toRoot_X ins outs := fun_ok (C := k_l_toRoot_X) (cfg_ok rfl) (eq_ok rfl rfl) mixed Try.func51 (by kernel_rfl) (by kernel_rfl) c_l_toRoot_X h

def p_l_markIntS_X : PC := .seq (.ss [.mv 4 (.c (.int .i64 0))]) (.seq (.seq (.ss [.mv 5 (.c (.int .i64 0))]) (.block 0 (.loop (.seq (.seq (.ss [.mv 6 (.t 5), .mv 7 (.t 0), .len 8 (.t 7), .bin 9 .lss (.t 6) (.t 8)]) (.cond (.t 9) (.skip) (.exit 0))) (.seq (.block 1 (.seq (.ss [.mv 12 (.t 0), .mv 13 (.t 5), .mv 14 (.t 1), .elp 15 (.t 12) (.t 13) 1, .els 15 0 0 0 (.t 14)]) (.ss [.mv 16 (.t 1), .bin 17 .add (.t 16) (.c (.int .i64 1)), .mv 1 (.t 17)]))) (.ss [.mv 10 (.t 5), .bin 11 .add (.t 10) (.c (.int .i64 1)), .mv 5 (.t 11)])))))) (.seq (.ss [.mv 18 (.t 1), .mv 4 (.t 18)]) (.ret [4, 0])))
def k_l_markIntS_X : Cfg := { tt := tt, sigs := sigsx, mv := true, bm := [], eqt := eqL, keep := [true, true, false, false, true, true, false, false, false, true, false, false, false, false, false, false, false, false, false], n := 19, pin := [0], fz := [], al := false }
theorem c_l_markIntS_X : cFunIo k_l_markIntS_X Try.f58 s_l_markIntS_X = some p_l_markIntS_X := by kernel_rfl
theorem F_l_markIntS_X {W : Wld} {ins outs : List (List D)} (h : pwp (FunOk PP W) p_l_markIntS_X (RetIs outs) (envL ins)) : FunOk PP W n_l_markIntS s_l_markIntS_X ins outs := fun_io (C := k_l_markIntS_X) (cfg_ok rfl) (eq_ok rfl rfl) mixed Try.func58 (by kernel_rfl) c_l_markIntS_X h

def p_l_markRoot_X : PC := .seq (.ss [.mv 2 (.t 0), .mv 4 (.c (.int .i64 0))]) (.seq (.ss [.nop, .sub 6 2 1 1, .mv 7 (.t 1), .ioc 8 n_l_markIntS s_l_markIntS_X (.t 6) (.t 7) 0 1 none, .mv 1 (.t 8)]) (.seq (.ss [.mv 9 (.t 1), .mv 4 (.t 9)]) (.ret [4, 0])))
def k_l_markRoot_X : Cfg := { tt := tt, sigs := sigsx, mv := true, bm := [], eqt := eqL, keep := [true, true, true, false, true, false, false, false, false, false], n := 10, pin := [0], fz := [], al := true }
theorem c_l_markRoot_X : cFunIo k_l_markRoot_X Try.f57 s_l_markRoot_X = some p_l_markRoot_X := by kernel_rfl
theorem F_l_markRoot_X {W : Wld} {ins outs : List (List D)} (h : pwp (FunOk PP W) p_l_markRoot_X (RetIs outs) (envL ins)) : FunOk PP W n_l_markRoot s_l_markRoot_X ins outs := fun_io (C := k_l_markRoot_X) (cfg_ok rfl) (eq_ok rfl rfl) mixed Try.func57 (by kernel_rfl) c_l_markRoot_X h

def p_l_markFileS_X : PC := .seq (.ss [.mv 4 (.c (.int .i64 0))]) (.seq (.seq (.ss [.mv 5 (.c (.int .i64 0))]) (.block 0 (.loop (.seq (.seq (.ss [.mv 6 (.t 5), .mv 7 (.t 0), .len 8 (.t 7), .bin 9 .lss (.t 6) (.t 8)]) (.cond (.t 9) (.skip) (.exit 0))) (.seq (.block 1 (.seq (.ss [.mv 12 (.t 0), .mv 13 (.t 5), .mv 14 (.t 1), .elp 15 (.t 12) (.t 13) 2, .mv 16 (.t 15), .els 16 0 0 0 (.t 14)]) (.seq (.ss [.mv 17 (.t 1), .bin 18 .add (.t 17) (.c (.int .i64 1)), .mv 1 (.t 18)]) (.seq (.ss [.mv 19 (.t 0), .mv 20 (.t 5), .mv 21 (.t 1), .elp 22 (.t 19) (.t 20) 2, .mv 23 (.t 22), .els 23 1 0 0 (.t 21)]) (.ss [.mv 24 (.t 1), .bin 25 .add (.t 24) (.c (.int .i64 1)), .mv 1 (.t 25)]))))) (.ss [.mv 10 (.t 5), .bin 11 .add (.t 10) (.c (.int .i64 1)), .mv 5 (.t 11)])))))) (.seq (.ss [.mv 26 (.t 1), .mv 4 (.t 26)]) (.ret [4, 0])))
def k_l_markFileS_X : Cfg := { tt := tt, sigs := sigsx, mv := true, bm := [], eqt := eqL, keep := [true, true, false, false, true, true, false, false, false, true, false, false, false, false, false, false, false, false, false, false, false, false, false, false, false, false, false], n := 27, pin := [0], fz := [], al := false }
theorem c_l_markFileS_X : cFunIo k_l_markFileS_X Try.f109 s_l_markFileS_X = some p_l_markFileS_X := by kernel_rfl
theorem F_l_markFileS_X {W : Wld} {ins outs : List (List D)} (h : pwp (FunOk PP W) p_l_markFileS_X (RetIs outs) (envL ins)) : FunOk PP W n_l_markFileS s_l_markFileS_X ins outs := fun_io (C := k_l_markFileS_X) (cfg_ok rfl) (eq_ok rfl rfl) mixed Try.func109 (by kernel_rfl) c_l_markFileS_X h

def p_l_markDepS_X : PC := .seq (.ss [.mv 4 (.c (.int .i64 0))]) (.seq (.seq (.ss [.mv 5 (.c (.int .i64 0))]) (.block 0 (.loop (.seq (.seq (.ss [.mv 6 (.t 5), .mv 7 (.t 0), .len 8 (.t 7), .bin 9 .lss (.t 6) (.t 8)]) (.cond (.t 9) (.skip) (.exit 0))) (.seq (.block 1 (.seq (.ss [.mv 12 (.t 0), .mv 13 (.t 5), .mv 14 (.t 1), .elp 15 (.t 12) (.t 13) 2, .mv 16 (.t 15), .els 16 0 0 0 (.t 14)]) (.seq (.ss [.mv 17 (.t 1), .bin 18 .add (.t 17) (.c (.int .i64 1)), .mv 1 (.t 18)]) (.seq (.ss [.mv 19 (.t 0), .mv 20 (.t 5), .mv 21 (.t 1), .elp 22 (.t 19) (.t 20) 2, .mv 23 (.t 22), .els 23 1 0 0 (.t 21)]) (.ss [.mv 24 (.t 1), .bin 25 .add (.t 24) (.c (.int .i64 1)), .mv 1 (.t 25)]))))) (.ss [.mv 10 (.t 5), .bin 11 .add (.t 10) (.c (.int .i64 1)), .mv 5 (.t 11)])))))) (.seq (.ss [.mv 26 (.t 1), .mv 4 (.t 26)]) (.ret [4, 0])))
def k_l_markDepS_X : Cfg := { tt := tt, sigs := sigsx, mv := true, bm := [], eqt := eqL, keep := [true, true, false, false, true, true, false, false, false, true, false, false, false, false, false, false, false, false, false, false, false, false, false, false, false, false, false], n := 27, pin := [0], fz := [], al := false }
theorem c_l_markDepS_X : cFunIo k_l_markDepS_X Try.f110 s_l_markDepS_X = some p_l_markDepS_X := by kernel_rfl
theorem F_l_markDepS_X {W : Wld} {ins outs : List (List D)} (h : pwp (FunOk PP W) p_l_markDepS_X (RetIs outs) (envL ins)) : FunOk PP W n_l_markDepS s_l_markDepS_X ins outs := fun_io (C := k_l_markDepS_X) (cfg_ok rfl) (eq_ok rfl rfl) mixed Try.func110 (by kernel_rfl) c_l_markDepS_X h

def p_l_markPkgS_X : PC := .seq (.ss [.mv 4 (.c (.int .i64 0))]) (.seq (.seq (.ss [.mv 5 (.c (.int .i64 0))]) (.block 0 (.loop (.seq (.seq (.ss [.mv 6 (.t 5), .mv 7 (.t 0), .len 8 (.t 7), .bin 9 .lss (.t 6) (.t 8)]) (.cond (.t 9) (.skip) (.exit 0))) (.seq (.block 1 (.seq (.ss [.mv 12 (.t 0), .mv 13 (.t 5), .mv 14 (.t 1), .elp 15 (.t 12) (.t 13) 4, .mv 16 (.t 15), .els 16 0 0 0 (.t 14)]) (.seq (.ss [.mv 17 (.t 1), .bin 18 .add (.t 17) (.c (.int .i64 1)), .mv 1 (.t 18)]) (.seq (.ss [.mv 19 (.t 0), .mv 20 (.t 5), .mv 21 (.t 1), .elp 22 (.t 19) (.t 20) 4, .mv 23 (.t 22), .els 23 1 0 0 (.t 21)]) (.seq (.ss [.mv 24 (.t 1), .bin 25 .add (.t 24) (.c (.int .i64 1)), .mv 1 (.t 25)]) (.seq (.ss [.mv 26 (.t 0), .mv 27 (.t 5), .elp 28 (.t 26) (.t 27) 4, .mv 29 (.t 28), .eld 30 29 2 [.sl []], .mv 31 (.t 1), .ioc 32 n_l_markFileS s_l_markFileS_X (.t 30) (.t 31) 0 0 (some (29, 2)), .mv 1 (.t 32)]) (.ss [.mv 33 (.t 0), .mv 34 (.t 5), .elp 35 (.t 33) (.t 34) 4, .mv 36 (.t 35), .eld 37 36 3 [.sl []], .mv 38 (.t 1), .ioc 39 n_l_markDepS s_l_markDepS_X (.t 37) (.t 38) 0 0 (some (36, 3)), .mv 1 (.t 39)]))))))) (.ss [.mv 10 (.t 5), .bin 11 .add (.t 10) (.c (.int .i64 1)), .mv 5 (.t 11)])))))) (.seq (.ss [.mv 40 (.t 1), .mv 4 (.t 40)]) (.ret [4, 0])))
def k_l_markPkgS_X : Cfg := { tt := tt, sigs := sigsx, mv := true, bm := [], eqt := eqL, keep := [true, true, false, false, true, true, false, false, false, true, false, false, false, false, false, false, false, false, false, false, false, false, false, false, false, false, false, false, false, false, false, false, false, false, false, false, false, false, false, false, false], n := 41, pin := [0], fz := [], al := false }
theorem c_l_markPkgS_X : cFunIo k_l_markPkgS_X Try.f42 s_l_markPkgS_X = some p_l_markPkgS_X := by kernel_rfl
theorem F_l_markPkgS_X {W : Wld} {ins outs : List (List D)} (h : pwp (FunOk PP W) p_l_markPkgS_X (RetIs outs) (envL ins)) : FunOk PP W n_l_markPkgS s_l_markPkgS_X ins outs := fun_io (C := k_l_markPkgS_X) (cfg_ok rfl) (eq_ok rfl rfl) mixed Try.func42 (by kernel_rfl) c_l_markPkgS_X h

def p_l_markDisk_X : PC := .seq (.ss [.mv 2 (.t 0), .mv 4 (.c (.int .i64 0))]) (.seq (.ss [.nop, .sub 6 2 0 1, .mv 7 (.t 1), .ioc 8 n_l_markPkgS s_l_markPkgS_X (.t 6) (.t 7) 0 0 none, .mv 1 (.t 8)]) (.seq (.ss [.nop, .sub 10 2 1 1, .mv 11 (.t 1), .ioc 12 n_l_markIntS s_l_markIntS_X (.t 10) (.t 11) 0 1 none, .mv 1 (.t 12)]) (.seq (.ss [.nop, .sub 14 2 3 1, .mv 15 (.t 1), .ioc 16 n_l_markPkgS s_l_markPkgS_X (.t 14) (.t 15) 0 3 none, .mv 1 (.t 16)]) (.seq (.ss [.mv 17 (.t 1), .mv 4 (.t 17)]) (.ret [4, 0])))))
def k_l_markDisk_X : Cfg := { tt := tt, sigs := sigsx, mv := true, bm := [], eqt := eqL, keep := [true, true, true, false, true, false, false, false, false, false, false, false, false, false, false, false, false, false], n := 18, pin := [0], fz := [], al := true }
theorem c_l_markDisk_X : cFunIo k_l_markDisk_X Try.f28 s_l_markDisk_X = some p_l_markDisk_X := by kernel_rfl
theorem F_l_markDisk_X {W : Wld} {ins outs : List (List D)} (h : pwp (FunOk PP W) p_l_markDisk_X (RetIs outs) (envL ins)) : FunOk PP W n_l_markDisk s_l_markDisk_X ins outs := fun_io (C := k_l_markDisk_X) (cfg_ok rfl) (eq_ok rfl rfl) mixed Try.func28 (by kernel_rfl) c_l_markDisk_X h

def p_l_FnExactWorldNew_X : PC := .seq (.ss [.mv 2 (.t 0), .mv 4 (.c (.bool false))]) (.seq (.seq (.ss [.mv 17 (.t 1), .len 18 (.t 17), .bin 19 .gtr (.t 18) (.c (.int .i64 1048576))]) (.cond (.t 19) (.seq (.ss [.mv 4 (.c (.bool true))]) (.ret [4])) (.skip))) (.seq (.ss [.mv 5 (.c (.int .i64 1048576))]) (.seq (.ss [.sub 20 2 0 3, .mv 21 (.t 5), .call 22 n_l_szRoot s_l_szRoot [(.t 20), (.t 21)] [], .mv 5 (.t 22)]) (.seq (.seq (.ss [.mv 23 (.t 5), .bin 24 .lss (.t 23) (.c (.int .i64 0))]) (.cond (.t 24) (.seq (.ss [.mv 4 (.c (.bool true))]) (.ret [4])) (.skip))) (.seq (.ss [.sub 26 2 0 3, .call 27 n_l_toRoot s_l_toRoot_X [(.t 26)] [], .mv 28 (.t 1), .call 29 n_l_toIntS s_l_toIntS_X [(.t 28)] [], .call 30 n_s_WorldNew s_s_WorldNew [(.t 27), (.t 29)] [], .mv 25 (.t 30), .ext 31 25 0 17, .ext 32 25 17 1, .bld 6 [.int .i64 0, .sl [], .sl [], .sl [], .sl [], .int .i64 0, .sl [], .int .i64 0, .bool false, .int .i64 0, .int .i64 0, .sl [], .sl [], .sl [], .sl [], .bool false, .sl []] [], .st 6 0 (.t 31), .mv 7 (.t 32)]) (.seq (.ss [.sub 33 2 0 3, .call 34 n_l_toRoot s_l_toRoot_X [(.t 33)] [], .bld 8 [.int .i64 0, .sl [], .int .i64 0] [], .st 8 0 (.t 34)]) (.seq (.ss [.mv 35 (.t 1), .call 36 n_l_toIntS s_l_toIntS_X [(.t 35)] [], .mv 9 (.t 36)]) (.seq (.ss [.sub 38 8 0 3, .mv 39 (.t 9), .call 40 n_i_WorldNew s_i_WorldNew_X [(.t 38), (.t 39)] [], .mv 37 (.t 40), .ext 41 37 0 17, .ext 42 37 17 1, .bld 10 [.int .i64 0, .sl [], .sl [], .sl [], .sl [], .int .i64 0, .sl [], .int .i64 0, .bool false, .int .i64 0, .int .i64 0, .sl [], .sl [], .sl [], .sl [], .bool false, .sl []] [], .st 10 0 (.t 41), .mv 11 (.t 42)]) (.seq (.seq (.ss [.sub 43 10 0 17, .sub 44 6 0 17, .call 45 n_l_eqWorld s_l_eqWorld [(.t 43), (.t 44)] [], .un 46 .not (.t 45), .mv 47 (.t 46), .g 47 false 48 (.mv 48 (.t 11)), .g 47 false 49 (.mv 49 (.t 7)), .g 47 false 50 (.beq 50 true (.t 48) (.t 49)), .pick 51 (.t 47) (.c (.bool true)) (.t 50)]) (.cond (.t 51) (.seq (.ss [.mv 4 (.c (.bool false))]) (.ret [4])) (.skip))) (.seq (.seq (.ss [.sub 52 8 0 3, .sub 53 2 0 3, .call 54 n_l_toRoot s_l_toRoot_X [(.t 53)] [], .call 55 n_l_eqRoot s_l_eqRoot [(.t 52), (.t 54)] [], .un 56 .not (.t 55)]) (.cond (.t 56) (.seq (.ss [.mv 4 (.c (.bool false))]) (.ret [4])) (.skip))) (.seq (.seq (.ss [.mv 57 (.t 9), .mv 58 (.t 1), .call 59 n_l_toIntS s_l_toIntS_X [(.t 58)] [], .call 60 n_l_eqIntS s_l_eqIntS [(.t 57), (.t 59)] [], .un 61 .not (.t 60)]) (.cond (.t 61) (.seq (.ss [.mv 4 (.c (.bool false))]) (.ret [4])) (.skip))) (.seq (.ss [.mv 12 (.c (.int .i64 1))]) (.seq (.ss [.sub 62 8 0 3, .mv 63 (.t 12), .ioc 64 n_l_markRoot s_l_markRoot_X (.t 62) (.t 63) 8 0 none, .mv 12 (.t 64)]) (.seq (.ss [.mv 65 (.t 9), .mv 66 (.t 12), .ioc 67 n_l_markIntS s_l_markIntS_X (.t 65) (.t 66) 9 0 none, .mv 12 (.t 67)]) (.seq (.seq (.ss [.mv 68 (.t 12), .bin 69 .lss (.t 68) (.c (.int .i64 0)), .mv 70 (.t 69), .g 70 false 71 (.sub 71 10 0 17), .g 70 false 72 (.sub 72 6 0 17), .g 70 false 73 (.call 73 n_l_eqWorld s_l_eqWorld [(.t 71), (.t 72)] []), .g 70 false 74 (.un 74 .not (.t 73)), .pick 75 (.t 70) (.c (.bool true)) (.t 74), .mv 76 (.t 75), .g 76 false 77 (.mv 77 (.t 11)), .g 76 false 78 (.mv 78 (.t 7)), .g 76 false 79 (.beq 79 true (.t 77) (.t 78)), .pick 80 (.t 76) (.c (.bool true)) (.t 79)]) (.cond (.t 80) (.seq (.ss [.mv 4 (.c (.bool false))]) (.ret [4])) (.skip))) (.seq (.ss [.mv 13 (.c (.int .i64 1))]) (.seq (.ss [.sub 81 10 0 17, .mv 82 (.t 13), .ioc 83 n_l_markWorld s_l_markWorld_X (.t 81) (.t 82) 10 0 none, .mv 13 (.t 83)]) (.seq (.ss [.mv 14 (.c (.int .i64 1))]) (.seq (.ss [.sub 84 10 0 17, .mv 85 (.t 14), .call 86 n_l_heldWorld s_l_heldWorld [(.t 84), (.t 85)] [], .mv 14 (.t 86)]) (.seq (.seq (.ss [.mv 87 (.t 14), .bin 88 .lss (.t 87) (.c (.int .i64 0))]) (.cond (.t 88) (.seq (.ss [.mv 4 (.c (.bool false))]) (.ret [4])) (.skip))) (.seq (.seq (.ss [.mv 89 (.t 14), .mv 90 (.t 13), .bin 91 .neq (.t 89) (.t 90)]) (.cond (.t 91) (.seq (.ss [.mv 4 (.c (.bool false))]) (.ret [4])) (.skip))) (.seq (.ss [.sub 93 2 0 3, .call 94 n_l_toRoot s_l_toRoot_X [(.t 93)] [], .mv 95 (.t 1), .call 96 n_l_toIntS s_l_toIntS_X [(.t 95)] [], .call 97 n_i_WorldNew s_i_WorldNew_X [(.t 94), (.t 96)] [], .mv 92 (.t 97), .ext 98 92 0 17, .ext 99 92 17 1, .bld 15 [.int .i64 0, .sl [], .sl [], .sl [], .sl [], .int .i64 0, .sl [], .int .i64 0, .bool false, .int .i64 0, .int .i64 0, .sl [], .sl [], .sl [], .sl [], .bool false, .sl []] [], .st 15 0 (.t 98), .mv 16 (.t 99)]) (.seq (.seq (.ss [.sub 100 15 0 17, .sub 101 6 0 17, .call 102 n_l_eqWorld s_l_eqWorld [(.t 100), (.t 101)] [], .un 103 .not (.t 102), .mv 104 (.t 103), .g 104 false 105 (.mv 105 (.t 16)), .g 104 false 106 (.mv 106 (.t 7)), .g 104 false 107 (.beq 107 true (.t 105) (.t 106)), .pick 108 (.t 104) (.c (.bool true)) (.t 107)]) (.cond (.t 108) (.seq (.ss [.mv 4 (.c (.bool false))]) (.ret [4])) (.skip))) (.seq (.ss [.mv 14 (.c (.int .i64 1))]) (.seq (.ss [.sub 109 10 0 17, .mv 110 (.t 14), .call 111 n_l_heldWorld s_l_heldWorld [(.t 109), (.t 110)] [], .mv 14 (.t 111)]) (.seq (.seq (.ss [.mv 112 (.t 14), .bin 113 .lss (.t 112) (.c (.int .i64 0))]) (.cond (.t 113) (.seq (.ss [.mv 4 (.c (.bool false))]) (.ret [4])) (.skip))) (.seq (.seq (.ss [.mv 114 (.t 14), .mv 115 (.t 13), .bin 116 .neq (.t 114) (.t 115)]) (.cond (.t 116) (.seq (.ss [.mv 4 (.c (.bool false))]) (.ret [4])) (.skip))) (.seq (.ss [.mv 4 (.c (.bool true))]) (.ret [4])))))))))))))))))))))))))))))
def k_l_FnExactWorldNew_X : Cfg := { tt := tt, sigs := sigsx, mv := true, bm := [], eqt := eqL, keep := [true, true, true, false, true, true, true, true, true, true, true, true, true, true, true, true, true, false, false, true, false, false, false, false, true, false, false, false, false, false, false, false, false, false, false, false, false, false, false, false, false, false, false, false, false, false, false, false, false, false, false, true, false, false, false, false, true, false, false, false, false, true, false, false, false, false, false, false, false, false, false, false, false, false, false, false, false, false, false, false, true, false, false, false, false, false, false, false, true, false, false, true, false, false, false, false, false, false, false, false, false, false, false, false, false, false, false, false, true, false, false, false, false, true, false, false, true], n := 117, pin := [], fz := [], al := false }
theorem c_l_FnExactWorldNew_X : cFun k_l_FnExactWorldNew_X Try.f10 s_l_FnExactWorldNew_X = some p_l_FnExactWorldNew_X := by kernel_rfl
theorem F_l_FnExactWorldNew_X {W : Wld} {ins outs : List (List D)} (h : pwp (FunOk PP W) p_l_FnExactWorldNew_X (RetIs outs) (envL ins)) : FunOk PP W n_l_FnExactWorldNew s_l_FnExactWorldNew_X ins outs := fun_ok (C := k_l_FnExactWorldNew_X) (cfg_ok rfl) (eq_ok rfl rfl) mixed Try.func10 (by kernel_rfl) (by kernel_rfl) c_l_FnExactWorldNew_X h

def p_i_DiskNew_X : PC := .seq (.ss [.bld 0 [.sl [], .sl [], .bool false, .sl []] []]) (.seq (.ss [.lit 1 1 [.int .i64 0] [(0, (.c (.int .i64 (-1))))], .call 2 n_sl_Repeat_int s_sl_Repeat_int_X [(.t 1), (.c (.int .i64 6))] [], .bld 3 [.sl [], .sl [], .bool false, .sl []] [(1, (.t 2))], .st 0 0 (.t 3)]) (.ret [0]))
def k_i_DiskNew_X : Cfg := { tt := tt, sigs := sigsx, mv := true, bm := [], eqt := eqL, keep := [true, false, false, false], n := 4, pin := [], fz := [], al := false }
theorem c_i_DiskNew_X : cFun k_i_DiskNew_X Try.f36 s_i_DiskNew_X = some p_i_DiskNew_X := by kernel_rfl
theorem F_i_DiskNew_X {W : Wld} {ins outs : List (List D)} (h : pwp (FunOk PP W) p_i_DiskNew_X (RetIs outs) (envL ins)) : FunOk PP W n_i_DiskNew s_i_DiskNew_X ins outs := fun_ok (C := k_i_DiskNew_X) (cfg_ok rfl) (eq_ok rfl rfl) mixed Try.func36 (by kernel_rfl) (by kernel_rfl) c_i_DiskNew_X h

def p_i_Root_copied_X : PC := .seq (.ss [.mv 1 (.t 0), .bld 2 [.int .i64 0, .sl [], .int .i64 0] []]) (.seq (.ss [.nop, .sub 4 1 0 1, .nop, .sub 6 1 1 1, .call 7 n_sl_Clone_int s_sl_Clone_int_X [(.t 6)] [], .nop, .sub 9 1 2 1, .bld 10 [.int .i64 0, .sl [], .int .i64 0] [(0, (.t 4)), (1, (.t 7)), (2, (.t 9))], .st 2 0 (.t 10)]) (.ret [2]))
def k_i_Root_copied_X : Cfg := { tt := tt, sigs := sigsx, mv := true, bm := [], eqt := eqL, keep := [true, true, true, false, false, false, false, false, false, false, false], n := 11, pin := [], fz := [], al := false }
theorem c_i_Root_copied_X : cFun k_i_Root_copied_X Try.f124 s_i_Root_copied_X = some p_i_Root_copied_X := by kernel_rfl
theorem F_i_Root_copied_X {W : Wld} {ins outs : List (List D)} (h : pwp (FunOk PP W) p_i_Root_copied_X (RetIs outs) (envL ins)) : FunOk PP W n_i_Root_copied s_i_Root_copied_X ins outs := fun_ok (C := k_i_Root_copied_X) (cfg_ok rfl) (eq_ok rfl rfl) mixed Try.func124 (by kernel_rfl) (by kernel_rfl) c_i_Root_copied_X h

def p_i_TrustNew_X : PC := .seq (.ss [.mv 1 (.t 0), .bld 2 [.int .i64 0, .sl [], .int .i64 0, .bool false, .int .i64 0, .int .i64 0, .sl []] [], .mv 3 (.c (.bool false))]) (.seq (.seq (.ss [.sub 4 1 0 3, .call 5 n_i_RootOk s_i_RootOk [(.t 4)] [], .un 6 .not (.t 5)]) (.cond (.t 6) (.seq (.ss [.bld 7 [.int .i64 0, .sl [], .int .i64 0, .bool false, .int .i64 0, .int .i64 0, .sl []] [], .st 2 0 (.t 7), .mv 3 (.c (.bool false))]) (.ret [2, 3])) (.skip))) (.seq (.ss [.sub 8 1 0 3, .call 9 n_i_Root_copied s_i_Root_copied_X [(.t 8)] [], .bld 10 [.int .i64 0, .sl [], .int .i64 0, .bool false, .int .i64 0, .int .i64 0, .sl []] [(0, (.t 9))], .st 2 0 (.t 10), .mv 3 (.c (.bool true))]) (.ret [2, 3])))
def k_i_TrustNew_X : Cfg := { tt := tt, sigs := sigsx, mv := true, bm := [], eqt := eqL, keep := [true, true, true, true, false, false, true, false, false, false, false], n := 11, pin := [], fz := [], al := false }
theorem c_i_TrustNew_X : cFun k_i_TrustNew_X Try.f123 s_i_TrustNew_X = some p_i_TrustNew_X := by kernel_rfl
theorem F_i_TrustNew_X {W : Wld} {ins outs : List (List D)} (h : pwp (FunOk PP W) p_i_TrustNew_X (RetIs outs) (envL ins)) : FunOk PP W n_i_TrustNew s_i_TrustNew_X ins outs := fun_ok (C := k_i_TrustNew_X) (cfg_ok rfl) (eq_ok rfl rfl) mixed Try.func123 (by kernel_rfl) (by kernel_rfl) c_i_TrustNew_X h

def p_i_WorldNew_X : PC := .seq (.ss [.mv 2 (.t 0), .bld 4 [.int .i64 0, .sl [], .sl [], .sl [], .sl [], .int .i64 0, .sl [], .int .i64 0, .bool false, .int .i64 0, .int .i64 0, .sl [], .sl [], .sl [], .sl [], .bool false, .sl []] [], .mv 5 (.c (.bool false))]) (.seq (.seq (.ss [.sub 9 2 0 3, .call 10 n_i_RootOk s_i_RootOk [(.t 9)] [], .un 11 .not (.t 10), .mv 12 (.t 11), .g 12 false 13 (.nop), .g 12 false 14 (.sub 14 2 0 1), .g 12 false 15 (.bin 15 .neq (.t 14) (.c (.int .i64 1))), .pick 16 (.t 12) (.c (.bool true)) (.t 15), .mv 17 (.t 16), .g 17 false 18 (.mv 18 (.t 1)), .g 17 false 19 (.call 19 n_i_KeysOk s_i_KeysOk [(.t 18)] []), .g 17 false 20 (.un 20 .not (.t 19)), .pick 21 (.t 17) (.c (.bool true)) (.t 20), .mv 22 (.t 21), .g 22 false 23 (.sub 23 2 0 3), .g 22 false 24 (.mv 24 (.t 1)), .g 22 false 25 (.call 25 n_i_Root_safe s_i_Root_safe [(.t 23), (.t 24)] []), .g 22 false 26 (.un 26 .not (.t 25)), .pick 27 (.t 22) (.c (.bool true)) (.t 26)]) (.cond (.t 27) (.seq (.ss [.bld 28 [.int .i64 0, .sl [], .sl [], .sl [], .sl [], .int .i64 0, .sl [], .int .i64 0, .bool false, .int .i64 0, .int .i64 0, .sl [], .sl [], .sl [], .sl [], .bool false, .sl []] [], .st 4 0 (.t 28), .mv 5 (.c (.bool false))]) (.ret [4, 5])) (.skip))) (.seq (.ss [.sub 30 2 0 3, .call 31 n_i_TrustNew s_i_TrustNew_X [(.t 30)] [], .mv 29 (.t 31), .ext 32 29 0 7, .ext 33 29 7 1, .bld 6 [.int .i64 0, .sl [], .int .i64 0, .bool false, .int .i64 0, .int .i64 0, .sl []] [], .st 6 0 (.t 32), .mv 7 (.t 33)]) (.seq (.ss [.sub 34 2 0 3, .call 35 n_i_Root_copied s_i_Root_copied_X [(.t 34)] [], .nop, .sub 37 2 1 1, .call 38 n_sl_Clone_int s_sl_Clone_int_X [(.t 37)] [], .bld 39 [.int .i64 0, .sl [], .int .i64 0, .sl []] [(0, (.t 35)), (3, (.t 38))], .bld 8 [.int .i64 0, .sl [], .int .i64 0, .sl []] [], .st 8 0 (.t 39)]) (.seq (.ss [.sub 40 8 0 4, .lit 41 1 [.int .i64 0, .sl [], .int .i64 0, .sl []] [(0, (.t 40))], .mv 42 (.t 1), .call 43 n_sl_Clone_int s_sl_Clone_int_X [(.t 42)] [], .sub 44 6 0 7, .call 45 n_i_DiskNew s_i_DiskNew_X [] [], .bld 46 [.int .i64 0, .sl [], .sl [], .sl [], .sl [], .int .i64 0, .sl [], .int .i64 0, .bool false, .int .i64 0, .int .i64 0, .sl [], .sl [], .sl [], .sl [], .bool false, .sl []] [(1, (.t 41)), (4, (.t 43)), (5, (.t 44)), (13, (.t 45))], .st 4 0 (.t 46), .mv 5 (.c (.bool true))]) (.ret [4, 5])))))
def k_i_WorldNew_X : Cfg := { tt := tt, sigs := sigsx, mv := true, bm := [], eqt := eqL, keep := [true, true, true, false, true, true, true, false, true, false, false, false, false, false, false, false, false, false, false, false, false, false, false, false, false, false, false, true, false, false, false, false, false, false, false, false, false, false, false, false, false, false, false, false, false, false, false], n := 47, pin := [], fz := [], al := false }
theorem c_i_WorldNew_X : cFun k_i_WorldNew_X Try.f53 s_i_WorldNew_X = some p_i_WorldNew_X := by kernel_rfl
theorem F_i_WorldNew_X {W : Wld} {ins outs : List (List D)} (h : pwp (FunOk PP W) p_i_WorldNew_X (RetIs outs) (envL ins)) : FunOk PP W n_i_WorldNew s_i_WorldNew_X ins outs := fun_ok (C := k_i_WorldNew_X) (cfg_ok rfl) (eq_ok rfl rfl) mixed Try.func53 (by kernel_rfl) (by kernel_rfl) c_i_WorldNew_X h

def p_l_markWorld_X : PC := .seq (.ss [.mv 2 (.t 0), .mv 4 (.c (.int .i64 0))]) (.seq (.ss [.nop, .sub 6 2 1 1, .mv 7 (.t 1), .ioc 8 n_l_markSigRootS s_l_markSigRootS_X (.t 6) (.t 7) 0 1 none, .mv 1 (.t 8)]) (.seq (.ss [.nop, .sub 10 2 2 1, .mv 11 (.t 1), .ioc 12 n_l_markSigIndexS s_l_markSigIndexS_X (.t 10) (.t 11) 0 2 none, .mv 1 (.t 12)]) (.seq (.ss [.nop, .sub 14 2 3 1, .mv 15 (.t 1), .ioc 16 n_l_markPkgS s_l_markPkgS_X (.t 14) (.t 15) 0 3 none, .mv 1 (.t 16)]) (.seq (.ss [.nop, .sub 18 2 4 1, .mv 19 (.t 1), .ioc 20 n_l_markIntS s_l_markIntS_X (.t 18) (.t 19) 0 4 none, .mv 1 (.t 20)]) (.seq (.ss [.nop, .sub 22 2 5 7, .mv 23 (.t 1), .ioc 24 n_l_markTrust s_l_markTrust_X (.t 22) (.t 23) 0 5 none, .mv 1 (.t 24)]) (.seq (.ss [.nop, .sub 26 2 12 1, .mv 27 (.t 1), .ioc 28 n_l_markPkgS s_l_markPkgS_X (.t 26) (.t 27) 0 12 none, .mv 1 (.t 28)]) (.seq (.ss [.nop, .sub 30 2 13 4, .mv 31 (.t 1), .ioc 32 n_l_markDisk s_l_markDisk_X (.t 30) (.t 31) 0 13 none, .mv 1 (.t 32)]) (.seq (.ss [.mv 33 (.t 1), .mv 4 (.t 33)]) (.ret [4, 0])))))))))
def k_l_markWorld_X : Cfg := { tt := tt, sigs := sigsx, mv := true, bm := [], eqt := eqL, keep := [true, true, true, false, true, false, false, false, false, false, false, false, false, false, false, false, false, false, false, false, false, false, false, false, false, false, false, false, false, false, false, false, false, false], n := 34, pin := [0], fz := [], al := true }
theorem c_l_markWorld_X : cFunIo k_l_markWorld_X Try.f59 s_l_markWorld_X = some p_l_markWorld_X := by kernel_rfl
theorem F_l_markWorld_X {W : Wld} {ins outs : List (List D)} (h : pwp (FunOk PP W) p_l_markWorld_X (RetIs outs) (envL ins)) : FunOk PP W n_l_markWorld s_l_markWorld_X ins outs := fun_io (C := k_l_markWorld_X) (cfg_ok rfl) (eq_ok rfl rfl) mixed Try.func59 (by kernel_rfl) c_l_markWorld_X h

end V
end Go.Proofs.Ytgialjcichiaoaa

/-
What these functions come to, as statements; that the checker says so. Written by a program.
-/
namespace Go.Proofs.Ytgialjcichiaoaa
namespace V

def p_l_markTrust_X : PC := .seq (.ss [.mv 2 (.t 0), .mv 4 (.c (.int .i64 0))]) (.seq (.ss [.nop, .sub 6 2 0 3, .mv 7 (.t 1), .ioc 8 n_l_markRoot s_l_markRoot_X (.t 6) (.t 7) 0 0 none, .mv 1 (.t 8)]) (.seq (.ss [.nop, .sub 10 2 4 3, .mv 11 (.t 1), .ioc 12 n_l_markIndex s_l_markIndex_X (.t 10) (.t 11) 0 4 none, .mv 1 (.t 12)]) (.seq (.ss [.mv 13 (.t 1), .mv 4 (.t 13)]) (.ret [4, 0]))))
def k_l_markTrust_X : Cfg := { tt := tt, sigs := sigsx, mv := true, bm := [], eqt := eqL, keep := [true, true, true, false, true, false, false, false, false, false, false, false, false, false], n := 14, pin := [0], fz := [], al := true }
theorem c_l_markTrust_X : cFunIo k_l_markTrust_X Try.f131 s_l_markTrust_X = some p_l_markTrust_X := by kernel_rfl
theorem F_l_markTrust_X {W : Wld} {ins outs : List (List D)} (h : pwp (FunOk PP W) p_l_markTrust_X (RetIs outs) (envL ins)) : FunOk PP W n_l_markTrust s_l_markTrust_X ins outs := fun_io (C := k_l_markTrust_X) (cfg_ok rfl) (eq_ok rfl rfl) mixed Try.func131 (by kernel_rfl) c_l_markTrust_X h

def p_l_markIndex_X : PC := .seq (.ss [.mv 2 (.t 0), .mv 4 (.c (.int .i64 0))]) (.seq (.ss [.nop, .sub 6 2 2 1, .mv 7 (.t 1), .ioc 8 n_l_markMetaS s_l_markMetaS_X (.t 6) (.t 7) 0 2 none, .mv 1 (.t 8)]) (.seq (.ss [.mv 9 (.t 1), .mv 4 (.t 9)]) (.ret [4, 0])))
def k_l_markIndex_X : Cfg := { tt := tt, sigs := sigsx, mv := true, bm := [], eqt := eqL, keep := [true, true, true, false, true, false, false, false, false, false], n := 10, pin := [0], fz := [], al := true }
theorem c_l_markIndex_X : cFunIo k_l_markIndex_X Try.f173 s_l_markIndex_X = some p_l_markIndex_X := by kernel_rfl
theorem F_l_markIndex_X {W : Wld} {ins outs : List (List D)} (h : pwp (FunOk PP W) p_l_markIndex_X (RetIs outs) (envL ins)) : FunOk PP W n_l_markIndex s_l_markIndex_X ins outs := fun_io (C := k_l_markIndex_X) (cfg_ok rfl) (eq_ok rfl rfl) mixed Try.func173 (by kernel_rfl) c_l_markIndex_X h

def p_l_markMetaS_X : PC := .seq (.ss [.mv 4 (.c (.int .i64 0))]) (.seq (.seq (.ss [.mv 5 (.c (.int .i64 0))]) (.block 0 (.loop (.seq (.seq (.ss [.mv 6 (.t 5), .mv 7 (.t 0), .len 8 (.t 7), .bin 9 .lss (.t 6) (.t 8)]) (.cond (.t 9) (.skip) (.exit 0))) (.seq (.block 1 (.seq (.ss [.mv 12 (.t 0), .mv 13 (.t 5), .mv 14 (.t 1), .elp 15 (.t 12) (.t 13) 3, .mv 16 (.t 15), .els 16 0 0 0 (.t 14)]) (.seq (.ss [.mv 17 (.t 1), .bin 18 .add (.t 17) (.c (.int .i64 1)), .mv 1 (.t 18)]) (.seq (.ss [.mv 19 (.t 0), .mv 20 (.t 5), .mv 21 (.t 1), .elp 22 (.t 19) (.t 20) 3, .mv 23 (.t 22), .els 23 1 0 0 (.t 21)]) (.seq (.ss [.mv 24 (.t 1), .bin 25 .add (.t 24) (.c (.int .i64 1)), .mv 1 (.t 25)]) (.seq (.ss [.mv 26 (.t 0), .mv 27 (.t 5), .mv 28 (.t 1), .elp 29 (.t 26) (.t 27) 3, .mv 30 (.t 29), .els 30 2 0 0 (.t 28)]) (.ss [.mv 31 (.t 1), .bin 32 .add (.t 31) (.c (.int .i64 1)), .mv 1 (.t 32)]))))))) (.ss [.mv 10 (.t 5), .bin 11 .add (.t 10) (.c (.int .i64 1)), .mv 5 (.t 11)])))))) (.seq (.ss [.mv 33 (.t 1), .mv 4 (.t 33)]) (.ret [4, 0])))
def k_l_markMetaS_X : Cfg := { tt := tt, sigs := sigsx, mv := true, bm := [], eqt := eqL, keep := [true, true, false, false, true, true, false, false, false, true, false, false, false, false, false, false, false, false, false, false, false, false, false, false, false, false, false, false, false, false, false, false, false, false], n := 34, pin := [0], fz := [], al := false }
theorem c_l_markMetaS_X : cFunIo k_l_markMetaS_X Try.f172 s_l_markMetaS_X = some p_l_markMetaS_X := by kernel_rfl
theorem F_l_markMetaS_X {W : Wld} {ins outs : List (List D)} (h : pwp (FunOk PP W) p_l_markMetaS_X (RetIs outs) (envL ins)) : FunOk PP W n_l_markMetaS s_l_markMetaS_X ins outs := fun_io (C := k_l_markMetaS_X) (cfg_ok rfl) (eq_ok rfl rfl) mixed Try.func172 (by kernel_rfl) c_l_markMetaS_X h

def p_l_markSigRootS_X : PC := .seq (.ss [.mv 4 (.c (.int .i64 0))]) (.seq (.seq (.ss [.mv 5 (.c (.int .i64 0))]) (.block 0 (.loop (.seq (.seq (.ss [.mv 6 (.t 5), .mv 7 (.t 0), .len 8 (.t 7), .bin 9 .lss (.t 6) (.t 8)]) (.cond (.t 9) (.skip) (.exit 0))) (.seq (.block 1 (.seq (.ss [.mv 12 (.t 0), .mv 13 (.t 5), .mv 14 (.t 1), .elp 15 (.t 12) (.t 13) 4, .mv 16 (.t 15), .mv 17 (.t 16), .els 17 0 0 0 (.t 14)]) (.seq (.ss [.mv 18 (.t 1), .bin 19 .add (.t 18) (.c (.int .i64 1)), .mv 1 (.t 19)]) (.seq (.ss [.mv 20 (.t 0), .mv 21 (.t 5), .elp 22 (.t 20) (.t 21) 4, .mv 23 (.t 22), .mv 24 (.t 23), .eld 25 24 1 [.sl []], .mv 26 (.t 1), .ioc 27 n_l_markIntS s_l_markIntS_X (.t 25) (.t 26) 0 0 (some (24, 1)), .mv 1 (.t 27)]) (.seq (.ss [.mv 28 (.t 0), .mv 29 (.t 5), .mv 30 (.t 1), .elp 31 (.t 28) (.t 29) 4, .mv 32 (.t 31), .mv 33 (.t 32), .els 33 2 0 0 (.t 30)]) (.seq (.ss [.mv 34 (.t 1), .bin 35 .add (.t 34) (.c (.int .i64 1)), .mv 1 (.t 35)]) (.ss [.mv 36 (.t 0), .mv 37 (.t 5), .elp 38 (.t 36) (.t 37) 4, .mv 39 (.t 38), .eld 40 39 3 [.sl []], .mv 41 (.t 1), .ioc 42 n_l_markIntS s_l_markIntS_X (.t 40) (.t 41) 0 0 (some (39, 3)), .mv 1 (.t 42)]))))))) (.ss [.mv 10 (.t 5), .bin 11 .add (.t 10) (.c (.int .i64 1)), .mv 5 (.t 11)])))))) (.seq (.ss [.mv 43 (.t 1), .mv 4 (.t 43)]) (.ret [4, 0])))
def k_l_markSigRootS_X : Cfg := { tt := tt, sigs := sigsx, mv := true, bm := [], eqt := eqL, keep := [true, true, false, false, true, true, false, false, false, true, false, false, false, false, false, false, false, false, false, false, false, false, false, false, false, false, false, false, false, false, false, false, false, false, false, false, false, false, false, false, false, false, false, false], n := 44, pin := [0], fz := [], al := false }
theorem c_l_markSigRootS_X : cFunIo k_l_markSigRootS_X Try.f129 s_l_markSigRootS_X = some p_l_markSigRootS_X := by kernel_rfl
theorem F_l_markSigRootS_X {W : Wld} {ins outs : List (List D)} (h : pwp (FunOk PP W) p_l_markSigRootS_X (RetIs outs) (envL ins)) : FunOk PP W n_l_markSigRootS s_l_markSigRootS_X ins outs := fun_io (C := k_l_markSigRootS_X) (cfg_ok rfl) (eq_ok rfl rfl) mixed Try.func129 (by kernel_rfl) c_l_markSigRootS_X h

def p_l_markSigIndexS_X : PC := .seq (.ss [.mv 4 (.c (.int .i64 0))]) (.seq (.seq (.ss [.mv 5 (.c (.int .i64 0))]) (.block 0 (.loop (.seq (.seq (.ss [.mv 6 (.t 5), .mv 7 (.t 0), .len 8 (.t 7), .bin 9 .lss (.t 6) (.t 8)]) (.cond (.t 9) (.skip) (.exit 0))) (.seq (.block 1 (.seq (.ss [.mv 12 (.t 0), .mv 13 (.t 5), .mv 14 (.t 1), .elp 15 (.t 12) (.t 13) 4, .mv 16 (.t 15), .mv 17 (.t 16), .els 17 0 0 0 (.t 14)]) (.seq (.ss [.mv 18 (.t 1), .bin 19 .add (.t 18) (.c (.int .i64 1)), .mv 1 (.t 19)]) (.seq (.ss [.mv 20 (.t 0), .mv 21 (.t 5), .mv 22 (.t 1), .elp 23 (.t 20) (.t 21) 4, .mv 24 (.t 23), .mv 25 (.t 24), .els 25 1 0 0 (.t 22)]) (.seq (.ss [.mv 26 (.t 1), .bin 27 .add (.t 26) (.c (.int .i64 1)), .mv 1 (.t 27)]) (.seq (.ss [.mv 28 (.t 0), .mv 29 (.t 5), .elp 30 (.t 28) (.t 29) 4, .mv 31 (.t 30), .mv 32 (.t 31), .eld 33 32 2 [.sl []], .mv 34 (.t 1), .ioc 35 n_l_markMetaS s_l_markMetaS_X (.t 33) (.t 34) 0 0 (some (32, 2)), .mv 1 (.t 35)]) (.ss [.mv 36 (.t 0), .mv 37 (.t 5), .elp 38 (.t 36) (.t 37) 4, .mv 39 (.t 38), .eld 40 39 3 [.sl []], .mv 41 (.t 1), .ioc 42 n_l_markIntS s_l_markIntS_X (.t 40) (.t 41) 0 0 (some (39, 3)), .mv 1 (.t 42)]))))))) (.ss [.mv 10 (.t 5), .bin 11 .add (.t 10) (.c (.int .i64 1)), .mv 5 (.t 11)])))))) (.seq (.ss [.mv 43 (.t 1), .mv 4 (.t 43)]) (.ret [4, 0])))
def k_l_markSigIndexS_X : Cfg := { tt := tt, sigs := sigsx, mv := true, bm := [], eqt := eqL, keep := [true, true, false, false, true, true, false, false, false, true, false, false, false, false, false, false, false, false, false, false, false, false, false, false, false, false, false, false, false, false, false, false, false, false, false, false, false, false, false, false, false, false, false, false], n := 44, pin := [0], fz := [], al := false }
theorem c_l_markSigIndexS_X : cFunIo k_l_markSigIndexS_X Try.f130 s_l_markSigIndexS_X = some p_l_markSigIndexS_X := by kernel_rfl
theorem F_l_markSigIndexS_X {W : Wld} {ins outs : List (List D)} (h : pwp (FunOk PP W) p_l_markSigIndexS_X (RetIs outs) (envL ins)) : FunOk PP W n_l_markSigIndexS s_l_markSigIndexS_X ins outs := fun_io (C := k_l_markSigIndexS_X) (cfg_ok rfl) (eq_ok rfl rfl) mixed Try.func130 (by kernel_rfl) c_l_markSigIndexS_X h

end V
end Go.Proofs.Ytgialjcichiaoaa

/-
Plain proofs: what slices.Repeat does with one number, six times.
-/
namespace Go.Proofs.Ytgialjcichiaoaa
open Go.RowKit
set_option maxRecDepth 100000
set_option maxHeartbeats 1600000
theorem walkMul (w : World) : Calls Try.prog 153 #[.int .u64 1, .int .u64 6] w fun e w' => e = .returned (.tuple #[.int .u64 0, .int .u64 6]) ∧ w' = w := by
 go_enter Try.func153, Try.ntmps153
 go_wp2
 refine ⟨rfl, _, results_tmp2 (by kernel_rfl : Try.f153.results = #[.tmp 4, .tmp 5]) _ _ _, ?_⟩
 exact ⟨by kernel_rfl, rfl⟩
def repRow (n : Nat) : Array Value := ((List.replicate n (Value.int .i64 (-1))) ++ List.replicate (6 - n) (Value.int .i64 0)).toArray
def bw (w : World) (n d : Nat) : World := { w with heap := w.heap.push (.cells (repRow n) 3), drawn := d }
theorem rep_make (w : World) : (Instr.makeSlice 24 (.int .i64 6) (.int .i64 6)).run Try.prog w = .ok (.slice (some ⟨w.heap.size, 0, none⟩) 6 6) (bw w 0 w.drawn) := by
 have h1 : (Try.prog.info? 3).map (·.size) = some 1 := by kernel_rfl
 have h2 : (Try.prog.info? 3).map (·.bytes) = some 8 := by kernel_rfl
 have h3 : (Try.prog.info? 3).bind (·.zero) = some (.int .i64 0) := by kernel_rfl
 cases hi : Try.prog.info? 3 with
 | none => rw [hi] at h1; cases h1
 | some i =>
  rw [hi] at h1 h2 h3
  simp only [Option.map_some, Option.some.injEq, Option.bind_some] at h1 h2 h3
  have h := run_make (P := Try.prog) w 24 3 i (.int .i64 0) (by kernel_rfl) hi h3 .i64 .i64 6 6 (by decide) (by decide) (by rw [h2]; decide) (by decide)
  rw [h1] at h
  have hmc : madeCells (Value.int .i64 0).cells ((6 : Int).toNat * 1) = repRow 0 := by kernel_rfl
  rw [hmc] at h
  exact h
theorem bw_cell (w : World) (n d j : Nat) : (bw w n d).cell? ⟨w.heap.size, j, none⟩ = (repRow n)[j]? := by
 simp [bw, World.cell?]
theorem bw_old (w : World) (n d g o : Nat) (h : g < w.heap.size) : (bw w n d).cell? ⟨g, o, none⟩ = w.cell? ⟨g, o, none⟩ := by
 have h2 : (w.heap.push (.cells (repRow n) 3))[g]? = w.heap[g]? := by rw [Array.getElem?_push_lt h, Array.getElem?_eq_getElem h]
 simp only [bw, World.cell?, h2]
theorem bw_frozen (w : World) (n d j : Nat) : (bw w n d).frozen? ⟨w.heap.size, j, none⟩ = false := by
 simp [bw, World.frozen?]
theorem push_modify {α : Type} (a : Array α) (x : α) (f : α → α) : (a.push x).modify a.size f = a.push (f x) := by
 refine Array.ext_getElem? (fun i => ?_)
 rw [Array.getElem?_modify]
 by_cases h : a.size = i
 ·subst h; simp
 ·rw [if_neg h, Array.getElem?_push, Array.getElem?_push]
  split
  ·omega
  ·rfl
theorem bw_set (w : World) (n m d j : Nat) (v : Value) (h : (repRow n).setIfInBounds j v = repRow m) : (bw w n d).setCell ⟨w.heap.size, j, none⟩ v = bw w m d := by
 unfold bw World.setCell
 simp only [push_modify]
 rw [← h]
 rfl
theorem rep_copy0 (w : World) (g o cap : Nat) (hcell : w.cell? ⟨g, o, none⟩ = some (.int .i64 (-1))) (d : Nat) : (Builtin.copy_ #[24, 24] 3 #[.slice (some ⟨w.heap.size, 0, none⟩) 6 6, .slice (some ⟨g, o, none⟩) 1 cap]).run Try.prog (bw w 0 d) = .ok (.int .i64 1) (bw w 1 d) := by
 have hg : g < w.heap.size := by
  rcases Nat.lt_or_ge g w.heap.size with h | h
  ·exact h
  ·simp [World.cell?, Array.getElem?_eq_none h] at hcell
 have h := run_copy_cells (P := Try.prog) (bw w 0 d) 24 24 3 3 w.heap.size 0 6 6 ⟨g, o, none⟩ 1 cap [.int .i64 (-1)] (by kernel_rfl) (by kernel_rfl) rfl
  (fun j v hj => by
   cases j with
   | zero =>
    simp only [List.getElem?_cons_zero, Option.some.injEq] at hj
    subst hj
    show (bw w 0 d).cell? ⟨g, o, none⟩ = _
    rw [bw_old w 0 d g o hg, hcell]
   | succ j => simp at hj)
  (fun j hj => by
   have : j = 0 := by simpa using hj
   subst this
   rw [bw_cell]; rfl)
  (fun j hj => bw_frozen w 0 d _) (fun v hv => by rw [List.mem_singleton.1 hv]; rfl)
 rw [h]
 show Result.ok (goInt 1) ((bw w 0 d).setCell ⟨w.heap.size, 0, none⟩ (.int .i64 (-1))) = _
 rw [bw_set w 0 1 d 0 _ rfl]
 rfl
theorem rep_copy (w : World) (n d c : Nat) (hn : (n = 1 ∧ c = 1) ∨ (n = 2 ∧ c = 2) ∨ (n = 4 ∧ c = 2)) : (Builtin.copy_ #[24, 24] 3 #[.slice (some ⟨w.heap.size, n, none⟩) (6 - n) (6 - n), .slice (some ⟨w.heap.size, 0, none⟩) n 6]).run Try.prog (bw w n d) = .ok (.int .i64 c) (bw w (n + c) d) := by
 have h := run_copy_cells (P := Try.prog) (bw w n d) 24 24 3 3 w.heap.size n (6 - n) (6 - n) ⟨w.heap.size, 0, none⟩ n 6 (List.replicate c (.int .i64 (-1))) (by kernel_rfl) (by kernel_rfl)
  (by rcases hn with ⟨rfl, rfl⟩ | ⟨rfl, rfl⟩ | ⟨rfl, rfl⟩ <;> rfl)
  (fun j v hj => by
   have hjc : j < c := by
    have := (List.getElem?_eq_some_iff.1 hj).1
    simpa using this
   have hv : v = .int .i64 (-1) := by
    have := List.mem_of_getElem? hj
    exact List.eq_of_mem_replicate this
   subst hv
   have ha : (⟨w.heap.size, 0, none⟩ : Addr).add j = ⟨w.heap.size, j, none⟩ := by
    show (⟨w.heap.size, 0, none⟩ : Addr).add j = _
    unfold Addr.add
    by_cases hj0 : j = 0
    ·simp [hj0]
    ·simp [hj0]
   rw [ha, bw_cell]
   have hj2 : j = 0 ∨ j = 1 := by omega
   rcases hn with ⟨rfl, rfl⟩ | ⟨rfl, rfl⟩ | ⟨rfl, rfl⟩ <;> rcases hj2 with rfl | rfl <;> first | rfl | omega)
  (fun j hj => by
   have hj' : j < c := by simpa using hj
   rw [bw_cell]
   have hj2 : j = 0 ∨ j = 1 := by omega
   rcases hn with ⟨rfl, rfl⟩ | ⟨rfl, rfl⟩ | ⟨rfl, rfl⟩ <;> rcases hj2 with rfl | rfl <;> first | rfl | omega)
  (fun j hj => bw_frozen w n d _) (fun v hv => by rw [List.eq_of_mem_replicate hv]; rfl)
 rw [h]
 rcases hn with ⟨rfl, rfl⟩ | ⟨rfl, rfl⟩ | ⟨rfl, rfl⟩
 ·show Result.ok (goInt 1) ((bw w 1 d).setCell ⟨w.heap.size, 1, none⟩ (.int .i64 (-1))) = _
  rw [bw_set w 1 2 d 1 _ rfl]
  rfl
 ·show Result.ok (goInt 2) (((bw w 2 d).setCell ⟨w.heap.size, 2, none⟩ (.int .i64 (-1))).setCell ⟨w.heap.size, 3, none⟩ (.int .i64 (-1))) = _
  rw [bw_set w 2 3 d 2 _ rfl, bw_set w 3 4 d 3 _ rfl]
  rfl
 ·show Result.ok (goInt 2) (((bw w 4 d).setCell ⟨w.heap.size, 4, none⟩ (.int .i64 (-1))).setCell ⟨w.heap.size, 5, none⟩ (.int .i64 (-1))) = _
  rw [bw_set w 4 5 d 4 _ rfl, bw_set w 5 6 d 5 _ rfl]
  rfl
theorem bw_drew (w : World) (n d : Nat) : (bw w n d).drew = bw w n (d + 1) := rfl
theorem walkRep (w : World) (g o cap : Nat) (hcell : w.cell? ⟨g, o, none⟩ = some (.int .i64 (-1))) :
  Calls Try.prog 98 #[.slice (some ⟨g, o, none⟩) 1 cap, .int .i64 6] w fun e wr => e = .returned (.slice (some ⟨w.heap.size, 0, none⟩) 6 6) ∧ ∃ d, wr = bw w 6 d := by
 have hm := rep_make w
 have hc0 := rep_copy0 w g o cap hcell w.drawn
 go_enter Try.func98, Try.ntmps98
 go_wp2_with (go_at_call 153; refine (walkMul _).mono ?_; rintro e w' ⟨rfl, rfl⟩)
 go_loopw [8] (fun i wr => ∃ d : Nat, (i = .int .i64 1 ∧ wr = bw w' 1 d) ∨ (i = .int .i64 2 ∧ wr = bw w' 2 d) ∨ (i = .int .i64 4 ∧ wr = bw w' 4 d) ∨ (i = .int .i64 6 ∧ wr = bw w' 6 d)) (fun i _ => 6 - (intOf i).toNat)
 ·exact ⟨_, .inl ⟨rfl, rfl⟩⟩
 obtain ⟨d, hrel⟩ := hrel
 clear hm hc0
 rcases hrel with ⟨rfl, rfl⟩ | ⟨rfl, rfl⟩ | ⟨rfl, rfl⟩ | ⟨rfl, rfl⟩
 ·have hdr := bw_drew w' 1 d
  have hc : (Builtin.copy_ #[24, 24] 3 #[.slice (some ⟨w'.heap.size, 1, none⟩) 5 5, .slice (some ⟨w'.heap.size, 0, none⟩) 1 6]).run Try.prog (bw w' 1 (d + 1)) = .ok (.int .i64 1) (bw w' 2 (d + 1)) := rep_copy w' 1 (d + 1) 1 (.inl ⟨rfl, rfl⟩)
  go_wp2
  go_region
  go_wp2
  go_roundw
  case rel => exact ⟨d + 1, .inr (.inl ⟨rfl, rfl⟩)⟩
  case measure => simp [intOf]
 ·have hdr := bw_drew w' 2 d
  have hc : (Builtin.copy_ #[24, 24] 3 #[.slice (some ⟨w'.heap.size, 2, none⟩) 4 4, .slice (some ⟨w'.heap.size, 0, none⟩) 2 6]).run Try.prog (bw w' 2 (d + 1)) = .ok (.int .i64 2) (bw w' 4 (d + 1)) := rep_copy w' 2 (d + 1) 2 (.inr (.inl ⟨rfl, rfl⟩))
  go_wp2
  go_region
  go_wp2
  go_roundw
  case rel => exact ⟨d + 1, .inr (.inr (.inl ⟨rfl, rfl⟩))⟩
  case measure => simp [intOf]
 ·have hdr := bw_drew w' 4 d
  have hc : (Builtin.copy_ #[24, 24] 3 #[.slice (some ⟨w'.heap.size, 4, none⟩) 2 2, .slice (some ⟨w'.heap.size, 0, none⟩) 4 6]).run Try.prog (bw w' 4 (d + 1)) = .ok (.int .i64 2) (bw w' 6 (d + 1)) := rep_copy w' 4 (d + 1) 2 (.inr (.inr ⟨rfl, rfl⟩))
  go_wp2
  go_region
  go_wp2
  go_roundw
  case rel => exact ⟨d + 1, .inr (.inr (.inr ⟨rfl, rfl⟩))⟩
  case measure => simp [intOf]
 ·go_wp2
  go_ret
  exact ⟨rfl, d, rfl⟩

namespace V
variable {W : Wld}
def repOwn (w : World) : Own := fun g => if g = w.heap.size then some ⟨(0, 1), [], some 0⟩ else none
theorem rep_heap (w : World) (d g : Nat) (h : g < w.heap.size) : (bw w 6 d).heap[g]? = w.heap[g]? := by
 show (w.heap.push _)[g]? = _
 rw [Array.getElem?_push_lt h, Array.getElem?_eq_getElem h]
theorem rep_new (w : World) (d : Nat) : (bw w 6 d).heap[w.heap.size]? = some (Obj.cells (repRow 6) 3 (0, 0)) := by
 show (w.heap.push _)[w.heap.size]? = _
 simp
theorem rep_size (w : World) (d : Nat) : (bw w 6 d).heap.size = w.heap.size + 1 := by
 show (w.heap.push _).size = _
 simp
theorem repeatI_ok : FunOk PP W n_sl_Repeat_int s_sl_Repeat_int [eIs [-1], i64 6] [eIs [-1, -1, -1, -1, -1, -1]] := by
 refine ⟨⟨Try.f98, Try.func98, by kernel_rfl, by kernel_rfl⟩, fun w own cx vals hP hw hlow hvl hil hinv => ?_⟩
 match vals, hvl with
 | [v0, v1], _ =>
  obtain ⟨vs0, e0, l0, a0⟩ := hinv (0, .v false [.b]) (List.mem_cons_self ..)
  obtain ⟨vs1, e1, l1, a1⟩ := hinv (1, .v false [.s]) (List.mem_cons_of_mem _ (List.mem_cons_self ..))
  have hl0 := l0 rfl
  have hl1 := l1 rfl
  match vs0, hl0, vs1, hl1 with
  | [u0], _, [u1], _ =>
   have h0 : v0 = u0 := e0
   have h1 : v1 = u1 := e1
   subst h0; subst h1
   obtain ⟨_, hr⟩ := a0.2.2 0 .b (.sl [[.int .i64 (-1)]]) v0 rfl rfl rfl
   obtain ⟨_, hs⟩ := a1.2.2 0 .s (.int .i64 6) v1 rfl rfl rfl
   have hv1 : v1 = .int .i64 6 := by cases hs; rfl
   subst hv1
   have hr : Rep w (BS cx own) (.sl [[.int .i64 (-1)]]) v0 := hr
   cases hr with
   | scal h => cases h
   | sl xs g off sz cap vs q1 q2 q3 q4 q5 =>
    have hsz : sz = 1 := (q2 _ (List.mem_singleton.2 rfl)).symm
    subst hsz
    have c0 := q3 0 _ 0 _ rfl rfl
    have c1 := q5 0 _ 0 _ rfl rfl
    have hv' : ∀ u, Rep w (BS cx own) (.int .i64 (-1)) u → u = .int .i64 (-1) := fun u h => by
     cases h with
     | scal h => cases h; rfl
    have hv := hv' _ c1
    rw [hv] at c0
    refine (walkRep w g off cap c0).mono ?_
    rintro e wr ⟨rfl, d, rfl⟩
    have hN : cx.N w.heap.size := (hw.n _).2 (.inl (Nat.le_refl _))
    have hro : ∀ g i, repOwn w g = some i → g = w.heap.size ∧ i = ⟨(0, 1), [], some 0⟩ := fun g i h => by
     unfold repOwn at h
     split at h
     ·rename_i hg
      simp only [Option.some.injEq] at h
      exact ⟨hg, h.symm⟩
     ·cases h
    refine ⟨_, repOwn w, rfl, ⟨⟨rfl, rfl, rfl, by rw [rep_size]; omega, fun g hg _ => rep_heap w d g hg, fun g o hg _ => bw_old w 6 d g o hg, fun g cur T h => ?_⟩, fun g i h => ?_, hw.n, hw.s1, hw.s2, fun g o hg hc => ?_, fun g g' i j h h' _ _ => ?_⟩, ?_⟩
    ·have hg : g < w.heap.size := (Array.getElem?_eq_some_iff.1 h).1
     exact ⟨cur, by rw [rep_heap w d g hg]; exact h, rfl⟩
    ·obtain ⟨rfl, _⟩ := hro g i h
     exact ⟨by rw [rep_size]; omega, hN⟩
    ·obtain ⟨i, b, h1, _⟩ := hc
     obtain ⟨rfl, _⟩ := hro g i h1
     omega
    ·rw [(hro g i h).1, (hro g' j h').1]
    ·refine ⟨rfl, [.slice (some ⟨w.heap.size, 0, none⟩) 6 6], rfl, rfl, fun k p hp => ?_, fun i b hb => by simp [boxPs] at hb⟩
     cases k with
     | succ k => simp at hp
     | zero =>
      have hp : PSh.v false [.o true ⟨1, false⟩] = p := by simpa using hp
      subst hp
      refine ⟨[.slice (some ⟨w.heap.size, 0, none⟩) 6 6], rfl, fun _ => rfl, rfl, rfl, fun i c dd v hc hd hv => ?_⟩
      cases i with
      | succ i => simp at hc
      | zero =>
       simp only [List.getElem?_cons_zero, Option.some.injEq] at hc hv
       subst hc; subst hv
       have hd : some (D.sl [[.int .i64 (-1)], [.int .i64 (-1)], [.int .i64 (-1)], [.int .i64 (-1)], [.int .i64 (-1)], [.int .i64 (-1)]]) = some dd := hd
       simp only [Option.some.injEq] at hd
       subst hd
       refine ⟨⟨fun c h => (by cases h), fun c h => (by cases h)⟩, ?_⟩
       have key : ∀ (i : Nat) (x : List D) (j : Nat) (d : D), ([[.int .i64 (-1)], [.int .i64 (-1)], [.int .i64 (-1)], [.int .i64 (-1)], [.int .i64 (-1)], [.int .i64 (-1)]] : List (List D))[i]? = some x → x[j]? = some d → i < 6 ∧ j = 0 ∧ d = .int .i64 (-1) := by
        intro i x j d hx hd
        have hi : i < 6 := (List.getElem?_eq_some_iff.1 hx).1
        have hx1 : x = [.int .i64 (-1)] := by
         have := List.mem_of_getElem? hx
         simpa using this
        subst hx1
        cases j with
        | zero => simp only [List.getElem?_cons_zero, Option.some.injEq] at hd; exact ⟨hi, rfl, hd.symm⟩
        | succ j => simp at hd
       exact OwnRep.sl (f := ⟨1, false⟩) (m := true) _ w.heap.size 6 (repRow 6) 3 (0, 0) (fun _ _ => .int .i64 (-1)) (rep_new w d) (by unfold repOwn; rw [if_pos rfl]; rfl) (by decide) (by decide) (by decide)
        (fun o _ => by simp) (by decide) (fun x hx => by simp at hx; rw [hx]; rfl)
        (fun i x j d hx hd => by
         obtain ⟨hi, rfl, rfl⟩ := key i x j d hx hd
         have : i = 0 ∨ i = 1 ∨ i = 2 ∨ i = 3 ∨ i = 4 ∨ i = 5 := by omega
         rcases this with rfl | rfl | rfl | rfl | rfl | rfl <;> rfl)
        (fun i x j d hx hd => by
         obtain ⟨hi, rfl, rfl⟩ := key i x j d hx hd
         exact .scal (.int .i64 _))
end V
end Go.Proofs.Ytgialjcichiaoaa

/-
Plain proofs: what functions of the library do.
-/
namespace Go.Proofs.Ytgialjcichiaoaa
namespace V
set_option maxRecDepth 100000
variable {W : Wld}

theorem clone_pwp {Φ : Ask} {α : Type} {enc : α → List D} (l : List α) (hl : l.length ≤ lim) (sz : Nat) (hz : ∀ x, (enc x).length = sz) (hs : ∀ x, (enc x).all isScal = true) (z : List D) :
  pwp Φ (.ss [.mv 2 (.c (.sl []))]) (fun x e => x = .normal ∧ ∃ e1 xs, PRel Φ (.mv 3 (.t 0)) e e1 ∧ e1 3 = [.sl xs] ∧ ∀ b, (b = true → xs = []) →
   pwp Φ (.cond (.t 4) (.seq (.ss [.mv 2 (.c (.sl []))]) (.ret [2])) .skip) (PX.then (pwp Φ (.seq (.ss [.lit 5 0 z [], .mv 6 (.t 0), .app 7 sz true (.t 5) (.t 6), .mv 2 (.t 7)]) (.ret [2])) (RetIs [[.sl (l.map enc)]])) (RetIs [[.sl (l.map enc)]])) (put e1 4 [.bool b])) (envL [[.sl (l.map enc)]]) := by
 refine ⟨_, ⟨_, rfl, rfl⟩, rfl, _, l.map enc, rfl, rfl, fun b hb => ?_⟩
 cases b with
 | true =>
  refine .inl ⟨rfl, _, ⟨_, rfl, rfl⟩, ?_⟩
  show ([[D.sl []]] : List (List D)) = [[.sl (l.map enc)]]
  rw [hb rfl]
 | false =>
  have happ : ∀ e : Env, e 5 = [.sl []] → e 6 = [.sl (l.map enc)] → pstep (.app 7 sz true (.t 5) (.t 6)) e = some (put e 7 [.sl (l.map enc)]) := fun e h5 h6 => by
   have h5' : (Opd.t 5).get e = [.sl []] := h5
   have h6' : (Opd.t 6).get e = [.sl (l.map enc)] := h6
   simp only [pstep, h5', h6', List.nil_append]
   refine if_pos ⟨by simpa using hl, fun x hx => ?_, fun _ y hy => ?_⟩
   ·obtain ⟨w, _, rfl⟩ := List.mem_map.1 hx
    exact hz w
   ·obtain ⟨w, _, rfl⟩ := List.mem_map.1 hy
    exact hs w
  exact .inr ⟨rfl, _, ⟨_, rfl, _, rfl, _, happ _ rfl rfl, _, rfl, rfl⟩, rfl⟩

end V
end Go.Proofs.Ytgialjcichiaoaa

/-
Plain proofs, first part: ranges, files, dependencies, packages.
-/
namespace Go.Proofs.Ytgialjcichiaoaa
namespace V
open Classical
set_option maxRecDepth 100000
variable {W : Wld}

theorem l6In_ok (n lo hi : Int) : FunOk PP W n_s_l6In s_s_l6In [i64 n, i64 lo, i64 hi] [bo (decide (lo ≤ n ∧ n ≤ hi))] := by
 refine F_s_l6In (wq_fun ?_)
 (repeat' first
  | (refine iteB_mk (fun h => ?_) (fun h => ?_) <;> (try simp (disch := omega) only [zA, z13, z19, z20, z21, z22, z23, z24, z25, z31, eqDs, eqD, Nat.reduceAdd, wrap64] at h) <;> (try (exfalso; omega)))
  | (refine Need.mk (by (try simp (disch := omega) only [zA, z13, z19, z20, z21, z22, z23, z24, z25, z31, eqDs, eqD, Nat.reduceAdd, wrap64]); first | exact elp_m (by omega) (by omega) (fun _ => rfl) | exact eld_m (by omega) (by omega) (fun _ => rfl) | exact els_m (by omega) (by omega) (by omega) rfl | exact lsl_m (by omega) (fun _ => rfl) | exact app_nil_m (by omega) (fun _ => rfl) (fun _ => rfl) | exact app_m_one (by omega) (fun _ => rfl) rfl rfl | exact app_m_m (by omega) (fun _ => rfl) (fun _ => rfl)) ?_)
  | (refine Need.mk ?_ ?_)
  | refine rb ?_
  | refine ri ?_
  | refine rs2 ?_ ?_
  | refine rs1 ?_)
 ·simp_all
 ·exact fD (by omega)

theorem in_ok (n lo hi : Int) : FunOk PP W n_i_in s_i_in [i64 n, i64 lo, i64 hi] [bo (decide (lo ≤ n ∧ n ≤ hi))] := by
 refine F_i_in (wq_fun ?_)
 (repeat' first
  | (refine iteB_mk (fun h => ?_) (fun h => ?_) <;> (try simp (disch := omega) only [zA, z13, z19, z20, z21, z22, z23, z24, z25, z31, eqDs, eqD, Nat.reduceAdd, wrap64] at h) <;> (try (exfalso; omega)))
  | (refine Need.mk (by (try simp (disch := omega) only [zA, z13, z19, z20, z21, z22, z23, z24, z25, z31, eqDs, eqD, Nat.reduceAdd, wrap64]); first | exact elp_m (by omega) (by omega) (fun _ => rfl) | exact eld_m (by omega) (by omega) (fun _ => rfl) | exact els_m (by omega) (by omega) (by omega) rfl | exact lsl_m (by omega) (fun _ => rfl) | exact app_nil_m (by omega) (fun _ => rfl) (fun _ => rfl) | exact app_m_one (by omega) (fun _ => rfl) rfl rfl | exact app_m_m (by omega) (fun _ => rfl) (fun _ => rfl)) ?_)
  | (refine Need.mk ?_ ?_)
  | refine rb ?_
  | refine ri ?_
  | refine rs2 ?_ ?_
  | refine rs1 ?_)
 ·simp_all
 ·exact fD (by omega)

def SmP (p : Pk) : Prop := p.files.length ≤ lim ∧ p.deps.length ≤ lim

end V
end Go.Proofs.Ytgialjcichiaoaa

/-
Plain proofs, first part: ranges, files, dependencies, packages.
-/
namespace Go.Proofs.Ytgialjcichiaoaa
namespace V
open Classical
set_option maxRecDepth 100000
variable {W : Wld}

def SmPs (ps : List Pk) : Prop := ps.length ≤ lim ∧ ∀ p ∈ ps, SmP p
theorem smPs_ix {ps : List Pk} (h : SmPs ps) {i : Int} (h0 : 0 ≤ i) (h1 : i < ps.length) : SmP (ix ps i) := h.2 _ (ix_mem h0 h1)

end V
end Go.Proofs.Ytgialjcichiaoaa

/-
Plain proofs: disks and steps of the reference.
-/
namespace Go.Proofs.Ytgialjcichiaoaa
namespace V
open Classical
set_option maxRecDepth 100000
variable {W : Wld}

def SmD (d : Dk) : Prop := SmPs d.db ∧ d.files.length ≤ lim ∧ SmPs d.jour
noncomputable def putF (fs : List P2) (l : List Int) : List Int := fs.foldl (fun l f => l.set f.a.toNat f.b) l
noncomputable def filesM (ps : List Pk) : List Int := ps.foldl (fun l p => putF p.files l) (List.replicate 6 (-1))
def PathsOk (ps : List Pk) : Prop := ∀ p ∈ ps, ∀ f ∈ p.files, 0 ≤ f.a ∧ f.a ≤ 5

theorem putF_len (fs : List P2) : ∀ l : List Int, (putF fs l).length = l.length := by
 induction fs with
 | nil => intro l; rfl
 | cons f fs ih => intro l; simp only [putF, List.foldl_cons] at ih ⊢; rw [ih]; simp
theorem foldF_len (ps : List Pk) : ∀ l : List Int, (ps.foldl (fun l p => putF p.files l) l).length = l.length := by
 induction ps with
 | nil => intro l; rfl
 | cons p ps ih => intro l; simp only [List.foldl_cons]; rw [ih, putF_len]
theorem l13Files_ok (ps : List Pk) (hs : SmPs ps) (hp : PathsOk ps) : FunOk PP W n_s_l13Files s_s_l13Files [ePks ps] [eIs (filesM ps)] := by
 refine F_s_l13Files (wq_fun ?_)
 have hl := hs.1
 unfold lim at hl
 refine Need.mk (by decide) ?_
 refine loop_mk (fun i : Int => 0 ≤ i ∧ i ≤ 6) (fun i => [(4, i64 i), (3, eIs (List.replicate i.toNat (-1) ++ List.replicate (6 - i).toNat 0)), (0, ePks ps)]) (fun i => (6 - i).toNat) 0 ⟨by omega, by omega⟩ ⟨rfl, rfl, rfl, trivial⟩ ?_
 rintro i e ⟨h0, hN⟩
 have hlen : (List.replicate i.toNat (-1 : Int) ++ List.replicate (6 - i).toNat 0).length = 6 := by simp; omega
 (repeat' first
  | (refine iteB_mk (fun h => ?_) (fun h => ?_) <;> (try simp (disch := omega) only [zA, z13, z19, z20, z21, z22, z23, z24, z25, z31, eqDs, eqD, Nat.reduceAdd, wrap64] at h) <;> (try (exfalso; omega)))
  | (refine Need.mk (by (try simp (disch := omega) only [zA, z13, z19, z20, z21, z22, z23, z24, z25, z31, eqDs, eqD, Nat.reduceAdd, wrap64]); first | exact elp_m (by omega) (by omega) (fun _ => rfl) | exact eld_m (by omega) (by omega) (fun _ => rfl) | exact els_m (by omega) (by omega) (by omega) rfl | exact lsl_m (by omega) (fun _ => rfl) | exact app_nil_m (by omega) (fun _ => rfl) (fun _ => rfl) | exact app_m_one (by omega) (fun _ => rfl) rfl rfl | exact app_m_m (by omega) (fun _ => rfl) (fun _ => rfl)) ?_)
  | (refine Exists.intro (i + 1) ⟨by omega, ⟨by omega, by omega⟩, i64_eq (wrap64 _ (by omega)), ?_, rfl, trivial⟩)
  | (refine Need.mk ?_ ?_)
  | refine rb ?_
  | refine ri ?_
  | refine rs2 ?_ ?_
  | refine rs1 ?_)
 ·refine sl_eq ?_
  rw [els_v h0 (by omega)]
  congr 1
  refine ix_ext (by simp; omega) (fun j j0 j1 => ?_)
  simp only [ix, List.getD_eq_getElem?_getD, List.getElem?_set, List.getElem?_append, List.getElem?_replicate, List.length_replicate, List.length_append]
  simp only [List.length_set, hlen] at j1
  (repeat' split) <;> first | rfl | omega
 have hi6 : i = 6 := by rw [hlen] at h; omega
 subst hi6
 clear hlen h h0 hN
 refine loop_mk (fun i : Int => 0 ≤ i ∧ i ≤ ps.length) (fun i => [(5, i64 i), (3, eIs ((ps.take i.toNat).foldl (fun l p => putF p.files l) (List.replicate 6 (-1)))), (0, ePks ps)]) (fun i => (ps.length - i).toNat) 0 ⟨by omega, by omega⟩ ⟨rfl, rfl, rfl, trivial⟩ ?_
 rintro i e ⟨h0, hN⟩
 generalize hL : (ps.take i.toNat).foldl (fun l p => putF p.files l) (List.replicate 6 (-1)) = L
 have hLl : L.length = 6 := by rw [← hL, foldF_len]; simp
 (repeat' first
  | (refine iteB_mk (fun h => ?_) (fun h => ?_) <;> (try simp (disch := omega) only [zA, z13, z19, z20, z21, z22, z23, z24, z25, z31, eqDs, eqD, Nat.reduceAdd, wrap64] at h) <;> (try (exfalso; omega)))
  | (refine Need.mk (by (try simp (disch := omega) only [zA, z13, z19, z20, z21, z22, z23, z24, z25, z31, eqDs, eqD, Nat.reduceAdd, wrap64]); first | exact elp_m (by omega) (by omega) (fun _ => rfl) | exact eld_m (by omega) (by omega) (fun _ => rfl) | exact els_m (by omega) (by omega) (by omega) rfl | exact lsl_m (by omega) (fun _ => rfl) | exact app_nil_m (by omega) (fun _ => rfl) (fun _ => rfl) | exact app_m_one (by omega) (fun _ => rfl) rfl rfl | exact app_m_m (by omega) (fun _ => rfl) (fun _ => rfl)) ?_)
  | (refine Need.mk ?_ ?_)
  | refine rb ?_
  | refine ri ?_
  | refine rs2 ?_ ?_
  | refine rs1 ?_)
 ·have hi := h
  have hm := ix_mem h0 hi
  have hf := (hs.2 _ hm).1
  unfold lim at hf
  refine loop_mk (fun k : Int => 0 ≤ k ∧ k ≤ (ix ps i).files.length) (fun k => [(6, i64 k), (5, i64 i), (3, eIs (putF ((ix ps i).files.take k.toNat) L)), (0, ePks ps)]) (fun k => ((ix ps i).files.length - k).toNat) 0 ⟨by omega, by omega⟩ ⟨rfl, rfl, rfl, rfl, trivial⟩ ?_
  rintro k e ⟨k0, kN⟩
  generalize hM : putF ((ix ps i).files.take k.toNat) L = M
  have hMl : M.length = 6 := by rw [← hM, putF_len, hLl]
  have hpp : k < (ix ps i).files.length → 0 ≤ (ix (ix ps i).files k).a ∧ (ix (ix ps i).files k).a ≤ 5 := fun hk => hp _ hm _ (ix_mem k0 hk)
  (repeat' first
  | (refine iteB_mk (fun h => ?_) (fun h => ?_) <;> (try simp (disch := omega) only [zA, z13, z19, z20, z21, z22, z23, z24, z25, z31, eqDs, eqD, Nat.reduceAdd, wrap64] at h) <;> (try (exfalso; omega)))
  | (refine Need.mk (by (try simp (disch := omega) only [zA, z13, z19, z20, z21, z22, z23, z24, z25, z31, eqDs, eqD, Nat.reduceAdd, wrap64]); first | exact elp_m (by omega) (by omega) (fun _ => rfl) | exact eld_m (by omega) (by omega) (fun _ => rfl) | exact els_m (by omega) (by omega) (by omega) rfl | exact lsl_m (by omega) (fun _ => rfl) | exact app_nil_m (by omega) (fun _ => rfl) (fun _ => rfl) | exact app_m_one (by omega) (fun _ => rfl) rfl rfl | exact app_m_m (by omega) (fun _ => rfl) (fun _ => rfl)) ?_)
  | (refine Exists.intro (k + 1) ⟨by omega, ⟨by omega, by omega⟩, i64_eq (wrap64 _ (by omega)), rfl, ?_, rfl, trivial⟩)
  | (refine Exists.intro (i + 1) ⟨by omega, ⟨by omega, by omega⟩, i64_eq (wrap64 _ (by omega)), ?_, rfl, trivial⟩)
  | (refine Need.mk ?_ ?_)
  | refine rb ?_
  | refine ri ?_
  | refine rs2 ?_ ?_
  | refine rs1 ?_)
  ·refine sl_eq ?_
   have hp2 := hpp h
   simp only [zA, z13, z19, z20, z21, z22, z23, z24, z25, z31, eqDs, eqD, Nat.reduceAdd]
   rw [els_v (by omega) (by omega), take_ix _ k0 h, ← hM]
   simp [putF, List.foldl_append]
  ·refine sl_eq ?_
   have hk : k.toNat = (ix ps i).files.length := by omega
   rw [hk, List.take_length] at hM
   rw [take_ix ps h0 hi, List.foldl_append, hL, ← hM]
   rfl
 ·refine sl_eq ?_
  have hk : i.toNat = ps.length := by omega
  rw [hk, List.take_length] at hL
  rw [← hL]
  rfl
end V
end Go.Proofs.Ytgialjcichiaoaa

/-
Plain proofs: what steps do to a disk, and which steps the reference takes.
-/
namespace Go.Proofs.Ytgialjcichiaoaa
namespace V
open Classical
set_option maxRecDepth 100000
variable {W : Wld}

def dk0 : Dk := ⟨[], List.replicate 6 (-1), false, []⟩
theorem pathsOk_nil : PathsOk [] := fun p hp => by cases hp
theorem smPs_nil : SmPs [] := ⟨by simp, by simp⟩

theorem sDiskNew_ok : FunOk PP W n_s_DiskNew s_s_DiskNew [] [eDk dk0] := by
 refine F_s_DiskNew (wq_fun ?_)
 (repeat' first
  | (refine iteB_mk (fun h => ?_) (fun h => ?_) <;> (try simp (disch := omega) only [zA, z13, z19, z20, z21, z22, z23, z24, z25, z31, eqDs, eqD, Nat.reduceAdd, wrap64] at h) <;> (try (exfalso; omega)))
  | (refine Need.mk (by (try simp (disch := omega) only [zA, z13, z19, z20, z21, z22, z23, z24, z25, z31, eqDs, eqD, Nat.reduceAdd, wrap64]); first | exact elp_m (by omega) (by omega) (fun _ => rfl) | exact eld_m (by omega) (by omega) (fun _ => rfl) | exact els_m (by omega) (by omega) (by omega) rfl | exact lsl_m (by omega) (fun _ => rfl) | exact app_nil_m (by omega) (fun _ => rfl) (fun _ => rfl) | exact app_m_one (by omega) (fun _ => rfl) rfl rfl | exact app_m_m (by omega) (fun _ => rfl) (fun _ => rfl)) ?_)
  | (refine call_mk (l13Files_ok [] smPs_nil pathsOk_nil) rfl ?_)
  | (refine Need.mk ?_ ?_)
  | refine rb ?_
  | refine ri ?_
  | refine rs2 ?_ ?_
  | refine rs1 ?_)
 rfl

theorem mem_ix {α : Type} [Inhabited α] {xs : List α} {x : α} (h : x ∈ xs) : ∃ i : Int, 0 ≤ i ∧ i < xs.length ∧ ix xs i = x := by
 obtain ⟨n, hn, rfl⟩ := List.mem_iff_getElem.1 h
 exact ⟨n, by omega, by omega, by simp [ix, hn]⟩
def dkZ : Dk := ⟨[], [], false, []⟩
end V
end Go.Proofs.Ytgialjcichiaoaa

/-
Plain proofs: what functions of the library do where all that is owned is owned with its list.
-/
namespace Go.Proofs.Ytgialjcichiaoaa
namespace V
set_option maxRecDepth 100000
variable {W : Wld}

def kx_sl_Clone_int : Cfg := { tt := tt, sigs := sigsx, mv := true, bm := [5], eqt := eqL, keep := [true, false, true, false, true, false, false, false], n := 8, pin := [] }
theorem cx_sl_Clone_int : cIsNil kx_sl_Clone_int Try.f125 s_sl_Clone_int_X = some (.ss [.mv 2 (.c (.sl []))], .mv 3 (.t 0), 3, 4, .cond (.t 4) (.seq (.ss [.mv 2 (.c (.sl []))]) (.ret [2])) .skip, .seq (.ss [.lit 5 0 [.int .i64 0] [], .mv 6 (.t 0), .app 7 1 true (.t 5) (.t 6), .mv 2 (.t 7)]) (.ret [2])) := by kernel_rfl
theorem cloneI_X (l : List Int) (hl : l.length ≤ lim) : FunOk PP W n_sl_Clone_int s_sl_Clone_int_X [eIs l] [eIs l] := by
 refine cIsNil_ok (C := kx_sl_Clone_int) (cfg_ok rfl) (eq_ok rfl rfl) mixed Try.func125 (by kernel_rfl) (by kernel_rfl) cx_sl_Clone_int ?_
 exact clone_pwp (enc := i64) l hl 1 (fun _ => rfl) (fun _ => rfl) [.int .i64 0]

theorem OwnRep.toU {w : World} {cx : Cx} {own : Own} {lf : Nat × Nat} {m : Bool} {sz : Nat} {xs : List (List D)} {v : Value} (h : OwnRep w cx own lf m ⟨sz, false⟩ (.sl xs) v) (hs : ∀ x ∈ xs, ∀ d ∈ x, isScal d = true) : OwnRep w cx own lf m ⟨sz, true⟩ (.sl xs) v := by
 cases h with
 | nil => exact .nil
 | ip _ _ hf => cases hf
 | sl xs g cap cur T fr vs h1 h2 h3 h4 h5 h6 h7 h8 h9 h10 =>
  refine .sl xs g cap cur T fr vs h1 h2 h3 h4 h5 h6 h7 h8 h9 (fun i x j d hx hj => ?_)
  have h11 : Rep w (RS cx own) d (vs i j) := h10 i x j d hx hj
  have := hs x (List.mem_of_getElem? hx) d (List.mem_of_getElem? hj)
  exact InRep.scal (h11.scal' (isScal_cases this))

theorem funOk_u {P : Program} {f : Nat} {ps : List PSh} {sz : Nat} {m : Bool} {ins : List (List D)} {xs : List (List D)} (h : FunOk P W f ⟨ps, [.v false [.o m ⟨sz, false⟩]]⟩ ins [[.sl xs]]) (hs : ∀ x ∈ xs, ∀ d ∈ x, isScal d = true) :
  FunOk P W f ⟨ps, [.v false [.o m ⟨sz, true⟩]]⟩ ins [[.sl xs]] := by
 refine ⟨h.1, fun w own cx vals h1 h2 h3 h4 h5 h6 => Calls.mono (h.2 w own cx vals h1 h2 h3 h4 h5 h6) ?_⟩
 rintro e w' ⟨v, own', rfl, k1, k2⟩
 refine ⟨v, own', rfl, k1, ?_⟩
 unfold ResOk at k2 ⊢
 have hio : ∀ rs, ioOf ⟨ps, rs⟩ = ioOf ⟨ps, [.v false [.o m ⟨sz, false⟩]]⟩ := fun rs => rfl
 rw [hio]
 split at k2
 ·obtain ⟨q1, rv, q2, q3, q4, q5⟩ := k2
  refine ⟨q1, rv, q2, q3, fun k p hp => ?_, q5⟩
  cases k with
  | succ k => simp at hp
  | zero =>
   simp only [List.getElem?_cons_zero, Option.some.injEq] at hp
   subst hp
   obtain ⟨vs, r1, r2, r3⟩ := q4 0 _ rfl
   refine ⟨vs, r1, r2, r3.1, r3.2.1, fun i c d v hc hd hv => ?_⟩
   cases i with
   | succ i => simp at hc
   | zero =>
    simp only [List.getElem?_cons_zero, Option.some.injEq] at hc
    subst hc
    have r4 := r3.2.2 0 _ d v rfl hd hv
    have hdx : D.sl xs = d := by simpa [envL] using hd
    subst hdx
    exact ⟨r4.1, OwnRep.toU r4.2 hs⟩
 ·exact k2

theorem repeatI_X : FunOk PP W n_sl_Repeat_int s_sl_Repeat_int_X [eIs [-1], i64 6] [eIs [-1, -1, -1, -1, -1, -1]] :=
 funOk_u repeatI_ok (fun x hx d hd => by
  obtain ⟨n, _, rfl⟩ := List.mem_map.1 hx
  rw [List.mem_singleton.1 hd]
  rfl)

/-! Writing into lists that are encoded. -/
theorem els_gx {α : Type} {enc : α → List D} {xs ys : List α} {i : Int} {off sz : Nat} {c : List D} (h0 : 0 ≤ i) (h1 : i < xs.length) (h2 : i < ys.length) (hz : ∀ x, (enc x).length = sz) (hc : off + c.length ≤ sz) : ElsOk (xs.map enc) (ys.map enc) i off c := by
 have a : i.toNat < xs.length := by omega
 have b : i.toNat < ys.length := by omega
 exact ⟨enc xs[i.toNat], enc ys[i.toNat], by simp [a], by simp [b], by rw [hz, hz], by rw [hz]; exact hc⟩
theorem elsV_gx {α : Type} [Inhabited α] {enc : α → List D} {ys : List α} {i : Int} {off : Nat} {c : List D} {z : α} (h0 : 0 ≤ i) (h2 : i < ys.length) (hz : splice (enc (ix ys i)) off c = enc z) : elsV (ys.map enc) i off c = (ys.set i.toNat z).map enc := by
 have b : i.toNat < ys.length := by omega
 have e : enc (ix ys i) = enc ys[i.toNat] := by simp [ix, b]
 rw [e] at hz
 simp only [elsV, List.getD_eq_getElem?_getD, List.getElem?_map, List.getElem?_eq_getElem b, Option.map_some, Option.getD_some, hz]
 rw [List.map_set]
theorem elsP2_0 {ys : List P2} {i v : Int} (h0 : 0 ≤ i) (h2 : i < ys.length) : elsV (ys.map eP2) i 0 [.int .i64 v] = (ys.set i.toNat ⟨v, (ix ys i).b⟩).map eP2 := elsV_gx h0 h2 rfl
theorem elsP2_1 {ys : List P2} {i v : Int} (h0 : 0 ≤ i) (h2 : i < ys.length) : elsV (ys.map eP2) i 1 [.int .i64 v] = (ys.set i.toNat ⟨(ix ys i).a, v⟩).map eP2 := elsV_gx h0 h2 rfl
theorem elsPk_0 {ys : List Pk} {i v : Int} (h0 : 0 ≤ i) (h2 : i < ys.length) : elsV (ys.map ePk) i 0 [.int .i64 v] = (ys.set i.toNat ⟨v, (ix ys i).ver, (ix ys i).files, (ix ys i).deps⟩).map ePk := elsV_gx h0 h2 rfl
theorem elsPk_1 {ys : List Pk} {i v : Int} (h0 : 0 ≤ i) (h2 : i < ys.length) : elsV (ys.map ePk) i 1 [.int .i64 v] = (ys.set i.toNat ⟨(ix ys i).name, v, (ix ys i).files, (ix ys i).deps⟩).map ePk := elsV_gx h0 h2 rfl
theorem run_elsc {Φ : Ask} {Q : PX → Env → Prop} {Ns : List (Env → Prop)} {e : Env} {fs fs' : List Fr} {l l' : Sm} {N : Prop} {h : Nat} {r c : List D} (hr : run 100000 e fs l = .need N fs' ((h, .val r) :: l')) (hp : N) (he : r = c) (hk : RunM Φ Q Ns e fs' ((h, .val c) :: l')) : RunM Φ Q Ns e fs l := by
 subst he
 exact run_need hr hp hk

theorem ix_sgx {α : Type} [Inhabited α] {ys : List α} {i j : Int} {z : α} (h0 : 0 ≤ i) (h1 : i < ys.length) (hj : 0 ≤ j) : ix (ys.set i.toNat z) j = if j = i then z else ix ys j := by
 by_cases h : j = i
 ·subst h
  have : j.toNat < ys.length := by omega
  simp [ix, this]
 ·have : j.toNat ≠ i.toNat := by omega
  simp only [ix, List.getD_eq_getElem?_getD, if_neg h]
  rw [List.getElem?_set_ne (Ne.symm this)]
theorem ix_ssx {α : Type} [Inhabited α] {ys : List α} {i : Int} {z : α} (h0 : 0 ≤ i) (h1 : i < ys.length) : ix (ys.set i.toNat z) i = z := by rw [ix_sgx h0 h1 h0, if_pos rfl]
end V
end Go.Proofs.Ytgialjcichiaoaa

/-
Plain proofs: what the laws copy, measure and mark: lists of numbers, files, packages.
-/
namespace Go.Proofs.Ytgialjcichiaoaa
namespace V
open Classical
set_option maxRecDepth 100000
variable {W : Wld}

theorem blw_set {α : Type} [Inhabited α] {xs ys : List α} {i : Int} (h0 : 0 ≤ i) (h1 : i < ys.length) (h : Blw i (fun j => ix ys j = ix xs j)) : Blw (i + 1) (fun j => ix (ys.set i.toNat (ix xs i)) j = ix xs j) := fun j j0 j1 => by
 show ix (ys.set i.toNat (ix xs i)) j = ix xs j
 rw [ix_sgx h0 h1 j0]
 by_cases e : j = i
 ·rw [if_pos e, e]
 ·rw [if_neg e]
  exact h j j0 (by omega)

/-! What is copied. -/
theorem toIntS_X (l : List Int) (hl : l.length ≤ lim) : FunOk PP W n_l_toIntS s_l_toIntS_X [eIs l] [eIs l] := by
 refine F_l_toIntS_X (run_fun ?_)
 unfold lim at hl
 (repeat' first
  | (refine run_ite rfl (fun h => ?_) (fun h => ?_) <;> (try simp (disch := omega) only [zA, z13, z19, z20, z21, z22, z23, z24, z25, z31, eqDs, eqD, Nat.reduceAdd, wrap64] at h) <;> (try (exfalso; omega)))
  | (refine run_need rfl (by (try simp (disch := omega) only [zA, z13, z19, z20, z21, z22, z23, z24, z25, z31, eqDs, eqD, Nat.reduceAdd, wrap64]); first | exact elp_m (by omega) (by first | omega | (simp only [List.length_set]; omega)) (fun _ => rfl) | exact eld_m (by omega) (by first | omega | (simp only [List.length_set]; omega)) (fun _ => rfl) | exact els_m (by omega) (by omega) (by omega) rfl | exact lsl_m (by omega) (fun _ => rfl) | exact app_nil_m (by omega) (fun _ => rfl) (fun _ => rfl) | exact app_m_one (by omega) (fun _ => rfl) rfl rfl | exact app_m_m (by omega) (fun _ => rfl) (fun _ => rfl)) ?_)
  | (refine run_need rfl (by first | decide | omega | (simp only [List.length_map]; omega)) ?_)
  | (refine run_need rfl ?_ ?_)
  | (refine run_ret rfl ?_ ; first | refine rb ?_ | refine ri ?_ | refine rs2 ?_ ?_ | refine rs1 ?_)
  | (refine run_retx rfl ?_))
 ·simp [lim]; omega
 refine run_loop rfl (fun x : Int × List Int => 0 ≤ x.1 ∧ x.1 ≤ l.length ∧ x.2.length = l.length ∧ Blw x.1 (fun j => ix x.2 j = ix l j)) (fun x => [(4, .val (i64 x.1)), (3, .val (eIs x.2)), (0, .val (eIs l))]) (fun x => (l.length - x.1).toNat) (0, List.replicate l.length 0) ⟨by omega, by simp, by simp, blw_zero _⟩ ⟨rfl, sl_eq (by simp), rfl, trivial⟩ rfl ?_
 rintro ⟨i, ys⟩ e ⟨h0, hN, hy, hP⟩
 dsimp only at h0 hN hy hP ⊢
 (repeat' first
  | (refine run_ite rfl (fun h => ?_) (fun h => ?_) <;> (try simp (disch := omega) only [zA, z13, z19, z20, z21, z22, z23, z24, z25, z31, eqDs, eqD, Nat.reduceAdd, wrap64] at h) <;> (try (exfalso; omega)))
  | (refine run_need rfl (by (try simp (disch := omega) only [zA, z13, z19, z20, z21, z22, z23, z24, z25, z31, eqDs, eqD, Nat.reduceAdd, wrap64]); first | exact elp_m (by omega) (by first | omega | (simp only [List.length_set]; omega)) (fun _ => rfl) | exact eld_m (by omega) (by first | omega | (simp only [List.length_set]; omega)) (fun _ => rfl) | exact els_m (by omega) (by omega) (by omega) rfl | exact lsl_m (by omega) (fun _ => rfl) | exact app_nil_m (by omega) (fun _ => rfl) (fun _ => rfl) | exact app_m_one (by omega) (fun _ => rfl) rfl rfl | exact app_m_m (by omega) (fun _ => rfl) (fun _ => rfl)) ?_)
  | (refine run_need rfl (by first | decide | omega | (simp only [List.length_map]; omega)) ?_)
  | (refine run_next rfl (Exists.intro (i + 1, ys.set i.toNat (ix l i)) ⟨by dsimp only; omega, ⟨by dsimp only; omega, by dsimp only; omega, by simpa using hy, blw_set h0 (by omega) hP⟩, i64_eq (wrap64 _ (by omega)), sl_eq (by rw [els_v h0 (by omega), z11]), rfl, trivial⟩))
  | (refine run_need rfl ?_ ?_)
  | (refine run_ret rfl ?_ ; first | refine rb ?_ | refine ri ?_ | refine rs2 ?_ ?_ | refine rs1 ?_)
  | (refine run_retx rfl ?_))
 ·exact sl_eq (by rw [ix_ext hy (blw_to hP (by omega))])

end V
end Go.Proofs.Ytgialjcichiaoaa

/-
Plain proofs: what the laws measure, compare, mark and find marked: lists of numbers, files, packages.
-/
namespace Go.Proofs.Ytgialjcichiaoaa
namespace V
open Classical
set_option maxRecDepth 100000
variable {W : Wld}

/-! Sums. -/
def sumF {α : Type} (f : α → Int) (xs : List α) : Int := (xs.map f).sum
theorem sumF_take {α : Type} [Inhabited α] (f : α → Int) (xs : List α) {i : Int} (h0 : 0 ≤ i) (h1 : i < xs.length) : sumF f (xs.take (i + 1).toNat) = sumF f (xs.take i.toNat) + f (ix xs i) := by
 rw [take_ix xs h0 h1]
 simp [sumF]
theorem sumF_nn {α : Type} {f : α → Int} (hf : ∀ x, 0 ≤ f x) : ∀ xs : List α, 0 ≤ sumF f xs
 | [] => by simp [sumF]
 | x :: r => by
  have := sumF_nn hf r
  have := hf x
  simp only [sumF, List.map_cons, List.sum_cons] at *
  omega
theorem sumF_le {α : Type} {f : α → Int} (hf : ∀ x, 0 ≤ f x) (xs : List α) (n : Nat) : sumF f (xs.take n) ≤ sumF f xs := by
 have h : sumF f xs = sumF f (xs.take n) + sumF f (xs.drop n) := by
  conv => lhs; rw [← List.take_append_drop n xs]
  simp only [sumF, List.map_append, List.sum_append]
 have := sumF_nn hf (xs.drop n)
 omega
/-! How much comes in. -/
def mx : Int := 9223372036854775807
def BgP (p : Pk) : Prop := (p.files.length : Int) ≤ mx ∧ (p.deps.length : Int) ≤ mx
def BgPs (ps : List Pk) : Prop := (ps.length : Int) ≤ mx ∧ ∀ p ∈ ps, BgP p
def BgD (d : Dk) : Prop := BgPs d.db ∧ (d.files.length : Int) ≤ mx ∧ BgPs d.jour
def BgSs (l : List Stp) : Prop := (l.length : Int) ≤ mx ∧ ∀ s ∈ l, BgPs s.pkgs
noncomputable def less (left n : Int) : Int := if left < n then -1 else left - n
theorem less_lt {left n : Int} (h : left < n) : less left n = -1 := if_pos h
theorem less_ge {left n : Int} (h : n ≤ left) : less left n = left - n := if_neg (by omega)

theorem szIntS_ok (l : List Int) (left : Int) (h : 0 ≤ left ∧ left ≤ 1048576) (hb : (l.length : Int) ≤ mx) : FunOk PP W n_l_szIntS s_l_szIntS [eIs l, i64 left] [i64 (less left l.length)] := by
 refine F_l_szIntS (run_fun ?_)
 unfold mx at hb
 (repeat' first
  | (refine run_ite rfl (fun h => ?_) (fun h => ?_) <;> (try simp (disch := omega) only [zA, z13, z19, z20, z21, z22, z23, z24, z25, z31, eqDs, eqD, Nat.reduceAdd, wrap64] at h) <;> (try (exfalso; omega)))
  | (refine run_need rfl (by (try simp (disch := omega) only [zA, z13, z19, z20, z21, z22, z23, z24, z25, z31, eqDs, eqD, Nat.reduceAdd, wrap64]); first | exact elp_m (by omega) (by first | omega | (simp only [List.length_set]; omega)) (fun _ => rfl) | exact eld_m (by omega) (by first | omega | (simp only [List.length_set]; omega)) (fun _ => rfl) | exact els_m (by omega) (by omega) (by omega) rfl | exact lsl_m (by omega) (fun _ => rfl) | exact app_nil_m (by omega) (fun _ => rfl) (fun _ => rfl) | exact app_m_one (by omega) (fun _ => rfl) rfl rfl | exact app_m_m (by omega) (fun _ => rfl) (fun _ => rfl)) ?_)
  | (refine run_need rfl (by first | decide | omega | (simp only [List.length_map]; omega)) ?_)
  | (refine run_need rfl ?_ ?_)
  | (refine run_ret rfl ?_ ; first | refine rb ?_ | refine ri ?_ | refine rs2 ?_ ?_ | refine rs1 ?_)
  | (refine run_retx rfl ?_))
 ·rw [less_lt (by omega)]
 ·rw [List.length_map, wrap64 _ (by omega), less_ge (by omega)]

end V
end Go.Proofs.Ytgialjcichiaoaa

/-
What comes in, as plain values.
-/
namespace Go.Proofs.Ytgialjcichiaoaa
namespace V
set_option maxRecDepth 100000
open Go.ChangeShapes Go.WideShapes Go.ChangeAt Go.RowKit

def ckP2 : Ck := .int .i64 (.int .i64 .nil)
def ckPk : Ck := .int .i64 (.int .i64 (.sl ckP2 (.sl ckP2 .nil)))
def ckI : Ck := .int .i64 .nil
def ckDk : Ck := .sl ckPk (.sl ckI (.bool (.sl ckPk .nil)))
def ckSt : Ck := .int .i64 (.int .i64 (.int .i64 (.sl ckPk .nil)))

theorem conf_list {α : Type} {enc : α → List D} {Q : α → Prop} : ∀ {xs : List (List D)}, (∀ x ∈ xs, ∃ a, x = enc a ∧ Q a) → ∃ l : List α, xs = l.map enc ∧ ∀ a ∈ l, Q a
 | [], _ => ⟨[], rfl, fun a h => by cases h⟩
 | x :: xs, h => by
  obtain ⟨a, rfl, h1⟩ := h x (List.mem_cons_self ..)
  obtain ⟨l, rfl, h2⟩ := conf_list (xs := xs) (fun y hy => h y (List.mem_cons_of_mem _ hy))
  exact ⟨a :: l, rfl, fun b hb => by rcases List.mem_cons.1 hb with rfl | hb; exact h1; exact h2 b hb⟩
theorem mx_le {n : Nat} (h : n ≤ maxLen) : (n : Int) ≤ mx := by
 unfold maxLen at h
 unfold mx
 omega
theorem conf_I {x : List D} (h : conf ckI x) : ∃ a : Int, x = i64 a ∧ True := by
 obtain ⟨n, ds, rfl, _, h⟩ := h
 have : ds = [] := h
 subst this
 exact ⟨n, rfl, trivial⟩
theorem conf_P2 {x : List D} (h : conf ckP2 x) : ∃ a : P2, x = eP2 a ∧ True := by
 obtain ⟨n, ds, rfl, _, m, ds', rfl, _, h⟩ := h
 have : ds' = [] := h
 subst this
 exact ⟨⟨n, m⟩, rfl, trivial⟩
theorem conf_Pk {x : List D} (h : conf ckPk x) : ∃ a : Pk, x = ePk a ∧ BgP a := by
 obtain ⟨n, _, rfl, _, m, _, rfl, _, xs, _, rfl, h1, h2, ys, _, rfl, h3, h4, h⟩ := h
 have h := (show _ = [] from h)
 subst h
 obtain ⟨f, rfl, _⟩ := conf_list (fun x hx => conf_P2 (h2 x hx))
 obtain ⟨d, rfl, _⟩ := conf_list (fun x hx => conf_P2 (h4 x hx))
 rw [List.length_map] at h1 h3
 exact ⟨⟨n, m, f, d⟩, rfl, mx_le h1, mx_le h3⟩
theorem conf_Pks {xs : List (List D)} (hl : xs.length ≤ maxLen) (h : ∀ x ∈ xs, conf ckPk x) : ∃ l : List Pk, xs = l.map ePk ∧ BgPs l := by
 obtain ⟨l, rfl, h1⟩ := conf_list (fun x hx => conf_Pk (h x hx))
 rw [List.length_map] at hl
 exact ⟨l, rfl, mx_le hl, h1⟩
theorem conf_Dk {x : List D} (h : conf ckDk x) : ∃ d : Dk, x = eDk d ∧ BgD d := by
 obtain ⟨db, _, rfl, a1, a2, fs, _, rfl, b1, b2, has, _, rfl, jr, _, rfl, c1, c2, h⟩ := h
 have h := (show _ = [] from h)
 subst h
 obtain ⟨db, rfl, d1⟩ := conf_Pks a1 a2
 obtain ⟨jr, rfl, d2⟩ := conf_Pks c1 c2
 obtain ⟨fs, rfl, _⟩ := conf_list (fun x hx => conf_I (b2 x hx))
 rw [List.length_map] at b1
 exact ⟨⟨db, fs, has, jr⟩, rfl, d1, mx_le b1, d2⟩
theorem conf_St {x : List D} (h : conf ckSt x) : ∃ s : Stp, x = eSt s ∧ BgPs s.pkgs := by
 obtain ⟨k, _, rfl, _, p, _, rfl, _, d, _, rfl, _, ps, _, rfl, c1, c2, h⟩ := h
 have h := (show _ = [] from h)
 subst h
 obtain ⟨ps, rfl, d2⟩ := conf_Pks c1 c2
 exact ⟨⟨k, p, d, ps⟩, rfl, d2⟩

end V
end Go.Proofs.Ytgialjcichiaoaa

/-
The given statements of four laws on putting in.
-/
namespace Go.Proofs.Ytgialjcichiaoaa
namespace V
set_option maxRecDepth 100000
open Go.ChangeShapes Go.WideShapes Go.ChangeAt Go.RowKit

theorem conf_Sts {xs : List (List D)} (hl : xs.length ≤ maxLen) (h : ∀ x ∈ xs, conf ckSt x) : ∃ l : List Stp, xs = l.map eSt ∧ BgSs l := by
 obtain ⟨l, rfl, h1⟩ := conf_list (fun x hx => conf_St (h x hx))
 rw [List.length_map] at hl
 exact ⟨l, rfl, mx_le hl, h1⟩
def ckPks : Ck := .sl ckPk .nil
def ckSts : Ck := .sl ckSt .nil
def ckB : Ck := .bool .nil
theorem conf_ePks {x : List D} (h : conf ckPks x) : ∃ l : List Pk, x = ePks l ∧ BgPs l := by
 obtain ⟨xs, _, rfl, h1, h2, h⟩ := h
 have h := (show _ = [] from h)
 subst h
 obtain ⟨l, rfl, h3⟩ := conf_Pks h1 h2
 exact ⟨l, rfl, h3⟩
theorem conf_eSts {x : List D} (h : conf ckSts x) : ∃ l : List Stp, x = eSts l ∧ BgSs l := by
 obtain ⟨xs, _, rfl, h1, h2, h⟩ := h
 have h := (show _ = [] from h)
 subst h
 obtain ⟨l, rfl, h3⟩ := conf_Sts h1 h2
 exact ⟨l, rfl, h3⟩
theorem conf_B {x : List D} (h : conf ckB x) : ∃ b : Bool, x = bo b := by
 obtain ⟨b, _, rfl, h⟩ := h
 have h := (show _ = [] from h)
 subst h
 exact ⟨b, rfl⟩
end V
end Go.Proofs.Ytgialjcichiaoaa

/-
Plain proofs: what the laws compare.
-/
namespace Go.Proofs.Ytgialjcichiaoaa
namespace V
open Classical
set_option maxRecDepth 100000
variable {W : Wld}

theorem p2_ext {p q : P2} (h1 : p.a = q.a) (h2 : p.b = q.b) : p = q := by cases p; cases q; simp_all
theorem pk_ext {p q : Pk} (h1 : p.name = q.name) (h2 : p.ver = q.ver) (h3 : p.files = q.files) (h4 : p.deps = q.deps) : p = q := by cases p; cases q; simp_all

theorem dk_ext {p q : Dk} (h1 : p.db = q.db) (h2 : p.files = q.files) (h3 : p.has = q.has) (h4 : p.jour = q.jour) : p = q := by cases p; cases q; simp_all
end V
end Go.Proofs.Ytgialjcichiaoaa

/-
Plain proofs: what the laws compare, mark and find marked: lists of numbers, files, packages.
-/
namespace Go.Proofs.Ytgialjcichiaoaa
namespace V
open Classical
set_option maxRecDepth 100000
variable {W : Wld}

theorem eqIntS_ok (a b : List Int) (ha : a.length ≤ lim) : FunOk PP W n_l_eqIntS s_l_eqIntS [eIs a, eIs b] [bo (decide (a = b))] := by
 refine F_l_eqIntS (run_fun ?_)
 unfold lim at ha
 (repeat' first
  | (refine run_ite rfl (fun h => ?_) (fun h => ?_) <;> (try simp (disch := omega) only [zA, z13, z19, z20, z21, z22, z23, z24, z25, z31, eqDs, eqD, Nat.reduceAdd, wrap64] at h) <;> (try (exfalso; omega)))
  | (refine run_need rfl (by (try simp (disch := omega) only [zA, z13, z19, z20, z21, z22, z23, z24, z25, z31, eqDs, eqD, Nat.reduceAdd, wrap64]); first | exact elp_m (by omega) (by first | omega | (simp only [List.length_set]; omega)) (fun _ => rfl) | exact eld_m (by omega) (by first | omega | (simp only [List.length_set]; omega)) (fun _ => rfl) | exact els_m (by omega) (by omega) (by omega) rfl | exact lsl_m (by omega) (fun _ => rfl) | exact app_nil_m (by omega) (fun _ => rfl) (fun _ => rfl) | exact app_m_one (by omega) (fun _ => rfl) rfl rfl | exact app_m_m (by omega) (fun _ => rfl) (fun _ => rfl)) ?_)
  | (refine run_need rfl (by first | decide | omega | (simp only [List.length_map]; omega)) ?_)
  | (refine run_need rfl ?_ ?_)
  | (refine run_ret rfl ?_ ; first | refine rb ?_ | refine ri ?_ | refine rs2 ?_ ?_ | refine rs1 ?_)
  | (refine run_retx rfl ?_))
 ·exact fD (fun h' => by simp_all)
 have hn : a.length = b.length := by omega
 clear h
 refine run_loop rfl (fun i : Int => 0 ≤ i ∧ i ≤ a.length ∧ Blw i (fun j => ix a j = ix b j)) (fun i => [(5, .val (i64 i)), (0, .val (eIs a)), (1, .val (eIs b))]) (fun i => (a.length - i).toNat) 0 ⟨by omega, by omega, blw_zero _⟩ ⟨rfl, rfl, rfl, trivial⟩ rfl ?_
 rintro i e ⟨h0, hN, hP⟩
 (repeat' first
  | (refine run_ite rfl (fun h => ?_) (fun h => ?_) <;> (try simp (disch := omega) only [zA, z13, z19, z20, z21, z22, z23, z24, z25, z31, eqDs, eqD, Nat.reduceAdd, wrap64] at h) <;> (try (exfalso; omega)))
  | (refine run_need rfl (by (try simp (disch := omega) only [zA, z13, z19, z20, z21, z22, z23, z24, z25, z31, eqDs, eqD, Nat.reduceAdd, wrap64]); first | exact elp_m (by omega) (by first | omega | (simp only [List.length_set]; omega)) (fun _ => rfl) | exact eld_m (by omega) (by first | omega | (simp only [List.length_set]; omega)) (fun _ => rfl) | exact els_m (by omega) (by omega) (by omega) rfl | exact lsl_m (by omega) (fun _ => rfl) | exact app_nil_m (by omega) (fun _ => rfl) (fun _ => rfl) | exact app_m_one (by omega) (fun _ => rfl) rfl rfl | exact app_m_m (by omega) (fun _ => rfl) (fun _ => rfl)) ?_)
  | (refine run_need rfl (by first | decide | omega | (simp only [List.length_map]; omega)) ?_)
  | (refine run_next rfl (Exists.intro (i + 1) ⟨by omega, ⟨by omega, by omega, blw_succ hP (by assumption)⟩, i64_eq (wrap64 _ (by omega)), rfl, rfl, trivial⟩))
  | (refine run_need rfl ?_ ?_)
  | (refine run_ret rfl ?_ ; first | refine rb ?_ | refine ri ?_ | refine rs2 ?_ ?_ | refine rs1 ?_)
  | (refine run_retx rfl ?_))
 ·exact fD (fun h' => by subst h'; exact absurd rfl (by assumption))
 ·exact tD (ix_ext hn (blw_to hP (by omega)))

theorem eqFile_ok (p q : P2) : FunOk PP W n_l_eqFile s_l_eqFile [eP2 p, eP2 q] [bo (decide (p = q))] := by
 refine F_l_eqFile (run_fun ?_)
 (repeat' first
  | (refine run_ite rfl (fun h => ?_) (fun h => ?_) <;> (try simp (disch := omega) only [zA, z13, z19, z20, z21, z22, z23, z24, z25, z31, eqDs, eqD, Nat.reduceAdd, wrap64] at h) <;> (try (exfalso; omega)))
  | (refine run_need rfl (by (try simp (disch := omega) only [zA, z13, z19, z20, z21, z22, z23, z24, z25, z31, eqDs, eqD, Nat.reduceAdd, wrap64]); first | exact elp_m (by omega) (by first | omega | (simp only [List.length_set]; omega)) (fun _ => rfl) | exact eld_m (by omega) (by first | omega | (simp only [List.length_set]; omega)) (fun _ => rfl) | exact els_m (by omega) (by omega) (by omega) rfl | exact lsl_m (by omega) (fun _ => rfl) | exact app_nil_m (by omega) (fun _ => rfl) (fun _ => rfl) | exact app_m_one (by omega) (fun _ => rfl) rfl rfl | exact app_m_m (by omega) (fun _ => rfl) (fun _ => rfl)) ?_)
  | (refine run_need rfl (by first | decide | omega | (simp only [List.length_map]; omega)) ?_)
  | (refine run_need rfl ?_ ?_)
  | (refine run_ret rfl ?_ ; first | refine rb ?_ | refine ri ?_ | refine rs2 ?_ ?_ | refine rs1 ?_)
  | (refine run_retx rfl ?_))
 ·exact fD (fun h' => by simp_all)
 ·exact fD (fun h' => by simp_all)
 ·exact tD (p2_ext (by assumption) (by assumption))
theorem eqFileS_ok (a b : List P2) (ha : a.length ≤ lim) : FunOk PP W n_l_eqFileS s_l_eqFileS [eP2s a, eP2s b] [bo (decide (a = b))] := by
 refine F_l_eqFileS (run_fun ?_)
 unfold lim at ha
 (repeat' first
  | (refine run_ite rfl (fun h => ?_) (fun h => ?_) <;> (try simp (disch := omega) only [zA, z13, z19, z20, z21, z22, z23, z24, z25, z31, eqDs, eqD, Nat.reduceAdd, wrap64] at h) <;> (try (exfalso; omega)))
  | (refine run_need rfl (by (try simp (disch := omega) only [zA, z13, z19, z20, z21, z22, z23, z24, z25, z31, eqDs, eqD, Nat.reduceAdd, wrap64]); first | exact elp_m (by omega) (by first | omega | (simp only [List.length_set]; omega)) (fun _ => rfl) | exact eld_m (by omega) (by first | omega | (simp only [List.length_set]; omega)) (fun _ => rfl) | exact els_m (by omega) (by omega) (by omega) rfl | exact lsl_m (by omega) (fun _ => rfl) | exact app_nil_m (by omega) (fun _ => rfl) (fun _ => rfl) | exact app_m_one (by omega) (fun _ => rfl) rfl rfl | exact app_m_m (by omega) (fun _ => rfl) (fun _ => rfl)) ?_)
  | (refine run_need rfl (by first | decide | omega | (simp only [List.length_map]; omega)) ?_)
  | (refine run_need rfl ?_ ?_)
  | (refine run_ret rfl ?_ ; first | refine rb ?_ | refine ri ?_ | refine rs2 ?_ ?_ | refine rs1 ?_)
  | (refine run_retx rfl ?_))
 ·exact fD (fun h' => by simp_all)
 have hn : a.length = b.length := by omega
 clear h
 refine run_loop rfl (fun i : Int => 0 ≤ i ∧ i ≤ a.length ∧ Blw i (fun j => ix a j = ix b j)) (fun i => [(5, .val (i64 i)), (0, .val (eP2s a)), (1, .val (eP2s b))]) (fun i => (a.length - i).toNat) 0 ⟨by omega, by omega, blw_zero _⟩ ⟨rfl, rfl, rfl, trivial⟩ rfl ?_
 rintro i e ⟨h0, hN, hP⟩
 (repeat' first
  | (refine run_ite rfl (fun h => ?_) (fun h => ?_) <;> (try simp (disch := omega) only [zA, z13, z19, z20, z21, z22, z23, z24, z25, z31, eqDs, eqD, Nat.reduceAdd, wrap64] at h) <;> (try (exfalso; omega)))
  | (refine run_need rfl (by (try simp (disch := omega) only [zA, z13, z19, z20, z21, z22, z23, z24, z25, z31, eqDs, eqD, Nat.reduceAdd, wrap64]); first | exact elp_m (by omega) (by first | omega | (simp only [List.length_set]; omega)) (fun _ => rfl) | exact eld_m (by omega) (by first | omega | (simp only [List.length_set]; omega)) (fun _ => rfl) | exact els_m (by omega) (by omega) (by omega) rfl | exact lsl_m (by omega) (fun _ => rfl) | exact app_nil_m (by omega) (fun _ => rfl) (fun _ => rfl) | exact app_m_one (by omega) (fun _ => rfl) rfl rfl | exact app_m_m (by omega) (fun _ => rfl) (fun _ => rfl)) ?_)
  | (refine run_need rfl (by first | decide | omega | (simp only [List.length_map]; omega)) ?_)
  | (refine run_calleq rfl (eqFile_ok (ix a i) (ix b i)) (by simp (disch := omega) only [zA, z13, z19, z20, z21, z22, z23, z24, z25, z31, eqDs, eqD, Nat.reduceAdd, wrap64]) rfl ?_)
  | (refine run_next rfl (Exists.intro (i + 1) ⟨by omega, ⟨by omega, by omega, blw_succ hP (by assumption)⟩, i64_eq (wrap64 _ (by omega)), rfl, rfl, trivial⟩))
  | (refine run_need rfl ?_ ?_)
  | (refine run_ret rfl ?_ ; first | refine rb ?_ | refine ri ?_ | refine rs2 ?_ ?_ | refine rs1 ?_)
  | (refine run_retx rfl ?_))
 ·exact fD (fun h' => by subst h'; exact absurd rfl (by assumption))
 ·exact tD (ix_ext hn (blw_to hP (by omega)))

theorem eqDep_ok (p q : P2) : FunOk PP W n_l_eqDep s_l_eqDep [eP2 p, eP2 q] [bo (decide (p = q))] := by
 refine F_l_eqDep (run_fun ?_)
 (repeat' first
  | (refine run_ite rfl (fun h => ?_) (fun h => ?_) <;> (try simp (disch := omega) only [zA, z13, z19, z20, z21, z22, z23, z24, z25, z31, eqDs, eqD, Nat.reduceAdd, wrap64] at h) <;> (try (exfalso; omega)))
  | (refine run_need rfl (by (try simp (disch := omega) only [zA, z13, z19, z20, z21, z22, z23, z24, z25, z31, eqDs, eqD, Nat.reduceAdd, wrap64]); first | exact elp_m (by omega) (by first | omega | (simp only [List.length_set]; omega)) (fun _ => rfl) | exact eld_m (by omega) (by first | omega | (simp only [List.length_set]; omega)) (fun _ => rfl) | exact els_m (by omega) (by omega) (by omega) rfl | exact lsl_m (by omega) (fun _ => rfl) | exact app_nil_m (by omega) (fun _ => rfl) (fun _ => rfl) | exact app_m_one (by omega) (fun _ => rfl) rfl rfl | exact app_m_m (by omega) (fun _ => rfl) (fun _ => rfl)) ?_)
  | (refine run_need rfl (by first | decide | omega | (simp only [List.length_map]; omega)) ?_)
  | (refine run_need rfl ?_ ?_)
  | (refine run_ret rfl ?_ ; first | refine rb ?_ | refine ri ?_ | refine rs2 ?_ ?_ | refine rs1 ?_)
  | (refine run_retx rfl ?_))
 ·exact fD (fun h' => by simp_all)
 ·exact fD (fun h' => by simp_all)
 ·exact tD (p2_ext (by assumption) (by assumption))
theorem eqDepS_ok (a b : List P2) (ha : a.length ≤ lim) : FunOk PP W n_l_eqDepS s_l_eqDepS [eP2s a, eP2s b] [bo (decide (a = b))] := by
 refine F_l_eqDepS (run_fun ?_)
 unfold lim at ha
 (repeat' first
  | (refine run_ite rfl (fun h => ?_) (fun h => ?_) <;> (try simp (disch := omega) only [zA, z13, z19, z20, z21, z22, z23, z24, z25, z31, eqDs, eqD, Nat.reduceAdd, wrap64] at h) <;> (try (exfalso; omega)))
  | (refine run_need rfl (by (try simp (disch := omega) only [zA, z13, z19, z20, z21, z22, z23, z24, z25, z31, eqDs, eqD, Nat.reduceAdd, wrap64]); first | exact elp_m (by omega) (by first | omega | (simp only [List.length_set]; omega)) (fun _ => rfl) | exact eld_m (by omega) (by first | omega | (simp only [List.length_set]; omega)) (fun _ => rfl) | exact els_m (by omega) (by omega) (by omega) rfl | exact lsl_m (by omega) (fun _ => rfl) | exact app_nil_m (by omega) (fun _ => rfl) (fun _ => rfl) | exact app_m_one (by omega) (fun _ => rfl) rfl rfl | exact app_m_m (by omega) (fun _ => rfl) (fun _ => rfl)) ?_)
  | (refine run_need rfl (by first | decide | omega | (simp only [List.length_map]; omega)) ?_)
  | (refine run_need rfl ?_ ?_)
  | (refine run_ret rfl ?_ ; first | refine rb ?_ | refine ri ?_ | refine rs2 ?_ ?_ | refine rs1 ?_)
  | (refine run_retx rfl ?_))
 ·exact fD (fun h' => by simp_all)
 have hn : a.length = b.length := by omega
 clear h
 refine run_loop rfl (fun i : Int => 0 ≤ i ∧ i ≤ a.length ∧ Blw i (fun j => ix a j = ix b j)) (fun i => [(5, .val (i64 i)), (0, .val (eP2s a)), (1, .val (eP2s b))]) (fun i => (a.length - i).toNat) 0 ⟨by omega, by omega, blw_zero _⟩ ⟨rfl, rfl, rfl, trivial⟩ rfl ?_
 rintro i e ⟨h0, hN, hP⟩
 (repeat' first
  | (refine run_ite rfl (fun h => ?_) (fun h => ?_) <;> (try simp (disch := omega) only [zA, z13, z19, z20, z21, z22, z23, z24, z25, z31, eqDs, eqD, Nat.reduceAdd, wrap64] at h) <;> (try (exfalso; omega)))
  | (refine run_need rfl (by (try simp (disch := omega) only [zA, z13, z19, z20, z21, z22, z23, z24, z25, z31, eqDs, eqD, Nat.reduceAdd, wrap64]); first | exact elp_m (by omega) (by first | omega | (simp only [List.length_set]; omega)) (fun _ => rfl) | exact eld_m (by omega) (by first | omega | (simp only [List.length_set]; omega)) (fun _ => rfl) | exact els_m (by omega) (by omega) (by omega) rfl | exact lsl_m (by omega) (fun _ => rfl) | exact app_nil_m (by omega) (fun _ => rfl) (fun _ => rfl) | exact app_m_one (by omega) (fun _ => rfl) rfl rfl | exact app_m_m (by omega) (fun _ => rfl) (fun _ => rfl)) ?_)
  | (refine run_need rfl (by first | decide | omega | (simp only [List.length_map]; omega)) ?_)
  | (refine run_calleq rfl (eqDep_ok (ix a i) (ix b i)) (by simp (disch := omega) only [zA, z13, z19, z20, z21, z22, z23, z24, z25, z31, eqDs, eqD, Nat.reduceAdd, wrap64]) rfl ?_)
  | (refine run_next rfl (Exists.intro (i + 1) ⟨by omega, ⟨by omega, by omega, blw_succ hP (by assumption)⟩, i64_eq (wrap64 _ (by omega)), rfl, rfl, trivial⟩))
  | (refine run_need rfl ?_ ?_)
  | (refine run_ret rfl ?_ ; first | refine rb ?_ | refine ri ?_ | refine rs2 ?_ ?_ | refine rs1 ?_)
  | (refine run_retx rfl ?_))
 ·exact fD (fun h' => by subst h'; exact absurd rfl (by assumption))
 ·exact tD (ix_ext hn (blw_to hP (by omega)))

theorem eqPkg_ok (p q : Pk) (hs : SmP p) : FunOk PP W n_l_eqPkg s_l_eqPkg [ePk p, ePk q] [bo (decide (p = q))] := by
 refine F_l_eqPkg (run_fun ?_)
 obtain ⟨h1, h2⟩ := hs
 (repeat' first
  | (refine run_ite rfl (fun h => ?_) (fun h => ?_) <;> (try simp (disch := omega) only [zA, z13, z19, z20, z21, z22, z23, z24, z25, z31, eqDs, eqD, Nat.reduceAdd, wrap64] at h) <;> (try (exfalso; omega)))
  | (refine run_need rfl (by (try simp (disch := omega) only [zA, z13, z19, z20, z21, z22, z23, z24, z25, z31, eqDs, eqD, Nat.reduceAdd, wrap64]); first | exact elp_m (by omega) (by first | omega | (simp only [List.length_set]; omega)) (fun _ => rfl) | exact eld_m (by omega) (by first | omega | (simp only [List.length_set]; omega)) (fun _ => rfl) | exact els_m (by omega) (by omega) (by omega) rfl | exact lsl_m (by omega) (fun _ => rfl) | exact app_nil_m (by omega) (fun _ => rfl) (fun _ => rfl) | exact app_m_one (by omega) (fun _ => rfl) rfl rfl | exact app_m_m (by omega) (fun _ => rfl) (fun _ => rfl)) ?_)
  | (refine run_need rfl (by first | decide | omega | (simp only [List.length_map]; omega)) ?_)
  | (refine run_call1 rfl (eqFileS_ok p.files q.files h1) rfl ?_)
  | (refine run_call1 rfl (eqDepS_ok p.deps q.deps h2) rfl ?_)
  | (refine run_need rfl ?_ ?_)
  | (refine run_ret rfl ?_ ; first | refine rb ?_ | refine ri ?_ | refine rs2 ?_ ?_ | refine rs1 ?_)
  | (refine run_retx rfl ?_))
 ·exact fD (fun h' => by simp_all)
 ·exact fD (fun h' => by simp_all)
 ·exact fD (fun h' => by subst h'; exact absurd rfl (by assumption))
 ·exact fD (fun h' => by subst h'; exact absurd rfl (by assumption))
 ·exact tD (pk_ext (by assumption) (by assumption) (by assumption) (by assumption))
theorem eqPkgS_ok (a b : List Pk) (ha : SmPs a) : FunOk PP W n_l_eqPkgS s_l_eqPkgS [ePks a, ePks b] [bo (decide (a = b))] := by
 refine F_l_eqPkgS (run_fun ?_)
 have hl := ha.1
 unfold lim at hl
 (repeat' first
  | (refine run_ite rfl (fun h => ?_) (fun h => ?_) <;> (try simp (disch := omega) only [zA, z13, z19, z20, z21, z22, z23, z24, z25, z31, eqDs, eqD, Nat.reduceAdd, wrap64] at h) <;> (try (exfalso; omega)))
  | (refine run_need rfl (by (try simp (disch := omega) only [zA, z13, z19, z20, z21, z22, z23, z24, z25, z31, eqDs, eqD, Nat.reduceAdd, wrap64]); first | exact elp_m (by omega) (by first | omega | (simp only [List.length_set]; omega)) (fun _ => rfl) | exact eld_m (by omega) (by first | omega | (simp only [List.length_set]; omega)) (fun _ => rfl) | exact els_m (by omega) (by omega) (by omega) rfl | exact lsl_m (by omega) (fun _ => rfl) | exact app_nil_m (by omega) (fun _ => rfl) (fun _ => rfl) | exact app_m_one (by omega) (fun _ => rfl) rfl rfl | exact app_m_m (by omega) (fun _ => rfl) (fun _ => rfl)) ?_)
  | (refine run_need rfl (by first | decide | omega | (simp only [List.length_map]; omega)) ?_)
  | (refine run_need rfl ?_ ?_)
  | (refine run_ret rfl ?_ ; first | refine rb ?_ | refine ri ?_ | refine rs2 ?_ ?_ | refine rs1 ?_)
  | (refine run_retx rfl ?_))
 ·exact fD (fun h' => by simp_all)
 have hn : a.length = b.length := by omega
 clear h
 refine run_loop rfl (fun i : Int => 0 ≤ i ∧ i ≤ a.length ∧ Blw i (fun j => ix a j = ix b j)) (fun i => [(5, .val (i64 i)), (0, .val (ePks a)), (1, .val (ePks b))]) (fun i => (a.length - i).toNat) 0 ⟨by omega, by omega, blw_zero _⟩ ⟨rfl, rfl, rfl, trivial⟩ rfl ?_
 rintro i e ⟨h0, hN, hP⟩
 (repeat' first
  | (refine run_ite rfl (fun h => ?_) (fun h => ?_) <;> (try simp (disch := omega) only [zA, z13, z19, z20, z21, z22, z23, z24, z25, z31, eqDs, eqD, Nat.reduceAdd, wrap64] at h) <;> (try (exfalso; omega)))
  | (refine run_need rfl (by (try simp (disch := omega) only [zA, z13, z19, z20, z21, z22, z23, z24, z25, z31, eqDs, eqD, Nat.reduceAdd, wrap64]); first | exact elp_m (by omega) (by first | omega | (simp only [List.length_set]; omega)) (fun _ => rfl) | exact eld_m (by omega) (by first | omega | (simp only [List.length_set]; omega)) (fun _ => rfl) | exact els_m (by omega) (by omega) (by omega) rfl | exact lsl_m (by omega) (fun _ => rfl) | exact app_nil_m (by omega) (fun _ => rfl) (fun _ => rfl) | exact app_m_one (by omega) (fun _ => rfl) rfl rfl | exact app_m_m (by omega) (fun _ => rfl) (fun _ => rfl)) ?_)
  | (refine run_need rfl (by first | decide | omega | (simp only [List.length_map]; omega)) ?_)
  | (refine run_calleq rfl (eqPkg_ok (ix a i) (ix b i) (smPs_ix ha (by omega) (by omega))) (by simp (disch := omega) only [zA, z13, z19, z20, z21, z22, z23, z24, z25, z31, eqDs, eqD, Nat.reduceAdd, wrap64]) rfl ?_)
  | (refine run_next rfl (Exists.intro (i + 1) ⟨by omega, ⟨by omega, by omega, blw_succ hP (by assumption)⟩, i64_eq (wrap64 _ (by omega)), rfl, rfl, trivial⟩))
  | (refine run_need rfl ?_ ?_)
  | (refine run_ret rfl ?_ ; first | refine rb ?_ | refine ri ?_ | refine rs2 ?_ ?_ | refine rs1 ?_)
  | (refine run_retx rfl ?_))
 ·exact fD (fun h' => by subst h'; exact absurd rfl (by assumption))
 ·exact tD (ix_ext hn (blw_to hP (by omega)))

/-! What is marked. -/
def markI (l : List Int) (k : Int) : List Int := (List.range l.length).map fun (j : Nat) => k + (j : Int)
def markP2 (l : List P2) (k : Int) : List P2 := (List.range l.length).map fun (j : Nat) => ⟨k + 2 * (j : Int), k + 2 * (j : Int) + 1⟩
theorem markI_len (l : List Int) (k : Int) : (markI l k).length = l.length := by simp [markI]
theorem markP2_len (l : List P2) (k : Int) : (markP2 l k).length = l.length := by simp [markP2]
theorem ix_range {α : Type} [Inhabited α] {n : Nat} {f : Nat → α} {i : Int} (h0 : 0 ≤ i) (h1 : i < n) : ix ((List.range n).map f) i = f i.toNat := by
 have : i.toNat < n := by omega
 simp [ix, this]
theorem markI_ix (l : List Int) (k : Int) {i : Int} (h0 : 0 ≤ i) (h1 : i < l.length) : ix (markI l k) i = k + i := by
 unfold markI
 rw [ix_range h0 h1]
 omega
theorem markP2_ix (l : List P2) (k : Int) {i : Int} (h0 : 0 ≤ i) (h1 : i < l.length) : ix (markP2 l k) i = ⟨k + 2 * i, k + 2 * i + 1⟩ := by
 unfold markP2
 rw [ix_range h0 h1]
 simp only [show ((i.toNat : Nat) : Int) = i by omega]
theorem blw_put {α : Type} [Inhabited α] {ys : List α} {f : Int → α} {i : Int} (h0 : 0 ≤ i) (h1 : i < ys.length) (h : Blw i (fun j => ix ys j = f j)) : Blw (i + 1) (fun j => ix (ys.set i.toNat (f i)) j = f j) := fun j j0 j1 => by
 show ix (ys.set i.toNat (f i)) j = f j
 rw [ix_sgx h0 h1 j0]
 by_cases e : j = i
 ·rw [if_pos e, e]
 ·rw [if_neg e]
  exact h j j0 (by omega)

theorem markIntS_ok (l : List Int) (k : Int) (h0 : 0 ≤ k) (hk : k + l.length ≤ 1099511627776) : FunOk PP W n_l_markIntS s_l_markIntS_X [eIs l, i64 k] [i64 (k + l.length), eIs (markI l k)] := by
 refine F_l_markIntS_X (run_fun ?_)
 (repeat' first
  | (refine run_ite rfl (fun h => ?_) (fun h => ?_) <;> (try simp (disch := omega) only [zA, z13, z19, z20, z21, z22, z23, z24, z25, z31, eqDs, eqD, Nat.reduceAdd, wrap64] at h) <;> (try (exfalso; omega)))
  | (refine run_need rfl (by (try simp (disch := omega) only [zA, z13, z19, z20, z21, z22, z23, z24, z25, z31, eqDs, eqD, Nat.reduceAdd, wrap64]); first | exact elp_m (by omega) (by first | omega | (simp only [List.length_set]; omega)) (fun _ => rfl) | exact eld_m (by omega) (by first | omega | (simp only [List.length_set]; omega)) (fun _ => rfl) | exact els_m (by omega) (by omega) (by omega) rfl | exact lsl_m (by omega) (fun _ => rfl) | exact app_nil_m (by omega) (fun _ => rfl) (fun _ => rfl) | exact app_m_one (by omega) (fun _ => rfl) rfl rfl | exact app_m_m (by omega) (fun _ => rfl) (fun _ => rfl)) ?_)
  | (refine run_need rfl (by first | decide | omega | (simp only [List.length_map]; omega)) ?_)
  | (refine run_need rfl ?_ ?_)
  | (refine run_ret rfl ?_ ; first | refine rb ?_ | refine ri ?_ | refine rs2 ?_ ?_ | refine rs1 ?_)
  | (refine run_retx rfl ?_))
 refine run_loop rfl (fun x : Int × List Int => 0 ≤ x.1 ∧ x.1 ≤ l.length ∧ x.2.length = l.length ∧ Blw x.1 (fun j => ix x.2 j = k + j)) (fun x => [(5, .val (i64 x.1)), (1, .val (i64 (k + x.1))), (0, .val (eIs x.2))]) (fun x => (l.length - x.1).toNat) (0, l) ⟨by omega, by simp, rfl, blw_zero _⟩ ⟨rfl, i64_eq (by simp), rfl, trivial⟩ rfl ?_
 rintro ⟨i, ys⟩ e ⟨i0, hN, hy, hP⟩
 dsimp only at i0 hN hy hP ⊢
 (repeat' first
  | (refine run_ite rfl (fun h => ?_) (fun h => ?_) <;> (try simp (disch := omega) only [zA, z13, z19, z20, z21, z22, z23, z24, z25, z31, eqDs, eqD, Nat.reduceAdd, wrap64] at h) <;> (try (exfalso; omega)))
  | (refine run_need rfl (by (try simp (disch := omega) only [zA, z13, z19, z20, z21, z22, z23, z24, z25, z31, eqDs, eqD, Nat.reduceAdd, wrap64]); first | exact elp_m (by omega) (by first | omega | (simp only [List.length_set]; omega)) (fun _ => rfl) | exact eld_m (by omega) (by first | omega | (simp only [List.length_set]; omega)) (fun _ => rfl) | exact els_m (by omega) (by omega) (by omega) rfl | exact lsl_m (by omega) (fun _ => rfl) | exact app_nil_m (by omega) (fun _ => rfl) (fun _ => rfl) | exact app_m_one (by omega) (fun _ => rfl) rfl rfl | exact app_m_m (by omega) (fun _ => rfl) (fun _ => rfl)) ?_)
  | (refine run_need rfl (by first | decide | omega | (simp only [List.length_map]; omega)) ?_)
  | (refine run_next rfl (Exists.intro (i + 1, ys.set i.toNat (k + i)) ⟨by dsimp only; omega, ⟨by dsimp only; omega, by dsimp only; omega, by simpa using hy, blw_put (f := fun j => k + j) i0 (by omega) hP⟩, i64_eq (wrap64 _ (by omega)), i64_eq (by rw [wrap64 _ (by omega)]; dsimp only; omega), sl_eq (els_v i0 (by omega)), trivial⟩))
  | (refine run_need rfl ?_ ?_)
  | (refine run_ret rfl ?_ ; first | refine rb ?_ | refine ri ?_ | refine rs2 ?_ ?_ | refine rs1 ?_)
  | (refine run_retx rfl ?_))
 ·exact i64_eq (by omega)
 ·refine sl_eq ?_
  rw [ix_ext (xs := ys) (ys := markI l k) (by rw [markI_len, hy]) (fun j j0 j1 => (hP j j0 (by omega)).trans (markI_ix l k j0 (by omega)).symm)]
theorem heldIntS_ok (l : List Int) (k : Int) (h0 : 0 ≤ k) (hk : k + l.length ≤ 1099511627776) (hh : Blw l.length (fun j => ix l j = k + j)) : FunOk PP W n_l_heldIntS s_l_heldIntS [eIs l, i64 k] [i64 (k + l.length)] := by
 refine F_l_heldIntS (run_fun ?_)
 (repeat' first
  | (refine run_ite rfl (fun h => ?_) (fun h => ?_) <;> (try simp (disch := omega) only [zA, z13, z19, z20, z21, z22, z23, z24, z25, z31, eqDs, eqD, Nat.reduceAdd, wrap64] at h) <;> (try (exfalso; omega)))
  | (refine run_need rfl (by (try simp (disch := omega) only [zA, z13, z19, z20, z21, z22, z23, z24, z25, z31, eqDs, eqD, Nat.reduceAdd, wrap64]); first | exact elp_m (by omega) (by first | omega | (simp only [List.length_set]; omega)) (fun _ => rfl) | exact eld_m (by omega) (by first | omega | (simp only [List.length_set]; omega)) (fun _ => rfl) | exact els_m (by omega) (by omega) (by omega) rfl | exact lsl_m (by omega) (fun _ => rfl) | exact app_nil_m (by omega) (fun _ => rfl) (fun _ => rfl) | exact app_m_one (by omega) (fun _ => rfl) rfl rfl | exact app_m_m (by omega) (fun _ => rfl) (fun _ => rfl)) ?_)
  | (refine run_need rfl (by first | decide | omega | (simp only [List.length_map]; omega)) ?_)
  | (refine run_need rfl ?_ ?_)
  | (refine run_ret rfl ?_ ; first | refine rb ?_ | refine ri ?_ | refine rs2 ?_ ?_ | refine rs1 ?_)
  | (refine run_retx rfl ?_))
 refine run_loop rfl (fun x : Int => 0 ≤ x ∧ x ≤ l.length) (fun x => [(5, .val (i64 x)), (1, .val (i64 (k + x))), (0, .val (eIs l))]) (fun x => (l.length - x).toNat) 0 ⟨by omega, by simp⟩ ⟨rfl, i64_eq (by simp), rfl, trivial⟩ rfl ?_
 rintro i e ⟨i0, hN⟩
 by_cases hi : i < l.length
 ·have hx : ix l i = k + i := hh i i0 hi
  (repeat' first
  | (refine run_ite rfl (fun h => ?_) (fun h => ?_) <;> (try simp (disch := omega) only [zA, z13, z19, z20, z21, z22, z23, z24, z25, z31, eqDs, eqD, Nat.reduceAdd, wrap64] at h) <;> (try (exfalso; omega)))
  | (refine run_need rfl (by (try simp (disch := omega) only [zA, z13, z19, z20, z21, z22, z23, z24, z25, z31, eqDs, eqD, Nat.reduceAdd, wrap64]); first | exact elp_m (by omega) (by first | omega | (simp only [List.length_set]; omega)) (fun _ => rfl) | exact eld_m (by omega) (by first | omega | (simp only [List.length_set]; omega)) (fun _ => rfl) | exact els_m (by omega) (by omega) (by omega) rfl | exact lsl_m (by omega) (fun _ => rfl) | exact app_nil_m (by omega) (fun _ => rfl) (fun _ => rfl) | exact app_m_one (by omega) (fun _ => rfl) rfl rfl | exact app_m_m (by omega) (fun _ => rfl) (fun _ => rfl)) ?_)
  | (refine run_need rfl (by first | decide | omega | (simp only [List.length_map]; omega)) ?_)
  | (refine run_next rfl (Exists.intro (i + 1) ⟨by omega, ⟨by omega, by omega⟩, i64_eq (wrap64 _ (by omega)), i64_eq (by rw [wrap64 _ (by omega)]; omega), rfl, trivial⟩))
  | (refine run_need rfl ?_ ?_)
  | (refine run_ret rfl ?_ ; first | refine rb ?_ | refine ri ?_ | refine rs2 ?_ ?_ | refine rs1 ?_)
  | (refine run_retx rfl ?_))
 ·(repeat' first
  | (refine run_ite rfl (fun h => ?_) (fun h => ?_) <;> (try simp (disch := omega) only [zA, z13, z19, z20, z21, z22, z23, z24, z25, z31, eqDs, eqD, Nat.reduceAdd, wrap64] at h) <;> (try (exfalso; omega)))
  | (refine run_need rfl (by (try simp (disch := omega) only [zA, z13, z19, z20, z21, z22, z23, z24, z25, z31, eqDs, eqD, Nat.reduceAdd, wrap64]); first | exact elp_m (by omega) (by first | omega | (simp only [List.length_set]; omega)) (fun _ => rfl) | exact eld_m (by omega) (by first | omega | (simp only [List.length_set]; omega)) (fun _ => rfl) | exact els_m (by omega) (by omega) (by omega) rfl | exact lsl_m (by omega) (fun _ => rfl) | exact app_nil_m (by omega) (fun _ => rfl) (fun _ => rfl) | exact app_m_one (by omega) (fun _ => rfl) rfl rfl | exact app_m_m (by omega) (fun _ => rfl) (fun _ => rfl)) ?_)
  | (refine run_need rfl (by first | decide | omega | (simp only [List.length_map]; omega)) ?_)
  | (refine run_need rfl ?_ ?_)
  | (refine run_ret rfl ?_ ; first | refine rb ?_ | refine ri ?_ | refine rs2 ?_ ?_ | refine rs1 ?_)
  | (refine run_retx rfl ?_))
  omega

theorem markFileS_ok (l : List P2) (k : Int) (h0 : 0 ≤ k) (hk : k + 2 * l.length ≤ 1099511627776) : FunOk PP W n_l_markFileS s_l_markFileS_X [eP2s l, i64 k] [i64 (k + 2 * l.length), eP2s (markP2 l k)] := by
 refine F_l_markFileS_X (run_fun ?_)
 (repeat' first
  | (refine run_ite rfl (fun h => ?_) (fun h => ?_) <;> (try simp (disch := omega) only [zA, z13, z19, z20, z21, z22, z23, z24, z25, z31, eqDs, eqD, Nat.reduceAdd, wrap64] at h) <;> (try (exfalso; omega)))
  | (refine run_need rfl (by (try simp (disch := omega) only [zA, z13, z19, z20, z21, z22, z23, z24, z25, z31, eqDs, eqD, Nat.reduceAdd, wrap64]); first | exact elp_m (by omega) (by first | omega | (simp only [List.length_set]; omega)) (fun _ => rfl) | exact eld_m (by omega) (by first | omega | (simp only [List.length_set]; omega)) (fun _ => rfl) | exact els_m (by omega) (by omega) (by omega) rfl | exact lsl_m (by omega) (fun _ => rfl) | exact app_nil_m (by omega) (fun _ => rfl) (fun _ => rfl) | exact app_m_one (by omega) (fun _ => rfl) rfl rfl | exact app_m_m (by omega) (fun _ => rfl) (fun _ => rfl)) ?_)
  | (refine run_need rfl (by first | decide | omega | (simp only [List.length_map]; omega)) ?_)
  | (refine run_need rfl ?_ ?_)
  | (refine run_ret rfl ?_ ; first | refine rb ?_ | refine ri ?_ | refine rs2 ?_ ?_ | refine rs1 ?_)
  | (refine run_retx rfl ?_))
 refine run_loop rfl (fun x : Int × List P2 => 0 ≤ x.1 ∧ x.1 ≤ l.length ∧ x.2.length = l.length ∧ Blw x.1 (fun j => ix x.2 j = ⟨k + 2 * j, k + 2 * j + 1⟩)) (fun x => [(5, .val (i64 x.1)), (1, .val (i64 (k + 2 * x.1))), (0, .val (eP2s x.2))]) (fun x => (l.length - x.1).toNat) (0, l) ⟨by omega, by simp, rfl, blw_zero _⟩ ⟨rfl, i64_eq (by simp), rfl, trivial⟩ rfl ?_
 rintro ⟨i, ys⟩ e ⟨i0, hN, hy, hP⟩
 dsimp only at i0 hN hy hP ⊢
 (repeat' first
  | (refine run_ite rfl (fun h => ?_) (fun h => ?_) <;> (try simp (disch := omega) only [zA, z13, z19, z20, z21, z22, z23, z24, z25, z31, eqDs, eqD, Nat.reduceAdd, wrap64] at h) <;> (try (exfalso; omega)))
  | (refine run_need rfl (by (try simp (disch := omega) only [zA, z13, z19, z20, z21, z22, z23, z24, z25, z31, eqDs, eqD, Nat.reduceAdd, wrap64]); first | exact elp_m (by omega) (by first | omega | (simp only [List.length_set]; omega)) (fun _ => rfl) | exact eld_m (by omega) (by first | omega | (simp only [List.length_set]; omega)) (fun _ => rfl) | exact els_m (by omega) (by omega) (by omega) rfl | exact lsl_m (by omega) (fun _ => rfl) | exact app_nil_m (by omega) (fun _ => rfl) (fun _ => rfl) | exact app_m_one (by omega) (fun _ => rfl) rfl rfl | exact app_m_m (by omega) (fun _ => rfl) (fun _ => rfl)) ?_)
  | (refine run_need rfl (by first | decide | omega | (simp only [List.length_map]; omega)) ?_)
  | (refine run_elsc rfl (els_gx (sz := 2) i0 (by first | omega | (simp only [List.length_set]; omega)) (by first | omega | (simp only [List.length_set]; omega)) (fun _ => rfl) (Nat.le_of_ble_eq_true rfl)) (sl_eq (elsP2_0 i0 (by omega))) ?_)
  | (refine run_elsc rfl (els_gx (sz := 2) i0 (by first | omega | (simp only [List.length_set]; omega)) (by first | omega | (simp only [List.length_set]; omega)) (fun _ => rfl) (Nat.le_of_ble_eq_true rfl)) (sl_eq ((elsP2_1 i0 (by first | omega | (simp only [List.length_set]; omega))).trans (by rw [ix_ssx i0 (by omega), List.set_set, wrap64 _ (by omega)]))) ?_)
  | (refine run_next rfl (Exists.intro (i + 1, ys.set i.toNat ⟨k + 2 * i, k + 2 * i + 1⟩) ⟨by dsimp only; omega, ⟨by dsimp only; omega, by dsimp only; omega, by simpa using hy, blw_put (f := fun j => (⟨k + 2 * j, k + 2 * j + 1⟩ : P2)) i0 (by omega) hP⟩, i64_eq (wrap64 _ (by omega)), i64_eq (by rw [wrap64 (k + 2 * i + 1) (by omega), wrap64 _ (by omega)]; dsimp only; omega), rfl, trivial⟩))
  | (refine run_need rfl ?_ ?_)
  | (refine run_ret rfl ?_ ; first | refine rb ?_ | refine ri ?_ | refine rs2 ?_ ?_ | refine rs1 ?_)
  | (refine run_retx rfl ?_))
 ·exact i64_eq (by omega)
 ·refine sl_eq ?_
  rw [ix_ext (xs := ys) (ys := markP2 l k) (by rw [markP2_len, hy]) (fun j j0 j1 => (hP j j0 (by omega)).trans (markP2_ix l k j0 (by omega)).symm)]
theorem heldFileS_ok (l : List P2) (k : Int) (h0 : 0 ≤ k) (hk : k + 2 * l.length ≤ 1099511627776) (hh : Blw l.length (fun j => ix l j = ⟨k + 2 * j, k + 2 * j + 1⟩)) : FunOk PP W n_l_heldFileS s_l_heldFileS [eP2s l, i64 k] [i64 (k + 2 * l.length)] := by
 refine F_l_heldFileS (run_fun ?_)
 (repeat' first
  | (refine run_ite rfl (fun h => ?_) (fun h => ?_) <;> (try simp (disch := omega) only [zA, z13, z19, z20, z21, z22, z23, z24, z25, z31, eqDs, eqD, Nat.reduceAdd, wrap64] at h) <;> (try (exfalso; omega)))
  | (refine run_need rfl (by (try simp (disch := omega) only [zA, z13, z19, z20, z21, z22, z23, z24, z25, z31, eqDs, eqD, Nat.reduceAdd, wrap64]); first | exact elp_m (by omega) (by first | omega | (simp only [List.length_set]; omega)) (fun _ => rfl) | exact eld_m (by omega) (by first | omega | (simp only [List.length_set]; omega)) (fun _ => rfl) | exact els_m (by omega) (by omega) (by omega) rfl | exact lsl_m (by omega) (fun _ => rfl) | exact app_nil_m (by omega) (fun _ => rfl) (fun _ => rfl) | exact app_m_one (by omega) (fun _ => rfl) rfl rfl | exact app_m_m (by omega) (fun _ => rfl) (fun _ => rfl)) ?_)
  | (refine run_need rfl (by first | decide | omega | (simp only [List.length_map]; omega)) ?_)
  | (refine run_need rfl ?_ ?_)
  | (refine run_ret rfl ?_ ; first | refine rb ?_ | refine ri ?_ | refine rs2 ?_ ?_ | refine rs1 ?_)
  | (refine run_retx rfl ?_))
 refine run_loop rfl (fun x : Int => 0 ≤ x ∧ x ≤ l.length) (fun x => [(5, .val (i64 x)), (1, .val (i64 (k + 2 * x))), (0, .val (eP2s l))]) (fun x => (l.length - x).toNat) 0 ⟨by omega, by simp⟩ ⟨rfl, i64_eq (by simp), rfl, trivial⟩ rfl ?_
 rintro i e ⟨i0, hN⟩
 by_cases hi : i < l.length
 ·have hx : ix l i = ⟨k + 2 * i, k + 2 * i + 1⟩ := hh i i0 hi
  have hxa : (ix l i).a = k + 2 * i := by rw [hx]
  have hxb : (ix l i).b = k + 2 * i + 1 := by rw [hx]
  (repeat' first
  | (refine run_ite rfl (fun h => ?_) (fun h => ?_) <;> (try simp (disch := omega) only [zA, z13, z19, z20, z21, z22, z23, z24, z25, z31, eqDs, eqD, Nat.reduceAdd, wrap64] at h) <;> (try (exfalso; omega)))
  | (refine run_need rfl (by (try simp (disch := omega) only [zA, z13, z19, z20, z21, z22, z23, z24, z25, z31, eqDs, eqD, Nat.reduceAdd, wrap64]); first | exact elp_m (by omega) (by first | omega | (simp only [List.length_set]; omega)) (fun _ => rfl) | exact eld_m (by omega) (by first | omega | (simp only [List.length_set]; omega)) (fun _ => rfl) | exact els_m (by omega) (by omega) (by omega) rfl | exact lsl_m (by omega) (fun _ => rfl) | exact app_nil_m (by omega) (fun _ => rfl) (fun _ => rfl) | exact app_m_one (by omega) (fun _ => rfl) rfl rfl | exact app_m_m (by omega) (fun _ => rfl) (fun _ => rfl)) ?_)
  | (refine run_need rfl (by first | decide | omega | (simp only [List.length_map]; omega)) ?_)
  | (refine run_next rfl (Exists.intro (i + 1) ⟨by omega, ⟨by omega, by omega⟩, i64_eq (wrap64 _ (by omega)), i64_eq (by rw [wrap64 (k + 2 * i + 1) (by omega), wrap64 _ (by omega)]; omega), rfl, trivial⟩))
  | (refine run_need rfl ?_ ?_)
  | (refine run_ret rfl ?_ ; first | refine rb ?_ | refine ri ?_ | refine rs2 ?_ ?_ | refine rs1 ?_)
  | (refine run_retx rfl ?_))
 ·(repeat' first
  | (refine run_ite rfl (fun h => ?_) (fun h => ?_) <;> (try simp (disch := omega) only [zA, z13, z19, z20, z21, z22, z23, z24, z25, z31, eqDs, eqD, Nat.reduceAdd, wrap64] at h) <;> (try (exfalso; omega)))
  | (refine run_need rfl (by (try simp (disch := omega) only [zA, z13, z19, z20, z21, z22, z23, z24, z25, z31, eqDs, eqD, Nat.reduceAdd, wrap64]); first | exact elp_m (by omega) (by first | omega | (simp only [List.length_set]; omega)) (fun _ => rfl) | exact eld_m (by omega) (by first | omega | (simp only [List.length_set]; omega)) (fun _ => rfl) | exact els_m (by omega) (by omega) (by omega) rfl | exact lsl_m (by omega) (fun _ => rfl) | exact app_nil_m (by omega) (fun _ => rfl) (fun _ => rfl) | exact app_m_one (by omega) (fun _ => rfl) rfl rfl | exact app_m_m (by omega) (fun _ => rfl) (fun _ => rfl)) ?_)
  | (refine run_need rfl (by first | decide | omega | (simp only [List.length_map]; omega)) ?_)
  | (refine run_need rfl ?_ ?_)
  | (refine run_ret rfl ?_ ; first | refine rb ?_ | refine ri ?_ | refine rs2 ?_ ?_ | refine rs1 ?_)
  | (refine run_retx rfl ?_))
  omega

theorem markDepS_ok (l : List P2) (k : Int) (h0 : 0 ≤ k) (hk : k + 2 * l.length ≤ 1099511627776) : FunOk PP W n_l_markDepS s_l_markDepS_X [eP2s l, i64 k] [i64 (k + 2 * l.length), eP2s (markP2 l k)] := by
 refine F_l_markDepS_X (run_fun ?_)
 (repeat' first
  | (refine run_ite rfl (fun h => ?_) (fun h => ?_) <;> (try simp (disch := omega) only [zA, z13, z19, z20, z21, z22, z23, z24, z25, z31, eqDs, eqD, Nat.reduceAdd, wrap64] at h) <;> (try (exfalso; omega)))
  | (refine run_need rfl (by (try simp (disch := omega) only [zA, z13, z19, z20, z21, z22, z23, z24, z25, z31, eqDs, eqD, Nat.reduceAdd, wrap64]); first | exact elp_m (by omega) (by first | omega | (simp only [List.length_set]; omega)) (fun _ => rfl) | exact eld_m (by omega) (by first | omega | (simp only [List.length_set]; omega)) (fun _ => rfl) | exact els_m (by omega) (by omega) (by omega) rfl | exact lsl_m (by omega) (fun _ => rfl) | exact app_nil_m (by omega) (fun _ => rfl) (fun _ => rfl) | exact app_m_one (by omega) (fun _ => rfl) rfl rfl | exact app_m_m (by omega) (fun _ => rfl) (fun _ => rfl)) ?_)
  | (refine run_need rfl (by first | decide | omega | (simp only [List.length_map]; omega)) ?_)
  | (refine run_need rfl ?_ ?_)
  | (refine run_ret rfl ?_ ; first | refine rb ?_ | refine ri ?_ | refine rs2 ?_ ?_ | refine rs1 ?_)
  | (refine run_retx rfl ?_))
 refine run_loop rfl (fun x : Int × List P2 => 0 ≤ x.1 ∧ x.1 ≤ l.length ∧ x.2.length = l.length ∧ Blw x.1 (fun j => ix x.2 j = ⟨k + 2 * j, k + 2 * j + 1⟩)) (fun x => [(5, .val (i64 x.1)), (1, .val (i64 (k + 2 * x.1))), (0, .val (eP2s x.2))]) (fun x => (l.length - x.1).toNat) (0, l) ⟨by omega, by simp, rfl, blw_zero _⟩ ⟨rfl, i64_eq (by simp), rfl, trivial⟩ rfl ?_
 rintro ⟨i, ys⟩ e ⟨i0, hN, hy, hP⟩
 dsimp only at i0 hN hy hP ⊢
 (repeat' first
  | (refine run_ite rfl (fun h => ?_) (fun h => ?_) <;> (try simp (disch := omega) only [zA, z13, z19, z20, z21, z22, z23, z24, z25, z31, eqDs, eqD, Nat.reduceAdd, wrap64] at h) <;> (try (exfalso; omega)))
  | (refine run_need rfl (by (try simp (disch := omega) only [zA, z13, z19, z20, z21, z22, z23, z24, z25, z31, eqDs, eqD, Nat.reduceAdd, wrap64]); first | exact elp_m (by omega) (by first | omega | (simp only [List.length_set]; omega)) (fun _ => rfl) | exact eld_m (by omega) (by first | omega | (simp only [List.length_set]; omega)) (fun _ => rfl) | exact els_m (by omega) (by omega) (by omega) rfl | exact lsl_m (by omega) (fun _ => rfl) | exact app_nil_m (by omega) (fun _ => rfl) (fun _ => rfl) | exact app_m_one (by omega) (fun _ => rfl) rfl rfl | exact app_m_m (by omega) (fun _ => rfl) (fun _ => rfl)) ?_)
  | (refine run_need rfl (by first | decide | omega | (simp only [List.length_map]; omega)) ?_)
  | (refine run_elsc rfl (els_gx (sz := 2) i0 (by first | omega | (simp only [List.length_set]; omega)) (by first | omega | (simp only [List.length_set]; omega)) (fun _ => rfl) (Nat.le_of_ble_eq_true rfl)) (sl_eq (elsP2_0 i0 (by omega))) ?_)
  | (refine run_elsc rfl (els_gx (sz := 2) i0 (by first | omega | (simp only [List.length_set]; omega)) (by first | omega | (simp only [List.length_set]; omega)) (fun _ => rfl) (Nat.le_of_ble_eq_true rfl)) (sl_eq ((elsP2_1 i0 (by first | omega | (simp only [List.length_set]; omega))).trans (by rw [ix_ssx i0 (by omega), List.set_set, wrap64 _ (by omega)]))) ?_)
  | (refine run_next rfl (Exists.intro (i + 1, ys.set i.toNat ⟨k + 2 * i, k + 2 * i + 1⟩) ⟨by dsimp only; omega, ⟨by dsimp only; omega, by dsimp only; omega, by simpa using hy, blw_put (f := fun j => (⟨k + 2 * j, k + 2 * j + 1⟩ : P2)) i0 (by omega) hP⟩, i64_eq (wrap64 _ (by omega)), i64_eq (by rw [wrap64 (k + 2 * i + 1) (by omega), wrap64 _ (by omega)]; dsimp only; omega), rfl, trivial⟩))
  | (refine run_need rfl ?_ ?_)
  | (refine run_ret rfl ?_ ; first | refine rb ?_ | refine ri ?_ | refine rs2 ?_ ?_ | refine rs1 ?_)
  | (refine run_retx rfl ?_))
 ·exact i64_eq (by omega)
 ·refine sl_eq ?_
  rw [ix_ext (xs := ys) (ys := markP2 l k) (by rw [markP2_len, hy]) (fun j j0 j1 => (hP j j0 (by omega)).trans (markP2_ix l k j0 (by omega)).symm)]
theorem heldDepS_ok (l : List P2) (k : Int) (h0 : 0 ≤ k) (hk : k + 2 * l.length ≤ 1099511627776) (hh : Blw l.length (fun j => ix l j = ⟨k + 2 * j, k + 2 * j + 1⟩)) : FunOk PP W n_l_heldDepS s_l_heldDepS [eP2s l, i64 k] [i64 (k + 2 * l.length)] := by
 refine F_l_heldDepS (run_fun ?_)
 (repeat' first
  | (refine run_ite rfl (fun h => ?_) (fun h => ?_) <;> (try simp (disch := omega) only [zA, z13, z19, z20, z21, z22, z23, z24, z25, z31, eqDs, eqD, Nat.reduceAdd, wrap64] at h) <;> (try (exfalso; omega)))
  | (refine run_need rfl (by (try simp (disch := omega) only [zA, z13, z19, z20, z21, z22, z23, z24, z25, z31, eqDs, eqD, Nat.reduceAdd, wrap64]); first | exact elp_m (by omega) (by first | omega | (simp only [List.length_set]; omega)) (fun _ => rfl) | exact eld_m (by omega) (by first | omega | (simp only [List.length_set]; omega)) (fun _ => rfl) | exact els_m (by omega) (by omega) (by omega) rfl | exact lsl_m (by omega) (fun _ => rfl) | exact app_nil_m (by omega) (fun _ => rfl) (fun _ => rfl) | exact app_m_one (by omega) (fun _ => rfl) rfl rfl | exact app_m_m (by omega) (fun _ => rfl) (fun _ => rfl)) ?_)
  | (refine run_need rfl (by first | decide | omega | (simp only [List.length_map]; omega)) ?_)
  | (refine run_need rfl ?_ ?_)
  | (refine run_ret rfl ?_ ; first | refine rb ?_ | refine ri ?_ | refine rs2 ?_ ?_ | refine rs1 ?_)
  | (refine run_retx rfl ?_))
 refine run_loop rfl (fun x : Int => 0 ≤ x ∧ x ≤ l.length) (fun x => [(5, .val (i64 x)), (1, .val (i64 (k + 2 * x))), (0, .val (eP2s l))]) (fun x => (l.length - x).toNat) 0 ⟨by omega, by simp⟩ ⟨rfl, i64_eq (by simp), rfl, trivial⟩ rfl ?_
 rintro i e ⟨i0, hN⟩
 by_cases hi : i < l.length
 ·have hx : ix l i = ⟨k + 2 * i, k + 2 * i + 1⟩ := hh i i0 hi
  have hxa : (ix l i).a = k + 2 * i := by rw [hx]
  have hxb : (ix l i).b = k + 2 * i + 1 := by rw [hx]
  (repeat' first
  | (refine run_ite rfl (fun h => ?_) (fun h => ?_) <;> (try simp (disch := omega) only [zA, z13, z19, z20, z21, z22, z23, z24, z25, z31, eqDs, eqD, Nat.reduceAdd, wrap64] at h) <;> (try (exfalso; omega)))
  | (refine run_need rfl (by (try simp (disch := omega) only [zA, z13, z19, z20, z21, z22, z23, z24, z25, z31, eqDs, eqD, Nat.reduceAdd, wrap64]); first | exact elp_m (by omega) (by first | omega | (simp only [List.length_set]; omega)) (fun _ => rfl) | exact eld_m (by omega) (by first | omega | (simp only [List.length_set]; omega)) (fun _ => rfl) | exact els_m (by omega) (by omega) (by omega) rfl | exact lsl_m (by omega) (fun _ => rfl) | exact app_nil_m (by omega) (fun _ => rfl) (fun _ => rfl) | exact app_m_one (by omega) (fun _ => rfl) rfl rfl | exact app_m_m (by omega) (fun _ => rfl) (fun _ => rfl)) ?_)
  | (refine run_need rfl (by first | decide | omega | (simp only [List.length_map]; omega)) ?_)
  | (refine run_next rfl (Exists.intro (i + 1) ⟨by omega, ⟨by omega, by omega⟩, i64_eq (wrap64 _ (by omega)), i64_eq (by rw [wrap64 (k + 2 * i + 1) (by omega), wrap64 _ (by omega)]; omega), rfl, trivial⟩))
  | (refine run_need rfl ?_ ?_)
  | (refine run_ret rfl ?_ ; first | refine rb ?_ | refine ri ?_ | refine rs2 ?_ ?_ | refine rs1 ?_)
  | (refine run_retx rfl ?_))
 ·(repeat' first
  | (refine run_ite rfl (fun h => ?_) (fun h => ?_) <;> (try simp (disch := omega) only [zA, z13, z19, z20, z21, z22, z23, z24, z25, z31, eqDs, eqD, Nat.reduceAdd, wrap64] at h) <;> (try (exfalso; omega)))
  | (refine run_need rfl (by (try simp (disch := omega) only [zA, z13, z19, z20, z21, z22, z23, z24, z25, z31, eqDs, eqD, Nat.reduceAdd, wrap64]); first | exact elp_m (by omega) (by first | omega | (simp only [List.length_set]; omega)) (fun _ => rfl) | exact eld_m (by omega) (by first | omega | (simp only [List.length_set]; omega)) (fun _ => rfl) | exact els_m (by omega) (by omega) (by omega) rfl | exact lsl_m (by omega) (fun _ => rfl) | exact app_nil_m (by omega) (fun _ => rfl) (fun _ => rfl) | exact app_m_one (by omega) (fun _ => rfl) rfl rfl | exact app_m_m (by omega) (fun _ => rfl) (fun _ => rfl)) ?_)
  | (refine run_need rfl (by first | decide | omega | (simp only [List.length_map]; omega)) ?_)
  | (refine run_need rfl ?_ ?_)
  | (refine run_ret rfl ?_ ; first | refine rb ?_ | refine ri ?_ | refine rs2 ?_ ?_ | refine rs1 ?_)
  | (refine run_retx rfl ?_))
  omega
end V
end Go.Proofs.Ytgialjcichiaoaa

/-
Plain proofs: packages that are marked, and found marked.
-/
namespace Go.Proofs.Ytgialjcichiaoaa
namespace V
open Classical
set_option maxRecDepth 100000
variable {W : Wld}

def cntP (p : Pk) : Int := 2 + 2 * p.files.length + 2 * p.deps.length
theorem cntP_nn (p : Pk) : 0 ≤ cntP p := by unfold cntP; omega
def cntPs (ps : List Pk) : Int := sumF cntP ps
def markPk (p : Pk) (k : Int) : Pk := ⟨k, k + 1, markP2 p.files (k + 2), markP2 p.deps (k + 2 + 2 * p.files.length)⟩
def markPs (l : List Pk) (k : Int) : List Pk := (List.range l.length).map fun (j : Nat) => markPk (ix l j) (k + cntPs (l.take j))
theorem markPs_len (l : List Pk) (k : Int) : (markPs l k).length = l.length := by simp [markPs]
theorem markPs_ix (l : List Pk) (k : Int) {i : Int} (h0 : 0 ≤ i) (h1 : i < l.length) : ix (markPs l k) i = markPk (ix l i) (k + cntPs (l.take i.toNat)) := by
 unfold markPs
 rw [ix_range h0 h1]
 simp only [show ((i.toNat : Nat) : Int) = i by omega]
theorem cntP_mark (p : Pk) (k : Int) : cntP (markPk p k) = cntP p := by simp [cntP, markPk, markP2_len]
theorem sumF_ext {α : Type} [Inhabited α] {f : α → Int} {xs ys : List α} (hl : xs.length = ys.length) (h : Blw xs.length (fun i => f (ix xs i) = f (ix ys i))) : sumF f xs = sumF f ys := by
 unfold sumF
 congr 1
 refine List.ext_getElem (by simp [hl]) (fun n h1 h2 => ?_)
 have h1' : n < xs.length := by simpa using h1
 have h2' : n < ys.length := by simpa using h2
 have h3 : f (ix xs (n : Int)) = f (ix ys (n : Int)) := h n (by omega) (by omega)
 simpa [ix, h1', h2'] using h3
theorem ix_takeN {α : Type} [Inhabited α] (xs : List α) {n : Nat} {i : Int} (h0 : 0 ≤ i) (h1 : i < n) : ix (xs.take n) i = ix xs i := by
 have : i.toNat < n := by omega
 simp only [ix, List.getD_eq_getElem?_getD]
 rw [List.getElem?_take_of_lt this]
theorem cntPs_mark (l : List Pk) (k : Int) (n : Nat) : cntPs ((markPs l k).take n) = cntPs (l.take n) := by
 refine sumF_ext (by simp [markPs_len]) (fun i h0 h1 => ?_)
 simp only [List.length_take, markPs_len] at h1
 show cntP _ = cntP _
 rw [ix_takeN _ h0 (by omega), ix_takeN _ h0 (by omega), markPs_ix l k h0 (by omega), cntP_mark]
theorem cntPs_mark' (l : List Pk) (k : Int) : cntPs (markPs l k) = cntPs l := by
 have := cntPs_mark l k l.length
 rwa [List.take_of_length_le (by rw [markPs_len]; exact Nat.le_refl _), List.take_of_length_le (Nat.le_refl _)] at this
theorem cntPs_nn (l : List Pk) : 0 ≤ cntPs l := sumF_nn cntP_nn l

theorem len_cnt : ∀ l : List Pk, 2 * (l.length : Int) ≤ cntPs l
 | [] => by simp [cntPs, sumF]
 | p :: r => by
  have h := len_cnt r
  simp only [cntPs, sumF, List.map_cons, List.sum_cons, List.length_cons] at *
  have : cntP p = 2 + 2 * p.files.length + 2 * p.deps.length := rfl
  omega
theorem get_ss {α : Type} [Inhabited α] {enc : α → List D} {ys : List α} {i : Int} {q : α} (h0 : 0 ≤ i) (h1 : i < ys.length) : ((ys.set i.toNat q).map enc)[i.toNat]? = some (enc q) := by
 have : i.toNat < ys.length := by omega
 simp [this]
theorem set_ss {α : Type} {enc : α → List D} {ys : List α} {i : Int} {q q' : α} {j : Nat} {d : D} (h : (enc q).set j d = enc q') : ([.sl ((ys.set i.toNat q).map enc)] : List D).set 0 (.sl (((ys.set i.toNat q).map enc).set i.toNat ((enc q).set j d))) = [.sl ((ys.set i.toNat q').map enc)] := by
 rw [h, ← List.map_set, List.set_set]
 rfl

theorem blw_from {α : Type} [Inhabited α] {l ys : List α} {i : Int} {z : α} (h0 : 0 ≤ i) (h1 : i < ys.length) (h : ∀ j, i ≤ j → ix ys j = ix l j) : ∀ j, i + 1 ≤ j → ix (ys.set i.toNat z) j = ix l j := fun j hj => by
 rw [ix_sgx h0 h1 (by omega), if_neg (by omega)]
 exact h j (by omega)

theorem markPkgS_ok (l : List Pk) (k : Int) (h0 : 0 ≤ k) (hk : k + cntPs l ≤ 1099511627776) : FunOk PP W n_l_markPkgS s_l_markPkgS_X [ePks l, i64 k] [i64 (k + cntPs l), ePks (markPs l k)] := by
 refine F_l_markPkgS_X (run_fun ?_)
 have hlc := len_cnt l
 (repeat' first
  | (refine run_ite rfl (fun h => ?_) (fun h => ?_) <;> (try simp (disch := omega) only [zA, z13, z19, z20, z21, z22, z23, z24, z25, z31, eqDs, eqD, Nat.reduceAdd, wrap64] at h) <;> (try (exfalso; omega)))
  | (refine run_need rfl (by (try simp (disch := omega) only [zA, z13, z19, z20, z21, z22, z23, z24, z25, z31, eqDs, eqD, Nat.reduceAdd, wrap64]); first | exact elp_m (by omega) (by first | omega | (simp only [List.length_set]; omega)) (fun _ => rfl) | exact eld_m (by omega) (by first | omega | (simp only [List.length_set]; omega)) (fun _ => rfl) | exact els_m (by omega) (by omega) (by omega) rfl | exact lsl_m (by omega) (fun _ => rfl) | exact app_nil_m (by omega) (fun _ => rfl) (fun _ => rfl) | exact app_m_one (by omega) (fun _ => rfl) rfl rfl | exact app_m_m (by omega) (fun _ => rfl) (fun _ => rfl)) ?_)
  | (refine run_need rfl (by first | decide | omega | (simp only [List.length_map]; omega)) ?_)
  | (refine run_need rfl ?_ ?_)
  | (refine run_ret rfl ?_ ; first | refine rb ?_ | refine ri ?_ | refine rs2 ?_ ?_ | refine rs1 ?_)
  | (refine run_retx rfl ?_))
 refine run_loop rfl (fun x : Int × List Pk => 0 ≤ x.1 ∧ x.1 ≤ l.length ∧ x.2.length = l.length ∧ Blw x.1 (fun j => ix x.2 j = markPk (ix l j) (k + cntPs (l.take j.toNat))) ∧ ∀ j, x.1 ≤ j → ix x.2 j = ix l j)
  (fun x => [(5, .val (i64 x.1)), (1, .val (i64 (k + cntPs (l.take x.1.toNat)))), (0, .val (ePks x.2))]) (fun x => (l.length - x.1).toNat) (0, l) ⟨by omega, by simp, rfl, blw_zero _, fun _ _ => rfl⟩ ⟨rfl, i64_eq (by simp [cntPs, sumF]), rfl, trivial⟩ rfl ?_
 rintro ⟨i, ys⟩ e ⟨i0, hN, hy, hP, hI⟩
 dsimp only at i0 hN hy hP hI ⊢
 have hnn : 0 ≤ cntPs (l.take i.toNat) := cntPs_nn _
 by_cases hi : i < l.length
 ·have hix : ix ys i = ix l i := hI i (by omega)
  have hle := sumF_le cntP_nn l (i + 1).toNat
  have ht := sumF_take cntP l i0 hi
  have hc : cntP (ix l i) = 2 + 2 * (ix l i).files.length + 2 * (ix l i).deps.length := rfl
  simp only [show sumF cntP = cntPs from rfl] at hle ht
  generalize hK : k + cntPs (l.take i.toNat) = K at *
  have f1 := markFileS_ok (W := W) (ix l i).files (K + 2) (by omega) (by omega)
  have f2 := markDepS_ok (W := W) (ix l i).deps (K + 2 + 2 * (ix l i).files.length) (by omega) (by omega)
  (repeat' first
  | (refine run_ite rfl (fun h => ?_) (fun h => ?_) <;> (try simp (disch := omega) only [zA, z13, z19, z20, z21, z22, z23, z24, z25, z31, eqDs, eqD, Nat.reduceAdd, wrap64] at h) <;> (try (exfalso; omega)))
  | (refine run_need rfl (by (try simp (disch := omega) only [zA, z13, z19, z20, z21, z22, z23, z24, z25, z31, eqDs, eqD, Nat.reduceAdd, wrap64]); first | exact elp_m (by omega) (by first | omega | (simp only [List.length_set]; omega)) (fun _ => rfl) | exact eld_m (by omega) (by first | omega | (simp only [List.length_set]; omega)) (fun _ => rfl) | exact els_m (by omega) (by omega) (by omega) rfl | exact lsl_m (by omega) (fun _ => rfl) | exact app_nil_m (by omega) (fun _ => rfl) (fun _ => rfl) | exact app_m_one (by omega) (fun _ => rfl) rfl rfl | exact app_m_m (by omega) (fun _ => rfl) (fun _ => rfl)) ?_)
  | (refine run_need rfl (by first | decide | omega | (simp only [List.length_map]; omega)) ?_)
  | (refine run_elsc rfl (els_gx (sz := 4) i0 (by omega) (by omega) (fun _ => rfl) (Nat.le_of_ble_eq_true rfl)) (sl_eq ((elsPk_0 i0 (by omega)).trans (by rw [hix]))) ?_)
  | (refine run_elsc (c := [.sl ((ys.set i.toNat ⟨K, K + 1, (ix l i).files, (ix l i).deps⟩).map ePk)]) rfl (els_gx (sz := 4) i0 (by simp only [List.length_set]; omega) (by simp only [List.length_set]; omega) (fun _ => rfl) (Nat.le_of_ble_eq_true rfl)) (sl_eq ((elsPk_1 i0 (by simp only [List.length_set]; omega)).trans (by rw [ix_ssx i0 (by omega), List.set_set, wrap64 _ (by omega)]))) ?_)
  | (refine run_ioe rfl rfl rfl (get_ss i0 (by omega)) (get_ss i0 (by omega)) rfl rfl f1 (i64_eq (by rw [wrap64 (K + 1) (by omega), wrap64 _ (by omega)]; omega)) (set_ss (q' := ⟨K, K + 1, markP2 (ix l i).files (K + 2), (ix l i).deps⟩) rfl) ?_)
  | (refine run_ioe rfl rfl rfl (get_ss i0 (by omega)) (get_ss i0 (by omega)) rfl rfl f2 rfl (set_ss (q' := ⟨K, K + 1, markP2 (ix l i).files (K + 2), markP2 (ix l i).deps (K + 2 + 2 * (ix l i).files.length)⟩) rfl) ?_)
  | (refine run_next rfl (Exists.intro (i + 1, ys.set i.toNat (markPk (ix l i) K)) ⟨?_, ⟨?_, ?_, ?_, ?_, ?_⟩, ?_, ?_, ?_, trivial⟩))
  | (refine run_need rfl ?_ ?_)
  | (refine run_ret rfl ?_ ; first | refine rb ?_ | refine ri ?_ | refine rs2 ?_ ?_ | refine rs1 ?_)
  | (refine run_retx rfl ?_))
  ·dsimp only; omega
  ·dsimp only; omega
  ·dsimp only; omega
  ·simpa using hy
  ·subst hK
   exact blw_put (f := fun j => markPk (ix l j) (k + cntPs (l.take j.toNat))) i0 (by omega) hP
  ·exact blw_from i0 (by omega) hI
  ·exact i64_eq (wrap64 _ (by omega))
  ·exact i64_eq (by dsimp only; omega)
  ·rfl
 ·(repeat' first
  | (refine run_ite rfl (fun h => ?_) (fun h => ?_) <;> (try simp (disch := omega) only [zA, z13, z19, z20, z21, z22, z23, z24, z25, z31, eqDs, eqD, Nat.reduceAdd, wrap64] at h) <;> (try (exfalso; omega)))
  | (refine run_need rfl (by (try simp (disch := omega) only [zA, z13, z19, z20, z21, z22, z23, z24, z25, z31, eqDs, eqD, Nat.reduceAdd, wrap64]); first | exact elp_m (by omega) (by first | omega | (simp only [List.length_set]; omega)) (fun _ => rfl) | exact eld_m (by omega) (by first | omega | (simp only [List.length_set]; omega)) (fun _ => rfl) | exact els_m (by omega) (by omega) (by omega) rfl | exact lsl_m (by omega) (fun _ => rfl) | exact app_nil_m (by omega) (fun _ => rfl) (fun _ => rfl) | exact app_m_one (by omega) (fun _ => rfl) rfl rfl | exact app_m_m (by omega) (fun _ => rfl) (fun _ => rfl)) ?_)
  | (refine run_need rfl (by first | decide | omega | (simp only [List.length_map]; omega)) ?_)
  | (refine run_need rfl ?_ ?_)
  | (refine run_ret rfl ?_ ; first | refine rb ?_ | refine ri ?_ | refine rs2 ?_ ?_ | refine rs1 ?_)
  | (refine run_retx rfl ?_))
  ·rw [List.take_of_length_le (by omega)]
  ·refine sl_eq ?_
   rw [ix_ext (xs := ys) (ys := markPs l k) (by rw [markPs_len, hy]) (fun j j0 j1 => (hP j j0 (by omega)).trans (markPs_ix l k j0 (by omega)).symm)]

def HdP2 (l : List P2) (k : Int) : Prop := Blw l.length (fun j => ix l j = ⟨k + 2 * j, k + 2 * j + 1⟩)
def HdPk (p : Pk) (k : Int) : Prop := p.name = k ∧ p.ver = k + 1 ∧ HdP2 p.files (k + 2) ∧ HdP2 p.deps (k + 2 + 2 * p.files.length)
def HdPs (l : List Pk) (k : Int) : Prop := Blw l.length (fun j => HdPk (ix l j) (k + cntPs (l.take j.toNat)))
theorem hdP2_mark (l : List P2) (k : Int) : HdP2 (markP2 l k) k := fun j j0 j1 => by
 rw [markP2_len] at j1
 exact markP2_ix l k j0 j1
theorem hdPk_mark (p : Pk) (k : Int) : HdPk (markPk p k) k := ⟨rfl, rfl, hdP2_mark _ _, by
 show HdP2 (markP2 p.deps (k + 2 + 2 * p.files.length)) (k + 2 + 2 * (markP2 p.files (k + 2)).length)
 rw [markP2_len]
 exact hdP2_mark _ _⟩
theorem hdPs_mark (l : List Pk) (k : Int) : HdPs (markPs l k) k := fun j j0 j1 => by
 rw [markPs_len] at j1
 show HdPk (ix (markPs l k) j) (k + cntPs ((markPs l k).take j.toNat))
 rw [cntPs_mark, markPs_ix l k j0 j1]
 exact hdPk_mark _ _

theorem heldPkgS_ok (l : List Pk) (k : Int) (h0 : 0 ≤ k) (hk : k + cntPs l ≤ 1099511627776) (hh : HdPs l k) : FunOk PP W n_l_heldPkgS s_l_heldPkgS [ePks l, i64 k] [i64 (k + cntPs l)] := by
 refine F_l_heldPkgS (run_fun ?_)
 have hlc := len_cnt l
 (repeat' first
  | (refine run_ite rfl (fun h => ?_) (fun h => ?_) <;> (try simp (disch := omega) only [zA, z13, z19, z20, z21, z22, z23, z24, z25, z31, eqDs, eqD, Nat.reduceAdd, wrap64] at h) <;> (try (exfalso; omega)))
  | (refine run_need rfl (by (try simp (disch := omega) only [zA, z13, z19, z20, z21, z22, z23, z24, z25, z31, eqDs, eqD, Nat.reduceAdd, wrap64]); first | exact elp_m (by omega) (by first | omega | (simp only [List.length_set]; omega)) (fun _ => rfl) | exact eld_m (by omega) (by first | omega | (simp only [List.length_set]; omega)) (fun _ => rfl) | exact els_m (by omega) (by omega) (by omega) rfl | exact lsl_m (by omega) (fun _ => rfl) | exact app_nil_m (by omega) (fun _ => rfl) (fun _ => rfl) | exact app_m_one (by omega) (fun _ => rfl) rfl rfl | exact app_m_m (by omega) (fun _ => rfl) (fun _ => rfl)) ?_)
  | (refine run_need rfl (by first | decide | omega | (simp only [List.length_map]; omega)) ?_)
  | (refine run_need rfl ?_ ?_)
  | (refine run_ret rfl ?_ ; first | refine rb ?_ | refine ri ?_ | refine rs2 ?_ ?_ | refine rs1 ?_)
  | (refine run_retx rfl ?_))
 refine run_loop rfl (fun i : Int => 0 ≤ i ∧ i ≤ l.length) (fun i => [(5, .val (i64 i)), (1, .val (i64 (k + cntPs (l.take i.toNat)))), (0, .val (ePks l))]) (fun i => (l.length - i).toNat) 0 ⟨by omega, by simp⟩ ⟨rfl, i64_eq (by simp [cntPs, sumF]), rfl, trivial⟩ rfl ?_
 rintro i e ⟨i0, hN⟩
 have hnn : 0 ≤ cntPs (l.take i.toNat) := cntPs_nn _
 by_cases hi : i < l.length
 ·have hle := sumF_le cntP_nn l (i + 1).toNat
  have ht := sumF_take cntP l i0 hi
  have hc : cntP (ix l i) = 2 + 2 * (ix l i).files.length + 2 * (ix l i).deps.length := rfl
  simp only [show sumF cntP = cntPs from rfl] at hle ht
  obtain ⟨g1, g2, g3, g4⟩ := hh i i0 hi
  generalize hK : k + cntPs (l.take i.toNat) = K at *
  have f1 := heldFileS_ok (W := W) (ix l i).files (K + 2) (by omega) (by omega) g3
  have f2 := heldDepS_ok (W := W) (ix l i).deps (K + 2 + 2 * (ix l i).files.length) (by omega) (by omega) g4
  have w1 : IntKind.i64.wrap (IntKind.i64.wrap (K + 1) + 1) = K + 2 := by rw [wrap64 (K + 1) (by omega), wrap64 _ (by omega)]; omega
  (repeat' first
  | (refine run_ite rfl (fun h => ?_) (fun h => ?_) <;> (try simp (disch := omega) only [zA, z13, z19, z20, z21, z22, z23, z24, z25, z31, eqDs, eqD, Nat.reduceAdd, wrap64] at h) <;> (try (exfalso; omega)))
  | (refine run_need rfl (by (try simp (disch := omega) only [zA, z13, z19, z20, z21, z22, z23, z24, z25, z31, eqDs, eqD, Nat.reduceAdd, wrap64]); first | exact elp_m (by omega) (by first | omega | (simp only [List.length_set]; omega)) (fun _ => rfl) | exact eld_m (by omega) (by first | omega | (simp only [List.length_set]; omega)) (fun _ => rfl) | exact els_m (by omega) (by omega) (by omega) rfl | exact lsl_m (by omega) (fun _ => rfl) | exact app_nil_m (by omega) (fun _ => rfl) (fun _ => rfl) | exact app_m_one (by omega) (fun _ => rfl) rfl rfl | exact app_m_m (by omega) (fun _ => rfl) (fun _ => rfl)) ?_)
  | (refine run_need rfl (by first | decide | omega | (simp only [List.length_map]; omega)) ?_)
  | (refine run_calleq rfl f1 (rs2 (sl_eq (z5 _ _)) (i64_eq w1)) rfl ?_)
  | (refine run_calleq rfl f2 (rs2 (sl_eq (z6 _ _)) rfl) rfl ?_)
  | (refine run_next rfl (Exists.intro (i + 1) ⟨by omega, ⟨by omega, by omega⟩, i64_eq (wrap64 _ (by omega)), i64_eq (by omega), rfl, trivial⟩))
  | (refine run_need rfl ?_ ?_)
  | (refine run_ret rfl ?_ ; first | refine rb ?_ | refine ri ?_ | refine rs2 ?_ ?_ | refine rs1 ?_)
  | (refine run_retx rfl ?_))
 ·(repeat' first
  | (refine run_ite rfl (fun h => ?_) (fun h => ?_) <;> (try simp (disch := omega) only [zA, z13, z19, z20, z21, z22, z23, z24, z25, z31, eqDs, eqD, Nat.reduceAdd, wrap64] at h) <;> (try (exfalso; omega)))
  | (refine run_need rfl (by (try simp (disch := omega) only [zA, z13, z19, z20, z21, z22, z23, z24, z25, z31, eqDs, eqD, Nat.reduceAdd, wrap64]); first | exact elp_m (by omega) (by first | omega | (simp only [List.length_set]; omega)) (fun _ => rfl) | exact eld_m (by omega) (by first | omega | (simp only [List.length_set]; omega)) (fun _ => rfl) | exact els_m (by omega) (by omega) (by omega) rfl | exact lsl_m (by omega) (fun _ => rfl) | exact app_nil_m (by omega) (fun _ => rfl) (fun _ => rfl) | exact app_m_one (by omega) (fun _ => rfl) rfl rfl | exact app_m_m (by omega) (fun _ => rfl) (fun _ => rfl)) ?_)
  | (refine run_need rfl (by first | decide | omega | (simp only [List.length_map]; omega)) ?_)
  | (refine run_need rfl ?_ ?_)
  | (refine run_ret rfl ?_ ; first | refine rb ?_ | refine ri ?_ | refine rs2 ?_ ?_ | refine rs1 ?_)
  | (refine run_retx rfl ?_))
  rw [List.take_of_length_le (by omega)]
end V
end Go.Proofs.Ytgialjcichiaoaa

/-
Plain proofs: the program's plans.
-/
namespace Go.Proofs.Ytgialjcichiaoaa
namespace V
open Classical
set_option maxRecDepth 100000
variable {W : Wld}

noncomputable def idxF {α : Type} [Inhabited α] (P : α → Prop) (xs : List α) : Nat → Int → Int
 | 0, _ => -1
 | n + 1, i => if P (ix xs i) then i else idxF P xs n (i + 1)

theorem idxF_pos {α : Type} [Inhabited α] (P : α → Prop) (xs : List α) : ∀ (n : Nat) (i : Int), 0 ≤ i → (0 ≤ idxF P xs n i ↔ ∃ j, i ≤ j ∧ j < i + n ∧ P (ix xs j))
 | 0, i, h0 => by
  unfold idxF
  constructor
  ·intro h; omega
  ·rintro ⟨j, h1, h2, _⟩; omega
 | n + 1, i, h0 => by
  unfold idxF
  by_cases hp : P (ix xs i)
  ·rw [if_pos hp]
   exact ⟨fun _ => ⟨i, by omega, by omega, hp⟩, fun _ => h0⟩
  ·rw [if_neg hp, idxF_pos P xs n (i + 1) (by omega)]
   constructor
   ·rintro ⟨j, h1, h2, h3⟩; exact ⟨j, by omega, by omega, h3⟩
   ·rintro ⟨j, h1, h2, h3⟩
    by_cases hj : j = i
    ·subst hj; exact absurd h3 hp
    ·exact ⟨j, by omega, by omega, h3⟩
theorem idxF_mem {α : Type} [Inhabited α] (P : α → Prop) (xs : List α) : 0 ≤ idxF P xs xs.length 0 ↔ ∃ x ∈ xs, P x := by
 rw [idxF_pos P xs xs.length 0 (by omega)]
 constructor
 ·rintro ⟨j, h1, h2, h3⟩; exact ⟨_, ix_mem h1 (by omega), h3⟩
 ·rintro ⟨x, hx, h⟩
  obtain ⟨j, h1, h2, rfl⟩ := mem_ix hx
  exact ⟨j, h1, by omega, h⟩

end V
end Go.Proofs.Ytgialjcichiaoaa

/-
Plain proofs: the program's disks and steps.
-/
namespace Go.Proofs.Ytgialjcichiaoaa
namespace V
open Classical
set_option maxRecDepth 100000
variable {W : Wld}

theorem dI {p : Prop} [Decidable p] {b : Bool} (h : b = true ↔ p) : b = decide p := by
 by_cases hp : p <;> simp_all
end V
end Go.Proofs.Ytgialjcichiaoaa

/-
Plain proofs: plans that are drawn.
-/
namespace Go.Proofs.Ytgialjcichiaoaa
namespace V
open Classical
set_option maxRecDepth 100000
variable {W : Wld}

noncomputable def c1 (p : Prop) : Nat := if p then 1 else 0
end V
end Go.Proofs.Ytgialjcichiaoaa

/-
Plain proofs: disks that are drawn.
-/
namespace Go.Proofs.Ytgialjcichiaoaa
namespace V
open Classical
set_option maxRecDepth 100000
variable {W : Wld}

def Code (b : List Int) : Prop := b.length ≤ 1048576 ∧ ∀ x ∈ b, 0 ≤ x ∧ x ≤ 255
end V
end Go.Proofs.Ytgialjcichiaoaa

/-
Plain proofs: what the program's functions do, where all that comes back is owned.
-/
namespace Go.Proofs.Ytgialjcichiaoaa
namespace V
open Classical
set_option maxRecDepth 100000
variable {W : Wld}

theorem iDiskNew_X : FunOk PP W n_i_DiskNew s_i_DiskNew_X [] [eDk dk0] := by
 refine F_i_DiskNew_X (run_fun ?_)
 (repeat' first
  | (refine run_ite rfl (fun h => ?_) (fun h => ?_) <;> (try simp (disch := omega) only [zA, z13, z19, z20, z21, z22, z23, z24, z25, z31, eqDs, eqD, Nat.reduceAdd, wrap64] at h) <;> (try (exfalso; omega)))
  | (refine run_need rfl (by (try simp (disch := omega) only [zA, z13, z19, z20, z21, z22, z23, z24, z25, z31, eqDs, eqD, Nat.reduceAdd, wrap64]); first | exact elp_m (by omega) (by first | omega | (simp only [List.length_set]; omega)) (fun _ => rfl) | exact eld_m (by omega) (by first | omega | (simp only [List.length_set]; omega)) (fun _ => rfl) | exact els_m (by omega) (by omega) (by omega) rfl | exact lsl_m (by omega) (fun _ => rfl) | exact app_nil_m (by omega) (fun _ => rfl) (fun _ => rfl) | exact app_m_one (by omega) (fun _ => rfl) rfl rfl | exact app_m_m (by omega) (fun _ => rfl) (fun _ => rfl)) ?_)
  | (refine run_need rfl (by first | decide | omega | (simp only [List.length_map]; omega)) ?_)
  | (refine run_call1 rfl (repeatI_X) rfl ?_)
  | (refine run_need rfl ?_ ?_)
  | (refine run_ret rfl ?_ ; first | refine rb ?_ | refine ri ?_ | refine rs2 ?_ ?_ | refine rs1 ?_)
  | (refine run_retx rfl ?_))
 rfl

end V
end Go.Proofs.Ytgialjcichiaoaa

/-
Plain proofs: disks and steps: measured, copied, compared, marked; a step that is done.
-/
namespace Go.Proofs.Ytgialjcichiaoaa
namespace V
open Classical
set_option maxRecDepth 100000
variable {W : Wld}

/-! What is done by one step. -/
/-! Disks and steps come in, are copied, compared. -/
theorem eqDisk_ok (p q : Dk) (hs : SmD p) : FunOk PP W n_l_eqDisk s_l_eqDisk [eDk p, eDk q] [bo (decide (p = q))] := by
 refine F_l_eqDisk (run_fun ?_)
 obtain ⟨h1, h2, h3⟩ := hs
 (repeat' first
  | (refine run_ite rfl (fun h => ?_) (fun h => ?_) <;> (try simp (disch := omega) only [zA, z13, z19, z20, z21, z22, z23, z24, z25, z31, eqDs, eqD, Nat.reduceAdd, wrap64] at h) <;> (try (exfalso; omega)))
  | (refine run_need rfl (by (try simp (disch := omega) only [zA, z13, z19, z20, z21, z22, z23, z24, z25, z31, eqDs, eqD, Nat.reduceAdd, wrap64]); first | exact elp_m (by omega) (by first | omega | (simp only [List.length_set]; omega)) (fun _ => rfl) | exact eld_m (by omega) (by first | omega | (simp only [List.length_set]; omega)) (fun _ => rfl) | exact els_m (by omega) (by omega) (by omega) rfl | exact lsl_m (by omega) (fun _ => rfl) | exact app_nil_m (by omega) (fun _ => rfl) (fun _ => rfl) | exact app_m_one (by omega) (fun _ => rfl) rfl rfl | exact app_m_m (by omega) (fun _ => rfl) (fun _ => rfl)) ?_)
  | (refine run_need rfl (by first | decide | omega | (simp only [List.length_map]; omega)) ?_)
  | (refine run_call1 rfl (eqPkgS_ok p.db q.db h1) rfl ?_)
  | (refine run_call1 rfl (eqPkgS_ok p.jour q.jour h3) rfl ?_)
  | (refine run_call1 rfl (eqIntS_ok p.files q.files h2) rfl ?_)
  | (refine run_need rfl ?_ ?_)
  | (refine run_ret rfl ?_ ; first | refine rb ?_ | refine ri ?_ | refine rs2 ?_ ?_ | refine rs1 ?_)
  | (refine run_retx rfl ?_))
 all_goals first
  | exact tD (dk_ext (by assumption) (by assumption) (by assumption) (by assumption))
  | exact fD (fun h' => by subst h'; exact absurd rfl (by assumption))
/-! Disks and steps are marked. -/
def cntDk (d : Dk) : Int := cntPs d.db + d.files.length + cntPs d.jour
def markD (d : Dk) (k : Int) : Dk := ⟨markPs d.db k, markI d.files (k + cntPs d.db), d.has, markPs d.jour (k + cntPs d.db + d.files.length)⟩
theorem markDisk_ok (d : Dk) (k : Int) (h0 : 0 ≤ k) (hk : k + cntDk d ≤ 1099511627776) : FunOk PP W n_l_markDisk s_l_markDisk_X [eDk d, i64 k] [i64 (k + cntDk d), eDk (markD d k)] := by
 refine F_l_markDisk_X (run_fun ?_)
 unfold cntDk at hk ⊢
 have n1 := cntPs_nn d.db
 have n2 := cntPs_nn d.jour
 (repeat' first
  | (refine run_ite rfl (fun h => ?_) (fun h => ?_) <;> (try simp (disch := omega) only [zA, z13, z19, z20, z21, z22, z23, z24, z25, z31, eqDs, eqD, Nat.reduceAdd, wrap64] at h) <;> (try (exfalso; omega)))
  | (refine run_need rfl (by (try simp (disch := omega) only [zA, z13, z19, z20, z21, z22, z23, z24, z25, z31, eqDs, eqD, Nat.reduceAdd, wrap64]); first | exact elp_m (by omega) (by first | omega | (simp only [List.length_set]; omega)) (fun _ => rfl) | exact eld_m (by omega) (by first | omega | (simp only [List.length_set]; omega)) (fun _ => rfl) | exact els_m (by omega) (by omega) (by omega) rfl | exact lsl_m (by omega) (fun _ => rfl) | exact app_nil_m (by omega) (fun _ => rfl) (fun _ => rfl) | exact app_m_one (by omega) (fun _ => rfl) rfl rfl | exact app_m_m (by omega) (fun _ => rfl) (fun _ => rfl)) ?_)
  | (refine run_need rfl (by first | decide | omega | (simp only [List.length_map]; omega)) ?_)
  | (refine run_io rfl rfl (markPkgS_ok d.db k h0 (by omega)) rfl rfl rfl rfl ?_)
  | (refine run_io rfl rfl (markIntS_ok d.files (k + cntPs d.db) (by omega) (by omega)) rfl rfl rfl rfl ?_)
  | (refine run_io rfl rfl (markPkgS_ok d.jour (k + cntPs d.db + d.files.length) (by omega) (by omega)) rfl rfl rfl rfl ?_)
  | (refine run_need rfl ?_ ?_)
  | (refine run_ret rfl ?_ ; first | refine rb ?_ | refine ri ?_ | refine rs2 ?_ ?_ | refine rs1 ?_)
  | (refine run_retx rfl ?_))
 ·exact i64_eq (by omega)
 ·rfl
def HdD (d : Dk) (k : Int) : Prop := HdPs d.db k ∧ Blw d.files.length (fun j => ix d.files j = k + cntPs d.db + j) ∧ HdPs d.jour (k + cntPs d.db + d.files.length)
theorem cntDk_mark (d : Dk) (k : Int) : cntDk (markD d k) = cntDk d := by simp [cntDk, markD, cntPs_mark', markI_len]
theorem hdD_mark (d : Dk) (k : Int) : HdD (markD d k) k := by
 refine ⟨hdPs_mark _ _, fun j j0 j1 => ?_, ?_⟩
 ·have j1' : j < d.files.length := by have : (markD d k).files.length = d.files.length := markI_len _ _; omega
  show ix (markI d.files (k + cntPs d.db)) j = k + cntPs (markPs d.db k) + j
  rw [markI_ix _ _ j0 j1', cntPs_mark']
 ·show HdPs (markPs d.jour _) (k + cntPs (markPs d.db k) + (markI d.files (k + cntPs d.db)).length)
  rw [cntPs_mark', markI_len]
  exact hdPs_mark _ _
theorem heldDisk_ok (d : Dk) (k : Int) (h0 : 0 ≤ k) (hk : k + cntDk d ≤ 1099511627776) (hh : HdD d k) : FunOk PP W n_l_heldDisk s_l_heldDisk [eDk d, i64 k] [i64 (k + cntDk d)] := by
 refine F_l_heldDisk (run_fun ?_)
 unfold cntDk at hk ⊢
 have n1 := cntPs_nn d.db
 have n2 := cntPs_nn d.jour
 obtain ⟨g1, g2, g3⟩ := hh
 (repeat' first
  | (refine run_ite rfl (fun h => ?_) (fun h => ?_) <;> (try simp (disch := omega) only [zA, z13, z19, z20, z21, z22, z23, z24, z25, z31, eqDs, eqD, Nat.reduceAdd, wrap64] at h) <;> (try (exfalso; omega)))
  | (refine run_need rfl (by (try simp (disch := omega) only [zA, z13, z19, z20, z21, z22, z23, z24, z25, z31, eqDs, eqD, Nat.reduceAdd, wrap64]); first | exact elp_m (by omega) (by first | omega | (simp only [List.length_set]; omega)) (fun _ => rfl) | exact eld_m (by omega) (by first | omega | (simp only [List.length_set]; omega)) (fun _ => rfl) | exact els_m (by omega) (by omega) (by omega) rfl | exact lsl_m (by omega) (fun _ => rfl) | exact app_nil_m (by omega) (fun _ => rfl) (fun _ => rfl) | exact app_m_one (by omega) (fun _ => rfl) rfl rfl | exact app_m_m (by omega) (fun _ => rfl) (fun _ => rfl)) ?_)
  | (refine run_need rfl (by first | decide | omega | (simp only [List.length_map]; omega)) ?_)
  | (refine run_call1 rfl (heldPkgS_ok d.db k h0 (by omega) g1) rfl ?_)
  | (refine run_call1 rfl (heldIntS_ok d.files (k + cntPs d.db) (by omega) (by omega) g2) rfl ?_)
  | (refine run_call1 rfl (heldPkgS_ok d.jour (k + cntPs d.db + d.files.length) (by omega) (by omega) g3) rfl ?_)
  | (refine run_need rfl ?_ ?_)
  | (refine run_ret rfl ?_ ; first | refine rb ?_ | refine ri ?_ | refine rs2 ?_ ?_ | refine rs1 ?_)
  | (refine run_retx rfl ?_))
 omega
end V
end Go.Proofs.Ytgialjcichiaoaa

