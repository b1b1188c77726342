/-
Part 4 of the proof of the claimed statement (its last part holds the theorem, and says what is proved). Conditions: none.
-/
import Derived.Test.YtgialjcichiaoaaM3
import Derived.Test.YtgialjcichiaoaaProg
import Derived.KernelRfl
set_option linter.all false
/-
The seat's own numbers: types, functions, how each is called. Written by a program.
-/
namespace Go.Proofs.Ytgialjcichiaoaa
namespace V

noncomputable abbrev PP : Program := Try.prog
def tt : TT := .n 120 ⟨2, 16, [.int .i64 0, .int .i64 0], (.struct [(0, 3), (1, 3)])⟩ (.n 61 ⟨1, 8, [.bad], .other⟩ (.n 30 ⟨1, 8, [.bad], .other⟩ (.n 15 ⟨1, 8, [.bad], (.ptr 223)⟩ (.n 8 ⟨4, 24, [.int .i64 0, .int .i64 0, .bool false, .int .u8 0], (.struct [(0, 2), (1, 3), (2, 4), (3, 6)])⟩ (.n 4 ⟨1, 1, [.bool false], .bool⟩ (.n 2 ⟨1, 8, [.int .i64 0], (.int .i64)⟩ (.n 1 ⟨1, 8, [.bad], .other⟩ (.e) (.e)) (.n 3 ⟨1, 8, [.int .i64 0], (.int .i64)⟩ (.e) (.e))) (.n 6 ⟨1, 1, [.int .u8 0], (.int .u8)⟩ (.n 5 ⟨1, 1, [.int .u8 0], (.int .u8)⟩ (.e) (.e)) (.n 7 ⟨4, 24, [.int .i64 0, .int .i64 0, .bool false, .int .u8 0], (.struct [(0, 2), (1, 3), (2, 4), (3, 6)])⟩ (.e) (.e)))) (.n 12 ⟨1, 8, [.int .u64 0], (.int .u64)⟩ (.n 10 ⟨1, 16, [.str ⟨#[]⟩], .str⟩ (.n 9 ⟨1, 16, [.str ⟨#[]⟩], .str⟩ (.e) (.e)) (.n 11 ⟨1, 16, [.str ⟨#[]⟩], .str⟩ (.e) (.e))) (.n 14 ⟨2, 24, [.str ⟨#[]⟩, .int .u64 0], (.struct [(0, 9), (1, 12)])⟩ (.n 13 ⟨2, 24, [.str ⟨#[]⟩, .int .u64 0], (.struct [(0, 9), (1, 12)])⟩ (.e) (.e)) (.e)))) (.n 22 ⟨1, 24, [.sl []], (.slice 5)⟩ (.n 19 ⟨1, 8, [.bad], (.struct [(0, 17)])⟩ (.n 17 ⟨1, 8, [.bad], (.ptr 235)⟩ (.n 16 ⟨1, 8, [.bad], (.ptr 226)⟩ (.e) (.e)) (.n 18 ⟨1, 8, [.bad], (.struct [(0, 17)])⟩ (.e) (.e))) (.n 21 ⟨1, 4, [.int .i32 0], (.int .i32)⟩ (.n 20 ⟨1, 16, [.bad], .other⟩ (.e) (.e)) (.e))) (.n 26 ⟨4, 80, [.sl [], .sl [], .bool false, .sl []], (.struct [(0, 23), (1, 24), (2, 4), (3, 23)])⟩ (.n 24 ⟨1, 24, [.sl []], (.slice 3)⟩ (.n 23 ⟨1, 24, [.sl []], (.slice 104)⟩ (.e) (.e)) (.n 25 ⟨4, 80, [.sl [], .sl [], .bool false, .sl []], (.struct [(0, 23), (1, 24), (2, 4), (3, 23)])⟩ (.e) (.e))) (.n 29 ⟨1, 8, [.bad], .other⟩ (.n 27 ⟨1, 8, [.bad], .other⟩ (.e) (.e)) (.e))))) (.n 45 ⟨1, 8, [.bad], .other⟩ (.n 38 ⟨4, 48, [.int .i64 0, .int .i64 0, .int .i64 0, .sl []], (.struct [(0, 3), (1, 3), (2, 3), (3, 34)])⟩ (.n 34 ⟨1, 24, [.sl []], (.slice 128)⟩ (.n 32 ⟨1, 8, [.bad], .other⟩ (.n 31 ⟨1, 8, [.bad], .other⟩ (.e) (.e)) (.n 33 ⟨1, 8, [.bad], .other⟩ (.e) (.e))) (.n 36 ⟨4, 80, [.sl [], .sl [], .bool false, .sl []], (.struct [(0, 34), (1, 24), (2, 4), (3, 34)])⟩ (.n 35 ⟨4, 80, [.sl [], .sl [], .bool false, .sl []], (.struct [(0, 34), (1, 24), (2, 4), (3, 34)])⟩ (.e) (.e)) (.n 37 ⟨4, 48, [.int .i64 0, .int .i64 0, .int .i64 0, .sl []], (.struct [(0, 3), (1, 3), (2, 3), (3, 34)])⟩ (.e) (.e)))) (.n 42 ⟨1, 8, [.bad], .other⟩ (.n 40 ⟨1, 8, [.bad], .other⟩ (.n 39 ⟨1, 8, [.bad], .other⟩ (.e) (.e)) (.n 41 ⟨1, 8, [.bad], .other⟩ (.e) (.e))) (.n 44 ⟨4, 48, [.int .i64 0, .int .i64 0, .int .i64 0, .sl []], (.struct [(0, 3), (1, 3), (2, 3), (3, 23)])⟩ (.n 43 ⟨4, 48, [.int .i64 0, .int .i64 0, .int .i64 0, .sl []], (.struct [(0, 3), (1, 3), (2, 3), (3, 23)])⟩ (.e) (.e)) (.e)))) (.n 53 ⟨1, 8, [.bad], .other⟩ (.n 49 ⟨1, 8, [.bad], .other⟩ (.n 47 ⟨1, 8, [.bad], .other⟩ (.n 46 ⟨1, 8, [.bad], .other⟩ (.e) (.e)) (.n 48 ⟨1, 8, [.bad], .other⟩ (.e) (.e))) (.n 52 ⟨1, 24, [.sl []], (.slice 44)⟩ (.n 51 ⟨1, 8, [.bad], .other⟩ (.e) (.e)) (.e))) (.n 57 ⟨1, 8, [.bad], .other⟩ (.n 55 ⟨1, 8, [.bad], .other⟩ (.n 54 ⟨1, 8, [.bad], .other⟩ (.e) (.e)) (.n 56 ⟨1, 8, [.bad], .other⟩ (.e) (.e))) (.n 60 ⟨1, 8, [.bad], .other⟩ (.n 58 ⟨1, 8, [.bad], .other⟩ (.e) (.e)) (.e)))))) (.n 91 ⟨1, 8, [.bad], .other⟩ (.n 76 ⟨3, 40, [.int .i64 0, .int .i64 0, .sl []], (.struct [(0, 3), (1, 3), (2, 74)])⟩ (.n 69 ⟨3, 40, [.int .i64 0, .sl [], .int .i64 0], (.struct [(0, 3), (1, 24), (2, 3)])⟩ (.n 65 ⟨1, 8, [.bad], .other⟩ (.n 63 ⟨1, 8, [.bad], .other⟩ (.n 62 ⟨1, 8, [.bad], .other⟩ (.e) (.e)) (.n 64 ⟨1, 8, [.bad], .other⟩ (.e) (.e))) (.n 67 ⟨1, 8, [.bad], .other⟩ (.n 66 ⟨1, 8, [.bad], .other⟩ (.e) (.e)) (.n 68 ⟨3, 40, [.int .i64 0, .sl [], .int .i64 0], (.struct [(0, 3), (1, 24), (2, 3)])⟩ (.e) (.e)))) (.n 73 ⟨3, 40, [.int .i64 0, .sl [], .int .i64 0], (.struct [(0, 3), (1, 24), (2, 3)])⟩ (.n 71 ⟨1, 24, [.sl []], (.slice 146)⟩ (.n 70 ⟨1, 8, [.bad], .other⟩ (.e) (.e)) (.n 72 ⟨1, 24, [.sl []], (.slice 186)⟩ (.e) (.e))) (.n 75 ⟨3, 40, [.int .i64 0, .int .i64 0, .sl []], (.struct [(0, 3), (1, 3), (2, 74)])⟩ (.n 74 ⟨1, 24, [.sl []], (.slice 215)⟩ (.e) (.e)) (.e)))) (.n 84 ⟨1, 8, [.bad], .other⟩ (.n 80 ⟨17, 296, [.int .i64 0, .sl [], .sl [], .sl [], .sl [], .int .i64 0, .sl [], .int .i64 0, .bool false, .int .i64 0, .int .i64 0, .sl [], .sl [], .sl [], .sl [], .bool false, .sl []], (.struct [(0, 3), (1, 71), (2, 72), (3, 23), (4, 24), (5, 78), (12, 23), (13, 26)])⟩ (.n 78 ⟨7, 88, [.int .i64 0, .sl [], .int .i64 0, .bool false, .int .i64 0, .int .i64 0, .sl []], (.struct [(0, 73), (3, 4), (4, 76)])⟩ (.n 77 ⟨7, 88, [.int .i64 0, .sl [], .int .i64 0, .bool false, .int .i64 0, .int .i64 0, .sl []], (.struct [(0, 73), (3, 4), (4, 76)])⟩ (.e) (.e)) (.n 79 ⟨17, 296, [.int .i64 0, .sl [], .sl [], .sl [], .sl [], .int .i64 0, .sl [], .int .i64 0, .bool false, .int .i64 0, .int .i64 0, .sl [], .sl [], .sl [], .sl [], .bool false, .sl []], (.struct [(0, 3), (1, 71), (2, 72), (3, 23), (4, 24), (5, 78), (12, 23), (13, 26)])⟩ (.e) (.e))) (.n 83 ⟨1, 8, [.bad], .other⟩ (.n 82 ⟨1, 8, [.bad], .other⟩ (.e) (.e)) (.e))) (.n 88 ⟨1, 8, [.bad], .other⟩ (.n 86 ⟨1, 8, [.bad], .other⟩ (.n 85 ⟨1, 8, [.bad], .other⟩ (.e) (.e)) (.n 87 ⟨1, 8, [.bad], .other⟩ (.e) (.e))) (.n 90 ⟨1, 8, [.bad], .other⟩ (.n 89 ⟨1, 8, [.bad], .other⟩ (.e) (.e)) (.e))))) (.n 106 ⟨1, 8, [.bad], .other⟩ (.n 99 ⟨1, 8, [.bad], .other⟩ (.n 95 ⟨1, 8, [.bad], .other⟩ (.n 93 ⟨1, 24, [.sl []], (.slice 38)⟩ (.n 92 ⟨1, 8, [.bad], .other⟩ (.e) (.e)) (.n 94 ⟨1, 8, [.bad], .other⟩ (.e) (.e))) (.n 97 ⟨1, 8, [.bad], .other⟩ (.n 96 ⟨1, 8, [.bad], .other⟩ (.e) (.e)) (.n 98 ⟨1, 8, [.bad], .other⟩ (.e) (.e)))) (.n 103 ⟨4, 64, [.int .i64 0, .int .i64 0, .sl [], .sl []], (.struct [(0, 3), (1, 3), (2, 101), (3, 102)])⟩ (.n 101 ⟨1, 24, [.sl []], (.slice 121)⟩ (.n 100 ⟨1, 8, [.bad], .other⟩ (.e) (.e)) (.n 102 ⟨1, 24, [.sl []], (.slice 118)⟩ (.e) (.e))) (.n 105 ⟨1, 8, [.bad], .other⟩ (.n 104 ⟨4, 64, [.int .i64 0, .int .i64 0, .sl [], .sl []], (.struct [(0, 3), (1, 3), (2, 101), (3, 102)])⟩ (.e) (.e)) (.e)))) (.n 113 ⟨1, 8, [.bad], .other⟩ (.n 110 ⟨1, 8, [.bad], .other⟩ (.n 108 ⟨1, 8, [.bad], .other⟩ (.n 107 ⟨1, 8, [.bad], .other⟩ (.e) (.e)) (.n 109 ⟨1, 8, [.bad], (.ptr 157)⟩ (.e) (.e))) (.n 112 ⟨1, 8, [.bad], .other⟩ (.n 111 ⟨1, 8, [.bad], .other⟩ (.e) (.e)) (.e))) (.n 117 ⟨2, 16, [.int .i64 0, .int .i64 0], (.struct [(0, 3), (1, 3)])⟩ (.n 115 ⟨1, 8, [.bad], .other⟩ (.n 114 ⟨1, 8, [.bad], .other⟩ (.e) (.e)) (.n 116 ⟨1, 8, [.bad], .other⟩ (.e) (.e))) (.n 119 ⟨1, 8, [.bad], .other⟩ (.n 118 ⟨2, 16, [.int .i64 0, .int .i64 0], (.struct [(0, 3), (1, 3)])⟩ (.e) (.e)) (.e))))))) (.n 182 ⟨1, 8, [.bad], .other⟩ (.n 151 ⟨1, 8, [.bad], .other⟩ (.n 136 ⟨1, 8, [.bad], .other⟩ (.n 128 ⟨4, 64, [.int .i64 0, .int .i64 0, .sl [], .sl []], (.struct [(0, 3), (1, 3), (2, 125), (3, 126)])⟩ (.n 124 ⟨1, 8, [.bad], .other⟩ (.n 122 ⟨1, 8, [.bad], .other⟩ (.n 121 ⟨2, 16, [.int .i64 0, .int .i64 0], (.struct [(0, 3), (1, 3)])⟩ (.e) (.e)) (.n 123 ⟨1, 8, [.bad], .other⟩ (.e) (.e))) (.n 126 ⟨1, 24, [.sl []], (.slice 207)⟩ (.n 125 ⟨1, 24, [.sl []], (.slice 205)⟩ (.e) (.e)) (.n 127 ⟨4, 64, [.int .i64 0, .int .i64 0, .sl [], .sl []], (.struct [(0, 3), (1, 3), (2, 125), (3, 126)])⟩ (.e) (.e)))) (.n 132 ⟨1, 8, [.bad], .other⟩ (.n 130 ⟨1, 8, [.bad], .other⟩ (.n 129 ⟨1, 8, [.bad], .other⟩ (.e) (.e)) (.n 131 ⟨1, 8, [.bad], .other⟩ (.e) (.e))) (.n 135 ⟨1, 8, [.bad], .other⟩ (.n 134 ⟨1, 8, [.bad], .other⟩ (.e) (.e)) (.e)))) (.n 144 ⟨1, 8, [.bad], .other⟩ (.n 140 ⟨1, 8, [.bad], .other⟩ (.n 138 ⟨1, 8, [.bad], .other⟩ (.n 137 ⟨1, 8, [.bad], .other⟩ (.e) (.e)) (.n 139 ⟨1, 8, [.bad], .other⟩ (.e) (.e))) (.n 143 ⟨1, 8, [.bad], .other⟩ (.n 141 ⟨1, 8, [.bad], .other⟩ (.e) (.e)) (.e))) (.n 148 ⟨1, 8, [.bad], .other⟩ (.n 146 ⟨4, 64, [.int .i64 0, .sl [], .int .i64 0, .sl []], (.struct [(0, 73), (3, 24)])⟩ (.n 145 ⟨4, 64, [.int .i64 0, .sl [], .int .i64 0, .sl []], (.struct [(0, 73), (3, 24)])⟩ (.e) (.e)) (.n 147 ⟨1, 8, [.bad], .other⟩ (.e) (.e))) (.n 150 ⟨1, 8, [.bad], .other⟩ (.n 149 ⟨1, 8, [.bad], .other⟩ (.e) (.e)) (.e))))) (.n 166 ⟨1, 8, [.int .u64 0], (.int .u64)⟩ (.n 159 ⟨1, 8, [.bad], .other⟩ (.n 155 ⟨1, 8, [.bad], (.ptr 26)⟩ (.n 153 ⟨1, 8, [.bad], .other⟩ (.n 152 ⟨1, 8, [.bad], .other⟩ (.e) (.e)) (.n 154 ⟨1, 8, [.bad], .other⟩ (.e) (.e))) (.n 157 ⟨2, 32, [.sl [], .int .i64 0], (.struct [(0, 22), (1, 3)])⟩ (.n 156 ⟨2, 32, [.sl [], .int .i64 0], (.struct [(0, 22), (1, 3)])⟩ (.e) (.e)) (.n 158 ⟨1, 8, [.bad], .other⟩ (.e) (.e)))) (.n 163 ⟨1, 8, [.bad], .other⟩ (.n 161 ⟨1, 8, [.bad], .other⟩ (.n 160 ⟨6, 6, [.bool false, .bool false, .bool false, .bool false, .bool false, .bool false], (.array 6 4)⟩ (.e) (.e)) (.n 162 ⟨1, 8, [.bad], .other⟩ (.e) (.e))) (.n 165 ⟨1, 8, [.bad], .other⟩ (.n 164 ⟨1, 8, [.bad], .other⟩ (.e) (.e)) (.e)))) (.n 174 ⟨1, 8, [.bad], .other⟩ (.n 171 ⟨1, 24, [.sl []], (.slice 4)⟩ (.n 169 ⟨1, 8, [.bad], .other⟩ (.n 168 ⟨1, 8, [.bad], .other⟩ (.e) (.e)) (.n 170 ⟨1, 8, [.bad], .other⟩ (.e) (.e))) (.n 173 ⟨1, 8, [.bad], .other⟩ (.n 172 ⟨1, 8, [.bad], .other⟩ (.e) (.e)) (.e))) (.n 179 ⟨1, 8, [.bad], .other⟩ (.n 176 ⟨1, 8, [.bad], .other⟩ (.n 175 ⟨1, 8, [.bad], .other⟩ (.e) (.e)) (.n 178 ⟨1, 8, [.bad], .other⟩ (.e) (.e))) (.n 181 ⟨1, 8, [.bad], .other⟩ (.n 180 ⟨1, 8, [.bad], .other⟩ (.e) (.e)) (.e)))))) (.n 213 ⟨1, 8, [.bad], .other⟩ (.n 197 ⟨1, 8, [.bad], .other⟩ (.n 190 ⟨1, 8, [.bad], .other⟩ (.n 186 ⟨4, 64, [.int .i64 0, .int .i64 0, .sl [], .sl []], (.struct [(0, 76), (3, 24)])⟩ (.n 184 ⟨1, 8, [.bad], .other⟩ (.n 183 ⟨1, 8, [.bad], .other⟩ (.e) (.e)) (.n 185 ⟨4, 64, [.int .i64 0, .int .i64 0, .sl [], .sl []], (.struct [(0, 76), (3, 24)])⟩ (.e) (.e))) (.n 188 ⟨1, 8, [.bad], .other⟩ (.n 187 ⟨1, 8, [.bad], .other⟩ (.e) (.e)) (.n 189 ⟨1, 8, [.bad], .other⟩ (.e) (.e)))) (.n 194 ⟨1, 8, [.bad], .other⟩ (.n 192 ⟨1, 8, [.bad], .other⟩ (.n 191 ⟨1, 8, [.bad], .other⟩ (.e) (.e)) (.n 193 ⟨1, 8, [.bad], .other⟩ (.e) (.e))) (.n 196 ⟨1, 8, [.bad], .other⟩ (.n 195 ⟨1, 8, [.bad], .other⟩ (.e) (.e)) (.e)))) (.n 206 ⟨1, 8, [.bad], .other⟩ (.n 203 ⟨1, 8, [.bad], .other⟩ (.n 200 ⟨1, 8, [.bad], .other⟩ (.n 198 ⟨1, 4, [.int .u32 0], (.int .u32)⟩ (.e) (.e)) (.n 201 ⟨1, 8, [.int .u64 0], (.int .u64)⟩ (.e) (.e))) (.n 205 ⟨2, 16, [.int .i64 0, .int .i64 0], (.struct [(0, 3), (1, 3)])⟩ (.n 204 ⟨1, 8, [.bad], .other⟩ (.e) (.e)) (.e))) (.n 210 ⟨1, 8, [.bad], .other⟩ (.n 208 ⟨1, 8, [.bad], .other⟩ (.n 207 ⟨2, 16, [.int .i64 0, .int .i64 0], (.struct [(0, 3), (1, 3)])⟩ (.e) (.e)) (.n 209 ⟨1, 8, [.bad], .other⟩ (.e) (.e))) (.n 212 ⟨1, 8, [.bad], .other⟩ (.n 211 ⟨1, 8, [.bad], .other⟩ (.e) (.e)) (.e))))) (.n 227 ⟨1, 8, [.bad], .other⟩ (.n 220 ⟨1, 8, [.bad], .other⟩ (.n 217 ⟨1, 8, [.bad], .other⟩ (.n 215 ⟨3, 24, [.int .i64 0, .int .i64 0, .int .i64 0], (.struct [(0, 3), (1, 3), (2, 3)])⟩ (.n 214 ⟨3, 24, [.int .i64 0, .int .i64 0, .int .i64 0], (.struct [(0, 3), (1, 3), (2, 3)])⟩ (.e) (.e)) (.n 216 ⟨1, 8, [.bad], .other⟩ (.e) (.e))) (.n 219 ⟨1, 8, [.bad], .other⟩ (.n 218 ⟨1, 8, [.bad], .other⟩ (.e) (.e)) (.e))) (.n 224 ⟨0, 0, [], (.array 0 16)⟩ (.n 222 ⟨4, 40, [.bad, .bad, .bad, .str ⟨#[]⟩], (.struct [(0, 17), (1, 17), (2, 17), (3, 9)])⟩ (.n 221 ⟨1, 8, [.bad], .other⟩ (.e) (.e)) (.n 223 ⟨4, 40, [.bad, .bad, .bad, .str ⟨#[]⟩], (.struct [(0, 17), (1, 17), (2, 17), (3, 9)])⟩ (.e) (.e))) (.n 226 ⟨0, 0, [], (.struct [(0, 224)])⟩ (.n 225 ⟨0, 0, [], (.struct [(0, 224)])⟩ (.e) (.e)) (.e)))) (.n 234 ⟨11, 48, [.int .u64 0, .int .u64 0, .int .u32 0, .int .u8 0, .int .u8 0, .int .u8 0, .int .u8 0, .bad, .bad, .int .i32 0, .int .i32 0], (.struct [(0, 12), (1, 12), (2, 198), (3, 228), (4, 5), (5, 5), (6, 229), (7, 230), (8, 231), (9, 232), (10, 233)])⟩ (.n 231 ⟨1, 8, [.bad], (.ptr 5)⟩ (.n 229 ⟨1, 1, [.int .u8 0], (.int .u8)⟩ (.n 228 ⟨1, 1, [.int .u8 0], (.int .u8)⟩ (.e) (.e)) (.n 230 ⟨1, 8, [.bad], .other⟩ (.e) (.e))) (.n 233 ⟨1, 4, [.int .i32 0], (.int .i32)⟩ (.n 232 ⟨1, 4, [.int .i32 0], (.int .i32)⟩ (.e) (.e)) (.e))) (.n 238 ⟨1, 8, [.bad], .other⟩ (.n 236 ⟨1, 8, [.bad], .other⟩ (.n 235 ⟨11, 48, [.int .u64 0, .int .u64 0, .int .u32 0, .int .u8 0, .int .u8 0, .int .u8 0, .int .u8 0, .bad, .bad, .int .i32 0, .int .i32 0], (.struct [(0, 12), (1, 12), (2, 198), (3, 228), (4, 5), (5, 5), (6, 229), (7, 230), (8, 231), (9, 232), (10, 233)])⟩ (.e) (.e)) (.n 237 ⟨1, 8, [.bad], .other⟩ (.e) (.e))) (.n 240 ⟨1, 8, [.bad], .other⟩ (.n 239 ⟨1, 8, [.bad], .other⟩ (.e) (.e)) (.e)))))))
abbrev n_l_FnExactPlanFor : Nat := 7
abbrev n_s_PlanOk : Nat := 34
abbrev n_l_szPkgS : Nat := 37
abbrev n_s_PlanFor : Nat := 38
abbrev n_l_toPkgS : Nat := 39
abbrev n_i_PlanFor : Nat := 40
abbrev n_l_eqPkgS : Nat := 41
abbrev n_l_markPkgS : Nat := 42
abbrev n_l_heldPkgS : Nat := 43
abbrev n_i_PlanOk : Nat := 86
abbrev n_s_StoreOk : Nat := 91
abbrev n_s_l13One : Nat := 92
abbrev n_s_l13Meets : Nat := 93
abbrev n_s_l13Owner : Nat := 94
abbrev n_l_szPkg : Nat := 99
abbrev n_s_l6In : Nat := 100
abbrev n_s_l13For : Nat := 101
abbrev n_l_toPkg : Nat := 102
abbrev n_i_StoreOk : Nat := 103
abbrev n_i_isName : Nat := 104
abbrev n_sl_Contains_int : Nat := 105
abbrev n_i_newer : Nat := 106
abbrev n_i_put : Nat := 107
abbrev n_l_eqPkg : Nat := 108
abbrev n_l_markFileS : Nat := 109
abbrev n_l_markDepS : Nat := 110
abbrev n_l_heldFileS : Nat := 111
abbrev n_l_heldDepS : Nat := 112
abbrev n_i_in : Nat := 138
abbrev n_s_l12With : Nat := 143
abbrev n_sl_ContainsFunc_Dep : Nat := 144
abbrev n_i_PlanOk_1 : Nat := 145
abbrev n_i_bears : Nat := 146
abbrev n_i_Pkg_copied : Nat := 147
abbrev n_s_l3Pkgs : Nat := 150
abbrev n_s_l12Newest : Nat := 151
abbrev n_l_szFileS : Nat := 154
abbrev n_l_szDepS : Nat := 155
abbrev n_s_l13Is : Nat := 156
abbrev n_s_l13Pick : Nat := 157
abbrev n_l_toFileS : Nat := 158
abbrev n_l_toDepS : Nat := 159
abbrev n_i_PkgOk : Nat := 160
abbrev n_i_Pkg_compare : Nat := 161
abbrev n_sl_Index_int : Nat := 162
abbrev n_i_newest : Nat := 163
abbrev n_sl_BinarySearchFunc_Pkg : Nat := 164
abbrev n_sl_Insert_Pkg : Nat := 165
abbrev n_l_eqFileS : Nat := 166
abbrev n_l_eqDepS : Nat := 167
abbrev n_s_l12PkgCopy : Nat := 177
abbrev n_s_l3Less : Nat := 180
abbrev n_sl_IndexFunc_Dep : Nat := 181
abbrev n_sl_ContainsFunc_Pkg : Nat := 182
abbrev n_i_bears_1 : Nat := 183
abbrev n_sl_Clone_File : Nat := 184
abbrev n_sl_Clone_Dep : Nat := 185
abbrev n_s_PkgOk : Nat := 186
abbrev n_l_toFile : Nat := 189
abbrev n_l_toDep : Nat := 190
abbrev n_i_isVer : Nat := 191
abbrev n_cmp_Or_int : Nat := 192
abbrev n_cmp_Compare_int : Nat := 193
abbrev n_l_eqFile : Nat := 196
abbrev n_l_eqDep : Nat := 197
abbrev n_sl_IndexFunc_Pkg : Nat := 199
abbrev n_s_l1Files : Nat := 200
abbrev n_s_l1Deps : Nat := 201
abbrev n_cmp_isNaN_int : Nat := 202
abbrev s_s_l12Newest : Sig := ⟨[.v false [.b], .v false [.s]], [.v true [.s, .s, .r, .r], .v false [.s]]⟩
abbrev s_s_l13Pick : Sig := ⟨[.v false [.b], .v false [.b], .v false [.s]], [.v true [.s, .s, .r, .r], .v false [.s]]⟩
abbrev s_s_l12PkgCopy : Sig := ⟨[.v true [.s, .s, .b, .b]], [.v true [.s, .s, .o false ⟨2, false⟩, .o false ⟨2, false⟩]]⟩
abbrev s_s_l13For : Sig := ⟨[.v false [.b], .v false [.b], .v false [.s]], [.v false [.r], .v false [.s]]⟩
abbrev s_i_newer : Sig := ⟨[.v false [.b], .v false [.b], .v false [.s]], [.v true [.s, .s, .b, .b], .v false [.s]]⟩
abbrev s_i_put : Sig := ⟨[.v false [.o false ⟨4, false⟩], .v true [.s, .s, .b, .b]], [.v false [.o false ⟨4, false⟩], .v false [.s]]⟩
abbrev s_i_PlanOk_1 : Sig := ⟨[.v true [.s, .s], .box true [.b]], [.v false [.s]]⟩
abbrev s_i_bears_1 : Sig := ⟨[.v true [.s, .s, .b, .b], .box true [.s, .s]], [.v false [.s]]⟩
abbrev s_sl_BinarySearchFunc_Pkg : Sig := ⟨[.v false [.b], .v true [.s, .s, .b, .b], .clo n_i_Pkg_compare], [.v false [.s], .v false [.s]]⟩
abbrev s_sl_Insert_Pkg : Sig := ⟨[.v false [.o false ⟨4, false⟩], .v false [.s], .v false [.o false ⟨4, false⟩]], [.v false [.o false ⟨4, false⟩]]⟩
abbrev s_sl_ContainsFunc_Dep : Sig := ⟨[.v false [.b], .clo n_i_PlanOk_1], [.v false [.s]]⟩
abbrev s_sl_IndexFunc_Dep : Sig := ⟨[.v false [.b], .clo n_i_PlanOk_1], [.v false [.s]]⟩
abbrev s_sl_ContainsFunc_Pkg : Sig := ⟨[.v false [.b], .clo n_i_bears_1], [.v false [.s]]⟩
abbrev s_sl_IndexFunc_Pkg : Sig := ⟨[.v false [.b], .clo n_i_bears_1], [.v false [.s]]⟩
abbrev s_s_l12With : Sig := ⟨[.v false [.r], .v true [.s, .s, .r, .r]], [.v false [.o true ⟨4, false⟩]]⟩
abbrev s_s_PlanOk : Sig := ⟨[.v false [.b]], [.v false [.s]]⟩
abbrev s_l_szPkgS : Sig := ⟨[.v false [.b], .v false [.s]], [.v false [.s]]⟩
abbrev s_s_PlanFor : Sig := ⟨[.v false [.r], .v false [.r], .v false [.s]], [.v false [.r], .v false [.s]]⟩
abbrev s_l_toPkgS : Sig := ⟨[.v false [.b]], [.v false [.o true ⟨4, false⟩]]⟩
abbrev s_i_PlanFor : Sig := ⟨[.v false [.b], .v false [.b], .v false [.s]], [.v false [.o false ⟨4, false⟩], .v false [.s]]⟩
abbrev s_l_eqPkgS : Sig := ⟨[.v false [.b], .v false [.b]], [.v false [.s]]⟩
abbrev s_l_markPkgS : Sig := ⟨[.v false [.b], .v false [.s]], [.v false [.s]]⟩
abbrev s_l_heldPkgS : Sig := ⟨[.v false [.b], .v false [.s]], [.v false [.s]]⟩
abbrev s_i_PlanOk : Sig := ⟨[.v false [.b]], [.v false [.s]]⟩
abbrev s_s_StoreOk : Sig := ⟨[.v false [.b]], [.v false [.s]]⟩
abbrev s_s_l13One : Sig := ⟨[.v false [.b]], [.v false [.s]]⟩
abbrev s_s_l13Meets : Sig := ⟨[.v false [.b], .v true [.s, .s]], [.v false [.s]]⟩
abbrev s_s_l13Owner : Sig := ⟨[.v false [.b], .v false [.s], .v false [.s]], [.v false [.s]]⟩
abbrev s_l_szPkg : Sig := ⟨[.v true [.s, .s, .b, .b], .v false [.s]], [.v false [.s]]⟩
abbrev s_s_l6In : Sig := ⟨[.v false [.s], .v false [.s], .v false [.s]], [.v false [.s]]⟩
abbrev s_l_toPkg : Sig := ⟨[.v true [.s, .s, .b, .b]], [.v true [.s, .s, .o true ⟨2, false⟩, .o true ⟨2, false⟩]]⟩
abbrev s_i_StoreOk : Sig := ⟨[.v false [.b]], [.v false [.s]]⟩
abbrev s_i_isName : Sig := ⟨[.v false [.s]], [.v false [.s]]⟩
abbrev s_sl_Contains_int : Sig := ⟨[.v false [.b], .v false [.s]], [.v false [.s]]⟩
abbrev s_l_eqPkg : Sig := ⟨[.v true [.s, .s, .b, .b], .v true [.s, .s, .b, .b]], [.v false [.s]]⟩
abbrev s_l_markFileS : Sig := ⟨[.v false [.b], .v false [.s]], [.v false [.s]]⟩
abbrev s_l_markDepS : Sig := ⟨[.v false [.b], .v false [.s]], [.v false [.s]]⟩
abbrev s_l_heldFileS : Sig := ⟨[.v false [.b], .v false [.s]], [.v false [.s]]⟩
abbrev s_l_heldDepS : Sig := ⟨[.v false [.b], .v false [.s]], [.v false [.s]]⟩
abbrev s_i_in : Sig := ⟨[.v false [.s], .v false [.s], .v false [.s]], [.v false [.s]]⟩
abbrev s_i_bears : Sig := ⟨[.v false [.b], .v true [.s, .s]], [.v false [.s]]⟩
abbrev s_i_Pkg_copied : Sig := ⟨[.v true [.s, .s, .b, .b]], [.v true [.s, .s, .o false ⟨2, false⟩, .o false ⟨2, false⟩]]⟩
abbrev s_s_l3Pkgs : Sig := ⟨[.v false [.b]], [.v false [.s]]⟩
abbrev s_l_szFileS : Sig := ⟨[.v false [.b], .v false [.s]], [.v false [.s]]⟩
abbrev s_l_szDepS : Sig := ⟨[.v false [.b], .v false [.s]], [.v false [.s]]⟩
abbrev s_s_l13Is : Sig := ⟨[.v false [.b], .v false [.s]], [.v false [.s]]⟩
abbrev s_l_toFileS : Sig := ⟨[.v false [.b]], [.v false [.o true ⟨2, false⟩]]⟩
abbrev s_l_toDepS : Sig := ⟨[.v false [.b]], [.v false [.o true ⟨2, false⟩]]⟩
abbrev s_i_PkgOk : Sig := ⟨[.v true [.s, .s, .b, .b]], [.v false [.s]]⟩
abbrev s_i_Pkg_compare : Sig := ⟨[.v true [.s, .s, .b, .b], .v true [.s, .s, .b, .b]], [.v false [.s]]⟩
abbrev s_sl_Index_int : Sig := ⟨[.v false [.b], .v false [.s]], [.v false [.s]]⟩
abbrev s_i_newest : Sig := ⟨[.v false [.b], .v false [.s]], [.v false [.s]]⟩
abbrev s_l_eqFileS : Sig := ⟨[.v false [.b], .v false [.b]], [.v false [.s]]⟩
abbrev s_l_eqDepS : Sig := ⟨[.v false [.b], .v false [.b]], [.v false [.s]]⟩
abbrev s_s_l3Less : Sig := ⟨[.v false [.s], .v false [.s], .v false [.s], .v false [.s]], [.v false [.s]]⟩
abbrev s_sl_Clone_File : Sig := ⟨[.v false [.b]], [.v false [.o true ⟨2, false⟩]]⟩
abbrev s_sl_Clone_Dep : Sig := ⟨[.v false [.b]], [.v false [.o true ⟨2, false⟩]]⟩
abbrev s_s_PkgOk : Sig := ⟨[.v true [.s, .s, .b, .b]], [.v false [.s]]⟩
abbrev s_l_toFile : Sig := ⟨[.v true [.s, .s]], [.v true [.s, .s]]⟩
abbrev s_l_toDep : Sig := ⟨[.v true [.s, .s]], [.v true [.s, .s]]⟩
abbrev s_i_isVer : Sig := ⟨[.v false [.s]], [.v false [.s]]⟩
abbrev s_cmp_Or_int : Sig := ⟨[.v false [.b]], [.v false [.s]]⟩
abbrev s_cmp_Compare_int : Sig := ⟨[.v false [.s], .v false [.s]], [.v false [.s]]⟩
abbrev s_l_eqFile : Sig := ⟨[.v true [.s, .s], .v true [.s, .s]], [.v false [.s]]⟩
abbrev s_l_eqDep : Sig := ⟨[.v true [.s, .s], .v true [.s, .s]], [.v false [.s]]⟩
abbrev s_s_l1Files : Sig := ⟨[.v false [.b]], [.v false [.s]]⟩
abbrev s_s_l1Deps : Sig := ⟨[.v false [.s], .v false [.b]], [.v false [.s]]⟩
abbrev s_cmp_isNaN_int : Sig := ⟨[.v false [.s]], [.v false [.s]]⟩
def sigs : Tr (List Sig) := .n 151 [s_s_l12Newest] (.n 103 [s_i_StoreOk] (.n 86 [s_i_PlanOk] (.n 40 [s_i_PlanFor] (.n 38 [s_s_PlanFor] (.n 37 [s_l_szPkgS] (.n 34 [s_s_PlanOk] (.e) (.e)) (.e)) (.n 39 [s_l_toPkgS] (.e) (.e))) (.n 42 [s_l_markPkgS] (.n 41 [s_l_eqPkgS] (.e) (.e)) (.n 43 [s_l_heldPkgS] (.e) (.e)))) (.n 99 [s_l_szPkg] (.n 93 [s_s_l13Meets] (.n 92 [s_s_l13One] (.n 91 [s_s_StoreOk] (.e) (.e)) (.e)) (.n 94 [s_s_l13Owner] (.e) (.e))) (.n 101 [s_s_l13For] (.n 100 [s_s_l6In] (.e) (.e)) (.n 102 [s_l_toPkg] (.e) (.e))))) (.n 112 [s_l_heldDepS] (.n 108 [s_l_eqPkg] (.n 106 [s_i_newer] (.n 105 [s_sl_Contains_int] (.n 104 [s_i_isName] (.e) (.e)) (.e)) (.n 107 [s_i_put] (.e) (.e))) (.n 110 [s_l_markDepS] (.n 109 [s_l_markFileS] (.e) (.e)) (.n 111 [s_l_heldFileS] (.e) (.e)))) (.n 145 [s_i_PlanOk_1] (.n 143 [s_s_l12With] (.n 138 [s_i_in] (.e) (.e)) (.n 144 [s_sl_ContainsFunc_Dep] (.e) (.e))) (.n 147 [s_i_Pkg_copied] (.n 146 [s_i_bears] (.e) (.e)) (.n 150 [s_s_l3Pkgs] (.e) (.e)))))) (.n 181 [s_sl_IndexFunc_Dep] (.n 162 [s_sl_Index_int] (.n 158 [s_l_toFileS] (.n 156 [s_s_l13Is] (.n 155 [s_l_szDepS] (.n 154 [s_l_szFileS] (.e) (.e)) (.e)) (.n 157 [s_s_l13Pick] (.e) (.e))) (.n 160 [s_i_PkgOk] (.n 159 [s_l_toDepS] (.e) (.e)) (.n 161 [s_i_Pkg_compare] (.e) (.e)))) (.n 166 [s_l_eqFileS] (.n 164 [s_sl_BinarySearchFunc_Pkg] (.n 163 [s_i_newest] (.e) (.e)) (.n 165 [s_sl_Insert_Pkg] (.e) (.e))) (.n 177 [s_s_l12PkgCopy] (.n 167 [s_l_eqDepS] (.e) (.e)) (.n 180 [s_s_l3Less] (.e) (.e))))) (.n 192 [s_cmp_Or_int] (.n 186 [s_s_PkgOk] (.n 184 [s_sl_Clone_File] (.n 183 [s_i_bears_1] (.n 182 [s_sl_ContainsFunc_Pkg] (.e) (.e)) (.e)) (.n 185 [s_sl_Clone_Dep] (.e) (.e))) (.n 190 [s_l_toDep] (.n 189 [s_l_toFile] (.e) (.e)) (.n 191 [s_i_isVer] (.e) (.e)))) (.n 199 [s_sl_IndexFunc_Pkg] (.n 196 [s_l_eqFile] (.n 193 [s_cmp_Compare_int] (.e) (.e)) (.n 197 [s_l_eqDep] (.e) (.e))) (.n 201 [s_s_l1Deps] (.n 200 [s_s_l1Files] (.e) (.e)) (.n 202 [s_cmp_isNaN_int] (.e) (.e))))))
def eqL : List Nat := [121, 118]
theorem tt_ok : tt.all (tyChk PP) = true := by kernel_rfl
theorem cfg_ok {C : Cfg} (h : C.tt = tt) : CfgOk PP C := fun t ti ht => tyChk_ok (Tr.get_all (p := tyChk PP) tt_ok (by rw [← h]; exact ht))
theorem eq_chk : eqL.all (fun t => match tt.get t with | some ti => chkEq PP t ti.zero | none => true) = true := by kernel_rfl
theorem eq_ok {C : Cfg} (ht : C.tt = tt) (he : C.eqt = eqL) : EqOk PP C := eqOk_of (by unfold Cfg.ty; rw [ht, he]; exact eq_chk)
theorem mixed : PP.follows .mixedOrders = true := by kernel_rfl

end V
end Go.Proofs.Ytgialjcichiaoaa

/-
How functions are called where all that is owned is owned with its list. Written by a program.
-/
namespace Go.Proofs.Ytgialjcichiaoaa
namespace V

abbrev s_l_toFile_X : Sig := ⟨[.v true [.s, .s]], [.v true [.s, .s]]⟩
abbrev s_l_toFileS_X : Sig := ⟨[.v false [.b]], [.v false [.o true ⟨2, true⟩]]⟩
abbrev s_l_toDep_X : Sig := ⟨[.v true [.s, .s]], [.v true [.s, .s]]⟩
abbrev s_l_toDepS_X : Sig := ⟨[.v false [.b]], [.v false [.o true ⟨2, true⟩]]⟩
abbrev s_l_toPkg_X : Sig := ⟨[.v true [.s, .s, .b, .b]], [.v true [.s, .s, .o true ⟨2, true⟩, .o true ⟨2, true⟩]]⟩
abbrev s_l_toPkgS_X : Sig := ⟨[.v false [.b]], [.v false [.o true ⟨4, true⟩]]⟩
abbrev s_l_markFileS_X : Sig := ⟨[.io false [.o true ⟨0, true⟩], .v false [.s]], [.v false [.s]]⟩
abbrev s_l_markDepS_X : Sig := ⟨[.io false [.o true ⟨0, true⟩], .v false [.s]], [.v false [.s]]⟩
abbrev s_l_markPkgS_X : Sig := ⟨[.io false [.o true ⟨0, true⟩], .v false [.s]], [.v false [.s]]⟩
abbrev s_l_FnExactPlanFor_X : Sig := ⟨[.v false [.b], .v false [.b], .v false [.s]], [.v false [.s]]⟩
abbrev s_i_newer_X : Sig := ⟨[.v false [.b], .v false [.b], .v false [.s]], [.v true [.s, .s, .b, .b], .v false [.s]]⟩
abbrev s_i_put_X : Sig := ⟨[.v false [.o true ⟨4, true⟩], .v true [.s, .s, .b, .b]], [.v false [.o true ⟨4, true⟩], .v false [.s]]⟩
abbrev s_i_PlanFor_X : Sig := ⟨[.v false [.b], .v false [.b], .v false [.s]], [.v false [.o true ⟨4, true⟩], .v false [.s]]⟩
abbrev s_i_Pkg_copied_X : Sig := ⟨[.v true [.s, .s, .b, .b]], [.v true [.s, .s, .o true ⟨2, true⟩, .o true ⟨2, true⟩]]⟩
abbrev s_sl_Clone_File_X : Sig := ⟨[.v false [.b]], [.v false [.o true ⟨2, true⟩]]⟩
abbrev s_sl_Clone_Dep_X : Sig := ⟨[.v false [.b]], [.v false [.o true ⟨2, true⟩]]⟩
abbrev s_sl_Insert_Pkg_X : Sig := ⟨[.v false [.o true ⟨4, true⟩], .v false [.s], .v false [.o true ⟨4, true⟩]], [.v false [.o true ⟨4, true⟩]]⟩
def sigsx : Tr (List Sig) := .n 151 [s_s_l12Newest] (.n 103 [s_i_StoreOk] (.n 86 [s_i_PlanOk] (.n 40 [s_i_PlanFor_X, s_i_PlanFor] (.n 38 [s_s_PlanFor] (.n 37 [s_l_szPkgS] (.n 34 [s_s_PlanOk] (.e) (.e)) (.e)) (.n 39 [s_l_toPkgS_X, s_l_toPkgS] (.e) (.e))) (.n 42 [s_l_markPkgS_X, s_l_markPkgS] (.n 41 [s_l_eqPkgS] (.e) (.e)) (.n 43 [s_l_heldPkgS] (.e) (.e)))) (.n 99 [s_l_szPkg] (.n 93 [s_s_l13Meets] (.n 92 [s_s_l13One] (.n 91 [s_s_StoreOk] (.e) (.e)) (.e)) (.n 94 [s_s_l13Owner] (.e) (.e))) (.n 101 [s_s_l13For] (.n 100 [s_s_l6In] (.e) (.e)) (.n 102 [s_l_toPkg_X, s_l_toPkg] (.e) (.e))))) (.n 112 [s_l_heldDepS] (.n 108 [s_l_eqPkg] (.n 106 [s_i_newer_X] (.n 105 [s_sl_Contains_int] (.n 104 [s_i_isName] (.e) (.e)) (.e)) (.n 107 [s_i_put_X, s_i_put] (.e) (.e))) (.n 110 [s_l_markDepS_X, s_l_markDepS] (.n 109 [s_l_markFileS_X, s_l_markFileS] (.e) (.e)) (.n 111 [s_l_heldFileS] (.e) (.e)))) (.n 145 [s_i_PlanOk_1] (.n 143 [s_s_l12With] (.n 138 [s_i_in] (.e) (.e)) (.n 144 [s_sl_ContainsFunc_Dep] (.e) (.e))) (.n 147 [s_i_Pkg_copied_X, s_i_Pkg_copied] (.n 146 [s_i_bears] (.e) (.e)) (.n 150 [s_s_l3Pkgs] (.e) (.e)))))) (.n 181 [s_sl_IndexFunc_Dep] (.n 162 [s_sl_Index_int] (.n 158 [s_l_toFileS_X, s_l_toFileS] (.n 156 [s_s_l13Is] (.n 155 [s_l_szDepS] (.n 154 [s_l_szFileS] (.e) (.e)) (.e)) (.n 157 [s_s_l13Pick] (.e) (.e))) (.n 160 [s_i_PkgOk] (.n 159 [s_l_toDepS_X, s_l_toDepS] (.e) (.e)) (.n 161 [s_i_Pkg_compare] (.e) (.e)))) (.n 166 [s_l_eqFileS] (.n 164 [s_sl_BinarySearchFunc_Pkg] (.n 163 [s_i_newest] (.e) (.e)) (.n 165 [s_sl_Insert_Pkg_X, s_sl_Insert_Pkg] (.e) (.e))) (.n 177 [s_s_l12PkgCopy] (.n 167 [s_l_eqDepS] (.e) (.e)) (.n 180 [s_s_l3Less] (.e) (.e))))) (.n 192 [s_cmp_Or_int] (.n 186 [s_s_PkgOk] (.n 184 [s_sl_Clone_File_X, s_sl_Clone_File] (.n 183 [s_i_bears_1] (.n 182 [s_sl_ContainsFunc_Pkg] (.e) (.e)) (.e)) (.n 185 [s_sl_Clone_Dep_X, s_sl_Clone_Dep] (.e) (.e))) (.n 190 [s_l_toDep_X] (.n 189 [s_l_toFile_X] (.e) (.e)) (.n 191 [s_i_isVer] (.e) (.e)))) (.n 199 [s_sl_IndexFunc_Pkg] (.n 196 [s_l_eqFile] (.n 193 [s_cmp_Compare_int] (.e) (.e)) (.n 197 [s_l_eqDep] (.e) (.e))) (.n 201 [s_s_l1Deps] (.n 200 [s_s_l1Files] (.e) (.e)) (.n 202 [s_cmp_isNaN_int] (.e) (.e))))))

end V
end Go.Proofs.Ytgialjcichiaoaa

/-
What the seat's functions come to, as statements; that the checker says so. Written by a program.
-/
namespace Go.Proofs.Ytgialjcichiaoaa
namespace V

def p_s_l12Newest : PC := .seq (.ss [.bld 4 [.int .i64 0, .int .i64 0, .sl [], .sl []] [], .mv 5 (.c (.bool false))]) (.seq (.seq (.ss [.mv 7 (.t 0), .len 8 (.t 7), .bin 9 .sub (.t 8) (.c (.int .i64 1)), .mv 6 (.t 9)]) (.block 0 (.loop (.seq (.seq (.ss [.mv 10 (.t 6), .bin 11 .geq (.t 10) (.c (.int .i64 0))]) (.cond (.t 11) (.skip) (.exit 0))) (.seq (.block 1 (.seq (.ss [.mv 14 (.t 0), .mv 15 (.t 6), .elp 16 (.t 14) (.t 15) 4, .mv 17 (.t 16), .eld 18 17 0 [.int .i64 0], .mv 19 (.t 1), .bin 20 .eql (.t 18) (.t 19)]) (.cond (.t 20) (.seq (.ss [.mv 21 (.t 0), .mv 22 (.t 6), .elp 23 (.t 21) (.t 22) 4, .eld 24 23 0 [.int .i64 0, .int .i64 0, .sl [], .sl []], .call 25 n_s_l12PkgCopy s_s_l12PkgCopy [(.t 24)] [], .st 4 0 (.t 25), .mv 5 (.c (.bool true))]) (.ret [4, 5])) (.skip)))) (.ss [.mv 12 (.t 6), .bin 13 .sub (.t 12) (.c (.int .i64 1)), .mv 6 (.t 13)])))))) (.seq (.ss [.bld 26 [.int .i64 0, .int .i64 0, .sl [], .sl []] [], .st 4 0 (.t 26), .mv 5 (.c (.bool false))]) (.ret [4, 5])))
def k_s_l12Newest : Cfg := { tt := tt, sigs := sigs, mv := false, bm := [], eqt := eqL, keep := [true, true, false, false, true, true, true, false, false, false, false, true, false, false, false, false, false, false, false, false, true, false, false, false, false, false, false], n := 27, pin := [], fail := [], fz := [] }
theorem c_s_l12Newest : cFun k_s_l12Newest Try.f151 s_s_l12Newest = some p_s_l12Newest := by kernel_rfl
theorem F_s_l12Newest {W : Wld} {ins outs : List (List D)} (h : pwp (FunOk PP W) p_s_l12Newest (RetIs outs) (envL ins)) : FunOk PP W n_s_l12Newest s_s_l12Newest ins outs := fun_ok (C := k_s_l12Newest) (cfg_ok rfl) (eq_ok rfl rfl) mixed Try.func151 (by kernel_rfl) (by kernel_rfl) c_s_l12Newest h

def p_s_l13Pick : PC := .seq (.ss [.bld 6 [.int .i64 0, .int .i64 0, .sl [], .sl []] [], .mv 7 (.c (.bool false))]) (.seq (.ss [.mv 13 (.t 0), .mv 14 (.t 2), .call 15 n_s_l12Newest s_s_l12Newest [(.t 13), (.t 14)] [], .mv 12 (.t 15), .ext 16 12 0 4, .ext 17 12 4 1, .bld 8 [.int .i64 0, .int .i64 0, .sl [], .sl []] [], .st 8 0 (.t 16), .mv 9 (.t 17)]) (.seq (.ss [.mv 19 (.t 1), .mv 20 (.t 2), .call 21 n_s_l12Newest s_s_l12Newest [(.t 19), (.t 20)] [], .mv 18 (.t 21), .ext 22 18 0 4, .ext 23 18 4 1, .bld 10 [.int .i64 0, .int .i64 0, .sl [], .sl []] [], .st 10 0 (.t 22), .mv 11 (.t 23)]) (.seq (.seq (.ss [.mv 24 (.t 9), .mv 25 (.t 24), .g 25 true 26 (.mv 26 (.t 11)), .g 25 true 27 (.un 27 .not (.t 26)), .g 25 true 28 (.mv 28 (.t 27)), .g 28 false 29 (.nop), .g 28 false 30 (.sub 30 8 1 1), .g 28 false 31 (.nop), .g 28 false 32 (.sub 32 10 1 1), .g 28 false 33 (.bin 33 .gtr (.t 30) (.t 32)), .g 25 true 34 (.pick 34 (.t 28) (.c (.bool true)) (.t 33)), .pick 35 (.t 25) (.t 34) (.c (.bool false))]) (.cond (.t 35) (.seq (.ss [.sub 36 8 0 4, .st 6 0 (.t 36), .mv 7 (.c (.bool true))]) (.ret [6, 7])) (.skip))) (.seq (.ss [.sub 37 10 0 4, .mv 38 (.t 11), .st 6 0 (.t 37), .mv 7 (.t 38)]) (.ret [6, 7])))))
def k_s_l13Pick : Cfg := { tt := tt, sigs := sigs, mv := false, bm := [], eqt := eqL, keep := [true, true, true, false, false, false, true, true, true, true, true, true, false, false, false, false, false, false, false, false, false, false, false, false, false, false, false, false, false, false, false, false, false, false, false, true, false, false, false], n := 39, pin := [], fail := [], fz := [] }
theorem c_s_l13Pick : cFun k_s_l13Pick Try.f157 s_s_l13Pick = some p_s_l13Pick := by kernel_rfl
theorem F_s_l13Pick {W : Wld} {ins outs : List (List D)} (h : pwp (FunOk PP W) p_s_l13Pick (RetIs outs) (envL ins)) : FunOk PP W n_s_l13Pick s_s_l13Pick ins outs := fun_ok (C := k_s_l13Pick) (cfg_ok rfl) (eq_ok rfl rfl) mixed Try.func157 (by kernel_rfl) (by kernel_rfl) c_s_l13Pick h

def p_s_l12PkgCopy : PC := .seq (.ss [.mv 1 (.t 0), .bld 2 [.int .i64 0, .int .i64 0, .sl [], .sl []] []]) (.seq (.ss [.lit 3 0 [.int .i64 0, .int .i64 0] [], .nop, .sub 5 1 2 1, .app 6 2 true (.t 3) (.t 5), .nop, .st 1 2 (.t 6)]) (.seq (.ss [.lit 8 0 [.int .i64 0, .int .i64 0] [], .nop, .sub 10 1 3 1, .app 11 2 true (.t 8) (.t 10), .nop, .st 1 3 (.t 11)]) (.seq (.ss [.sub 13 1 0 4, .st 2 0 (.t 13)]) (.ret [2]))))
def k_s_l12PkgCopy : Cfg := { tt := tt, sigs := sigs, mv := false, bm := [], eqt := eqL, keep := [true, true, true, false, false, false, false, false, false, false, false, false, false, false], n := 14, pin := [], fail := [], fz := [] }
theorem c_s_l12PkgCopy : cFun k_s_l12PkgCopy Try.f177 s_s_l12PkgCopy = some p_s_l12PkgCopy := by kernel_rfl
theorem F_s_l12PkgCopy {W : Wld} {ins outs : List (List D)} (h : pwp (FunOk PP W) p_s_l12PkgCopy (RetIs outs) (envL ins)) : FunOk PP W n_s_l12PkgCopy s_s_l12PkgCopy ins outs := fun_ok (C := k_s_l12PkgCopy) (cfg_ok rfl) (eq_ok rfl rfl) mixed Try.func177 (by kernel_rfl) (by kernel_rfl) c_s_l12PkgCopy h

def p_s_l13For : PC := .seq (.ss [.mv 6 (.c (.sl [])), .mv 7 (.c (.bool false))]) (.seq (.ss [.mk 15 [.bool false] (.c (.int .i64 5)) (.c (.int .i64 5)), .mv 8 (.t 15)]) (.seq (.ss [.mv 16 (.t 8), .mv 17 (.t 2), .elp 18 (.t 16) (.t 17) 1, .els 18 0 8 0 (.c (.bool true))]) (.seq (.seq (.ss [.mv 9 (.c (.int .i64 0))]) (.block 0 (.loop (.seq (.seq (.ss [.mv 19 (.t 9), .mv 20 (.t 1), .len 21 (.t 20), .bin 22 .lss (.t 19) (.t 21)]) (.cond (.t 22) (.skip) (.exit 0))) (.seq (.block 1 (.ss [.mv 25 (.t 8), .mv 26 (.t 1), .mv 27 (.t 9), .elp 28 (.t 26) (.t 27) 4, .mv 29 (.t 28), .eld 30 29 0 [.int .i64 0], .elp 31 (.t 25) (.t 30) 1, .els 31 0 8 0 (.c (.bool true))])) (.ss [.mv 23 (.t 9), .bin 24 .add (.t 23) (.c (.int .i64 1)), .mv 9 (.t 24)])))))) (.seq (.ss [.lit 32 0 [.int .i64 0, .int .i64 0, .sl [], .sl []] [], .mv 10 (.t 32)]) (.seq (.seq (.ss [.mv 11 (.c (.int .i64 1))]) (.block 2 (.loop (.seq (.seq (.ss [.mv 33 (.t 11), .bin 34 .leq (.t 33) (.c (.int .i64 4))]) (.cond (.t 34) (.skip) (.exit 2))) (.seq (.block 3 (.seq (.seq (.ss [.mv 37 (.t 8), .mv 38 (.t 11), .elp 39 (.t 37) (.t 38) 1, .eld 40 39 0 [.bool false], .un 41 .not (.t 40), .mv 42 (.t 41), .g 42 false 43 (.mv 43 (.t 10)), .g 42 false 44 (.mv 44 (.t 11)), .g 42 false 45 (.call 45 n_s_l13Is s_s_l13Is [(.t 43), (.t 44)] []), .pick 46 (.t 42) (.c (.bool true)) (.t 45)]) (.cond (.t 46) (.exit 3) (.skip))) (.seq (.ss [.mv 48 (.t 0), .mv 49 (.t 1), .mv 50 (.t 11), .call 51 n_s_l13Pick s_s_l13Pick [(.t 48), (.t 49), (.t 50)] [], .mv 47 (.t 51), .ext 52 47 0 4, .ext 53 47 4 1, .bld 12 [.int .i64 0, .int .i64 0, .sl [], .sl []] [], .st 12 0 (.t 52), .mv 13 (.t 53)]) (.seq (.seq (.ss [.mv 54 (.t 13), .un 55 .not (.t 54)]) (.cond (.t 55) (.seq (.ss [.lit 56 0 [.int .i64 0, .int .i64 0, .sl [], .sl []] [], .mv 6 (.t 56), .mv 7 (.c (.bool false))]) (.ret [6, 7])) (.skip))) (.seq (.ss [.mv 57 (.t 10), .sub 58 12 0 4, .call 59 n_s_l12With s_s_l12With [(.t 57), (.t 58)] [], .mv 10 (.t 59)]) (.seq (.seq (.ss [.mv 14 (.c (.int .i64 0))]) (.block 4 (.loop (.seq (.seq (.ss [.mv 60 (.t 14), .nop, .sub 62 12 3 1, .len 63 (.t 62), .bin 64 .lss (.t 60) (.t 63)]) (.cond (.t 64) (.skip) (.exit 4))) (.seq (.block 5 (.ss [.mv 67 (.t 8), .nop, .sub 69 12 3 1, .mv 70 (.t 14), .elp 71 (.t 69) (.t 70) 2, .mv 72 (.t 71), .eld 73 72 0 [.int .i64 0], .elp 74 (.t 67) (.t 73) 1, .els 74 0 8 0 (.c (.bool true))])) (.ss [.mv 65 (.t 14), .bin 66 .add (.t 65) (.c (.int .i64 1)), .mv 14 (.t 66)])))))) (.ss [.mv 11 (.c (.int .i64 0))]))))))) (.ss [.mv 35 (.t 11), .bin 36 .add (.t 35) (.c (.int .i64 1)), .mv 11 (.t 36)])))))) (.seq (.seq (.ss [.mv 75 (.t 10), .call 76 n_s_PlanOk s_s_PlanOk [(.t 75)] [], .un 77 .not (.t 76)]) (.cond (.t 77) (.seq (.ss [.lit 78 0 [.int .i64 0, .int .i64 0, .sl [], .sl []] [], .mv 6 (.t 78), .mv 7 (.c (.bool false))]) (.ret [6, 7])) (.skip))) (.seq (.ss [.mv 79 (.t 10), .mv 6 (.t 79), .mv 7 (.c (.bool true))]) (.ret [6, 7]))))))))
def k_s_l13For : Cfg := { tt := tt, sigs := sigs, mv := false, bm := [], eqt := eqL, keep := [true, true, true, false, false, false, true, true, true, true, true, true, true, true, true, false, false, false, false, false, false, false, true, false, false, false, false, false, false, false, false, false, false, false, true, false, false, false, false, false, false, false, false, false, false, false, true, false, false, false, false, false, false, false, false, true, false, false, false, false, false, false, false, false, true, false, false, false, false, false, false, false, false, false, false, false, false, true, false, false], n := 80, pin := [], fail := [], fz := [] }
theorem c_s_l13For : cFun k_s_l13For Try.f101 s_s_l13For = some p_s_l13For := by kernel_rfl
theorem F_s_l13For {W : Wld} {ins outs : List (List D)} (h : pwp (FunOk PP W) p_s_l13For (RetIs outs) (envL ins)) : FunOk PP W n_s_l13For s_s_l13For ins outs := fun_ok (C := k_s_l13For) (cfg_ok rfl) (eq_ok rfl rfl) mixed Try.func101 (by kernel_rfl) (by kernel_rfl) c_s_l13For h

def p_i_PlanOk_1 : PC := .seq (.ss [.mv 2 (.t 0), .mv 3 (.c (.bool false))]) (.seq (.ss [.sub 4 1 0 1, .sub 5 2 0 2, .call 6 n_i_bears s_i_bears [(.t 4), (.t 5)] [], .un 7 .not (.t 6), .mv 3 (.t 7)]) (.ret [3]))
def k_i_PlanOk_1 : Cfg := { tt := tt, sigs := sigs, mv := false, bm := [], eqt := eqL, keep := [true, true, true, true, false, false, false, false], n := 8, pin := [], fail := [], fz := [] }
theorem c_i_PlanOk_1 : cFun k_i_PlanOk_1 Try.f145 s_i_PlanOk_1 = some p_i_PlanOk_1 := by kernel_rfl
theorem F_i_PlanOk_1 {W : Wld} {ins outs : List (List D)} (h : pwp (FunOk PP W) p_i_PlanOk_1 (RetIs outs) (envL ins)) : FunOk PP W n_i_PlanOk_1 s_i_PlanOk_1 ins outs := fun_ok (C := k_i_PlanOk_1) (cfg_ok rfl) (eq_ok rfl rfl) mixed Try.func145 (by kernel_rfl) (by kernel_rfl) c_i_PlanOk_1 h

def p_i_bears_1 : PC := .seq (.ss [.mv 2 (.t 0), .mv 3 (.c (.bool false))]) (.seq (.ss [.nop, .sub 5 2 0 1, .nop, .sub 7 1 0 1, .bin 8 .eql (.t 5) (.t 7), .mv 9 (.t 8), .g 9 true 10 (.nop), .g 9 true 11 (.sub 11 2 1 1), .g 9 true 12 (.nop), .g 9 true 13 (.sub 13 1 1 1), .g 9 true 14 (.bin 14 .geq (.t 11) (.t 13)), .pick 15 (.t 9) (.t 14) (.c (.bool false)), .mv 3 (.t 15)]) (.ret [3]))
def k_i_bears_1 : Cfg := { tt := tt, sigs := sigs, mv := false, bm := [], eqt := eqL, keep := [true, true, true, true, false, false, false, false, false, false, false, false, false, false, false, false], n := 16, pin := [], fail := [], fz := [] }
theorem c_i_bears_1 : cFun k_i_bears_1 Try.f183 s_i_bears_1 = some p_i_bears_1 := by kernel_rfl
theorem F_i_bears_1 {W : Wld} {ins outs : List (List D)} (h : pwp (FunOk PP W) p_i_bears_1 (RetIs outs) (envL ins)) : FunOk PP W n_i_bears_1 s_i_bears_1 ins outs := fun_ok (C := k_i_bears_1) (cfg_ok rfl) (eq_ok rfl rfl) mixed Try.func183 (by kernel_rfl) (by kernel_rfl) c_i_bears_1 h

def p_sl_BinarySearchFunc_Pkg : PC := .seq (.ss [.mv 4 (.t 1), .mv 6 (.c (.int .i64 0)), .mv 7 (.c (.bool false))]) (.seq (.ss [.mv 12 (.t 0), .len 13 (.t 12), .mv 8 (.t 13)]) (.seq (.ss [.mv 14 (.t 8), .mv 9 (.c (.int .i64 0)), .mv 10 (.t 14)]) (.seq (.block 0 (.loop (.seq (.seq (.ss [.mv 15 (.t 9), .mv 16 (.t 10), .bin 17 .lss (.t 15) (.t 16)]) (.cond (.t 17) (.skip) (.exit 0))) (.block 1 (.seq (.ss [.mv 18 (.t 9), .mv 19 (.t 10), .bin 20 .add (.t 18) (.t 19), .cvt 21 .u64 (.t 20), .bin 22 .shr (.t 21) (.c (.int .u64 1)), .cvt 23 .i64 (.t 22), .mv 11 (.t 23)]) (.seq (.ss [.mv 24 (.t 2), .mv 25 (.t 0), .mv 26 (.t 11), .elp 27 (.t 25) (.t 26) 4, .eld 28 27 0 [.int .i64 0, .int .i64 0, .sl [], .sl []], .sub 29 4 0 4, .callc 30 24 n_i_Pkg_compare s_i_Pkg_compare [(.t 28), (.t 29)], .bin 31 .lss (.t 30) (.c (.int .i64 0))]) (.cond (.t 31) (.ss [.mv 32 (.t 11), .bin 33 .add (.t 32) (.c (.int .i64 1)), .mv 9 (.t 33)]) (.ss [.mv 34 (.t 11), .mv 10 (.t 34)])))))))) (.seq (.ss [.mv 35 (.t 9), .mv 36 (.t 9), .mv 37 (.t 8), .bin 38 .lss (.t 36) (.t 37), .mv 39 (.t 38), .g 39 true 40 (.mv 40 (.t 2)), .g 39 true 41 (.mv 41 (.t 0)), .g 39 true 42 (.mv 42 (.t 9)), .g 39 true 43 (.elp 43 (.t 41) (.t 42) 4), .g 39 true 44 (.eld 44 43 0 [.int .i64 0, .int .i64 0, .sl [], .sl []]), .g 39 true 45 (.sub 45 4 0 4), .g 39 true 46 (.callc 46 40 n_i_Pkg_compare s_i_Pkg_compare [(.t 44), (.t 45)]), .g 39 true 47 (.bin 47 .eql (.t 46) (.c (.int .i64 0))), .pick 48 (.t 39) (.t 47) (.c (.bool false)), .mv 6 (.t 35), .mv 7 (.t 48)]) (.ret [6, 7])))))
def k_sl_BinarySearchFunc_Pkg : Cfg := { tt := tt, sigs := sigs, mv := false, bm := [], eqt := eqL, keep := [true, true, true, false, true, false, true, true, true, true, true, true, false, false, false, false, false, true, false, false, false, false, false, false, false, false, false, false, false, false, false, true, false, false, false, false, false, false, false, false, false, false, false, false, false, false, false, false, false], n := 49, pin := [], fail := [], fz := [] }
theorem c_sl_BinarySearchFunc_Pkg : cFun k_sl_BinarySearchFunc_Pkg Try.f164 s_sl_BinarySearchFunc_Pkg = some p_sl_BinarySearchFunc_Pkg := by kernel_rfl
theorem F_sl_BinarySearchFunc_Pkg {W : Wld} {ins outs : List (List D)} (h : pwp (FunOk PP W) p_sl_BinarySearchFunc_Pkg (RetIs outs) (envL ins)) : FunOk PP W n_sl_BinarySearchFunc_Pkg s_sl_BinarySearchFunc_Pkg ins outs := fun_ok (C := k_sl_BinarySearchFunc_Pkg) (cfg_ok rfl) (eq_ok rfl rfl) mixed Try.func164 (by kernel_rfl) (by kernel_rfl) c_sl_BinarySearchFunc_Pkg h

def p_sl_ContainsFunc_Dep : PC := .seq (.ss [.mv 4 (.c (.bool false))]) (.seq (.ss [.mv 5 (.t 0), .mv 6 (.t 1), .call 7 n_sl_IndexFunc_Dep s_sl_IndexFunc_Dep [(.t 5), (.t 6)] [], .bin 8 .geq (.t 7) (.c (.int .i64 0)), .mv 4 (.t 8)]) (.ret [4]))
def k_sl_ContainsFunc_Dep : Cfg := { tt := tt, sigs := sigs, mv := false, bm := [], eqt := eqL, keep := [true, true, false, false, true, false, false, false, false], n := 9, pin := [], fail := [], fz := [] }
theorem c_sl_ContainsFunc_Dep : cFun k_sl_ContainsFunc_Dep Try.f144 s_sl_ContainsFunc_Dep = some p_sl_ContainsFunc_Dep := by kernel_rfl
theorem F_sl_ContainsFunc_Dep {W : Wld} {ins outs : List (List D)} (h : pwp (FunOk PP W) p_sl_ContainsFunc_Dep (RetIs outs) (envL ins)) : FunOk PP W n_sl_ContainsFunc_Dep s_sl_ContainsFunc_Dep ins outs := fun_ok (C := k_sl_ContainsFunc_Dep) (cfg_ok rfl) (eq_ok rfl rfl) mixed Try.func144 (by kernel_rfl) (by kernel_rfl) c_sl_ContainsFunc_Dep h

def p_sl_IndexFunc_Dep : PC := .seq (.ss [.mv 4 (.c (.int .i64 0))]) (.seq (.seq (.ss [.mv 6 (.t 0), .len 7 (.t 6), .mv 8 (.c (.int .i64 0))]) (.block 0 (.loop (.seq (.ss [.bin 9 .lss (.t 8) (.t 7)]) (.seq (.cond (.t 9) (.skip) (.exit 0)) (.seq (.block 1 (.seq (.ss [.mv 10 (.t 8), .mv 5 (.t 10)]) (.seq (.ss [.mv 11 (.t 1), .mv 12 (.t 0), .mv 13 (.t 5), .elp 14 (.t 12) (.t 13) 2, .eld 15 14 0 [.int .i64 0, .int .i64 0], .callc 16 11 n_i_PlanOk_1 s_i_PlanOk_1 [(.t 15)]]) (.cond (.t 16) (.seq (.ss [.mv 17 (.t 5), .mv 4 (.t 17)]) (.ret [4])) (.skip))))) (.ss [.bin 18 .add (.t 8) (.c (.int .i64 1)), .mv 8 (.t 18)]))))))) (.seq (.ss [.mv 4 (.c (.int .i64 (-1)))]) (.ret [4])))
def k_sl_IndexFunc_Dep : Cfg := { tt := tt, sigs := sigs, mv := false, bm := [], eqt := eqL, keep := [true, true, false, false, true, true, false, true, true, true, false, false, false, false, false, false, true, false, false], n := 19, pin := [], fail := [], fz := [] }
theorem c_sl_IndexFunc_Dep : cFun k_sl_IndexFunc_Dep Try.f181 s_sl_IndexFunc_Dep = some p_sl_IndexFunc_Dep := by kernel_rfl
theorem F_sl_IndexFunc_Dep {W : Wld} {ins outs : List (List D)} (h : pwp (FunOk PP W) p_sl_IndexFunc_Dep (RetIs outs) (envL ins)) : FunOk PP W n_sl_IndexFunc_Dep s_sl_IndexFunc_Dep ins outs := fun_ok (C := k_sl_IndexFunc_Dep) (cfg_ok rfl) (eq_ok rfl rfl) mixed Try.func181 (by kernel_rfl) (by kernel_rfl) c_sl_IndexFunc_Dep h

def p_sl_ContainsFunc_Pkg : PC := .seq (.ss [.mv 4 (.c (.bool false))]) (.seq (.ss [.mv 5 (.t 0), .mv 6 (.t 1), .call 7 n_sl_IndexFunc_Pkg s_sl_IndexFunc_Pkg [(.t 5), (.t 6)] [], .bin 8 .geq (.t 7) (.c (.int .i64 0)), .mv 4 (.t 8)]) (.ret [4]))
def k_sl_ContainsFunc_Pkg : Cfg := { tt := tt, sigs := sigs, mv := false, bm := [], eqt := eqL, keep := [true, true, false, false, true, false, false, false, false], n := 9, pin := [], fail := [], fz := [] }
theorem c_sl_ContainsFunc_Pkg : cFun k_sl_ContainsFunc_Pkg Try.f182 s_sl_ContainsFunc_Pkg = some p_sl_ContainsFunc_Pkg := by kernel_rfl
theorem F_sl_ContainsFunc_Pkg {W : Wld} {ins outs : List (List D)} (h : pwp (FunOk PP W) p_sl_ContainsFunc_Pkg (RetIs outs) (envL ins)) : FunOk PP W n_sl_ContainsFunc_Pkg s_sl_ContainsFunc_Pkg ins outs := fun_ok (C := k_sl_ContainsFunc_Pkg) (cfg_ok rfl) (eq_ok rfl rfl) mixed Try.func182 (by kernel_rfl) (by kernel_rfl) c_sl_ContainsFunc_Pkg h

def p_sl_IndexFunc_Pkg : PC := .seq (.ss [.mv 4 (.c (.int .i64 0))]) (.seq (.seq (.ss [.mv 6 (.t 0), .len 7 (.t 6), .mv 8 (.c (.int .i64 0))]) (.block 0 (.loop (.seq (.ss [.bin 9 .lss (.t 8) (.t 7)]) (.seq (.cond (.t 9) (.skip) (.exit 0)) (.seq (.block 1 (.seq (.ss [.mv 10 (.t 8), .mv 5 (.t 10)]) (.seq (.ss [.mv 11 (.t 1), .mv 12 (.t 0), .mv 13 (.t 5), .elp 14 (.t 12) (.t 13) 4, .eld 15 14 0 [.int .i64 0, .int .i64 0, .sl [], .sl []], .callc 16 11 n_i_bears_1 s_i_bears_1 [(.t 15)]]) (.cond (.t 16) (.seq (.ss [.mv 17 (.t 5), .mv 4 (.t 17)]) (.ret [4])) (.skip))))) (.ss [.bin 18 .add (.t 8) (.c (.int .i64 1)), .mv 8 (.t 18)]))))))) (.seq (.ss [.mv 4 (.c (.int .i64 (-1)))]) (.ret [4])))
def k_sl_IndexFunc_Pkg : Cfg := { tt := tt, sigs := sigs, mv := false, bm := [], eqt := eqL, keep := [true, true, false, false, true, true, false, true, true, true, false, false, false, false, false, false, true, false, false], n := 19, pin := [], fail := [], fz := [] }
theorem c_sl_IndexFunc_Pkg : cFun k_sl_IndexFunc_Pkg Try.f199 s_sl_IndexFunc_Pkg = some p_sl_IndexFunc_Pkg := by kernel_rfl
theorem F_sl_IndexFunc_Pkg {W : Wld} {ins outs : List (List D)} (h : pwp (FunOk PP W) p_sl_IndexFunc_Pkg (RetIs outs) (envL ins)) : FunOk PP W n_sl_IndexFunc_Pkg s_sl_IndexFunc_Pkg ins outs := fun_ok (C := k_sl_IndexFunc_Pkg) (cfg_ok rfl) (eq_ok rfl rfl) mixed Try.func199 (by kernel_rfl) (by kernel_rfl) c_sl_IndexFunc_Pkg h

def p_s_l12With : PC := .seq (.ss [.mv 3 (.t 1), .mv 4 (.c (.sl []))]) (.seq (.ss [.lit 8 0 [.int .i64 0, .int .i64 0, .sl [], .sl []] [], .mv 5 (.t 8)]) (.seq (.seq (.ss [.mv 6 (.c (.int .i64 0))]) (.block 0 (.loop (.seq (.seq (.ss [.mv 9 (.t 6), .mv 10 (.t 0), .len 11 (.t 10), .bin 12 .lss (.t 9) (.t 11)]) (.cond (.t 12) (.skip) (.exit 0))) (.seq (.block 1 (.seq (.ss [.mv 15 (.t 0), .mv 16 (.t 6), .elp 17 (.t 15) (.t 16) 4, .mv 18 (.t 17), .eld 19 18 0 [.int .i64 0], .mv 20 (.t 0), .mv 21 (.t 6), .elp 22 (.t 20) (.t 21) 4, .mv 23 (.t 22), .eld 24 23 1 [.int .i64 0], .nop, .sub 26 3 0 1, .nop, .sub 28 3 1 1, .call 29 n_s_l3Less s_s_l3Less [(.t 19), (.t 24), (.t 26), (.t 28)] []]) (.cond (.t 29) (.ss [.mv 30 (.t 5), .mv 31 (.t 0), .mv 32 (.t 6), .elp 33 (.t 31) (.t 32) 4, .eld 34 33 0 [.int .i64 0, .int .i64 0, .sl [], .sl []], .lit 35 1 [.int .i64 0, .int .i64 0, .sl [], .sl []] [(0, (.t 34))], .app 36 4 false (.t 30) (.t 35), .mv 5 (.t 36)]) (.skip)))) (.ss [.mv 13 (.t 6), .bin 14 .add (.t 13) (.c (.int .i64 1)), .mv 6 (.t 14)])))))) (.seq (.ss [.mv 37 (.t 5), .sub 38 3 0 4, .lit 39 1 [.int .i64 0, .int .i64 0, .sl [], .sl []] [(0, (.t 38))], .app 40 4 false (.t 37) (.t 39), .mv 5 (.t 40)]) (.seq (.seq (.ss [.mv 7 (.c (.int .i64 0))]) (.block 2 (.loop (.seq (.seq (.ss [.mv 41 (.t 7), .mv 42 (.t 0), .len 43 (.t 42), .bin 44 .lss (.t 41) (.t 43)]) (.cond (.t 44) (.skip) (.exit 2))) (.seq (.block 3 (.seq (.ss [.nop, .sub 48 3 0 1, .nop, .sub 50 3 1 1, .mv 51 (.t 0), .mv 52 (.t 7), .elp 53 (.t 51) (.t 52) 4, .mv 54 (.t 53), .eld 55 54 0 [.int .i64 0], .mv 56 (.t 0), .mv 57 (.t 7), .elp 58 (.t 56) (.t 57) 4, .mv 59 (.t 58), .eld 60 59 1 [.int .i64 0], .call 61 n_s_l3Less s_s_l3Less [(.t 48), (.t 50), (.t 55), (.t 60)] []]) (.cond (.t 61) (.ss [.mv 62 (.t 5), .mv 63 (.t 0), .mv 64 (.t 7), .elp 65 (.t 63) (.t 64) 4, .eld 66 65 0 [.int .i64 0, .int .i64 0, .sl [], .sl []], .lit 67 1 [.int .i64 0, .int .i64 0, .sl [], .sl []] [(0, (.t 66))], .app 68 4 false (.t 62) (.t 67), .mv 5 (.t 68)]) (.skip)))) (.ss [.mv 45 (.t 7), .bin 46 .add (.t 45) (.c (.int .i64 1)), .mv 7 (.t 46)])))))) (.seq (.ss [.mv 69 (.t 5), .mv 4 (.t 69)]) (.ret [4]))))))
def k_s_l12With : Cfg := { tt := tt, sigs := sigs, mv := false, bm := [8], eqt := eqL, keep := [true, true, false, true, true, true, true, true, false, false, false, false, true, false, false, false, false, false, false, false, false, false, false, false, false, false, false, false, false, true, false, false, false, false, false, false, false, false, false, false, false, false, false, false, true, false, false, false, false, false, false, false, false, false, false, false, false, false, false, false, false, true, false, false, false, false, false, false, false, false], n := 70, pin := [], fail := [], fz := [] }
theorem c_s_l12With : cFun k_s_l12With Try.f143 s_s_l12With = some p_s_l12With := by kernel_rfl
theorem F_s_l12With {W : Wld} {ins outs : List (List D)} (h : pwp (FunOk PP W) p_s_l12With (RetIs outs) (envL ins)) : FunOk PP W n_s_l12With s_s_l12With ins outs := fun_ok (C := k_s_l12With) (cfg_ok rfl) (eq_ok rfl rfl) mixed Try.func143 (by kernel_rfl) (by kernel_rfl) c_s_l12With h

end V
end Go.Proofs.Ytgialjcichiaoaa

/-
What the seat's functions come to, as statements; that the checker says so. Written by a program.
-/
namespace Go.Proofs.Ytgialjcichiaoaa
namespace V

def p_s_PlanOk : PC := .seq (.ss [.mv 2 (.c (.bool false))]) (.seq (.seq (.ss [.mv 6 (.t 0), .call 7 n_s_StoreOk s_s_StoreOk [(.t 6)] [], .un 8 .not (.t 7), .mv 9 (.t 8), .g 9 false 10 (.mv 10 (.t 0)), .g 9 false 11 (.call 11 n_s_l13One s_s_l13One [(.t 10)] []), .g 9 false 12 (.un 12 .not (.t 11)), .pick 13 (.t 9) (.c (.bool true)) (.t 12)]) (.cond (.t 13) (.seq (.ss [.mv 2 (.c (.bool false))]) (.ret [2])) (.skip))) (.seq (.seq (.ss [.mv 3 (.c (.int .i64 0))]) (.block 0 (.loop (.seq (.seq (.ss [.mv 14 (.t 3), .mv 15 (.t 0), .len 16 (.t 15), .bin 17 .lss (.t 14) (.t 16)]) (.cond (.t 17) (.skip) (.exit 0))) (.seq (.block 1 (.seq (.seq (.ss [.mv 4 (.c (.int .i64 0))]) (.block 2 (.loop (.seq (.seq (.ss [.mv 20 (.t 4), .mv 21 (.t 0), .mv 22 (.t 3), .elp 23 (.t 21) (.t 22) 4, .mv 24 (.t 23), .eld 25 24 3 [.sl []], .len 26 (.t 25), .bin 27 .lss (.t 20) (.t 26)]) (.cond (.t 27) (.skip) (.exit 2))) (.seq (.block 3 (.seq (.ss [.mv 30 (.t 0), .mv 31 (.t 0), .mv 32 (.t 3), .elp 33 (.t 31) (.t 32) 4, .mv 34 (.t 33), .eld 35 34 3 [.sl []], .mv 36 (.t 4), .elp 37 (.t 35) (.t 36) 2, .eld 38 37 0 [.int .i64 0, .int .i64 0], .call 39 n_s_l13Meets s_s_l13Meets [(.t 30), (.t 38)] [], .un 40 .not (.t 39)]) (.cond (.t 40) (.seq (.ss [.mv 2 (.c (.bool false))]) (.ret [2])) (.skip)))) (.ss [.mv 28 (.t 4), .bin 29 .add (.t 28) (.c (.int .i64 1)), .mv 4 (.t 29)])))))) (.seq (.ss [.mv 5 (.c (.int .i64 0))]) (.block 4 (.loop (.seq (.seq (.ss [.mv 41 (.t 5), .mv 42 (.t 0), .mv 43 (.t 3), .elp 44 (.t 42) (.t 43) 4, .mv 45 (.t 44), .eld 46 45 2 [.sl []], .len 47 (.t 46), .bin 48 .lss (.t 41) (.t 47)]) (.cond (.t 48) (.skip) (.exit 4))) (.seq (.block 5 (.seq (.ss [.mv 51 (.t 0), .mv 52 (.t 3), .mv 53 (.t 0), .mv 54 (.t 3), .elp 55 (.t 53) (.t 54) 4, .mv 56 (.t 55), .eld 57 56 2 [.sl []], .mv 58 (.t 5), .elp 59 (.t 57) (.t 58) 2, .mv 60 (.t 59), .eld 61 60 0 [.int .i64 0], .call 62 n_s_l13Owner s_s_l13Owner [(.t 51), (.t 52), (.t 61)] [], .bin 63 .geq (.t 62) (.c (.int .i64 0))]) (.cond (.t 63) (.seq (.ss [.mv 2 (.c (.bool false))]) (.ret [2])) (.skip)))) (.ss [.mv 49 (.t 5), .bin 50 .add (.t 49) (.c (.int .i64 1)), .mv 5 (.t 50)])))))))) (.ss [.mv 18 (.t 3), .bin 19 .add (.t 18) (.c (.int .i64 1)), .mv 3 (.t 19)])))))) (.seq (.ss [.mv 2 (.c (.bool true))]) (.ret [2]))))
def k_s_PlanOk : Cfg := { tt := tt, sigs := sigs, mv := false, bm := [], eqt := eqL, keep := [true, false, true, true, true, true, false, false, false, false, false, false, false, true, false, false, false, true, false, false, false, false, false, false, false, false, false, true, false, false, false, false, false, false, false, false, false, false, false, false, true, false, false, false, false, false, false, false, true, false, false, false, false, false, false, false, false, false, false, false, false, false, false, true], n := 64, pin := [], fail := [], fz := [] }
theorem c_s_PlanOk : cFun k_s_PlanOk Try.f34 s_s_PlanOk = some p_s_PlanOk := by kernel_rfl
theorem F_s_PlanOk {W : Wld} {ins outs : List (List D)} (h : pwp (FunOk PP W) p_s_PlanOk (RetIs outs) (envL ins)) : FunOk PP W n_s_PlanOk s_s_PlanOk ins outs := fun_ok (C := k_s_PlanOk) (cfg_ok rfl) (eq_ok rfl rfl) mixed Try.func34 (by kernel_rfl) (by kernel_rfl) c_s_PlanOk h

def p_l_szPkgS : PC := .seq (.ss [.mv 4 (.c (.int .i64 0))]) (.seq (.ss [.mv 6 (.t 1), .mv 7 (.t 0), .len 8 (.t 7), .bin 9 .sub (.t 6) (.t 8), .mv 1 (.t 9)]) (.seq (.seq (.ss [.mv 10 (.t 1), .bin 11 .lss (.t 10) (.c (.int .i64 0))]) (.cond (.t 11) (.seq (.ss [.mv 4 (.c (.int .i64 (-1)))]) (.ret [4])) (.skip))) (.seq (.seq (.ss [.mv 5 (.c (.int .i64 0))]) (.block 0 (.loop (.seq (.seq (.ss [.mv 12 (.t 5), .mv 13 (.t 0), .len 14 (.t 13), .bin 15 .lss (.t 12) (.t 14)]) (.cond (.t 15) (.skip) (.exit 0))) (.seq (.block 1 (.seq (.ss [.mv 18 (.t 0), .mv 19 (.t 5), .elp 20 (.t 18) (.t 19) 4, .eld 21 20 0 [.int .i64 0, .int .i64 0, .sl [], .sl []], .mv 22 (.t 1), .call 23 n_l_szPkg s_l_szPkg [(.t 21), (.t 22)] [], .mv 1 (.t 23)]) (.seq (.ss [.mv 24 (.t 1), .bin 25 .lss (.t 24) (.c (.int .i64 0))]) (.cond (.t 25) (.seq (.ss [.mv 4 (.c (.int .i64 (-1)))]) (.ret [4])) (.skip))))) (.ss [.mv 16 (.t 5), .bin 17 .add (.t 16) (.c (.int .i64 1)), .mv 5 (.t 17)])))))) (.seq (.ss [.mv 26 (.t 1), .mv 4 (.t 26)]) (.ret [4])))))
def k_l_szPkgS : Cfg := { tt := tt, sigs := sigs, mv := false, bm := [], eqt := eqL, keep := [true, true, false, false, true, true, false, false, false, false, false, true, false, false, false, true, false, false, false, false, false, false, false, false, false, true, false], n := 27, pin := [], fail := [], fz := [] }
theorem c_l_szPkgS : cFun k_l_szPkgS Try.f37 s_l_szPkgS = some p_l_szPkgS := by kernel_rfl
theorem F_l_szPkgS {W : Wld} {ins outs : List (List D)} (h : pwp (FunOk PP W) p_l_szPkgS (RetIs outs) (envL ins)) : FunOk PP W n_l_szPkgS s_l_szPkgS ins outs := fun_ok (C := k_l_szPkgS) (cfg_ok rfl) (eq_ok rfl rfl) mixed Try.func37 (by kernel_rfl) (by kernel_rfl) c_l_szPkgS h

def p_s_PlanFor : PC := .seq (.ss [.mv 6 (.c (.sl [])), .mv 7 (.c (.bool false))]) (.seq (.seq (.ss [.mv 8 (.t 0), .call 9 n_s_StoreOk s_s_StoreOk [(.t 8)] [], .un 10 .not (.t 9), .mv 11 (.t 10), .g 11 false 12 (.mv 12 (.t 1)), .g 11 false 13 (.call 13 n_s_PlanOk s_s_PlanOk [(.t 12)] []), .g 11 false 14 (.un 14 .not (.t 13)), .pick 15 (.t 11) (.c (.bool true)) (.t 14), .mv 16 (.t 15), .g 16 false 17 (.mv 17 (.t 2)), .g 16 false 18 (.call 18 n_s_l6In s_s_l6In [(.t 17), (.c (.int .i64 1)), (.c (.int .i64 4))] []), .g 16 false 19 (.un 19 .not (.t 18)), .pick 20 (.t 16) (.c (.bool true)) (.t 19)]) (.cond (.t 20) (.seq (.ss [.lit 21 0 [.int .i64 0, .int .i64 0, .sl [], .sl []] [], .mv 6 (.t 21), .mv 7 (.c (.bool false))]) (.ret [6, 7])) (.skip))) (.seq (.ss [.mv 22 (.t 0), .mv 23 (.t 1), .mv 24 (.t 2), .call 25 n_s_l13For s_s_l13For [(.t 22), (.t 23), (.t 24)] [], .ext 26 25 0 1, .ext 27 25 1 1, .mv 6 (.t 26), .mv 7 (.t 27)]) (.ret [6, 7])))
def k_s_PlanFor : Cfg := { tt := tt, sigs := sigs, mv := false, bm := [], eqt := eqL, keep := [true, true, true, false, false, false, true, true, false, false, false, false, false, false, false, false, false, false, false, false, true, false, false, false, false, false, false, false], n := 28, pin := [], fail := [], fz := [] }
theorem c_s_PlanFor : cFun k_s_PlanFor Try.f38 s_s_PlanFor = some p_s_PlanFor := by kernel_rfl
theorem F_s_PlanFor {W : Wld} {ins outs : List (List D)} (h : pwp (FunOk PP W) p_s_PlanFor (RetIs outs) (envL ins)) : FunOk PP W n_s_PlanFor s_s_PlanFor ins outs := fun_ok (C := k_s_PlanFor) (cfg_ok rfl) (eq_ok rfl rfl) mixed Try.func38 (by kernel_rfl) (by kernel_rfl) c_s_PlanFor h

def p_l_eqPkgS : PC := .seq (.ss [.mv 4 (.c (.bool false))]) (.seq (.seq (.ss [.mv 6 (.t 0), .len 7 (.t 6), .mv 8 (.t 1), .len 9 (.t 8), .bin 10 .neq (.t 7) (.t 9)]) (.cond (.t 10) (.seq (.ss [.mv 4 (.c (.bool false))]) (.ret [4])) (.skip))) (.seq (.seq (.ss [.mv 5 (.c (.int .i64 0))]) (.block 0 (.loop (.seq (.seq (.ss [.mv 11 (.t 5), .mv 12 (.t 0), .len 13 (.t 12), .bin 14 .lss (.t 11) (.t 13)]) (.cond (.t 14) (.skip) (.exit 0))) (.seq (.block 1 (.seq (.ss [.mv 17 (.t 0), .mv 18 (.t 5), .elp 19 (.t 17) (.t 18) 4, .eld 20 19 0 [.int .i64 0, .int .i64 0, .sl [], .sl []], .mv 21 (.t 1), .mv 22 (.t 5), .elp 23 (.t 21) (.t 22) 4, .eld 24 23 0 [.int .i64 0, .int .i64 0, .sl [], .sl []], .call 25 n_l_eqPkg s_l_eqPkg [(.t 20), (.t 24)] [], .un 26 .not (.t 25)]) (.cond (.t 26) (.seq (.ss [.mv 4 (.c (.bool false))]) (.ret [4])) (.skip)))) (.ss [.mv 15 (.t 5), .bin 16 .add (.t 15) (.c (.int .i64 1)), .mv 5 (.t 16)])))))) (.seq (.ss [.mv 4 (.c (.bool true))]) (.ret [4]))))
def k_l_eqPkgS : Cfg := { tt := tt, sigs := sigs, mv := false, bm := [], eqt := eqL, keep := [true, true, false, false, true, true, false, false, false, false, true, false, false, false, true, false, false, false, false, false, false, false, false, false, false, false, true], n := 27, pin := [], fail := [], fz := [] }
theorem c_l_eqPkgS : cFun k_l_eqPkgS Try.f41 s_l_eqPkgS = some p_l_eqPkgS := by kernel_rfl
theorem F_l_eqPkgS {W : Wld} {ins outs : List (List D)} (h : pwp (FunOk PP W) p_l_eqPkgS (RetIs outs) (envL ins)) : FunOk PP W n_l_eqPkgS s_l_eqPkgS ins outs := fun_ok (C := k_l_eqPkgS) (cfg_ok rfl) (eq_ok rfl rfl) mixed Try.func41 (by kernel_rfl) (by kernel_rfl) c_l_eqPkgS h

def p_l_heldPkgS : PC := .seq (.ss [.mv 4 (.c (.int .i64 0))]) (.seq (.seq (.ss [.mv 5 (.c (.int .i64 0))]) (.block 0 (.loop (.seq (.seq (.ss [.mv 6 (.t 5), .mv 7 (.t 0), .len 8 (.t 7), .bin 9 .lss (.t 6) (.t 8)]) (.cond (.t 9) (.skip) (.exit 0))) (.seq (.block 1 (.seq (.seq (.ss [.mv 12 (.t 0), .mv 13 (.t 5), .elp 14 (.t 12) (.t 13) 4, .mv 15 (.t 14), .eld 16 15 0 [.int .i64 0], .mv 17 (.t 1), .bin 18 .neq (.t 16) (.t 17)]) (.cond (.t 18) (.seq (.ss [.mv 4 (.c (.int .i64 (-1)))]) (.ret [4])) (.skip))) (.seq (.ss [.mv 19 (.t 1), .bin 20 .add (.t 19) (.c (.int .i64 1)), .mv 1 (.t 20)]) (.seq (.seq (.ss [.mv 21 (.t 0), .mv 22 (.t 5), .elp 23 (.t 21) (.t 22) 4, .mv 24 (.t 23), .eld 25 24 1 [.int .i64 0], .mv 26 (.t 1), .bin 27 .neq (.t 25) (.t 26)]) (.cond (.t 27) (.seq (.ss [.mv 4 (.c (.int .i64 (-1)))]) (.ret [4])) (.skip))) (.seq (.ss [.mv 28 (.t 1), .bin 29 .add (.t 28) (.c (.int .i64 1)), .mv 1 (.t 29)]) (.seq (.ss [.mv 30 (.t 0), .mv 31 (.t 5), .elp 32 (.t 30) (.t 31) 4, .mv 33 (.t 32), .eld 34 33 2 [.sl []], .mv 35 (.t 1), .call 36 n_l_heldFileS s_l_heldFileS [(.t 34), (.t 35)] [], .mv 1 (.t 36)]) (.seq (.seq (.ss [.mv 37 (.t 1), .bin 38 .lss (.t 37) (.c (.int .i64 0))]) (.cond (.t 38) (.seq (.ss [.mv 4 (.c (.int .i64 (-1)))]) (.ret [4])) (.skip))) (.seq (.ss [.mv 39 (.t 0), .mv 40 (.t 5), .elp 41 (.t 39) (.t 40) 4, .mv 42 (.t 41), .eld 43 42 3 [.sl []], .mv 44 (.t 1), .call 45 n_l_heldDepS s_l_heldDepS [(.t 43), (.t 44)] [], .mv 1 (.t 45)]) (.seq (.ss [.mv 46 (.t 1), .bin 47 .lss (.t 46) (.c (.int .i64 0))]) (.cond (.t 47) (.seq (.ss [.mv 4 (.c (.int .i64 (-1)))]) (.ret [4])) (.skip))))))))))) (.ss [.mv 10 (.t 5), .bin 11 .add (.t 10) (.c (.int .i64 1)), .mv 5 (.t 11)])))))) (.seq (.ss [.mv 48 (.t 1), .mv 4 (.t 48)]) (.ret [4])))
def k_l_heldPkgS : Cfg := { tt := tt, sigs := sigs, mv := false, bm := [], eqt := eqL, keep := [true, true, false, false, true, true, false, false, false, true, false, false, false, false, false, false, false, false, true, false, false, false, false, false, false, false, false, true, false, false, false, false, false, false, false, false, false, false, true, false, false, false, false, false, false, false, false, true, false], n := 49, pin := [], fail := [], fz := [] }
theorem c_l_heldPkgS : cFun k_l_heldPkgS Try.f43 s_l_heldPkgS = some p_l_heldPkgS := by kernel_rfl
theorem F_l_heldPkgS {W : Wld} {ins outs : List (List D)} (h : pwp (FunOk PP W) p_l_heldPkgS (RetIs outs) (envL ins)) : FunOk PP W n_l_heldPkgS s_l_heldPkgS ins outs := fun_ok (C := k_l_heldPkgS) (cfg_ok rfl) (eq_ok rfl rfl) mixed Try.func43 (by kernel_rfl) (by kernel_rfl) c_l_heldPkgS h

end V
end Go.Proofs.Ytgialjcichiaoaa

/-
What the seat's functions come to, as statements; that the checker says so. Written by a program.
-/
namespace Go.Proofs.Ytgialjcichiaoaa
namespace V

def p_i_PlanOk : PC := .seq (.ss [.mv 1 (.t 0), .mv 2 (.c (.bool false))]) (.seq (.seq (.ss [.sub 8 1 0 1, .call 9 n_i_StoreOk s_i_StoreOk [(.t 8)] [], .un 10 .not (.t 9)]) (.cond (.t 10) (.seq (.ss [.mv 2 (.c (.bool false))]) (.ret [2])) (.skip))) (.seq (.ss [.bld 3 [.bool false, .bool false, .bool false, .bool false, .bool false, .bool false] []]) (.seq (.seq (.ss [.sub 11 1 0 1, .len 12 (.t 11), .mv 13 (.c (.int .i64 0))]) (.block 0 (.loop (.seq (.ss [.bin 14 .lss (.t 13) (.t 12)]) (.seq (.cond (.t 14) (.skip) (.exit 0)) (.seq (.block 1 (.seq (.ss [.mv 15 (.t 13), .elp 16 (.t 11) (.t 13) 4, .eld 17 16 0 [.int .i64 0, .int .i64 0, .sl [], .sl []], .bld 5 [.int .i64 0, .int .i64 0, .sl [], .sl []] [], .mv 4 (.t 15), .st 5 0 (.t 17)]) (.seq (.seq (.ss [.mv 18 (.t 4), .bin 19 .gtr (.t 18) (.c (.int .i64 0)), .mv 20 (.t 19), .g 20 true 21 (.sub 21 1 0 1), .g 20 true 22 (.mv 22 (.t 4)), .g 20 true 23 (.bin 23 .sub (.t 22) (.c (.int .i64 1))), .g 20 true 24 (.elp 24 (.t 21) (.t 23) 4), .g 20 true 25 (.mv 25 (.t 24)), .g 20 true 26 (.eld 26 25 0 [.int .i64 0]), .g 20 true 27 (.nop), .g 20 true 28 (.sub 28 5 0 1), .g 20 true 29 (.bin 29 .eql (.t 26) (.t 28)), .pick 30 (.t 20) (.t 29) (.c (.bool false)), .mv 31 (.t 30), .g 31 false 32 (.nop), .g 31 false 33 (.sub 33 5 3 1), .g 31 false 34 (.fn 34 n_i_PlanOk_1 [] [1]), .g 31 false 35 (.call 35 n_sl_ContainsFunc_Dep s_sl_ContainsFunc_Dep [(.t 33), (.t 34)] []), .pick 36 (.t 31) (.c (.bool true)) (.t 35)]) (.cond (.t 36) (.seq (.ss [.mv 2 (.c (.bool false))]) (.ret [2])) (.skip))) (.seq (.ss [.nop, .sub 38 5 2 1, .len 39 (.t 38), .mv 40 (.c (.int .i64 0))]) (.block 2 (.loop (.seq (.ss [.bin 41 .lss (.t 40) (.t 39)]) (.seq (.cond (.t 41) (.skip) (.exit 2)) (.seq (.block 3 (.seq (.ss [.elp 42 (.t 38) (.t 40) 2, .eld 43 42 0 [.int .i64 0, .int .i64 0], .bld 7 [.int .i64 0, .int .i64 0] [], .st 7 0 (.t 43)]) (.seq (.seq (.ss [.nop, .sub 45 7 0 1, .bxp 46 (.t 45) 6, .bxl 47 46 3 1 0 1]) (.cond (.t 47) (.seq (.ss [.mv 2 (.c (.bool false))]) (.ret [2])) (.skip))) (.ss [.nop, .sub 49 7 0 1, .bxp 50 (.t 49) 6, .bxs 50 3 1 0 (.c (.bool true))])))) (.ss [.bin 51 .add (.t 40) (.c (.int .i64 1)), .mv 40 (.t 51)])))))))))) (.ss [.bin 52 .add (.t 13) (.c (.int .i64 1)), .mv 13 (.t 52)]))))))) (.seq (.ss [.mv 2 (.c (.bool true))]) (.ret [2])))))
def k_i_PlanOk : Cfg := { tt := tt, sigs := sigs, mv := false, bm := [], eqt := eqL, keep := [true, true, true, true, true, true, false, true, false, false, true, true, true, true, true, false, false, false, false, false, false, false, false, false, false, false, false, false, false, false, false, false, false, false, false, false, true, false, true, true, true, true, false, false, false, false, false, true, false, false, false, false, false], n := 53, pin := [], fail := [], fz := [] }
theorem c_i_PlanOk : cFun k_i_PlanOk Try.f86 s_i_PlanOk = some p_i_PlanOk := by kernel_rfl
theorem F_i_PlanOk {W : Wld} {ins outs : List (List D)} (h : pwp (FunOk PP W) p_i_PlanOk (RetIs outs) (envL ins)) : FunOk PP W n_i_PlanOk s_i_PlanOk ins outs := fun_ok (C := k_i_PlanOk) (cfg_ok rfl) (eq_ok rfl rfl) mixed Try.func86 (by kernel_rfl) (by kernel_rfl) c_i_PlanOk h

def p_s_StoreOk : PC := .seq (.ss [.mv 2 (.c (.bool false))]) (.seq (.ss [.mv 3 (.t 0), .call 4 n_s_l3Pkgs s_s_l3Pkgs [(.t 3)] [], .mv 2 (.t 4)]) (.ret [2]))
def k_s_StoreOk : Cfg := { tt := tt, sigs := sigs, mv := false, bm := [], eqt := eqL, keep := [true, false, true, false, false], n := 5, pin := [], fail := [], fz := [] }
theorem c_s_StoreOk : cFun k_s_StoreOk Try.f91 s_s_StoreOk = some p_s_StoreOk := by kernel_rfl
theorem F_s_StoreOk {W : Wld} {ins outs : List (List D)} (h : pwp (FunOk PP W) p_s_StoreOk (RetIs outs) (envL ins)) : FunOk PP W n_s_StoreOk s_s_StoreOk ins outs := fun_ok (C := k_s_StoreOk) (cfg_ok rfl) (eq_ok rfl rfl) mixed Try.func91 (by kernel_rfl) (by kernel_rfl) c_s_StoreOk h

def p_s_l13One : PC := .seq (.ss [.mv 2 (.c (.bool false))]) (.seq (.seq (.ss [.mv 3 (.c (.int .i64 1))]) (.block 0 (.loop (.seq (.seq (.ss [.mv 4 (.t 3), .mv 5 (.t 0), .len 6 (.t 5), .bin 7 .lss (.t 4) (.t 6)]) (.cond (.t 7) (.skip) (.exit 0))) (.seq (.block 1 (.seq (.ss [.mv 10 (.t 0), .mv 11 (.t 3), .bin 12 .sub (.t 11) (.c (.int .i64 1)), .elp 13 (.t 10) (.t 12) 4, .mv 14 (.t 13), .eld 15 14 0 [.int .i64 0], .mv 16 (.t 0), .mv 17 (.t 3), .elp 18 (.t 16) (.t 17) 4, .mv 19 (.t 18), .eld 20 19 0 [.int .i64 0], .bin 21 .geq (.t 15) (.t 20)]) (.cond (.t 21) (.seq (.ss [.mv 2 (.c (.bool false))]) (.ret [2])) (.skip)))) (.ss [.mv 8 (.t 3), .bin 9 .add (.t 8) (.c (.int .i64 1)), .mv 3 (.t 9)])))))) (.seq (.ss [.mv 2 (.c (.bool true))]) (.ret [2])))
def k_s_l13One : Cfg := { tt := tt, sigs := sigs, mv := false, bm := [], eqt := eqL, keep := [true, false, true, true, false, false, false, true, false, false, false, false, false, false, false, false, false, false, false, false, false, true], n := 22, pin := [], fail := [], fz := [] }
theorem c_s_l13One : cFun k_s_l13One Try.f92 s_s_l13One = some p_s_l13One := by kernel_rfl
theorem F_s_l13One {W : Wld} {ins outs : List (List D)} (h : pwp (FunOk PP W) p_s_l13One (RetIs outs) (envL ins)) : FunOk PP W n_s_l13One s_s_l13One ins outs := fun_ok (C := k_s_l13One) (cfg_ok rfl) (eq_ok rfl rfl) mixed Try.func92 (by kernel_rfl) (by kernel_rfl) c_s_l13One h

def p_s_l13Meets : PC := .seq (.ss [.mv 3 (.t 1), .mv 4 (.c (.bool false))]) (.seq (.ss [.mv 8 (.t 0), .nop, .sub 10 3 0 1, .call 11 n_s_l12Newest s_s_l12Newest [(.t 8), (.t 10)] [], .mv 7 (.t 11), .ext 12 7 0 4, .ext 13 7 4 1, .bld 5 [.int .i64 0, .int .i64 0, .sl [], .sl []] [], .st 5 0 (.t 12), .mv 6 (.t 13)]) (.seq (.ss [.mv 14 (.t 6), .mv 15 (.t 14), .g 15 true 16 (.nop), .g 15 true 17 (.sub 17 5 1 1), .g 15 true 18 (.nop), .g 15 true 19 (.sub 19 3 1 1), .g 15 true 20 (.bin 20 .geq (.t 17) (.t 19)), .pick 21 (.t 15) (.t 20) (.c (.bool false)), .mv 4 (.t 21)]) (.ret [4])))
def k_s_l13Meets : Cfg := { tt := tt, sigs := sigs, mv := false, bm := [], eqt := eqL, keep := [true, true, false, true, true, true, true, false, false, false, false, false, false, false, false, false, false, false, false, false, false, false], n := 22, pin := [], fail := [], fz := [] }
theorem c_s_l13Meets : cFun k_s_l13Meets Try.f93 s_s_l13Meets = some p_s_l13Meets := by kernel_rfl
theorem F_s_l13Meets {W : Wld} {ins outs : List (List D)} (h : pwp (FunOk PP W) p_s_l13Meets (RetIs outs) (envL ins)) : FunOk PP W n_s_l13Meets s_s_l13Meets ins outs := fun_ok (C := k_s_l13Meets) (cfg_ok rfl) (eq_ok rfl rfl) mixed Try.func93 (by kernel_rfl) (by kernel_rfl) c_s_l13Meets h

def p_s_l13Owner : PC := .seq (.ss [.mv 6 (.c (.int .i64 0))]) (.seq (.seq (.ss [.mv 7 (.c (.int .i64 0))]) (.block 0 (.loop (.seq (.seq (.ss [.mv 9 (.t 7), .mv 10 (.t 1), .bin 11 .lss (.t 9) (.t 10)]) (.cond (.t 11) (.skip) (.exit 0))) (.seq (.block 1 (.seq (.ss [.mv 8 (.c (.int .i64 0))]) (.block 2 (.loop (.seq (.seq (.ss [.mv 14 (.t 8), .mv 15 (.t 0), .mv 16 (.t 7), .elp 17 (.t 15) (.t 16) 4, .mv 18 (.t 17), .eld 19 18 2 [.sl []], .len 20 (.t 19), .bin 21 .lss (.t 14) (.t 20)]) (.cond (.t 21) (.skip) (.exit 2))) (.seq (.block 3 (.seq (.ss [.mv 24 (.t 0), .mv 25 (.t 7), .elp 26 (.t 24) (.t 25) 4, .mv 27 (.t 26), .eld 28 27 2 [.sl []], .mv 29 (.t 8), .elp 30 (.t 28) (.t 29) 2, .mv 31 (.t 30), .eld 32 31 0 [.int .i64 0], .mv 33 (.t 2), .bin 34 .eql (.t 32) (.t 33)]) (.cond (.t 34) (.seq (.ss [.mv 35 (.t 7), .mv 6 (.t 35)]) (.ret [6])) (.skip)))) (.ss [.mv 22 (.t 8), .bin 23 .add (.t 22) (.c (.int .i64 1)), .mv 8 (.t 23)]))))))) (.ss [.mv 12 (.t 7), .bin 13 .add (.t 12) (.c (.int .i64 1)), .mv 7 (.t 13)])))))) (.seq (.ss [.mv 6 (.c (.int .i64 (-1)))]) (.ret [6])))
def k_s_l13Owner : Cfg := { tt := tt, sigs := sigs, mv := false, bm := [], eqt := eqL, keep := [true, true, true, false, false, false, true, true, true, false, false, true, false, false, false, false, false, false, false, false, false, true, false, false, false, false, false, false, false, false, false, false, false, false, true, false], n := 36, pin := [], fail := [], fz := [] }
theorem c_s_l13Owner : cFun k_s_l13Owner Try.f94 s_s_l13Owner = some p_s_l13Owner := by kernel_rfl
theorem F_s_l13Owner {W : Wld} {ins outs : List (List D)} (h : pwp (FunOk PP W) p_s_l13Owner (RetIs outs) (envL ins)) : FunOk PP W n_s_l13Owner s_s_l13Owner ins outs := fun_ok (C := k_s_l13Owner) (cfg_ok rfl) (eq_ok rfl rfl) mixed Try.func94 (by kernel_rfl) (by kernel_rfl) c_s_l13Owner h

def p_l_szPkg : PC := .seq (.ss [.mv 2 (.t 0), .mv 4 (.c (.int .i64 0))]) (.seq (.ss [.nop, .sub 6 2 2 1, .mv 7 (.t 1), .call 8 n_l_szFileS s_l_szFileS [(.t 6), (.t 7)] [], .mv 1 (.t 8)]) (.seq (.seq (.ss [.mv 9 (.t 1), .bin 10 .lss (.t 9) (.c (.int .i64 0))]) (.cond (.t 10) (.seq (.ss [.mv 4 (.c (.int .i64 (-1)))]) (.ret [4])) (.skip))) (.seq (.ss [.nop, .sub 12 2 3 1, .mv 13 (.t 1), .call 14 n_l_szDepS s_l_szDepS [(.t 12), (.t 13)] [], .mv 1 (.t 14)]) (.seq (.seq (.ss [.mv 15 (.t 1), .bin 16 .lss (.t 15) (.c (.int .i64 0))]) (.cond (.t 16) (.seq (.ss [.mv 4 (.c (.int .i64 (-1)))]) (.ret [4])) (.skip))) (.seq (.ss [.mv 17 (.t 1), .mv 4 (.t 17)]) (.ret [4]))))))
def k_l_szPkg : Cfg := { tt := tt, sigs := sigs, mv := false, bm := [], eqt := eqL, keep := [true, true, true, false, true, false, false, false, false, false, true, false, false, false, false, false, true, false], n := 18, pin := [], fail := [], fz := [] }
theorem c_l_szPkg : cFun k_l_szPkg Try.f99 s_l_szPkg = some p_l_szPkg := by kernel_rfl
theorem F_l_szPkg {W : Wld} {ins outs : List (List D)} (h : pwp (FunOk PP W) p_l_szPkg (RetIs outs) (envL ins)) : FunOk PP W n_l_szPkg s_l_szPkg ins outs := fun_ok (C := k_l_szPkg) (cfg_ok rfl) (eq_ok rfl rfl) mixed Try.func99 (by kernel_rfl) (by kernel_rfl) c_l_szPkg h

def p_s_l6In : PC := .seq (.ss [.mv 6 (.c (.bool false))]) (.seq (.ss [.mv 7 (.t 0), .mv 8 (.t 1), .bin 9 .geq (.t 7) (.t 8), .mv 10 (.t 9), .g 10 true 11 (.mv 11 (.t 0)), .g 10 true 12 (.mv 12 (.t 2)), .g 10 true 13 (.bin 13 .leq (.t 11) (.t 12)), .pick 14 (.t 10) (.t 13) (.c (.bool false)), .mv 6 (.t 14)]) (.ret [6]))
def k_s_l6In : Cfg := { tt := tt, sigs := sigs, mv := false, bm := [], eqt := eqL, keep := [true, true, true, false, false, false, true, false, false, false, false, false, false, false, false], n := 15, pin := [], fail := [], fz := [] }
theorem c_s_l6In : cFun k_s_l6In Try.f100 s_s_l6In = some p_s_l6In := by kernel_rfl
theorem F_s_l6In {W : Wld} {ins outs : List (List D)} (h : pwp (FunOk PP W) p_s_l6In (RetIs outs) (envL ins)) : FunOk PP W n_s_l6In s_s_l6In ins outs := fun_ok (C := k_s_l6In) (cfg_ok rfl) (eq_ok rfl rfl) mixed Try.func100 (by kernel_rfl) (by kernel_rfl) c_s_l6In h

def p_i_StoreOk : PC := .seq (.ss [.mv 2 (.c (.bool false))]) (.seq (.seq (.ss [.mv 5 (.t 0), .len 6 (.t 5), .mv 7 (.c (.int .i64 0))]) (.block 0 (.loop (.seq (.ss [.bin 8 .lss (.t 7) (.t 6)]) (.seq (.cond (.t 8) (.skip) (.exit 0)) (.seq (.block 1 (.seq (.ss [.mv 9 (.t 7), .elp 10 (.t 5) (.t 7) 4, .eld 11 10 0 [.int .i64 0, .int .i64 0, .sl [], .sl []], .bld 4 [.int .i64 0, .int .i64 0, .sl [], .sl []] [], .mv 3 (.t 9), .st 4 0 (.t 11)]) (.seq (.ss [.sub 12 4 0 4, .call 13 n_i_PkgOk s_i_PkgOk [(.t 12)] [], .un 14 .not (.t 13), .mv 15 (.t 14), .g 15 false 16 (.mv 16 (.t 3)), .g 15 false 17 (.bin 17 .gtr (.t 16) (.c (.int .i64 0))), .g 15 false 18 (.mv 18 (.t 17)), .g 18 true 19 (.mv 19 (.t 0)), .g 18 true 20 (.mv 20 (.t 3)), .g 18 true 21 (.bin 21 .sub (.t 20) (.c (.int .i64 1))), .g 18 true 22 (.elp 22 (.t 19) (.t 21) 4), .g 18 true 23 (.eld 23 22 0 [.int .i64 0, .int .i64 0, .sl [], .sl []]), .g 18 true 24 (.sub 24 4 0 4), .g 18 true 25 (.call 25 n_i_Pkg_compare s_i_Pkg_compare [(.t 23), (.t 24)] []), .g 18 true 26 (.bin 26 .geq (.t 25) (.c (.int .i64 0))), .g 15 false 27 (.pick 27 (.t 18) (.t 26) (.c (.bool false))), .pick 28 (.t 15) (.c (.bool true)) (.t 27)]) (.cond (.t 28) (.seq (.ss [.mv 2 (.c (.bool false))]) (.ret [2])) (.skip))))) (.ss [.bin 29 .add (.t 7) (.c (.int .i64 1)), .mv 7 (.t 29)]))))))) (.seq (.ss [.mv 2 (.c (.bool true))]) (.ret [2])))
def k_i_StoreOk : Cfg := { tt := tt, sigs := sigs, mv := false, bm := [], eqt := eqL, keep := [true, false, true, true, true, true, true, true, true, false, false, false, false, false, false, false, false, false, false, false, false, false, false, false, false, false, false, false, true, false], n := 30, pin := [], fail := [], fz := [] }
theorem c_i_StoreOk : cFun k_i_StoreOk Try.f103 s_i_StoreOk = some p_i_StoreOk := by kernel_rfl
theorem F_i_StoreOk {W : Wld} {ins outs : List (List D)} (h : pwp (FunOk PP W) p_i_StoreOk (RetIs outs) (envL ins)) : FunOk PP W n_i_StoreOk s_i_StoreOk ins outs := fun_ok (C := k_i_StoreOk) (cfg_ok rfl) (eq_ok rfl rfl) mixed Try.func103 (by kernel_rfl) (by kernel_rfl) c_i_StoreOk h

def p_i_isName : PC := .seq (.ss [.mv 2 (.c (.bool false))]) (.seq (.ss [.mv 3 (.t 0), .call 4 n_i_in s_i_in [(.t 3), (.c (.int .i64 1)), (.c (.int .i64 4))] [], .mv 2 (.t 4)]) (.ret [2]))
def k_i_isName : Cfg := { tt := tt, sigs := sigs, mv := false, bm := [], eqt := eqL, keep := [true, false, true, false, false], n := 5, pin := [], fail := [], fz := [] }
theorem c_i_isName : cFun k_i_isName Try.f104 s_i_isName = some p_i_isName := by kernel_rfl
theorem F_i_isName {W : Wld} {ins outs : List (List D)} (h : pwp (FunOk PP W) p_i_isName (RetIs outs) (envL ins)) : FunOk PP W n_i_isName s_i_isName ins outs := fun_ok (C := k_i_isName) (cfg_ok rfl) (eq_ok rfl rfl) mixed Try.func104 (by kernel_rfl) (by kernel_rfl) c_i_isName h

def p_sl_Contains_int : PC := .seq (.ss [.mv 4 (.c (.bool false))]) (.seq (.ss [.mv 5 (.t 0), .mv 6 (.t 1), .call 7 n_sl_Index_int s_sl_Index_int [(.t 5), (.t 6)] [], .bin 8 .geq (.t 7) (.c (.int .i64 0)), .mv 4 (.t 8)]) (.ret [4]))
def k_sl_Contains_int : Cfg := { tt := tt, sigs := sigs, mv := false, bm := [], eqt := eqL, keep := [true, true, false, false, true, false, false, false, false], n := 9, pin := [], fail := [], fz := [] }
theorem c_sl_Contains_int : cFun k_sl_Contains_int Try.f105 s_sl_Contains_int = some p_sl_Contains_int := by kernel_rfl
theorem F_sl_Contains_int {W : Wld} {ins outs : List (List D)} (h : pwp (FunOk PP W) p_sl_Contains_int (RetIs outs) (envL ins)) : FunOk PP W n_sl_Contains_int s_sl_Contains_int ins outs := fun_ok (C := k_sl_Contains_int) (cfg_ok rfl) (eq_ok rfl rfl) mixed Try.func105 (by kernel_rfl) (by kernel_rfl) c_sl_Contains_int h

def p_l_eqPkg : PC := .seq (.ss [.mv 2 (.t 0), .mv 3 (.t 1), .mv 4 (.c (.bool false))]) (.seq (.seq (.ss [.nop, .sub 6 2 0 1, .nop, .sub 8 3 0 1, .bin 9 .neq (.t 6) (.t 8)]) (.cond (.t 9) (.seq (.ss [.mv 4 (.c (.bool false))]) (.ret [4])) (.skip))) (.seq (.seq (.ss [.nop, .sub 11 2 1 1, .nop, .sub 13 3 1 1, .bin 14 .neq (.t 11) (.t 13)]) (.cond (.t 14) (.seq (.ss [.mv 4 (.c (.bool false))]) (.ret [4])) (.skip))) (.seq (.seq (.ss [.nop, .sub 16 2 2 1, .nop, .sub 18 3 2 1, .call 19 n_l_eqFileS s_l_eqFileS [(.t 16), (.t 18)] [], .un 20 .not (.t 19)]) (.cond (.t 20) (.seq (.ss [.mv 4 (.c (.bool false))]) (.ret [4])) (.skip))) (.seq (.seq (.ss [.nop, .sub 22 2 3 1, .nop, .sub 24 3 3 1, .call 25 n_l_eqDepS s_l_eqDepS [(.t 22), (.t 24)] [], .un 26 .not (.t 25)]) (.cond (.t 26) (.seq (.ss [.mv 4 (.c (.bool false))]) (.ret [4])) (.skip))) (.seq (.ss [.mv 4 (.c (.bool true))]) (.ret [4]))))))
def k_l_eqPkg : Cfg := { tt := tt, sigs := sigs, mv := false, bm := [], eqt := eqL, keep := [true, true, true, true, true, false, false, false, false, true, false, false, false, false, true, false, false, false, false, false, true, false, false, false, false, false, true], n := 27, pin := [], fail := [], fz := [] }
theorem c_l_eqPkg : cFun k_l_eqPkg Try.f108 s_l_eqPkg = some p_l_eqPkg := by kernel_rfl
theorem F_l_eqPkg {W : Wld} {ins outs : List (List D)} (h : pwp (FunOk PP W) p_l_eqPkg (RetIs outs) (envL ins)) : FunOk PP W n_l_eqPkg s_l_eqPkg ins outs := fun_ok (C := k_l_eqPkg) (cfg_ok rfl) (eq_ok rfl rfl) mixed Try.func108 (by kernel_rfl) (by kernel_rfl) c_l_eqPkg h

def p_l_heldFileS : PC := .seq (.ss [.mv 4 (.c (.int .i64 0))]) (.seq (.seq (.ss [.mv 5 (.c (.int .i64 0))]) (.block 0 (.loop (.seq (.seq (.ss [.mv 6 (.t 5), .mv 7 (.t 0), .len 8 (.t 7), .bin 9 .lss (.t 6) (.t 8)]) (.cond (.t 9) (.skip) (.exit 0))) (.seq (.block 1 (.seq (.seq (.ss [.mv 12 (.t 0), .mv 13 (.t 5), .elp 14 (.t 12) (.t 13) 2, .mv 15 (.t 14), .eld 16 15 0 [.int .i64 0], .mv 17 (.t 1), .bin 18 .neq (.t 16) (.t 17)]) (.cond (.t 18) (.seq (.ss [.mv 4 (.c (.int .i64 (-1)))]) (.ret [4])) (.skip))) (.seq (.ss [.mv 19 (.t 1), .bin 20 .add (.t 19) (.c (.int .i64 1)), .mv 1 (.t 20)]) (.seq (.seq (.ss [.mv 21 (.t 0), .mv 22 (.t 5), .elp 23 (.t 21) (.t 22) 2, .mv 24 (.t 23), .eld 25 24 1 [.int .i64 0], .mv 26 (.t 1), .bin 27 .neq (.t 25) (.t 26)]) (.cond (.t 27) (.seq (.ss [.mv 4 (.c (.int .i64 (-1)))]) (.ret [4])) (.skip))) (.ss [.mv 28 (.t 1), .bin 29 .add (.t 28) (.c (.int .i64 1)), .mv 1 (.t 29)]))))) (.ss [.mv 10 (.t 5), .bin 11 .add (.t 10) (.c (.int .i64 1)), .mv 5 (.t 11)])))))) (.seq (.ss [.mv 30 (.t 1), .mv 4 (.t 30)]) (.ret [4])))
def k_l_heldFileS : Cfg := { tt := tt, sigs := sigs, mv := false, bm := [], eqt := eqL, keep := [true, true, false, false, true, true, false, false, false, true, false, false, false, false, false, false, false, false, true, false, false, false, false, false, false, false, false, true, false, false, false], n := 31, pin := [], fail := [], fz := [] }
theorem c_l_heldFileS : cFun k_l_heldFileS Try.f111 s_l_heldFileS = some p_l_heldFileS := by kernel_rfl
theorem F_l_heldFileS {W : Wld} {ins outs : List (List D)} (h : pwp (FunOk PP W) p_l_heldFileS (RetIs outs) (envL ins)) : FunOk PP W n_l_heldFileS s_l_heldFileS ins outs := fun_ok (C := k_l_heldFileS) (cfg_ok rfl) (eq_ok rfl rfl) mixed Try.func111 (by kernel_rfl) (by kernel_rfl) c_l_heldFileS h

def p_l_heldDepS : PC := .seq (.ss [.mv 4 (.c (.int .i64 0))]) (.seq (.seq (.ss [.mv 5 (.c (.int .i64 0))]) (.block 0 (.loop (.seq (.seq (.ss [.mv 6 (.t 5), .mv 7 (.t 0), .len 8 (.t 7), .bin 9 .lss (.t 6) (.t 8)]) (.cond (.t 9) (.skip) (.exit 0))) (.seq (.block 1 (.seq (.seq (.ss [.mv 12 (.t 0), .mv 13 (.t 5), .elp 14 (.t 12) (.t 13) 2, .mv 15 (.t 14), .eld 16 15 0 [.int .i64 0], .mv 17 (.t 1), .bin 18 .neq (.t 16) (.t 17)]) (.cond (.t 18) (.seq (.ss [.mv 4 (.c (.int .i64 (-1)))]) (.ret [4])) (.skip))) (.seq (.ss [.mv 19 (.t 1), .bin 20 .add (.t 19) (.c (.int .i64 1)), .mv 1 (.t 20)]) (.seq (.seq (.ss [.mv 21 (.t 0), .mv 22 (.t 5), .elp 23 (.t 21) (.t 22) 2, .mv 24 (.t 23), .eld 25 24 1 [.int .i64 0], .mv 26 (.t 1), .bin 27 .neq (.t 25) (.t 26)]) (.cond (.t 27) (.seq (.ss [.mv 4 (.c (.int .i64 (-1)))]) (.ret [4])) (.skip))) (.ss [.mv 28 (.t 1), .bin 29 .add (.t 28) (.c (.int .i64 1)), .mv 1 (.t 29)]))))) (.ss [.mv 10 (.t 5), .bin 11 .add (.t 10) (.c (.int .i64 1)), .mv 5 (.t 11)])))))) (.seq (.ss [.mv 30 (.t 1), .mv 4 (.t 30)]) (.ret [4])))
def k_l_heldDepS : Cfg := { tt := tt, sigs := sigs, mv := false, bm := [], eqt := eqL, keep := [true, true, false, false, true, true, false, false, false, true, false, false, false, false, false, false, false, false, true, false, false, false, false, false, false, false, false, true, false, false, false], n := 31, pin := [], fail := [], fz := [] }
theorem c_l_heldDepS : cFun k_l_heldDepS Try.f112 s_l_heldDepS = some p_l_heldDepS := by kernel_rfl
theorem F_l_heldDepS {W : Wld} {ins outs : List (List D)} (h : pwp (FunOk PP W) p_l_heldDepS (RetIs outs) (envL ins)) : FunOk PP W n_l_heldDepS s_l_heldDepS ins outs := fun_ok (C := k_l_heldDepS) (cfg_ok rfl) (eq_ok rfl rfl) mixed Try.func112 (by kernel_rfl) (by kernel_rfl) c_l_heldDepS h

def p_i_in : PC := .seq (.ss [.mv 6 (.c (.bool false))]) (.seq (.ss [.mv 7 (.t 0), .mv 8 (.t 1), .bin 9 .geq (.t 7) (.t 8), .mv 10 (.t 9), .g 10 true 11 (.mv 11 (.t 0)), .g 10 true 12 (.mv 12 (.t 2)), .g 10 true 13 (.bin 13 .leq (.t 11) (.t 12)), .pick 14 (.t 10) (.t 13) (.c (.bool false)), .mv 6 (.t 14)]) (.ret [6]))
def k_i_in : Cfg := { tt := tt, sigs := sigs, mv := false, bm := [], eqt := eqL, keep := [true, true, true, false, false, false, true, false, false, false, false, false, false, false, false], n := 15, pin := [], fail := [], fz := [] }
theorem c_i_in : cFun k_i_in Try.f138 s_i_in = some p_i_in := by kernel_rfl
theorem F_i_in {W : Wld} {ins outs : List (List D)} (h : pwp (FunOk PP W) p_i_in (RetIs outs) (envL ins)) : FunOk PP W n_i_in s_i_in ins outs := fun_ok (C := k_i_in) (cfg_ok rfl) (eq_ok rfl rfl) mixed Try.func138 (by kernel_rfl) (by kernel_rfl) c_i_in h

def p_i_bears : PC := .seq (.ss [.mv 3 (.t 1), .mv 4 (.c (.bool false))]) (.seq (.ss [.mv 5 (.t 0), .fn 6 n_i_bears_1 [] [3], .call 7 n_sl_ContainsFunc_Pkg s_sl_ContainsFunc_Pkg [(.t 5), (.t 6)] [], .mv 4 (.t 7)]) (.ret [4]))
def k_i_bears : Cfg := { tt := tt, sigs := sigs, mv := false, bm := [], eqt := eqL, keep := [true, true, false, true, true, false, false, false], n := 8, pin := [], fail := [], fz := [] }
theorem c_i_bears : cFun k_i_bears Try.f146 s_i_bears = some p_i_bears := by kernel_rfl
theorem F_i_bears {W : Wld} {ins outs : List (List D)} (h : pwp (FunOk PP W) p_i_bears (RetIs outs) (envL ins)) : FunOk PP W n_i_bears s_i_bears ins outs := fun_ok (C := k_i_bears) (cfg_ok rfl) (eq_ok rfl rfl) mixed Try.func146 (by kernel_rfl) (by kernel_rfl) c_i_bears h

def p_s_l3Pkgs : PC := .seq (.ss [.mv 2 (.c (.bool false))]) (.seq (.seq (.ss [.mv 3 (.c (.int .i64 0))]) (.block 0 (.loop (.seq (.seq (.ss [.mv 4 (.t 3), .mv 5 (.t 0), .len 6 (.t 5), .bin 7 .lss (.t 4) (.t 6)]) (.cond (.t 7) (.skip) (.exit 0))) (.seq (.block 1 (.seq (.ss [.mv 10 (.t 0), .mv 11 (.t 3), .elp 12 (.t 10) (.t 11) 4, .eld 13 12 0 [.int .i64 0, .int .i64 0, .sl [], .sl []], .call 14 n_s_PkgOk s_s_PkgOk [(.t 13)] [], .un 15 .not (.t 14), .mv 16 (.t 15), .g 16 false 17 (.mv 17 (.t 3)), .g 16 false 18 (.bin 18 .gtr (.t 17) (.c (.int .i64 0))), .g 16 false 19 (.mv 19 (.t 18)), .g 19 true 20 (.mv 20 (.t 0)), .g 19 true 21 (.mv 21 (.t 3)), .g 19 true 22 (.bin 22 .sub (.t 21) (.c (.int .i64 1))), .g 19 true 23 (.elp 23 (.t 20) (.t 22) 4), .g 19 true 24 (.mv 24 (.t 23)), .g 19 true 25 (.eld 25 24 0 [.int .i64 0]), .g 19 true 26 (.mv 26 (.t 0)), .g 19 true 27 (.mv 27 (.t 3)), .g 19 true 28 (.bin 28 .sub (.t 27) (.c (.int .i64 1))), .g 19 true 29 (.elp 29 (.t 26) (.t 28) 4), .g 19 true 30 (.mv 30 (.t 29)), .g 19 true 31 (.eld 31 30 1 [.int .i64 0]), .g 19 true 32 (.mv 32 (.t 0)), .g 19 true 33 (.mv 33 (.t 3)), .g 19 true 34 (.elp 34 (.t 32) (.t 33) 4), .g 19 true 35 (.mv 35 (.t 34)), .g 19 true 36 (.eld 36 35 0 [.int .i64 0]), .g 19 true 37 (.mv 37 (.t 0)), .g 19 true 38 (.mv 38 (.t 3)), .g 19 true 39 (.elp 39 (.t 37) (.t 38) 4), .g 19 true 40 (.mv 40 (.t 39)), .g 19 true 41 (.eld 41 40 1 [.int .i64 0]), .g 19 true 42 (.call 42 n_s_l3Less s_s_l3Less [(.t 25), (.t 31), (.t 36), (.t 41)] []), .g 19 true 43 (.un 43 .not (.t 42)), .g 16 false 44 (.pick 44 (.t 19) (.t 43) (.c (.bool false))), .pick 45 (.t 16) (.c (.bool true)) (.t 44)]) (.cond (.t 45) (.seq (.ss [.mv 2 (.c (.bool false))]) (.ret [2])) (.skip)))) (.ss [.mv 8 (.t 3), .bin 9 .add (.t 8) (.c (.int .i64 1)), .mv 3 (.t 9)])))))) (.seq (.ss [.mv 2 (.c (.bool true))]) (.ret [2])))
def k_s_l3Pkgs : Cfg := { tt := tt, sigs := sigs, mv := false, bm := [], eqt := eqL, keep := [true, false, true, true, false, false, false, true, false, false, false, false, false, false, false, false, false, false, false, false, false, false, false, false, false, false, false, false, false, false, false, false, false, false, false, false, false, false, false, false, false, false, false, false, false, true], n := 46, pin := [], fail := [], fz := [] }
theorem c_s_l3Pkgs : cFun k_s_l3Pkgs Try.f150 s_s_l3Pkgs = some p_s_l3Pkgs := by kernel_rfl
theorem F_s_l3Pkgs {W : Wld} {ins outs : List (List D)} (h : pwp (FunOk PP W) p_s_l3Pkgs (RetIs outs) (envL ins)) : FunOk PP W n_s_l3Pkgs s_s_l3Pkgs ins outs := fun_ok (C := k_s_l3Pkgs) (cfg_ok rfl) (eq_ok rfl rfl) mixed Try.func150 (by kernel_rfl) (by kernel_rfl) c_s_l3Pkgs h

def p_l_szFileS : PC := .seq (.ss [.mv 4 (.c (.int .i64 0))]) (.seq (.ss [.mv 5 (.t 1), .mv 6 (.t 0), .len 7 (.t 6), .bin 8 .sub (.t 5) (.t 7), .mv 1 (.t 8)]) (.seq (.seq (.ss [.mv 9 (.t 1), .bin 10 .lss (.t 9) (.c (.int .i64 0))]) (.cond (.t 10) (.seq (.ss [.mv 4 (.c (.int .i64 (-1)))]) (.ret [4])) (.skip))) (.seq (.ss [.mv 11 (.t 1), .mv 4 (.t 11)]) (.ret [4]))))
def k_l_szFileS : Cfg := { tt := tt, sigs := sigs, mv := false, bm := [], eqt := eqL, keep := [true, true, false, false, true, false, false, false, false, false, true, false], n := 12, pin := [], fail := [], fz := [] }
theorem c_l_szFileS : cFun k_l_szFileS Try.f154 s_l_szFileS = some p_l_szFileS := by kernel_rfl
theorem F_l_szFileS {W : Wld} {ins outs : List (List D)} (h : pwp (FunOk PP W) p_l_szFileS (RetIs outs) (envL ins)) : FunOk PP W n_l_szFileS s_l_szFileS ins outs := fun_ok (C := k_l_szFileS) (cfg_ok rfl) (eq_ok rfl rfl) mixed Try.func154 (by kernel_rfl) (by kernel_rfl) c_l_szFileS h

def p_l_szDepS : PC := .seq (.ss [.mv 4 (.c (.int .i64 0))]) (.seq (.ss [.mv 5 (.t 1), .mv 6 (.t 0), .len 7 (.t 6), .bin 8 .sub (.t 5) (.t 7), .mv 1 (.t 8)]) (.seq (.seq (.ss [.mv 9 (.t 1), .bin 10 .lss (.t 9) (.c (.int .i64 0))]) (.cond (.t 10) (.seq (.ss [.mv 4 (.c (.int .i64 (-1)))]) (.ret [4])) (.skip))) (.seq (.ss [.mv 11 (.t 1), .mv 4 (.t 11)]) (.ret [4]))))
def k_l_szDepS : Cfg := { tt := tt, sigs := sigs, mv := false, bm := [], eqt := eqL, keep := [true, true, false, false, true, false, false, false, false, false, true, false], n := 12, pin := [], fail := [], fz := [] }
theorem c_l_szDepS : cFun k_l_szDepS Try.f155 s_l_szDepS = some p_l_szDepS := by kernel_rfl
theorem F_l_szDepS {W : Wld} {ins outs : List (List D)} (h : pwp (FunOk PP W) p_l_szDepS (RetIs outs) (envL ins)) : FunOk PP W n_l_szDepS s_l_szDepS ins outs := fun_ok (C := k_l_szDepS) (cfg_ok rfl) (eq_ok rfl rfl) mixed Try.func155 (by kernel_rfl) (by kernel_rfl) c_l_szDepS h

def p_s_l13Is : PC := .seq (.ss [.mv 4 (.c (.bool false))]) (.seq (.ss [.mv 8 (.t 0), .mv 9 (.t 1), .call 10 n_s_l12Newest s_s_l12Newest [(.t 8), (.t 9)] [], .mv 7 (.t 10), .ext 11 7 0 4, .ext 12 7 4 1, .bld 5 [.int .i64 0, .int .i64 0, .sl [], .sl []] [], .st 5 0 (.t 11), .mv 6 (.t 12)]) (.seq (.ss [.mv 13 (.t 6), .mv 4 (.t 13)]) (.ret [4])))
def k_s_l13Is : Cfg := { tt := tt, sigs := sigs, mv := false, bm := [], eqt := eqL, keep := [true, true, false, false, true, true, true, false, false, false, false, false, false, false], n := 14, pin := [], fail := [], fz := [] }
theorem c_s_l13Is : cFun k_s_l13Is Try.f156 s_s_l13Is = some p_s_l13Is := by kernel_rfl
theorem F_s_l13Is {W : Wld} {ins outs : List (List D)} (h : pwp (FunOk PP W) p_s_l13Is (RetIs outs) (envL ins)) : FunOk PP W n_s_l13Is s_s_l13Is ins outs := fun_ok (C := k_s_l13Is) (cfg_ok rfl) (eq_ok rfl rfl) mixed Try.func156 (by kernel_rfl) (by kernel_rfl) c_s_l13Is h

def p_i_PkgOk : PC := .seq (.ss [.mv 1 (.t 0), .mv 2 (.c (.bool false))]) (.seq (.seq (.ss [.nop, .sub 8 1 0 1, .call 9 n_i_isName s_i_isName [(.t 8)] [], .un 10 .not (.t 9), .mv 11 (.t 10), .g 11 false 12 (.nop), .g 11 false 13 (.sub 13 1 1 1), .g 11 false 14 (.call 14 n_i_isVer s_i_isVer [(.t 13)] []), .g 11 false 15 (.un 15 .not (.t 14)), .pick 16 (.t 11) (.c (.bool true)) (.t 15), .mv 17 (.t 16), .g 17 false 18 (.nop), .g 17 false 19 (.sub 19 1 2 1), .g 17 false 20 (.len 20 (.t 19)), .g 17 false 21 (.bin 21 .gtr (.t 20) (.c (.int .i64 2))), .pick 22 (.t 17) (.c (.bool true)) (.t 21), .mv 23 (.t 22), .g 23 false 24 (.nop), .g 23 false 25 (.sub 25 1 3 1), .g 23 false 26 (.len 26 (.t 25)), .g 23 false 27 (.bin 27 .gtr (.t 26) (.c (.int .i64 2))), .pick 28 (.t 23) (.c (.bool true)) (.t 27)]) (.cond (.t 28) (.seq (.ss [.mv 2 (.c (.bool false))]) (.ret [2])) (.skip))) (.seq (.seq (.ss [.nop, .sub 30 1 2 1, .len 31 (.t 30), .mv 32 (.c (.int .i64 0))]) (.block 0 (.loop (.seq (.ss [.bin 33 .lss (.t 32) (.t 31)]) (.seq (.cond (.t 33) (.skip) (.exit 0)) (.seq (.block 1 (.seq (.ss [.mv 34 (.t 32), .elp 35 (.t 30) (.t 32) 2, .eld 36 35 0 [.int .i64 0, .int .i64 0], .bld 4 [.int .i64 0, .int .i64 0] [], .mv 3 (.t 34), .st 4 0 (.t 36)]) (.seq (.ss [.nop, .sub 38 4 0 1, .call 39 n_i_in s_i_in [(.t 38), (.c (.int .i64 0)), (.c (.int .i64 5))] [], .un 40 .not (.t 39), .mv 41 (.t 40), .g 41 false 42 (.nop), .g 41 false 43 (.sub 43 4 1 1), .g 41 false 44 (.call 44 n_i_in s_i_in [(.t 43), (.c (.int .i64 0)), (.c (.int .i64 9))] []), .g 41 false 45 (.un 45 .not (.t 44)), .pick 46 (.t 41) (.c (.bool true)) (.t 45), .mv 47 (.t 46), .g 47 false 48 (.mv 48 (.t 3)), .g 47 false 49 (.bin 49 .gtr (.t 48) (.c (.int .i64 0))), .g 47 false 50 (.mv 50 (.t 49)), .g 50 true 51 (.nop), .g 50 true 52 (.sub 52 4 0 1), .g 50 true 53 (.nop), .g 50 true 54 (.sub 54 1 2 1), .g 50 true 55 (.mv 55 (.t 3)), .g 50 true 56 (.bin 56 .sub (.t 55) (.c (.int .i64 1))), .g 50 true 57 (.elp 57 (.t 54) (.t 56) 2), .g 50 true 58 (.mv 58 (.t 57)), .g 50 true 59 (.eld 59 58 0 [.int .i64 0]), .g 50 true 60 (.bin 60 .leq (.t 52) (.t 59)), .g 47 false 61 (.pick 61 (.t 50) (.t 60) (.c (.bool false))), .pick 62 (.t 47) (.c (.bool true)) (.t 61)]) (.cond (.t 62) (.seq (.ss [.mv 2 (.c (.bool false))]) (.ret [2])) (.skip))))) (.ss [.bin 63 .add (.t 32) (.c (.int .i64 1)), .mv 32 (.t 63)]))))))) (.seq (.seq (.ss [.nop, .sub 65 1 3 1, .len 66 (.t 65), .mv 67 (.c (.int .i64 0))]) (.block 2 (.loop (.seq (.ss [.bin 68 .lss (.t 67) (.t 66)]) (.seq (.cond (.t 68) (.skip) (.exit 2)) (.seq (.block 3 (.seq (.ss [.mv 69 (.t 67), .elp 70 (.t 65) (.t 67) 2, .eld 71 70 0 [.int .i64 0, .int .i64 0], .bld 6 [.int .i64 0, .int .i64 0] [], .mv 5 (.t 69), .st 6 0 (.t 71)]) (.seq (.ss [.nop, .sub 73 6 0 1, .call 74 n_i_isName s_i_isName [(.t 73)] [], .un 75 .not (.t 74), .mv 76 (.t 75), .g 76 false 77 (.nop), .g 76 false 78 (.sub 78 6 0 1), .g 76 false 79 (.nop), .g 76 false 80 (.sub 80 1 0 1), .g 76 false 81 (.bin 81 .eql (.t 78) (.t 80)), .pick 82 (.t 76) (.c (.bool true)) (.t 81), .mv 83 (.t 82), .g 83 false 84 (.nop), .g 83 false 85 (.sub 85 6 1 1), .g 83 false 86 (.call 86 n_i_isVer s_i_isVer [(.t 85)] []), .g 83 false 87 (.un 87 .not (.t 86)), .pick 88 (.t 83) (.c (.bool true)) (.t 87), .mv 89 (.t 88), .g 89 false 90 (.mv 90 (.t 5)), .g 89 false 91 (.bin 91 .gtr (.t 90) (.c (.int .i64 0))), .g 89 false 92 (.mv 92 (.t 91)), .g 92 true 93 (.nop), .g 92 true 94 (.sub 94 6 0 1), .g 92 true 95 (.nop), .g 92 true 96 (.sub 96 1 3 1), .g 92 true 97 (.mv 97 (.t 5)), .g 92 true 98 (.bin 98 .sub (.t 97) (.c (.int .i64 1))), .g 92 true 99 (.elp 99 (.t 96) (.t 98) 2), .g 92 true 100 (.mv 100 (.t 99)), .g 92 true 101 (.eld 101 100 0 [.int .i64 0]), .g 92 true 102 (.bin 102 .leq (.t 94) (.t 101)), .g 89 false 103 (.pick 103 (.t 92) (.t 102) (.c (.bool false))), .pick 104 (.t 89) (.c (.bool true)) (.t 103)]) (.cond (.t 104) (.seq (.ss [.mv 2 (.c (.bool false))]) (.ret [2])) (.skip))))) (.ss [.bin 105 .add (.t 67) (.c (.int .i64 1)), .mv 67 (.t 105)]))))))) (.seq (.ss [.mv 2 (.c (.bool true))]) (.ret [2])))))
def k_i_PkgOk : Cfg := { tt := tt, sigs := sigs, mv := false, bm := [], eqt := eqL, keep := [true, true, true, true, true, true, true, false, false, false, false, false, false, false, false, false, false, false, false, false, false, false, false, false, false, false, false, false, true, false, true, true, true, true, false, false, false, false, false, false, false, false, false, false, false, false, false, false, false, false, false, false, false, false, false, false, false, false, false, false, false, false, true, false, false, true, true, true, true, false, false, false, false, false, false, false, false, false, false, false, false, false, false, false, false, false, false, false, false, false, false, false, false, false, false, false, false, false, false, false, false, false, false, false, true, false], n := 106, pin := [], fail := [], fz := [] }
theorem c_i_PkgOk : cFun k_i_PkgOk Try.f160 s_i_PkgOk = some p_i_PkgOk := by kernel_rfl
theorem F_i_PkgOk {W : Wld} {ins outs : List (List D)} (h : pwp (FunOk PP W) p_i_PkgOk (RetIs outs) (envL ins)) : FunOk PP W n_i_PkgOk s_i_PkgOk ins outs := fun_ok (C := k_i_PkgOk) (cfg_ok rfl) (eq_ok rfl rfl) mixed Try.func160 (by kernel_rfl) (by kernel_rfl) c_i_PkgOk h

def p_i_Pkg_compare : PC := .seq (.ss [.mv 2 (.t 0), .mv 3 (.t 1), .mv 4 (.c (.int .i64 0))]) (.seq (.ss [.nop, .sub 6 2 0 1, .nop, .sub 8 3 0 1, .call 9 n_cmp_Compare_int s_cmp_Compare_int [(.t 6), (.t 8)] [], .nop, .sub 11 2 1 1, .nop, .sub 13 3 1 1, .call 14 n_cmp_Compare_int s_cmp_Compare_int [(.t 11), (.t 13)] [], .lit 15 2 [.int .i64 0] [(0, (.t 9)), (1, (.t 14))], .call 16 n_cmp_Or_int s_cmp_Or_int [(.t 15)] [], .mv 4 (.t 16)]) (.ret [4]))
def k_i_Pkg_compare : Cfg := { tt := tt, sigs := sigs, mv := false, bm := [], eqt := eqL, keep := [true, true, true, true, true, false, false, false, false, false, false, false, false, false, false, false, false], n := 17, pin := [], fail := [], fz := [] }
theorem c_i_Pkg_compare : cFun k_i_Pkg_compare Try.f161 s_i_Pkg_compare = some p_i_Pkg_compare := by kernel_rfl
theorem F_i_Pkg_compare {W : Wld} {ins outs : List (List D)} (h : pwp (FunOk PP W) p_i_Pkg_compare (RetIs outs) (envL ins)) : FunOk PP W n_i_Pkg_compare s_i_Pkg_compare ins outs := fun_ok (C := k_i_Pkg_compare) (cfg_ok rfl) (eq_ok rfl rfl) mixed Try.func161 (by kernel_rfl) (by kernel_rfl) c_i_Pkg_compare h

def p_sl_Index_int : PC := .seq (.ss [.mv 4 (.c (.int .i64 0))]) (.seq (.seq (.ss [.mv 6 (.t 0), .len 7 (.t 6), .mv 8 (.c (.int .i64 0))]) (.block 0 (.loop (.seq (.ss [.bin 9 .lss (.t 8) (.t 7)]) (.seq (.cond (.t 9) (.skip) (.exit 0)) (.seq (.block 1 (.seq (.ss [.mv 10 (.t 8), .mv 5 (.t 10)]) (.seq (.ss [.mv 11 (.t 1), .mv 12 (.t 0), .mv 13 (.t 5), .elp 14 (.t 12) (.t 13) 1, .eld 15 14 0 [.int .i64 0], .bin 16 .eql (.t 11) (.t 15)]) (.cond (.t 16) (.seq (.ss [.mv 17 (.t 5), .mv 4 (.t 17)]) (.ret [4])) (.skip))))) (.ss [.bin 18 .add (.t 8) (.c (.int .i64 1)), .mv 8 (.t 18)]))))))) (.seq (.ss [.mv 4 (.c (.int .i64 (-1)))]) (.ret [4])))
def k_sl_Index_int : Cfg := { tt := tt, sigs := sigs, mv := false, bm := [], eqt := eqL, keep := [true, true, false, false, true, true, false, true, true, true, false, false, false, false, false, false, true, false, false], n := 19, pin := [], fail := [], fz := [] }
theorem c_sl_Index_int : cFun k_sl_Index_int Try.f162 s_sl_Index_int = some p_sl_Index_int := by kernel_rfl
theorem F_sl_Index_int {W : Wld} {ins outs : List (List D)} (h : pwp (FunOk PP W) p_sl_Index_int (RetIs outs) (envL ins)) : FunOk PP W n_sl_Index_int s_sl_Index_int ins outs := fun_ok (C := k_sl_Index_int) (cfg_ok rfl) (eq_ok rfl rfl) mixed Try.func162 (by kernel_rfl) (by kernel_rfl) c_sl_Index_int h

def p_i_newest : PC := .seq (.ss [.mv 4 (.c (.int .i64 0))]) (.seq (.ss [.mv 5 (.c (.int .i64 (-1)))]) (.seq (.seq (.ss [.mv 8 (.t 0), .len 9 (.t 8), .mv 10 (.c (.int .i64 0))]) (.block 0 (.loop (.seq (.ss [.bin 11 .lss (.t 10) (.t 9)]) (.seq (.cond (.t 11) (.skip) (.exit 0)) (.seq (.block 1 (.seq (.ss [.mv 12 (.t 10), .elp 13 (.t 8) (.t 10) 4, .eld 14 13 0 [.int .i64 0, .int .i64 0, .sl [], .sl []], .bld 7 [.int .i64 0, .int .i64 0, .sl [], .sl []] [], .mv 6 (.t 12), .st 7 0 (.t 14)]) (.seq (.ss [.nop, .sub 16 7 0 1, .mv 17 (.t 1), .bin 18 .eql (.t 16) (.t 17)]) (.cond (.t 18) (.ss [.mv 19 (.t 6), .mv 5 (.t 19)]) (.skip))))) (.ss [.bin 20 .add (.t 10) (.c (.int .i64 1)), .mv 10 (.t 20)]))))))) (.seq (.ss [.mv 21 (.t 5), .mv 4 (.t 21)]) (.ret [4]))))
def k_i_newest : Cfg := { tt := tt, sigs := sigs, mv := false, bm := [], eqt := eqL, keep := [true, true, false, false, true, true, true, true, true, true, true, true, false, false, false, false, false, false, true, false, false, false], n := 22, pin := [], fail := [], fz := [] }
theorem c_i_newest : cFun k_i_newest Try.f163 s_i_newest = some p_i_newest := by kernel_rfl
theorem F_i_newest {W : Wld} {ins outs : List (List D)} (h : pwp (FunOk PP W) p_i_newest (RetIs outs) (envL ins)) : FunOk PP W n_i_newest s_i_newest ins outs := fun_ok (C := k_i_newest) (cfg_ok rfl) (eq_ok rfl rfl) mixed Try.func163 (by kernel_rfl) (by kernel_rfl) c_i_newest h

end V
end Go.Proofs.Ytgialjcichiaoaa

/-
What the seat's functions come to, as statements; that the checker says so. Written by a program.
-/
namespace Go.Proofs.Ytgialjcichiaoaa
namespace V

def p_l_eqFileS : PC := .seq (.ss [.mv 4 (.c (.bool false))]) (.seq (.seq (.ss [.mv 6 (.t 0), .len 7 (.t 6), .mv 8 (.t 1), .len 9 (.t 8), .bin 10 .neq (.t 7) (.t 9)]) (.cond (.t 10) (.seq (.ss [.mv 4 (.c (.bool false))]) (.ret [4])) (.skip))) (.seq (.seq (.ss [.mv 5 (.c (.int .i64 0))]) (.block 0 (.loop (.seq (.seq (.ss [.mv 11 (.t 5), .mv 12 (.t 0), .len 13 (.t 12), .bin 14 .lss (.t 11) (.t 13)]) (.cond (.t 14) (.skip) (.exit 0))) (.seq (.block 1 (.seq (.ss [.mv 17 (.t 0), .mv 18 (.t 5), .elp 19 (.t 17) (.t 18) 2, .eld 20 19 0 [.int .i64 0, .int .i64 0], .mv 21 (.t 1), .mv 22 (.t 5), .elp 23 (.t 21) (.t 22) 2, .eld 24 23 0 [.int .i64 0, .int .i64 0], .call 25 n_l_eqFile s_l_eqFile [(.t 20), (.t 24)] [], .un 26 .not (.t 25)]) (.cond (.t 26) (.seq (.ss [.mv 4 (.c (.bool false))]) (.ret [4])) (.skip)))) (.ss [.mv 15 (.t 5), .bin 16 .add (.t 15) (.c (.int .i64 1)), .mv 5 (.t 16)])))))) (.seq (.ss [.mv 4 (.c (.bool true))]) (.ret [4]))))
def k_l_eqFileS : Cfg := { tt := tt, sigs := sigs, mv := false, bm := [], eqt := eqL, keep := [true, true, false, false, true, true, false, false, false, false, true, false, false, false, true, false, false, false, false, false, false, false, false, false, false, false, true], n := 27, pin := [], fail := [], fz := [] }
theorem c_l_eqFileS : cFun k_l_eqFileS Try.f166 s_l_eqFileS = some p_l_eqFileS := by kernel_rfl
theorem F_l_eqFileS {W : Wld} {ins outs : List (List D)} (h : pwp (FunOk PP W) p_l_eqFileS (RetIs outs) (envL ins)) : FunOk PP W n_l_eqFileS s_l_eqFileS ins outs := fun_ok (C := k_l_eqFileS) (cfg_ok rfl) (eq_ok rfl rfl) mixed Try.func166 (by kernel_rfl) (by kernel_rfl) c_l_eqFileS h

def p_l_eqDepS : PC := .seq (.ss [.mv 4 (.c (.bool false))]) (.seq (.seq (.ss [.mv 6 (.t 0), .len 7 (.t 6), .mv 8 (.t 1), .len 9 (.t 8), .bin 10 .neq (.t 7) (.t 9)]) (.cond (.t 10) (.seq (.ss [.mv 4 (.c (.bool false))]) (.ret [4])) (.skip))) (.seq (.seq (.ss [.mv 5 (.c (.int .i64 0))]) (.block 0 (.loop (.seq (.seq (.ss [.mv 11 (.t 5), .mv 12 (.t 0), .len 13 (.t 12), .bin 14 .lss (.t 11) (.t 13)]) (.cond (.t 14) (.skip) (.exit 0))) (.seq (.block 1 (.seq (.ss [.mv 17 (.t 0), .mv 18 (.t 5), .elp 19 (.t 17) (.t 18) 2, .eld 20 19 0 [.int .i64 0, .int .i64 0], .mv 21 (.t 1), .mv 22 (.t 5), .elp 23 (.t 21) (.t 22) 2, .eld 24 23 0 [.int .i64 0, .int .i64 0], .call 25 n_l_eqDep s_l_eqDep [(.t 20), (.t 24)] [], .un 26 .not (.t 25)]) (.cond (.t 26) (.seq (.ss [.mv 4 (.c (.bool false))]) (.ret [4])) (.skip)))) (.ss [.mv 15 (.t 5), .bin 16 .add (.t 15) (.c (.int .i64 1)), .mv 5 (.t 16)])))))) (.seq (.ss [.mv 4 (.c (.bool true))]) (.ret [4]))))
def k_l_eqDepS : Cfg := { tt := tt, sigs := sigs, mv := false, bm := [], eqt := eqL, keep := [true, true, false, false, true, true, false, false, false, false, true, false, false, false, true, false, false, false, false, false, false, false, false, false, false, false, true], n := 27, pin := [], fail := [], fz := [] }
theorem c_l_eqDepS : cFun k_l_eqDepS Try.f167 s_l_eqDepS = some p_l_eqDepS := by kernel_rfl
theorem F_l_eqDepS {W : Wld} {ins outs : List (List D)} (h : pwp (FunOk PP W) p_l_eqDepS (RetIs outs) (envL ins)) : FunOk PP W n_l_eqDepS s_l_eqDepS ins outs := fun_ok (C := k_l_eqDepS) (cfg_ok rfl) (eq_ok rfl rfl) mixed Try.func167 (by kernel_rfl) (by kernel_rfl) c_l_eqDepS h

def p_s_l3Less : PC := .seq (.ss [.mv 8 (.c (.bool false))]) (.seq (.ss [.mv 9 (.t 0), .mv 10 (.t 2), .bin 11 .lss (.t 9) (.t 10), .mv 12 (.t 11), .g 12 false 13 (.mv 13 (.t 0)), .g 12 false 14 (.mv 14 (.t 2)), .g 12 false 15 (.bin 15 .eql (.t 13) (.t 14)), .g 12 false 16 (.mv 16 (.t 15)), .g 16 true 17 (.mv 17 (.t 1)), .g 16 true 18 (.mv 18 (.t 3)), .g 16 true 19 (.bin 19 .lss (.t 17) (.t 18)), .g 12 false 20 (.pick 20 (.t 16) (.t 19) (.c (.bool false))), .pick 21 (.t 12) (.c (.bool true)) (.t 20), .mv 8 (.t 21)]) (.ret [8]))
def k_s_l3Less : Cfg := { tt := tt, sigs := sigs, mv := false, bm := [], eqt := eqL, keep := [true, true, true, true, false, false, false, false, true, false, false, false, false, false, false, false, false, false, false, false, false, false], n := 22, pin := [], fail := [], fz := [] }
theorem c_s_l3Less : cFun k_s_l3Less Try.f180 s_s_l3Less = some p_s_l3Less := by kernel_rfl
theorem F_s_l3Less {W : Wld} {ins outs : List (List D)} (h : pwp (FunOk PP W) p_s_l3Less (RetIs outs) (envL ins)) : FunOk PP W n_s_l3Less s_s_l3Less ins outs := fun_ok (C := k_s_l3Less) (cfg_ok rfl) (eq_ok rfl rfl) mixed Try.func180 (by kernel_rfl) (by kernel_rfl) c_s_l3Less h

def p_s_PkgOk : PC := .seq (.ss [.mv 1 (.t 0), .mv 2 (.c (.bool false))]) (.seq (.ss [.nop, .sub 4 1 0 1, .call 5 n_s_l6In s_s_l6In [(.t 4), (.c (.int .i64 1)), (.c (.int .i64 4))] [], .mv 6 (.t 5), .g 6 true 7 (.nop), .g 6 true 8 (.sub 8 1 1 1), .g 6 true 9 (.call 9 n_s_l6In s_s_l6In [(.t 8), (.c (.int .i64 1)), (.c (.int .i64 5))] []), .pick 10 (.t 6) (.t 9) (.c (.bool false)), .mv 11 (.t 10), .g 11 true 12 (.nop), .g 11 true 13 (.sub 13 1 2 1), .g 11 true 14 (.call 14 n_s_l1Files s_s_l1Files [(.t 13)] []), .pick 15 (.t 11) (.t 14) (.c (.bool false)), .mv 16 (.t 15), .g 16 true 17 (.nop), .g 16 true 18 (.sub 18 1 0 1), .g 16 true 19 (.nop), .g 16 true 20 (.sub 20 1 3 1), .g 16 true 21 (.call 21 n_s_l1Deps s_s_l1Deps [(.t 18), (.t 20)] []), .pick 22 (.t 16) (.t 21) (.c (.bool false)), .mv 2 (.t 22)]) (.ret [2]))
def k_s_PkgOk : Cfg := { tt := tt, sigs := sigs, mv := false, bm := [], eqt := eqL, keep := [true, true, true, false, false, false, false, false, false, false, false, false, false, false, false, false, false, false, false, false, false, false, false], n := 23, pin := [], fail := [], fz := [] }
theorem c_s_PkgOk : cFun k_s_PkgOk Try.f186 s_s_PkgOk = some p_s_PkgOk := by kernel_rfl
theorem F_s_PkgOk {W : Wld} {ins outs : List (List D)} (h : pwp (FunOk PP W) p_s_PkgOk (RetIs outs) (envL ins)) : FunOk PP W n_s_PkgOk s_s_PkgOk ins outs := fun_ok (C := k_s_PkgOk) (cfg_ok rfl) (eq_ok rfl rfl) mixed Try.func186 (by kernel_rfl) (by kernel_rfl) c_s_PkgOk h

def p_i_isVer : PC := .seq (.ss [.mv 2 (.c (.bool false))]) (.seq (.ss [.mv 3 (.t 0), .call 4 n_i_in s_i_in [(.t 3), (.c (.int .i64 1)), (.c (.int .i64 5))] [], .mv 2 (.t 4)]) (.ret [2]))
def k_i_isVer : Cfg := { tt := tt, sigs := sigs, mv := false, bm := [], eqt := eqL, keep := [true, false, true, false, false], n := 5, pin := [], fail := [], fz := [] }
theorem c_i_isVer : cFun k_i_isVer Try.f191 s_i_isVer = some p_i_isVer := by kernel_rfl
theorem F_i_isVer {W : Wld} {ins outs : List (List D)} (h : pwp (FunOk PP W) p_i_isVer (RetIs outs) (envL ins)) : FunOk PP W n_i_isVer s_i_isVer ins outs := fun_ok (C := k_i_isVer) (cfg_ok rfl) (eq_ok rfl rfl) mixed Try.func191 (by kernel_rfl) (by kernel_rfl) c_i_isVer h

def p_cmp_Or_int : PC := .seq (.ss [.mv 2 (.c (.int .i64 0))]) (.seq (.ss [.mv 3 (.c (.int .i64 0))]) (.seq (.seq (.ss [.mv 6 (.t 0), .len 7 (.t 6), .mv 8 (.c (.int .i64 0))]) (.block 0 (.loop (.seq (.ss [.bin 9 .lss (.t 8) (.t 7)]) (.seq (.cond (.t 9) (.skip) (.exit 0)) (.seq (.block 1 (.seq (.ss [.elp 10 (.t 6) (.t 8) 1, .eld 11 10 0 [.int .i64 0], .mv 5 (.t 11)]) (.seq (.ss [.mv 12 (.t 5), .mv 13 (.t 3), .bin 14 .neq (.t 12) (.t 13)]) (.cond (.t 14) (.seq (.ss [.mv 15 (.t 5), .mv 2 (.t 15)]) (.ret [2])) (.skip))))) (.ss [.bin 16 .add (.t 8) (.c (.int .i64 1)), .mv 8 (.t 16)]))))))) (.seq (.ss [.mv 17 (.t 3), .mv 2 (.t 17)]) (.ret [2]))))
def k_cmp_Or_int : Cfg := { tt := tt, sigs := sigs, mv := false, bm := [], eqt := eqL, keep := [true, false, true, true, false, true, true, true, true, true, false, false, false, false, true, false, false, false], n := 18, pin := [], fail := [], fz := [] }
theorem c_cmp_Or_int : cFun k_cmp_Or_int Try.f192 s_cmp_Or_int = some p_cmp_Or_int := by kernel_rfl
theorem F_cmp_Or_int {W : Wld} {ins outs : List (List D)} (h : pwp (FunOk PP W) p_cmp_Or_int (RetIs outs) (envL ins)) : FunOk PP W n_cmp_Or_int s_cmp_Or_int ins outs := fun_ok (C := k_cmp_Or_int) (cfg_ok rfl) (eq_ok rfl rfl) mixed Try.func192 (by kernel_rfl) (by kernel_rfl) c_cmp_Or_int h

def p_cmp_Compare_int : PC := .seq (.ss [.mv 4 (.c (.int .i64 0))]) (.seq (.ss [.mv 7 (.t 0), .call 8 n_cmp_isNaN_int s_cmp_isNaN_int [(.t 7)] [], .mv 5 (.t 8)]) (.seq (.ss [.mv 9 (.t 1), .call 10 n_cmp_isNaN_int s_cmp_isNaN_int [(.t 9)] [], .mv 6 (.t 10)]) (.seq (.seq (.ss [.mv 11 (.t 5)]) (.cond (.t 11) (.seq (.seq (.ss [.mv 12 (.t 6)]) (.cond (.t 12) (.seq (.ss [.mv 4 (.c (.int .i64 0))]) (.ret [4])) (.skip))) (.seq (.ss [.mv 4 (.c (.int .i64 (-1)))]) (.ret [4]))) (.skip))) (.seq (.seq (.ss [.mv 13 (.t 6)]) (.cond (.t 13) (.seq (.ss [.mv 4 (.c (.int .i64 1))]) (.ret [4])) (.skip))) (.seq (.seq (.ss [.mv 14 (.t 0), .mv 15 (.t 1), .bin 16 .lss (.t 14) (.t 15)]) (.cond (.t 16) (.seq (.ss [.mv 4 (.c (.int .i64 (-1)))]) (.ret [4])) (.skip))) (.seq (.seq (.ss [.mv 17 (.t 0), .mv 18 (.t 1), .bin 19 .gtr (.t 17) (.t 18)]) (.cond (.t 19) (.seq (.ss [.mv 4 (.c (.int .i64 1))]) (.ret [4])) (.skip))) (.seq (.ss [.mv 4 (.c (.int .i64 0))]) (.ret [4]))))))))
def k_cmp_Compare_int : Cfg := { tt := tt, sigs := sigs, mv := false, bm := [], eqt := eqL, keep := [true, true, false, false, true, true, true, false, false, false, false, true, true, true, false, false, true, false, false, true], n := 20, pin := [], fail := [], fz := [] }
theorem c_cmp_Compare_int : cFun k_cmp_Compare_int Try.f193 s_cmp_Compare_int = some p_cmp_Compare_int := by kernel_rfl
theorem F_cmp_Compare_int {W : Wld} {ins outs : List (List D)} (h : pwp (FunOk PP W) p_cmp_Compare_int (RetIs outs) (envL ins)) : FunOk PP W n_cmp_Compare_int s_cmp_Compare_int ins outs := fun_ok (C := k_cmp_Compare_int) (cfg_ok rfl) (eq_ok rfl rfl) mixed Try.func193 (by kernel_rfl) (by kernel_rfl) c_cmp_Compare_int h

def p_l_eqFile : PC := .seq (.ss [.mv 2 (.t 0), .mv 3 (.t 1), .mv 4 (.c (.bool false))]) (.seq (.seq (.ss [.nop, .sub 6 2 0 1, .nop, .sub 8 3 0 1, .bin 9 .neq (.t 6) (.t 8)]) (.cond (.t 9) (.seq (.ss [.mv 4 (.c (.bool false))]) (.ret [4])) (.skip))) (.seq (.seq (.ss [.nop, .sub 11 2 1 1, .nop, .sub 13 3 1 1, .bin 14 .neq (.t 11) (.t 13)]) (.cond (.t 14) (.seq (.ss [.mv 4 (.c (.bool false))]) (.ret [4])) (.skip))) (.seq (.ss [.mv 4 (.c (.bool true))]) (.ret [4]))))
def k_l_eqFile : Cfg := { tt := tt, sigs := sigs, mv := false, bm := [], eqt := eqL, keep := [true, true, true, true, true, false, false, false, false, true, false, false, false, false, true], n := 15, pin := [], fail := [], fz := [] }
theorem c_l_eqFile : cFun k_l_eqFile Try.f196 s_l_eqFile = some p_l_eqFile := by kernel_rfl
theorem F_l_eqFile {W : Wld} {ins outs : List (List D)} (h : pwp (FunOk PP W) p_l_eqFile (RetIs outs) (envL ins)) : FunOk PP W n_l_eqFile s_l_eqFile ins outs := fun_ok (C := k_l_eqFile) (cfg_ok rfl) (eq_ok rfl rfl) mixed Try.func196 (by kernel_rfl) (by kernel_rfl) c_l_eqFile h

def p_l_eqDep : PC := .seq (.ss [.mv 2 (.t 0), .mv 3 (.t 1), .mv 4 (.c (.bool false))]) (.seq (.seq (.ss [.nop, .sub 6 2 0 1, .nop, .sub 8 3 0 1, .bin 9 .neq (.t 6) (.t 8)]) (.cond (.t 9) (.seq (.ss [.mv 4 (.c (.bool false))]) (.ret [4])) (.skip))) (.seq (.seq (.ss [.nop, .sub 11 2 1 1, .nop, .sub 13 3 1 1, .bin 14 .neq (.t 11) (.t 13)]) (.cond (.t 14) (.seq (.ss [.mv 4 (.c (.bool false))]) (.ret [4])) (.skip))) (.seq (.ss [.mv 4 (.c (.bool true))]) (.ret [4]))))
def k_l_eqDep : Cfg := { tt := tt, sigs := sigs, mv := false, bm := [], eqt := eqL, keep := [true, true, true, true, true, false, false, false, false, true, false, false, false, false, true], n := 15, pin := [], fail := [], fz := [] }
theorem c_l_eqDep : cFun k_l_eqDep Try.f197 s_l_eqDep = some p_l_eqDep := by kernel_rfl
theorem F_l_eqDep {W : Wld} {ins outs : List (List D)} (h : pwp (FunOk PP W) p_l_eqDep (RetIs outs) (envL ins)) : FunOk PP W n_l_eqDep s_l_eqDep ins outs := fun_ok (C := k_l_eqDep) (cfg_ok rfl) (eq_ok rfl rfl) mixed Try.func197 (by kernel_rfl) (by kernel_rfl) c_l_eqDep h

def p_s_l1Files : PC := .seq (.ss [.mv 2 (.c (.bool false))]) (.seq (.seq (.ss [.mv 3 (.c (.int .i64 0))]) (.block 0 (.loop (.seq (.seq (.ss [.mv 4 (.t 3), .mv 5 (.t 0), .len 6 (.t 5), .bin 7 .lss (.t 4) (.t 6)]) (.cond (.t 7) (.skip) (.exit 0))) (.seq (.block 1 (.seq (.ss [.mv 10 (.t 0), .mv 11 (.t 3), .elp 12 (.t 10) (.t 11) 2, .mv 13 (.t 12), .eld 14 13 0 [.int .i64 0], .call 15 n_s_l6In s_s_l6In [(.t 14), (.c (.int .i64 0)), (.c (.int .i64 5))] [], .un 16 .not (.t 15), .mv 17 (.t 16), .g 17 false 18 (.mv 18 (.t 0)), .g 17 false 19 (.mv 19 (.t 3)), .g 17 false 20 (.elp 20 (.t 18) (.t 19) 2), .g 17 false 21 (.mv 21 (.t 20)), .g 17 false 22 (.eld 22 21 1 [.int .i64 0]), .g 17 false 23 (.call 23 n_s_l6In s_s_l6In [(.t 22), (.c (.int .i64 0)), (.c (.int .i64 9))] []), .g 17 false 24 (.un 24 .not (.t 23)), .pick 25 (.t 17) (.c (.bool true)) (.t 24), .mv 26 (.t 25), .g 26 false 27 (.mv 27 (.t 3)), .g 26 false 28 (.bin 28 .gtr (.t 27) (.c (.int .i64 0))), .g 26 false 29 (.mv 29 (.t 28)), .g 29 true 30 (.mv 30 (.t 0)), .g 29 true 31 (.mv 31 (.t 3)), .g 29 true 32 (.bin 32 .sub (.t 31) (.c (.int .i64 1))), .g 29 true 33 (.elp 33 (.t 30) (.t 32) 2), .g 29 true 34 (.mv 34 (.t 33)), .g 29 true 35 (.eld 35 34 0 [.int .i64 0]), .g 29 true 36 (.mv 36 (.t 0)), .g 29 true 37 (.mv 37 (.t 3)), .g 29 true 38 (.elp 38 (.t 36) (.t 37) 2), .g 29 true 39 (.mv 39 (.t 38)), .g 29 true 40 (.eld 40 39 0 [.int .i64 0]), .g 29 true 41 (.bin 41 .geq (.t 35) (.t 40)), .g 26 false 42 (.pick 42 (.t 29) (.t 41) (.c (.bool false))), .pick 43 (.t 26) (.c (.bool true)) (.t 42)]) (.cond (.t 43) (.seq (.ss [.mv 2 (.c (.bool false))]) (.ret [2])) (.skip)))) (.ss [.mv 8 (.t 3), .bin 9 .add (.t 8) (.c (.int .i64 1)), .mv 3 (.t 9)])))))) (.seq (.ss [.mv 44 (.t 0), .len 45 (.t 44), .bin 46 .leq (.t 45) (.c (.int .i64 2)), .mv 2 (.t 46)]) (.ret [2])))
def k_s_l1Files : Cfg := { tt := tt, sigs := sigs, mv := false, bm := [], eqt := eqL, keep := [true, false, true, true, false, false, false, true, false, false, false, false, false, false, false, false, false, false, false, false, false, false, false, false, false, false, false, false, false, false, false, false, false, false, false, false, false, false, false, false, false, false, false, true, false, false, false], n := 47, pin := [], fail := [], fz := [] }
theorem c_s_l1Files : cFun k_s_l1Files Try.f200 s_s_l1Files = some p_s_l1Files := by kernel_rfl
theorem F_s_l1Files {W : Wld} {ins outs : List (List D)} (h : pwp (FunOk PP W) p_s_l1Files (RetIs outs) (envL ins)) : FunOk PP W n_s_l1Files s_s_l1Files ins outs := fun_ok (C := k_s_l1Files) (cfg_ok rfl) (eq_ok rfl rfl) mixed Try.func200 (by kernel_rfl) (by kernel_rfl) c_s_l1Files h

def p_s_l1Deps : PC := .seq (.ss [.mv 4 (.c (.bool false))]) (.seq (.seq (.ss [.mv 5 (.c (.int .i64 0))]) (.block 0 (.loop (.seq (.seq (.ss [.mv 7 (.t 5), .mv 8 (.t 1), .len 9 (.t 8), .bin 10 .lss (.t 7) (.t 9)]) (.cond (.t 10) (.skip) (.exit 0))) (.seq (.block 1 (.seq (.ss [.mv 13 (.t 1), .mv 14 (.t 5), .elp 15 (.t 13) (.t 14) 2, .eld 16 15 0 [.int .i64 0, .int .i64 0], .bld 6 [.int .i64 0, .int .i64 0] [], .st 6 0 (.t 16)]) (.seq (.ss [.nop, .sub 18 6 0 1, .call 19 n_s_l6In s_s_l6In [(.t 18), (.c (.int .i64 1)), (.c (.int .i64 4))] [], .un 20 .not (.t 19), .mv 21 (.t 20), .g 21 false 22 (.nop), .g 21 false 23 (.sub 23 6 0 1), .g 21 false 24 (.mv 24 (.t 0)), .g 21 false 25 (.bin 25 .eql (.t 23) (.t 24)), .pick 26 (.t 21) (.c (.bool true)) (.t 25), .mv 27 (.t 26), .g 27 false 28 (.nop), .g 27 false 29 (.sub 29 6 1 1), .g 27 false 30 (.call 30 n_s_l6In s_s_l6In [(.t 29), (.c (.int .i64 1)), (.c (.int .i64 5))] []), .g 27 false 31 (.un 31 .not (.t 30)), .pick 32 (.t 27) (.c (.bool true)) (.t 31), .mv 33 (.t 32), .g 33 false 34 (.mv 34 (.t 5)), .g 33 false 35 (.bin 35 .gtr (.t 34) (.c (.int .i64 0))), .g 33 false 36 (.mv 36 (.t 35)), .g 36 true 37 (.mv 37 (.t 1)), .g 36 true 38 (.mv 38 (.t 5)), .g 36 true 39 (.bin 39 .sub (.t 38) (.c (.int .i64 1))), .g 36 true 40 (.elp 40 (.t 37) (.t 39) 2), .g 36 true 41 (.mv 41 (.t 40)), .g 36 true 42 (.eld 42 41 0 [.int .i64 0]), .g 36 true 43 (.nop), .g 36 true 44 (.sub 44 6 0 1), .g 36 true 45 (.bin 45 .geq (.t 42) (.t 44)), .g 33 false 46 (.pick 46 (.t 36) (.t 45) (.c (.bool false))), .pick 47 (.t 33) (.c (.bool true)) (.t 46)]) (.cond (.t 47) (.seq (.ss [.mv 4 (.c (.bool false))]) (.ret [4])) (.skip))))) (.ss [.mv 11 (.t 5), .bin 12 .add (.t 11) (.c (.int .i64 1)), .mv 5 (.t 12)])))))) (.seq (.ss [.mv 48 (.t 1), .len 49 (.t 48), .bin 50 .leq (.t 49) (.c (.int .i64 2)), .mv 4 (.t 50)]) (.ret [4])))
def k_s_l1Deps : Cfg := { tt := tt, sigs := sigs, mv := false, bm := [], eqt := eqL, keep := [true, true, false, false, true, true, true, false, false, false, true, false, false, false, false, false, false, false, false, false, false, false, false, false, false, false, false, false, false, false, false, false, false, false, false, false, false, false, false, false, false, false, false, false, false, false, false, true, false, false, false], n := 51, pin := [], fail := [], fz := [] }
theorem c_s_l1Deps : cFun k_s_l1Deps Try.f201 s_s_l1Deps = some p_s_l1Deps := by kernel_rfl
theorem F_s_l1Deps {W : Wld} {ins outs : List (List D)} (h : pwp (FunOk PP W) p_s_l1Deps (RetIs outs) (envL ins)) : FunOk PP W n_s_l1Deps s_s_l1Deps ins outs := fun_ok (C := k_s_l1Deps) (cfg_ok rfl) (eq_ok rfl rfl) mixed Try.func201 (by kernel_rfl) (by kernel_rfl) c_s_l1Deps h

def p_cmp_isNaN_int : PC := .seq (.ss [.mv 2 (.c (.bool false))]) (.seq (.ss [.mv 3 (.t 0), .mv 4 (.t 0), .bin 5 .neq (.t 3) (.t 4), .mv 2 (.t 5)]) (.ret [2]))
def k_cmp_isNaN_int : Cfg := { tt := tt, sigs := sigs, mv := false, bm := [], eqt := eqL, keep := [true, false, true, false, false, false], n := 6, pin := [], fail := [], fz := [] }
theorem c_cmp_isNaN_int : cFun k_cmp_isNaN_int Try.f202 s_cmp_isNaN_int = some p_cmp_isNaN_int := by kernel_rfl
theorem F_cmp_isNaN_int {W : Wld} {ins outs : List (List D)} (h : pwp (FunOk PP W) p_cmp_isNaN_int (RetIs outs) (envL ins)) : FunOk PP W n_cmp_isNaN_int s_cmp_isNaN_int ins outs := fun_ok (C := k_cmp_isNaN_int) (cfg_ok rfl) (eq_ok rfl rfl) mixed Try.func202 (by kernel_rfl) (by kernel_rfl) c_cmp_isNaN_int h

end V
end Go.Proofs.Ytgialjcichiaoaa

/-
What these functions come to, as statements; that the checker says so. Written by a program.
-/
namespace Go.Proofs.Ytgialjcichiaoaa
namespace V

def p_l_toFile_X : PC := .seq (.ss [.mv 1 (.t 0), .bld 2 [.int .i64 0, .int .i64 0] []]) (.seq (.ss [.bld 3 [.int .i64 0, .int .i64 0] []]) (.seq (.ss [.nop, .sub 5 1 0 1, .nop, .st 3 0 (.t 5)]) (.seq (.ss [.nop, .sub 8 1 1 1, .nop, .st 3 1 (.t 8)]) (.seq (.ss [.sub 10 3 0 2, .st 2 0 (.t 10)]) (.ret [2])))))
def k_l_toFile_X : Cfg := { tt := tt, sigs := sigsx, mv := true, bm := [], eqt := eqL, keep := [true, true, true, true, false, false, false, false, false, false, false], n := 11, pin := [], fz := [], al := false }
theorem c_l_toFile_X : cFun k_l_toFile_X Try.f189 s_l_toFile_X = some p_l_toFile_X := by kernel_rfl
theorem F_l_toFile_X {W : Wld} {ins outs : List (List D)} (h : pwp (FunOk PP W) p_l_toFile_X (RetIs outs) (envL ins)) : FunOk PP W n_l_toFile s_l_toFile_X ins outs := fun_ok (C := k_l_toFile_X) (cfg_ok rfl) (eq_ok rfl rfl) mixed Try.func189 (by kernel_rfl) (by kernel_rfl) c_l_toFile_X h

def p_l_toFileS_X : PC := .seq (.ss [.mv 2 (.c (.sl []))]) (.seq (.ss [.mv 5 (.t 0), .len 6 (.t 5), .mk 7 [.int .i64 0, .int .i64 0] (.t 6) (.t 6), .mv 3 (.t 7)]) (.seq (.seq (.ss [.mv 4 (.c (.int .i64 0))]) (.block 0 (.loop (.seq (.seq (.ss [.mv 8 (.t 4), .mv 9 (.t 0), .len 10 (.t 9), .bin 11 .lss (.t 8) (.t 10)]) (.cond (.t 11) (.skip) (.exit 0))) (.seq (.block 1 (.ss [.mv 14 (.t 3), .mv 15 (.t 4), .mv 16 (.t 0), .mv 17 (.t 4), .elp 18 (.t 16) (.t 17) 2, .eld 19 18 0 [.int .i64 0, .int .i64 0], .call 20 n_l_toFile s_l_toFile_X [(.t 19)] [], .elp 21 (.t 14) (.t 15) 2, .els 21 0 3 0 (.t 20)])) (.ss [.mv 12 (.t 4), .bin 13 .add (.t 12) (.c (.int .i64 1)), .mv 4 (.t 13)])))))) (.seq (.ss [.mv 22 (.t 3), .mv 2 (.t 22)]) (.ret [2]))))
def k_l_toFileS_X : Cfg := { tt := tt, sigs := sigsx, mv := true, bm := [], eqt := eqL, keep := [true, false, true, true, true, false, false, false, false, false, false, true, false, false, false, false, false, false, false, false, false, false, false], n := 23, pin := [], fz := [], al := false }
theorem c_l_toFileS_X : cFun k_l_toFileS_X Try.f158 s_l_toFileS_X = some p_l_toFileS_X := by kernel_rfl
theorem F_l_toFileS_X {W : Wld} {ins outs : List (List D)} (h : pwp (FunOk PP W) p_l_toFileS_X (RetIs outs) (envL ins)) : FunOk PP W n_l_toFileS s_l_toFileS_X ins outs := fun_ok (C := k_l_toFileS_X) (cfg_ok rfl) (eq_ok rfl rfl) mixed Try.func158 (by kernel_rfl) (by kernel_rfl) c_l_toFileS_X h

def p_l_toDep_X : PC := .seq (.ss [.mv 1 (.t 0), .bld 2 [.int .i64 0, .int .i64 0] []]) (.seq (.ss [.bld 3 [.int .i64 0, .int .i64 0] []]) (.seq (.ss [.nop, .sub 5 1 0 1, .nop, .st 3 0 (.t 5)]) (.seq (.ss [.nop, .sub 8 1 1 1, .nop, .st 3 1 (.t 8)]) (.seq (.ss [.sub 10 3 0 2, .st 2 0 (.t 10)]) (.ret [2])))))
def k_l_toDep_X : Cfg := { tt := tt, sigs := sigsx, mv := true, bm := [], eqt := eqL, keep := [true, true, true, true, false, false, false, false, false, false, false], n := 11, pin := [], fz := [], al := false }
theorem c_l_toDep_X : cFun k_l_toDep_X Try.f190 s_l_toDep_X = some p_l_toDep_X := by kernel_rfl
theorem F_l_toDep_X {W : Wld} {ins outs : List (List D)} (h : pwp (FunOk PP W) p_l_toDep_X (RetIs outs) (envL ins)) : FunOk PP W n_l_toDep s_l_toDep_X ins outs := fun_ok (C := k_l_toDep_X) (cfg_ok rfl) (eq_ok rfl rfl) mixed Try.func190 (by kernel_rfl) (by kernel_rfl) c_l_toDep_X h

def p_l_toDepS_X : PC := .seq (.ss [.mv 2 (.c (.sl []))]) (.seq (.ss [.mv 5 (.t 0), .len 6 (.t 5), .mk 7 [.int .i64 0, .int .i64 0] (.t 6) (.t 6), .mv 3 (.t 7)]) (.seq (.seq (.ss [.mv 4 (.c (.int .i64 0))]) (.block 0 (.loop (.seq (.seq (.ss [.mv 8 (.t 4), .mv 9 (.t 0), .len 10 (.t 9), .bin 11 .lss (.t 8) (.t 10)]) (.cond (.t 11) (.skip) (.exit 0))) (.seq (.block 1 (.ss [.mv 14 (.t 3), .mv 15 (.t 4), .mv 16 (.t 0), .mv 17 (.t 4), .elp 18 (.t 16) (.t 17) 2, .eld 19 18 0 [.int .i64 0, .int .i64 0], .call 20 n_l_toDep s_l_toDep_X [(.t 19)] [], .elp 21 (.t 14) (.t 15) 2, .els 21 0 3 0 (.t 20)])) (.ss [.mv 12 (.t 4), .bin 13 .add (.t 12) (.c (.int .i64 1)), .mv 4 (.t 13)])))))) (.seq (.ss [.mv 22 (.t 3), .mv 2 (.t 22)]) (.ret [2]))))
def k_l_toDepS_X : Cfg := { tt := tt, sigs := sigsx, mv := true, bm := [], eqt := eqL, keep := [true, false, true, true, true, false, false, false, false, false, false, true, false, false, false, false, false, false, false, false, false, false, false], n := 23, pin := [], fz := [], al := false }
theorem c_l_toDepS_X : cFun k_l_toDepS_X Try.f159 s_l_toDepS_X = some p_l_toDepS_X := by kernel_rfl
theorem F_l_toDepS_X {W : Wld} {ins outs : List (List D)} (h : pwp (FunOk PP W) p_l_toDepS_X (RetIs outs) (envL ins)) : FunOk PP W n_l_toDepS s_l_toDepS_X ins outs := fun_ok (C := k_l_toDepS_X) (cfg_ok rfl) (eq_ok rfl rfl) mixed Try.func159 (by kernel_rfl) (by kernel_rfl) c_l_toDepS_X h

def p_l_toPkg_X : PC := .seq (.ss [.mv 1 (.t 0), .bld 2 [.int .i64 0, .int .i64 0, .sl [], .sl []] []]) (.seq (.ss [.bld 3 [.int .i64 0, .int .i64 0, .sl [], .sl []] []]) (.seq (.ss [.nop, .sub 5 1 0 1, .nop, .st 3 0 (.t 5)]) (.seq (.ss [.nop, .sub 8 1 1 1, .nop, .st 3 1 (.t 8)]) (.seq (.ss [.nop, .sub 11 1 2 1, .call 12 n_l_toFileS s_l_toFileS_X [(.t 11)] [], .nop, .st 3 2 (.t 12)]) (.seq (.ss [.nop, .sub 15 1 3 1, .call 16 n_l_toDepS s_l_toDepS_X [(.t 15)] [], .nop, .st 3 3 (.t 16)]) (.seq (.ss [.sub 18 3 0 4, .st 2 0 (.t 18)]) (.ret [2])))))))
def k_l_toPkg_X : Cfg := { tt := tt, sigs := sigsx, mv := true, bm := [], eqt := eqL, keep := [true, true, true, true, false, false, false, false, false, false, false, false, false, false, false, false, false, false, false], n := 19, pin := [], fz := [], al := false }
theorem c_l_toPkg_X : cFun k_l_toPkg_X Try.f102 s_l_toPkg_X = some p_l_toPkg_X := by kernel_rfl
theorem F_l_toPkg_X {W : Wld} {ins outs : List (List D)} (h : pwp (FunOk PP W) p_l_toPkg_X (RetIs outs) (envL ins)) : FunOk PP W n_l_toPkg s_l_toPkg_X ins outs := fun_ok (C := k_l_toPkg_X) (cfg_ok rfl) (eq_ok rfl rfl) mixed Try.func102 (by kernel_rfl) (by kernel_rfl) c_l_toPkg_X h

def p_l_toPkgS_X : PC := .seq (.ss [.mv 2 (.c (.sl []))]) (.seq (.ss [.mv 5 (.t 0), .len 6 (.t 5), .mk 7 [.int .i64 0, .int .i64 0, .sl [], .sl []] (.t 6) (.t 6), .mv 3 (.t 7)]) (.seq (.seq (.ss [.mv 4 (.c (.int .i64 0))]) (.block 0 (.loop (.seq (.seq (.ss [.mv 8 (.t 4), .mv 9 (.t 0), .len 10 (.t 9), .bin 11 .lss (.t 8) (.t 10)]) (.cond (.t 11) (.skip) (.exit 0))) (.seq (.block 1 (.ss [.mv 14 (.t 3), .mv 15 (.t 4), .mv 16 (.t 0), .mv 17 (.t 4), .elp 18 (.t 16) (.t 17) 4, .eld 19 18 0 [.int .i64 0, .int .i64 0, .sl [], .sl []], .call 20 n_l_toPkg s_l_toPkg_X [(.t 19)] [], .elp 21 (.t 14) (.t 15) 4, .els 21 0 3 0 (.t 20)])) (.ss [.mv 12 (.t 4), .bin 13 .add (.t 12) (.c (.int .i64 1)), .mv 4 (.t 13)])))))) (.seq (.ss [.mv 22 (.t 3), .mv 2 (.t 22)]) (.ret [2]))))
def k_l_toPkgS_X : Cfg := { tt := tt, sigs := sigsx, mv := true, bm := [], eqt := eqL, keep := [true, false, true, true, true, false, false, false, false, false, false, true, false, false, false, false, false, false, false, false, false, false, false], n := 23, pin := [], fz := [], al := false }
theorem c_l_toPkgS_X : cFun k_l_toPkgS_X Try.f39 s_l_toPkgS_X = some p_l_toPkgS_X := by kernel_rfl
theorem F_l_toPkgS_X {W : Wld} {ins outs : List (List D)} (h : pwp (FunOk PP W) p_l_toPkgS_X (RetIs outs) (envL ins)) : FunOk PP W n_l_toPkgS s_l_toPkgS_X ins outs := fun_ok (C := k_l_toPkgS_X) (cfg_ok rfl) (eq_ok rfl rfl) mixed Try.func39 (by kernel_rfl) (by kernel_rfl) c_l_toPkgS_X h

def p_l_markFileS_X : PC := .seq (.ss [.mv 4 (.c (.int .i64 0))]) (.seq (.seq (.ss [.mv 5 (.c (.int .i64 0))]) (.block 0 (.loop (.seq (.seq (.ss [.mv 6 (.t 5), .mv 7 (.t 0), .len 8 (.t 7), .bin 9 .lss (.t 6) (.t 8)]) (.cond (.t 9) (.skip) (.exit 0))) (.seq (.block 1 (.seq (.ss [.mv 12 (.t 0), .mv 13 (.t 5), .mv 14 (.t 1), .elp 15 (.t 12) (.t 13) 2, .mv 16 (.t 15), .els 16 0 0 0 (.t 14)]) (.seq (.ss [.mv 17 (.t 1), .bin 18 .add (.t 17) (.c (.int .i64 1)), .mv 1 (.t 18)]) (.seq (.ss [.mv 19 (.t 0), .mv 20 (.t 5), .mv 21 (.t 1), .elp 22 (.t 19) (.t 20) 2, .mv 23 (.t 22), .els 23 1 0 0 (.t 21)]) (.ss [.mv 24 (.t 1), .bin 25 .add (.t 24) (.c (.int .i64 1)), .mv 1 (.t 25)]))))) (.ss [.mv 10 (.t 5), .bin 11 .add (.t 10) (.c (.int .i64 1)), .mv 5 (.t 11)])))))) (.seq (.ss [.mv 26 (.t 1), .mv 4 (.t 26)]) (.ret [4, 0])))
def k_l_markFileS_X : Cfg := { tt := tt, sigs := sigsx, mv := true, bm := [], eqt := eqL, keep := [true, true, false, false, true, true, false, false, false, true, false, false, false, false, false, false, false, false, false, false, false, false, false, false, false, false, false], n := 27, pin := [0], fz := [], al := false }
theorem c_l_markFileS_X : cFunIo k_l_markFileS_X Try.f109 s_l_markFileS_X = some p_l_markFileS_X := by kernel_rfl
theorem F_l_markFileS_X {W : Wld} {ins outs : List (List D)} (h : pwp (FunOk PP W) p_l_markFileS_X (RetIs outs) (envL ins)) : FunOk PP W n_l_markFileS s_l_markFileS_X ins outs := fun_io (C := k_l_markFileS_X) (cfg_ok rfl) (eq_ok rfl rfl) mixed Try.func109 (by kernel_rfl) c_l_markFileS_X h

def p_l_markDepS_X : PC := .seq (.ss [.mv 4 (.c (.int .i64 0))]) (.seq (.seq (.ss [.mv 5 (.c (.int .i64 0))]) (.block 0 (.loop (.seq (.seq (.ss [.mv 6 (.t 5), .mv 7 (.t 0), .len 8 (.t 7), .bin 9 .lss (.t 6) (.t 8)]) (.cond (.t 9) (.skip) (.exit 0))) (.seq (.block 1 (.seq (.ss [.mv 12 (.t 0), .mv 13 (.t 5), .mv 14 (.t 1), .elp 15 (.t 12) (.t 13) 2, .mv 16 (.t 15), .els 16 0 0 0 (.t 14)]) (.seq (.ss [.mv 17 (.t 1), .bin 18 .add (.t 17) (.c (.int .i64 1)), .mv 1 (.t 18)]) (.seq (.ss [.mv 19 (.t 0), .mv 20 (.t 5), .mv 21 (.t 1), .elp 22 (.t 19) (.t 20) 2, .mv 23 (.t 22), .els 23 1 0 0 (.t 21)]) (.ss [.mv 24 (.t 1), .bin 25 .add (.t 24) (.c (.int .i64 1)), .mv 1 (.t 25)]))))) (.ss [.mv 10 (.t 5), .bin 11 .add (.t 10) (.c (.int .i64 1)), .mv 5 (.t 11)])))))) (.seq (.ss [.mv 26 (.t 1), .mv 4 (.t 26)]) (.ret [4, 0])))
def k_l_markDepS_X : Cfg := { tt := tt, sigs := sigsx, mv := true, bm := [], eqt := eqL, keep := [true, true, false, false, true, true, false, false, false, true, false, false, false, false, false, false, false, false, false, false, false, false, false, false, false, false, false], n := 27, pin := [0], fz := [], al := false }
theorem c_l_markDepS_X : cFunIo k_l_markDepS_X Try.f110 s_l_markDepS_X = some p_l_markDepS_X := by kernel_rfl
theorem F_l_markDepS_X {W : Wld} {ins outs : List (List D)} (h : pwp (FunOk PP W) p_l_markDepS_X (RetIs outs) (envL ins)) : FunOk PP W n_l_markDepS s_l_markDepS_X ins outs := fun_io (C := k_l_markDepS_X) (cfg_ok rfl) (eq_ok rfl rfl) mixed Try.func110 (by kernel_rfl) c_l_markDepS_X h

def p_l_markPkgS_X : PC := .seq (.ss [.mv 4 (.c (.int .i64 0))]) (.seq (.seq (.ss [.mv 5 (.c (.int .i64 0))]) (.block 0 (.loop (.seq (.seq (.ss [.mv 6 (.t 5), .mv 7 (.t 0), .len 8 (.t 7), .bin 9 .lss (.t 6) (.t 8)]) (.cond (.t 9) (.skip) (.exit 0))) (.seq (.block 1 (.seq (.ss [.mv 12 (.t 0), .mv 13 (.t 5), .mv 14 (.t 1), .elp 15 (.t 12) (.t 13) 4, .mv 16 (.t 15), .els 16 0 0 0 (.t 14)]) (.seq (.ss [.mv 17 (.t 1), .bin 18 .add (.t 17) (.c (.int .i64 1)), .mv 1 (.t 18)]) (.seq (.ss [.mv 19 (.t 0), .mv 20 (.t 5), .mv 21 (.t 1), .elp 22 (.t 19) (.t 20) 4, .mv 23 (.t 22), .els 23 1 0 0 (.t 21)]) (.seq (.ss [.mv 24 (.t 1), .bin 25 .add (.t 24) (.c (.int .i64 1)), .mv 1 (.t 25)]) (.seq (.ss [.mv 26 (.t 0), .mv 27 (.t 5), .elp 28 (.t 26) (.t 27) 4, .mv 29 (.t 28), .eld 30 29 2 [.sl []], .mv 31 (.t 1), .ioc 32 n_l_markFileS s_l_markFileS_X (.t 30) (.t 31) 0 0 (some (29, 2)), .mv 1 (.t 32)]) (.ss [.mv 33 (.t 0), .mv 34 (.t 5), .elp 35 (.t 33) (.t 34) 4, .mv 36 (.t 35), .eld 37 36 3 [.sl []], .mv 38 (.t 1), .ioc 39 n_l_markDepS s_l_markDepS_X (.t 37) (.t 38) 0 0 (some (36, 3)), .mv 1 (.t 39)]))))))) (.ss [.mv 10 (.t 5), .bin 11 .add (.t 10) (.c (.int .i64 1)), .mv 5 (.t 11)])))))) (.seq (.ss [.mv 40 (.t 1), .mv 4 (.t 40)]) (.ret [4, 0])))
def k_l_markPkgS_X : Cfg := { tt := tt, sigs := sigsx, mv := true, bm := [], eqt := eqL, keep := [true, true, false, false, true, true, false, false, false, true, false, false, false, false, false, false, false, false, false, false, false, false, false, false, false, false, false, false, false, false, false, false, false, false, false, false, false, false, false, false, false], n := 41, pin := [0], fz := [], al := false }
theorem c_l_markPkgS_X : cFunIo k_l_markPkgS_X Try.f42 s_l_markPkgS_X = some p_l_markPkgS_X := by kernel_rfl
theorem F_l_markPkgS_X {W : Wld} {ins outs : List (List D)} (h : pwp (FunOk PP W) p_l_markPkgS_X (RetIs outs) (envL ins)) : FunOk PP W n_l_markPkgS s_l_markPkgS_X ins outs := fun_io (C := k_l_markPkgS_X) (cfg_ok rfl) (eq_ok rfl rfl) mixed Try.func42 (by kernel_rfl) c_l_markPkgS_X h

def p_l_FnExactPlanFor_X : PC := .seq (.ss [.mv 6 (.c (.bool false))]) (.seq (.ss [.mv 7 (.c (.int .i64 1048576))]) (.seq (.ss [.mv 19 (.t 0), .mv 20 (.t 7), .call 21 n_l_szPkgS s_l_szPkgS [(.t 19), (.t 20)] [], .mv 7 (.t 21)]) (.seq (.seq (.ss [.mv 22 (.t 7), .bin 23 .lss (.t 22) (.c (.int .i64 0))]) (.cond (.t 23) (.seq (.ss [.mv 6 (.c (.bool true))]) (.ret [6])) (.skip))) (.seq (.ss [.mv 24 (.t 1), .mv 25 (.t 7), .call 26 n_l_szPkgS s_l_szPkgS [(.t 24), (.t 25)] [], .mv 7 (.t 26)]) (.seq (.seq (.ss [.mv 27 (.t 7), .bin 28 .lss (.t 27) (.c (.int .i64 0))]) (.cond (.t 28) (.seq (.ss [.mv 6 (.c (.bool true))]) (.ret [6])) (.skip))) (.seq (.ss [.mv 30 (.t 0), .call 31 n_l_toPkgS s_l_toPkgS_X [(.t 30)] [], .mv 32 (.t 1), .call 33 n_l_toPkgS s_l_toPkgS_X [(.t 32)] [], .mv 34 (.t 2), .call 35 n_s_PlanFor s_s_PlanFor [(.t 31), (.t 33), (.t 34)] [], .mv 29 (.t 35), .ext 36 29 0 1, .ext 37 29 1 1, .mv 8 (.t 36), .mv 9 (.t 37)]) (.seq (.ss [.mv 38 (.t 0), .call 39 n_l_toPkgS s_l_toPkgS_X [(.t 38)] [], .mv 10 (.t 39)]) (.seq (.ss [.mv 40 (.t 1), .call 41 n_l_toPkgS s_l_toPkgS_X [(.t 40)] [], .mv 11 (.t 41)]) (.seq (.ss [.mv 43 (.t 10), .mv 44 (.t 11), .mv 45 (.t 2), .call 46 n_i_PlanFor s_i_PlanFor_X [(.t 43), (.t 44), (.t 45)] [], .mv 42 (.t 46), .ext 47 42 0 1, .ext 48 42 1 1, .mv 12 (.t 47), .mv 13 (.t 48)]) (.seq (.seq (.ss [.mv 49 (.t 12), .mv 50 (.t 8), .call 51 n_l_eqPkgS s_l_eqPkgS [(.t 49), (.t 50)] [], .un 52 .not (.t 51), .mv 53 (.t 52), .g 53 false 54 (.mv 54 (.t 13)), .g 53 false 55 (.mv 55 (.t 9)), .g 53 false 56 (.beq 56 true (.t 54) (.t 55)), .pick 57 (.t 53) (.c (.bool true)) (.t 56)]) (.cond (.t 57) (.seq (.ss [.mv 6 (.c (.bool false))]) (.ret [6])) (.skip))) (.seq (.seq (.ss [.mv 58 (.t 10), .mv 59 (.t 0), .call 60 n_l_toPkgS s_l_toPkgS_X [(.t 59)] [], .call 61 n_l_eqPkgS s_l_eqPkgS [(.t 58), (.t 60)] [], .un 62 .not (.t 61)]) (.cond (.t 62) (.seq (.ss [.mv 6 (.c (.bool false))]) (.ret [6])) (.skip))) (.seq (.seq (.ss [.mv 63 (.t 11), .mv 64 (.t 1), .call 65 n_l_toPkgS s_l_toPkgS_X [(.t 64)] [], .call 66 n_l_eqPkgS s_l_eqPkgS [(.t 63), (.t 65)] [], .un 67 .not (.t 66)]) (.cond (.t 67) (.seq (.ss [.mv 6 (.c (.bool false))]) (.ret [6])) (.skip))) (.seq (.ss [.mv 14 (.c (.int .i64 1))]) (.seq (.ss [.mv 68 (.t 10), .mv 69 (.t 14), .ioc 70 n_l_markPkgS s_l_markPkgS_X (.t 68) (.t 69) 10 0 none, .mv 14 (.t 70)]) (.seq (.ss [.mv 71 (.t 11), .mv 72 (.t 14), .ioc 73 n_l_markPkgS s_l_markPkgS_X (.t 71) (.t 72) 11 0 none, .mv 14 (.t 73)]) (.seq (.seq (.ss [.mv 74 (.t 14), .bin 75 .lss (.t 74) (.c (.int .i64 0)), .mv 76 (.t 75), .g 76 false 77 (.mv 77 (.t 12)), .g 76 false 78 (.mv 78 (.t 8)), .g 76 false 79 (.call 79 n_l_eqPkgS s_l_eqPkgS [(.t 77), (.t 78)] []), .g 76 false 80 (.un 80 .not (.t 79)), .pick 81 (.t 76) (.c (.bool true)) (.t 80), .mv 82 (.t 81), .g 82 false 83 (.mv 83 (.t 13)), .g 82 false 84 (.mv 84 (.t 9)), .g 82 false 85 (.beq 85 true (.t 83) (.t 84)), .pick 86 (.t 82) (.c (.bool true)) (.t 85)]) (.cond (.t 86) (.seq (.ss [.mv 6 (.c (.bool false))]) (.ret [6])) (.skip))) (.seq (.ss [.mv 15 (.c (.int .i64 1))]) (.seq (.ss [.mv 87 (.t 12), .mv 88 (.t 15), .ioc 89 n_l_markPkgS s_l_markPkgS_X (.t 87) (.t 88) 12 0 none, .mv 15 (.t 89)]) (.seq (.ss [.mv 16 (.c (.int .i64 1))]) (.seq (.ss [.mv 90 (.t 12), .mv 91 (.t 16), .call 92 n_l_heldPkgS s_l_heldPkgS [(.t 90), (.t 91)] [], .mv 16 (.t 92)]) (.seq (.seq (.ss [.mv 93 (.t 16), .bin 94 .lss (.t 93) (.c (.int .i64 0))]) (.cond (.t 94) (.seq (.ss [.mv 6 (.c (.bool false))]) (.ret [6])) (.skip))) (.seq (.seq (.ss [.mv 95 (.t 16), .mv 96 (.t 15), .bin 97 .neq (.t 95) (.t 96)]) (.cond (.t 97) (.seq (.ss [.mv 6 (.c (.bool false))]) (.ret [6])) (.skip))) (.seq (.ss [.mv 99 (.t 0), .call 100 n_l_toPkgS s_l_toPkgS_X [(.t 99)] [], .mv 101 (.t 1), .call 102 n_l_toPkgS s_l_toPkgS_X [(.t 101)] [], .mv 103 (.t 2), .call 104 n_i_PlanFor s_i_PlanFor_X [(.t 100), (.t 102), (.t 103)] [], .mv 98 (.t 104), .ext 105 98 0 1, .ext 106 98 1 1, .mv 17 (.t 105), .mv 18 (.t 106)]) (.seq (.seq (.ss [.mv 107 (.t 17), .mv 108 (.t 8), .call 109 n_l_eqPkgS s_l_eqPkgS [(.t 107), (.t 108)] [], .un 110 .not (.t 109), .mv 111 (.t 110), .g 111 false 112 (.mv 112 (.t 18)), .g 111 false 113 (.mv 113 (.t 9)), .g 111 false 114 (.beq 114 true (.t 112) (.t 113)), .pick 115 (.t 111) (.c (.bool true)) (.t 114)]) (.cond (.t 115) (.seq (.ss [.mv 6 (.c (.bool false))]) (.ret [6])) (.skip))) (.seq (.ss [.mv 16 (.c (.int .i64 1))]) (.seq (.ss [.mv 116 (.t 12), .mv 117 (.t 16), .call 118 n_l_heldPkgS s_l_heldPkgS [(.t 116), (.t 117)] [], .mv 16 (.t 118)]) (.seq (.seq (.ss [.mv 119 (.t 16), .bin 120 .lss (.t 119) (.c (.int .i64 0))]) (.cond (.t 120) (.seq (.ss [.mv 6 (.c (.bool false))]) (.ret [6])) (.skip))) (.seq (.seq (.ss [.mv 121 (.t 16), .mv 122 (.t 15), .bin 123 .neq (.t 121) (.t 122)]) (.cond (.t 123) (.seq (.ss [.mv 6 (.c (.bool false))]) (.ret [6])) (.skip))) (.seq (.ss [.mv 6 (.c (.bool true))]) (.ret [6]))))))))))))))))))))))))))))))
def k_l_FnExactPlanFor_X : Cfg := { tt := tt, sigs := sigsx, mv := true, bm := [], eqt := eqL, keep := [true, true, true, false, false, false, true, true, true, true, true, true, true, true, true, true, true, true, true, false, false, false, false, true, false, false, false, false, true, false, false, false, false, false, false, false, false, false, false, false, false, false, false, false, false, false, false, false, false, false, false, false, false, false, false, false, false, true, false, false, false, false, true, false, false, false, false, true, false, false, false, false, false, false, false, false, false, false, false, false, false, false, false, false, false, false, true, false, false, false, false, false, false, false, true, false, false, true, false, false, false, false, false, false, false, false, false, false, false, false, false, false, false, false, false, true, false, false, false, false, true, false, false, true], n := 124, pin := [], fz := [], al := false }
theorem c_l_FnExactPlanFor_X : cFun k_l_FnExactPlanFor_X Try.f7 s_l_FnExactPlanFor_X = some p_l_FnExactPlanFor_X := by kernel_rfl
theorem F_l_FnExactPlanFor_X {W : Wld} {ins outs : List (List D)} (h : pwp (FunOk PP W) p_l_FnExactPlanFor_X (RetIs outs) (envL ins)) : FunOk PP W n_l_FnExactPlanFor s_l_FnExactPlanFor_X ins outs := fun_ok (C := k_l_FnExactPlanFor_X) (cfg_ok rfl) (eq_ok rfl rfl) mixed Try.func7 (by kernel_rfl) (by kernel_rfl) c_l_FnExactPlanFor_X h

def p_i_newer_X : PC := .seq (.ss [.bld 6 [.int .i64 0, .int .i64 0, .sl [], .sl []] [], .mv 7 (.c (.bool false))]) (.seq (.ss [.mv 10 (.t 0), .mv 11 (.t 2), .call 12 n_i_newest s_i_newest [(.t 10), (.t 11)] [], .mv 13 (.t 1), .mv 14 (.t 2), .call 15 n_i_newest s_i_newest [(.t 13), (.t 14)] [], .mv 8 (.t 12), .mv 9 (.t 15)]) (.seq (.block 0 (.seq (.ss [.mv 17 (.t 9), .bin 18 .geq (.t 17) (.c (.int .i64 0)), .mv 19 (.t 18), .g 19 true 20 (.mv 20 (.t 8)), .g 19 true 21 (.bin 21 .lss (.t 20) (.c (.int .i64 0))), .g 19 true 22 (.mv 22 (.t 21)), .g 22 false 23 (.mv 23 (.t 1)), .g 22 false 24 (.mv 24 (.t 9)), .g 22 false 25 (.elp 25 (.t 23) (.t 24) 4), .g 22 false 26 (.mv 26 (.t 25)), .g 22 false 27 (.eld 27 26 1 [.int .i64 0]), .g 22 false 28 (.mv 28 (.t 0)), .g 22 false 29 (.mv 29 (.t 8)), .g 22 false 30 (.elp 30 (.t 28) (.t 29) 4), .g 22 false 31 (.mv 31 (.t 30)), .g 22 false 32 (.eld 32 31 1 [.int .i64 0]), .g 22 false 33 (.bin 33 .geq (.t 27) (.t 32)), .g 19 true 34 (.pick 34 (.t 22) (.c (.bool true)) (.t 33)), .pick 35 (.t 19) (.t 34) (.c (.bool false)), .mv 16 (.t 35)]) (.cond (.t 16) (.seq (.ss [.mv 36 (.t 1), .mv 37 (.t 9), .elp 38 (.t 36) (.t 37) 4, .eld 39 38 0 [.int .i64 0, .int .i64 0, .sl [], .sl []], .st 6 0 (.t 39), .mv 7 (.c (.bool true))]) (.ret [6, 7])) (.seq (.ss [.mv 41 (.t 8), .bin 42 .geq (.t 41) (.c (.int .i64 0)), .mv 40 (.t 42)]) (.cond (.t 40) (.seq (.ss [.mv 43 (.t 0), .mv 44 (.t 8), .elp 45 (.t 43) (.t 44) 4, .eld 46 45 0 [.int .i64 0, .int .i64 0, .sl [], .sl []], .st 6 0 (.t 46), .mv 7 (.c (.bool true))]) (.ret [6, 7])) (.skip)))))) (.seq (.ss [.bld 47 [.int .i64 0, .int .i64 0, .sl [], .sl []] [], .st 6 0 (.t 47), .mv 7 (.c (.bool false))]) (.ret [6, 7]))))
def k_i_newer_X : Cfg := { tt := tt, sigs := sigsx, mv := true, bm := [], eqt := eqL, keep := [true, true, true, false, false, false, true, true, true, true, false, false, false, false, false, false, true, false, false, false, false, false, false, false, false, false, false, false, false, false, false, false, false, false, false, false, false, false, false, false, true, false, false, false, false, false, false, false], n := 48, pin := [], fz := [], al := false }
theorem c_i_newer_X : cFun k_i_newer_X Try.f106 s_i_newer_X = some p_i_newer_X := by kernel_rfl
theorem F_i_newer_X {W : Wld} {ins outs : List (List D)} (h : pwp (FunOk PP W) p_i_newer_X (RetIs outs) (envL ins)) : FunOk PP W n_i_newer s_i_newer_X ins outs := fun_ok (C := k_i_newer_X) (cfg_ok rfl) (eq_ok rfl rfl) mixed Try.func106 (by kernel_rfl) (by kernel_rfl) c_i_newer_X h

def p_i_put_X : PC := .seq (.ss [.mv 3 (.t 1), .mv 4 (.c (.sl [])), .mv 5 (.c (.bool false))]) (.seq (.ss [.mv 9 (.t 0), .sub 10 3 0 4, .call 11 n_sl_BinarySearchFunc_Pkg s_sl_BinarySearchFunc_Pkg [(.t 9), (.t 10), (.c (.fn 161 [] []))] [], .mv 8 (.t 11), .ext 12 8 0 1, .ext 13 8 1 1, .mv 6 (.t 12), .mv 7 (.t 13)]) (.seq (.seq (.ss [.mv 14 (.t 7)]) (.cond (.t 14) (.seq (.ss [.mv 15 (.t 0), .mv 4 (.t 15), .mv 5 (.c (.bool false))]) (.ret [4, 5])) (.skip))) (.seq (.ss [.mv 16 (.t 0), .mv 17 (.t 6), .sub 18 3 0 4, .call 19 n_i_Pkg_copied s_i_Pkg_copied_X [(.t 18)] [], .lit 20 1 [.int .i64 0, .int .i64 0, .sl [], .sl []] [(0, (.t 19))], .call 21 n_sl_Insert_Pkg s_sl_Insert_Pkg_X [(.t 16), (.t 17), (.t 20)] [], .mv 4 (.t 21), .mv 5 (.c (.bool true))]) (.ret [4, 5]))))
def k_i_put_X : Cfg := { tt := tt, sigs := sigsx, mv := true, bm := [], eqt := eqL, keep := [true, true, false, true, true, true, true, true, false, false, false, false, false, false, true, false, false, false, false, false, false, false], n := 22, pin := [], fz := [], al := false }
theorem c_i_put_X : cFun k_i_put_X Try.f107 s_i_put_X = some p_i_put_X := by kernel_rfl
theorem F_i_put_X {W : Wld} {ins outs : List (List D)} (h : pwp (FunOk PP W) p_i_put_X (RetIs outs) (envL ins)) : FunOk PP W n_i_put s_i_put_X ins outs := fun_ok (C := k_i_put_X) (cfg_ok rfl) (eq_ok rfl rfl) mixed Try.func107 (by kernel_rfl) (by kernel_rfl) c_i_put_X h

def p_i_PlanFor_X : PC := .seq (.ss [.mv 6 (.c (.sl [])), .mv 7 (.c (.bool false))]) (.seq (.seq (.ss [.mv 17 (.t 0), .call 18 n_i_StoreOk s_i_StoreOk [(.t 17)] [], .un 19 .not (.t 18), .mv 20 (.t 19), .g 20 false 21 (.mv 21 (.t 1)), .g 20 false 22 (.call 22 n_i_PlanOk s_i_PlanOk [(.t 21)] []), .g 20 false 23 (.un 23 .not (.t 22)), .pick 24 (.t 20) (.c (.bool true)) (.t 23), .mv 25 (.t 24), .g 25 false 26 (.mv 26 (.t 2)), .g 25 false 27 (.call 27 n_i_isName s_i_isName [(.t 26)] []), .g 25 false 28 (.un 28 .not (.t 27)), .pick 29 (.t 25) (.c (.bool true)) (.t 28)]) (.cond (.t 29) (.seq (.ss [.mv 6 (.c (.sl [])), .mv 7 (.c (.bool false))]) (.ret [6, 7])) (.skip))) (.seq (.ss [.mv 30 (.t 2), .lit 31 1 [.int .i64 0] [(0, (.t 30))], .mv 8 (.t 31)]) (.seq (.seq (.ss [.mv 32 (.t 1), .len 33 (.t 32), .mv 34 (.c (.int .i64 0))]) (.block 0 (.loop (.seq (.ss [.bin 35 .lss (.t 34) (.t 33)]) (.seq (.cond (.t 35) (.skip) (.exit 0)) (.seq (.block 1 (.seq (.ss [.elp 36 (.t 32) (.t 34) 4, .eld 37 36 0 [.int .i64 0, .int .i64 0, .sl [], .sl []], .bld 10 [.int .i64 0, .int .i64 0, .sl [], .sl []] [], .st 10 0 (.t 37)]) (.ss [.mv 38 (.t 8), .nop, .sub 40 10 0 1, .lit 41 1 [.int .i64 0] [(0, (.t 40))], .app 42 1 true (.t 38) (.t 41), .mv 8 (.t 42)]))) (.ss [.bin 43 .add (.t 34) (.c (.int .i64 1)), .mv 34 (.t 43)]))))))) (.seq (.ss [.mv 11 (.c (.sl []))]) (.seq (.seq (.ss [.mv 12 (.c (.int .i64 0))]) (.block 2 (.loop (.seq (.seq (.ss [.mv 44 (.t 12), .mv 45 (.t 8), .len 46 (.t 45), .bin 47 .lss (.t 44) (.t 46)]) (.cond (.t 47) (.skip) (.exit 2))) (.seq (.block 3 (.seq (.seq (.ss [.mv 50 (.t 8), .mv 51 (.t 12), .lsl 52 1 (.t 50) none (some (.t 51)) none, .mv 53 (.t 8), .mv 54 (.t 12), .elp 55 (.t 53) (.t 54) 1, .eld 56 55 0 [.int .i64 0], .call 57 n_sl_Contains_int s_sl_Contains_int [(.t 52), (.t 56)] []]) (.cond (.t 57) (.exit 3) (.skip))) (.seq (.ss [.mv 59 (.t 0), .mv 60 (.t 1), .mv 61 (.t 8), .mv 62 (.t 12), .elp 63 (.t 61) (.t 62) 1, .eld 64 63 0 [.int .i64 0], .call 65 n_i_newer s_i_newer_X [(.t 59), (.t 60), (.t 64)] [], .mv 58 (.t 65), .ext 66 58 0 4, .ext 67 58 4 1, .bld 13 [.int .i64 0, .int .i64 0, .sl [], .sl []] [], .st 13 0 (.t 66), .mv 14 (.t 67)]) (.seq (.seq (.ss [.mv 68 (.t 14), .un 69 .not (.t 68)]) (.cond (.t 69) (.seq (.ss [.mv 6 (.c (.sl [])), .mv 7 (.c (.bool false))]) (.ret [6, 7])) (.skip))) (.seq (.seq (.ss [.nop, .sub 71 13 3 1, .len 72 (.t 71), .mv 73 (.c (.int .i64 0))]) (.block 4 (.loop (.seq (.ss [.bin 74 .lss (.t 73) (.t 72)]) (.seq (.cond (.t 74) (.skip) (.exit 4)) (.seq (.block 5 (.seq (.ss [.elp 75 (.t 71) (.t 73) 2, .eld 76 75 0 [.int .i64 0, .int .i64 0], .bld 16 [.int .i64 0, .int .i64 0] [], .st 16 0 (.t 76)]) (.ss [.mv 77 (.t 8), .nop, .sub 79 16 0 1, .lit 80 1 [.int .i64 0] [(0, (.t 79))], .app 81 1 true (.t 77) (.t 80), .mv 8 (.t 81)]))) (.ss [.bin 82 .add (.t 73) (.c (.int .i64 1)), .mv 73 (.t 82)]))))))) (.ss [.mv 84 (.t 11), .sub 85 13 0 4, .call 86 n_i_put s_i_put_X [(.t 84), (.t 85)] [], .mv 83 (.t 86), .ext 87 83 0 1, .ext 88 83 1 1, .mv 11 (.t 87)])))))) (.ss [.mv 48 (.t 12), .bin 49 .add (.t 48) (.c (.int .i64 1)), .mv 12 (.t 49)])))))) (.seq (.seq (.ss [.mv 89 (.t 11), .call 90 n_i_PlanOk s_i_PlanOk [(.t 89)] [], .un 91 .not (.t 90)]) (.cond (.t 91) (.seq (.ss [.mv 6 (.c (.sl [])), .mv 7 (.c (.bool false))]) (.ret [6, 7])) (.skip))) (.seq (.ss [.mv 92 (.t 11), .mv 6 (.t 92), .mv 7 (.c (.bool true))]) (.ret [6, 7]))))))))
def k_i_PlanFor_X : Cfg := { tt := tt, sigs := sigsx, mv := true, bm := [], eqt := eqL, keep := [true, true, true, false, false, false, true, true, true, false, true, true, true, true, true, false, true, false, false, false, false, false, false, false, false, false, false, false, false, true, false, false, true, true, true, true, false, false, false, false, false, false, false, false, false, false, false, true, false, false, false, false, false, false, false, false, false, true, false, false, false, false, false, false, false, false, false, false, false, true, false, true, true, true, true, false, false, false, false, false, false, false, false, false, false, false, false, false, false, false, false, true, false], n := 93, pin := [], fz := [], al := false }
theorem c_i_PlanFor_X : cFun k_i_PlanFor_X Try.f40 s_i_PlanFor_X = some p_i_PlanFor_X := by kernel_rfl
theorem F_i_PlanFor_X {W : Wld} {ins outs : List (List D)} (h : pwp (FunOk PP W) p_i_PlanFor_X (RetIs outs) (envL ins)) : FunOk PP W n_i_PlanFor s_i_PlanFor_X ins outs := fun_ok (C := k_i_PlanFor_X) (cfg_ok rfl) (eq_ok rfl rfl) mixed Try.func40 (by kernel_rfl) (by kernel_rfl) c_i_PlanFor_X h

def p_i_Pkg_copied_X : PC := .seq (.ss [.mv 1 (.t 0), .bld 2 [.int .i64 0, .int .i64 0, .sl [], .sl []] []]) (.seq (.ss [.nop, .sub 4 1 2 1, .call 5 n_sl_Clone_File s_sl_Clone_File_X [(.t 4)] [], .nop, .sub 7 1 3 1, .call 8 n_sl_Clone_Dep s_sl_Clone_Dep_X [(.t 7)] [], .nop, .st 1 2 (.t 5), .nop, .st 1 3 (.t 8)]) (.seq (.ss [.sub 11 1 0 4, .st 2 0 (.t 11)]) (.ret [2])))
def k_i_Pkg_copied_X : Cfg := { tt := tt, sigs := sigsx, mv := true, bm := [], eqt := eqL, keep := [true, true, true, false, false, false, false, false, false, false, false, false], n := 12, pin := [], fz := [], al := false }
theorem c_i_Pkg_copied_X : cFun k_i_Pkg_copied_X Try.f147 s_i_Pkg_copied_X = some p_i_Pkg_copied_X := by kernel_rfl
theorem F_i_Pkg_copied_X {W : Wld} {ins outs : List (List D)} (h : pwp (FunOk PP W) p_i_Pkg_copied_X (RetIs outs) (envL ins)) : FunOk PP W n_i_Pkg_copied s_i_Pkg_copied_X ins outs := fun_ok (C := k_i_Pkg_copied_X) (cfg_ok rfl) (eq_ok rfl rfl) mixed Try.func147 (by kernel_rfl) (by kernel_rfl) c_i_Pkg_copied_X h

end V
end Go.Proofs.Ytgialjcichiaoaa

/-
Plain proofs: what functions of the library do.
-/
namespace Go.Proofs.Ytgialjcichiaoaa
namespace V
set_option maxRecDepth 100000
variable {W : Wld}

theorem clone_pwp {Φ : Ask} {α : Type} {enc : α → List D} (l : List α) (hl : l.length ≤ lim) (sz : Nat) (hz : ∀ x, (enc x).length = sz) (hs : ∀ x, (enc x).all isScal = true) (z : List D) :
  pwp Φ (.ss [.mv 2 (.c (.sl []))]) (fun x e => x = .normal ∧ ∃ e1 xs, PRel Φ (.mv 3 (.t 0)) e e1 ∧ e1 3 = [.sl xs] ∧ ∀ b, (b = true → xs = []) →
   pwp Φ (.cond (.t 4) (.seq (.ss [.mv 2 (.c (.sl []))]) (.ret [2])) .skip) (PX.then (pwp Φ (.seq (.ss [.lit 5 0 z [], .mv 6 (.t 0), .app 7 sz true (.t 5) (.t 6), .mv 2 (.t 7)]) (.ret [2])) (RetIs [[.sl (l.map enc)]])) (RetIs [[.sl (l.map enc)]])) (put e1 4 [.bool b])) (envL [[.sl (l.map enc)]]) := by
 refine ⟨_, ⟨_, rfl, rfl⟩, rfl, _, l.map enc, rfl, rfl, fun b hb => ?_⟩
 cases b with
 | true =>
  refine .inl ⟨rfl, _, ⟨_, rfl, rfl⟩, ?_⟩
  show ([[D.sl []]] : List (List D)) = [[.sl (l.map enc)]]
  rw [hb rfl]
 | false =>
  have happ : ∀ e : Env, e 5 = [.sl []] → e 6 = [.sl (l.map enc)] → pstep (.app 7 sz true (.t 5) (.t 6)) e = some (put e 7 [.sl (l.map enc)]) := fun e h5 h6 => by
   have h5' : (Opd.t 5).get e = [.sl []] := h5
   have h6' : (Opd.t 6).get e = [.sl (l.map enc)] := h6
   simp only [pstep, h5', h6', List.nil_append]
   refine if_pos ⟨by simpa using hl, fun x hx => ?_, fun _ y hy => ?_⟩
   ·obtain ⟨w, _, rfl⟩ := List.mem_map.1 hx
    exact hz w
   ·obtain ⟨w, _, rfl⟩ := List.mem_map.1 hy
    exact hs w
  exact .inr ⟨rfl, _, ⟨_, rfl, _, rfl, _, happ _ rfl rfl, _, rfl, rfl⟩, rfl⟩

end V
end Go.Proofs.Ytgialjcichiaoaa

/-
Plain proofs, first part: ranges, files, dependencies, packages.
-/
namespace Go.Proofs.Ytgialjcichiaoaa
namespace V
open Classical
set_option maxRecDepth 100000
variable {W : Wld}

theorem l6In_ok (n lo hi : Int) : FunOk PP W n_s_l6In s_s_l6In [i64 n, i64 lo, i64 hi] [bo (decide (lo ≤ n ∧ n ≤ hi))] := by
 refine F_s_l6In (wq_fun ?_)
 (repeat' first
  | (refine iteB_mk (fun h => ?_) (fun h => ?_) <;> (try simp (disch := omega) only [zA, z13, z19, z20, z21, z22, z23, z24, z25, z31, eqDs, eqD, Nat.reduceAdd, wrap64] at h) <;> (try (exfalso; omega)))
  | (refine Need.mk (by (try simp (disch := omega) only [zA, z13, z19, z20, z21, z22, z23, z24, z25, z31, eqDs, eqD, Nat.reduceAdd, wrap64]); first | exact elp_m (by omega) (by omega) (fun _ => rfl) | exact eld_m (by omega) (by omega) (fun _ => rfl) | exact els_m (by omega) (by omega) (by omega) rfl | exact lsl_m (by omega) (fun _ => rfl) | exact app_nil_m (by omega) (fun _ => rfl) (fun _ => rfl) | exact app_m_one (by omega) (fun _ => rfl) rfl rfl | exact app_m_m (by omega) (fun _ => rfl) (fun _ => rfl)) ?_)
  | (refine Need.mk ?_ ?_)
  | refine rb ?_
  | refine ri ?_
  | refine rs2 ?_ ?_
  | refine rs1 ?_)
 ·simp_all
 ·exact fD (by omega)

theorem in_ok (n lo hi : Int) : FunOk PP W n_i_in s_i_in [i64 n, i64 lo, i64 hi] [bo (decide (lo ≤ n ∧ n ≤ hi))] := by
 refine F_i_in (wq_fun ?_)
 (repeat' first
  | (refine iteB_mk (fun h => ?_) (fun h => ?_) <;> (try simp (disch := omega) only [zA, z13, z19, z20, z21, z22, z23, z24, z25, z31, eqDs, eqD, Nat.reduceAdd, wrap64] at h) <;> (try (exfalso; omega)))
  | (refine Need.mk (by (try simp (disch := omega) only [zA, z13, z19, z20, z21, z22, z23, z24, z25, z31, eqDs, eqD, Nat.reduceAdd, wrap64]); first | exact elp_m (by omega) (by omega) (fun _ => rfl) | exact eld_m (by omega) (by omega) (fun _ => rfl) | exact els_m (by omega) (by omega) (by omega) rfl | exact lsl_m (by omega) (fun _ => rfl) | exact app_nil_m (by omega) (fun _ => rfl) (fun _ => rfl) | exact app_m_one (by omega) (fun _ => rfl) rfl rfl | exact app_m_m (by omega) (fun _ => rfl) (fun _ => rfl)) ?_)
  | (refine Need.mk ?_ ?_)
  | refine rb ?_
  | refine ri ?_
  | refine rs2 ?_ ?_
  | refine rs1 ?_)
 ·simp_all
 ·exact fD (by omega)

theorem isName_ok (n : Int) : FunOk PP W n_i_isName s_i_isName [i64 n] [bo (decide (1 ≤ n ∧ n ≤ 4))] := by
 refine F_i_isName (wq_fun ?_)
 (repeat' first
  | (refine iteB_mk (fun h => ?_) (fun h => ?_) <;> (try simp (disch := omega) only [zA, z13, z19, z20, z21, z22, z23, z24, z25, z31, eqDs, eqD, Nat.reduceAdd, wrap64] at h) <;> (try (exfalso; omega)))
  | (refine Need.mk (by (try simp (disch := omega) only [zA, z13, z19, z20, z21, z22, z23, z24, z25, z31, eqDs, eqD, Nat.reduceAdd, wrap64]); first | exact elp_m (by omega) (by omega) (fun _ => rfl) | exact eld_m (by omega) (by omega) (fun _ => rfl) | exact els_m (by omega) (by omega) (by omega) rfl | exact lsl_m (by omega) (fun _ => rfl) | exact app_nil_m (by omega) (fun _ => rfl) (fun _ => rfl) | exact app_m_one (by omega) (fun _ => rfl) rfl rfl | exact app_m_m (by omega) (fun _ => rfl) (fun _ => rfl)) ?_)
  | (refine call_mk (in_ok ..) rfl ?_)
  | (refine Need.mk ?_ ?_)
  | refine rb ?_
  | refine ri ?_
  | refine rs2 ?_ ?_
  | refine rs1 ?_)
 rfl
theorem isVer_ok (n : Int) : FunOk PP W n_i_isVer s_i_isVer [i64 n] [bo (decide (1 ≤ n ∧ n ≤ 5))] := by
 refine F_i_isVer (wq_fun ?_)
 (repeat' first
  | (refine iteB_mk (fun h => ?_) (fun h => ?_) <;> (try simp (disch := omega) only [zA, z13, z19, z20, z21, z22, z23, z24, z25, z31, eqDs, eqD, Nat.reduceAdd, wrap64] at h) <;> (try (exfalso; omega)))
  | (refine Need.mk (by (try simp (disch := omega) only [zA, z13, z19, z20, z21, z22, z23, z24, z25, z31, eqDs, eqD, Nat.reduceAdd, wrap64]); first | exact elp_m (by omega) (by omega) (fun _ => rfl) | exact eld_m (by omega) (by omega) (fun _ => rfl) | exact els_m (by omega) (by omega) (by omega) rfl | exact lsl_m (by omega) (fun _ => rfl) | exact app_nil_m (by omega) (fun _ => rfl) (fun _ => rfl) | exact app_m_one (by omega) (fun _ => rfl) rfl rfl | exact app_m_m (by omega) (fun _ => rfl) (fun _ => rfl)) ?_)
  | (refine call_mk (in_ok ..) rfl ?_)
  | (refine Need.mk ?_ ?_)
  | refine rb ?_
  | refine ri ?_
  | refine rs2 ?_ ?_
  | refine rs1 ?_)
 rfl

def FileAt (fs : List P2) (i : Int) : Prop := (0 ≤ (ix fs i).a ∧ (ix fs i).a ≤ 5) ∧ (0 ≤ (ix fs i).b ∧ (ix fs i).b ≤ 9) ∧ (0 < i → (ix fs (i - 1)).a < (ix fs i).a)
def FilesOk (fs : List P2) : Prop := Blw fs.length (FileAt fs) ∧ (fs.length : Int) ≤ 2
def DepAt (name : Int) (fs : List P2) (i : Int) : Prop := (1 ≤ (ix fs i).a ∧ (ix fs i).a ≤ 4) ∧ (ix fs i).a ≠ name ∧ (1 ≤ (ix fs i).b ∧ (ix fs i).b ≤ 5) ∧ (0 < i → (ix fs (i - 1)).a < (ix fs i).a)
def DepsOk (name : Int) (fs : List P2) : Prop := Blw fs.length (DepAt name fs) ∧ (fs.length : Int) ≤ 2
def PkOk (p : Pk) : Prop := (1 ≤ p.name ∧ p.name ≤ 4) ∧ (1 ≤ p.ver ∧ p.ver ≤ 5) ∧ FilesOk p.files ∧ DepsOk p.name p.deps
def SmP (p : Pk) : Prop := p.files.length ≤ lim ∧ p.deps.length ≤ lim

theorem l1Files_ok (fs : List P2) (hl : fs.length ≤ lim) : FunOk PP W n_s_l1Files s_s_l1Files [eP2s fs] [bo (decide (FilesOk fs))] := by
 refine F_s_l1Files (wq_fun ?_)
 unfold lim at hl
 refine loop_mk (fun i : Int => 0 ≤ i ∧ i ≤ fs.length ∧ Blw i (FileAt fs)) (fun i => [(3, i64 i), (0, eP2s fs)]) (fun i => (fs.length - i).toNat) 0 ⟨by omega, by omega, blw_zero _⟩ ⟨rfl, rfl, trivial⟩ ?_
 rintro i e ⟨h0, hN, hP⟩
 (repeat' first
  | (refine iteB_mk (fun h => ?_) (fun h => ?_) <;> (try simp (disch := omega) only [zA, z13, z19, z20, z21, z22, z23, z24, z25, z31, eqDs, eqD, Nat.reduceAdd, wrap64] at h) <;> (try (exfalso; omega)))
  | (refine Need.mk (by (try simp (disch := omega) only [zA, z13, z19, z20, z21, z22, z23, z24, z25, z31, eqDs, eqD, Nat.reduceAdd, wrap64]); first | exact elp_m (by omega) (by omega) (fun _ => rfl) | exact eld_m (by omega) (by omega) (fun _ => rfl) | exact els_m (by omega) (by omega) (by omega) rfl | exact lsl_m (by omega) (fun _ => rfl) | exact app_nil_m (by omega) (fun _ => rfl) (fun _ => rfl) | exact app_m_one (by omega) (fun _ => rfl) rfl rfl | exact app_m_m (by omega) (fun _ => rfl) (fun _ => rfl)) ?_)
  | (refine call_mk (l6In_ok ..) rfl ?_)
  | (refine Exists.intro (i + 1) ⟨by omega, ⟨by omega, by omega, blw_succ hP ?_⟩, i64_eq (wrap64 _ (by omega)), rfl, trivial⟩)
  | (refine Need.mk ?_ ?_)
  | refine rb ?_
  | refine ri ?_
  | refine rs2 ?_ ?_
  | refine rs1 ?_)
 ·exact fD (fun ⟨h, _⟩ => by have := h i (by omega) (by omega); unfold FileAt at this; omega)
 ·exact fD (fun ⟨h, _⟩ => by have := h i (by omega) (by omega); unfold FileAt at this; omega)
 ·exact fD (fun ⟨h, _⟩ => by have := h i (by omega) (by omega); unfold FileAt at this; omega)
 ·unfold FileAt; omega
 ·unfold FileAt; omega
 ·simp only [List.length_map]
  congr 1
  simp only [FilesOk, eq_iff_iff]
  exact ⟨fun h1 => ⟨blw_to hP (by omega), h1⟩, fun h => h.2⟩

theorem l1Deps_ok (name : Int) (fs : List P2) (hl : fs.length ≤ lim) : FunOk PP W n_s_l1Deps s_s_l1Deps [i64 name, eP2s fs] [bo (decide (DepsOk name fs))] := by
 refine F_s_l1Deps (wq_fun ?_)
 unfold lim at hl
 refine loop_mk (fun i : Int => 0 ≤ i ∧ i ≤ fs.length ∧ Blw i (DepAt name fs)) (fun i => [(5, i64 i), (1, eP2s fs), (0, i64 name)]) (fun i => (fs.length - i).toNat) 0 ⟨by omega, by omega, blw_zero _⟩ ⟨rfl, rfl, rfl, trivial⟩ ?_
 rintro i e ⟨h0, hN, hP⟩
 (repeat' first
  | (refine iteB_mk (fun h => ?_) (fun h => ?_) <;> (try simp (disch := omega) only [zA, z13, z19, z20, z21, z22, z23, z24, z25, z31, eqDs, eqD, Nat.reduceAdd, wrap64] at h) <;> (try (exfalso; omega)))
  | (refine Need.mk (by (try simp (disch := omega) only [zA, z13, z19, z20, z21, z22, z23, z24, z25, z31, eqDs, eqD, Nat.reduceAdd, wrap64]); first | exact elp_m (by omega) (by omega) (fun _ => rfl) | exact eld_m (by omega) (by omega) (fun _ => rfl) | exact els_m (by omega) (by omega) (by omega) rfl | exact lsl_m (by omega) (fun _ => rfl) | exact app_nil_m (by omega) (fun _ => rfl) (fun _ => rfl) | exact app_m_one (by omega) (fun _ => rfl) rfl rfl | exact app_m_m (by omega) (fun _ => rfl) (fun _ => rfl)) ?_)
  | (refine call_mk (l6In_ok ..) rfl ?_)
  | (refine Exists.intro (i + 1) ⟨by omega, ⟨by omega, by omega, blw_succ hP ?_⟩, i64_eq (wrap64 _ (by omega)), rfl, rfl, trivial⟩)
  | (refine Need.mk ?_ ?_)
  | refine rb ?_
  | refine ri ?_
  | refine rs2 ?_ ?_
  | refine rs1 ?_)
 ·exact fD (fun ⟨h, _⟩ => by have := h i (by omega) (by omega); unfold DepAt at this; omega)
 ·exact fD (fun ⟨h, _⟩ => by have := h i (by omega) (by omega); unfold DepAt at this; omega)
 ·exact fD (fun ⟨h, _⟩ => by have := h i (by omega) (by omega); unfold DepAt at this; omega)
 ·exact fD (fun ⟨h, _⟩ => by have := h i (by omega) (by omega); unfold DepAt at this; omega)
 ·unfold DepAt; omega
 ·unfold DepAt; omega
 ·simp only [List.length_map]
  congr 1
  simp only [DepsOk, eq_iff_iff]
  exact ⟨fun h1 => ⟨blw_to hP (by omega), h1⟩, fun h => h.2⟩

theorem sPkgOk_ok (p : Pk) (hs : SmP p) : FunOk PP W n_s_PkgOk s_s_PkgOk [ePk p] [bo (decide (PkOk p))] := by
 refine F_s_PkgOk (wq_fun ?_)
 (repeat' first
  | (refine iteB_mk (fun h => ?_) (fun h => ?_) <;> (try simp (disch := omega) only [zA, z13, z19, z20, z21, z22, z23, z24, z25, z31, eqDs, eqD, Nat.reduceAdd, wrap64] at h) <;> (try (exfalso; omega)))
  | (refine Need.mk (by (try simp (disch := omega) only [zA, z13, z19, z20, z21, z22, z23, z24, z25, z31, eqDs, eqD, Nat.reduceAdd, wrap64]); first | exact elp_m (by omega) (by omega) (fun _ => rfl) | exact eld_m (by omega) (by omega) (fun _ => rfl) | exact els_m (by omega) (by omega) (by omega) rfl | exact lsl_m (by omega) (fun _ => rfl) | exact app_nil_m (by omega) (fun _ => rfl) (fun _ => rfl) | exact app_m_one (by omega) (fun _ => rfl) rfl rfl | exact app_m_m (by omega) (fun _ => rfl) (fun _ => rfl)) ?_)
  | (refine call_mk (l6In_ok ..) rfl ?_)
  | (refine call_mk (l1Files_ok p.files hs.1) rfl ?_)
  | (refine call_mk (l1Deps_ok p.name p.deps hs.2) rfl ?_)
  | (refine Need.mk ?_ ?_)
  | refine rb ?_
  | refine ri ?_
  | refine rs2 ?_ ?_
  | refine rs1 ?_)
 ·congr 1
  simp only [PkOk, eq_iff_iff]
  exact ⟨fun h => ⟨by assumption, by assumption, by assumption, h⟩, fun h => h.2.2.2⟩
 ·exact fD (fun h => absurd h.2.2.1 (by assumption))
 ·exact fD (fun h => absurd h.2.1 (by assumption))
 ·exact fD (fun h => absurd h.1 (by assumption))

end V
end Go.Proofs.Ytgialjcichiaoaa

/-
Plain proofs, first part: ranges, files, dependencies, packages.
-/
namespace Go.Proofs.Ytgialjcichiaoaa
namespace V
open Classical
set_option maxRecDepth 100000
variable {W : Wld}

theorem l3Less_ok (n v m w : Int) : FunOk PP W n_s_l3Less s_s_l3Less [i64 n, i64 v, i64 m, i64 w] [bo (decide (n < m ∨ (n = m ∧ v < w)))] := by
 refine F_s_l3Less (wq_fun ?_)
 (repeat' first
  | (refine iteB_mk (fun h => ?_) (fun h => ?_) <;> (try simp (disch := omega) only [zA, z13, z19, z20, z21, z22, z23, z24, z25, z31, eqDs, eqD, Nat.reduceAdd, wrap64] at h) <;> (try (exfalso; omega)))
  | (refine Need.mk (by (try simp (disch := omega) only [zA, z13, z19, z20, z21, z22, z23, z24, z25, z31, eqDs, eqD, Nat.reduceAdd, wrap64]); first | exact elp_m (by omega) (by omega) (fun _ => rfl) | exact eld_m (by omega) (by omega) (fun _ => rfl) | exact els_m (by omega) (by omega) (by omega) rfl | exact lsl_m (by omega) (fun _ => rfl) | exact app_nil_m (by omega) (fun _ => rfl) (fun _ => rfl) | exact app_m_one (by omega) (fun _ => rfl) rfl rfl | exact app_m_m (by omega) (fun _ => rfl) (fun _ => rfl)) ?_)
  | (refine Need.mk ?_ ?_)
  | refine rb ?_
  | refine ri ?_
  | refine rs2 ?_ ?_
  | refine rs1 ?_)
 all_goals simp_all

def lessM (p q : Pk) : Prop := p.name < q.name ∨ (p.name = q.name ∧ p.ver < q.ver)
def PkAt (ps : List Pk) (i : Int) : Prop := PkOk (ix ps i) ∧ (0 < i → lessM (ix ps (i - 1)) (ix ps i))
def PksOk (ps : List Pk) : Prop := Blw ps.length (PkAt ps)
def SmPs (ps : List Pk) : Prop := ps.length ≤ lim ∧ ∀ p ∈ ps, SmP p
theorem smPs_ix {ps : List Pk} (h : SmPs ps) {i : Int} (h0 : 0 ≤ i) (h1 : i < ps.length) : SmP (ix ps i) := h.2 _ (ix_mem h0 h1)

theorem l3Pkgs_ok (ps : List Pk) (hs : SmPs ps) : FunOk PP W n_s_l3Pkgs s_s_l3Pkgs [ePks ps] [bo (decide (PksOk ps))] := by
 refine F_s_l3Pkgs (wq_fun ?_)
 have hl := hs.1
 unfold lim at hl
 refine loop_mk (fun i : Int => 0 ≤ i ∧ i ≤ ps.length ∧ Blw i (PkAt ps)) (fun i => [(3, i64 i), (0, ePks ps)]) (fun i => (ps.length - i).toNat) 0 ⟨by omega, by omega, blw_zero _⟩ ⟨rfl, rfl, trivial⟩ ?_
 rintro i e ⟨h0, hN, hP⟩
 (repeat' first
  | (refine iteB_mk (fun h => ?_) (fun h => ?_) <;> (try simp (disch := omega) only [zA, z13, z19, z20, z21, z22, z23, z24, z25, z31, eqDs, eqD, Nat.reduceAdd, wrap64] at h) <;> (try (exfalso; omega)))
  | (refine Need.mk (by (try simp (disch := omega) only [zA, z13, z19, z20, z21, z22, z23, z24, z25, z31, eqDs, eqD, Nat.reduceAdd, wrap64]); first | exact elp_m (by omega) (by omega) (fun _ => rfl) | exact eld_m (by omega) (by omega) (fun _ => rfl) | exact els_m (by omega) (by omega) (by omega) rfl | exact lsl_m (by omega) (fun _ => rfl) | exact app_nil_m (by omega) (fun _ => rfl) (fun _ => rfl) | exact app_m_one (by omega) (fun _ => rfl) rfl rfl | exact app_m_m (by omega) (fun _ => rfl) (fun _ => rfl)) ?_)
  | (refine call_mk2 (sPkgOk_ok (ix ps i) (smPs_ix hs (by omega) (by omega))) (by simp (disch := omega) only [zA, z13, z19, z20, z21, z22, z23, z24, z25, z31, eqDs, eqD, Nat.reduceAdd, wrap64]) rfl ?_)
  | (refine call_mk2 (l3Less_ok (ix ps (i - 1)).name (ix ps (i - 1)).ver (ix ps i).name (ix ps i).ver) (by simp (disch := omega) only [zA, z13, z19, z20, z21, z22, z23, z24, z25, z31, eqDs, eqD, Nat.reduceAdd, wrap64]) rfl ?_)
  | (refine Exists.intro (i + 1) ⟨by omega, ⟨by omega, by omega, blw_succ hP ?_⟩, i64_eq (wrap64 _ (by omega)), rfl, trivial⟩)
  | (refine Need.mk ?_ ?_)
  | refine rb ?_
  | refine ri ?_
  | refine rs2 ?_ ?_
  | refine rs1 ?_)
 ·exact fD (fun h => absurd (h i (by omega) (by omega)).1 (by assumption))
 ·exact fD (fun h => absurd ((h i (by omega) (by omega)).2 (by assumption)) (by assumption))
 ·exact ⟨by assumption, fun _ => by assumption⟩
 ·exact ⟨by assumption, fun h => absurd h (by assumption)⟩
 ·exact tD (blw_to hP (by omega))

theorem sStoreOk_ok (ps : List Pk) (hs : SmPs ps) : FunOk PP W n_s_StoreOk s_s_StoreOk [ePks ps] [bo (decide (PksOk ps))] := by
 refine F_s_StoreOk (wq_fun ?_)
 (repeat' first
  | (refine iteB_mk (fun h => ?_) (fun h => ?_) <;> (try simp (disch := omega) only [zA, z13, z19, z20, z21, z22, z23, z24, z25, z31, eqDs, eqD, Nat.reduceAdd, wrap64] at h) <;> (try (exfalso; omega)))
  | (refine Need.mk (by (try simp (disch := omega) only [zA, z13, z19, z20, z21, z22, z23, z24, z25, z31, eqDs, eqD, Nat.reduceAdd, wrap64]); first | exact elp_m (by omega) (by omega) (fun _ => rfl) | exact eld_m (by omega) (by omega) (fun _ => rfl) | exact els_m (by omega) (by omega) (by omega) rfl | exact lsl_m (by omega) (fun _ => rfl) | exact app_nil_m (by omega) (fun _ => rfl) (fun _ => rfl) | exact app_m_one (by omega) (fun _ => rfl) rfl rfl | exact app_m_m (by omega) (fun _ => rfl) (fun _ => rfl)) ?_)
  | (refine call_mk (l3Pkgs_ok ps hs) rfl ?_)
  | (refine Need.mk ?_ ?_)
  | refine rb ?_
  | refine ri ?_
  | refine rs2 ?_ ?_
  | refine rs1 ?_)
 rfl
end V
end Go.Proofs.Ytgialjcichiaoaa

/-
Plain proofs: what a plan asks of packages.
-/
namespace Go.Proofs.Ytgialjcichiaoaa
namespace V
open Classical
set_option maxRecDepth 100000
variable {W : Wld}

def OneM (ps : List Pk) : Prop := ∀ i : Int, 1 ≤ i → i < ps.length → (ix ps (i - 1)).name < (ix ps i).name

theorem l13One_ok (ps : List Pk) (hl : ps.length ≤ lim) : FunOk PP W n_s_l13One s_s_l13One [ePks ps] [bo (decide (OneM ps))] := by
 refine F_s_l13One (wq_fun ?_)
 unfold lim at hl
 refine loop_mk (fun i : Int => 1 ≤ i ∧ (i = 1 ∨ i ≤ ps.length) ∧ ∀ j : Int, 1 ≤ j → j < i → (ix ps (j - 1)).name < (ix ps j).name) (fun i => [(3, i64 i), (0, ePks ps)]) (fun i => (ps.length - i).toNat) 1 ⟨by omega, by omega, fun j h1 h2 => by omega⟩ ⟨rfl, rfl, trivial⟩ ?_
 rintro i e ⟨h0, hN, hP⟩
 (repeat' first
  | (refine iteB_mk (fun h => ?_) (fun h => ?_) <;> (try simp (disch := omega) only [zA, z13, z19, z20, z21, z22, z23, z24, z25, z31, eqDs, eqD, Nat.reduceAdd, wrap64] at h) <;> (try (exfalso; omega)))
  | (refine Need.mk (by (try simp (disch := omega) only [zA, z13, z19, z20, z21, z22, z23, z24, z25, z31, eqDs, eqD, Nat.reduceAdd, wrap64]); first | exact elp_m (by omega) (by omega) (fun _ => rfl) | exact eld_m (by omega) (by omega) (fun _ => rfl) | exact els_m (by omega) (by omega) (by omega) rfl | exact lsl_m (by omega) (fun _ => rfl) | exact app_nil_m (by omega) (fun _ => rfl) (fun _ => rfl) | exact app_m_one (by omega) (fun _ => rfl) rfl rfl | exact app_m_m (by omega) (fun _ => rfl) (fun _ => rfl)) ?_)
  | (refine Exists.intro (i + 1) ⟨by omega, ⟨by omega, by omega, fun j h1 h2 => ?_⟩, i64_eq (wrap64 _ (by omega)), rfl, trivial⟩)
  | (refine Need.mk ?_ ?_)
  | refine rb ?_
  | refine ri ?_
  | refine rs2 ?_ ?_
  | refine rs1 ?_)
 ·exact fD (fun h => by have := h i (by omega) (by omega); omega)
 ·by_cases hj : j = i
  ·subst hj; omega
  ·exact hP j h1 (by omega)
 ·exact tD (fun j h1 h2 => hP j h1 (by omega))

def hasP (p : Pk) (path : Int) : Prop := ∃ k : Int, 0 ≤ k ∧ k < p.files.length ∧ (ix p.files k).a = path
noncomputable def ownerF (ps : List Pk) (path : Int) : Nat → Int → Int
 | 0, _ => -1
 | n + 1, i => if hasP (ix ps i) path then i else ownerF ps path n (i + 1)

theorem l13Owner_ok (ps : List Pk) (hs : SmPs ps) (b path : Int) (hb0 : 0 ≤ b) (hb : b ≤ ps.length) : FunOk PP W n_s_l13Owner s_s_l13Owner [ePks ps, i64 b, i64 path] [i64 (ownerF ps path b.toNat 0)] := by
 refine F_s_l13Owner (wq_fun ?_)
 have hl := hs.1
 unfold lim at hl
 refine loop_mk (fun i : Int => 0 ≤ i ∧ i ≤ b ∧ ownerF ps path b.toNat 0 = ownerF ps path (b - i).toNat i) (fun i => [(7, i64 i), (0, ePks ps), (1, i64 b), (2, i64 path)]) (fun i => (b - i).toNat) 0 ⟨by omega, by omega, by simp⟩ ⟨rfl, rfl, rfl, rfl, trivial⟩ ?_
 rintro i e ⟨h0, hN, hP⟩
 (repeat' first
  | (refine iteB_mk (fun h => ?_) (fun h => ?_) <;> (try simp (disch := omega) only [zA, z13, z19, z20, z21, z22, z23, z24, z25, z31, eqDs, eqD, Nat.reduceAdd, wrap64] at h) <;> (try (exfalso; omega)))
  | (refine Need.mk (by (try simp (disch := omega) only [zA, z13, z19, z20, z21, z22, z23, z24, z25, z31, eqDs, eqD, Nat.reduceAdd, wrap64]); first | exact elp_m (by omega) (by omega) (fun _ => rfl) | exact eld_m (by omega) (by omega) (fun _ => rfl) | exact els_m (by omega) (by omega) (by omega) rfl | exact lsl_m (by omega) (fun _ => rfl) | exact app_nil_m (by omega) (fun _ => rfl) (fun _ => rfl) | exact app_m_one (by omega) (fun _ => rfl) rfl rfl | exact app_m_m (by omega) (fun _ => rfl) (fun _ => rfl)) ?_)
  | (refine Need.mk ?_ ?_)
  | refine rb ?_
  | refine ri ?_
  | refine rs2 ?_ ?_
  | refine rs1 ?_)
 ·have hf := (smPs_ix hs h0 (by omega)).1
  unfold lim at hf
  have hn : (b - i).toNat = (b - (i + 1)).toNat + 1 := by omega
  rw [hn, ownerF] at hP
  refine loop_mk (fun k : Int => 0 ≤ k ∧ k ≤ (ix ps i).files.length ∧ Blw k (fun j => (ix (ix ps i).files j).a ≠ path)) (fun k => [(8, i64 k), (7, i64 i), (0, ePks ps), (1, i64 b), (2, i64 path)]) (fun k => ((ix ps i).files.length - k).toNat) 0 ⟨by omega, by omega, blw_zero _⟩ ⟨rfl, rfl, rfl, rfl, rfl, trivial⟩ ?_
  rintro k e ⟨k0, kN, kP⟩
  (repeat' first
  | (refine iteB_mk (fun h => ?_) (fun h => ?_) <;> (try simp (disch := omega) only [zA, z13, z19, z20, z21, z22, z23, z24, z25, z31, eqDs, eqD, Nat.reduceAdd, wrap64] at h) <;> (try (exfalso; omega)))
  | (refine Need.mk (by (try simp (disch := omega) only [zA, z13, z19, z20, z21, z22, z23, z24, z25, z31, eqDs, eqD, Nat.reduceAdd, wrap64]); first | exact elp_m (by omega) (by omega) (fun _ => rfl) | exact eld_m (by omega) (by omega) (fun _ => rfl) | exact els_m (by omega) (by omega) (by omega) rfl | exact lsl_m (by omega) (fun _ => rfl) | exact app_nil_m (by omega) (fun _ => rfl) (fun _ => rfl) | exact app_m_one (by omega) (fun _ => rfl) rfl rfl | exact app_m_m (by omega) (fun _ => rfl) (fun _ => rfl)) ?_)
  | (refine Exists.intro (k + 1) ⟨by omega, ⟨by omega, by omega, blw_succ kP (by assumption)⟩, i64_eq (wrap64 _ (by omega)), rfl, rfl, rfl, rfl, trivial⟩)
  | (refine Exists.intro (i + 1) ⟨by omega, ⟨by omega, by omega, ?_⟩, i64_eq (wrap64 _ (by omega)), rfl, rfl, rfl, trivial⟩)
  | (refine Need.mk ?_ ?_)
  | refine rb ?_
  | refine ri ?_
  | refine rs2 ?_ ?_
  | refine rs1 ?_)
  ·rw [hP, if_pos ⟨k, k0, by omega, by assumption⟩]
  ·rw [hP, if_neg]
   rintro ⟨j, j0, j1, j2⟩
   exact kP j j0 (by omega) j2
 ·have hn : (b - i).toNat = 0 := by omega
  rw [hP, hn, ownerF]

theorem l12PkgCopy_ok (p : Pk) (hs : SmP p) : FunOk PP W n_s_l12PkgCopy s_s_l12PkgCopy [ePk p] [ePk p] := by
 refine F_s_l12PkgCopy (wq_fun ?_)
 obtain ⟨h1, h2⟩ := hs
 unfold lim at h1 h2
 (repeat' first
  | (refine iteB_mk (fun h => ?_) (fun h => ?_) <;> (try simp (disch := omega) only [zA, z13, z19, z20, z21, z22, z23, z24, z25, z31, eqDs, eqD, Nat.reduceAdd, wrap64] at h) <;> (try (exfalso; omega)))
  | (refine Need.mk (by (try simp (disch := omega) only [zA, z13, z19, z20, z21, z22, z23, z24, z25, z31, eqDs, eqD, Nat.reduceAdd, wrap64]); first | exact elp_m (by omega) (by omega) (fun _ => rfl) | exact eld_m (by omega) (by omega) (fun _ => rfl) | exact els_m (by omega) (by omega) (by omega) rfl | exact lsl_m (by omega) (fun _ => rfl) | exact app_nil_m (by omega) (fun _ => rfl) (fun _ => rfl) | exact app_m_one (by omega) (fun _ => rfl) rfl rfl | exact app_m_m (by omega) (fun _ => rfl) (fun _ => rfl)) ?_)
  | (refine Need.mk ?_ ?_)
  | refine rb ?_
  | refine ri ?_
  | refine rs2 ?_ ?_
  | refine rs1 ?_)
 rfl

noncomputable def lastI (ps : List Pk) (name : Int) : Nat → Int
 | 0 => -1
 | n + 1 => if (ix ps n).name = name then n else lastI ps name n
noncomputable def newI (ps : List Pk) (name : Int) : Int := lastI ps name ps.length
noncomputable def newP (ps : List Pk) (name : Int) : Pk := if 0 ≤ newI ps name then ix ps (newI ps name) else default

theorem l12Newest_ok (ps : List Pk) (hs : SmPs ps) (name : Int) : FunOk PP W n_s_l12Newest s_s_l12Newest [ePks ps, i64 name] [ePk (newP ps name), bo (decide (0 ≤ newI ps name))] := by
 refine F_s_l12Newest (wq_fun ?_)
 have hl := hs.1
 unfold lim at hl
 refine loop_mk (fun i : Int => -1 ≤ i ∧ i < ps.length ∧ newI ps name = lastI ps name (i + 1).toNat) (fun i => [(6, i64 i), (0, ePks ps), (1, i64 name), (4, ePk default)]) (fun i => (i + 1).toNat) (ps.length - 1) ⟨by omega, by omega, by rw [show (((ps.length : Int) - 1 + 1).toNat) = ps.length by omega]; rfl⟩ ⟨by simp only [List.length_map]; exact i64_eq (wrap64 _ (by omega)), rfl, rfl, rfl, trivial⟩ ?_
 rintro i e ⟨h0, hN, hP⟩
 (repeat' first
  | (refine iteB_mk (fun h => ?_) (fun h => ?_) <;> (try simp (disch := omega) only [zA, z13, z19, z20, z21, z22, z23, z24, z25, z31, eqDs, eqD, Nat.reduceAdd, wrap64] at h) <;> (try (exfalso; omega)))
  | (refine Need.mk (by (try simp (disch := omega) only [zA, z13, z19, z20, z21, z22, z23, z24, z25, z31, eqDs, eqD, Nat.reduceAdd, wrap64]); first | exact elp_m (by omega) (by omega) (fun _ => rfl) | exact eld_m (by omega) (by omega) (fun _ => rfl) | exact els_m (by omega) (by omega) (by omega) rfl | exact lsl_m (by omega) (fun _ => rfl) | exact app_nil_m (by omega) (fun _ => rfl) (fun _ => rfl) | exact app_m_one (by omega) (fun _ => rfl) rfl rfl | exact app_m_m (by omega) (fun _ => rfl) (fun _ => rfl)) ?_)
  | (refine call_mk2 (l12PkgCopy_ok (ix ps i) (smPs_ix hs (by omega) (by omega))) (by simp (disch := omega) only [zA, z13, z19, z20, z21, z22, z23, z24, z25, z31, eqDs, eqD, Nat.reduceAdd, wrap64]) rfl ?_)
  | (refine Exists.intro (i - 1) ⟨by omega, ⟨by omega, by omega, ?_⟩, i64_eq (wrap64 _ (by omega)), rfl, rfl, rfl, trivial⟩)
  | (refine Need.mk ?_ ?_)
  | refine rb ?_
  | refine ri ?_
  | refine rs2 ?_ ?_
  | refine rs1 ?_)
 ·have hn : newI ps name = i := by rw [hP, show (i + 1).toNat = i.toNat + 1 by omega, lastI, if_pos]; omega; rw [show ((i.toNat : Nat) : Int) = i by omega]; assumption
  unfold newP
  rw [hn, if_pos (by omega)]
 ·have hn : newI ps name = i := by rw [hP, show (i + 1).toNat = i.toNat + 1 by omega, lastI, if_pos]; omega; rw [show ((i.toNat : Nat) : Int) = i by omega]; assumption
  exact bo_eq (tD (by omega))
 ·rw [hP, show (i + 1).toNat = i.toNat + 1 by omega, lastI, if_neg (by rw [show ((i.toNat : Nat) : Int) = i by omega]; assumption), show (i - 1 + 1).toNat = i.toNat by omega]
 ·have hn : newI ps name = -1 := by rw [hP, show (i + 1).toNat = 0 by omega, lastI]
  unfold newP
  rw [hn, if_neg (by omega)]
  rfl
 ·have hn : newI ps name = -1 := by rw [hP, show (i + 1).toNat = 0 by omega, lastI]
  exact bo_eq (fD (by omega))

def MeetsM (ps : List Pk) (d : P2) : Prop := 0 ≤ newI ps d.a ∧ d.b ≤ (newP ps d.a).ver
theorem l13Meets_ok (ps : List Pk) (hs : SmPs ps) (d : P2) : FunOk PP W n_s_l13Meets s_s_l13Meets [ePks ps, eP2 d] [bo (decide (MeetsM ps d))] := by
 refine F_s_l13Meets (wq_fun ?_)
 (repeat' first
  | (refine iteB_mk (fun h => ?_) (fun h => ?_) <;> (try simp (disch := omega) only [zA, z13, z19, z20, z21, z22, z23, z24, z25, z31, eqDs, eqD, Nat.reduceAdd, wrap64] at h) <;> (try (exfalso; omega)))
  | (refine Need.mk (by (try simp (disch := omega) only [zA, z13, z19, z20, z21, z22, z23, z24, z25, z31, eqDs, eqD, Nat.reduceAdd, wrap64]); first | exact elp_m (by omega) (by omega) (fun _ => rfl) | exact eld_m (by omega) (by omega) (fun _ => rfl) | exact els_m (by omega) (by omega) (by omega) rfl | exact lsl_m (by omega) (fun _ => rfl) | exact app_nil_m (by omega) (fun _ => rfl) (fun _ => rfl) | exact app_m_one (by omega) (fun _ => rfl) rfl rfl | exact app_m_m (by omega) (fun _ => rfl) (fun _ => rfl)) ?_)
  | (refine callr_mk (l12Newest_ok ps hs d.a) rfl ?_)
  | (refine Need.mk ?_ ?_)
  | refine rb ?_
  | refine ri ?_
  | refine rs2 ?_ ?_
  | refine rs1 ?_)
 ·congr 1
  simp only [MeetsM, ge_iff_le, eq_iff_iff]
  exact ⟨fun h => ⟨by assumption, h⟩, fun h => h.2⟩
 ·exact fD (fun h => absurd h.1 (by assumption))

def DepsMet (ps : List Pk) (i : Int) : Prop := Blw (ix ps i).deps.length (fun k => MeetsM ps (ix (ix ps i).deps k))
def FilesFree (ps : List Pk) (i : Int) : Prop := Blw (ix ps i).files.length (fun k => ¬ 0 ≤ ownerF ps (ix (ix ps i).files k).a i.toNat 0)
def PlanAt (ps : List Pk) (i : Int) : Prop := DepsMet ps i ∧ FilesFree ps i
def PlanM (ps : List Pk) : Prop := PksOk ps ∧ OneM ps ∧ Blw ps.length (PlanAt ps)

theorem sPlanOk_ok (ps : List Pk) (hs : SmPs ps) : FunOk PP W n_s_PlanOk s_s_PlanOk [ePks ps] [bo (decide (PlanM ps))] := by
 refine F_s_PlanOk (wq_fun ?_)
 have hl := hs.1
 unfold lim at hl
 (repeat' first
  | (refine iteB_mk (fun h => ?_) (fun h => ?_) <;> (try simp (disch := omega) only [zA, z13, z19, z20, z21, z22, z23, z24, z25, z31, eqDs, eqD, Nat.reduceAdd, wrap64] at h) <;> (try (exfalso; omega)))
  | (refine Need.mk (by (try simp (disch := omega) only [zA, z13, z19, z20, z21, z22, z23, z24, z25, z31, eqDs, eqD, Nat.reduceAdd, wrap64]); first | exact elp_m (by omega) (by omega) (fun _ => rfl) | exact eld_m (by omega) (by omega) (fun _ => rfl) | exact els_m (by omega) (by omega) (by omega) rfl | exact lsl_m (by omega) (fun _ => rfl) | exact app_nil_m (by omega) (fun _ => rfl) (fun _ => rfl) | exact app_m_one (by omega) (fun _ => rfl) rfl rfl | exact app_m_m (by omega) (fun _ => rfl) (fun _ => rfl)) ?_)
  | (refine call_mk (sStoreOk_ok ps hs) rfl ?_)
  | (refine call_mk (l13One_ok ps hs.1) rfl ?_)
  | (refine Need.mk ?_ ?_)
  | refine rb ?_
  | refine ri ?_
  | refine rs2 ?_ ?_
  | refine rs1 ?_)
 ·exact fD (fun h => absurd h.1 (by assumption))
 ·exact fD (fun h => absurd h.2.1 (by assumption))
 rename_i q1
 have q2 := h
 clear h
 refine loop_mk (fun i : Int => 0 ≤ i ∧ i ≤ ps.length ∧ Blw i (PlanAt ps)) (fun i => [(3, i64 i), (0, ePks ps)]) (fun i => (ps.length - i).toNat) 0 ⟨by omega, by omega, blw_zero _⟩ ⟨rfl, rfl, trivial⟩ ?_
 rintro i e ⟨h0, hN, hP⟩
 (repeat' first
  | (refine iteB_mk (fun h => ?_) (fun h => ?_) <;> (try simp (disch := omega) only [zA, z13, z19, z20, z21, z22, z23, z24, z25, z31, eqDs, eqD, Nat.reduceAdd, wrap64] at h) <;> (try (exfalso; omega)))
  | (refine Need.mk (by (try simp (disch := omega) only [zA, z13, z19, z20, z21, z22, z23, z24, z25, z31, eqDs, eqD, Nat.reduceAdd, wrap64]); first | exact elp_m (by omega) (by omega) (fun _ => rfl) | exact eld_m (by omega) (by omega) (fun _ => rfl) | exact els_m (by omega) (by omega) (by omega) rfl | exact lsl_m (by omega) (fun _ => rfl) | exact app_nil_m (by omega) (fun _ => rfl) (fun _ => rfl) | exact app_m_one (by omega) (fun _ => rfl) rfl rfl | exact app_m_m (by omega) (fun _ => rfl) (fun _ => rfl)) ?_)
  | (refine Need.mk ?_ ?_)
  | refine rb ?_
  | refine ri ?_
  | refine rs2 ?_ ?_
  | refine rs1 ?_)
 ·have hi := h
  obtain ⟨hf, hd⟩ := smPs_ix hs h0 (by omega)
  unfold lim at hf hd
  refine loop_mk (fun k : Int => 0 ≤ k ∧ k ≤ (ix ps i).deps.length ∧ Blw k (fun k => MeetsM ps (ix (ix ps i).deps k))) (fun k => [(4, i64 k), (3, i64 i), (0, ePks ps)]) (fun k => ((ix ps i).deps.length - k).toNat) 0 ⟨by omega, by omega, blw_zero _⟩ ⟨rfl, rfl, rfl, trivial⟩ ?_
  rintro k e ⟨k0, kN, kP⟩
  (repeat' first
  | (refine iteB_mk (fun h => ?_) (fun h => ?_) <;> (try simp (disch := omega) only [zA, z13, z19, z20, z21, z22, z23, z24, z25, z31, eqDs, eqD, Nat.reduceAdd, wrap64] at h) <;> (try (exfalso; omega)))
  | (refine Need.mk (by (try simp (disch := omega) only [zA, z13, z19, z20, z21, z22, z23, z24, z25, z31, eqDs, eqD, Nat.reduceAdd, wrap64]); first | exact elp_m (by omega) (by omega) (fun _ => rfl) | exact eld_m (by omega) (by omega) (fun _ => rfl) | exact els_m (by omega) (by omega) (by omega) rfl | exact lsl_m (by omega) (fun _ => rfl) | exact app_nil_m (by omega) (fun _ => rfl) (fun _ => rfl) | exact app_m_one (by omega) (fun _ => rfl) rfl rfl | exact app_m_m (by omega) (fun _ => rfl) (fun _ => rfl)) ?_)
  | (refine call_mk2 (l13Meets_ok ps hs (ix (ix ps i).deps k)) (by simp (disch := omega) only [zA, z13, z19, z20, z21, z22, z23, z24, z25, z31, eqDs, eqD, Nat.reduceAdd, wrap64]) rfl ?_)
  | (refine Exists.intro (k + 1) ⟨by omega, ⟨by omega, by omega, blw_succ kP (by assumption)⟩, i64_eq (wrap64 _ (by omega)), rfl, rfl, trivial⟩)
  | (refine Need.mk ?_ ?_)
  | refine rb ?_
  | refine ri ?_
  | refine rs2 ?_ ?_
  | refine rs1 ?_)
  ·exact fD (fun h => absurd ((h.2.2 i h0 hi).1 k k0 (by omega)) (by assumption))
  ·have hD : DepsMet ps i := blw_to kP (by omega)
   clear kP k0 kN h
   refine loop_mk (fun k : Int => 0 ≤ k ∧ k ≤ (ix ps i).files.length ∧ Blw k (fun k => ¬ 0 ≤ ownerF ps (ix (ix ps i).files k).a i.toNat 0)) (fun k => [(5, i64 k), (3, i64 i), (0, ePks ps)]) (fun k => ((ix ps i).files.length - k).toNat) 0 ⟨by omega, by omega, blw_zero _⟩ ⟨rfl, rfl, rfl, trivial⟩ ?_
   rintro k e ⟨k0, kN, kP⟩
   (repeat' first
  | (refine iteB_mk (fun h => ?_) (fun h => ?_) <;> (try simp (disch := omega) only [zA, z13, z19, z20, z21, z22, z23, z24, z25, z31, eqDs, eqD, Nat.reduceAdd, wrap64] at h) <;> (try (exfalso; omega)))
  | (refine Need.mk (by (try simp (disch := omega) only [zA, z13, z19, z20, z21, z22, z23, z24, z25, z31, eqDs, eqD, Nat.reduceAdd, wrap64]); first | exact elp_m (by omega) (by omega) (fun _ => rfl) | exact eld_m (by omega) (by omega) (fun _ => rfl) | exact els_m (by omega) (by omega) (by omega) rfl | exact lsl_m (by omega) (fun _ => rfl) | exact app_nil_m (by omega) (fun _ => rfl) (fun _ => rfl) | exact app_m_one (by omega) (fun _ => rfl) rfl rfl | exact app_m_m (by omega) (fun _ => rfl) (fun _ => rfl)) ?_)
  | (refine call_mk2 (l13Owner_ok ps hs i (ix (ix ps i).files k).a h0 (by omega)) (by simp (disch := omega) only [zA, z13, z19, z20, z21, z22, z23, z24, z25, z31, eqDs, eqD, Nat.reduceAdd, wrap64]) rfl ?_)
  | (refine Exists.intro (k + 1) ⟨by omega, ⟨by omega, by omega, blw_succ kP (by assumption)⟩, i64_eq (wrap64 _ (by omega)), rfl, rfl, trivial⟩)
  | (refine Exists.intro (i + 1) ⟨by omega, ⟨by omega, by omega, blw_succ hP ⟨hD, blw_to kP (by omega)⟩⟩, i64_eq (wrap64 _ (by omega)), rfl, trivial⟩)
  | (refine Need.mk ?_ ?_)
  | refine rb ?_
  | refine ri ?_
  | refine rs2 ?_ ?_
  | refine rs1 ?_)
   exact fD (fun h' => absurd h ((h'.2.2 i h0 hi).2 k k0 (by omega)))
 ·exact tD ⟨q1, q2, blw_to hP (by omega)⟩
end V
end Go.Proofs.Ytgialjcichiaoaa

/-
Plain proofs: what steps do to a disk, and which steps the reference takes.
-/
namespace Go.Proofs.Ytgialjcichiaoaa
namespace V
open Classical
set_option maxRecDepth 100000
variable {W : Wld}

theorem mem_ix {α : Type} [Inhabited α] {xs : List α} {x : α} (h : x ∈ xs) : ∃ i : Int, 0 ≤ i ∧ i < xs.length ∧ ix xs i = x := by
 obtain ⟨n, hn, rfl⟩ := List.mem_iff_getElem.1 h
 exact ⟨n, by omega, by omega, by simp [ix, hn]⟩
end V
end Go.Proofs.Ytgialjcichiaoaa

/-
Plain proofs: what functions of the library do where all that is owned is owned with its list.
-/
namespace Go.Proofs.Ytgialjcichiaoaa
namespace V
set_option maxRecDepth 100000
variable {W : Wld}

def kx_sl_Clone_File : Cfg := { tt := tt, sigs := sigsx, mv := true, bm := [5], eqt := eqL, keep := [true, false, true, false, true, false, false, false], n := 8, pin := [] }
theorem cx_sl_Clone_File : cIsNil kx_sl_Clone_File Try.f184 s_sl_Clone_File_X = some (.ss [.mv 2 (.c (.sl []))], .mv 3 (.t 0), 3, 4, .cond (.t 4) (.seq (.ss [.mv 2 (.c (.sl []))]) (.ret [2])) .skip, .seq (.ss [.lit 5 0 [.int .i64 0, .int .i64 0] [], .mv 6 (.t 0), .app 7 2 true (.t 5) (.t 6), .mv 2 (.t 7)]) (.ret [2])) := by kernel_rfl
theorem cloneF_X (l : List P2) (hl : l.length ≤ lim) : FunOk PP W n_sl_Clone_File s_sl_Clone_File_X [eP2s l] [eP2s l] := by
 refine cIsNil_ok (C := kx_sl_Clone_File) (cfg_ok rfl) (eq_ok rfl rfl) mixed Try.func184 (by kernel_rfl) (by kernel_rfl) cx_sl_Clone_File ?_
 exact clone_pwp (enc := eP2) l hl 2 (fun _ => rfl) (fun _ => rfl) [.int .i64 0, .int .i64 0]

def kx_sl_Clone_Dep : Cfg := { tt := tt, sigs := sigsx, mv := true, bm := [5], eqt := eqL, keep := [true, false, true, false, true, false, false, false], n := 8, pin := [] }
theorem cx_sl_Clone_Dep : cIsNil kx_sl_Clone_Dep Try.f185 s_sl_Clone_Dep_X = some (.ss [.mv 2 (.c (.sl []))], .mv 3 (.t 0), 3, 4, .cond (.t 4) (.seq (.ss [.mv 2 (.c (.sl []))]) (.ret [2])) .skip, .seq (.ss [.lit 5 0 [.int .i64 0, .int .i64 0] [], .mv 6 (.t 0), .app 7 2 true (.t 5) (.t 6), .mv 2 (.t 7)]) (.ret [2])) := by kernel_rfl
theorem cloneD_X (l : List P2) (hl : l.length ≤ lim) : FunOk PP W n_sl_Clone_Dep s_sl_Clone_Dep_X [eP2s l] [eP2s l] := by
 refine cIsNil_ok (C := kx_sl_Clone_Dep) (cfg_ok rfl) (eq_ok rfl rfl) mixed Try.func185 (by kernel_rfl) (by kernel_rfl) cx_sl_Clone_Dep ?_
 exact clone_pwp (enc := eP2) l hl 2 (fun _ => rfl) (fun _ => rfl) [.int .i64 0, .int .i64 0]

/-! Writing into lists that are encoded. -/
theorem els_gx {α : Type} {enc : α → List D} {xs ys : List α} {i : Int} {off sz : Nat} {c : List D} (h0 : 0 ≤ i) (h1 : i < xs.length) (h2 : i < ys.length) (hz : ∀ x, (enc x).length = sz) (hc : off + c.length ≤ sz) : ElsOk (xs.map enc) (ys.map enc) i off c := by
 have a : i.toNat < xs.length := by omega
 have b : i.toNat < ys.length := by omega
 exact ⟨enc xs[i.toNat], enc ys[i.toNat], by simp [a], by simp [b], by rw [hz, hz], by rw [hz]; exact hc⟩
theorem elsV_gx {α : Type} [Inhabited α] {enc : α → List D} {ys : List α} {i : Int} {off : Nat} {c : List D} {z : α} (h0 : 0 ≤ i) (h2 : i < ys.length) (hz : splice (enc (ix ys i)) off c = enc z) : elsV (ys.map enc) i off c = (ys.set i.toNat z).map enc := by
 have b : i.toNat < ys.length := by omega
 have e : enc (ix ys i) = enc ys[i.toNat] := by simp [ix, b]
 rw [e] at hz
 simp only [elsV, List.getD_eq_getElem?_getD, List.getElem?_map, List.getElem?_eq_getElem b, Option.map_some, Option.getD_some, hz]
 rw [List.map_set]
theorem elsP2_0 {ys : List P2} {i v : Int} (h0 : 0 ≤ i) (h2 : i < ys.length) : elsV (ys.map eP2) i 0 [.int .i64 v] = (ys.set i.toNat ⟨v, (ix ys i).b⟩).map eP2 := elsV_gx h0 h2 rfl
theorem elsP2_1 {ys : List P2} {i v : Int} (h0 : 0 ≤ i) (h2 : i < ys.length) : elsV (ys.map eP2) i 1 [.int .i64 v] = (ys.set i.toNat ⟨(ix ys i).a, v⟩).map eP2 := elsV_gx h0 h2 rfl
theorem elsP2_a {ys : List P2} {i v u : Int} (h0 : 0 ≤ i) (h2 : i < ys.length) : elsV (ys.map eP2) i 0 [.int .i64 v, .int .i64 u] = (ys.set i.toNat ⟨v, u⟩).map eP2 := elsV_gx h0 h2 rfl
theorem elsPk_0 {ys : List Pk} {i v : Int} (h0 : 0 ≤ i) (h2 : i < ys.length) : elsV (ys.map ePk) i 0 [.int .i64 v] = (ys.set i.toNat ⟨v, (ix ys i).ver, (ix ys i).files, (ix ys i).deps⟩).map ePk := elsV_gx h0 h2 rfl
theorem elsPk_1 {ys : List Pk} {i v : Int} (h0 : 0 ≤ i) (h2 : i < ys.length) : elsV (ys.map ePk) i 1 [.int .i64 v] = (ys.set i.toNat ⟨(ix ys i).name, v, (ix ys i).files, (ix ys i).deps⟩).map ePk := elsV_gx h0 h2 rfl
theorem elsPk_a {ys : List Pk} {i v u : Int} {f d : List P2} (h0 : 0 ≤ i) (h2 : i < ys.length) : elsV (ys.map ePk) i 0 [.int .i64 v, .int .i64 u, .sl (f.map eP2), .sl (d.map eP2)] = (ys.set i.toNat ⟨v, u, f, d⟩).map ePk := elsV_gx h0 h2 rfl
theorem run_elsc {Φ : Ask} {Q : PX → Env → Prop} {Ns : List (Env → Prop)} {e : Env} {fs fs' : List Fr} {l l' : Sm} {N : Prop} {h : Nat} {r c : List D} (hr : run 100000 e fs l = .need N fs' ((h, .val r) :: l')) (hp : N) (he : r = c) (hk : RunM Φ Q Ns e fs' ((h, .val c) :: l')) : RunM Φ Q Ns e fs l := by
 subst he
 exact run_need hr hp hk

theorem ix_sgx {α : Type} [Inhabited α] {ys : List α} {i j : Int} {z : α} (h0 : 0 ≤ i) (h1 : i < ys.length) (hj : 0 ≤ j) : ix (ys.set i.toNat z) j = if j = i then z else ix ys j := by
 by_cases h : j = i
 ·subst h
  have : j.toNat < ys.length := by omega
  simp [ix, this]
 ·have : j.toNat ≠ i.toNat := by omega
  simp only [ix, List.getD_eq_getElem?_getD, if_neg h]
  rw [List.getElem?_set_ne (Ne.symm this)]
theorem ix_ssx {α : Type} [Inhabited α] {ys : List α} {i : Int} {z : α} (h0 : 0 ≤ i) (h1 : i < ys.length) : ix (ys.set i.toNat z) i = z := by rw [ix_sgx h0 h1 h0, if_pos rfl]
end V
end Go.Proofs.Ytgialjcichiaoaa

/-
Plain proofs: what the laws copy, measure and mark: lists of numbers, files, packages.
-/
namespace Go.Proofs.Ytgialjcichiaoaa
namespace V
open Classical
set_option maxRecDepth 100000
variable {W : Wld}

theorem blw_set {α : Type} [Inhabited α] {xs ys : List α} {i : Int} (h0 : 0 ≤ i) (h1 : i < ys.length) (h : Blw i (fun j => ix ys j = ix xs j)) : Blw (i + 1) (fun j => ix (ys.set i.toNat (ix xs i)) j = ix xs j) := fun j j0 j1 => by
 show ix (ys.set i.toNat (ix xs i)) j = ix xs j
 rw [ix_sgx h0 h1 j0]
 by_cases e : j = i
 ·rw [if_pos e, e]
 ·rw [if_neg e]
  exact h j j0 (by omega)

/-! What is copied. -/
theorem toFile_X (p : P2) : FunOk PP W n_l_toFile s_l_toFile_X [eP2 p] [eP2 p] := by
 refine F_l_toFile_X (run_fun ?_)
 (repeat' first
  | (refine run_ite rfl (fun h => ?_) (fun h => ?_) <;> (try simp (disch := omega) only [zA, z13, z19, z20, z21, z22, z23, z24, z25, z31, eqDs, eqD, Nat.reduceAdd, wrap64] at h) <;> (try (exfalso; omega)))
  | (refine run_need rfl (by (try simp (disch := omega) only [zA, z13, z19, z20, z21, z22, z23, z24, z25, z31, eqDs, eqD, Nat.reduceAdd, wrap64]); first | exact elp_m (by omega) (by first | omega | (simp only [List.length_set]; omega)) (fun _ => rfl) | exact eld_m (by omega) (by first | omega | (simp only [List.length_set]; omega)) (fun _ => rfl) | exact els_m (by omega) (by omega) (by omega) rfl | exact lsl_m (by omega) (fun _ => rfl) | exact app_nil_m (by omega) (fun _ => rfl) (fun _ => rfl) | exact app_m_one (by omega) (fun _ => rfl) rfl rfl | exact app_m_m (by omega) (fun _ => rfl) (fun _ => rfl)) ?_)
  | (refine run_need rfl (by first | decide | omega | (simp only [List.length_map]; omega)) ?_)
  | (refine run_need rfl ?_ ?_)
  | (refine run_ret rfl ?_ ; first | refine rb ?_ | refine ri ?_ | refine rs2 ?_ ?_ | refine rs1 ?_)
  | (refine run_retx rfl ?_))
 rfl
theorem toFileS_X (l : List P2) (hl : l.length ≤ lim) : FunOk PP W n_l_toFileS s_l_toFileS_X [eP2s l] [eP2s l] := by
 refine F_l_toFileS_X (run_fun ?_)
 unfold lim at hl
 (repeat' first
  | (refine run_ite rfl (fun h => ?_) (fun h => ?_) <;> (try simp (disch := omega) only [zA, z13, z19, z20, z21, z22, z23, z24, z25, z31, eqDs, eqD, Nat.reduceAdd, wrap64] at h) <;> (try (exfalso; omega)))
  | (refine run_need rfl (by (try simp (disch := omega) only [zA, z13, z19, z20, z21, z22, z23, z24, z25, z31, eqDs, eqD, Nat.reduceAdd, wrap64]); first | exact elp_m (by omega) (by first | omega | (simp only [List.length_set]; omega)) (fun _ => rfl) | exact eld_m (by omega) (by first | omega | (simp only [List.length_set]; omega)) (fun _ => rfl) | exact els_m (by omega) (by omega) (by omega) rfl | exact lsl_m (by omega) (fun _ => rfl) | exact app_nil_m (by omega) (fun _ => rfl) (fun _ => rfl) | exact app_m_one (by omega) (fun _ => rfl) rfl rfl | exact app_m_m (by omega) (fun _ => rfl) (fun _ => rfl)) ?_)
  | (refine run_need rfl (by first | decide | omega | (simp only [List.length_map]; omega)) ?_)
  | (refine run_need rfl ?_ ?_)
  | (refine run_ret rfl ?_ ; first | refine rb ?_ | refine ri ?_ | refine rs2 ?_ ?_ | refine rs1 ?_)
  | (refine run_retx rfl ?_))
 ·simp [lim]; omega
 refine run_loop rfl (fun x : Int × List P2 => 0 ≤ x.1 ∧ x.1 ≤ l.length ∧ x.2.length = l.length ∧ Blw x.1 (fun j => ix x.2 j = ix l j)) (fun x => [(4, .val (i64 x.1)), (3, .val (eP2s x.2)), (0, .val (eP2s l))]) (fun x => (l.length - x.1).toNat) (0, List.replicate l.length ⟨0, 0⟩) ⟨by omega, by simp, by simp, blw_zero _⟩ ⟨rfl, sl_eq (by simp), rfl, trivial⟩ rfl ?_
 rintro ⟨i, ys⟩ e ⟨h0, hN, hy, hP⟩
 dsimp only at h0 hN hy hP ⊢
 (repeat' first
  | (refine run_ite rfl (fun h => ?_) (fun h => ?_) <;> (try simp (disch := omega) only [zA, z13, z19, z20, z21, z22, z23, z24, z25, z31, eqDs, eqD, Nat.reduceAdd, wrap64] at h) <;> (try (exfalso; omega)))
  | (refine run_need rfl (by (try simp (disch := omega) only [zA, z13, z19, z20, z21, z22, z23, z24, z25, z31, eqDs, eqD, Nat.reduceAdd, wrap64]); first | exact elp_m (by omega) (by first | omega | (simp only [List.length_set]; omega)) (fun _ => rfl) | exact eld_m (by omega) (by first | omega | (simp only [List.length_set]; omega)) (fun _ => rfl) | exact els_m (by omega) (by omega) (by omega) rfl | exact lsl_m (by omega) (fun _ => rfl) | exact app_nil_m (by omega) (fun _ => rfl) (fun _ => rfl) | exact app_m_one (by omega) (fun _ => rfl) rfl rfl | exact app_m_m (by omega) (fun _ => rfl) (fun _ => rfl)) ?_)
  | (refine run_need rfl (by first | decide | omega | (simp only [List.length_map]; omega)) ?_)
  | (refine run_calleq rfl (toFile_X (ix l i)) (by simp (disch := omega) only [zA, z13, z19, z20, z21, z22, z23, z24, z25, z31, eqDs, eqD, Nat.reduceAdd, wrap64]) rfl ?_)
  | (refine run_elsc rfl (els_gx (sz := 2) h0 (by omega) (by omega) (fun _ => rfl) (Nat.le_of_ble_eq_true rfl)) (sl_eq (elsP2_a h0 (by omega))) ?_)
  | (refine run_next rfl (Exists.intro (i + 1, ys.set i.toNat (ix l i)) ⟨by dsimp only; omega, ⟨by dsimp only; omega, by dsimp only; omega, by simpa using hy, blw_set h0 (by omega) hP⟩, i64_eq (wrap64 _ (by omega)), rfl, rfl, trivial⟩))
  | (refine run_need rfl ?_ ?_)
  | (refine run_ret rfl ?_ ; first | refine rb ?_ | refine ri ?_ | refine rs2 ?_ ?_ | refine rs1 ?_)
  | (refine run_retx rfl ?_))
 ·exact sl_eq (by rw [ix_ext hy (blw_to hP (by omega))])

theorem toDep_X (p : P2) : FunOk PP W n_l_toDep s_l_toDep_X [eP2 p] [eP2 p] := by
 refine F_l_toDep_X (run_fun ?_)
 (repeat' first
  | (refine run_ite rfl (fun h => ?_) (fun h => ?_) <;> (try simp (disch := omega) only [zA, z13, z19, z20, z21, z22, z23, z24, z25, z31, eqDs, eqD, Nat.reduceAdd, wrap64] at h) <;> (try (exfalso; omega)))
  | (refine run_need rfl (by (try simp (disch := omega) only [zA, z13, z19, z20, z21, z22, z23, z24, z25, z31, eqDs, eqD, Nat.reduceAdd, wrap64]); first | exact elp_m (by omega) (by first | omega | (simp only [List.length_set]; omega)) (fun _ => rfl) | exact eld_m (by omega) (by first | omega | (simp only [List.length_set]; omega)) (fun _ => rfl) | exact els_m (by omega) (by omega) (by omega) rfl | exact lsl_m (by omega) (fun _ => rfl) | exact app_nil_m (by omega) (fun _ => rfl) (fun _ => rfl) | exact app_m_one (by omega) (fun _ => rfl) rfl rfl | exact app_m_m (by omega) (fun _ => rfl) (fun _ => rfl)) ?_)
  | (refine run_need rfl (by first | decide | omega | (simp only [List.length_map]; omega)) ?_)
  | (refine run_need rfl ?_ ?_)
  | (refine run_ret rfl ?_ ; first | refine rb ?_ | refine ri ?_ | refine rs2 ?_ ?_ | refine rs1 ?_)
  | (refine run_retx rfl ?_))
 rfl
theorem toDepS_X (l : List P2) (hl : l.length ≤ lim) : FunOk PP W n_l_toDepS s_l_toDepS_X [eP2s l] [eP2s l] := by
 refine F_l_toDepS_X (run_fun ?_)
 unfold lim at hl
 (repeat' first
  | (refine run_ite rfl (fun h => ?_) (fun h => ?_) <;> (try simp (disch := omega) only [zA, z13, z19, z20, z21, z22, z23, z24, z25, z31, eqDs, eqD, Nat.reduceAdd, wrap64] at h) <;> (try (exfalso; omega)))
  | (refine run_need rfl (by (try simp (disch := omega) only [zA, z13, z19, z20, z21, z22, z23, z24, z25, z31, eqDs, eqD, Nat.reduceAdd, wrap64]); first | exact elp_m (by omega) (by first | omega | (simp only [List.length_set]; omega)) (fun _ => rfl) | exact eld_m (by omega) (by first | omega | (simp only [List.length_set]; omega)) (fun _ => rfl) | exact els_m (by omega) (by omega) (by omega) rfl | exact lsl_m (by omega) (fun _ => rfl) | exact app_nil_m (by omega) (fun _ => rfl) (fun _ => rfl) | exact app_m_one (by omega) (fun _ => rfl) rfl rfl | exact app_m_m (by omega) (fun _ => rfl) (fun _ => rfl)) ?_)
  | (refine run_need rfl (by first | decide | omega | (simp only [List.length_map]; omega)) ?_)
  | (refine run_need rfl ?_ ?_)
  | (refine run_ret rfl ?_ ; first | refine rb ?_ | refine ri ?_ | refine rs2 ?_ ?_ | refine rs1 ?_)
  | (refine run_retx rfl ?_))
 ·simp [lim]; omega
 refine run_loop rfl (fun x : Int × List P2 => 0 ≤ x.1 ∧ x.1 ≤ l.length ∧ x.2.length = l.length ∧ Blw x.1 (fun j => ix x.2 j = ix l j)) (fun x => [(4, .val (i64 x.1)), (3, .val (eP2s x.2)), (0, .val (eP2s l))]) (fun x => (l.length - x.1).toNat) (0, List.replicate l.length ⟨0, 0⟩) ⟨by omega, by simp, by simp, blw_zero _⟩ ⟨rfl, sl_eq (by simp), rfl, trivial⟩ rfl ?_
 rintro ⟨i, ys⟩ e ⟨h0, hN, hy, hP⟩
 dsimp only at h0 hN hy hP ⊢
 (repeat' first
  | (refine run_ite rfl (fun h => ?_) (fun h => ?_) <;> (try simp (disch := omega) only [zA, z13, z19, z20, z21, z22, z23, z24, z25, z31, eqDs, eqD, Nat.reduceAdd, wrap64] at h) <;> (try (exfalso; omega)))
  | (refine run_need rfl (by (try simp (disch := omega) only [zA, z13, z19, z20, z21, z22, z23, z24, z25, z31, eqDs, eqD, Nat.reduceAdd, wrap64]); first | exact elp_m (by omega) (by first | omega | (simp only [List.length_set]; omega)) (fun _ => rfl) | exact eld_m (by omega) (by first | omega | (simp only [List.length_set]; omega)) (fun _ => rfl) | exact els_m (by omega) (by omega) (by omega) rfl | exact lsl_m (by omega) (fun _ => rfl) | exact app_nil_m (by omega) (fun _ => rfl) (fun _ => rfl) | exact app_m_one (by omega) (fun _ => rfl) rfl rfl | exact app_m_m (by omega) (fun _ => rfl) (fun _ => rfl)) ?_)
  | (refine run_need rfl (by first | decide | omega | (simp only [List.length_map]; omega)) ?_)
  | (refine run_calleq rfl (toDep_X (ix l i)) (by simp (disch := omega) only [zA, z13, z19, z20, z21, z22, z23, z24, z25, z31, eqDs, eqD, Nat.reduceAdd, wrap64]) rfl ?_)
  | (refine run_elsc rfl (els_gx (sz := 2) h0 (by omega) (by omega) (fun _ => rfl) (Nat.le_of_ble_eq_true rfl)) (sl_eq (elsP2_a h0 (by omega))) ?_)
  | (refine run_next rfl (Exists.intro (i + 1, ys.set i.toNat (ix l i)) ⟨by dsimp only; omega, ⟨by dsimp only; omega, by dsimp only; omega, by simpa using hy, blw_set h0 (by omega) hP⟩, i64_eq (wrap64 _ (by omega)), rfl, rfl, trivial⟩))
  | (refine run_need rfl ?_ ?_)
  | (refine run_ret rfl ?_ ; first | refine rb ?_ | refine ri ?_ | refine rs2 ?_ ?_ | refine rs1 ?_)
  | (refine run_retx rfl ?_))
 ·exact sl_eq (by rw [ix_ext hy (blw_to hP (by omega))])

theorem toPkg_X (p : Pk) (hs : SmP p) : FunOk PP W n_l_toPkg s_l_toPkg_X [ePk p] [ePk p] := by
 refine F_l_toPkg_X (run_fun ?_)
 obtain ⟨h1, h2⟩ := hs
 (repeat' first
  | (refine run_ite rfl (fun h => ?_) (fun h => ?_) <;> (try simp (disch := omega) only [zA, z13, z19, z20, z21, z22, z23, z24, z25, z31, eqDs, eqD, Nat.reduceAdd, wrap64] at h) <;> (try (exfalso; omega)))
  | (refine run_need rfl (by (try simp (disch := omega) only [zA, z13, z19, z20, z21, z22, z23, z24, z25, z31, eqDs, eqD, Nat.reduceAdd, wrap64]); first | exact elp_m (by omega) (by first | omega | (simp only [List.length_set]; omega)) (fun _ => rfl) | exact eld_m (by omega) (by first | omega | (simp only [List.length_set]; omega)) (fun _ => rfl) | exact els_m (by omega) (by omega) (by omega) rfl | exact lsl_m (by omega) (fun _ => rfl) | exact app_nil_m (by omega) (fun _ => rfl) (fun _ => rfl) | exact app_m_one (by omega) (fun _ => rfl) rfl rfl | exact app_m_m (by omega) (fun _ => rfl) (fun _ => rfl)) ?_)
  | (refine run_need rfl (by first | decide | omega | (simp only [List.length_map]; omega)) ?_)
  | (refine run_call1 rfl (toFileS_X p.files h1) rfl ?_)
  | (refine run_call1 rfl (toDepS_X p.deps h2) rfl ?_)
  | (refine run_need rfl ?_ ?_)
  | (refine run_ret rfl ?_ ; first | refine rb ?_ | refine ri ?_ | refine rs2 ?_ ?_ | refine rs1 ?_)
  | (refine run_retx rfl ?_))
 rfl
theorem toPkgS_X (l : List Pk) (hs : SmPs l) : FunOk PP W n_l_toPkgS s_l_toPkgS_X [ePks l] [ePks l] := by
 refine F_l_toPkgS_X (run_fun ?_)
 have hl := hs.1
 unfold lim at hl
 (repeat' first
  | (refine run_ite rfl (fun h => ?_) (fun h => ?_) <;> (try simp (disch := omega) only [zA, z13, z19, z20, z21, z22, z23, z24, z25, z31, eqDs, eqD, Nat.reduceAdd, wrap64] at h) <;> (try (exfalso; omega)))
  | (refine run_need rfl (by (try simp (disch := omega) only [zA, z13, z19, z20, z21, z22, z23, z24, z25, z31, eqDs, eqD, Nat.reduceAdd, wrap64]); first | exact elp_m (by omega) (by first | omega | (simp only [List.length_set]; omega)) (fun _ => rfl) | exact eld_m (by omega) (by first | omega | (simp only [List.length_set]; omega)) (fun _ => rfl) | exact els_m (by omega) (by omega) (by omega) rfl | exact lsl_m (by omega) (fun _ => rfl) | exact app_nil_m (by omega) (fun _ => rfl) (fun _ => rfl) | exact app_m_one (by omega) (fun _ => rfl) rfl rfl | exact app_m_m (by omega) (fun _ => rfl) (fun _ => rfl)) ?_)
  | (refine run_need rfl (by first | decide | omega | (simp only [List.length_map]; omega)) ?_)
  | (refine run_need rfl ?_ ?_)
  | (refine run_ret rfl ?_ ; first | refine rb ?_ | refine ri ?_ | refine rs2 ?_ ?_ | refine rs1 ?_)
  | (refine run_retx rfl ?_))
 ·simp [lim]; omega
 refine run_loop rfl (fun x : Int × List Pk => 0 ≤ x.1 ∧ x.1 ≤ l.length ∧ x.2.length = l.length ∧ Blw x.1 (fun j => ix x.2 j = ix l j)) (fun x => [(4, .val (i64 x.1)), (3, .val (ePks x.2)), (0, .val (ePks l))]) (fun x => (l.length - x.1).toNat) (0, List.replicate l.length ⟨0, 0, [], []⟩) ⟨by omega, by simp, by simp, blw_zero _⟩ ⟨rfl, sl_eq (by simp), rfl, trivial⟩ rfl ?_
 rintro ⟨i, ys⟩ e ⟨h0, hN, hy, hP⟩
 dsimp only at h0 hN hy hP ⊢
 (repeat' first
  | (refine run_ite rfl (fun h => ?_) (fun h => ?_) <;> (try simp (disch := omega) only [zA, z13, z19, z20, z21, z22, z23, z24, z25, z31, eqDs, eqD, Nat.reduceAdd, wrap64] at h) <;> (try (exfalso; omega)))
  | (refine run_need rfl (by (try simp (disch := omega) only [zA, z13, z19, z20, z21, z22, z23, z24, z25, z31, eqDs, eqD, Nat.reduceAdd, wrap64]); first | exact elp_m (by omega) (by first | omega | (simp only [List.length_set]; omega)) (fun _ => rfl) | exact eld_m (by omega) (by first | omega | (simp only [List.length_set]; omega)) (fun _ => rfl) | exact els_m (by omega) (by omega) (by omega) rfl | exact lsl_m (by omega) (fun _ => rfl) | exact app_nil_m (by omega) (fun _ => rfl) (fun _ => rfl) | exact app_m_one (by omega) (fun _ => rfl) rfl rfl | exact app_m_m (by omega) (fun _ => rfl) (fun _ => rfl)) ?_)
  | (refine run_need rfl (by first | decide | omega | (simp only [List.length_map]; omega)) ?_)
  | (refine run_calleq rfl (toPkg_X (ix l i) (smPs_ix hs h0 (by omega))) (by simp (disch := omega) only [zA, z13, z19, z20, z21, z22, z23, z24, z25, z31, eqDs, eqD, Nat.reduceAdd, wrap64]) rfl ?_)
  | (refine run_elsc rfl (els_gx (sz := 4) h0 (by omega) (by omega) (fun _ => rfl) (Nat.le_of_ble_eq_true rfl)) (sl_eq (elsPk_a h0 (by omega))) ?_)
  | (refine run_next rfl (Exists.intro (i + 1, ys.set i.toNat (ix l i)) ⟨by dsimp only; omega, ⟨by dsimp only; omega, by dsimp only; omega, by simpa using hy, blw_set h0 (by omega) hP⟩, i64_eq (wrap64 _ (by omega)), rfl, rfl, trivial⟩))
  | (refine run_need rfl ?_ ?_)
  | (refine run_ret rfl ?_ ; first | refine rb ?_ | refine ri ?_ | refine rs2 ?_ ?_ | refine rs1 ?_)
  | (refine run_retx rfl ?_))
 ·exact sl_eq (by rw [ix_ext hy (blw_to hP (by omega))])
end V
end Go.Proofs.Ytgialjcichiaoaa

/-
Plain proofs: what the laws measure, compare, mark and find marked: lists of numbers, files, packages.
-/
namespace Go.Proofs.Ytgialjcichiaoaa
namespace V
open Classical
set_option maxRecDepth 100000
variable {W : Wld}

/-! Sums. -/
def sumF {α : Type} (f : α → Int) (xs : List α) : Int := (xs.map f).sum
theorem sumF_take {α : Type} [Inhabited α] (f : α → Int) (xs : List α) {i : Int} (h0 : 0 ≤ i) (h1 : i < xs.length) : sumF f (xs.take (i + 1).toNat) = sumF f (xs.take i.toNat) + f (ix xs i) := by
 rw [take_ix xs h0 h1]
 simp [sumF]
theorem sumF_nn {α : Type} {f : α → Int} (hf : ∀ x, 0 ≤ f x) : ∀ xs : List α, 0 ≤ sumF f xs
 | [] => by simp [sumF]
 | x :: r => by
  have := sumF_nn hf r
  have := hf x
  simp only [sumF, List.map_cons, List.sum_cons] at *
  omega
theorem sumF_le {α : Type} {f : α → Int} (hf : ∀ x, 0 ≤ f x) (xs : List α) (n : Nat) : sumF f (xs.take n) ≤ sumF f xs := by
 have h : sumF f xs = sumF f (xs.take n) + sumF f (xs.drop n) := by
  conv => lhs; rw [← List.take_append_drop n xs]
  simp only [sumF, List.map_append, List.sum_append]
 have := sumF_nn hf (xs.drop n)
 omega
theorem sumF_all {α : Type} (f : α → Int) (xs : List α) {n : Nat} (h : xs.length ≤ n) : sumF f (xs.take n) = sumF f xs := by rw [List.take_of_length_le h]

/-! How much comes in. -/
def mx : Int := 9223372036854775807
def cP (p : Pk) : Int := p.files.length + p.deps.length
def szPs (ps : List Pk) : Int := ps.length + sumF cP ps
theorem cP_nn (p : Pk) : 0 ≤ cP p := by unfold cP; omega
theorem szPs_nn (ps : List Pk) : 0 ≤ szPs ps := by have := sumF_nn cP_nn ps; unfold szPs; omega
def BgP (p : Pk) : Prop := (p.files.length : Int) ≤ mx ∧ (p.deps.length : Int) ≤ mx
def BgPs (ps : List Pk) : Prop := (ps.length : Int) ≤ mx ∧ ∀ p ∈ ps, BgP p
def BgD (d : Dk) : Prop := BgPs d.db ∧ (d.files.length : Int) ≤ mx ∧ BgPs d.jour
def BgSs (l : List Stp) : Prop := (l.length : Int) ≤ mx ∧ ∀ s ∈ l, BgPs s.pkgs
noncomputable def less (left n : Int) : Int := if left < n then -1 else left - n
theorem less_lt {left n : Int} (h : left < n) : less left n = -1 := if_pos h
theorem less_ge {left n : Int} (h : n ≤ left) : less left n = left - n := if_neg (by omega)

theorem szFileS_ok (l : List P2) (left : Int) (h : 0 ≤ left ∧ left ≤ 1048576) (hb : (l.length : Int) ≤ mx) : FunOk PP W n_l_szFileS s_l_szFileS [eP2s l, i64 left] [i64 (less left l.length)] := by
 refine F_l_szFileS (run_fun ?_)
 unfold mx at hb
 (repeat' first
  | (refine run_ite rfl (fun h => ?_) (fun h => ?_) <;> (try simp (disch := omega) only [zA, z13, z19, z20, z21, z22, z23, z24, z25, z31, eqDs, eqD, Nat.reduceAdd, wrap64] at h) <;> (try (exfalso; omega)))
  | (refine run_need rfl (by (try simp (disch := omega) only [zA, z13, z19, z20, z21, z22, z23, z24, z25, z31, eqDs, eqD, Nat.reduceAdd, wrap64]); first | exact elp_m (by omega) (by first | omega | (simp only [List.length_set]; omega)) (fun _ => rfl) | exact eld_m (by omega) (by first | omega | (simp only [List.length_set]; omega)) (fun _ => rfl) | exact els_m (by omega) (by omega) (by omega) rfl | exact lsl_m (by omega) (fun _ => rfl) | exact app_nil_m (by omega) (fun _ => rfl) (fun _ => rfl) | exact app_m_one (by omega) (fun _ => rfl) rfl rfl | exact app_m_m (by omega) (fun _ => rfl) (fun _ => rfl)) ?_)
  | (refine run_need rfl (by first | decide | omega | (simp only [List.length_map]; omega)) ?_)
  | (refine run_need rfl ?_ ?_)
  | (refine run_ret rfl ?_ ; first | refine rb ?_ | refine ri ?_ | refine rs2 ?_ ?_ | refine rs1 ?_)
  | (refine run_retx rfl ?_))
 ·rw [less_lt (by omega)]
 ·rw [List.length_map, wrap64 _ (by omega), less_ge (by omega)]

theorem szDepS_ok (l : List P2) (left : Int) (h : 0 ≤ left ∧ left ≤ 1048576) (hb : (l.length : Int) ≤ mx) : FunOk PP W n_l_szDepS s_l_szDepS [eP2s l, i64 left] [i64 (less left l.length)] := by
 refine F_l_szDepS (run_fun ?_)
 unfold mx at hb
 (repeat' first
  | (refine run_ite rfl (fun h => ?_) (fun h => ?_) <;> (try simp (disch := omega) only [zA, z13, z19, z20, z21, z22, z23, z24, z25, z31, eqDs, eqD, Nat.reduceAdd, wrap64] at h) <;> (try (exfalso; omega)))
  | (refine run_need rfl (by (try simp (disch := omega) only [zA, z13, z19, z20, z21, z22, z23, z24, z25, z31, eqDs, eqD, Nat.reduceAdd, wrap64]); first | exact elp_m (by omega) (by first | omega | (simp only [List.length_set]; omega)) (fun _ => rfl) | exact eld_m (by omega) (by first | omega | (simp only [List.length_set]; omega)) (fun _ => rfl) | exact els_m (by omega) (by omega) (by omega) rfl | exact lsl_m (by omega) (fun _ => rfl) | exact app_nil_m (by omega) (fun _ => rfl) (fun _ => rfl) | exact app_m_one (by omega) (fun _ => rfl) rfl rfl | exact app_m_m (by omega) (fun _ => rfl) (fun _ => rfl)) ?_)
  | (refine run_need rfl (by first | decide | omega | (simp only [List.length_map]; omega)) ?_)
  | (refine run_need rfl ?_ ?_)
  | (refine run_ret rfl ?_ ; first | refine rb ?_ | refine ri ?_ | refine rs2 ?_ ?_ | refine rs1 ?_)
  | (refine run_retx rfl ?_))
 ·rw [less_lt (by omega)]
 ·rw [List.length_map, wrap64 _ (by omega), less_ge (by omega)]

theorem szPkg_ok (p : Pk) (left : Int) (h : 0 ≤ left ∧ left ≤ 1048576) (hb : BgP p) : FunOk PP W n_l_szPkg s_l_szPkg [ePk p, i64 left] [i64 (less left (cP p))] := by
 refine F_l_szPkg (run_fun ?_)
 obtain ⟨b1, b2⟩ := hb
 unfold cP
 have f1 := szFileS_ok (W := W) p.files left h b1
 by_cases c1 : left < p.files.length
 ·rw [less_lt c1] at f1
  (repeat' first
  | (refine run_ite rfl (fun h => ?_) (fun h => ?_) <;> (try simp (disch := omega) only [zA, z13, z19, z20, z21, z22, z23, z24, z25, z31, eqDs, eqD, Nat.reduceAdd, wrap64] at h) <;> (try (exfalso; omega)))
  | (refine run_need rfl (by (try simp (disch := omega) only [zA, z13, z19, z20, z21, z22, z23, z24, z25, z31, eqDs, eqD, Nat.reduceAdd, wrap64]); first | exact elp_m (by omega) (by first | omega | (simp only [List.length_set]; omega)) (fun _ => rfl) | exact eld_m (by omega) (by first | omega | (simp only [List.length_set]; omega)) (fun _ => rfl) | exact els_m (by omega) (by omega) (by omega) rfl | exact lsl_m (by omega) (fun _ => rfl) | exact app_nil_m (by omega) (fun _ => rfl) (fun _ => rfl) | exact app_m_one (by omega) (fun _ => rfl) rfl rfl | exact app_m_m (by omega) (fun _ => rfl) (fun _ => rfl)) ?_)
  | (refine run_need rfl (by first | decide | omega | (simp only [List.length_map]; omega)) ?_)
  | (refine run_call1 rfl (f1) rfl ?_)
  | (refine run_need rfl ?_ ?_)
  | (refine run_ret rfl ?_ ; first | refine rb ?_ | refine ri ?_ | refine rs2 ?_ ?_ | refine rs1 ?_)
  | (refine run_retx rfl ?_))
  rw [less_lt (by omega)]
 ·rw [less_ge (by omega)] at f1
  have f2 := szDepS_ok (W := W) p.deps (left - p.files.length) (by omega) b2
  by_cases c2 : left - p.files.length < p.deps.length
  ·rw [less_lt c2] at f2
   (repeat' first
  | (refine run_ite rfl (fun h => ?_) (fun h => ?_) <;> (try simp (disch := omega) only [zA, z13, z19, z20, z21, z22, z23, z24, z25, z31, eqDs, eqD, Nat.reduceAdd, wrap64] at h) <;> (try (exfalso; omega)))
  | (refine run_need rfl (by (try simp (disch := omega) only [zA, z13, z19, z20, z21, z22, z23, z24, z25, z31, eqDs, eqD, Nat.reduceAdd, wrap64]); first | exact elp_m (by omega) (by first | omega | (simp only [List.length_set]; omega)) (fun _ => rfl) | exact eld_m (by omega) (by first | omega | (simp only [List.length_set]; omega)) (fun _ => rfl) | exact els_m (by omega) (by omega) (by omega) rfl | exact lsl_m (by omega) (fun _ => rfl) | exact app_nil_m (by omega) (fun _ => rfl) (fun _ => rfl) | exact app_m_one (by omega) (fun _ => rfl) rfl rfl | exact app_m_m (by omega) (fun _ => rfl) (fun _ => rfl)) ?_)
  | (refine run_need rfl (by first | decide | omega | (simp only [List.length_map]; omega)) ?_)
  | (refine run_call1 rfl (f1) rfl ?_)
  | (refine run_call1 rfl (f2) rfl ?_)
  | (refine run_need rfl ?_ ?_)
  | (refine run_ret rfl ?_ ; first | refine rb ?_ | refine ri ?_ | refine rs2 ?_ ?_ | refine rs1 ?_)
  | (refine run_retx rfl ?_))
   rw [less_lt (by omega)]
  ·rw [less_ge (by omega)] at f2
   (repeat' first
  | (refine run_ite rfl (fun h => ?_) (fun h => ?_) <;> (try simp (disch := omega) only [zA, z13, z19, z20, z21, z22, z23, z24, z25, z31, eqDs, eqD, Nat.reduceAdd, wrap64] at h) <;> (try (exfalso; omega)))
  | (refine run_need rfl (by (try simp (disch := omega) only [zA, z13, z19, z20, z21, z22, z23, z24, z25, z31, eqDs, eqD, Nat.reduceAdd, wrap64]); first | exact elp_m (by omega) (by first | omega | (simp only [List.length_set]; omega)) (fun _ => rfl) | exact eld_m (by omega) (by first | omega | (simp only [List.length_set]; omega)) (fun _ => rfl) | exact els_m (by omega) (by omega) (by omega) rfl | exact lsl_m (by omega) (fun _ => rfl) | exact app_nil_m (by omega) (fun _ => rfl) (fun _ => rfl) | exact app_m_one (by omega) (fun _ => rfl) rfl rfl | exact app_m_m (by omega) (fun _ => rfl) (fun _ => rfl)) ?_)
  | (refine run_need rfl (by first | decide | omega | (simp only [List.length_map]; omega)) ?_)
  | (refine run_call1 rfl (f1) rfl ?_)
  | (refine run_call1 rfl (f2) rfl ?_)
  | (refine run_need rfl ?_ ?_)
  | (refine run_ret rfl ?_ ; first | refine rb ?_ | refine ri ?_ | refine rs2 ?_ ?_ | refine rs1 ?_)
  | (refine run_retx rfl ?_))
   rw [less_ge (by omega)]; omega

theorem szPkgS_ok (l : List Pk) (left : Int) (h : 0 ≤ left ∧ left ≤ 1048576) (hb : BgPs l) : FunOk PP W n_l_szPkgS s_l_szPkgS [ePks l, i64 left] [i64 (less left (szPs l))] := by
 refine F_l_szPkgS (run_fun ?_)
 obtain ⟨b1, b2⟩ := hb
 unfold mx at b1
 have hnn := sumF_nn cP_nn l
 (repeat' first
  | (refine run_ite rfl (fun h => ?_) (fun h => ?_) <;> (try simp (disch := omega) only [zA, z13, z19, z20, z21, z22, z23, z24, z25, z31, eqDs, eqD, Nat.reduceAdd, wrap64] at h) <;> (try (exfalso; omega)))
  | (refine run_need rfl (by (try simp (disch := omega) only [zA, z13, z19, z20, z21, z22, z23, z24, z25, z31, eqDs, eqD, Nat.reduceAdd, wrap64]); first | exact elp_m (by omega) (by first | omega | (simp only [List.length_set]; omega)) (fun _ => rfl) | exact eld_m (by omega) (by first | omega | (simp only [List.length_set]; omega)) (fun _ => rfl) | exact els_m (by omega) (by omega) (by omega) rfl | exact lsl_m (by omega) (fun _ => rfl) | exact app_nil_m (by omega) (fun _ => rfl) (fun _ => rfl) | exact app_m_one (by omega) (fun _ => rfl) rfl rfl | exact app_m_m (by omega) (fun _ => rfl) (fun _ => rfl)) ?_)
  | (refine run_need rfl (by first | decide | omega | (simp only [List.length_map]; omega)) ?_)
  | (refine run_need rfl ?_ ?_)
  | (refine run_ret rfl ?_ ; first | refine rb ?_ | refine ri ?_ | refine rs2 ?_ ?_ | refine rs1 ?_)
  | (refine run_retx rfl ?_))
 ·rw [less_lt (by unfold szPs; omega)]
 rename_i h'
 refine run_loop rfl (fun i : Int => 0 ≤ i ∧ i ≤ l.length ∧ 0 ≤ left - l.length - sumF cP (l.take i.toNat)) (fun i => [(5, .val (i64 i)), (1, .val (i64 (left - l.length - sumF cP (l.take i.toNat)))), (0, .val (ePks l))]) (fun i => (l.length - i).toNat) 0 ⟨by omega, by omega, by simp [sumF]; omega⟩ ⟨rfl, i64_eq (by rw [List.length_map, wrap64 _ (by omega)]; simp [sumF]), rfl, trivial⟩ rfl ?_
 rintro i e ⟨h0, hN, hP⟩
 have hs := sumF_nn cP_nn (l.take i.toNat)
 by_cases hi : i < l.length
 ·have f := szPkg_ok (W := W) (ix l i) (left - l.length - sumF cP (l.take i.toNat)) (by omega) (b2 _ (ix_mem h0 hi))
  have ht := sumF_take cP l h0 hi
  have hle := sumF_le cP_nn l (i + 1).toNat
  have hc := cP_nn (ix l i)
  by_cases c : left - l.length - sumF cP (l.take i.toNat) < cP (ix l i)
  ·rw [less_lt c] at f
   (repeat' first
  | (refine run_ite rfl (fun h => ?_) (fun h => ?_) <;> (try simp (disch := omega) only [zA, z13, z19, z20, z21, z22, z23, z24, z25, z31, eqDs, eqD, Nat.reduceAdd, wrap64] at h) <;> (try (exfalso; omega)))
  | (refine run_need rfl (by (try simp (disch := omega) only [zA, z13, z19, z20, z21, z22, z23, z24, z25, z31, eqDs, eqD, Nat.reduceAdd, wrap64]); first | exact elp_m (by omega) (by first | omega | (simp only [List.length_set]; omega)) (fun _ => rfl) | exact eld_m (by omega) (by first | omega | (simp only [List.length_set]; omega)) (fun _ => rfl) | exact els_m (by omega) (by omega) (by omega) rfl | exact lsl_m (by omega) (fun _ => rfl) | exact app_nil_m (by omega) (fun _ => rfl) (fun _ => rfl) | exact app_m_one (by omega) (fun _ => rfl) rfl rfl | exact app_m_m (by omega) (fun _ => rfl) (fun _ => rfl)) ?_)
  | (refine run_need rfl (by first | decide | omega | (simp only [List.length_map]; omega)) ?_)
  | (refine run_calleq rfl (f) (by simp (disch := omega) only [zA, z13, z19, z20, z21, z22, z23, z24, z25, z31, eqDs, eqD, Nat.reduceAdd, wrap64]) rfl ?_)
  | (refine run_need rfl ?_ ?_)
  | (refine run_ret rfl ?_ ; first | refine rb ?_ | refine ri ?_ | refine rs2 ?_ ?_ | refine rs1 ?_)
  | (refine run_retx rfl ?_))
   rw [less_lt (by unfold szPs; omega)]
  ·rw [less_ge (by omega)] at f
   (repeat' first
  | (refine run_ite rfl (fun h => ?_) (fun h => ?_) <;> (try simp (disch := omega) only [zA, z13, z19, z20, z21, z22, z23, z24, z25, z31, eqDs, eqD, Nat.reduceAdd, wrap64] at h) <;> (try (exfalso; omega)))
  | (refine run_need rfl (by (try simp (disch := omega) only [zA, z13, z19, z20, z21, z22, z23, z24, z25, z31, eqDs, eqD, Nat.reduceAdd, wrap64]); first | exact elp_m (by omega) (by first | omega | (simp only [List.length_set]; omega)) (fun _ => rfl) | exact eld_m (by omega) (by first | omega | (simp only [List.length_set]; omega)) (fun _ => rfl) | exact els_m (by omega) (by omega) (by omega) rfl | exact lsl_m (by omega) (fun _ => rfl) | exact app_nil_m (by omega) (fun _ => rfl) (fun _ => rfl) | exact app_m_one (by omega) (fun _ => rfl) rfl rfl | exact app_m_m (by omega) (fun _ => rfl) (fun _ => rfl)) ?_)
  | (refine run_need rfl (by first | decide | omega | (simp only [List.length_map]; omega)) ?_)
  | (refine run_calleq rfl (f) (by simp (disch := omega) only [zA, z13, z19, z20, z21, z22, z23, z24, z25, z31, eqDs, eqD, Nat.reduceAdd, wrap64]) rfl ?_)
  | (refine run_next rfl (Exists.intro (i + 1) ⟨by omega, ⟨by omega, by omega, by omega⟩, i64_eq (wrap64 _ (by omega)), i64_eq (by omega), rfl, trivial⟩))
  | (refine run_need rfl ?_ ?_)
  | (refine run_ret rfl ?_ ; first | refine rb ?_ | refine ri ?_ | refine rs2 ?_ ?_ | refine rs1 ?_)
  | (refine run_retx rfl ?_))
 ·(repeat' first
  | (refine run_ite rfl (fun h => ?_) (fun h => ?_) <;> (try simp (disch := omega) only [zA, z13, z19, z20, z21, z22, z23, z24, z25, z31, eqDs, eqD, Nat.reduceAdd, wrap64] at h) <;> (try (exfalso; omega)))
  | (refine run_need rfl (by (try simp (disch := omega) only [zA, z13, z19, z20, z21, z22, z23, z24, z25, z31, eqDs, eqD, Nat.reduceAdd, wrap64]); first | exact elp_m (by omega) (by first | omega | (simp only [List.length_set]; omega)) (fun _ => rfl) | exact eld_m (by omega) (by first | omega | (simp only [List.length_set]; omega)) (fun _ => rfl) | exact els_m (by omega) (by omega) (by omega) rfl | exact lsl_m (by omega) (fun _ => rfl) | exact app_nil_m (by omega) (fun _ => rfl) (fun _ => rfl) | exact app_m_one (by omega) (fun _ => rfl) rfl rfl | exact app_m_m (by omega) (fun _ => rfl) (fun _ => rfl)) ?_)
  | (refine run_need rfl (by first | decide | omega | (simp only [List.length_map]; omega)) ?_)
  | (refine run_need rfl ?_ ?_)
  | (refine run_ret rfl ?_ ; first | refine rb ?_ | refine ri ?_ | refine rs2 ?_ ?_ | refine rs1 ?_)
  | (refine run_retx rfl ?_))
  rw [sumF_all _ _ (by omega)] at hP
  rw [sumF_all _ _ (by omega), less_ge (by unfold szPs; omega)]
  unfold szPs
  omega
end V
end Go.Proofs.Ytgialjcichiaoaa

/-
What comes in, as plain values.
-/
namespace Go.Proofs.Ytgialjcichiaoaa
namespace V
set_option maxRecDepth 100000
open Go.ChangeShapes Go.WideShapes Go.ChangeAt Go.RowKit

def ckP2 : Ck := .int .i64 (.int .i64 .nil)
def ckPk : Ck := .int .i64 (.int .i64 (.sl ckP2 (.sl ckP2 .nil)))
def ckI : Ck := .int .i64 .nil
def ckDk : Ck := .sl ckPk (.sl ckI (.bool (.sl ckPk .nil)))
def ckSt : Ck := .int .i64 (.int .i64 (.int .i64 (.sl ckPk .nil)))

theorem conf_list {α : Type} {enc : α → List D} {Q : α → Prop} : ∀ {xs : List (List D)}, (∀ x ∈ xs, ∃ a, x = enc a ∧ Q a) → ∃ l : List α, xs = l.map enc ∧ ∀ a ∈ l, Q a
 | [], _ => ⟨[], rfl, fun a h => by cases h⟩
 | x :: xs, h => by
  obtain ⟨a, rfl, h1⟩ := h x (List.mem_cons_self ..)
  obtain ⟨l, rfl, h2⟩ := conf_list (xs := xs) (fun y hy => h y (List.mem_cons_of_mem _ hy))
  exact ⟨a :: l, rfl, fun b hb => by rcases List.mem_cons.1 hb with rfl | hb; exact h1; exact h2 b hb⟩
theorem mx_le {n : Nat} (h : n ≤ maxLen) : (n : Int) ≤ mx := by
 unfold maxLen at h
 unfold mx
 omega
theorem conf_I {x : List D} (h : conf ckI x) : ∃ a : Int, x = i64 a ∧ True := by
 obtain ⟨n, ds, rfl, _, h⟩ := h
 have : ds = [] := h
 subst this
 exact ⟨n, rfl, trivial⟩
theorem conf_P2 {x : List D} (h : conf ckP2 x) : ∃ a : P2, x = eP2 a ∧ True := by
 obtain ⟨n, ds, rfl, _, m, ds', rfl, _, h⟩ := h
 have : ds' = [] := h
 subst this
 exact ⟨⟨n, m⟩, rfl, trivial⟩
theorem conf_Pk {x : List D} (h : conf ckPk x) : ∃ a : Pk, x = ePk a ∧ BgP a := by
 obtain ⟨n, _, rfl, _, m, _, rfl, _, xs, _, rfl, h1, h2, ys, _, rfl, h3, h4, h⟩ := h
 have h := (show _ = [] from h)
 subst h
 obtain ⟨f, rfl, _⟩ := conf_list (fun x hx => conf_P2 (h2 x hx))
 obtain ⟨d, rfl, _⟩ := conf_list (fun x hx => conf_P2 (h4 x hx))
 rw [List.length_map] at h1 h3
 exact ⟨⟨n, m, f, d⟩, rfl, mx_le h1, mx_le h3⟩
theorem conf_Pks {xs : List (List D)} (hl : xs.length ≤ maxLen) (h : ∀ x ∈ xs, conf ckPk x) : ∃ l : List Pk, xs = l.map ePk ∧ BgPs l := by
 obtain ⟨l, rfl, h1⟩ := conf_list (fun x hx => conf_Pk (h x hx))
 rw [List.length_map] at hl
 exact ⟨l, rfl, mx_le hl, h1⟩
theorem conf_Dk {x : List D} (h : conf ckDk x) : ∃ d : Dk, x = eDk d ∧ BgD d := by
 obtain ⟨db, _, rfl, a1, a2, fs, _, rfl, b1, b2, has, _, rfl, jr, _, rfl, c1, c2, h⟩ := h
 have h := (show _ = [] from h)
 subst h
 obtain ⟨db, rfl, d1⟩ := conf_Pks a1 a2
 obtain ⟨jr, rfl, d2⟩ := conf_Pks c1 c2
 obtain ⟨fs, rfl, _⟩ := conf_list (fun x hx => conf_I (b2 x hx))
 rw [List.length_map] at b1
 exact ⟨⟨db, fs, has, jr⟩, rfl, d1, mx_le b1, d2⟩
theorem conf_St {x : List D} (h : conf ckSt x) : ∃ s : Stp, x = eSt s ∧ BgPs s.pkgs := by
 obtain ⟨k, _, rfl, _, p, _, rfl, _, d, _, rfl, _, ps, _, rfl, c1, c2, h⟩ := h
 have h := (show _ = [] from h)
 subst h
 obtain ⟨ps, rfl, d2⟩ := conf_Pks c1 c2
 exact ⟨⟨k, p, d, ps⟩, rfl, d2⟩

end V
end Go.Proofs.Ytgialjcichiaoaa

/-
The given statements of four laws on putting in.
-/
namespace Go.Proofs.Ytgialjcichiaoaa
namespace V
set_option maxRecDepth 100000
open Go.ChangeShapes Go.WideShapes Go.ChangeAt Go.RowKit

theorem conf_Sts {xs : List (List D)} (hl : xs.length ≤ maxLen) (h : ∀ x ∈ xs, conf ckSt x) : ∃ l : List Stp, xs = l.map eSt ∧ BgSs l := by
 obtain ⟨l, rfl, h1⟩ := conf_list (fun x hx => conf_St (h x hx))
 rw [List.length_map] at hl
 exact ⟨l, rfl, mx_le hl, h1⟩
def ckPks : Ck := .sl ckPk .nil
def ckSts : Ck := .sl ckSt .nil
def ckB : Ck := .bool .nil
theorem conf_ePks {x : List D} (h : conf ckPks x) : ∃ l : List Pk, x = ePks l ∧ BgPs l := by
 obtain ⟨xs, _, rfl, h1, h2, h⟩ := h
 have h := (show _ = [] from h)
 subst h
 obtain ⟨l, rfl, h3⟩ := conf_Pks h1 h2
 exact ⟨l, rfl, h3⟩
theorem conf_eSts {x : List D} (h : conf ckSts x) : ∃ l : List Stp, x = eSts l ∧ BgSs l := by
 obtain ⟨xs, _, rfl, h1, h2, h⟩ := h
 have h := (show _ = [] from h)
 subst h
 obtain ⟨l, rfl, h3⟩ := conf_Sts h1 h2
 exact ⟨l, rfl, h3⟩
theorem conf_B {x : List D} (h : conf ckB x) : ∃ b : Bool, x = bo b := by
 obtain ⟨b, _, rfl, h⟩ := h
 have h := (show _ = [] from h)
 subst h
 exact ⟨b, rfl⟩
end V
end Go.Proofs.Ytgialjcichiaoaa

/-
Plain proofs: drawn packages.
-/
namespace Go.Proofs.Ytgialjcichiaoaa
namespace V
open Classical
set_option maxRecDepth 100000
variable {W : Wld}

noncomputable def withM (ps : List Pk) (p : Pk) : List Pk := ps.filter (fun q => decide (lessM q p)) ++ [p] ++ ps.filter (fun q => decide (lessM p q))
theorem filter_take {α : Type} [Inhabited α] (f : α → Bool) (ps : List α) {i : Int} (h0 : 0 ≤ i) (h1 : i < ps.length) : (ps.take (i + 1).toNat).filter f = (ps.take i.toNat).filter f ++ if f (ix ps i) = true then [ix ps i] else [] := by
 rw [take_ix ps h0 h1, List.filter_append]
 congr 1
 by_cases h : f (ix ps i) = true <;> simp [h]
theorem l12With_ok (ps : List Pk) (hs : SmPs ps) (h1 : ps.length ≤ 1000000) (p : Pk) (hp : SmP p) : FunOk PP W n_s_l12With s_s_l12With [ePks ps, ePk p] [ePks (withM ps p)] := by
 refine F_s_l12With (run_fun ?_)
 (repeat' first
  | (refine run_ite rfl (fun h => ?_) (fun h => ?_) <;> (try simp (disch := omega) only [zA, z13, z19, z20, z21, z22, z23, z24, z25, z31, eqDs, eqD, Nat.reduceAdd, wrap64] at h) <;> (try (exfalso; omega)))
  | (refine run_need rfl (by (try simp (disch := omega) only [zA, z13, z19, z20, z21, z22, z23, z24, z25, z31, eqDs, eqD, Nat.reduceAdd, wrap64]); first | exact elp_m (by omega) (by first | omega | (simp only [List.length_set]; omega)) (fun _ => rfl) | exact eld_m (by omega) (by first | omega | (simp only [List.length_set]; omega)) (fun _ => rfl) | exact els_m (by omega) (by omega) (by omega) rfl | exact lsl_m (by omega) (fun _ => rfl) | exact app_nil_m (by omega) (fun _ => rfl) (fun _ => rfl) | exact app_m_one (by omega) (fun _ => rfl) rfl rfl | exact app_m_m (by omega) (fun _ => rfl) (fun _ => rfl)) ?_)
  | (refine run_need rfl (by first | decide | omega | (simp only [List.length_map]; omega)) ?_)
  | (refine run_need rfl ?_ ?_)
  | (refine run_ret rfl ?_ ; first | refine rb ?_ | refine ri ?_ | refine rs2 ?_ ?_ | refine rs1 ?_)
  | (refine run_retx rfl ?_))
 refine run_loop rfl (fun i : Int => 0 ≤ i ∧ i ≤ ps.length) (fun i => [(6, .val (i64 i)), (0, .val (ePks ps)), (5, .val (ePks ((ps.take i.toNat).filter (fun q => decide (lessM q p))))), (3, .val (ePk p))]) (fun i => (ps.length - i).toNat) 0 ⟨by omega, by omega⟩ ⟨rfl, rfl, rfl, rfl, trivial⟩ rfl ?_
 rintro i e ⟨h0, hN⟩
 have hft := filter_take (fun q => decide (lessM q p)) ps (i := i) h0
 have hfl : ((ps.take i.toNat).filter (fun q => decide (lessM q p))).length ≤ ps.length := Nat.le_trans (List.length_filter_le _ _) (by rw [List.length_take]; omega)
 have hfin : ¬ i < ps.length → (ps.take i.toNat).filter (fun q => decide (lessM q p)) = ps.filter (fun q => decide (lessM q p)) := fun h => by rw [List.take_of_length_le (by omega)]
 generalize (ps.take i.toNat).filter (fun q => decide (lessM q p)) = A at hft hfl hfin
 (repeat' first
  | (refine run_ite rfl (fun h => ?_) (fun h => ?_) <;> (try simp (disch := omega) only [zA, z13, z19, z20, z21, z22, z23, z24, z25, z31, eqDs, eqD, Nat.reduceAdd, wrap64] at h) <;> (try (exfalso; omega)))
  | (refine run_need rfl (by (try simp (disch := omega) only [zA, z13, z19, z20, z21, z22, z23, z24, z25, z31, eqDs, eqD, Nat.reduceAdd, wrap64]); first | exact elp_m (by omega) (by first | omega | (simp only [List.length_set]; omega)) (fun _ => rfl) | exact eld_m (by omega) (by first | omega | (simp only [List.length_set]; omega)) (fun _ => rfl) | exact els_m (by omega) (by omega) (by omega) rfl | exact lsl_m (by omega) (fun _ => rfl) | exact app_nil_m (by omega) (fun _ => rfl) (fun _ => rfl) | exact app_m_one (by omega) (fun _ => rfl) rfl rfl | exact app_m_m (by omega) (fun _ => rfl) (fun _ => rfl)) ?_)
  | (refine run_need rfl (by first | decide | omega | (simp only [List.length_map]; omega)) ?_)
  | (refine run_calleq rfl (l3Less_ok (ix ps i).name (ix ps i).ver p.name p.ver) (by simp (disch := omega) only [zA, z13, z19, z20, z21, z22, z23, z24, z25, z31, eqDs, eqD, Nat.reduceAdd, wrap64]) rfl ?_)
  | (refine run_next rfl (Exists.intro (i + 1) ⟨by omega, ⟨by omega, by omega⟩, i64_eq (wrap64 _ (by omega)), rfl, ?_, rfl, trivial⟩))
  | (refine run_need rfl ?_ ?_)
  | (refine run_ret rfl ?_ ; first | refine rb ?_ | refine ri ?_ | refine rs2 ?_ ?_ | refine rs1 ?_)
  | (refine run_retx rfl ?_))
 ·rw [hft (by assumption), if_pos (decide_eq_true (show lessM (ix ps i) p from h))]
  refine sl_eq ?_
  simp only [zA, z13, z19, z20, z21, z22, z23, z24, z25, z31, eqDs, eqD, Nat.reduceAdd, List.map_append]
  rfl
 ·rw [hft (by assumption), if_neg (by rw [decide_eq_true_eq]; exact h), List.append_nil]
  rfl
 have hA := hfin h
 clear hft hfin h h0 hN
 unfold withM
 rw [← hA]
 clear hA
 refine run_loop rfl (fun i : Int => 0 ≤ i ∧ i ≤ ps.length) (fun i => [(7, .val (i64 i)), (0, .val (ePks ps)), (5, .val (ePks (A ++ [p] ++ (ps.take i.toNat).filter (fun q => decide (lessM p q))))), (3, .val (ePk p))]) (fun i => (ps.length - i).toNat) 0 ⟨by omega, by omega⟩ ⟨rfl, rfl, ?_, rfl, trivial⟩ rfl ?_
 ·refine sl_eq ?_
  rw [show (ps.take (0 : Int).toNat).filter (fun q => decide (lessM p q)) = [] from rfl, List.append_nil, List.map_append]
  rfl
 rintro i e ⟨h0, hN⟩
 have hft := filter_take (fun q => decide (lessM p q)) ps (i := i) h0
 have hfl2 : ((ps.take i.toNat).filter (fun q => decide (lessM p q))).length ≤ ps.length := Nat.le_trans (List.length_filter_le _ _) (by rw [List.length_take]; omega)
 have hfin : ¬ i < ps.length → (ps.take i.toNat).filter (fun q => decide (lessM p q)) = ps.filter (fun q => decide (lessM p q)) := fun h => by rw [List.take_of_length_le (by omega)]
 generalize (ps.take i.toNat).filter (fun q => decide (lessM p q)) = B at hft hfl2 hfin
 have hBl : (A ++ [p] ++ B).length ≤ 2000001 := by simp; omega
 have hft2 : i < ps.length → A ++ [p] ++ (ps.take (i + 1).toNat).filter (fun q => decide (lessM p q)) = (A ++ [p] ++ B) ++ if decide (lessM p (ix ps i)) = true then [ix ps i] else [] := fun h => by rw [hft h]; simp only [List.append_assoc]
 have hfin2 : ¬ i < ps.length → A ++ [p] ++ B = A ++ [p] ++ ps.filter (fun q => decide (lessM p q)) := fun h => by rw [hfin h]
 generalize A ++ [p] ++ B = E at hBl hft2 hfin2
 (repeat' first
  | (refine run_ite rfl (fun h => ?_) (fun h => ?_) <;> (try simp (disch := omega) only [zA, z13, z19, z20, z21, z22, z23, z24, z25, z31, eqDs, eqD, Nat.reduceAdd, wrap64] at h) <;> (try (exfalso; omega)))
  | (refine run_need rfl (by (try simp (disch := omega) only [zA, z13, z19, z20, z21, z22, z23, z24, z25, z31, eqDs, eqD, Nat.reduceAdd, wrap64]); first | exact elp_m (by omega) (by first | omega | (simp only [List.length_set]; omega)) (fun _ => rfl) | exact eld_m (by omega) (by first | omega | (simp only [List.length_set]; omega)) (fun _ => rfl) | exact els_m (by omega) (by omega) (by omega) rfl | exact lsl_m (by omega) (fun _ => rfl) | exact app_nil_m (by omega) (fun _ => rfl) (fun _ => rfl) | exact app_m_one (by omega) (fun _ => rfl) rfl rfl | exact app_m_m (by omega) (fun _ => rfl) (fun _ => rfl)) ?_)
  | (refine run_need rfl (by first | decide | omega | (simp only [List.length_map]; omega)) ?_)
  | (refine run_calleq rfl (l3Less_ok p.name p.ver (ix ps i).name (ix ps i).ver) (by simp (disch := omega) only [zA, z13, z19, z20, z21, z22, z23, z24, z25, z31, eqDs, eqD, Nat.reduceAdd, wrap64]) rfl ?_)
  | (refine run_next rfl (Exists.intro (i + 1) ⟨by omega, ⟨by omega, by omega⟩, i64_eq (wrap64 _ (by omega)), rfl, ?_, rfl, trivial⟩))
  | (refine run_need rfl ?_ ?_)
  | (refine run_ret rfl ?_ ; first | refine rb ?_ | refine ri ?_ | refine rs2 ?_ ?_ | refine rs1 ?_)
  | (refine run_retx rfl ?_))
 ·rw [hft2 (by assumption), if_pos (decide_eq_true (show lessM p (ix ps i) from h))]
  refine sl_eq ?_
  simp only [zA, z13, z19, z20, z21, z22, z23, z24, z25, z31, eqDs, eqD, Nat.reduceAdd, List.map_append]
  rfl
 ·rw [hft2 (by assumption), if_neg (by rw [decide_eq_true_eq]; exact h), List.append_nil]
  rfl
 ·rw [hfin2 h]

theorem filter2_len {α : Type} (f g : α → Bool) (h : ∀ x, f x = true → g x = true → False) : ∀ l : List α, (l.filter f).length + (l.filter g).length ≤ l.length
 | [] => by simp
 | x :: l => by
  have := filter2_len f g h l
  have hx := h x
  simp only [List.filter_cons, List.length_cons]
  split <;> split <;> simp_all <;> omega
theorem less_not {p q : Pk} (h1 : lessM p q) (h2 : lessM q p) : False := by unfold lessM at h1 h2; omega
theorem withM_len (ps : List Pk) (p : Pk) : (withM ps p).length ≤ ps.length + 1 := by
 have := filter2_len (fun q => decide (lessM q p)) (fun q => decide (lessM p q)) (fun x h1 h2 => less_not (of_decide_eq_true h1) (of_decide_eq_true h2)) ps
 unfold withM
 simp only [List.length_append, List.length_singleton]
 omega
theorem withM_mem {ps : List Pk} {p q : Pk} (h : q ∈ withM ps p) : q ∈ ps ∨ q = p := by
 unfold withM at h
 simp only [List.mem_append, List.mem_filter, List.mem_singleton] at h
 rcases h with (⟨h, _⟩ | h) | ⟨h, _⟩
 ·exact .inl h
 ·exact .inr h
 ·exact .inl h
theorem withM_self (ps : List Pk) (p : Pk) : p ∈ withM ps p := by unfold withM; simp
theorem withM_old {ps : List Pk} {p q : Pk} (h : q ∈ ps) (hn : q.name ≠ p.name) : q ∈ withM ps p := by
 unfold withM
 simp only [List.mem_append, List.mem_filter, List.mem_singleton, decide_eq_true_eq]
 unfold lessM
 rcases Int.lt_or_gt_of_ne hn with h1 | h1
 ·exact .inl (.inl ⟨h, .inl h1⟩)
 ·exact .inr ⟨h, .inl h1⟩

end V
end Go.Proofs.Ytgialjcichiaoaa

/-
Plain proofs: drawn lists of packages.
-/
namespace Go.Proofs.Ytgialjcichiaoaa
namespace V
open Classical
set_option maxRecDepth 100000
variable {W : Wld}

theorem els_g {α : Type} {enc : α → List D} {xs ys : List α} {i : Int} {z : α} {sz : Nat} (h0 : 0 ≤ i) (h1 : i < xs.length) (h2 : i < ys.length) (hz : ∀ x, (enc x).length = sz) : ElsOk (xs.map enc) (ys.map enc) i 0 (enc z) := by
 have a : i.toNat < xs.length := by omega
 have b : i.toNat < ys.length := by omega
 exact ⟨enc xs[i.toNat], enc ys[i.toNat], by simp [a], by simp [b], by rw [hz, hz], by simp [hz]⟩
theorem els_gv {α : Type} {enc : α → List D} {ys : List α} {i : Int} {z : α} {sz : Nat} (h0 : 0 ≤ i) (h2 : i < ys.length) (hz : ∀ x, (enc x).length = sz) : elsV (ys.map enc) i 0 (enc z) = (ys.set i.toNat z).map enc := by
 have b : i.toNat < ys.length := by omega
 simp only [elsV, List.getD_eq_getElem?_getD, List.getElem?_map, List.getElem?_eq_getElem b, Option.map_some, Option.getD_some]
 rw [List.map_set]
 congr 1
 simp [splice, hz]

end V
end Go.Proofs.Ytgialjcichiaoaa

/-
Plain proofs: what the laws compare.
-/
namespace Go.Proofs.Ytgialjcichiaoaa
namespace V
open Classical
set_option maxRecDepth 100000
variable {W : Wld}

theorem p2_ext {p q : P2} (h1 : p.a = q.a) (h2 : p.b = q.b) : p = q := by cases p; cases q; simp_all
theorem pk_ext {p q : Pk} (h1 : p.name = q.name) (h2 : p.ver = q.ver) (h3 : p.files = q.files) (h4 : p.deps = q.deps) : p = q := by cases p; cases q; simp_all

end V
end Go.Proofs.Ytgialjcichiaoaa

/-
Plain proofs, the program's packages.
-/
namespace Go.Proofs.Ytgialjcichiaoaa
namespace V
open Classical
set_option maxRecDepth 100000
variable {W : Wld}

theorem iPkgOk_ok (p : Pk) (hs : SmP p) : FunOk PP W n_i_PkgOk s_i_PkgOk [ePk p] [bo (decide (PkOk p))] := by
 refine F_i_PkgOk (run_fun ?_)
 obtain ⟨hs1, hs2⟩ := hs
 unfold lim at hs1 hs2
 (repeat' first
  | (refine run_ite rfl (fun h => ?_) (fun h => ?_) <;> (try simp (disch := omega) only [zA, z13, z19, z20, z21, z22, z23, z24, z25, z31, eqDs, eqD, Nat.reduceAdd, wrap64] at h) <;> (try (exfalso; omega)))
  | (refine run_need rfl (by (try simp (disch := omega) only [zA, z13, z19, z20, z21, z22, z23, z24, z25, z31, eqDs, eqD, Nat.reduceAdd, wrap64]); first | exact elp_m (by omega) (by first | omega | (simp only [List.length_set]; omega)) (fun _ => rfl) | exact eld_m (by omega) (by first | omega | (simp only [List.length_set]; omega)) (fun _ => rfl) | exact els_m (by omega) (by omega) (by omega) rfl | exact lsl_m (by omega) (fun _ => rfl) | exact app_nil_m (by omega) (fun _ => rfl) (fun _ => rfl) | exact app_m_one (by omega) (fun _ => rfl) rfl rfl | exact app_m_m (by omega) (fun _ => rfl) (fun _ => rfl)) ?_)
  | (refine run_need rfl (by first | decide | omega | (simp only [List.length_map]; omega)) ?_)
  | (refine run_call1 rfl (isName_ok ..) rfl ?_)
  | (refine run_call1 rfl (isVer_ok ..) rfl ?_)
  | (refine run_need rfl ?_ ?_)
  | (refine run_ret rfl ?_ ; first | refine rb ?_ | refine ri ?_ | refine rs2 ?_ ?_ | refine rs1 ?_)
  | (refine run_retx rfl ?_))
 ·exact fD (fun h => by unfold PkOk at h; omega)
 ·exact fD (fun h => by unfold PkOk at h; omega)
 ·exact fD (fun h => by unfold PkOk FilesOk at h; omega)
 ·exact fD (fun h => by unfold PkOk DepsOk at h; omega)
 rename_i q1 q2 q3
 have q4 := h
 clear h
 refine run_loop rfl (fun i : Int => 0 ≤ i ∧ i ≤ p.files.length ∧ Blw i (FileAt p.files)) (fun i => [(32, .val (i64 i)), (30, .val (eP2s p.files)), (31, .val (i64 (p.files.map eP2).length)), (1, .val (ePk p))]) (fun i => (p.files.length - i).toNat) 0 ⟨by omega, by omega, blw_zero _⟩ ⟨rfl, rfl, rfl, rfl, trivial⟩ rfl ?_
 rintro i e ⟨h0, hN, hP⟩
 (repeat' first
  | (refine run_ite rfl (fun h => ?_) (fun h => ?_) <;> (try simp (disch := omega) only [zA, z13, z19, z20, z21, z22, z23, z24, z25, z31, eqDs, eqD, Nat.reduceAdd, wrap64] at h) <;> (try (exfalso; omega)))
  | (refine run_need rfl (by (try simp (disch := omega) only [zA, z13, z19, z20, z21, z22, z23, z24, z25, z31, eqDs, eqD, Nat.reduceAdd, wrap64]); first | exact elp_m (by omega) (by first | omega | (simp only [List.length_set]; omega)) (fun _ => rfl) | exact eld_m (by omega) (by first | omega | (simp only [List.length_set]; omega)) (fun _ => rfl) | exact els_m (by omega) (by omega) (by omega) rfl | exact lsl_m (by omega) (fun _ => rfl) | exact app_nil_m (by omega) (fun _ => rfl) (fun _ => rfl) | exact app_m_one (by omega) (fun _ => rfl) rfl rfl | exact app_m_m (by omega) (fun _ => rfl) (fun _ => rfl)) ?_)
  | (refine run_need rfl (by first | decide | omega | (simp only [List.length_map]; omega)) ?_)
  | (refine run_call1 rfl (in_ok ..) rfl ?_)
  | (refine run_next rfl (Exists.intro (i + 1) ⟨by omega, ⟨by omega, by omega, blw_succ hP ?_⟩, i64_eq (wrap64 _ (by omega)), rfl, rfl, rfl, trivial⟩))
  | (refine run_need rfl ?_ ?_)
  | (refine run_ret rfl ?_ ; first | refine rb ?_ | refine ri ?_ | refine rs2 ?_ ?_ | refine rs1 ?_)
  | (refine run_retx rfl ?_))
 ·exact fD (fun ⟨_, _, ⟨h, _⟩, _⟩ => by have := h i (by omega) (by omega); unfold FileAt at this; omega)
 ·exact fD (fun ⟨_, _, ⟨h, _⟩, _⟩ => by have := h i (by omega) (by omega); unfold FileAt at this; omega)
 ·exact fD (fun ⟨_, _, ⟨h, _⟩, _⟩ => by have := h i (by omega) (by omega); unfold FileAt at this; omega)
 ·unfold FileAt; omega
 ·unfold FileAt; omega
 have hF : FilesOk p.files := ⟨blw_to hP (by omega), by omega⟩
 clear hP h0 hN
 refine run_loop rfl (fun i : Int => 0 ≤ i ∧ i ≤ p.deps.length ∧ Blw i (DepAt p.name p.deps)) (fun i => [(67, .val (i64 i)), (65, .val (eP2s p.deps)), (66, .val (i64 (p.deps.map eP2).length)), (1, .val (ePk p))]) (fun i => (p.deps.length - i).toNat) 0 ⟨by omega, by omega, blw_zero _⟩ ⟨rfl, rfl, rfl, rfl, trivial⟩ rfl ?_
 rintro i e ⟨h0, hN, hP⟩
 (repeat' first
  | (refine run_ite rfl (fun h => ?_) (fun h => ?_) <;> (try simp (disch := omega) only [zA, z13, z19, z20, z21, z22, z23, z24, z25, z31, eqDs, eqD, Nat.reduceAdd, wrap64] at h) <;> (try (exfalso; omega)))
  | (refine run_need rfl (by (try simp (disch := omega) only [zA, z13, z19, z20, z21, z22, z23, z24, z25, z31, eqDs, eqD, Nat.reduceAdd, wrap64]); first | exact elp_m (by omega) (by first | omega | (simp only [List.length_set]; omega)) (fun _ => rfl) | exact eld_m (by omega) (by first | omega | (simp only [List.length_set]; omega)) (fun _ => rfl) | exact els_m (by omega) (by omega) (by omega) rfl | exact lsl_m (by omega) (fun _ => rfl) | exact app_nil_m (by omega) (fun _ => rfl) (fun _ => rfl) | exact app_m_one (by omega) (fun _ => rfl) rfl rfl | exact app_m_m (by omega) (fun _ => rfl) (fun _ => rfl)) ?_)
  | (refine run_need rfl (by first | decide | omega | (simp only [List.length_map]; omega)) ?_)
  | (refine run_call1 rfl (isName_ok ..) rfl ?_)
  | (refine run_call1 rfl (isVer_ok ..) rfl ?_)
  | (refine run_next rfl (Exists.intro (i + 1) ⟨by omega, ⟨by omega, by omega, blw_succ hP ?_⟩, i64_eq (wrap64 _ (by omega)), rfl, rfl, rfl, trivial⟩))
  | (refine run_need rfl ?_ ?_)
  | (refine run_ret rfl ?_ ; first | refine rb ?_ | refine ri ?_ | refine rs2 ?_ ?_ | refine rs1 ?_)
  | (refine run_retx rfl ?_))
 ·exact fD (fun ⟨_, _, _, h, _⟩ => by have := h i (by omega) (by omega); unfold DepAt at this; omega)
 ·exact fD (fun ⟨_, _, _, h, _⟩ => by have := h i (by omega) (by omega); unfold DepAt at this; omega)
 ·exact fD (fun ⟨_, _, _, h, _⟩ => by have := h i (by omega) (by omega); unfold DepAt at this; omega)
 ·exact fD (fun ⟨_, _, _, h, _⟩ => by have := h i (by omega) (by omega); unfold DepAt at this; omega)
 ·unfold DepAt; omega
 ·unfold DepAt; omega
 ·exact tD ⟨q1, q2, hF, blw_to hP (by omega), by omega⟩

end V
end Go.Proofs.Ytgialjcichiaoaa

/-
Plain proofs: the program's stores.
-/
namespace Go.Proofs.Ytgialjcichiaoaa
namespace V
open Classical
set_option maxRecDepth 100000
variable {W : Wld}

theorem isNaN_ok (a : Int) : FunOk PP W n_cmp_isNaN_int s_cmp_isNaN_int [i64 a] [bo false] := by
 refine F_cmp_isNaN_int (run_fun ?_)
 (repeat' first
  | (refine run_ite rfl (fun h => ?_) (fun h => ?_) <;> (try simp (disch := omega) only [zA, z13, z19, z20, z21, z22, z23, z24, z25, z31, eqDs, eqD, Nat.reduceAdd, wrap64] at h) <;> (try (exfalso; omega)))
  | (refine run_need rfl (by (try simp (disch := omega) only [zA, z13, z19, z20, z21, z22, z23, z24, z25, z31, eqDs, eqD, Nat.reduceAdd, wrap64]); first | exact elp_m (by omega) (by first | omega | (simp only [List.length_set]; omega)) (fun _ => rfl) | exact eld_m (by omega) (by first | omega | (simp only [List.length_set]; omega)) (fun _ => rfl) | exact els_m (by omega) (by omega) (by omega) rfl | exact lsl_m (by omega) (fun _ => rfl) | exact app_nil_m (by omega) (fun _ => rfl) (fun _ => rfl) | exact app_m_one (by omega) (fun _ => rfl) rfl rfl | exact app_m_m (by omega) (fun _ => rfl) (fun _ => rfl)) ?_)
  | (refine run_need rfl (by first | decide | omega | (simp only [List.length_map]; omega)) ?_)
  | (refine run_need rfl ?_ ?_)
  | (refine run_ret rfl ?_ ; first | refine rb ?_ | refine ri ?_ | refine rs2 ?_ ?_ | refine rs1 ?_)
  | (refine run_retx rfl ?_))
 simp

def cmpM (a b : Int) : Int := if a < b then -1 else if b < a then 1 else 0
theorem cmpI_ok (a b : Int) : FunOk PP W n_cmp_Compare_int s_cmp_Compare_int [i64 a, i64 b] [i64 (cmpM a b)] := by
 refine F_cmp_Compare_int (run_fun ?_)
 (repeat' first
  | (refine run_ite rfl (fun h => ?_) (fun h => ?_) <;> (try simp (disch := omega) only [zA, z13, z19, z20, z21, z22, z23, z24, z25, z31, eqDs, eqD, Nat.reduceAdd, wrap64] at h) <;> (try (exfalso; omega)))
  | (refine run_need rfl (by (try simp (disch := omega) only [zA, z13, z19, z20, z21, z22, z23, z24, z25, z31, eqDs, eqD, Nat.reduceAdd, wrap64]); first | exact elp_m (by omega) (by first | omega | (simp only [List.length_set]; omega)) (fun _ => rfl) | exact eld_m (by omega) (by first | omega | (simp only [List.length_set]; omega)) (fun _ => rfl) | exact els_m (by omega) (by omega) (by omega) rfl | exact lsl_m (by omega) (fun _ => rfl) | exact app_nil_m (by omega) (fun _ => rfl) (fun _ => rfl) | exact app_m_one (by omega) (fun _ => rfl) rfl rfl | exact app_m_m (by omega) (fun _ => rfl) (fun _ => rfl)) ?_)
  | (refine run_need rfl (by first | decide | omega | (simp only [List.length_map]; omega)) ?_)
  | (refine run_call1 rfl (isNaN_ok ..) rfl ?_)
  | (refine run_need rfl ?_ ?_)
  | (refine run_ret rfl ?_ ; first | refine rb ?_ | refine ri ?_ | refine rs2 ?_ ?_ | refine rs1 ?_)
  | (refine run_retx rfl ?_))
 all_goals unfold cmpM
 all_goals (repeat' split) <;> omega

theorem cmpOr_ok (a b : Int) : FunOk PP W n_cmp_Or_int s_cmp_Or_int [eIs [a, b]] [i64 (if a = 0 then b else a)] := by
 refine F_cmp_Or_int (run_fun ?_)
 (repeat' first
  | (refine run_ite rfl (fun h => ?_) (fun h => ?_) <;> (try simp (disch := omega) only [zA, z13, z19, z20, z21, z22, z23, z24, z25, z31, eqDs, eqD, Nat.reduceAdd, wrap64] at h) <;> (try (exfalso; omega)))
  | (refine run_need rfl (by (try simp (disch := omega) only [zA, z13, z19, z20, z21, z22, z23, z24, z25, z31, eqDs, eqD, Nat.reduceAdd, wrap64]); first | exact elp_m (by omega) (by first | omega | (simp only [List.length_set]; omega)) (fun _ => rfl) | exact eld_m (by omega) (by first | omega | (simp only [List.length_set]; omega)) (fun _ => rfl) | exact els_m (by omega) (by omega) (by omega) rfl | exact lsl_m (by omega) (fun _ => rfl) | exact app_nil_m (by omega) (fun _ => rfl) (fun _ => rfl) | exact app_m_one (by omega) (fun _ => rfl) rfl rfl | exact app_m_m (by omega) (fun _ => rfl) (fun _ => rfl)) ?_)
  | (refine run_need rfl (by first | decide | omega | (simp only [List.length_map]; omega)) ?_)
  | (refine run_need rfl ?_ ?_)
  | (refine run_ret rfl ?_ ; first | refine rb ?_ | refine ri ?_ | refine rs2 ?_ ?_ | refine rs1 ?_)
  | (refine run_retx rfl ?_))
 refine run_loop rfl (fun i : Int => 0 ≤ i ∧ i ≤ 2 ∧ (0 < i → a = 0) ∧ (1 < i → b = 0)) (fun i => [(8, .val (i64 i)), (6, .val (eIs [a, b])), (7, .val (i64 2)), (3, .val (i64 0))]) (fun i => (2 - i).toNat) 0 ⟨by omega, by omega, by omega, by omega⟩ ⟨rfl, rfl, rfl, rfl, trivial⟩ rfl ?_
 rintro i e ⟨h0, hN, hP1, hP2⟩
 (repeat' first
  | (refine run_ite rfl (fun h => ?_) (fun h => ?_) <;> (try simp (disch := omega) only [zA, z13, z19, z20, z21, z22, z23, z24, z25, z31, eqDs, eqD, Nat.reduceAdd, wrap64] at h) <;> (try (exfalso; omega)))
  | (refine run_need rfl (by (try simp (disch := omega) only [zA, z13, z19, z20, z21, z22, z23, z24, z25, z31, eqDs, eqD, Nat.reduceAdd, wrap64]); first | exact elp_m (by omega) (by first | omega | (simp only [List.length_set]; omega)) (fun _ => rfl) | exact eld_m (by omega) (by first | omega | (simp only [List.length_set]; omega)) (fun _ => rfl) | exact els_m (by omega) (by omega) (by omega) rfl | exact lsl_m (by omega) (fun _ => rfl) | exact app_nil_m (by omega) (fun _ => rfl) (fun _ => rfl) | exact app_m_one (by omega) (fun _ => rfl) rfl rfl | exact app_m_m (by omega) (fun _ => rfl) (fun _ => rfl)) ?_)
  | (refine run_need rfl (by first | decide | omega | (simp only [List.length_map]; omega)) ?_)
  | (refine run_next rfl (Exists.intro (i + 1) ⟨by omega, ⟨by omega, by omega, ?_, ?_⟩, i64_eq (wrap64 _ (by omega)), rfl, rfl, rfl, trivial⟩))
  | (refine run_need rfl ?_ ?_)
  | (refine run_ret rfl ?_ ; first | refine rb ?_ | refine ri ?_ | refine rs2 ?_ ?_ | refine rs1 ?_)
  | (refine run_retx rfl ?_))
 ·rw [cI_I]
  have hi : i = 0 ∨ i = 1 := by omega
  rcases hi with rfl | rfl <;> simp_all [ix]
 ·intro _
  have hi : i = 0 ∨ i = 1 := by omega
  rcases hi with rfl | rfl <;> simp_all [ix]
 ·intro _
  have hi : i = 1 := by omega
  subst hi
  simp_all [ix]
 ·rw [if_pos (hP1 (by omega)), hP2 (by omega)]

theorem compare_ok (p q : Pk) : FunOk PP W n_i_Pkg_compare s_i_Pkg_compare [ePk p, ePk q] [i64 (if cmpM p.name q.name = 0 then cmpM p.ver q.ver else cmpM p.name q.name)] := by
 refine F_i_Pkg_compare (run_fun ?_)
 (repeat' first
  | (refine run_ite rfl (fun h => ?_) (fun h => ?_) <;> (try simp (disch := omega) only [zA, z13, z19, z20, z21, z22, z23, z24, z25, z31, eqDs, eqD, Nat.reduceAdd, wrap64] at h) <;> (try (exfalso; omega)))
  | (refine run_need rfl (by (try simp (disch := omega) only [zA, z13, z19, z20, z21, z22, z23, z24, z25, z31, eqDs, eqD, Nat.reduceAdd, wrap64]); first | exact elp_m (by omega) (by first | omega | (simp only [List.length_set]; omega)) (fun _ => rfl) | exact eld_m (by omega) (by first | omega | (simp only [List.length_set]; omega)) (fun _ => rfl) | exact els_m (by omega) (by omega) (by omega) rfl | exact lsl_m (by omega) (fun _ => rfl) | exact app_nil_m (by omega) (fun _ => rfl) (fun _ => rfl) | exact app_m_one (by omega) (fun _ => rfl) rfl rfl | exact app_m_m (by omega) (fun _ => rfl) (fun _ => rfl)) ?_)
  | (refine run_need rfl (by first | decide | omega | (simp only [List.length_map]; omega)) ?_)
  | (refine run_call1 rfl (cmpI_ok ..) rfl ?_)
  | (refine run_call1 rfl (cmpOr_ok ..) rfl ?_)
  | (refine run_need rfl ?_ ?_)
  | (refine run_ret rfl ?_ ; first | refine rb ?_ | refine ri ?_ | refine rs2 ?_ ?_ | refine rs1 ?_)
  | (refine run_retx rfl ?_))
 rfl
theorem compare_less (p q : Pk) : ¬ 0 ≤ (if cmpM p.name q.name = 0 then cmpM p.ver q.ver else cmpM p.name q.name) ↔ lessM p q := by
 unfold cmpM lessM
 (repeat' split) <;> omega

theorem iStoreOk_ok (ps : List Pk) (hs : SmPs ps) : FunOk PP W n_i_StoreOk s_i_StoreOk [ePks ps] [bo (decide (PksOk ps))] := by
 refine F_i_StoreOk (run_fun ?_)
 have hl := hs.1
 unfold lim at hl
 refine run_loop rfl (fun i : Int => 0 ≤ i ∧ i ≤ ps.length ∧ Blw i (PkAt ps)) (fun i => [(7, .val (i64 i)), (0, .val (ePks ps)), (5, .val (ePks ps)), (6, .val (i64 (ps.map ePk).length))]) (fun i => (ps.length - i).toNat) 0 ⟨by omega, by omega, blw_zero _⟩ ⟨rfl, rfl, rfl, rfl, trivial⟩ rfl ?_
 rintro i e ⟨h0, hN, hP⟩
 (repeat' first
  | (refine run_ite rfl (fun h => ?_) (fun h => ?_) <;> (try simp (disch := omega) only [zA, z13, z19, z20, z21, z22, z23, z24, z25, z31, eqDs, eqD, Nat.reduceAdd, wrap64] at h) <;> (try (exfalso; omega)))
  | (refine run_need rfl (by (try simp (disch := omega) only [zA, z13, z19, z20, z21, z22, z23, z24, z25, z31, eqDs, eqD, Nat.reduceAdd, wrap64]); first | exact elp_m (by omega) (by first | omega | (simp only [List.length_set]; omega)) (fun _ => rfl) | exact eld_m (by omega) (by first | omega | (simp only [List.length_set]; omega)) (fun _ => rfl) | exact els_m (by omega) (by omega) (by omega) rfl | exact lsl_m (by omega) (fun _ => rfl) | exact app_nil_m (by omega) (fun _ => rfl) (fun _ => rfl) | exact app_m_one (by omega) (fun _ => rfl) rfl rfl | exact app_m_m (by omega) (fun _ => rfl) (fun _ => rfl)) ?_)
  | (refine run_need rfl (by first | decide | omega | (simp only [List.length_map]; omega)) ?_)
  | (refine run_calleq rfl (iPkgOk_ok (ix ps i) (smPs_ix hs (by omega) (by omega))) (by simp (disch := omega) only [zA, z13, z19, z20, z21, z22, z23, z24, z25, z31, eqDs, eqD, Nat.reduceAdd, wrap64]) rfl ?_)
  | (refine run_calleq rfl (compare_ok (ix ps (i - 1)) (ix ps i)) (by simp (disch := omega) only [zA, z13, z19, z20, z21, z22, z23, z24, z25, z31, eqDs, eqD, Nat.reduceAdd, wrap64]) rfl ?_)
  | (refine run_next rfl (Exists.intro (i + 1) ⟨by omega, ⟨by omega, by omega, blw_succ hP ?_⟩, i64_eq (wrap64 _ (by omega)), rfl, rfl, rfl, trivial⟩))
  | (refine run_need rfl ?_ ?_)
  | (refine run_ret rfl ?_ ; first | refine rb ?_ | refine ri ?_ | refine rs2 ?_ ?_ | refine rs1 ?_)
  | (refine run_retx rfl ?_))
 ·exact fD (fun h' => absurd (h' i (by omega) (by omega)).1 (by assumption))
 ·exact fD (fun h' => (compare_less _ _).2 ((h' i (by omega) (by omega)).2 (by assumption)) h)
 ·exact ⟨by assumption, fun _ => (compare_less _ _).1 h⟩
 ·exact ⟨by assumption, fun h' => absurd h' (by assumption)⟩
 ·exact tD (blw_to hP (by omega))
end V
end Go.Proofs.Ytgialjcichiaoaa

/-
Plain proofs: the program's plans.
-/
namespace Go.Proofs.Ytgialjcichiaoaa
namespace V
open Classical
set_option maxRecDepth 100000
variable {W : Wld}

noncomputable def idxF {α : Type} [Inhabited α] (P : α → Prop) (xs : List α) : Nat → Int → Int
 | 0, _ => -1
 | n + 1, i => if P (ix xs i) then i else idxF P xs n (i + 1)

def bearsP (d : P2) (p : Pk) : Prop := p.name = d.a ∧ d.b ≤ p.ver
theorem bears1_ok (p : Pk) (d : P2) : FunOk PP W n_i_bears_1 s_i_bears_1 [ePk p, eP2 d] [bo (decide (bearsP d p))] := by
 refine F_i_bears_1 (run_fun ?_)
 unfold bearsP
 (repeat' first
  | (refine run_ite rfl (fun h => ?_) (fun h => ?_) <;> (try simp (disch := omega) only [zA, z13, z19, z20, z21, z22, z23, z24, z25, z31, eqDs, eqD, Nat.reduceAdd, wrap64] at h) <;> (try (exfalso; omega)))
  | (refine run_need rfl (by (try simp (disch := omega) only [zA, z13, z19, z20, z21, z22, z23, z24, z25, z31, eqDs, eqD, Nat.reduceAdd, wrap64]); first | exact elp_m (by omega) (by first | omega | (simp only [List.length_set]; omega)) (fun _ => rfl) | exact eld_m (by omega) (by first | omega | (simp only [List.length_set]; omega)) (fun _ => rfl) | exact els_m (by omega) (by omega) (by omega) rfl | exact lsl_m (by omega) (fun _ => rfl) | exact app_nil_m (by omega) (fun _ => rfl) (fun _ => rfl) | exact app_m_one (by omega) (fun _ => rfl) rfl rfl | exact app_m_m (by omega) (fun _ => rfl) (fun _ => rfl)) ?_)
  | (refine run_need rfl (by first | decide | omega | (simp only [List.length_map]; omega)) ?_)
  | (refine run_need rfl ?_ ?_)
  | (refine run_ret rfl ?_ ; first | refine rb ?_ | refine ri ?_ | refine rs2 ?_ ?_ | refine rs1 ?_)
  | (refine run_retx rfl ?_))
 all_goals simp_all

theorem idxPkg_ok (ps : List Pk) (hl : ps.length ≤ lim) (d : P2) : FunOk PP W n_sl_IndexFunc_Pkg s_sl_IndexFunc_Pkg [ePks ps, [.fn n_i_bears_1 [] [eP2 d]]] [i64 (idxF (bearsP d) ps ps.length 0)] := by
 refine F_sl_IndexFunc_Pkg (run_fun ?_)
 unfold lim at hl
 refine run_loop rfl (fun i : Int => 0 ≤ i ∧ i ≤ ps.length ∧ idxF (bearsP d) ps ps.length 0 = idxF (bearsP d) ps (ps.length - i).toNat i) (fun i => [(8, .val (i64 i)), (0, .val (ePks ps)), (1, .val [.fn n_i_bears_1 [] [eP2 d]]), (7, .val (i64 (ps.map ePk).length))]) (fun i => (ps.length - i).toNat) 0 ⟨by omega, by omega, by simp⟩ ⟨rfl, rfl, rfl, rfl, trivial⟩ rfl ?_
 rintro i e ⟨h0, hN, hP⟩
 (repeat' first
  | (refine run_ite rfl (fun h => ?_) (fun h => ?_) <;> (try simp (disch := omega) only [zA, z13, z19, z20, z21, z22, z23, z24, z25, z31, eqDs, eqD, Nat.reduceAdd, wrap64] at h) <;> (try (exfalso; omega)))
  | (refine run_need rfl (by (try simp (disch := omega) only [zA, z13, z19, z20, z21, z22, z23, z24, z25, z31, eqDs, eqD, Nat.reduceAdd, wrap64]); first | exact elp_m (by omega) (by first | omega | (simp only [List.length_set]; omega)) (fun _ => rfl) | exact eld_m (by omega) (by first | omega | (simp only [List.length_set]; omega)) (fun _ => rfl) | exact els_m (by omega) (by omega) (by omega) rfl | exact lsl_m (by omega) (fun _ => rfl) | exact app_nil_m (by omega) (fun _ => rfl) (fun _ => rfl) | exact app_m_one (by omega) (fun _ => rfl) rfl rfl | exact app_m_m (by omega) (fun _ => rfl) (fun _ => rfl)) ?_)
  | (refine run_need rfl (by first | decide | omega | (simp only [List.length_map]; omega)) ?_)
  | (refine run_clo1 (ins' := [ePk (ix ps i)]) rfl (bears1_ok (ix ps i) d) (by simp (disch := omega) only [zA, z13, z19, z20, z21, z22, z23, z24, z25, z31, eqDs, eqD, Nat.reduceAdd, wrap64]) rfl ?_)
  | (refine run_next rfl (Exists.intro (i + 1) ⟨by omega, ⟨by omega, by omega, ?_⟩, i64_eq (wrap64 _ (by omega)), rfl, rfl, rfl, trivial⟩))
  | (refine run_need rfl ?_ ?_)
  | (refine run_ret rfl ?_ ; first | refine rb ?_ | refine ri ?_ | refine rs2 ?_ ?_ | refine rs1 ?_)
  | (refine run_retx rfl ?_))
 ·rw [hP, show ((ps.length : Int) - i).toNat = ((ps.length : Int) - (i + 1)).toNat + 1 by omega, idxF, if_pos h]
 ·rw [hP, show ((ps.length : Int) - i).toNat = ((ps.length : Int) - (i + 1)).toNat + 1 by omega, idxF, if_neg h]
 ·rw [hP, show ((ps.length : Int) - i).toNat = 0 by omega, idxF]

theorem idxF_pos {α : Type} [Inhabited α] (P : α → Prop) (xs : List α) : ∀ (n : Nat) (i : Int), 0 ≤ i → (0 ≤ idxF P xs n i ↔ ∃ j, i ≤ j ∧ j < i + n ∧ P (ix xs j))
 | 0, i, h0 => by
  unfold idxF
  constructor
  ·intro h; omega
  ·rintro ⟨j, h1, h2, _⟩; omega
 | n + 1, i, h0 => by
  unfold idxF
  by_cases hp : P (ix xs i)
  ·rw [if_pos hp]
   exact ⟨fun _ => ⟨i, by omega, by omega, hp⟩, fun _ => h0⟩
  ·rw [if_neg hp, idxF_pos P xs n (i + 1) (by omega)]
   constructor
   ·rintro ⟨j, h1, h2, h3⟩; exact ⟨j, by omega, by omega, h3⟩
   ·rintro ⟨j, h1, h2, h3⟩
    by_cases hj : j = i
    ·subst hj; exact absurd h3 hp
    ·exact ⟨j, by omega, by omega, h3⟩
theorem idxF_mem {α : Type} [Inhabited α] (P : α → Prop) (xs : List α) : 0 ≤ idxF P xs xs.length 0 ↔ ∃ x ∈ xs, P x := by
 rw [idxF_pos P xs xs.length 0 (by omega)]
 constructor
 ·rintro ⟨j, h1, h2, h3⟩; exact ⟨_, ix_mem h1 (by omega), h3⟩
 ·rintro ⟨x, hx, h⟩
  obtain ⟨j, h1, h2, rfl⟩ := mem_ix hx
  exact ⟨j, h1, by omega, h⟩

theorem conPkg_ok (ps : List Pk) (hl : ps.length ≤ lim) (d : P2) : FunOk PP W n_sl_ContainsFunc_Pkg s_sl_ContainsFunc_Pkg [ePks ps, [.fn n_i_bears_1 [] [eP2 d]]] [bo (decide (∃ p ∈ ps, bearsP d p))] := by
 refine F_sl_ContainsFunc_Pkg (run_fun ?_)
 (repeat' first
  | (refine run_ite rfl (fun h => ?_) (fun h => ?_) <;> (try simp (disch := omega) only [zA, z13, z19, z20, z21, z22, z23, z24, z25, z31, eqDs, eqD, Nat.reduceAdd, wrap64] at h) <;> (try (exfalso; omega)))
  | (refine run_need rfl (by (try simp (disch := omega) only [zA, z13, z19, z20, z21, z22, z23, z24, z25, z31, eqDs, eqD, Nat.reduceAdd, wrap64]); first | exact elp_m (by omega) (by first | omega | (simp only [List.length_set]; omega)) (fun _ => rfl) | exact eld_m (by omega) (by first | omega | (simp only [List.length_set]; omega)) (fun _ => rfl) | exact els_m (by omega) (by omega) (by omega) rfl | exact lsl_m (by omega) (fun _ => rfl) | exact app_nil_m (by omega) (fun _ => rfl) (fun _ => rfl) | exact app_m_one (by omega) (fun _ => rfl) rfl rfl | exact app_m_m (by omega) (fun _ => rfl) (fun _ => rfl)) ?_)
  | (refine run_need rfl (by first | decide | omega | (simp only [List.length_map]; omega)) ?_)
  | (refine run_call1 rfl (idxPkg_ok ps hl d) rfl ?_)
  | (refine run_need rfl ?_ ?_)
  | (refine run_ret rfl ?_ ; first | refine rb ?_ | refine ri ?_ | refine rs2 ?_ ?_ | refine rs1 ?_)
  | (refine run_retx rfl ?_))
 congr 1
 simp only [ge_iff_le, eq_iff_iff]
 exact idxF_mem _ _
theorem bears_ok (ps : List Pk) (hl : ps.length ≤ lim) (d : P2) : FunOk PP W n_i_bears s_i_bears [ePks ps, eP2 d] [bo (decide (∃ p ∈ ps, bearsP d p))] := by
 refine F_i_bears (run_fun ?_)
 (repeat' first
  | (refine run_ite rfl (fun h => ?_) (fun h => ?_) <;> (try simp (disch := omega) only [zA, z13, z19, z20, z21, z22, z23, z24, z25, z31, eqDs, eqD, Nat.reduceAdd, wrap64] at h) <;> (try (exfalso; omega)))
  | (refine run_need rfl (by (try simp (disch := omega) only [zA, z13, z19, z20, z21, z22, z23, z24, z25, z31, eqDs, eqD, Nat.reduceAdd, wrap64]); first | exact elp_m (by omega) (by first | omega | (simp only [List.length_set]; omega)) (fun _ => rfl) | exact eld_m (by omega) (by first | omega | (simp only [List.length_set]; omega)) (fun _ => rfl) | exact els_m (by omega) (by omega) (by omega) rfl | exact lsl_m (by omega) (fun _ => rfl) | exact app_nil_m (by omega) (fun _ => rfl) (fun _ => rfl) | exact app_m_one (by omega) (fun _ => rfl) rfl rfl | exact app_m_m (by omega) (fun _ => rfl) (fun _ => rfl)) ?_)
  | (refine run_need rfl (by first | decide | omega | (simp only [List.length_map]; omega)) ?_)
  | (refine run_call1 rfl (conPkg_ok ps hl d) rfl ?_)
  | (refine run_need rfl ?_ ?_)
  | (refine run_ret rfl ?_ ; first | refine rb ?_ | refine ri ?_ | refine rs2 ?_ ?_ | refine rs1 ?_)
  | (refine run_retx rfl ?_))
 rfl

def lacksP (ps : List Pk) (d : P2) : Prop := ¬ ∃ p ∈ ps, bearsP d p
theorem planOk1_ok (ps : List Pk) (hl : ps.length ≤ lim) (d : P2) : FunOk PP W n_i_PlanOk_1 s_i_PlanOk_1 [eP2 d, ePks ps] [bo (decide (lacksP ps d))] := by
 refine F_i_PlanOk_1 (run_fun ?_)
 (repeat' first
  | (refine run_ite rfl (fun h => ?_) (fun h => ?_) <;> (try simp (disch := omega) only [zA, z13, z19, z20, z21, z22, z23, z24, z25, z31, eqDs, eqD, Nat.reduceAdd, wrap64] at h) <;> (try (exfalso; omega)))
  | (refine run_need rfl (by (try simp (disch := omega) only [zA, z13, z19, z20, z21, z22, z23, z24, z25, z31, eqDs, eqD, Nat.reduceAdd, wrap64]); first | exact elp_m (by omega) (by first | omega | (simp only [List.length_set]; omega)) (fun _ => rfl) | exact eld_m (by omega) (by first | omega | (simp only [List.length_set]; omega)) (fun _ => rfl) | exact els_m (by omega) (by omega) (by omega) rfl | exact lsl_m (by omega) (fun _ => rfl) | exact app_nil_m (by omega) (fun _ => rfl) (fun _ => rfl) | exact app_m_one (by omega) (fun _ => rfl) rfl rfl | exact app_m_m (by omega) (fun _ => rfl) (fun _ => rfl)) ?_)
  | (refine run_need rfl (by first | decide | omega | (simp only [List.length_map]; omega)) ?_)
  | (refine run_call1 rfl (bears_ok ps hl d) rfl ?_)
  | (refine run_need rfl ?_ ?_)
  | (refine run_ret rfl ?_ ; first | refine rb ?_ | refine ri ?_ | refine rs2 ?_ ?_ | refine rs1 ?_)
  | (refine run_retx rfl ?_))
 by_cases hx : ∃ p ∈ ps, bearsP d p
 ·rw [decide_eq_true hx]; exact fD (p := lacksP ps d) (fun h => h hx)
 ·rw [decide_eq_false hx]; exact tD (p := lacksP ps d) hx
theorem idxDep_ok (ps : List Pk) (hp : ps.length ≤ lim) (ds : List P2) (hl : ds.length ≤ lim) : FunOk PP W n_sl_IndexFunc_Dep s_sl_IndexFunc_Dep [eP2s ds, [.fn n_i_PlanOk_1 [] [ePks ps]]] [i64 (idxF (lacksP ps) ds ds.length 0)] := by
 refine F_sl_IndexFunc_Dep (run_fun ?_)
 unfold lim at hl
 refine run_loop rfl (fun i : Int => 0 ≤ i ∧ i ≤ ds.length ∧ idxF (lacksP ps) ds ds.length 0 = idxF (lacksP ps) ds (ds.length - i).toNat i) (fun i => [(8, .val (i64 i)), (0, .val (eP2s ds)), (1, .val [.fn n_i_PlanOk_1 [] [ePks ps]]), (7, .val (i64 (ds.map eP2).length))]) (fun i => (ds.length - i).toNat) 0 ⟨by omega, by omega, by simp⟩ ⟨rfl, rfl, rfl, rfl, trivial⟩ rfl ?_
 rintro i e ⟨h0, hN, hP⟩
 (repeat' first
  | (refine run_ite rfl (fun h => ?_) (fun h => ?_) <;> (try simp (disch := omega) only [zA, z13, z19, z20, z21, z22, z23, z24, z25, z31, eqDs, eqD, Nat.reduceAdd, wrap64] at h) <;> (try (exfalso; omega)))
  | (refine run_need rfl (by (try simp (disch := omega) only [zA, z13, z19, z20, z21, z22, z23, z24, z25, z31, eqDs, eqD, Nat.reduceAdd, wrap64]); first | exact elp_m (by omega) (by first | omega | (simp only [List.length_set]; omega)) (fun _ => rfl) | exact eld_m (by omega) (by first | omega | (simp only [List.length_set]; omega)) (fun _ => rfl) | exact els_m (by omega) (by omega) (by omega) rfl | exact lsl_m (by omega) (fun _ => rfl) | exact app_nil_m (by omega) (fun _ => rfl) (fun _ => rfl) | exact app_m_one (by omega) (fun _ => rfl) rfl rfl | exact app_m_m (by omega) (fun _ => rfl) (fun _ => rfl)) ?_)
  | (refine run_need rfl (by first | decide | omega | (simp only [List.length_map]; omega)) ?_)
  | (refine run_clo1 (ins' := [eP2 (ix ds i)]) rfl (planOk1_ok ps hp (ix ds i)) (by simp (disch := omega) only [zA, z13, z19, z20, z21, z22, z23, z24, z25, z31, eqDs, eqD, Nat.reduceAdd, wrap64]) rfl ?_)
  | (refine run_next rfl (Exists.intro (i + 1) ⟨by omega, ⟨by omega, by omega, ?_⟩, i64_eq (wrap64 _ (by omega)), rfl, rfl, rfl, trivial⟩))
  | (refine run_need rfl ?_ ?_)
  | (refine run_ret rfl ?_ ; first | refine rb ?_ | refine ri ?_ | refine rs2 ?_ ?_ | refine rs1 ?_)
  | (refine run_retx rfl ?_))
 ·rw [hP, show ((ds.length : Int) - i).toNat = ((ds.length : Int) - (i + 1)).toNat + 1 by omega, idxF, if_pos h]
 ·rw [hP, show ((ds.length : Int) - i).toNat = ((ds.length : Int) - (i + 1)).toNat + 1 by omega, idxF, if_neg h]
 ·rw [hP, show ((ds.length : Int) - i).toNat = 0 by omega, idxF]
theorem conDep_ok (ps : List Pk) (hp : ps.length ≤ lim) (ds : List P2) (hl : ds.length ≤ lim) : FunOk PP W n_sl_ContainsFunc_Dep s_sl_ContainsFunc_Dep [eP2s ds, [.fn n_i_PlanOk_1 [] [ePks ps]]] [bo (decide (∃ d ∈ ds, lacksP ps d))] := by
 refine F_sl_ContainsFunc_Dep (run_fun ?_)
 (repeat' first
  | (refine run_ite rfl (fun h => ?_) (fun h => ?_) <;> (try simp (disch := omega) only [zA, z13, z19, z20, z21, z22, z23, z24, z25, z31, eqDs, eqD, Nat.reduceAdd, wrap64] at h) <;> (try (exfalso; omega)))
  | (refine run_need rfl (by (try simp (disch := omega) only [zA, z13, z19, z20, z21, z22, z23, z24, z25, z31, eqDs, eqD, Nat.reduceAdd, wrap64]); first | exact elp_m (by omega) (by first | omega | (simp only [List.length_set]; omega)) (fun _ => rfl) | exact eld_m (by omega) (by first | omega | (simp only [List.length_set]; omega)) (fun _ => rfl) | exact els_m (by omega) (by omega) (by omega) rfl | exact lsl_m (by omega) (fun _ => rfl) | exact app_nil_m (by omega) (fun _ => rfl) (fun _ => rfl) | exact app_m_one (by omega) (fun _ => rfl) rfl rfl | exact app_m_m (by omega) (fun _ => rfl) (fun _ => rfl)) ?_)
  | (refine run_need rfl (by first | decide | omega | (simp only [List.length_map]; omega)) ?_)
  | (refine run_call1 rfl (idxDep_ok ps hp ds hl) rfl ?_)
  | (refine run_need rfl ?_ ?_)
  | (refine run_ret rfl ?_ ; first | refine rb ?_ | refine ri ?_ | refine rs2 ?_ ?_ | refine rs1 ?_)
  | (refine run_retx rfl ?_))
 congr 1
 simp only [ge_iff_le, eq_iff_iff]
 exact idxF_mem _ _
end V
end Go.Proofs.Ytgialjcichiaoaa

