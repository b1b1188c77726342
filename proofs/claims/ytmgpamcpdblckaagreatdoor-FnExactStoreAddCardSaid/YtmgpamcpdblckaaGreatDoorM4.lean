/-
Part 4 of the proof of the claimed statement (its last part holds the theorem, and says what is proved). Conditions: none.
-/
import Derived.Test.YtmgpamcpdblckaaGreatDoorM3
import Derived.Test.YtmgpamcpdblckaaGreatDoorProg
import Derived.KernelRfl
set_option linter.all false
set_option maxRecDepth 100000
/-
The seat's own numbers: types, functions, how each is called. Written by a program.
-/
namespace Go.Proofs.YtmgpamcpdblckaaGreatDoor
namespace V
section

noncomputable abbrev PP:Program:=Tryz.prog
def tt:TT:= .n 123 ⟨2,32,[.sl [],.int .i64 0],(.struct [(0,22),(1,3)])⟩ (.n 64 ⟨1,8,[.bad],.other⟩ (.n 30 ⟨7,88,[.int .i64 0,.sl [],.int .i64 0,.bool false,.int .i64 0,.int .i64 0,.sl []],(.struct [(0,25),(3,4),(4,28)])⟩ (.n 15 ⟨1,8,[.bad],(.ptr 230)⟩ (.n 8 ⟨4,24,[.int .i64 0,.int .i64 0,.bool false,.int .u8 0],(.struct [(0,2),(1,3),(2,4),(3,6)])⟩ (.n 4 ⟨1,1,[.bool false],.bool⟩ (.n 2 ⟨1,8,[.int .i64 0],(.int .i64)⟩ (.n 1 ⟨1,8,[.bad],.other⟩ (.e) (.e)) (.n 3 ⟨1,8,[.int .i64 0],(.int .i64)⟩ (.e) (.e))) (.n 6 ⟨1,1,[.int .u8 0],(.int .u8)⟩ (.n 5 ⟨1,1,[.int .u8 0],(.int .u8)⟩ (.e) (.e)) (.n 7 ⟨4,24,[.int .i64 0,.int .i64 0,.bool false,.int .u8 0],(.struct [(0,2),(1,3),(2,4),(3,6)])⟩ (.e) (.e)))) (.n 12 ⟨1,8,[.int .u64 0],(.int .u64)⟩ (.n 10 ⟨1,16,[.str ⟨#[]⟩],.str⟩ (.n 9 ⟨1,16,[.str ⟨#[]⟩],.str⟩ (.e) (.e)) (.n 11 ⟨1,16,[.str ⟨#[]⟩],.str⟩ (.e) (.e))) (.n 14 ⟨2,24,[.str ⟨#[]⟩,.int .u64 0],(.struct [(0,9),(1,12)])⟩ (.n 13 ⟨2,24,[.str ⟨#[]⟩,.int .u64 0],(.struct [(0,9),(1,12)])⟩ (.e) (.e)) (.e)))) (.n 23 ⟨1,24,[.sl []],(.slice 3)⟩ (.n 19 ⟨1,8,[.bad],(.struct [(0,17)])⟩ (.n 17 ⟨1,8,[.bad],(.ptr 241)⟩ (.n 16 ⟨1,8,[.bad],(.ptr 233)⟩ (.e) (.e)) (.n 18 ⟨1,8,[.bad],(.struct [(0,17)])⟩ (.e) (.e))) (.n 21 ⟨1,4,[.int .i32 0],(.int .i32)⟩ (.n 20 ⟨1,16,[.bad],.other⟩ (.e) (.e)) (.n 22 ⟨1,24,[.sl []],(.slice 5)⟩ (.e) (.e)))) (.n 27 ⟨3,40,[.int .i64 0,.int .i64 0,.sl []],(.struct [(0,3),(1,3),(2,26)])⟩ (.n 25 ⟨3,40,[.int .i64 0,.sl [],.int .i64 0],(.struct [(0,3),(1,23),(2,3)])⟩ (.n 24 ⟨3,40,[.int .i64 0,.sl [],.int .i64 0],(.struct [(0,3),(1,23),(2,3)])⟩ (.e) (.e)) (.n 26 ⟨1,24,[.sl []],(.slice 80)⟩ (.e) (.e))) (.n 29 ⟨7,88,[.int .i64 0,.sl [],.int .i64 0,.bool false,.int .i64 0,.int .i64 0,.sl []],(.struct [(0,25),(3,4),(4,28)])⟩ (.n 28 ⟨3,40,[.int .i64 0,.int .i64 0,.sl []],(.struct [(0,3),(1,3),(2,26)])⟩ (.e) (.e)) (.e))))) (.n 48 ⟨1,8,[.bad],.other⟩ (.n 39 ⟨1,24,[.sl []],(.slice 100)⟩ (.n 35 ⟨1,8,[.bad],.other⟩ (.n 33 ⟨1,8,[.bad],.other⟩ (.n 31 ⟨1,24,[.sl []],(.slice 41)⟩ (.e) (.e)) (.n 34 ⟨1,8,[.bad],.other⟩ (.e) (.e))) (.n 37 ⟨1,8,[.bad],.other⟩ (.n 36 ⟨1,8,[.bad],.other⟩ (.e) (.e)) (.n 38 ⟨1,24,[.sl []],(.slice 97)⟩ (.e) (.e)))) (.n 44 ⟨1,8,[.bad],.other⟩ (.n 41 ⟨4,64,[.int .i64 0,.int .i64 0,.sl [],.sl []],(.struct [(0,3),(1,3),(2,38),(3,39)])⟩ (.n 40 ⟨4,64,[.int .i64 0,.int .i64 0,.sl [],.sl []],(.struct [(0,3),(1,3),(2,38),(3,39)])⟩ (.e) (.e)) (.n 43 ⟨1,8,[.bad],.other⟩ (.e) (.e))) (.n 46 ⟨1,8,[.bad],.other⟩ (.n 45 ⟨1,8,[.bad],.other⟩ (.e) (.e)) (.e)))) (.n 57 ⟨3,40,[.int .i64 0,.int .i64 0,.sl []],(.struct [(0,3),(1,3),(2,56)])⟩ (.n 54 ⟨1,8,[.bad],.other⟩ (.n 51 ⟨1,8,[.bad],.other⟩ (.n 50 ⟨1,8,[.bad],.other⟩ (.e) (.e)) (.n 53 ⟨1,8,[.bad],.other⟩ (.e) (.e))) (.n 56 ⟨1,24,[.sl []],(.slice 175)⟩ (.n 55 ⟨3,40,[.int .i64 0,.sl [],.int .i64 0],(.struct [(0,3),(1,23),(2,3)])⟩ (.e) (.e)) (.e))) (.n 61 ⟨1,24,[.sl []],(.slice 112)⟩ (.n 59 ⟨7,88,[.int .i64 0,.sl [],.int .i64 0,.bool false,.int .i64 0,.int .i64 0,.sl []],(.struct [(0,55),(3,4),(4,58)])⟩ (.n 58 ⟨3,40,[.int .i64 0,.int .i64 0,.sl []],(.struct [(0,3),(1,3),(2,56)])⟩ (.e) (.e)) (.n 60 ⟨7,88,[.int .i64 0,.sl [],.int .i64 0,.bool false,.int .i64 0,.int .i64 0,.sl []],(.struct [(0,55),(3,4),(4,58)])⟩ (.e) (.e))) (.n 63 ⟨1,8,[.bad],.other⟩ (.n 62 ⟨1,8,[.bad],.other⟩ (.e) (.e)) (.e)))))) (.n 94 ⟨1,8,[.bad],.other⟩ (.n 79 ⟨3,24,[.int .i64 0,.int .i64 0,.int .i64 0],(.struct [(0,3),(1,3),(2,3)])⟩ (.n 72 ⟨1,8,[.bad],.other⟩ (.n 68 ⟨1,8,[.bad],.other⟩ (.n 66 ⟨1,8,[.bad],.other⟩ (.n 65 ⟨1,8,[.bad],.other⟩ (.e) (.e)) (.n 67 ⟨1,8,[.bad],.other⟩ (.e) (.e))) (.n 70 ⟨1,8,[.bad],(.ptr 123)⟩ (.n 69 ⟨1,8,[.bad],.other⟩ (.e) (.e)) (.n 71 ⟨1,8,[.bad],.other⟩ (.e) (.e)))) (.n 76 ⟨1,8,[.bad],.other⟩ (.n 74 ⟨1,8,[.bad],.other⟩ (.n 73 ⟨1,8,[.bad],.other⟩ (.e) (.e)) (.n 75 ⟨1,8,[.bad],.other⟩ (.e) (.e))) (.n 78 ⟨1,8,[.bad],.other⟩ (.n 77 ⟨1,8,[.bad],.other⟩ (.e) (.e)) (.e)))) (.n 86 ⟨1,8,[.bad],.other⟩ (.n 83 ⟨1,8,[.bad],.other⟩ (.n 81 ⟨1,8,[.bad],.other⟩ (.n 80 ⟨3,24,[.int .i64 0,.int .i64 0,.int .i64 0],(.struct [(0,3),(1,3),(2,3)])⟩ (.e) (.e)) (.n 82 ⟨1,8,[.bad],.other⟩ (.e) (.e))) (.n 85 ⟨1,8,[.bad],.other⟩ (.n 84 ⟨1,8,[.bad],.other⟩ (.e) (.e)) (.e))) (.n 90 ⟨2,32,[.bad,.sl []],(.struct [(0,88),(1,22)])⟩ (.n 88 ⟨1,8,[.bad],(.ptr 90)⟩ (.n 87 ⟨1,8,[.bad],.other⟩ (.e) (.e)) (.n 89 ⟨2,32,[.bad,.sl []],(.struct [(0,88),(1,22)])⟩ (.e) (.e))) (.n 92 ⟨1,16,[.bad],.other⟩ (.n 91 ⟨1,16,[.bad],.other⟩ (.e) (.e)) (.e))))) (.n 109 ⟨1,24,[.sl []],(.slice 177)⟩ (.n 102 ⟨1,8,[.bad],.other⟩ (.n 98 ⟨1,8,[.bad],.other⟩ (.n 96 ⟨2,16,[.int .i64 0,.int .i64 0],(.struct [(0,3),(1,3)])⟩ (.n 95 ⟨1,8,[.bad],.other⟩ (.e) (.e)) (.n 97 ⟨2,16,[.int .i64 0,.int .i64 0],(.struct [(0,3),(1,3)])⟩ (.e) (.e))) (.n 100 ⟨2,16,[.int .i64 0,.int .i64 0],(.struct [(0,3),(1,3)])⟩ (.n 99 ⟨2,16,[.int .i64 0,.int .i64 0],(.struct [(0,3),(1,3)])⟩ (.e) (.e)) (.n 101 ⟨1,8,[.bad],.other⟩ (.e) (.e)))) (.n 106 ⟨1,8,[.bad],.other⟩ (.n 104 ⟨1,8,[.bad],.other⟩ (.n 103 ⟨1,8,[.bad],.other⟩ (.e) (.e)) (.n 105 ⟨1,8,[.bad],.other⟩ (.e) (.e))) (.n 108 ⟨1,8,[.bad],.other⟩ (.n 107 ⟨1,8,[.bad],.other⟩ (.e) (.e)) (.e)))) (.n 116 ⟨1,8,[.bad],.other⟩ (.n 113 ⟨1,8,[.bad],.other⟩ (.n 111 ⟨4,64,[.int .i64 0,.int .i64 0,.sl [],.sl []],(.struct [(0,3),(1,3),(2,109),(3,110)])⟩ (.n 110 ⟨1,24,[.sl []],(.slice 179)⟩ (.e) (.e)) (.n 112 ⟨4,64,[.int .i64 0,.int .i64 0,.sl [],.sl []],(.struct [(0,3),(1,3),(2,109),(3,110)])⟩ (.e) (.e))) (.n 115 ⟨1,8,[.bad],.other⟩ (.n 114 ⟨1,8,[.bad],.other⟩ (.e) (.e)) (.e))) (.n 120 ⟨1,8,[.bad],.other⟩ (.n 118 ⟨1,8,[.bad],.other⟩ (.n 117 ⟨1,8,[.bad],.other⟩ (.e) (.e)) (.n 119 ⟨1,8,[.bad],.other⟩ (.e) (.e))) (.n 122 ⟨2,32,[.sl [],.int .i64 0],(.struct [(0,22),(1,3)])⟩ (.n 121 ⟨1,8,[.bad],.other⟩ (.e) (.e)) (.e))))))) (.n 186 ⟨1,8,[.int .i64 0],(.int .i64)⟩ (.n 157 ⟨1,8,[.bad],.other⟩ (.n 140 ⟨1,8,[.bad],.other⟩ (.n 132 ⟨1,8,[.bad],.other⟩ (.n 128 ⟨1,8,[.bad],.other⟩ (.n 125 ⟨1,8,[.bad],.other⟩ (.n 124 ⟨1,8,[.bad],.other⟩ (.e) (.e)) (.n 127 ⟨1,8,[.bad],.other⟩ (.e) (.e))) (.n 130 ⟨1,8,[.bad],.other⟩ (.n 129 ⟨1,8,[.bad],.other⟩ (.e) (.e)) (.n 131 ⟨1,8,[.bad],.other⟩ (.e) (.e)))) (.n 136 ⟨1,8,[.bad],.other⟩ (.n 134 ⟨1,8,[.bad],.other⟩ (.n 133 ⟨1,8,[.bad],.other⟩ (.e) (.e)) (.n 135 ⟨1,8,[.bad],.other⟩ (.e) (.e))) (.n 138 ⟨1,8,[.bad],.other⟩ (.n 137 ⟨1,24,[.sl []],(.slice 9)⟩ (.e) (.e)) (.e)))) (.n 150 ⟨1,8,[.bad],.other⟩ (.n 146 ⟨1,8,[.bad],.other⟩ (.n 143 ⟨1,8,[.bad],.other⟩ (.n 142 ⟨1,8,[.bad],.other⟩ (.e) (.e)) (.n 144 ⟨1,8,[.bad],(.ptr 5)⟩ (.e) (.e))) (.n 148 ⟨1,8,[.bad],.other⟩ (.n 147 ⟨1,8,[.bad],.other⟩ (.e) (.e)) (.n 149 ⟨1,8,[.bad],.other⟩ (.e) (.e)))) (.n 154 ⟨1,8,[.bad],.other⟩ (.n 152 ⟨1,8,[.bad],.other⟩ (.n 151 ⟨1,8,[.bad],.other⟩ (.e) (.e)) (.n 153 ⟨1,8,[.bad],.other⟩ (.e) (.e))) (.n 156 ⟨1,8,[.bad],.other⟩ (.n 155 ⟨1,8,[.bad],.other⟩ (.e) (.e)) (.e))))) (.n 172 ⟨1,8,[.int .u64 0],(.int .u64)⟩ (.n 165 ⟨1,8,[.bad],.other⟩ (.n 161 ⟨1,8,[.bad],.other⟩ (.n 159 ⟨1,8,[.bad],.other⟩ (.n 158 ⟨1,8,[.bad],.other⟩ (.e) (.e)) (.n 160 ⟨1,8,[.bad],.other⟩ (.e) (.e))) (.n 163 ⟨1,8,[.bad],.other⟩ (.n 162 ⟨1,8,[.bad],.other⟩ (.e) (.e)) (.n 164 ⟨1,8,[.bad],.other⟩ (.e) (.e)))) (.n 169 ⟨1,8,[.bad],.other⟩ (.n 167 ⟨1,8,[.bad],.other⟩ (.n 166 ⟨1,8,[.bad],.other⟩ (.e) (.e)) (.n 168 ⟨1,8,[.bad],.other⟩ (.e) (.e))) (.n 171 ⟨1,8,[.bad],.other⟩ (.n 170 ⟨1,8,[.bad],.other⟩ (.e) (.e)) (.e)))) (.n 179 ⟨2,16,[.int .i64 0,.int .i64 0],(.struct [(0,3),(1,3)])⟩ (.n 176 ⟨1,8,[.bad],.other⟩ (.n 174 ⟨1,8,[.bad],.other⟩ (.n 173 ⟨1,8,[.bad],.other⟩ (.e) (.e)) (.n 175 ⟨3,24,[.int .i64 0,.int .i64 0,.int .i64 0],(.struct [(0,3),(1,3),(2,3)])⟩ (.e) (.e))) (.n 178 ⟨1,8,[.bad],.other⟩ (.n 177 ⟨2,16,[.int .i64 0,.int .i64 0],(.struct [(0,3),(1,3)])⟩ (.e) (.e)) (.e))) (.n 183 ⟨1,8,[.bad],.other⟩ (.n 181 ⟨1,8,[.bad],.other⟩ (.n 180 ⟨1,8,[.bad],.other⟩ (.e) (.e)) (.n 182 ⟨1,8,[.bad],.other⟩ (.e) (.e))) (.n 185 ⟨1,8,[.bad],.other⟩ (.n 184 ⟨1,8,[.bad],.other⟩ (.e) (.e)) (.e)))))) (.n 220 ⟨1,8,[.bad],.other⟩ (.n 205 ⟨3,48,[.str ⟨#[]⟩,.str ⟨#[]⟩,.bad],(.struct [(0,9),(1,9),(2,92)])⟩ (.n 195 ⟨1,8,[.bad],.other⟩ (.n 191 ⟨1,8,[.bad],.other⟩ (.n 189 ⟨1,8,[.bad],(.ptr 205)⟩ (.n 188 ⟨1,8,[.bad],.other⟩ (.e) (.e)) (.n 190 ⟨1,8,[.bad],.other⟩ (.e) (.e))) (.n 193 ⟨1,8,[.int .u64 0],(.int .u64)⟩ (.n 192 ⟨24,24,[.int .u8 0,.int .u8 0,.int .u8 0,.int .u8 0,.int .u8 0,.int .u8 0,.int .u8 0,.int .u8 0,.int .u8 0,.int .u8 0,.int .u8 0,.int .u8 0,.int .u8 0,.int .u8 0,.int .u8 0,.int .u8 0,.int .u8 0,.int .u8 0,.int .u8 0,.int .u8 0,.int .u8 0,.int .u8 0,.int .u8 0,.int .u8 0],(.array 24 5)⟩ (.e) (.e)) (.n 194 ⟨1,8,[.bad],.other⟩ (.e) (.e)))) (.n 202 ⟨1,8,[.bad],.other⟩ (.n 199 ⟨1,8,[.bad],.other⟩ (.n 197 ⟨1,8,[.bad],.other⟩ (.e) (.e)) (.n 200 ⟨1,8,[.bad],.other⟩ (.e) (.e))) (.n 204 ⟨3,48,[.str ⟨#[]⟩,.str ⟨#[]⟩,.bad],(.struct [(0,9),(1,9),(2,92)])⟩ (.n 203 ⟨1,8,[.bad],.other⟩ (.e) (.e)) (.e)))) (.n 212 ⟨1,8,[.bad],.other⟩ (.n 209 ⟨1,4,[.int .u32 0],(.int .u32)⟩ (.n 207 ⟨1,8,[.bad],.other⟩ (.n 206 ⟨1,8,[.bad],.other⟩ (.e) (.e)) (.n 208 ⟨20,160,[.int .u64 0,.int .u64 0,.int .u64 0,.int .u64 0,.int .u64 0,.int .u64 0,.int .u64 0,.int .u64 0,.int .u64 0,.int .u64 0,.int .u64 0,.int .u64 0,.int .u64 0,.int .u64 0,.int .u64 0,.int .u64 0,.int .u64 0,.int .u64 0,.int .u64 0,.int .u64 0],(.array 20 193)⟩ (.e) (.e))) (.n 211 ⟨1,8,[.bad],.other⟩ (.n 210 ⟨65,65,[.int .u8 0,.int .u8 0,.int .u8 0,.int .u8 0,.int .u8 0,.int .u8 0,.int .u8 0,.int .u8 0,.int .u8 0,.int .u8 0,.int .u8 0,.int .u8 0,.int .u8 0,.int .u8 0,.int .u8 0,.int .u8 0,.int .u8 0,.int .u8 0,.int .u8 0,.int .u8 0,.int .u8 0,.int .u8 0,.int .u8 0,.int .u8 0,.int .u8 0,.int .u8 0,.int .u8 0,.int .u8 0,.int .u8 0,.int .u8 0,.int .u8 0,.int .u8 0,.int .u8 0,.int .u8 0,.int .u8 0,.int .u8 0,.int .u8 0,.int .u8 0,.int .u8 0,.int .u8 0,.int .u8 0,.int .u8 0,.int .u8 0,.int .u8 0,.int .u8 0,.int .u8 0,.int .u8 0,.int .u8 0,.int .u8 0,.int .u8 0,.int .u8 0,.int .u8 0,.int .u8 0,.int .u8 0,.int .u8 0,.int .u8 0,.int .u8 0,.int .u8 0,.int .u8 0,.int .u8 0,.int .u8 0,.int .u8 0,.int .u8 0,.int .u8 0,.int .u8 0],(.array 65 5)⟩ (.e) (.e)) (.e))) (.n 217 ⟨1,8,[.bad],(.ptr 219)⟩ (.n 215 ⟨1,8,[.bad],.other⟩ (.n 214 ⟨1,8,[.bad],.other⟩ (.e) (.e)) (.n 216 ⟨1,8,[.bad],.other⟩ (.e) (.e))) (.n 219 ⟨1,16,[.str ⟨#[]⟩],(.struct [(0,9)])⟩ (.n 218 ⟨1,16,[.str ⟨#[]⟩],(.struct [(0,9)])⟩ (.e) (.e)) (.e))))) (.n 235 ⟨1,1,[.int .u8 0],(.int .u8)⟩ (.n 228 ⟨1,8,[.bad],(.ptr 248)⟩ (.n 224 ⟨32,32,[.int .u8 0,.int .u8 0,.int .u8 0,.int .u8 0,.int .u8 0,.int .u8 0,.int .u8 0,.int .u8 0,.int .u8 0,.int .u8 0,.int .u8 0,.int .u8 0,.int .u8 0,.int .u8 0,.int .u8 0,.int .u8 0,.int .u8 0,.int .u8 0,.int .u8 0,.int .u8 0,.int .u8 0,.int .u8 0,.int .u8 0,.int .u8 0,.int .u8 0,.int .u8 0,.int .u8 0,.int .u8 0,.int .u8 0,.int .u8 0,.int .u8 0,.int .u8 0],(.array 16 223)⟩ (.n 222 ⟨2,2,[.int .u8 0,.int .u8 0],(.struct [(0,5),(1,5)])⟩ (.n 221 ⟨256,256,[.int .u8 0,.int .u8 0,.int .u8 0,.int .u8 0,.int .u8 0,.int .u8 0,.int .u8 0,.int .u8 0,.int .u8 0,.int .u8 0,.int .u8 0,.int .u8 0,.int .u8 0,.int .u8 0,.int .u8 0,.int .u8 0,.int .u8 0,.int .u8 0,.int .u8 0,.int .u8 0,.int .u8 0,.int .u8 0,.int .u8 0,.int .u8 0,.int .u8 0,.int .u8 0,.int .u8 0,.int .u8 0,.int .u8 0,.int .u8 0,.int .u8 0,.int .u8 0,.int .u8 0,.int .u8 0,.int .u8 0,.int .u8 0,.int .u8 0,.int .u8 0,.int .u8 0,.int .u8 0,.int .u8 0,.int .u8 0,.int .u8 0,.int .u8 0,.int .u8 0,.int .u8 0,.int .u8 0,.int .u8 0,.int .u8 0,.int .u8 0,.int .u8 0,.int .u8 0,.int .u8 0,.int .u8 0,.int .u8 0,.int .u8 0,.int .u8 0,.int .u8 0,.int .u8 0,.int .u8 0,.int .u8 0,.int .u8 0,.int .u8 0,.int .u8 0,.int .u8 0,.int .u8 0,.int .u8 0,.int .u8 0,.int .u8 0,.int .u8 0,.int .u8 0,.int .u8 0,.int .u8 0,.int .u8 0,.int .u8 0,.int .u8 0,.int .u8 0,.int .u8 0,.int .u8 0,.int .u8 0,.int .u8 0,.int .u8 0,.int .u8 0,.int .u8 0,.int .u8 0,.int .u8 0,.int .u8 0,.int .u8 0,.int .u8 0,.int .u8 0,.int .u8 0,.int .u8 0,.int .u8 0,.int .u8 0,.int .u8 0,.int .u8 0,.int .u8 0,.int .u8 0,.int .u8 0,.int .u8 0,.int .u8 0,.int .u8 0,.int .u8 0,.int .u8 0,.int .u8 0,.int .u8 0,.int .u8 0,.int .u8 0,.int .u8 0,.int .u8 0,.int .u8 0,.int .u8 0,.int .u8 0,.int .u8 0,.int .u8 0,.int .u8 0,.int .u8 0,.int .u8 0,.int .u8 0,.int .u8 0,.int .u8 0,.int .u8 0,.int .u8 0,.int .u8 0,.int .u8 0,.int .u8 0,.int .u8 0,.int .u8 0,.int .u8 0,.int .u8 0,.int .u8 0,.int .u8 0,.int .u8 0,.int .u8 0,.int .u8 0,.int .u8 0,.int .u8 0,.int .u8 0,.int .u8 0,.int .u8 0,.int .u8 0,.int .u8 0,.int .u8 0,.int .u8 0,.int .u8 0,.int .u8 0,.int .u8 0,.int .u8 0,.int .u8 0,.int .u8 0,.int .u8 0,.int .u8 0,.int .u8 0,.int .u8 0,.int .u8 0,.int .u8 0,.int .u8 0,.int .u8 0,.int .u8 0,.int .u8 0,.int .u8 0,.int .u8 0,.int .u8 0,.int .u8 0,.int .u8 0,.int .u8 0,.int .u8 0,.int .u8 0,.int .u8 0,.int .u8 0,.int .u8 0,.int .u8 0,.int .u8 0,.int .u8 0,.int .u8 0,.int .u8 0,.int .u8 0,.int .u8 0,.int .u8 0,.int .u8 0,.int .u8 0,.int .u8 0,.int .u8 0,.int .u8 0,.int .u8 0,.int .u8 0,.int .u8 0,.int .u8 0,.int .u8 0,.int .u8 0,.int .u8 0,.int .u8 0,.int .u8 0,.int .u8 0,.int .u8 0,.int .u8 0,.int .u8 0,.int .u8 0,.int .u8 0,.int .u8 0,.int .u8 0,.int .u8 0,.int .u8 0,.int .u8 0,.int .u8 0,.int .u8 0,.int .u8 0,.int .u8 0,.int .u8 0,.int .u8 0,.int .u8 0,.int .u8 0,.int .u8 0,.int .u8 0,.int .u8 0,.int .u8 0,.int .u8 0,.int .u8 0,.int .u8 0,.int .u8 0,.int .u8 0,.int .u8 0,.int .u8 0,.int .u8 0,.int .u8 0,.int .u8 0,.int .u8 0,.int .u8 0,.int .u8 0,.int .u8 0,.int .u8 0,.int .u8 0,.int .u8 0,.int .u8 0,.int .u8 0,.int .u8 0,.int .u8 0,.int .u8 0,.int .u8 0,.int .u8 0,.int .u8 0,.int .u8 0,.int .u8 0,.int .u8 0,.int .u8 0,.int .u8 0,.int .u8 0,.int .u8 0,.int .u8 0,.int .u8 0,.int .u8 0,.int .u8 0,.int .u8 0,.int .u8 0,.int .u8 0,.int .u8 0],(.array 256 5)⟩ (.e) (.e)) (.n 223 ⟨2,2,[.int .u8 0,.int .u8 0],(.struct [(0,5),(1,5)])⟩ (.e) (.e))) (.n 226 ⟨64,64,[.int .u8 0,.int .u8 0,.int .u8 0,.int .u8 0,.int .u8 0,.int .u8 0,.int .u8 0,.int .u8 0,.int .u8 0,.int .u8 0,.int .u8 0,.int .u8 0,.int .u8 0,.int .u8 0,.int .u8 0,.int .u8 0,.int .u8 0,.int .u8 0,.int .u8 0,.int .u8 0,.int .u8 0,.int .u8 0,.int .u8 0,.int .u8 0,.int .u8 0,.int .u8 0,.int .u8 0,.int .u8 0,.int .u8 0,.int .u8 0,.int .u8 0,.int .u8 0,.int .u8 0,.int .u8 0,.int .u8 0,.int .u8 0,.int .u8 0,.int .u8 0,.int .u8 0,.int .u8 0,.int .u8 0,.int .u8 0,.int .u8 0,.int .u8 0,.int .u8 0,.int .u8 0,.int .u8 0,.int .u8 0,.int .u8 0,.int .u8 0,.int .u8 0,.int .u8 0,.int .u8 0,.int .u8 0,.int .u8 0,.int .u8 0,.int .u8 0,.int .u8 0,.int .u8 0,.int .u8 0,.int .u8 0,.int .u8 0,.int .u8 0,.int .u8 0],(.array 64 5)⟩ (.n 225 ⟨32,32,[.int .u8 0,.int .u8 0,.int .u8 0,.int .u8 0,.int .u8 0,.int .u8 0,.int .u8 0,.int .u8 0,.int .u8 0,.int .u8 0,.int .u8 0,.int .u8 0,.int .u8 0,.int .u8 0,.int .u8 0,.int .u8 0,.int .u8 0,.int .u8 0,.int .u8 0,.int .u8 0,.int .u8 0,.int .u8 0,.int .u8 0,.int .u8 0,.int .u8 0,.int .u8 0,.int .u8 0,.int .u8 0,.int .u8 0,.int .u8 0,.int .u8 0,.int .u8 0],(.array 32 5)⟩ (.e) (.e)) (.n 227 ⟨1,8,[.bad],(.ptr 245)⟩ (.e) (.e)))) (.n 232 ⟨0,0,[],(.struct [(0,231)])⟩ (.n 230 ⟨4,40,[.bad,.bad,.bad,.str ⟨#[]⟩],(.struct [(0,17),(1,17),(2,17),(3,9)])⟩ (.n 229 ⟨4,40,[.bad,.bad,.bad,.str ⟨#[]⟩],(.struct [(0,17),(1,17),(2,17),(3,9)])⟩ (.e) (.e)) (.n 231 ⟨0,0,[],(.array 0 16)⟩ (.e) (.e))) (.n 234 ⟨1,8,[.bad],.other⟩ (.n 233 ⟨0,0,[],(.struct [(0,231)])⟩ (.e) (.e)) (.e)))) (.n 242 ⟨1,8,[.bad],.other⟩ (.n 239 ⟨1,4,[.int .i32 0],(.int .i32)⟩ (.n 237 ⟨1,8,[.bad],.other⟩ (.n 236 ⟨1,1,[.int .u8 0],(.int .u8)⟩ (.e) (.e)) (.n 238 ⟨1,4,[.int .i32 0],(.int .i32)⟩ (.e) (.e))) (.n 241 ⟨11,48,[.int .u64 0,.int .u64 0,.int .u32 0,.int .u8 0,.int .u8 0,.int .u8 0,.int .u8 0,.bad,.bad,.int .i32 0,.int .i32 0],(.struct [(0,12),(1,12),(2,209),(3,235),(4,5),(5,5),(6,236),(7,237),(8,144),(9,238),(10,239)])⟩ (.n 240 ⟨11,48,[.int .u64 0,.int .u64 0,.int .u32 0,.int .u8 0,.int .u8 0,.int .u8 0,.int .u8 0,.bad,.bad,.int .i32 0,.int .i32 0],(.struct [(0,12),(1,12),(2,209),(3,235),(4,5),(5,5),(6,236),(7,237),(8,144),(9,238),(10,239)])⟩ (.e) (.e)) (.e))) (.n 246 ⟨1,24,[.sl []],(.slice 92)⟩ (.n 244 ⟨2,32,[.str ⟨#[]⟩,.bad],(.struct [(0,9),(1,92)])⟩ (.n 243 ⟨1,8,[.bad],.other⟩ (.e) (.e)) (.n 245 ⟨2,32,[.str ⟨#[]⟩,.bad],(.struct [(0,9),(1,92)])⟩ (.e) (.e))) (.n 248 ⟨2,40,[.str ⟨#[]⟩,.sl []],(.struct [(0,9),(1,246)])⟩ (.n 247 ⟨2,40,[.str ⟨#[]⟩,.sl []],(.struct [(0,9),(1,246)])⟩ (.e) (.e)) (.e)))))))
abbrev n_l_FnExactStoreAdd:Nat:=8
abbrev sO:Nat:=13
abbrev sP:Nat:=14
abbrev jQ:Nat:=15
abbrev sQ:Nat:=16
abbrev qR:Nat:=19
abbrev mL:Nat:=20
abbrev sR:Nat:=23
abbrev sS:Nat:=24
abbrev wD:Nat:=25
abbrev iO:Nat:=26
abbrev kH:Nat:=27
abbrev iB:Nat:=28
abbrev sU:Nat:=29
abbrev oZ:Nat:=30
abbrev mM:Nat:=31
abbrev mN:Nat:=32
abbrev sV:Nat:=38
abbrev wF:Nat:=39
abbrev sW:Nat:=40
abbrev sX:Nat:=41
abbrev iC:Nat:=42
abbrev wG:Nat:=43
abbrev jR:Nat:=44
abbrev sY:Nat:=46
abbrev wH:Nat:=47
abbrev sZ:Nat:=48
abbrev lP:Nat:=49
abbrev oL:Nat:=50
abbrev uH:Nat:=51
abbrev tA:Nat:=56
abbrev wI:Nat:=58
abbrev wJ:Nat:=59
abbrev HO:Nat:=60
abbrev wK:Nat:=61
abbrev cD:Nat:=63
abbrev wL:Nat:=64
abbrev tB:Nat:=65
abbrev AU:Nat:=66
abbrev wM:Nat:=67
abbrev tC:Nat:=68
abbrev AV:Nat:=69
abbrev AW:Nat:=70
abbrev qS:Nat:=71
abbrev tE:Nat:=72
abbrev qT:Nat:=73
abbrev pA:Nat:=74
abbrev pB:Nat:=75
abbrev qU:Nat:=76
abbrev pC:Nat:=77
abbrev qV:Nat:=78
abbrev uI:Nat:=84
abbrev kI:Nat:=85
abbrev nL:Nat:=86
abbrev lX:Nat:=87
abbrev AX:Nat:=88
abbrev rA:Nat:=89
abbrev tF:Nat:=90
abbrev mW:Nat:=91
abbrev nM:Nat:=92
abbrev cU:Nat:=93
abbrev wN:Nat:=94
abbrev rB:Nat:=95
abbrev mO:Nat:=96
abbrev vE:Nat:=97
abbrev jS:Nat:=98
abbrev nN:Nat:=99
abbrev pU:Nat:=100
abbrev lY:Nat:=101
abbrev qW:Nat:=104
abbrev kJ:Nat:=105
abbrev dK:Nat:=106
abbrev rC:Nat:=107
abbrev wO:Nat:=108
abbrev qX:Nat:=110
abbrev fM:Nat:=111
abbrev wP:Nat:=112
abbrev tG:Nat:=113
abbrev tH:Nat:=114
abbrev wQ:Nat:=115
abbrev wR:Nat:=116
abbrev tI:Nat:=117
abbrev tJ:Nat:=118
abbrev wS:Nat:=119
abbrev tK:Nat:=120
abbrev wT:Nat:=121
abbrev wU:Nat:=122
abbrev oM:Nat:=123
abbrev qY:Nat:=124
abbrev pD:Nat:=125
abbrev AY:Nat:=127
abbrev tL:Nat:=128
abbrev wV:Nat:=129
abbrev lZ:Nat:=130
abbrev lQ:Nat:=131
abbrev hO:Nat:=140
abbrev wW:Nat:=141
abbrev wX:Nat:=142
abbrev AZ:Nat:=143
abbrev wY:Nat:=144
abbrev Aa:Nat:=145
abbrev wZ:Nat:=146
abbrev Ab:Nat:=147
abbrev eI:Sig:=⟨[.v false [.s]],[.v true [.s,.s,.r,.r],.v false [.s]]⟩
abbrev mX:Sig:=⟨[.v false [.s],.v false [.s]],[.v false [.r]]⟩
abbrev iP:Sig:=⟨[.v false [.b]],[.v false [.r]]⟩
abbrev eB:Sig:=⟨[.v true [.s,.s,.b,.b]],[.v true [.s,.s,.o false ⟨2,false⟩,.o false ⟨2,false⟩]]⟩
abbrev kK:Sig:=⟨[.v true [.s,.b,.s,.s,.s,.s,.b],.v false [.r],.v false [.s]],[.v false [.r],.v false [.s]]⟩
abbrev gK:Sig:=⟨[.v true [.s,.s,.b],.v false [.s]],[.v true [.s,.s,.r,.r],.v false [.s]]⟩
abbrev NV:Sig:=⟨[.v false [.o false ⟨4,false⟩],.v true [.s,.s,.b,.b]],[.v false [.o false ⟨4,false⟩],.v false [.s]]⟩
abbrev bM:Sig:=⟨[.v false [.b],.v true [.s,.s,.b,.b],.clo cD],[.v false [.s],.v false [.s]]⟩
abbrev rD:Sig:=⟨[.v false [.o false ⟨4,false⟩],.v false [.s],.v false [.o false ⟨4,false⟩]],[.v false [.o false ⟨4,false⟩]]⟩
abbrev hU:Sig:=⟨[.v false [.s],.v false [.s]],[.v false [.r]]⟩
abbrev iQ:Sig:=⟨[.v false [.r],.v true [.s,.s,.r,.r]],[.v false [.o true ⟨4,false⟩]]⟩
abbrev iR:Sig:=⟨[.v true [.s,.b,.s,.s,.s,.s,.b]],[.v false [.s]]⟩
abbrev iS:Sig:=⟨[.v false [.b]],[.v false [.s]]⟩
abbrev dR:Sig:=⟨[.v true [.s,.s,.b],.v false [.s]],[.v true [.s,.s,.o false ⟨2,false⟩,.o false ⟨2,false⟩],.v false [.s]]⟩
abbrev lR:Sig:=⟨[.v true [.s,.s,.b,.b]],[.v false [.s]]⟩
abbrev gL:Sig:=⟨[.v true [.s,.r,.s,.s,.s,.s,.r],.v false [.r],.v false [.s]],[.v false [.r],.v false [.s]]⟩
abbrev yH:Sig:=⟨[.v true [.s,.b,.s,.s,.s,.s,.b],.v false [.b],.v false [.s]],[.v false [.o false ⟨4,false⟩],.v false [.s]]⟩
abbrev iT:Sig:=⟨[.v false [.b]],[.v false [.s]]⟩
abbrev iU:Sig:=⟨[.v true [.s,.b,.s,.s,.s,.s,.b],.v false [.s]],[.v false [.s]]⟩
abbrev kL:Sig:=⟨[.v false [.b],.v false [.s]],[.v false [.s]]⟩
abbrev BM:Sig:=⟨[.v true [.s,.b,.s,.s,.s,.s,.b]],[.v true [.s,.o true ⟨1,false⟩,.s,.s,.s,.s,.o true ⟨3,false⟩]]⟩
abbrev Du:Sig:=⟨[.v false [.b]],[.v false [.o true ⟨4,false⟩]]⟩
abbrev dY:Sig:=⟨[.v false [.b],.v false [.b]],[.v false [.s]]⟩
abbrev iV:Sig:=⟨[.v true [.s,.b,.s,.s,.s,.s,.b],.v true [.s,.b,.s,.s,.s,.s,.b]],[.v false [.s]]⟩
abbrev vF:Sig:=⟨[.v true [.s,.b,.s,.s,.s,.s,.b],.v false [.s]],[.v false [.s]]⟩
abbrev yI:Sig:=⟨[.v false [.b],.v false [.s]],[.v false [.s]]⟩
abbrev eO:Sig:=⟨[.v false [.b],.v false [.s]],[.v false [.s]]⟩
abbrev iW:Sig:=⟨[.v false [.b],.v false [.s],.v false [.s]],[.v false [.s]]⟩
abbrev kM:Sig:=⟨[.v false [.b]],[.v false [.s]]⟩
abbrev iX:Sig:=⟨[.v true [.s,.b,.s,.s,.s,.s,.b]],[.v false [.s]]⟩
abbrev cK:Sig:=⟨[.v false [.b],.v true [.s,.s,.s]],[.v false [.s]]⟩
abbrev kO:Sig:=⟨[.v true [.s,.s,.b,.b]],[.v true [.s,.s,.s]]⟩
abbrev tM:Sig:=⟨[.v true [.s,.s,.b,.b]],[.v true [.s,.s,.o false ⟨2,false⟩,.o false ⟨2,false⟩]]⟩
abbrev kP:Sig:=⟨[.v true [.s,.b,.s]],[.v false [.s]]⟩
abbrev iY:Sig:=⟨[.v true [.s,.s,.b]],[.v false [.s]]⟩
abbrev eJ:Sig:=⟨[.v false [.s]],[.v true [.s,.s,.o false ⟨2,false⟩,.o false ⟨2,false⟩],.v false [.s]]⟩
abbrev fU:Sig:=⟨[.v true [.s,.s,.b]],[.v false [.s]]⟩
abbrev kQ:Sig:=⟨[.v true [.s,.s,.b,.b]],[.v false [.s]]⟩
abbrev iZ:Sig:=⟨[.v true [.s,.s,.b,.b]],[.v false [.s]]⟩
abbrev Dv:Sig:=⟨[.v false [.b]],[.v false [.o false ⟨4,false⟩]]⟩
abbrev kR:Sig:=⟨[.v true [.s,.b,.s]],[.v false [.s]]⟩
abbrev cE:Sig:=⟨[.v true [.s,.s,.b,.b],.v true [.s,.s,.b,.b]],[.v false [.s]]⟩
abbrev kS:Sig:=⟨[.v true [.s,.b,.s],.v false [.s]],[.v false [.s]]⟩
abbrev jA:Sig:=⟨[.v true [.s,.s,.b],.v false [.s]],[.v false [.s]]⟩
abbrev mY:Sig:=⟨[.v true [.s,.s,.b,.b],.v false [.s]],[.v false [.s]]⟩
abbrev Dw:Sig:=⟨[.v true [.s,.b,.s]],[.v true [.s,.o true ⟨1,false⟩,.s]]⟩
abbrev BN:Sig:=⟨[.v true [.s,.s,.b]],[.v true [.s,.s,.o true ⟨3,false⟩]]⟩
abbrev GI:Sig:=⟨[.v true [.s,.s,.b,.b]],[.v true [.s,.s,.o true ⟨2,false⟩,.o true ⟨2,false⟩]]⟩
abbrev mZ:Sig:=⟨[.v true [.s,.s,.b,.b],.v true [.s,.s,.b,.b]],[.v false [.s]]⟩
abbrev iD:Sig:=⟨[.v true [.s,.b,.s],.v true [.s,.b,.s]],[.v false [.s]]⟩
abbrev jB:Sig:=⟨[.v true [.s,.s,.b],.v true [.s,.s,.b]],[.v false [.s]]⟩
abbrev yJ:Sig:=⟨[.v true [.s,.b,.s],.v false [.s]],[.v false [.s]]⟩
abbrev vH:Sig:=⟨[.v true [.s,.s,.b],.v false [.s]],[.v false [.s]]⟩
abbrev vI:Sig:=⟨[.v false [.b],.v false [.s]],[.v false [.s]]⟩
abbrev yK:Sig:=⟨[.v false [.b],.v false [.s]],[.v false [.s]]⟩
abbrev fG:Sig:=⟨[.v false [.b],.v false [.s]],[.v false [.s]]⟩
abbrev gM:Sig:=⟨[.v false [.b],.v false [.s]],[.v false [.s]]⟩
abbrev kT:Sig:=⟨[.v true [.s,.s,.b,.b]],[.v false [.s]]⟩
abbrev eP:Sig:=⟨[.v false [.s],.v false [.s],.v false [.s],.v false [.s]],[.v false [.s]]⟩
abbrev eC:Sig:=⟨[.v true [.s,.s,.b],.v true [.s,.s,.b]],[.v false [.s]]⟩
abbrev dM:Sig:=⟨[.v false [.b],.v true [.s,.s,.s]],[.v false [.s]]⟩
abbrev nA:Sig:=⟨[.v false [.s]],[.v false [.s]]⟩
abbrev rE:Sig:=⟨[.v false [.b]],[.v false [.o true ⟨2,false⟩]]⟩
abbrev tN:Sig:=⟨[.v false [.b]],[.v false [.o true ⟨2,false⟩]]⟩
abbrev bY:Sig:=⟨[.v false [.s],.v false [.s],.v false [.s]],[.v false [.s]]⟩
abbrev kU:Sig:=⟨[.v false [.b]],[.v false [.s]]⟩
abbrev eQ:Sig:=⟨[.v false [.s]],[.v false [.s],.v false [.s]]⟩
abbrev lG:Sig:=⟨[.v false [.s],.v false [.s]],[.v false [.s],.v false [.s],.v false [.s]]⟩
abbrev dG:Sig:=⟨[.v false [.s]],[.v false [.s],.v false [.x]]⟩
abbrev fV:Sig:=⟨[.v false [.s]],[.v false [.s]]⟩
abbrev jC:Sig:=⟨[.v false [.s]],[.v false [.s]]⟩
abbrev iE:Sig:=⟨[.v false [.s],.v false [.s],.v false [.s]],[.v false [.s]]⟩
abbrev iF:Sig:=⟨[.v false [.s],.v false [.s]],[.v false [.s]]⟩
abbrev fH:Sig:=⟨[.v false [.s]],[.v false [.s]]⟩
abbrev kV:Sig:=⟨[.v false [.b]],[.v false [.s]]⟩
abbrev gN:Sig:=⟨[.v false [.b]],[.v false [.s]]⟩
abbrev bZ:Sig:=⟨[.v false [.s],.v false [.s]],[.v false [.s]]⟩
abbrev kW:Sig:=⟨[.v false [.b],.v false [.s]],[.v false [.s]]⟩
abbrev jD:Sig:=⟨[.v false [.b],.v false [.s]],[.v false [.s]]⟩
abbrev jE:Sig:=⟨[.v false [.b],.v false [.s]],[.v false [.s]]⟩
abbrev kX:Sig:=⟨[.v false [.b],.v false [.s]],[.v false [.s]]⟩
abbrev Dx:Sig:=⟨[.v false [.b]],[.v false [.o true ⟨1,false⟩]]⟩
abbrev BO:Sig:=⟨[.v false [.b]],[.v false [.o true ⟨3,false⟩]]⟩
abbrev BP:Sig:=⟨[.v false [.b]],[.v false [.o true ⟨2,false⟩]]⟩
abbrev Dy:Sig:=⟨[.v false [.b]],[.v false [.o true ⟨2,false⟩]]⟩
abbrev jF:Sig:=⟨[.v false [.b],.v false [.b]],[.v false [.s]]⟩
abbrev kY:Sig:=⟨[.v false [.b],.v false [.b]],[.v false [.s]]⟩
abbrev kZ:Sig:=⟨[.v false [.b],.v false [.b]],[.v false [.s]]⟩
abbrev fX:Sig:=⟨[.v false [.b],.v false [.b]],[.v false [.s]]⟩
abbrev yL:Sig:=⟨[.v false [.b],.v false [.s]],[.v false [.s]]⟩
abbrev vJ:Sig:=⟨[.v false [.b],.v false [.s]],[.v false [.s]]⟩
abbrev nB:Sig:=⟨[.v false [.s]],[.v false [.s]]⟩
abbrev jG:Sig:=⟨[.v false [.b]],[.v false [.s]]⟩
abbrev lA:Sig:=⟨[.v false [.s],.v false [.b]],[.v false [.s]]⟩
abbrev dN:Sig:=⟨[.v false [.b],.v false [.b]],[.v false [.s]]⟩
abbrev cQ:Sig:=⟨[.v false [.s]],[.v false [.s]]⟩
abbrev LN:Sig:=⟨[.v true [.s,.s,.s]],[.v true [.s,.s,.s]]⟩
abbrev LO:Sig:=⟨[.v true [.s,.s]],[.v true [.s,.s]]⟩
abbrev OX:Sig:=⟨[.v true [.s,.s]],[.v true [.s,.s]]⟩
abbrev lB:Sig:=⟨[.v true [.s,.s],.v true [.s,.s]],[.v false [.s]]⟩
abbrev nC:Sig:=⟨[.v true [.s,.s],.v true [.s,.s]],[.v false [.s]]⟩
abbrev lC:Sig:=⟨[.v true [.s,.s,.s],.v true [.s,.s,.s]],[.v false [.s]]⟩
def sigs:Tr (List Sig):= .n 85 [eP] (.n 48 [iY] (.n 29 [iV] (.n 23 [iT] (.n 16 [lR] (.n 14 [iS] (.n 13 [iR] (.e) (.e)) (.n 15 [dR] (.e) (.e))) (.n 20 [yH] (.n 19 [gL] (.e) (.e)) (.e))) (.n 26 [BM] (.n 25 [kL] (.n 24 [iU] (.e) (.e)) (.e)) (.n 28 [dY] (.n 27 [Du] (.e) (.e)) (.e)))) (.n 41 [iX] (.n 38 [iW] (.n 31 [yI] (.n 30 [vF] (.e) (.e)) (.n 32 [eO] (.e) (.e))) (.n 40 [iQ] (.n 39 [kM] (.e) (.e)) (.e))) (.n 44 [tM] (.n 43 [kO] (.n 42 [cK] (.e) (.e)) (.e)) (.n 47 [kP] (.n 46 [iP] (.e) (.e)) (.e))))) (.n 67 [Dw] (.n 60 [NV] (.n 56 [iZ] (.n 50 [fU] (.n 49 [eJ] (.e) (.e)) (.n 51 [kQ] (.e) (.e))) (.n 59 [Dv] (.n 58 [kK] (.e) (.e)) (.e))) (.n 64 [kS] (.n 63 [cE] (.n 61 [kR] (.e) (.e)) (.e)) (.n 66 [mY] (.n 65 [jA] (.e) (.e)) (.e)))) (.n 74 [vH] (.n 71 [iD] (.n 69 [GI] (.n 68 [BN] (.e) (.e)) (.n 70 [mZ] (.e) (.e))) (.n 73 [yJ] (.n 72 [jB] (.e) (.e)) (.e))) (.n 77 [fG] (.n 76 [yK] (.n 75 [vI] (.e) (.e)) (.e)) (.n 84 [kT] (.n 78 [gM] (.e) (.e)) (.e)))))) (.n 114 [jE] (.n 98 [dG] (.n 92 [eB] (.n 89 [rE] (.n 87 [dM] (.n 86 [eC] (.e) (.e)) (.n 88 [nA] (.e) (.e))) (.n 91 [gK] (.n 90 [tN] (.e) (.e)) (.e))) (.n 95 [hU] (.n 94 [kU] (.n 93 [bY] (.e) (.e)) (.e)) (.n 97 [lG] (.n 96 [eQ] (.e) (.e)) (.e)))) (.n 107 [rD] (.n 104 [iF] (.n 100 [jC] (.n 99 [fV] (.e) (.e)) (.n 101 [iE] (.e) (.e))) (.n 106 [bM] (.n 105 [fH] (.e) (.e)) (.e))) (.n 111 [bZ] (.n 110 [gN] (.n 108 [kV] (.e) (.e)) (.e)) (.n 113 [jD] (.n 112 [kW] (.e) (.e)) (.e))))) (.n 128 [jG] (.n 121 [kY] (.n 118 [BP] (.n 116 [Dx] (.n 115 [kX] (.e) (.e)) (.n 117 [BO] (.e) (.e))) (.n 120 [jF] (.n 119 [Dy] (.e) (.e)) (.e))) (.n 124 [yL] (.n 123 [fX] (.n 122 [kZ] (.e) (.e)) (.e)) (.n 127 [nB] (.n 125 [vJ] (.e) (.e)) (.e)))) (.n 142 [LO] (.n 131 [eI] (.n 130 [dN] (.n 129 [lA] (.e) (.e)) (.e)) (.n 141 [LN] (.n 140 [cQ] (.e) (.e)) (.e))) (.n 145 [nC] (.n 144 [lB] (.n 143 [OX] (.e) (.e)) (.e)) (.n 147 [mX] (.n 146 [lC] (.e) (.e)) (.e))))))
def cV:List Nat:=[97,100,80]
theorem XU:tt.all (Mm PP)=true:=by kernel_rfl
theorem aJ {C:Cfg}(h:C.tt=tt):CfgOk PP C:=fun t ti ht=>QN (Tr.get_all (p:=Mm PP) XU (by rw [←h];exact ht))
theorem WL:cV.all (fun t=>match tt.get t with | some ti=>NH PP t ti.zero | none=>true)=true:=by kernel_rfl
theorem aR {C:Cfg}(ht:C.tt=tt)(he:C.eqt=cV):EqOk PP C:=Tk (by unfold Cfg.ty;rw [ht,he];exact WL)
theorem mixed:PP.follows .mixedOrders=true:=by kernel_rfl

end
section

abbrev jT:Sig:=⟨[.v false [.b]],[.v false [.o true ⟨1,true⟩]]⟩
abbrev jU:Sig:=⟨[.v true [.s,.b,.s]],[.v true [.s,.o true ⟨1,true⟩,.s]]⟩
abbrev jV:Sig:=⟨[.v true [.s,.s]],[.v true [.s,.s]]⟩
abbrev gW:Sig:=⟨[.v false [.b]],[.v false [.o true ⟨2,true⟩]]⟩
abbrev lS:Sig:=⟨[.v true [.s,.s]],[.v true [.s,.s]]⟩
abbrev jW:Sig:=⟨[.v false [.b]],[.v false [.o true ⟨2,true⟩]]⟩
abbrev lT:Sig:=⟨[.v true [.s,.s,.b,.b]],[.v true [.s,.s,.o true ⟨2,true⟩,.o true ⟨2,true⟩]]⟩
abbrev dS:Sig:=⟨[.v false [.b]],[.v false [.o true ⟨4,true⟩]]⟩
abbrev fY:Sig:=⟨[.io false [.o true ⟨0,true⟩],.v false [.s]],[.v false [.s]]⟩
abbrev fZ:Sig:=⟨[.io true [.s,.o true ⟨0,true⟩,.s],.v false [.s]],[.v false [.s]]⟩
abbrev eV:Sig:=⟨[.io false [.o true ⟨0,true⟩],.v false [.s]],[.v false [.s]]⟩
abbrev gA:Sig:=⟨[.io false [.o true ⟨0,true⟩],.v false [.s]],[.v false [.s]]⟩
abbrev eD:Sig:=⟨[.io false [.o true ⟨0,true⟩],.v false [.s]],[.v false [.s]]⟩
abbrev pV:Sig:=⟨[.v false [.o true ⟨4,true⟩],.v true [.s,.s,.b,.b]],[.v false [.o true ⟨4,true⟩],.v false [.s]]⟩
abbrev jX:Sig:=⟨[.v false [.b]],[.v false [.o true ⟨4,true⟩]]⟩
abbrev dD:Sig:=⟨[.v true [.s,.s,.b,.b]],[.v true [.s,.s,.o true ⟨2,true⟩,.o true ⟨2,true⟩]]⟩
abbrev fN:Sig:=⟨[.v false [.b]],[.v false [.o true ⟨2,true⟩]]⟩
abbrev gO:Sig:=⟨[.v false [.b]],[.v false [.o true ⟨2,true⟩]]⟩
abbrev fO:Sig:=⟨[.v false [.o true ⟨4,true⟩],.v false [.s],.v false [.o true ⟨4,true⟩]],[.v false [.o true ⟨4,true⟩]]⟩
abbrev eX:Sig:=⟨[.io true [.s,.o true ⟨0,true⟩,.s,.s,.s,.s,.o true ⟨0,true⟩],.v false [.s]],[.v false [.s]]⟩
abbrev eY:Sig:=⟨[.io true [.s,.s,.o true ⟨0,true⟩],.v false [.s]],[.v false [.s]]⟩
abbrev eZ:Sig:=⟨[.io false [.o true ⟨0,true⟩],.v false [.s]],[.v false [.s]]⟩
abbrev jY:Sig:=⟨[.v true [.s,.s,.s]],[.v true [.s,.s,.s]]⟩
abbrev gX:Sig:=⟨[.v false [.b]],[.v false [.o true ⟨3,true⟩]]⟩
abbrev gY:Sig:=⟨[.v true [.s,.s,.b]],[.v true [.s,.s,.o true ⟨3,true⟩]]⟩
abbrev dA:Sig:=⟨[.v true [.s,.b,.s,.s,.s,.s,.b]],[.v true [.s,.o true ⟨1,true⟩,.s,.s,.s,.s,.o true ⟨3,true⟩]]⟩
abbrev eE:Sig:=⟨[.v true [.s,.b,.s,.s,.s,.s,.b],.v false [.b],.v false [.s]],[.v false [.o true ⟨4,true⟩],.v false [.s]]⟩
abbrev fJ:Sig:=⟨[.v true [.s,.b,.s,.s,.s,.s,.b],.v false [.b],.v false [.s]],[.v false [.s]]⟩
def eF:Tr (List Sig):= .n 85 [eP] (.n 48 [iY] (.n 29 [iV] (.n 23 [iT] (.n 16 [lR] (.n 14 [iS] (.n 13 [iR] (.e) (.e)) (.n 15 [dR] (.e) (.e))) (.n 20 [eE,yH] (.n 19 [gL] (.e) (.e)) (.e))) (.n 26 [dA,BM] (.n 25 [kL] (.n 24 [iU] (.e) (.e)) (.e)) (.n 28 [dY] (.n 27 [dS,Du] (.e) (.e)) (.e)))) (.n 41 [iX] (.n 38 [iW] (.n 31 [eD,yI] (.n 30 [eX,vF] (.e) (.e)) (.n 32 [eO] (.e) (.e))) (.n 40 [iQ] (.n 39 [kM] (.e) (.e)) (.e))) (.n 44 [dD,tM] (.n 43 [kO] (.n 42 [cK] (.e) (.e)) (.e)) (.n 47 [kP] (.n 46 [iP] (.e) (.e)) (.e))))) (.n 67 [jU,Dw] (.n 60 [pV,NV] (.n 56 [iZ] (.n 50 [fU] (.n 49 [eJ] (.e) (.e)) (.n 51 [kQ] (.e) (.e))) (.n 59 [jX,Dv] (.n 58 [kK] (.e) (.e)) (.e))) (.n 64 [kS] (.n 63 [cE] (.n 61 [kR] (.e) (.e)) (.e)) (.n 66 [mY] (.n 65 [jA] (.e) (.e)) (.e)))) (.n 74 [eY,vH] (.n 71 [iD] (.n 69 [lT,GI] (.n 68 [gY,BN] (.e) (.e)) (.n 70 [mZ] (.e) (.e))) (.n 73 [fZ,yJ] (.n 72 [jB] (.e) (.e)) (.e))) (.n 77 [fG] (.n 76 [gA,yK] (.n 75 [eV,vI] (.e) (.e)) (.e)) (.n 84 [kT] (.n 78 [gM] (.e) (.e)) (.e)))))) (.n 114 [jE] (.n 98 [dG] (.n 92 [eB] (.n 89 [fN,rE] (.n 87 [dM] (.n 86 [eC] (.e) (.e)) (.n 88 [nA] (.e) (.e))) (.n 91 [gK] (.n 90 [gO,tN] (.e) (.e)) (.e))) (.n 95 [hU] (.n 94 [kU] (.n 93 [bY] (.e) (.e)) (.e)) (.n 97 [lG] (.n 96 [eQ] (.e) (.e)) (.e)))) (.n 107 [fO,rD] (.n 104 [iF] (.n 100 [jC] (.n 99 [fV] (.e) (.e)) (.n 101 [iE] (.e) (.e))) (.n 106 [bM] (.n 105 [fH] (.e) (.e)) (.e))) (.n 111 [bZ] (.n 110 [gN] (.n 108 [kV] (.e) (.e)) (.e)) (.n 113 [jD] (.n 112 [kW] (.e) (.e)) (.e))))) (.n 128 [jG] (.n 121 [kY] (.n 118 [gW,BP] (.n 116 [jT,Dx] (.n 115 [kX] (.e) (.e)) (.n 117 [gX,BO] (.e) (.e))) (.n 120 [jF] (.n 119 [jW,Dy] (.e) (.e)) (.e))) (.n 124 [fY,yL] (.n 123 [fX] (.n 122 [kZ] (.e) (.e)) (.e)) (.n 127 [nB] (.n 125 [eZ,vJ] (.e) (.e)) (.e)))) (.n 142 [jV] (.n 131 [eI] (.n 130 [dN] (.n 129 [lA] (.e) (.e)) (.e)) (.n 141 [jY] (.n 140 [cQ] (.e) (.e)) (.e))) (.n 145 [nC] (.n 144 [lB] (.n 143 [lS] (.e) (.e)) (.e)) (.n 147 [mX] (.n 146 [lC] (.e) (.e)) (.e))))))

end
section

def p_s_PkgRead:PC:= .seq (.ss [.bld 2 [.int .i64 0,.int .i64 0,.sl [],.sl []] [],.mv 3 (.c (.bool false))]) (.seq (.seq (.ss [.mv 8 (.t 0),.slen 9 (.t 8),.bin 10 .gtr (.t 9) (.c (.int .i64 30))]) (.cond (.t 10) (.seq (.ss [.bld 11 [.int .i64 0,.int .i64 0,.sl [],.sl []] [],.st 2 0 (.t 11),.mv 3 (.c (.bool false))]) (.ret [2,3])) (.skip))) (.seq (.ss [.mv 12 (.t 0),.call 13 Ab mX [(.t 12),(.c (.int .u8 32))] [],.mv 4 (.t 13)]) (.seq (.ss [.lit 14 0 [.int .i64 0,.int .i64 0] [],.lit 15 0 [.int .i64 0,.int .i64 0] [],.bld 16 [.int .i64 0,.int .i64 0,.sl [],.sl []] [(2,(.t 14)),(3,(.t 15))],.bld 5 [.int .i64 0,.int .i64 0,.sl [],.sl []] [],.st 5 0 (.t 16)]) (.seq (.seq (.ss [.mv 6 (.c (.int .i64 0))]) (.block 0 (.loop (.seq (.seq (.ss [.mv 17 (.t 6),.mv 18 (.t 4),.len 19 (.t 18),.bin 20 .lss (.t 17) (.t 19)]) (.cond (.t 20) (.skip) (.exit 0))) (.seq (.block 1 (.seq (.ss [.mv 23 (.t 4),.mv 24 (.t 6),.elp 25 (.t 23) (.t 24) 1,.eld 26 25 0 [.str ⟨#[]⟩],.mv 7 (.t 26)]) (.block 2 (.seq (.ss [.mv 28 (.t 6),.bin 29 .eql (.t 28) (.c (.int .i64 0)),.mv 30 (.t 29),.g 30 true 31 (.mv 31 (.t 7)),.g 30 true 32 (.slen 32 (.t 31)),.g 30 true 33 (.bin 33 .eql (.t 32) (.c (.int .i64 2))),.pick 34 (.t 30) (.t 33) (.c (.bool false)),.mv 27 (.t 34)]) (.cond (.t 27) (.seq (.ss [.mv 35 (.t 7),.sidx 36 (.t 35) (.c (.int .i64 0)),.cvt 37 .i64 (.t 36),.bin 38 .sub (.t 37) (.c (.int .i64 97)),.bin 39 .add (.t 38) (.c (.int .i64 1)),.nop,.st 5 0 (.t 39)]) (.ss [.mv 41 (.t 7),.sidx 42 (.t 41) (.c (.int .i64 1)),.cvt 43 .i64 (.t 42),.bin 44 .sub (.t 43) (.c (.int .i64 48)),.nop,.st 5 1 (.t 44)])) (.seq (.ss [.mv 47 (.t 6),.bin 48 .gtr (.t 47) (.c (.int .i64 0)),.mv 49 (.t 48),.g 49 true 50 (.mv 50 (.t 7)),.g 49 true 51 (.slen 51 (.t 50)),.g 49 true 52 (.bin 52 .eql (.t 51) (.c (.int .i64 3))),.pick 53 (.t 49) (.t 52) (.c (.bool false)),.mv 46 (.t 53)]) (.cond (.t 46) (.ss [.nop,.sub 55 5 2 1,.mv 56 (.t 7),.sidx 57 (.t 56) (.c (.int .i64 0)),.cvt 58 .i64 (.t 57),.bin 59 .sub (.t 58) (.c (.int .i64 48)),.mv 60 (.t 7),.sidx 61 (.t 60) (.c (.int .i64 2)),.cvt 62 .i64 (.t 61),.bin 63 .sub (.t 62) (.c (.int .i64 48)),.bld 64 [.int .i64 0,.int .i64 0] [(0,(.t 59)),(1,(.t 63))],.lit 65 1 [.int .i64 0,.int .i64 0] [(0,(.t 64))],.app 66 2 true (.t 55) (.t 65),.nop,.st 5 2 (.t 66)]) (.seq (.ss [.mv 69 (.t 6),.bin 70 .gtr (.t 69) (.c (.int .i64 0)),.mv 71 (.t 70),.g 71 true 72 (.mv 72 (.t 7)),.g 71 true 73 (.slen 73 (.t 72)),.g 71 true 74 (.bin 74 .eql (.t 73) (.c (.int .i64 2))),.pick 75 (.t 71) (.t 74) (.c (.bool false)),.mv 68 (.t 75)]) (.cond (.t 68) (.ss [.nop,.sub 77 5 3 1,.mv 78 (.t 7),.sidx 79 (.t 78) (.c (.int .i64 0)),.cvt 80 .i64 (.t 79),.bin 81 .sub (.t 80) (.c (.int .i64 97)),.bin 82 .add (.t 81) (.c (.int .i64 1)),.mv 83 (.t 7),.sidx 84 (.t 83) (.c (.int .i64 1)),.cvt 85 .i64 (.t 84),.bin 86 .sub (.t 85) (.c (.int .i64 48)),.bld 87 [.int .i64 0,.int .i64 0] [(0,(.t 82)),(1,(.t 86))],.lit 88 1 [.int .i64 0,.int .i64 0] [(0,(.t 87))],.app 89 2 true (.t 77) (.t 88),.nop,.st 5 3 (.t 89)]) (.skip)))))))))) (.ss [.mv 21 (.t 6),.bin 22 .add (.t 21) (.c (.int .i64 1)),.mv 6 (.t 22)])))))) (.seq (.seq (.ss [.sub 91 5 0 4,.call 92 tA iZ [(.t 91)] [],.mv 93 (.t 0),.bin 94 .neq (.t 92) (.t 93),.mv 95 (.t 94),.g 95 false 96 (.mv 96 (.t 0)),.g 95 false 97 (.bin 97 .eql (.t 96) (.c (.str ⟨#[]⟩))),.pick 98 (.t 95) (.c (.bool true)) (.t 97)]) (.cond (.t 98) (.seq (.ss [.bld 99 [.int .i64 0,.int .i64 0,.sl [],.sl []] [],.st 2 0 (.t 99),.mv 3 (.c (.bool false))]) (.ret [2,3])) (.skip))) (.seq (.ss [.sub 100 5 0 4,.st 2 0 (.t 100),.mv 3 (.c (.bool true))]) (.ret [2,3])))))))
def BQ:Cfg:={tt:=tt,sigs:=sigs,mv:=false,bm:=[],eqt:=cV,keep:=[true,false,true,true,true,true,true,true,false,false,true,false,false,false,false,false,false,false,false,false,true,false,false,false,false,false,false,true,false,false,false,false,false,false,false,false,false,false,false,false,false,false,false,false,false,false,true,false,false,false,false,false,false,false,false,false,false,false,false,false,false,false,false,false,false,false,false,false,true,false,false,false,false,false,false,false,false,false,false,false,false,false,false,false,false,false,false,false,false,false,false,false,false,false,false,false,false,false,true,false,false],n:=101,pin:=[],fail:=[],fz:=[] }
theorem JF:bC BQ Tryz.f131 eI=some p_s_PkgRead:=by kernel_rfl
theorem JG {W:Wld}{ins outs:List (List D)}(h:pwp (FunOk PP W) p_s_PkgRead (aL outs) (envL ins)):FunOk PP W lQ eI ins outs:=aK (C:=BQ) (aJ rfl) (aR rfl rfl) mixed Tryz.func131 (by kernel_rfl) (by kernel_rfl) JF h

def p_s_l1Cut:PC:= .seq (.ss [.mv 4 (.c (.sl []))]) (.seq (.ss [.lit 7 1 [.str ⟨#[]⟩] [(0,(.c (.str ⟨#[]⟩)))],.mv 5 (.t 7)]) (.seq (.seq (.ss [.mv 6 (.c (.int .i64 0))]) (.block 0 (.loop (.seq (.seq (.ss [.mv 8 (.t 6),.mv 9 (.t 0),.slen 10 (.t 9),.bin 11 .lss (.t 8) (.t 10)]) (.cond (.t 11) (.skip) (.exit 0))) (.seq (.block 1 (.seq (.ss [.mv 14 (.t 0),.mv 15 (.t 6),.sidx 16 (.t 14) (.t 15),.mv 17 (.t 1),.bin 18 .eql (.t 16) (.t 17)]) (.cond (.t 18) (.ss [.mv 19 (.t 5),.lit 20 1 [.str ⟨#[]⟩] [(0,(.c (.str ⟨#[]⟩)))],.app 21 1 true (.t 19) (.t 20),.mv 5 (.t 21)]) (.ss [.mv 22 (.t 5),.mv 23 (.t 5),.len 24 (.t 23),.bin 25 .sub (.t 24) (.c (.int .i64 1)),.mv 26 (.t 5),.mv 27 (.t 5),.len 28 (.t 27),.bin 29 .sub (.t 28) (.c (.int .i64 1)),.elp 30 (.t 26) (.t 29) 1,.eld 31 30 0 [.str ⟨#[]⟩],.mv 32 (.t 0),.mv 33 (.t 6),.sidx 34 (.t 32) (.t 33),.lit 35 1 [.int .u8 0] [(0,(.t 34))],.b2s 36 (.t 35),.bin 37 .add (.t 31) (.t 36),.elp 38 (.t 22) (.t 25) 1,.els 38 0 5 0 (.t 37)])))) (.ss [.mv 12 (.t 6),.bin 13 .add (.t 12) (.c (.int .i64 1)),.mv 6 (.t 13)])))))) (.seq (.ss [.mv 39 (.t 5),.mv 4 (.t 39)]) (.ret [4]))))
def GJ:Cfg:={tt:=tt,sigs:=sigs,mv:=false,bm:=[7],eqt:=cV,keep:=[true,true,false,false,true,true,true,false,false,false,false,true,false,false,false,false,false,false,true,false,false,false,false,false,false,false,false,false,false,false,false,false,false,false,false,false,false,false,false,false],n:=40,pin:=[],fail:=[],fz:=[] }
theorem OY:bC GJ Tryz.f147 mX=some p_s_l1Cut:=by kernel_rfl
theorem OZ {W:Wld}{ins outs:List (List D)}(h:pwp (FunOk PP W) p_s_l1Cut (aL outs) (envL ins)):FunOk PP W Ab mX ins outs:=aK (C:=GJ) (aJ rfl) (aR rfl rfl) mixed Tryz.func147 (by kernel_rfl) (by kernel_rfl) OY h

def p_s_l12Copy:PC:= .seq (.ss [.mv 2 (.c (.sl []))]) (.seq (.ss [.lit 5 0 [.int .i64 0,.int .i64 0,.sl [],.sl []] [],.mv 3 (.t 5)]) (.seq (.seq (.ss [.mv 4 (.c (.int .i64 0))]) (.block 0 (.loop (.seq (.seq (.ss [.mv 6 (.t 4),.mv 7 (.t 0),.len 8 (.t 7),.bin 9 .lss (.t 6) (.t 8)]) (.cond (.t 9) (.skip) (.exit 0))) (.seq (.block 1 (.ss [.mv 12 (.t 3),.mv 13 (.t 0),.mv 14 (.t 4),.elp 15 (.t 13) (.t 14) 4,.eld 16 15 0 [.int .i64 0,.int .i64 0,.sl [],.sl []],.call 17 nM eB [(.t 16)] [],.lit 18 1 [.int .i64 0,.int .i64 0,.sl [],.sl []] [(0,(.t 17))],.app 19 4 false (.t 12) (.t 18),.mv 3 (.t 19)])) (.ss [.mv 10 (.t 4),.bin 11 .add (.t 10) (.c (.int .i64 1)),.mv 4 (.t 11)])))))) (.seq (.ss [.mv 20 (.t 3),.mv 2 (.t 20)]) (.ret [2]))))
def BR:Cfg:={tt:=tt,sigs:=sigs,mv:=false,bm:=[],eqt:=cV,keep:=[true,false,true,true,true,false,false,false,false,true,false,false,false,false,false,false,false,false,false,false,false],n:=21,pin:=[],fail:=[],fz:=[] }
theorem JH:bC BR Tryz.f46 iP=some p_s_l12Copy:=by kernel_rfl
theorem JI {W:Wld}{ins outs:List (List D)}(h:pwp (FunOk PP W) p_s_l12Copy (aL outs) (envL ins)):FunOk PP W sY iP ins outs:=aK (C:=BR) (aJ rfl) (aR rfl rfl) mixed Tryz.func46 (by kernel_rfl) (by kernel_rfl) JH h

def p_s_l12PkgCopy:PC:= .seq (.ss [.mv 1 (.t 0),.bld 2 [.int .i64 0,.int .i64 0,.sl [],.sl []] []]) (.seq (.ss [.lit 3 0 [.int .i64 0,.int .i64 0] [],.nop,.sub 5 1 2 1,.app 6 2 true (.t 3) (.t 5),.nop,.st 1 2 (.t 6)]) (.seq (.ss [.lit 8 0 [.int .i64 0,.int .i64 0] [],.nop,.sub 10 1 3 1,.app 11 2 true (.t 8) (.t 10),.nop,.st 1 3 (.t 11)]) (.seq (.ss [.sub 13 1 0 4,.st 2 0 (.t 13)]) (.ret [2]))))
def tO:Cfg:={tt:=tt,sigs:=sigs,mv:=false,bm:=[],eqt:=cV,keep:=[true,true,true,false,false,false,false,false,false,false,false,false,false,false],n:=14,pin:=[],fail:=[],fz:=[] }
theorem Dz:bC tO Tryz.f92 eB=some p_s_l12PkgCopy:=by kernel_rfl
theorem EA {W:Wld}{ins outs:List (List D)}(h:pwp (FunOk PP W) p_s_l12PkgCopy (aL outs) (envL ins)):FunOk PP W nM eB ins outs:=aK (C:=tO) (aJ rfl) (aR rfl rfl) mixed Tryz.func92 (by kernel_rfl) (by kernel_rfl) Dz h

def p_s_l12Add:PC:= .seq (.ss [.mv 3 (.t 0),.mv 6 (.c (.sl [])),.mv 7 (.c (.bool false))]) (.seq (.seq (.ss [.nop,.sub 11 3 3 1,.un 12 .not (.t 11)]) (.cond (.t 12) (.seq (.ss [.mv 13 (.t 1),.mv 6 (.t 13),.mv 7 (.c (.bool false))]) (.ret [6,7])) (.skip))) (.seq (.ss [.nop,.sub 16 3 4 3,.mv 17 (.t 2),.call 18 mW gK [(.t 16),(.t 17)] [],.mv 14 (.t 18),.ext 19 14 0 4,.ext 20 14 4 1,.bld 8 [.int .i64 0,.int .i64 0,.sl [],.sl []] [],.st 8 0 (.t 19),.mv 9 (.t 20)]) (.seq (.seq (.ss [.mv 21 (.t 9),.un 22 .not (.t 21),.mv 23 (.t 22),.g 23 false 24 (.mv 24 (.t 1)),.g 23 false 25 (.nop),.g 23 false 26 (.sub 26 8 0 1),.g 23 false 27 (.nop),.g 23 false 28 (.sub 28 8 1 1),.g 23 false 29 (.call 29 sV iW [(.t 24),(.t 26),(.t 28)] []),.g 23 false 30 (.bin 30 .geq (.t 29) (.c (.int .i64 0))),.pick 31 (.t 23) (.c (.bool true)) (.t 30)]) (.cond (.t 31) (.seq (.ss [.mv 32 (.t 1),.mv 6 (.t 32),.mv 7 (.c (.bool false))]) (.ret [6,7])) (.skip))) (.seq (.ss [.mv 33 (.t 1),.sub 34 8 0 4,.call 35 sW iQ [(.t 33),(.t 34)] [],.mv 6 (.t 35),.mv 7 (.c (.bool true))]) (.ret [6,7])))))
def EB:Cfg:={tt:=tt,sigs:=sigs,mv:=false,bm:=[],eqt:=cV,keep:=[true,true,true,true,false,false,true,true,true,true,false,false,true,false,false,false,false,false,false,false,false,false,false,false,false,false,false,false,false,false,false,true,false,false,false,false],n:=36,pin:=[],fail:=[],fz:=[] }
theorem LQ:bC EB Tryz.f58 kK=some p_s_l12Add:=by kernel_rfl
theorem LR {W:Wld}{ins outs:List (List D)}(h:pwp (FunOk PP W) p_s_l12Add (aL outs) (envL ins)):FunOk PP W wI kK ins outs:=aK (C:=EB) (aJ rfl) (aR rfl rfl) mixed Tryz.func58 (by kernel_rfl) (by kernel_rfl) LQ h

def p_s_l3Has:PC:= .seq (.ss [.mv 2 (.t 0),.bld 4 [.int .i64 0,.int .i64 0,.sl [],.sl []] [],.mv 5 (.c (.bool false))]) (.seq (.ss [.mv 11 (.t 1),.call 12 lQ eI [(.t 11)] [],.mv 10 (.t 12),.ext 13 10 0 4,.ext 14 10 4 1,.bld 6 [.int .i64 0,.int .i64 0,.sl [],.sl []] [],.st 6 0 (.t 13),.mv 7 (.t 14)]) (.seq (.seq (.ss [.mv 15 (.t 7),.un 16 .not (.t 15)]) (.cond (.t 16) (.seq (.ss [.bld 17 [.int .i64 0,.int .i64 0,.sl [],.sl []] [],.st 4 0 (.t 17),.mv 5 (.c (.bool false))]) (.ret [4,5])) (.skip))) (.seq (.seq (.ss [.mv 8 (.c (.int .i64 0))]) (.block 0 (.loop (.seq (.seq (.ss [.mv 18 (.t 8),.nop,.sub 20 2 2 1,.len 21 (.t 20),.bin 22 .lss (.t 18) (.t 21)]) (.cond (.t 22) (.skip) (.exit 0))) (.seq (.block 1 (.seq (.ss [.nop,.sub 26 2 2 1,.mv 27 (.t 8),.elp 28 (.t 26) (.t 27) 3,.eld 29 28 0 [.int .i64 0,.int .i64 0,.int .i64 0],.bld 9 [.int .i64 0,.int .i64 0,.int .i64 0] [],.st 9 0 (.t 29)]) (.seq (.ss [.nop,.sub 31 9 0 1,.nop,.sub 33 6 0 1,.bin 34 .eql (.t 31) (.t 33),.mv 35 (.t 34),.g 35 true 36 (.nop),.g 35 true 37 (.sub 37 9 1 1),.g 35 true 38 (.nop),.g 35 true 39 (.sub 39 6 1 1),.g 35 true 40 (.bin 40 .eql (.t 37) (.t 39)),.pick 41 (.t 35) (.t 40) (.c (.bool false)),.mv 42 (.t 41),.g 42 true 43 (.nop),.g 42 true 44 (.sub 44 9 2 1),.g 42 true 45 (.mv 45 (.t 1)),.g 42 true 46 (.call 46 AY nB [(.t 45)] []),.g 42 true 47 (.bin 47 .eql (.t 44) (.t 46)),.pick 48 (.t 42) (.t 47) (.c (.bool false))]) (.cond (.t 48) (.seq (.ss [.sub 49 6 0 4,.st 4 0 (.t 49),.mv 5 (.c (.bool true))]) (.ret [4,5])) (.skip))))) (.ss [.mv 23 (.t 8),.bin 24 .add (.t 23) (.c (.int .i64 1)),.mv 8 (.t 24)])))))) (.seq (.ss [.bld 50 [.int .i64 0,.int .i64 0,.sl [],.sl []] [],.st 4 0 (.t 50),.mv 5 (.c (.bool false))]) (.ret [4,5])))))
def GK:Cfg:={tt:=tt,sigs:=sigs,mv:=false,bm:=[],eqt:=cV,keep:=[true,true,true,false,true,true,true,true,true,true,false,false,false,false,false,false,true,false,false,false,false,false,true,false,false,false,false,false,false,false,false,false,false,false,false,false,false,false,false,false,false,false,false,false,false,false,false,false,true,false,false],n:=51,pin:=[],fail:=[],fz:=[] }
theorem Oa:bC GK Tryz.f91 gK=some p_s_l3Has:=by kernel_rfl
theorem Ac {W:Wld}{ins outs:List (List D)}(h:pwp (FunOk PP W) p_s_l3Has (aL outs) (envL ins)):FunOk PP W mW gK ins outs:=aK (C:=GK) (aJ rfl) (aR rfl rfl) mixed Tryz.func91 (by kernel_rfl) (by kernel_rfl) Oa h

def p_sl_BinarySearchFunc_Pkg:PC:= .seq (.ss [.mv 4 (.t 1),.mv 6 (.c (.int .i64 0)),.mv 7 (.c (.bool false))]) (.seq (.ss [.mv 12 (.t 0),.len 13 (.t 12),.mv 8 (.t 13)]) (.seq (.ss [.mv 14 (.t 8),.mv 9 (.c (.int .i64 0)),.mv 10 (.t 14)]) (.seq (.block 0 (.loop (.seq (.seq (.ss [.mv 15 (.t 9),.mv 16 (.t 10),.bin 17 .lss (.t 15) (.t 16)]) (.cond (.t 17) (.skip) (.exit 0))) (.block 1 (.seq (.ss [.mv 18 (.t 9),.mv 19 (.t 10),.bin 20 .add (.t 18) (.t 19),.cvt 21 .u64 (.t 20),.bin 22 .shr (.t 21) (.c (.int .u64 1)),.cvt 23 .i64 (.t 22),.mv 11 (.t 23)]) (.seq (.ss [.mv 24 (.t 2),.mv 25 (.t 0),.mv 26 (.t 11),.elp 27 (.t 25) (.t 26) 4,.eld 28 27 0 [.int .i64 0,.int .i64 0,.sl [],.sl []],.sub 29 4 0 4,.callc 30 24 cD cE [(.t 28),(.t 29)],.bin 31 .lss (.t 30) (.c (.int .i64 0))]) (.cond (.t 31) (.ss [.mv 32 (.t 11),.bin 33 .add (.t 32) (.c (.int .i64 1)),.mv 9 (.t 33)]) (.ss [.mv 34 (.t 11),.mv 10 (.t 34)])))))))) (.seq (.ss [.mv 35 (.t 9),.mv 36 (.t 9),.mv 37 (.t 8),.bin 38 .lss (.t 36) (.t 37),.mv 39 (.t 38),.g 39 true 40 (.mv 40 (.t 2)),.g 39 true 41 (.mv 41 (.t 0)),.g 39 true 42 (.mv 42 (.t 9)),.g 39 true 43 (.elp 43 (.t 41) (.t 42) 4),.g 39 true 44 (.eld 44 43 0 [.int .i64 0,.int .i64 0,.sl [],.sl []]),.g 39 true 45 (.sub 45 4 0 4),.g 39 true 46 (.callc 46 40 cD cE [(.t 44),(.t 45)]),.g 39 true 47 (.bin 47 .eql (.t 46) (.c (.int .i64 0))),.pick 48 (.t 39) (.t 47) (.c (.bool false)),.mv 6 (.t 35),.mv 7 (.t 48)]) (.ret [6,7])))))
def gQ:Cfg:={tt:=tt,sigs:=sigs,mv:=false,bm:=[],eqt:=cV,keep:=[true,true,true,false,true,false,true,true,true,true,true,true,false,false,false,false,false,true,false,false,false,false,false,false,false,false,false,false,false,false,false,true,false,false,false,false,false,false,false,false,false,false,false,false,false,false,false,false,false],n:=49,pin:=[],fail:=[],fz:=[] }
theorem nT:bC gQ Tryz.f106 bM=some p_sl_BinarySearchFunc_Pkg:=by kernel_rfl
theorem nU {W:Wld}{ins outs:List (List D)}(h:pwp (FunOk PP W) p_sl_BinarySearchFunc_Pkg (aL outs) (envL ins)):FunOk PP W dK bM ins outs:=aK (C:=gQ) (aJ rfl) (aR rfl rfl) mixed Tryz.func106 (by kernel_rfl) (by kernel_rfl) nT h

def p_s_l12With:PC:= .seq (.ss [.mv 3 (.t 1),.mv 4 (.c (.sl []))]) (.seq (.ss [.lit 8 0 [.int .i64 0,.int .i64 0,.sl [],.sl []] [],.mv 5 (.t 8)]) (.seq (.seq (.ss [.mv 6 (.c (.int .i64 0))]) (.block 0 (.loop (.seq (.seq (.ss [.mv 9 (.t 6),.mv 10 (.t 0),.len 11 (.t 10),.bin 12 .lss (.t 9) (.t 11)]) (.cond (.t 12) (.skip) (.exit 0))) (.seq (.block 1 (.seq (.ss [.mv 15 (.t 0),.mv 16 (.t 6),.elp 17 (.t 15) (.t 16) 4,.mv 18 (.t 17),.eld 19 18 0 [.int .i64 0],.mv 20 (.t 0),.mv 21 (.t 6),.elp 22 (.t 20) (.t 21) 4,.mv 23 (.t 22),.eld 24 23 1 [.int .i64 0],.nop,.sub 26 3 0 1,.nop,.sub 28 3 1 1,.call 29 kI eP [(.t 19),(.t 24),(.t 26),(.t 28)] []]) (.cond (.t 29) (.ss [.mv 30 (.t 5),.mv 31 (.t 0),.mv 32 (.t 6),.elp 33 (.t 31) (.t 32) 4,.eld 34 33 0 [.int .i64 0,.int .i64 0,.sl [],.sl []],.lit 35 1 [.int .i64 0,.int .i64 0,.sl [],.sl []] [(0,(.t 34))],.app 36 4 false (.t 30) (.t 35),.mv 5 (.t 36)]) (.skip)))) (.ss [.mv 13 (.t 6),.bin 14 .add (.t 13) (.c (.int .i64 1)),.mv 6 (.t 14)])))))) (.seq (.ss [.mv 37 (.t 5),.sub 38 3 0 4,.lit 39 1 [.int .i64 0,.int .i64 0,.sl [],.sl []] [(0,(.t 38))],.app 40 4 false (.t 37) (.t 39),.mv 5 (.t 40)]) (.seq (.seq (.ss [.mv 7 (.c (.int .i64 0))]) (.block 2 (.loop (.seq (.seq (.ss [.mv 41 (.t 7),.mv 42 (.t 0),.len 43 (.t 42),.bin 44 .lss (.t 41) (.t 43)]) (.cond (.t 44) (.skip) (.exit 2))) (.seq (.block 3 (.seq (.ss [.nop,.sub 48 3 0 1,.nop,.sub 50 3 1 1,.mv 51 (.t 0),.mv 52 (.t 7),.elp 53 (.t 51) (.t 52) 4,.mv 54 (.t 53),.eld 55 54 0 [.int .i64 0],.mv 56 (.t 0),.mv 57 (.t 7),.elp 58 (.t 56) (.t 57) 4,.mv 59 (.t 58),.eld 60 59 1 [.int .i64 0],.call 61 kI eP [(.t 48),(.t 50),(.t 55),(.t 60)] []]) (.cond (.t 61) (.ss [.mv 62 (.t 5),.mv 63 (.t 0),.mv 64 (.t 7),.elp 65 (.t 63) (.t 64) 4,.eld 66 65 0 [.int .i64 0,.int .i64 0,.sl [],.sl []],.lit 67 1 [.int .i64 0,.int .i64 0,.sl [],.sl []] [(0,(.t 66))],.app 68 4 false (.t 62) (.t 67),.mv 5 (.t 68)]) (.skip)))) (.ss [.mv 45 (.t 7),.bin 46 .add (.t 45) (.c (.int .i64 1)),.mv 7 (.t 46)])))))) (.seq (.ss [.mv 69 (.t 5),.mv 4 (.t 69)]) (.ret [4]))))))
def BT:Cfg:={tt:=tt,sigs:=sigs,mv:=false,bm:=[8],eqt:=cV,keep:=[true,true,false,true,true,true,true,true,false,false,false,false,true,false,false,false,false,false,false,false,false,false,false,false,false,false,false,false,false,true,false,false,false,false,false,false,false,false,false,false,false,false,false,false,true,false,false,false,false,false,false,false,false,false,false,false,false,false,false,false,false,true,false,false,false,false,false,false,false,false],n:=70,pin:=[],fail:=[],fz:=[] }
theorem JJ:bC BT Tryz.f40 iQ=some p_s_l12With:=by kernel_rfl
theorem JK {W:Wld}{ins outs:List (List D)}(h:pwp (FunOk PP W) p_s_l12With (aL outs) (envL ins)):FunOk PP W sW iQ ins outs:=aK (C:=BT) (aJ rfl) (aR rfl rfl) mixed Tryz.func40 (by kernel_rfl) (by kernel_rfl) JJ h

def p_s_TrustOk:PC:= .seq (.ss [.mv 1 (.t 0),.mv 2 (.c (.bool false))]) (.seq (.seq (.ss [.nop,.sub 4 1 0 3,.call 5 wH kP [(.t 4)] [],.un 6 .not (.t 5)]) (.cond (.t 6) (.seq (.ss [.mv 2 (.c (.bool false))]) (.ret [2])) (.skip))) (.seq (.seq (.ss [.nop,.sub 8 1 3 1]) (.cond (.t 8) (.seq (.ss [.nop,.sub 10 1 4 3,.call 11 sZ iY [(.t 10)] [],.mv 2 (.t 11)]) (.ret [2])) (.skip))) (.seq (.ss [.nop,.nop,.sub 14 1 4 1,.bin 15 .eql (.t 14) (.c (.int .i64 0)),.mv 16 (.t 15),.g 16 true 17 (.nop),.g 16 true 18 (.nop),.g 16 true 19 (.sub 19 1 5 1),.g 16 true 20 (.bin 20 .eql (.t 19) (.c (.int .i64 0))),.pick 21 (.t 16) (.t 20) (.c (.bool false)),.mv 22 (.t 21),.g 22 true 23 (.nop),.g 22 true 24 (.nop),.g 22 true 25 (.sub 25 1 6 1),.g 22 true 26 (.len 26 (.t 25)),.g 22 true 27 (.bin 27 .eql (.t 26) (.c (.int .i64 0))),.pick 28 (.t 22) (.t 27) (.c (.bool false)),.mv 2 (.t 28)]) (.ret [2]))))
def BU:Cfg:={tt:=tt,sigs:=sigs,mv:=false,bm:=[],eqt:=cV,keep:=[true,true,true,false,false,false,true,false,true,false,false,false,false,false,false,false,false,false,false,false,false,false,false,false,false,false,false,false,false],n:=29,pin:=[],fail:=[],fz:=[] }
theorem JL:bC BU Tryz.f13 iR=some p_s_TrustOk:=by kernel_rfl
theorem JM {W:Wld}{ins outs:List (List D)}(h:pwp (FunOk PP W) p_s_TrustOk (aL outs) (envL ins)):FunOk PP W sO iR ins outs:=aK (C:=BU) (aJ rfl) (aR rfl rfl) mixed Tryz.func13 (by kernel_rfl) (by kernel_rfl) JL h

def p_s_StoreOk:PC:= .seq (.ss [.mv 2 (.c (.bool false))]) (.seq (.ss [.mv 3 (.t 0),.call 4 wF kM [(.t 3)] [],.mv 2 (.t 4)]) (.ret [2]))
def BV:Cfg:={tt:=tt,sigs:=sigs,mv:=false,bm:=[],eqt:=cV,keep:=[true,false,true,false,false],n:=5,pin:=[],fail:=[],fz:=[] }
theorem JN:bC BV Tryz.f14 iS=some p_s_StoreOk:=by kernel_rfl
theorem JO {W:Wld}{ins outs:List (List D)}(h:pwp (FunOk PP W) p_s_StoreOk (aL outs) (envL ins)):FunOk PP W sP iS ins outs:=aK (C:=BV) (aJ rfl) (aR rfl rfl) mixed Tryz.func14 (by kernel_rfl) (by kernel_rfl) JN h

def p_i_IndexHas:PC:= .seq (.ss [.mv 2 (.t 0),.bld 4 [.int .i64 0,.int .i64 0,.sl [],.sl []] [],.mv 5 (.c (.bool false))]) (.seq (.ss [.mv 9 (.t 1),.call 10 lP eJ [(.t 9)] [],.mv 8 (.t 10),.ext 11 8 0 4,.ext 12 8 4 1,.bld 6 [.int .i64 0,.int .i64 0,.sl [],.sl []] [],.st 6 0 (.t 11),.mv 7 (.t 12)]) (.seq (.seq (.ss [.mv 13 (.t 7),.un 14 .not (.t 13),.mv 15 (.t 14),.g 15 false 16 (.sub 16 2 0 3),.g 15 false 17 (.call 17 oL fU [(.t 16)] []),.g 15 false 18 (.un 18 .not (.t 17)),.pick 19 (.t 15) (.c (.bool true)) (.t 18),.mv 20 (.t 19),.g 20 false 21 (.nop),.g 20 false 22 (.sub 22 2 2 1),.g 20 false 23 (.sub 23 6 0 4),.g 20 false 24 (.call 24 wG kO [(.t 23)] []),.g 20 false 25 (.call 25 iC cK [(.t 22),(.t 24)] []),.g 20 false 26 (.un 26 .not (.t 25)),.pick 27 (.t 20) (.c (.bool true)) (.t 26)]) (.cond (.t 27) (.seq (.ss [.bld 28 [.int .i64 0,.int .i64 0,.sl [],.sl []] [],.st 4 0 (.t 28),.mv 5 (.c (.bool false))]) (.ret [4,5])) (.skip))) (.seq (.ss [.sub 29 6 0 4,.st 4 0 (.t 29),.mv 5 (.c (.bool true))]) (.ret [4,5]))))
def yM:Cfg:={tt:=tt,sigs:=sigs,mv:=false,bm:=[],eqt:=cV,keep:=[true,true,true,false,true,true,true,true,false,false,false,false,false,false,false,false,false,false,false,false,false,false,false,false,false,false,false,true,false,false],n:=30,pin:=[],fail:=[],fz:=[] }
theorem HP:bC yM Tryz.f15 dR=some p_i_IndexHas:=by kernel_rfl
theorem HQ {W:Wld}{ins outs:List (List D)}(h:pwp (FunOk PP W) p_i_IndexHas (aL outs) (envL ins)):FunOk PP W jQ dR ins outs:=aK (C:=yM) (aJ rfl) (aR rfl rfl) mixed Tryz.func15 (by kernel_rfl) (by kernel_rfl) HP h

def p_s_StoreAdd:PC:= .seq (.ss [.mv 3 (.t 0),.mv 6 (.c (.sl [])),.mv 7 (.c (.bool false))]) (.seq (.seq (.ss [.sub 8 3 0 7,.call 9 sO iR [(.t 8)] [],.un 10 .not (.t 9),.mv 11 (.t 10),.g 11 false 12 (.mv 12 (.t 1)),.g 11 false 13 (.call 13 sP iS [(.t 12)] []),.g 11 false 14 (.un 14 .not (.t 13)),.pick 15 (.t 11) (.c (.bool true)) (.t 14)]) (.cond (.t 15) (.seq (.ss [.lit 16 0 [.int .i64 0,.int .i64 0,.sl [],.sl []] [],.mv 6 (.t 16),.mv 7 (.c (.bool false))]) (.ret [6,7])) (.skip))) (.seq (.ss [.sub 17 3 0 7,.mv 18 (.t 1),.call 19 sY iP [(.t 18)] [],.mv 20 (.t 2),.call 21 wI kK [(.t 17),(.t 19),(.t 20)] [],.ext 22 21 0 1,.ext 23 21 1 1,.mv 6 (.t 22),.mv 7 (.t 23)]) (.ret [6,7])))
def yN:Cfg:={tt:=tt,sigs:=sigs,mv:=false,bm:=[],eqt:=cV,keep:=[true,true,true,true,false,false,true,true,false,false,false,false,false,false,false,true,false,false,false,false,false,false,false,false],n:=24,pin:=[],fail:=[],fz:=[] }
theorem HR:bC yN Tryz.f19 gL=some p_s_StoreAdd:=by kernel_rfl
theorem HS {W:Wld}{ins outs:List (List D)}(h:pwp (FunOk PP W) p_s_StoreAdd (aL outs) (envL ins)):FunOk PP W qR gL ins outs:=aK (C:=yN) (aJ rfl) (aR rfl rfl) mixed Tryz.func19 (by kernel_rfl) (by kernel_rfl) HR h

def p_i_StoreOk:PC:= .seq (.ss [.mv 2 (.c (.bool false))]) (.seq (.seq (.ss [.mv 5 (.t 0),.len 6 (.t 5),.mv 7 (.c (.int .i64 0))]) (.block 0 (.loop (.seq (.ss [.bin 8 .lss (.t 7) (.t 6)]) (.seq (.cond (.t 8) (.skip) (.exit 0)) (.seq (.block 1 (.seq (.ss [.mv 9 (.t 7),.elp 10 (.t 5) (.t 7) 4,.eld 11 10 0 [.int .i64 0,.int .i64 0,.sl [],.sl []],.bld 4 [.int .i64 0,.int .i64 0,.sl [],.sl []] [],.mv 3 (.t 9),.st 4 0 (.t 11)]) (.seq (.ss [.sub 12 4 0 4,.call 13 uH kQ [(.t 12)] [],.un 14 .not (.t 13),.mv 15 (.t 14),.g 15 false 16 (.mv 16 (.t 3)),.g 15 false 17 (.bin 17 .gtr (.t 16) (.c (.int .i64 0))),.g 15 false 18 (.mv 18 (.t 17)),.g 18 true 19 (.mv 19 (.t 0)),.g 18 true 20 (.mv 20 (.t 3)),.g 18 true 21 (.bin 21 .sub (.t 20) (.c (.int .i64 1))),.g 18 true 22 (.elp 22 (.t 19) (.t 21) 4),.g 18 true 23 (.eld 23 22 0 [.int .i64 0,.int .i64 0,.sl [],.sl []]),.g 18 true 24 (.sub 24 4 0 4),.g 18 true 25 (.call 25 cD cE [(.t 23),(.t 24)] []),.g 18 true 26 (.bin 26 .geq (.t 25) (.c (.int .i64 0))),.g 15 false 27 (.pick 27 (.t 18) (.t 26) (.c (.bool false))),.pick 28 (.t 15) (.c (.bool true)) (.t 27)]) (.cond (.t 28) (.seq (.ss [.mv 2 (.c (.bool false))]) (.ret [2])) (.skip))))) (.ss [.bin 29 .add (.t 7) (.c (.int .i64 1)),.mv 7 (.t 29)]))))))) (.seq (.ss [.mv 2 (.c (.bool true))]) (.ret [2])))
def BW:Cfg:={tt:=tt,sigs:=sigs,mv:=false,bm:=[],eqt:=cV,keep:=[true,false,true,true,true,true,true,true,true,false,false,false,false,false,false,false,false,false,false,false,false,false,false,false,false,false,false,false,true,false],n:=30,pin:=[],fail:=[],fz:=[] }
theorem JP:bC BW Tryz.f23 iT=some p_i_StoreOk:=by kernel_rfl
theorem JQ {W:Wld}{ins outs:List (List D)}(h:pwp (FunOk PP W) p_i_StoreOk (aL outs) (envL ins)):FunOk PP W sR iT ins outs:=aK (C:=BW) (aJ rfl) (aR rfl rfl) mixed Tryz.func23 (by kernel_rfl) (by kernel_rfl) JP h

def p_l_szTrust:PC:= .seq (.ss [.mv 2 (.t 0),.mv 4 (.c (.int .i64 0))]) (.seq (.ss [.nop,.sub 6 2 0 3,.mv 7 (.t 1),.call 8 wL kS [(.t 6),(.t 7)] [],.mv 1 (.t 8)]) (.seq (.seq (.ss [.mv 9 (.t 1),.bin 10 .lss (.t 9) (.c (.int .i64 0))]) (.cond (.t 10) (.seq (.ss [.mv 4 (.c (.int .i64 (-1)))]) (.ret [4])) (.skip))) (.seq (.ss [.nop,.sub 12 2 4 3,.mv 13 (.t 1),.call 14 tB jA [(.t 12),(.t 13)] [],.mv 1 (.t 14)]) (.seq (.seq (.ss [.mv 15 (.t 1),.bin 16 .lss (.t 15) (.c (.int .i64 0))]) (.cond (.t 16) (.seq (.ss [.mv 4 (.c (.int .i64 (-1)))]) (.ret [4])) (.skip))) (.seq (.ss [.mv 17 (.t 1),.mv 4 (.t 17)]) (.ret [4]))))))
def BX:Cfg:={tt:=tt,sigs:=sigs,mv:=false,bm:=[],eqt:=cV,keep:=[true,true,true,false,true,false,false,false,false,false,true,false,false,false,false,false,true,false],n:=18,pin:=[],fail:=[],fz:=[] }
theorem JR:bC BX Tryz.f24 iU=some p_l_szTrust:=by kernel_rfl
theorem JS {W:Wld}{ins outs:List (List D)}(h:pwp (FunOk PP W) p_l_szTrust (aL outs) (envL ins)):FunOk PP W sS iU ins outs:=aK (C:=BX) (aJ rfl) (aR rfl rfl) mixed Tryz.func24 (by kernel_rfl) (by kernel_rfl) JR h

def p_l_szPkgS:PC:= .seq (.ss [.mv 4 (.c (.int .i64 0))]) (.seq (.ss [.mv 6 (.t 1),.mv 7 (.t 0),.len 8 (.t 7),.bin 9 .sub (.t 6) (.t 8),.mv 1 (.t 9)]) (.seq (.seq (.ss [.mv 10 (.t 1),.bin 11 .lss (.t 10) (.c (.int .i64 0))]) (.cond (.t 11) (.seq (.ss [.mv 4 (.c (.int .i64 (-1)))]) (.ret [4])) (.skip))) (.seq (.seq (.ss [.mv 5 (.c (.int .i64 0))]) (.block 0 (.loop (.seq (.seq (.ss [.mv 12 (.t 5),.mv 13 (.t 0),.len 14 (.t 13),.bin 15 .lss (.t 12) (.t 14)]) (.cond (.t 15) (.skip) (.exit 0))) (.seq (.block 1 (.seq (.ss [.mv 18 (.t 0),.mv 19 (.t 5),.elp 20 (.t 18) (.t 19) 4,.eld 21 20 0 [.int .i64 0,.int .i64 0,.sl [],.sl []],.mv 22 (.t 1),.call 23 AU mY [(.t 21),(.t 22)] [],.mv 1 (.t 23)]) (.seq (.ss [.mv 24 (.t 1),.bin 25 .lss (.t 24) (.c (.int .i64 0))]) (.cond (.t 25) (.seq (.ss [.mv 4 (.c (.int .i64 (-1)))]) (.ret [4])) (.skip))))) (.ss [.mv 16 (.t 5),.bin 17 .add (.t 16) (.c (.int .i64 1)),.mv 5 (.t 17)])))))) (.seq (.ss [.mv 26 (.t 1),.mv 4 (.t 26)]) (.ret [4])))))
def EC:Cfg:={tt:=tt,sigs:=sigs,mv:=false,bm:=[],eqt:=cV,keep:=[true,true,false,false,true,true,false,false,false,false,false,true,false,false,false,true,false,false,false,false,false,false,false,false,false,true,false],n:=27,pin:=[],fail:=[],fz:=[] }
theorem LS:bC EC Tryz.f25 kL=some p_l_szPkgS:=by kernel_rfl
theorem LT {W:Wld}{ins outs:List (List D)}(h:pwp (FunOk PP W) p_l_szPkgS (aL outs) (envL ins)):FunOk PP W wD kL ins outs:=aK (C:=EC) (aJ rfl) (aR rfl rfl) mixed Tryz.func25 (by kernel_rfl) (by kernel_rfl) LS h

def p_l_eqPkgS:PC:= .seq (.ss [.mv 4 (.c (.bool false))]) (.seq (.seq (.ss [.mv 6 (.t 0),.len 7 (.t 6),.mv 8 (.t 1),.len 9 (.t 8),.bin 10 .neq (.t 7) (.t 9)]) (.cond (.t 10) (.seq (.ss [.mv 4 (.c (.bool false))]) (.ret [4])) (.skip))) (.seq (.seq (.ss [.mv 5 (.c (.int .i64 0))]) (.block 0 (.loop (.seq (.seq (.ss [.mv 11 (.t 5),.mv 12 (.t 0),.len 13 (.t 12),.bin 14 .lss (.t 11) (.t 13)]) (.cond (.t 14) (.skip) (.exit 0))) (.seq (.block 1 (.seq (.ss [.mv 17 (.t 0),.mv 18 (.t 5),.elp 19 (.t 17) (.t 18) 4,.eld 20 19 0 [.int .i64 0,.int .i64 0,.sl [],.sl []],.mv 21 (.t 1),.mv 22 (.t 5),.elp 23 (.t 21) (.t 22) 4,.eld 24 23 0 [.int .i64 0,.int .i64 0,.sl [],.sl []],.call 25 AW mZ [(.t 20),(.t 24)] [],.un 26 .not (.t 25)]) (.cond (.t 26) (.seq (.ss [.mv 4 (.c (.bool false))]) (.ret [4])) (.skip)))) (.ss [.mv 15 (.t 5),.bin 16 .add (.t 15) (.c (.int .i64 1)),.mv 5 (.t 16)])))))) (.seq (.ss [.mv 4 (.c (.bool true))]) (.ret [4]))))
def ED:Cfg:={tt:=tt,sigs:=sigs,mv:=false,bm:=[],eqt:=cV,keep:=[true,true,false,false,true,true,false,false,false,false,true,false,false,false,true,false,false,false,false,false,false,false,false,false,false,false,true],n:=27,pin:=[],fail:=[],fz:=[] }
theorem LU:bC ED Tryz.f28 dY=some p_l_eqPkgS:=by kernel_rfl
theorem LV {W:Wld}{ins outs:List (List D)}(h:pwp (FunOk PP W) p_l_eqPkgS (aL outs) (envL ins)):FunOk PP W iB dY ins outs:=aK (C:=ED) (aJ rfl) (aR rfl rfl) mixed Tryz.func28 (by kernel_rfl) (by kernel_rfl) LU h

def p_l_eqTrust:PC:= .seq (.ss [.mv 2 (.t 0),.mv 3 (.t 1),.mv 4 (.c (.bool false))]) (.seq (.seq (.ss [.nop,.sub 6 2 0 3,.nop,.sub 8 3 0 3,.call 9 qS iD [(.t 6),(.t 8)] [],.un 10 .not (.t 9)]) (.cond (.t 10) (.seq (.ss [.mv 4 (.c (.bool false))]) (.ret [4])) (.skip))) (.seq (.seq (.ss [.nop,.sub 12 2 3 1,.nop,.sub 14 3 3 1,.beq 15 true (.t 12) (.t 14)]) (.cond (.t 15) (.seq (.ss [.mv 4 (.c (.bool false))]) (.ret [4])) (.skip))) (.seq (.seq (.ss [.nop,.sub 17 2 4 3,.nop,.sub 19 3 4 3,.call 20 tE jB [(.t 17),(.t 19)] [],.un 21 .not (.t 20)]) (.cond (.t 21) (.seq (.ss [.mv 4 (.c (.bool false))]) (.ret [4])) (.skip))) (.seq (.ss [.mv 4 (.c (.bool true))]) (.ret [4])))))
def BY:Cfg:={tt:=tt,sigs:=sigs,mv:=false,bm:=[],eqt:=cV,keep:=[true,true,true,true,true,false,false,false,false,false,true,false,false,false,false,true,false,false,false,false,false,true],n:=22,pin:=[],fail:=[],fz:=[] }
theorem JT:bC BY Tryz.f29 iV=some p_l_eqTrust:=by kernel_rfl
theorem JU {W:Wld}{ins outs:List (List D)}(h:pwp (FunOk PP W) p_l_eqTrust (aL outs) (envL ins)):FunOk PP W sU iV ins outs:=aK (C:=BY) (aJ rfl) (aR rfl rfl) mixed Tryz.func29 (by kernel_rfl) (by kernel_rfl) JT h

def p_l_heldPkgS:PC:= .seq (.ss [.mv 4 (.c (.int .i64 0))]) (.seq (.seq (.ss [.mv 5 (.c (.int .i64 0))]) (.block 0 (.loop (.seq (.seq (.ss [.mv 6 (.t 5),.mv 7 (.t 0),.len 8 (.t 7),.bin 9 .lss (.t 6) (.t 8)]) (.cond (.t 9) (.skip) (.exit 0))) (.seq (.block 1 (.seq (.seq (.ss [.mv 12 (.t 0),.mv 13 (.t 5),.elp 14 (.t 12) (.t 13) 4,.mv 15 (.t 14),.eld 16 15 0 [.int .i64 0],.mv 17 (.t 1),.bin 18 .neq (.t 16) (.t 17)]) (.cond (.t 18) (.seq (.ss [.mv 4 (.c (.int .i64 (-1)))]) (.ret [4])) (.skip))) (.seq (.ss [.mv 19 (.t 1),.bin 20 .add (.t 19) (.c (.int .i64 1)),.mv 1 (.t 20)]) (.seq (.seq (.ss [.mv 21 (.t 0),.mv 22 (.t 5),.elp 23 (.t 21) (.t 22) 4,.mv 24 (.t 23),.eld 25 24 1 [.int .i64 0],.mv 26 (.t 1),.bin 27 .neq (.t 25) (.t 26)]) (.cond (.t 27) (.seq (.ss [.mv 4 (.c (.int .i64 (-1)))]) (.ret [4])) (.skip))) (.seq (.ss [.mv 28 (.t 1),.bin 29 .add (.t 28) (.c (.int .i64 1)),.mv 1 (.t 29)]) (.seq (.ss [.mv 30 (.t 0),.mv 31 (.t 5),.elp 32 (.t 30) (.t 31) 4,.mv 33 (.t 32),.eld 34 33 2 [.sl []],.mv 35 (.t 1),.call 36 pC fG [(.t 34),(.t 35)] [],.mv 1 (.t 36)]) (.seq (.seq (.ss [.mv 37 (.t 1),.bin 38 .lss (.t 37) (.c (.int .i64 0))]) (.cond (.t 38) (.seq (.ss [.mv 4 (.c (.int .i64 (-1)))]) (.ret [4])) (.skip))) (.seq (.ss [.mv 39 (.t 0),.mv 40 (.t 5),.elp 41 (.t 39) (.t 40) 4,.mv 42 (.t 41),.eld 43 42 3 [.sl []],.mv 44 (.t 1),.call 45 qV gM [(.t 43),(.t 44)] [],.mv 1 (.t 45)]) (.seq (.ss [.mv 46 (.t 1),.bin 47 .lss (.t 46) (.c (.int .i64 0))]) (.cond (.t 47) (.seq (.ss [.mv 4 (.c (.int .i64 (-1)))]) (.ret [4])) (.skip))))))))))) (.ss [.mv 10 (.t 5),.bin 11 .add (.t 10) (.c (.int .i64 1)),.mv 5 (.t 11)])))))) (.seq (.ss [.mv 48 (.t 1),.mv 4 (.t 48)]) (.ret [4])))
def yO:Cfg:={tt:=tt,sigs:=sigs,mv:=false,bm:=[],eqt:=cV,keep:=[true,true,false,false,true,true,false,false,false,true,false,false,false,false,false,false,false,false,true,false,false,false,false,false,false,false,false,true,false,false,false,false,false,false,false,false,false,false,true,false,false,false,false,false,false,false,false,true,false],n:=49,pin:=[],fail:=[],fz:=[] }
theorem HT:bC yO Tryz.f32 eO=some p_l_heldPkgS:=by kernel_rfl
theorem HU {W:Wld}{ins outs:List (List D)}(h:pwp (FunOk PP W) p_l_heldPkgS (aL outs) (envL ins)):FunOk PP W mN eO ins outs:=aK (C:=yO) (aJ rfl) (aR rfl rfl) mixed Tryz.func32 (by kernel_rfl) (by kernel_rfl) HT h

end
section

def p_s_l12Find:PC:= .seq (.ss [.mv 6 (.c (.int .i64 0))]) (.seq (.seq (.ss [.mv 7 (.c (.int .i64 0))]) (.block 0 (.loop (.seq (.seq (.ss [.mv 8 (.t 7),.mv 9 (.t 0),.len 10 (.t 9),.bin 11 .lss (.t 8) (.t 10)]) (.cond (.t 11) (.skip) (.exit 0))) (.seq (.block 1 (.seq (.ss [.mv 14 (.t 0),.mv 15 (.t 7),.elp 16 (.t 14) (.t 15) 4,.mv 17 (.t 16),.eld 18 17 0 [.int .i64 0],.mv 19 (.t 1),.bin 20 .eql (.t 18) (.t 19),.mv 21 (.t 20),.g 21 true 22 (.mv 22 (.t 0)),.g 21 true 23 (.mv 23 (.t 7)),.g 21 true 24 (.elp 24 (.t 22) (.t 23) 4),.g 21 true 25 (.mv 25 (.t 24)),.g 21 true 26 (.eld 26 25 1 [.int .i64 0]),.g 21 true 27 (.mv 27 (.t 2)),.g 21 true 28 (.bin 28 .eql (.t 26) (.t 27)),.pick 29 (.t 21) (.t 28) (.c (.bool false))]) (.cond (.t 29) (.seq (.ss [.mv 30 (.t 7),.mv 6 (.t 30)]) (.ret [6])) (.skip)))) (.ss [.mv 12 (.t 7),.bin 13 .add (.t 12) (.c (.int .i64 1)),.mv 7 (.t 13)])))))) (.seq (.ss [.mv 6 (.c (.int .i64 (-1)))]) (.ret [6])))
def BZ:Cfg:={tt:=tt,sigs:=sigs,mv:=false,bm:=[],eqt:=cV,keep:=[true,true,true,false,false,false,true,true,false,false,false,true,false,false,false,false,false,false,false,false,false,false,false,false,false,false,false,false,false,true,false],n:=31,pin:=[],fail:=[],fz:=[] }
theorem JV:bC BZ Tryz.f38 iW=some p_s_l12Find:=by kernel_rfl
theorem JW {W:Wld}{ins outs:List (List D)}(h:pwp (FunOk PP W) p_s_l12Find (aL outs) (envL ins)):FunOk PP W sV iW ins outs:=aK (C:=BZ) (aJ rfl) (aR rfl rfl) mixed Tryz.func38 (by kernel_rfl) (by kernel_rfl) JV h

def p_s_l3Pkgs:PC:= .seq (.ss [.mv 2 (.c (.bool false))]) (.seq (.seq (.ss [.mv 3 (.c (.int .i64 0))]) (.block 0 (.loop (.seq (.seq (.ss [.mv 4 (.t 3),.mv 5 (.t 0),.len 6 (.t 5),.bin 7 .lss (.t 4) (.t 6)]) (.cond (.t 7) (.skip) (.exit 0))) (.seq (.block 1 (.seq (.ss [.mv 10 (.t 0),.mv 11 (.t 3),.elp 12 (.t 10) (.t 11) 4,.eld 13 12 0 [.int .i64 0,.int .i64 0,.sl [],.sl []],.call 14 uI kT [(.t 13)] [],.un 15 .not (.t 14),.mv 16 (.t 15),.g 16 false 17 (.mv 17 (.t 3)),.g 16 false 18 (.bin 18 .gtr (.t 17) (.c (.int .i64 0))),.g 16 false 19 (.mv 19 (.t 18)),.g 19 true 20 (.mv 20 (.t 0)),.g 19 true 21 (.mv 21 (.t 3)),.g 19 true 22 (.bin 22 .sub (.t 21) (.c (.int .i64 1))),.g 19 true 23 (.elp 23 (.t 20) (.t 22) 4),.g 19 true 24 (.mv 24 (.t 23)),.g 19 true 25 (.eld 25 24 0 [.int .i64 0]),.g 19 true 26 (.mv 26 (.t 0)),.g 19 true 27 (.mv 27 (.t 3)),.g 19 true 28 (.bin 28 .sub (.t 27) (.c (.int .i64 1))),.g 19 true 29 (.elp 29 (.t 26) (.t 28) 4),.g 19 true 30 (.mv 30 (.t 29)),.g 19 true 31 (.eld 31 30 1 [.int .i64 0]),.g 19 true 32 (.mv 32 (.t 0)),.g 19 true 33 (.mv 33 (.t 3)),.g 19 true 34 (.elp 34 (.t 32) (.t 33) 4),.g 19 true 35 (.mv 35 (.t 34)),.g 19 true 36 (.eld 36 35 0 [.int .i64 0]),.g 19 true 37 (.mv 37 (.t 0)),.g 19 true 38 (.mv 38 (.t 3)),.g 19 true 39 (.elp 39 (.t 37) (.t 38) 4),.g 19 true 40 (.mv 40 (.t 39)),.g 19 true 41 (.eld 41 40 1 [.int .i64 0]),.g 19 true 42 (.call 42 kI eP [(.t 25),(.t 31),(.t 36),(.t 41)] []),.g 19 true 43 (.un 43 .not (.t 42)),.g 16 false 44 (.pick 44 (.t 19) (.t 43) (.c (.bool false))),.pick 45 (.t 16) (.c (.bool true)) (.t 44)]) (.cond (.t 45) (.seq (.ss [.mv 2 (.c (.bool false))]) (.ret [2])) (.skip)))) (.ss [.mv 8 (.t 3),.bin 9 .add (.t 8) (.c (.int .i64 1)),.mv 3 (.t 9)])))))) (.seq (.ss [.mv 2 (.c (.bool true))]) (.ret [2])))
def EE:Cfg:={tt:=tt,sigs:=sigs,mv:=false,bm:=[],eqt:=cV,keep:=[true,false,true,true,false,false,false,true,false,false,false,false,false,false,false,false,false,false,false,false,false,false,false,false,false,false,false,false,false,false,false,false,false,false,false,false,false,false,false,false,false,false,false,false,false,true],n:=46,pin:=[],fail:=[],fz:=[] }
theorem LW:bC EE Tryz.f39 kM=some p_s_l3Pkgs:=by kernel_rfl
theorem LX {W:Wld}{ins outs:List (List D)}(h:pwp (FunOk PP W) p_s_l3Pkgs (aL outs) (envL ins)):FunOk PP W wF kM ins outs:=aK (C:=EE) (aJ rfl) (aR rfl rfl) mixed Tryz.func39 (by kernel_rfl) (by kernel_rfl) LW h

def p_i_TrustOk:PC:= .seq (.ss [.mv 1 (.t 0),.mv 2 (.c (.bool false))]) (.seq (.seq (.ss [.nop,.sub 4 1 0 3,.call 5 wK kR [(.t 4)] [],.un 6 .not (.t 5)]) (.cond (.t 6) (.seq (.ss [.mv 2 (.c (.bool false))]) (.ret [2])) (.skip))) (.seq (.seq (.ss [.nop,.sub 8 1 3 1]) (.cond (.t 8) (.seq (.ss [.nop,.sub 10 1 4 3,.call 11 oL fU [(.t 10)] [],.mv 2 (.t 11)]) (.ret [2])) (.skip))) (.seq (.ss [.nop,.sub 13 1 4 3,.bld 14 [.int .i64 0,.int .i64 0,.sl []] [],.call 15 nL eC [(.t 13),(.t 14)] [],.mv 2 (.t 15)]) (.ret [2]))))
def Ba:Cfg:={tt:=tt,sigs:=sigs,mv:=false,bm:=[],eqt:=cV,keep:=[true,true,true,false,false,false,true,false,true,false,false,false,false,false,false,false],n:=16,pin:=[],fail:=[],fz:=[] }
theorem JX:bC Ba Tryz.f41 iX=some p_i_TrustOk:=by kernel_rfl
theorem JY {W:Wld}{ins outs:List (List D)}(h:pwp (FunOk PP W) p_i_TrustOk (aL outs) (envL ins)):FunOk PP W sX iX ins outs:=aK (C:=Ba) (aJ rfl) (aR rfl rfl) mixed Tryz.func41 (by kernel_rfl) (by kernel_rfl) JX h

def p_sl_Contains_Meta:PC:= .seq (.ss [.mv 3 (.t 1),.mv 4 (.c (.bool false))]) (.seq (.ss [.mv 5 (.t 0),.sub 6 3 0 3,.call 7 lX dM [(.t 5),(.t 6)] [],.bin 8 .geq (.t 7) (.c (.int .i64 0)),.mv 4 (.t 8)]) (.ret [4]))
def nO:Cfg:={tt:=tt,sigs:=sigs,mv:=false,bm:=[],eqt:=cV,keep:=[true,true,false,true,true,false,false,false,false],n:=9,pin:=[],fail:=[],fz:=[] }
theorem xA:bC nO Tryz.f42 cK=some p_sl_Contains_Meta:=by kernel_rfl
theorem xB {W:Wld}{ins outs:List (List D)}(h:pwp (FunOk PP W) p_sl_Contains_Meta (aL outs) (envL ins)):FunOk PP W iC cK ins outs:=aK (C:=nO) (aJ rfl) (aR rfl rfl) mixed Tryz.func42 (by kernel_rfl) (by kernel_rfl) xA h

def p_i_metaOf:PC:= .seq (.ss [.mv 1 (.t 0),.bld 2 [.int .i64 0,.int .i64 0,.int .i64 0] []]) (.seq (.ss [.nop,.sub 4 1 0 1,.nop,.sub 6 1 1 1,.sub 7 1 0 4,.call 8 sQ lR [(.t 7)] [],.call 9 AX nA [(.t 8)] [],.bld 10 [.int .i64 0,.int .i64 0,.int .i64 0] [(0,(.t 4)),(1,(.t 6)),(2,(.t 9))],.st 2 0 (.t 10)]) (.ret [2]))
def EF:Cfg:={tt:=tt,sigs:=sigs,mv:=false,bm:=[],eqt:=cV,keep:=[true,true,true,false,false,false,false,false,false,false,false],n:=11,pin:=[],fail:=[],fz:=[] }
theorem LY:bC EF Tryz.f43 kO=some p_i_metaOf:=by kernel_rfl
theorem LZ {W:Wld}{ins outs:List (List D)}(h:pwp (FunOk PP W) p_i_metaOf (aL outs) (envL ins)):FunOk PP W wG kO ins outs:=aK (C:=EF) (aJ rfl) (aR rfl rfl) mixed Tryz.func43 (by kernel_rfl) (by kernel_rfl) LY h

def p_s_RootOk:PC:= .seq (.ss [.mv 1 (.t 0),.mv 2 (.c (.bool false))]) (.seq (.ss [.nop,.sub 4 1 0 1,.call 5 cU bY [(.t 4),(.c (.int .i64 1)),(.c (.int .i64 9))] [],.mv 6 (.t 5),.g 6 true 7 (.nop),.g 6 true 8 (.sub 8 1 1 1),.g 6 true 9 (.call 9 wN kU [(.t 8)] []),.pick 10 (.t 6) (.t 9) (.c (.bool false)),.mv 11 (.t 10),.g 11 true 12 (.nop),.g 11 true 13 (.sub 13 1 2 1),.g 11 true 14 (.nop),.g 11 true 15 (.sub 15 1 1 1),.g 11 true 16 (.len 16 (.t 15)),.g 11 true 17 (.call 17 cU bY [(.t 13),(.c (.int .i64 1)),(.t 16)] []),.pick 18 (.t 11) (.t 17) (.c (.bool false)),.mv 2 (.t 18)]) (.ret [2]))
def EG:Cfg:={tt:=tt,sigs:=sigs,mv:=false,bm:=[],eqt:=cV,keep:=[true,true,true,false,false,false,false,false,false,false,false,false,false,false,false,false,false,false,false],n:=19,pin:=[],fail:=[],fz:=[] }
theorem La:bC EG Tryz.f47 kP=some p_s_RootOk:=by kernel_rfl
theorem Lb {W:Wld}{ins outs:List (List D)}(h:pwp (FunOk PP W) p_s_RootOk (aL outs) (envL ins)):FunOk PP W wH kP ins outs:=aK (C:=EG) (aJ rfl) (aR rfl rfl) mixed Tryz.func47 (by kernel_rfl) (by kernel_rfl) La h

def p_s_IndexOk:PC:= .seq (.ss [.mv 1 (.t 0),.mv 2 (.c (.bool false))]) (.seq (.seq (.ss [.nop,.sub 6 1 0 1,.call 7 cU bY [(.t 6),(.c (.int .i64 1)),(.c (.int .i64 30))] [],.un 8 .not (.t 7),.mv 9 (.t 8),.g 9 false 10 (.nop),.g 9 false 11 (.sub 11 1 1 1),.g 9 false 12 (.call 12 cU bY [(.t 11),(.c (.int .i64 0)),(.c (.int .i64 60))] []),.g 9 false 13 (.un 13 .not (.t 12)),.pick 14 (.t 9) (.c (.bool true)) (.t 13),.mv 15 (.t 14),.g 15 false 16 (.nop),.g 15 false 17 (.sub 17 1 2 1),.g 15 false 18 (.len 18 (.t 17)),.g 15 false 19 (.bin 19 .gtr (.t 18) (.c (.int .i64 8))),.pick 20 (.t 15) (.c (.bool true)) (.t 19)]) (.cond (.t 20) (.seq (.ss [.mv 2 (.c (.bool false))]) (.ret [2])) (.skip))) (.seq (.seq (.ss [.mv 3 (.c (.int .i64 0))]) (.block 0 (.loop (.seq (.seq (.ss [.mv 21 (.t 3),.nop,.sub 23 1 2 1,.len 24 (.t 23),.bin 25 .lss (.t 21) (.t 24)]) (.cond (.t 25) (.skip) (.exit 0))) (.seq (.block 1 (.seq (.ss [.nop,.sub 29 1 2 1,.mv 30 (.t 3),.elp 31 (.t 29) (.t 30) 3,.eld 32 31 0 [.int .i64 0,.int .i64 0,.int .i64 0],.bld 4 [.int .i64 0,.int .i64 0,.int .i64 0] [],.st 4 0 (.t 32)]) (.seq (.seq (.ss [.nop,.sub 34 4 0 1,.call 35 cU bY [(.t 34),(.c (.int .i64 1)),(.c (.int .i64 4))] [],.un 36 .not (.t 35),.mv 37 (.t 36),.g 37 false 38 (.nop),.g 37 false 39 (.sub 39 4 1 1),.g 37 false 40 (.call 40 cU bY [(.t 39),(.c (.int .i64 1)),(.c (.int .i64 5))] []),.g 37 false 41 (.un 41 .not (.t 40)),.pick 42 (.t 37) (.c (.bool true)) (.t 41),.mv 43 (.t 42),.g 43 false 44 (.nop),.g 43 false 45 (.sub 45 4 2 1),.g 43 false 46 (.call 46 cU bY [(.t 45),(.c (.int .i64 0)),(.c (.int .i64 9972))] []),.g 43 false 47 (.un 47 .not (.t 46)),.pick 48 (.t 43) (.c (.bool true)) (.t 47)]) (.cond (.t 48) (.seq (.ss [.mv 2 (.c (.bool false))]) (.ret [2])) (.skip))) (.seq (.ss [.mv 49 (.t 3),.bin 50 .gtr (.t 49) (.c (.int .i64 0)),.mv 51 (.t 50),.g 51 true 52 (.nop),.g 51 true 53 (.sub 53 1 2 1),.g 51 true 54 (.mv 54 (.t 3)),.g 51 true 55 (.bin 55 .sub (.t 54) (.c (.int .i64 1))),.g 51 true 56 (.elp 56 (.t 53) (.t 55) 3),.g 51 true 57 (.mv 57 (.t 56)),.g 51 true 58 (.eld 58 57 0 [.int .i64 0]),.g 51 true 59 (.nop),.g 51 true 60 (.sub 60 1 2 1),.g 51 true 61 (.mv 61 (.t 3)),.g 51 true 62 (.bin 62 .sub (.t 61) (.c (.int .i64 1))),.g 51 true 63 (.elp 63 (.t 60) (.t 62) 3),.g 51 true 64 (.mv 64 (.t 63)),.g 51 true 65 (.eld 65 64 1 [.int .i64 0]),.g 51 true 66 (.nop),.g 51 true 67 (.sub 67 4 0 1),.g 51 true 68 (.nop),.g 51 true 69 (.sub 69 4 1 1),.g 51 true 70 (.call 70 kI eP [(.t 58),(.t 65),(.t 67),(.t 69)] []),.g 51 true 71 (.un 71 .not (.t 70)),.pick 72 (.t 51) (.t 71) (.c (.bool false))]) (.cond (.t 72) (.seq (.ss [.mv 2 (.c (.bool false))]) (.ret [2])) (.skip)))))) (.ss [.mv 26 (.t 3),.bin 27 .add (.t 26) (.c (.int .i64 1)),.mv 3 (.t 27)])))))) (.seq (.ss [.mv 2 (.c (.bool true))]) (.ret [2]))))
def Bb:Cfg:={tt:=tt,sigs:=sigs,mv:=false,bm:=[],eqt:=cV,keep:=[true,true,true,true,true,false,false,false,false,false,false,false,false,false,false,false,false,false,false,false,true,false,false,false,false,true,false,false,false,false,false,false,false,false,false,false,false,false,false,false,false,false,false,false,false,false,false,false,true,false,false,false,false,false,false,false,false,false,false,false,false,false,false,false,false,false,false,false,false,false,false,false,true],n:=73,pin:=[],fail:=[],fz:=[] }
theorem JZ:bC Bb Tryz.f48 iY=some p_s_IndexOk:=by kernel_rfl
theorem Ja {W:Wld}{ins outs:List (List D)}(h:pwp (FunOk PP W) p_s_IndexOk (aL outs) (envL ins)):FunOk PP W sZ iY ins outs:=aK (C:=Bb) (aJ rfl) (aR rfl rfl) mixed Tryz.func48 (by kernel_rfl) (by kernel_rfl) JZ h

def p_i_PkgRead:PC:= .seq (.ss [.bld 2 [.int .i64 0,.int .i64 0,.sl [],.sl []] [],.mv 3 (.c (.bool false))]) (.seq (.seq (.ss [.mv 17 (.t 0),.slen 18 (.t 17),.bin 19 .gtr (.t 18) (.c (.int .i64 30))]) (.cond (.t 19) (.seq (.ss [.bld 20 [.int .i64 0,.int .i64 0,.sl [],.sl []] [],.st 2 0 (.t 20),.mv 3 (.c (.bool false))]) (.ret [2,3])) (.skip))) (.seq (.ss [.mv 21 (.t 0),.call 22 rB hU [(.t 21),(.c (.str ⟨#[32]⟩))] [],.mv 4 (.t 22)]) (.seq (.ss [.bld 5 [.int .i64 0,.int .i64 0,.sl [],.sl []] []]) (.seq (.ss [.mv 24 (.t 4),.elp 25 (.t 24) (.c (.int .i64 0)) 1,.eld 26 25 0 [.str ⟨#[]⟩],.call 27 mO eQ [(.t 26)] [],.mv 23 (.t 27),.ext 28 23 0 1,.ext 29 23 1 1,.nop,.st 5 0 (.t 28),.nop,.st 5 1 (.t 29)]) (.seq (.seq (.ss [.mv 32 (.t 4),.lsl 33 1 (.t 32) (some (.c (.int .i64 1))) none none,.len 34 (.t 33),.mv 35 (.c (.int .i64 0))]) (.block 0 (.loop (.seq (.ss [.bin 36 .lss (.t 35) (.t 34)]) (.seq (.cond (.t 36) (.skip) (.exit 0)) (.seq (.block 1 (.seq (.ss [.elp 37 (.t 33) (.t 35) 1,.eld 38 37 0 [.str ⟨#[]⟩],.mv 7 (.t 38)]) (.seq (.ss [.mv 40 (.t 7),.call 41 vE lG [(.t 40),(.c (.str ⟨#[58]⟩))] [],.mv 39 (.t 41),.ext 42 39 0 1,.ext 43 39 1 1,.ext 44 39 2 1,.mv 8 (.t 42),.mv 9 (.t 43),.mv 10 (.t 44)]) (.seq (.seq (.ss [.mv 45 (.t 10)]) (.cond (.t 45) (.seq (.ss [.mv 47 (.t 8),.call 48 jS dG [(.t 47)] [],.mv 46 (.t 48),.ext 49 46 0 1,.ext 50 46 1 1,.mv 11 (.t 49),.mv 12 (.t 50)]) (.seq (.ss [.mv 52 (.t 9),.call 53 jS dG [(.t 52)] [],.mv 51 (.t 53),.ext 54 51 0 1,.ext 55 51 1 1,.mv 13 (.t 54),.mv 14 (.t 55)]) (.seq (.ss [.nop,.sub 57 5 2 1,.mv 58 (.t 11),.mv 59 (.t 13),.bld 60 [.int .i64 0,.int .i64 0] [(0,(.t 58)),(1,(.t 59))],.lit 61 1 [.int .i64 0,.int .i64 0] [(0,(.t 60))],.app 62 2 true (.t 57) (.t 61),.nop,.st 5 2 (.t 62)]) (.exit 1)))) (.skip))) (.seq (.ss [.mv 65 (.t 7),.call 66 mO eQ [(.t 65)] [],.mv 64 (.t 66),.ext 67 64 0 1,.ext 68 64 1 1,.mv 15 (.t 67),.mv 16 (.t 68)]) (.ss [.nop,.sub 70 5 3 1,.mv 71 (.t 15),.mv 72 (.t 16),.bld 73 [.int .i64 0,.int .i64 0] [(0,(.t 71)),(1,(.t 72))],.lit 74 1 [.int .i64 0,.int .i64 0] [(0,(.t 73))],.app 75 2 true (.t 70) (.t 74),.nop,.st 5 3 (.t 75)])))))) (.ss [.bin 77 .add (.t 35) (.c (.int .i64 1)),.mv 35 (.t 77)]))))))) (.seq (.seq (.ss [.sub 78 5 0 4,.call 79 uH kQ [(.t 78)] [],.un 80 .not (.t 79),.mv 81 (.t 80),.g 81 false 82 (.sub 82 5 0 4),.g 81 false 83 (.call 83 sQ lR [(.t 82)] []),.g 81 false 84 (.mv 84 (.t 0)),.g 81 false 85 (.bin 85 .neq (.t 83) (.t 84)),.pick 86 (.t 81) (.c (.bool true)) (.t 85)]) (.cond (.t 86) (.seq (.ss [.bld 87 [.int .i64 0,.int .i64 0,.sl [],.sl []] [],.st 2 0 (.t 87),.mv 3 (.c (.bool false))]) (.ret [2,3])) (.skip))) (.seq (.ss [.sub 88 5 0 4,.st 2 0 (.t 88),.mv 3 (.c (.bool true))]) (.ret [2,3]))))))))
def Bc:Cfg:={tt:=tt,sigs:=sigs,mv:=false,bm:=[],eqt:=cV,keep:=[true,false,true,true,true,true,false,true,true,true,true,true,false,true,false,true,true,false,false,true,false,false,false,false,false,false,false,false,false,false,false,false,false,true,true,true,true,false,false,false,false,false,false,false,false,true,false,false,false,false,false,false,false,false,false,false,false,false,false,false,false,false,false,false,false,false,false,false,false,false,false,false,false,false,false,false,false,false,false,false,false,false,false,false,false,false,true,false,false],n:=89,pin:=[],fail:=[],fz:=[] }
theorem Jb:bC Bc Tryz.f49 eJ=some p_i_PkgRead:=by kernel_rfl
theorem Jc {W:Wld}{ins outs:List (List D)}(h:pwp (FunOk PP W) p_i_PkgRead (aL outs) (envL ins)):FunOk PP W lP eJ ins outs:=aK (C:=Bc) (aJ rfl) (aR rfl rfl) mixed Tryz.func49 (by kernel_rfl) (by kernel_rfl) Jb h

def p_i_IndexOk:PC:= .seq (.ss [.mv 1 (.t 0),.mv 2 (.c (.bool false))]) (.seq (.seq (.ss [.nop,.sub 6 1 2 1,.len 7 (.t 6),.mv 8 (.c (.int .i64 0))]) (.block 0 (.loop (.seq (.ss [.bin 9 .lss (.t 8) (.t 7)]) (.seq (.cond (.t 9) (.skip) (.exit 0)) (.seq (.block 1 (.seq (.ss [.mv 10 (.t 8),.elp 11 (.t 6) (.t 8) 3,.eld 12 11 0 [.int .i64 0,.int .i64 0,.int .i64 0],.bld 4 [.int .i64 0,.int .i64 0,.int .i64 0] [],.mv 3 (.t 10),.st 4 0 (.t 12)]) (.seq (.seq (.ss [.nop,.sub 14 4 0 1,.call 15 nN fV [(.t 14)] [],.un 16 .not (.t 15),.mv 17 (.t 16),.g 17 false 18 (.nop),.g 17 false 19 (.sub 19 4 1 1),.g 17 false 20 (.call 20 pU jC [(.t 19)] []),.g 17 false 21 (.un 21 .not (.t 20)),.pick 22 (.t 17) (.c (.bool true)) (.t 21),.mv 23 (.t 22),.g 23 false 24 (.nop),.g 23 false 25 (.sub 25 4 2 1),.g 23 false 26 (.call 26 lY iE [(.t 25),(.c (.int .i64 0)),(.c (.int .i64 9972))] []),.g 23 false 27 (.un 27 .not (.t 26)),.pick 28 (.t 23) (.c (.bool true)) (.t 27)]) (.cond (.t 28) (.seq (.ss [.mv 2 (.c (.bool false))]) (.ret [2])) (.skip))) (.seq (.ss [.mv 29 (.t 3),.bin 30 .gtr (.t 29) (.c (.int .i64 0)),.mv 31 (.t 30),.g 31 true 32 (.nop),.g 31 true 33 (.sub 33 4 0 1),.g 31 true 34 (.nop),.g 31 true 35 (.sub 35 1 2 1),.g 31 true 36 (.mv 36 (.t 3)),.g 31 true 37 (.bin 37 .sub (.t 36) (.c (.int .i64 1))),.g 31 true 38 (.elp 38 (.t 35) (.t 37) 3),.g 31 true 39 (.mv 39 (.t 38)),.g 31 true 40 (.eld 40 39 0 [.int .i64 0]),.g 31 true 41 (.bin 41 .lss (.t 33) (.t 40)),.g 31 true 42 (.mv 42 (.t 41)),.g 42 false 43 (.nop),.g 42 false 44 (.sub 44 4 0 1),.g 42 false 45 (.nop),.g 42 false 46 (.sub 46 1 2 1),.g 42 false 47 (.mv 47 (.t 3)),.g 42 false 48 (.bin 48 .sub (.t 47) (.c (.int .i64 1))),.g 42 false 49 (.elp 49 (.t 46) (.t 48) 3),.g 42 false 50 (.mv 50 (.t 49)),.g 42 false 51 (.eld 51 50 0 [.int .i64 0]),.g 42 false 52 (.bin 52 .eql (.t 44) (.t 51)),.g 42 false 53 (.mv 53 (.t 52)),.g 53 true 54 (.nop),.g 53 true 55 (.sub 55 4 1 1),.g 53 true 56 (.nop),.g 53 true 57 (.sub 57 1 2 1),.g 53 true 58 (.mv 58 (.t 3)),.g 53 true 59 (.bin 59 .sub (.t 58) (.c (.int .i64 1))),.g 53 true 60 (.elp 60 (.t 57) (.t 59) 3),.g 53 true 61 (.mv 61 (.t 60)),.g 53 true 62 (.eld 62 61 1 [.int .i64 0]),.g 53 true 63 (.bin 63 .leq (.t 55) (.t 62)),.g 42 false 64 (.pick 64 (.t 53) (.t 63) (.c (.bool false))),.g 31 true 65 (.pick 65 (.t 42) (.c (.bool true)) (.t 64)),.pick 66 (.t 31) (.t 65) (.c (.bool false))]) (.cond (.t 66) (.seq (.ss [.mv 2 (.c (.bool false))]) (.ret [2])) (.skip)))))) (.ss [.bin 67 .add (.t 8) (.c (.int .i64 1)),.mv 8 (.t 67)]))))))) (.seq (.ss [.nop,.sub 69 1 0 1,.call 70 lY iE [(.t 69),(.c (.int .i64 1)),(.c (.int .i64 30))] [],.mv 71 (.t 70),.g 71 true 72 (.nop),.g 71 true 73 (.sub 73 1 1 1),.g 71 true 74 (.call 74 lY iE [(.t 73),(.c (.int .i64 0)),(.c (.int .i64 60))] []),.pick 75 (.t 71) (.t 74) (.c (.bool false)),.mv 76 (.t 75),.g 76 true 77 (.nop),.g 76 true 78 (.sub 78 1 2 1),.g 76 true 79 (.len 79 (.t 78)),.g 76 true 80 (.bin 80 .leq (.t 79) (.c (.int .i64 8))),.pick 81 (.t 76) (.t 80) (.c (.bool false)),.mv 2 (.t 81)]) (.ret [2])))
def Bd:Cfg:={tt:=tt,sigs:=sigs,mv:=false,bm:=[],eqt:=cV,keep:=[true,true,true,true,true,false,true,true,true,true,false,false,false,false,false,false,false,false,false,false,false,false,false,false,false,false,false,false,true,false,false,false,false,false,false,false,false,false,false,false,false,false,false,false,false,false,false,false,false,false,false,false,false,false,false,false,false,false,false,false,false,false,false,false,false,false,true,false,false,false,false,false,false,false,false,false,false,false,false,false,false,false],n:=82,pin:=[],fail:=[],fz:=[] }
theorem Jd:bC Bd Tryz.f50 fU=some p_i_IndexOk:=by kernel_rfl
theorem Je {W:Wld}{ins outs:List (List D)}(h:pwp (FunOk PP W) p_i_IndexOk (aL outs) (envL ins)):FunOk PP W oL fU ins outs:=aK (C:=Bd) (aJ rfl) (aR rfl rfl) mixed Tryz.func50 (by kernel_rfl) (by kernel_rfl) Jd h

def p_i_PkgOk:PC:= .seq (.ss [.mv 1 (.t 0),.mv 2 (.c (.bool false))]) (.seq (.seq (.ss [.nop,.sub 8 1 0 1,.call 9 nN fV [(.t 8)] [],.un 10 .not (.t 9),.mv 11 (.t 10),.g 11 false 12 (.nop),.g 11 false 13 (.sub 13 1 1 1),.g 11 false 14 (.call 14 pU jC [(.t 13)] []),.g 11 false 15 (.un 15 .not (.t 14)),.pick 16 (.t 11) (.c (.bool true)) (.t 15),.mv 17 (.t 16),.g 17 false 18 (.nop),.g 17 false 19 (.sub 19 1 2 1),.g 17 false 20 (.len 20 (.t 19)),.g 17 false 21 (.bin 21 .gtr (.t 20) (.c (.int .i64 2))),.pick 22 (.t 17) (.c (.bool true)) (.t 21),.mv 23 (.t 22),.g 23 false 24 (.nop),.g 23 false 25 (.sub 25 1 3 1),.g 23 false 26 (.len 26 (.t 25)),.g 23 false 27 (.bin 27 .gtr (.t 26) (.c (.int .i64 2))),.pick 28 (.t 23) (.c (.bool true)) (.t 27)]) (.cond (.t 28) (.seq (.ss [.mv 2 (.c (.bool false))]) (.ret [2])) (.skip))) (.seq (.seq (.ss [.nop,.sub 30 1 2 1,.len 31 (.t 30),.mv 32 (.c (.int .i64 0))]) (.block 0 (.loop (.seq (.ss [.bin 33 .lss (.t 32) (.t 31)]) (.seq (.cond (.t 33) (.skip) (.exit 0)) (.seq (.block 1 (.seq (.ss [.mv 34 (.t 32),.elp 35 (.t 30) (.t 32) 2,.eld 36 35 0 [.int .i64 0,.int .i64 0],.bld 4 [.int .i64 0,.int .i64 0] [],.mv 3 (.t 34),.st 4 0 (.t 36)]) (.seq (.ss [.nop,.sub 38 4 0 1,.call 39 lY iE [(.t 38),(.c (.int .i64 0)),(.c (.int .i64 5))] [],.un 40 .not (.t 39),.mv 41 (.t 40),.g 41 false 42 (.nop),.g 41 false 43 (.sub 43 4 1 1),.g 41 false 44 (.call 44 lY iE [(.t 43),(.c (.int .i64 0)),(.c (.int .i64 9))] []),.g 41 false 45 (.un 45 .not (.t 44)),.pick 46 (.t 41) (.c (.bool true)) (.t 45),.mv 47 (.t 46),.g 47 false 48 (.mv 48 (.t 3)),.g 47 false 49 (.bin 49 .gtr (.t 48) (.c (.int .i64 0))),.g 47 false 50 (.mv 50 (.t 49)),.g 50 true 51 (.nop),.g 50 true 52 (.sub 52 4 0 1),.g 50 true 53 (.nop),.g 50 true 54 (.sub 54 1 2 1),.g 50 true 55 (.mv 55 (.t 3)),.g 50 true 56 (.bin 56 .sub (.t 55) (.c (.int .i64 1))),.g 50 true 57 (.elp 57 (.t 54) (.t 56) 2),.g 50 true 58 (.mv 58 (.t 57)),.g 50 true 59 (.eld 59 58 0 [.int .i64 0]),.g 50 true 60 (.bin 60 .leq (.t 52) (.t 59)),.g 47 false 61 (.pick 61 (.t 50) (.t 60) (.c (.bool false))),.pick 62 (.t 47) (.c (.bool true)) (.t 61)]) (.cond (.t 62) (.seq (.ss [.mv 2 (.c (.bool false))]) (.ret [2])) (.skip))))) (.ss [.bin 63 .add (.t 32) (.c (.int .i64 1)),.mv 32 (.t 63)]))))))) (.seq (.seq (.ss [.nop,.sub 65 1 3 1,.len 66 (.t 65),.mv 67 (.c (.int .i64 0))]) (.block 2 (.loop (.seq (.ss [.bin 68 .lss (.t 67) (.t 66)]) (.seq (.cond (.t 68) (.skip) (.exit 2)) (.seq (.block 3 (.seq (.ss [.mv 69 (.t 67),.elp 70 (.t 65) (.t 67) 2,.eld 71 70 0 [.int .i64 0,.int .i64 0],.bld 6 [.int .i64 0,.int .i64 0] [],.mv 5 (.t 69),.st 6 0 (.t 71)]) (.seq (.ss [.nop,.sub 73 6 0 1,.call 74 nN fV [(.t 73)] [],.un 75 .not (.t 74),.mv 76 (.t 75),.g 76 false 77 (.nop),.g 76 false 78 (.sub 78 6 0 1),.g 76 false 79 (.nop),.g 76 false 80 (.sub 80 1 0 1),.g 76 false 81 (.bin 81 .eql (.t 78) (.t 80)),.pick 82 (.t 76) (.c (.bool true)) (.t 81),.mv 83 (.t 82),.g 83 false 84 (.nop),.g 83 false 85 (.sub 85 6 1 1),.g 83 false 86 (.call 86 pU jC [(.t 85)] []),.g 83 false 87 (.un 87 .not (.t 86)),.pick 88 (.t 83) (.c (.bool true)) (.t 87),.mv 89 (.t 88),.g 89 false 90 (.mv 90 (.t 5)),.g 89 false 91 (.bin 91 .gtr (.t 90) (.c (.int .i64 0))),.g 89 false 92 (.mv 92 (.t 91)),.g 92 true 93 (.nop),.g 92 true 94 (.sub 94 6 0 1),.g 92 true 95 (.nop),.g 92 true 96 (.sub 96 1 3 1),.g 92 true 97 (.mv 97 (.t 5)),.g 92 true 98 (.bin 98 .sub (.t 97) (.c (.int .i64 1))),.g 92 true 99 (.elp 99 (.t 96) (.t 98) 2),.g 92 true 100 (.mv 100 (.t 99)),.g 92 true 101 (.eld 101 100 0 [.int .i64 0]),.g 92 true 102 (.bin 102 .leq (.t 94) (.t 101)),.g 89 false 103 (.pick 103 (.t 92) (.t 102) (.c (.bool false))),.pick 104 (.t 89) (.c (.bool true)) (.t 103)]) (.cond (.t 104) (.seq (.ss [.mv 2 (.c (.bool false))]) (.ret [2])) (.skip))))) (.ss [.bin 105 .add (.t 67) (.c (.int .i64 1)),.mv 67 (.t 105)]))))))) (.seq (.ss [.mv 2 (.c (.bool true))]) (.ret [2])))))
def GL:Cfg:={tt:=tt,sigs:=sigs,mv:=false,bm:=[],eqt:=cV,keep:=[true,true,true,true,true,true,true,false,false,false,false,false,false,false,false,false,false,false,false,false,false,false,false,false,false,false,false,false,true,false,true,true,true,true,false,false,false,false,false,false,false,false,false,false,false,false,false,false,false,false,false,false,false,false,false,false,false,false,false,false,false,false,true,false,false,true,true,true,true,false,false,false,false,false,false,false,false,false,false,false,false,false,false,false,false,false,false,false,false,false,false,false,false,false,false,false,false,false,false,false,false,false,false,false,true,false],n:=106,pin:=[],fail:=[],fz:=[] }
theorem Ob:bC GL Tryz.f51 kQ=some p_i_PkgOk:=by kernel_rfl
theorem Oc {W:Wld}{ins outs:List (List D)}(h:pwp (FunOk PP W) p_i_PkgOk (aL outs) (envL ins)):FunOk PP W uH kQ ins outs:=aK (C:=GL) (aJ rfl) (aR rfl rfl) mixed Tryz.func51 (by kernel_rfl) (by kernel_rfl) Ob h

def p_s_PkgText:PC:= .seq (.ss [.mv 1 (.t 0),.mv 2 (.c (.str ⟨#[]⟩))]) (.seq (.seq (.ss [.sub 6 1 0 4,.call 7 uI kT [(.t 6)] [],.un 8 .not (.t 7)]) (.cond (.t 8) (.seq (.ss [.mv 2 (.c (.str ⟨#[]⟩))]) (.ret [2])) (.skip))) (.seq (.ss [.nop,.sub 10 1 0 1,.nop,.sub 12 1 1 1,.call 13 qW iF [(.t 10),(.t 12)] [],.mv 3 (.t 13)]) (.seq (.seq (.ss [.mv 4 (.c (.int .i64 0))]) (.block 0 (.loop (.seq (.seq (.ss [.mv 14 (.t 4),.nop,.sub 16 1 2 1,.len 17 (.t 16),.bin 18 .lss (.t 14) (.t 17)]) (.cond (.t 18) (.skip) (.exit 0))) (.seq (.block 1 (.ss [.mv 21 (.t 3),.bin 22 .add (.t 21) (.c (.str ⟨#[32]⟩)),.nop,.sub 24 1 2 1,.mv 25 (.t 4),.elp 26 (.t 24) (.t 25) 2,.mv 27 (.t 26),.eld 28 27 0 [.int .i64 0],.call 29 kJ fH [(.t 28)] [],.bin 30 .add (.t 22) (.t 29),.bin 31 .add (.t 30) (.c (.str ⟨#[58]⟩)),.nop,.sub 33 1 2 1,.mv 34 (.t 4),.elp 35 (.t 33) (.t 34) 2,.mv 36 (.t 35),.eld 37 36 1 [.int .i64 0],.call 38 kJ fH [(.t 37)] [],.bin 39 .add (.t 31) (.t 38),.mv 3 (.t 39)])) (.ss [.mv 19 (.t 4),.bin 20 .add (.t 19) (.c (.int .i64 1)),.mv 4 (.t 20)])))))) (.seq (.seq (.ss [.mv 5 (.c (.int .i64 0))]) (.block 2 (.loop (.seq (.seq (.ss [.mv 40 (.t 5),.nop,.sub 42 1 3 1,.len 43 (.t 42),.bin 44 .lss (.t 40) (.t 43)]) (.cond (.t 44) (.skip) (.exit 2))) (.seq (.block 3 (.ss [.mv 47 (.t 3),.bin 48 .add (.t 47) (.c (.str ⟨#[32]⟩)),.nop,.sub 50 1 3 1,.mv 51 (.t 5),.elp 52 (.t 50) (.t 51) 2,.mv 53 (.t 52),.eld 54 53 0 [.int .i64 0],.nop,.sub 56 1 3 1,.mv 57 (.t 5),.elp 58 (.t 56) (.t 57) 2,.mv 59 (.t 58),.eld 60 59 1 [.int .i64 0],.call 61 qW iF [(.t 54),(.t 60)] [],.bin 62 .add (.t 48) (.t 61),.mv 3 (.t 62)])) (.ss [.mv 45 (.t 5),.bin 46 .add (.t 45) (.c (.int .i64 1)),.mv 5 (.t 46)])))))) (.seq (.ss [.mv 63 (.t 3),.mv 2 (.t 63)]) (.ret [2]))))))
def Be:Cfg:={tt:=tt,sigs:=sigs,mv:=false,bm:=[],eqt:=cV,keep:=[true,true,true,true,true,true,false,false,true,false,false,false,false,false,false,false,false,false,true,false,false,false,false,false,false,false,false,false,false,false,false,false,false,false,false,false,false,false,false,false,false,false,false,false,true,false,false,false,false,false,false,false,false,false,false,false,false,false,false,false,false,false,false,false],n:=64,pin:=[],fail:=[],fz:=[] }
theorem Jf:bC Be Tryz.f56 iZ=some p_s_PkgText:=by kernel_rfl
theorem Jg {W:Wld}{ins outs:List (List D)}(h:pwp (FunOk PP W) p_s_PkgText (aL outs) (envL ins)):FunOk PP W tA iZ ins outs:=aK (C:=Be) (aJ rfl) (aR rfl rfl) mixed Tryz.func56 (by kernel_rfl) (by kernel_rfl) Jf h

def p_i_RootOk:PC:= .seq (.ss [.mv 1 (.t 0),.mv 2 (.c (.bool false))]) (.seq (.ss [.nop,.sub 4 1 0 1,.call 5 lY iE [(.t 4),(.c (.int .i64 1)),(.c (.int .i64 9))] [],.mv 6 (.t 5),.g 6 true 7 (.nop),.g 6 true 8 (.sub 8 1 1 1),.g 6 true 9 (.call 9 wO kV [(.t 8)] []),.pick 10 (.t 6) (.t 9) (.c (.bool false)),.mv 11 (.t 10),.g 11 true 12 (.nop),.g 11 true 13 (.sub 13 1 2 1),.g 11 true 14 (.nop),.g 11 true 15 (.sub 15 1 1 1),.g 11 true 16 (.len 16 (.t 15)),.g 11 true 17 (.call 17 lY iE [(.t 13),(.c (.int .i64 1)),(.t 16)] []),.pick 18 (.t 11) (.t 17) (.c (.bool false)),.mv 2 (.t 18)]) (.ret [2]))
def EH:Cfg:={tt:=tt,sigs:=sigs,mv:=false,bm:=[],eqt:=cV,keep:=[true,true,true,false,false,false,false,false,false,false,false,false,false,false,false,false,false,false,false],n:=19,pin:=[],fail:=[],fz:=[] }
theorem Lc:bC EH Tryz.f61 kR=some p_i_RootOk:=by kernel_rfl
theorem Ld {W:Wld}{ins outs:List (List D)}(h:pwp (FunOk PP W) p_i_RootOk (aL outs) (envL ins)):FunOk PP W wK kR ins outs:=aK (C:=EH) (aJ rfl) (aR rfl rfl) mixed Tryz.func61 (by kernel_rfl) (by kernel_rfl) Lc h

def p_i_Pkg_compare:PC:= .seq (.ss [.mv 2 (.t 0),.mv 3 (.t 1),.mv 4 (.c (.int .i64 0))]) (.seq (.ss [.nop,.sub 6 2 0 1,.nop,.sub 8 3 0 1,.call 9 fM bZ [(.t 6),(.t 8)] [],.nop,.sub 11 2 1 1,.nop,.sub 13 3 1 1,.call 14 fM bZ [(.t 11),(.t 13)] [],.lit 15 2 [.int .i64 0] [(0,(.t 9)),(1,(.t 14))],.call 16 qX gN [(.t 15)] [],.mv 4 (.t 16)]) (.ret [4]))
def rF:Cfg:={tt:=tt,sigs:=sigs,mv:=false,bm:=[],eqt:=cV,keep:=[true,true,true,true,true,false,false,false,false,false,false,false,false,false,false,false,false],n:=17,pin:=[],fail:=[],fz:=[] }
theorem CD:bC rF Tryz.f63 cE=some p_i_Pkg_compare:=by kernel_rfl
theorem CE {W:Wld}{ins outs:List (List D)}(h:pwp (FunOk PP W) p_i_Pkg_compare (aL outs) (envL ins)):FunOk PP W cD cE ins outs:=aK (C:=rF) (aJ rfl) (aR rfl rfl) mixed Tryz.func63 (by kernel_rfl) (by kernel_rfl) CD h

def p_l_szRoot:PC:= .seq (.ss [.mv 2 (.t 0),.mv 4 (.c (.int .i64 0))]) (.seq (.ss [.nop,.sub 6 2 1 1,.mv 7 (.t 1),.call 8 wP kW [(.t 6),(.t 7)] [],.mv 1 (.t 8)]) (.seq (.seq (.ss [.mv 9 (.t 1),.bin 10 .lss (.t 9) (.c (.int .i64 0))]) (.cond (.t 10) (.seq (.ss [.mv 4 (.c (.int .i64 (-1)))]) (.ret [4])) (.skip))) (.seq (.ss [.mv 11 (.t 1),.mv 4 (.t 11)]) (.ret [4]))))
def EI:Cfg:={tt:=tt,sigs:=sigs,mv:=false,bm:=[],eqt:=cV,keep:=[true,true,true,false,true,false,false,false,false,false,true,false],n:=12,pin:=[],fail:=[],fz:=[] }
theorem Le:bC EI Tryz.f64 kS=some p_l_szRoot:=by kernel_rfl
theorem Lf {W:Wld}{ins outs:List (List D)}(h:pwp (FunOk PP W) p_l_szRoot (aL outs) (envL ins)):FunOk PP W wL kS ins outs:=aK (C:=EI) (aJ rfl) (aR rfl rfl) mixed Tryz.func64 (by kernel_rfl) (by kernel_rfl) Le h

def p_l_szIndex:PC:= .seq (.ss [.mv 2 (.t 0),.mv 4 (.c (.int .i64 0))]) (.seq (.ss [.nop,.sub 6 2 2 1,.mv 7 (.t 1),.call 8 tG jD [(.t 6),(.t 7)] [],.mv 1 (.t 8)]) (.seq (.seq (.ss [.mv 9 (.t 1),.bin 10 .lss (.t 9) (.c (.int .i64 0))]) (.cond (.t 10) (.seq (.ss [.mv 4 (.c (.int .i64 (-1)))]) (.ret [4])) (.skip))) (.seq (.ss [.mv 11 (.t 1),.mv 4 (.t 11)]) (.ret [4]))))
def Bf:Cfg:={tt:=tt,sigs:=sigs,mv:=false,bm:=[],eqt:=cV,keep:=[true,true,true,false,true,false,false,false,false,false,true,false],n:=12,pin:=[],fail:=[],fz:=[] }
theorem Jh:bC Bf Tryz.f65 jA=some p_l_szIndex:=by kernel_rfl
theorem Ji {W:Wld}{ins outs:List (List D)}(h:pwp (FunOk PP W) p_l_szIndex (aL outs) (envL ins)):FunOk PP W tB jA ins outs:=aK (C:=Bf) (aJ rfl) (aR rfl rfl) mixed Tryz.func65 (by kernel_rfl) (by kernel_rfl) Jh h

def p_l_szPkg:PC:= .seq (.ss [.mv 2 (.t 0),.mv 4 (.c (.int .i64 0))]) (.seq (.ss [.nop,.sub 6 2 2 1,.mv 7 (.t 1),.call 8 tH jE [(.t 6),(.t 7)] [],.mv 1 (.t 8)]) (.seq (.seq (.ss [.mv 9 (.t 1),.bin 10 .lss (.t 9) (.c (.int .i64 0))]) (.cond (.t 10) (.seq (.ss [.mv 4 (.c (.int .i64 (-1)))]) (.ret [4])) (.skip))) (.seq (.ss [.nop,.sub 12 2 3 1,.mv 13 (.t 1),.call 14 wQ kX [(.t 12),(.t 13)] [],.mv 1 (.t 14)]) (.seq (.seq (.ss [.mv 15 (.t 1),.bin 16 .lss (.t 15) (.c (.int .i64 0))]) (.cond (.t 16) (.seq (.ss [.mv 4 (.c (.int .i64 (-1)))]) (.ret [4])) (.skip))) (.seq (.ss [.mv 17 (.t 1),.mv 4 (.t 17)]) (.ret [4]))))))
def GM:Cfg:={tt:=tt,sigs:=sigs,mv:=false,bm:=[],eqt:=cV,keep:=[true,true,true,false,true,false,false,false,false,false,true,false,false,false,false,false,true,false],n:=18,pin:=[],fail:=[],fz:=[] }
theorem Od:bC GM Tryz.f66 mY=some p_l_szPkg:=by kernel_rfl
theorem Oe {W:Wld}{ins outs:List (List D)}(h:pwp (FunOk PP W) p_l_szPkg (aL outs) (envL ins)):FunOk PP W AU mY ins outs:=aK (C:=GM) (aJ rfl) (aR rfl rfl) mixed Tryz.func66 (by kernel_rfl) (by kernel_rfl) Od h

def p_l_eqPkg:PC:= .seq (.ss [.mv 2 (.t 0),.mv 3 (.t 1),.mv 4 (.c (.bool false))]) (.seq (.seq (.ss [.nop,.sub 6 2 0 1,.nop,.sub 8 3 0 1,.bin 9 .neq (.t 6) (.t 8)]) (.cond (.t 9) (.seq (.ss [.mv 4 (.c (.bool false))]) (.ret [4])) (.skip))) (.seq (.seq (.ss [.nop,.sub 11 2 1 1,.nop,.sub 13 3 1 1,.bin 14 .neq (.t 11) (.t 13)]) (.cond (.t 14) (.seq (.ss [.mv 4 (.c (.bool false))]) (.ret [4])) (.skip))) (.seq (.seq (.ss [.nop,.sub 16 2 2 1,.nop,.sub 18 3 2 1,.call 19 tK jF [(.t 16),(.t 18)] [],.un 20 .not (.t 19)]) (.cond (.t 20) (.seq (.ss [.mv 4 (.c (.bool false))]) (.ret [4])) (.skip))) (.seq (.seq (.ss [.nop,.sub 22 2 3 1,.nop,.sub 24 3 3 1,.call 25 wT kY [(.t 22),(.t 24)] [],.un 26 .not (.t 25)]) (.cond (.t 26) (.seq (.ss [.mv 4 (.c (.bool false))]) (.ret [4])) (.skip))) (.seq (.ss [.mv 4 (.c (.bool true))]) (.ret [4]))))))
def GN:Cfg:={tt:=tt,sigs:=sigs,mv:=false,bm:=[],eqt:=cV,keep:=[true,true,true,true,true,false,false,false,false,true,false,false,false,false,true,false,false,false,false,false,true,false,false,false,false,false,true],n:=27,pin:=[],fail:=[],fz:=[] }
theorem Of:bC GN Tryz.f70 mZ=some p_l_eqPkg:=by kernel_rfl
theorem Og {W:Wld}{ins outs:List (List D)}(h:pwp (FunOk PP W) p_l_eqPkg (aL outs) (envL ins)):FunOk PP W AW mZ ins outs:=aK (C:=GN) (aJ rfl) (aR rfl rfl) mixed Tryz.func70 (by kernel_rfl) (by kernel_rfl) Of h

def p_l_eqRoot:PC:= .seq (.ss [.mv 2 (.t 0),.mv 3 (.t 1),.mv 4 (.c (.bool false))]) (.seq (.seq (.ss [.nop,.sub 6 2 0 1,.nop,.sub 8 3 0 1,.bin 9 .neq (.t 6) (.t 8)]) (.cond (.t 9) (.seq (.ss [.mv 4 (.c (.bool false))]) (.ret [4])) (.skip))) (.seq (.seq (.ss [.nop,.sub 11 2 1 1,.nop,.sub 13 3 1 1,.call 14 wU kZ [(.t 11),(.t 13)] [],.un 15 .not (.t 14)]) (.cond (.t 15) (.seq (.ss [.mv 4 (.c (.bool false))]) (.ret [4])) (.skip))) (.seq (.seq (.ss [.nop,.sub 17 2 2 1,.nop,.sub 19 3 2 1,.bin 20 .neq (.t 17) (.t 19)]) (.cond (.t 20) (.seq (.ss [.mv 4 (.c (.bool false))]) (.ret [4])) (.skip))) (.seq (.ss [.mv 4 (.c (.bool true))]) (.ret [4])))))
def EJ:Cfg:={tt:=tt,sigs:=sigs,mv:=false,bm:=[],eqt:=cV,keep:=[true,true,true,true,true,false,false,false,false,true,false,false,false,false,false,true,false,false,false,false,true],n:=21,pin:=[],fail:=[],fz:=[] }
theorem Lg:bC EJ Tryz.f71 iD=some p_l_eqRoot:=by kernel_rfl
theorem Lh {W:Wld}{ins outs:List (List D)}(h:pwp (FunOk PP W) p_l_eqRoot (aL outs) (envL ins)):FunOk PP W qS iD ins outs:=aK (C:=EJ) (aJ rfl) (aR rfl rfl) mixed Tryz.func71 (by kernel_rfl) (by kernel_rfl) Lg h

def p_l_eqIndex:PC:= .seq (.ss [.mv 2 (.t 0),.mv 3 (.t 1),.mv 4 (.c (.bool false))]) (.seq (.seq (.ss [.nop,.sub 6 2 0 1,.nop,.sub 8 3 0 1,.bin 9 .neq (.t 6) (.t 8)]) (.cond (.t 9) (.seq (.ss [.mv 4 (.c (.bool false))]) (.ret [4])) (.skip))) (.seq (.seq (.ss [.nop,.sub 11 2 1 1,.nop,.sub 13 3 1 1,.bin 14 .neq (.t 11) (.t 13)]) (.cond (.t 14) (.seq (.ss [.mv 4 (.c (.bool false))]) (.ret [4])) (.skip))) (.seq (.seq (.ss [.nop,.sub 16 2 2 1,.nop,.sub 18 3 2 1,.call 19 oM fX [(.t 16),(.t 18)] [],.un 20 .not (.t 19)]) (.cond (.t 20) (.seq (.ss [.mv 4 (.c (.bool false))]) (.ret [4])) (.skip))) (.seq (.ss [.mv 4 (.c (.bool true))]) (.ret [4])))))
def Bg:Cfg:={tt:=tt,sigs:=sigs,mv:=false,bm:=[],eqt:=cV,keep:=[true,true,true,true,true,false,false,false,false,true,false,false,false,false,true,false,false,false,false,false,true],n:=21,pin:=[],fail:=[],fz:=[] }
theorem Jj:bC Bg Tryz.f72 jB=some p_l_eqIndex:=by kernel_rfl
theorem Jk {W:Wld}{ins outs:List (List D)}(h:pwp (FunOk PP W) p_l_eqIndex (aL outs) (envL ins)):FunOk PP W tE jB ins outs:=aK (C:=Bg) (aJ rfl) (aR rfl rfl) mixed Tryz.func72 (by kernel_rfl) (by kernel_rfl) Jj h

def p_l_heldFileS:PC:= .seq (.ss [.mv 4 (.c (.int .i64 0))]) (.seq (.seq (.ss [.mv 5 (.c (.int .i64 0))]) (.block 0 (.loop (.seq (.seq (.ss [.mv 6 (.t 5),.mv 7 (.t 0),.len 8 (.t 7),.bin 9 .lss (.t 6) (.t 8)]) (.cond (.t 9) (.skip) (.exit 0))) (.seq (.block 1 (.seq (.seq (.ss [.mv 12 (.t 0),.mv 13 (.t 5),.elp 14 (.t 12) (.t 13) 2,.mv 15 (.t 14),.eld 16 15 0 [.int .i64 0],.mv 17 (.t 1),.bin 18 .neq (.t 16) (.t 17)]) (.cond (.t 18) (.seq (.ss [.mv 4 (.c (.int .i64 (-1)))]) (.ret [4])) (.skip))) (.seq (.ss [.mv 19 (.t 1),.bin 20 .add (.t 19) (.c (.int .i64 1)),.mv 1 (.t 20)]) (.seq (.seq (.ss [.mv 21 (.t 0),.mv 22 (.t 5),.elp 23 (.t 21) (.t 22) 2,.mv 24 (.t 23),.eld 25 24 1 [.int .i64 0],.mv 26 (.t 1),.bin 27 .neq (.t 25) (.t 26)]) (.cond (.t 27) (.seq (.ss [.mv 4 (.c (.int .i64 (-1)))]) (.ret [4])) (.skip))) (.ss [.mv 28 (.t 1),.bin 29 .add (.t 28) (.c (.int .i64 1)),.mv 1 (.t 29)]))))) (.ss [.mv 10 (.t 5),.bin 11 .add (.t 10) (.c (.int .i64 1)),.mv 5 (.t 11)])))))) (.seq (.ss [.mv 30 (.t 1),.mv 4 (.t 30)]) (.ret [4])))
def vK:Cfg:={tt:=tt,sigs:=sigs,mv:=false,bm:=[],eqt:=cV,keep:=[true,true,false,false,true,true,false,false,false,true,false,false,false,false,false,false,false,false,true,false,false,false,false,false,false,false,false,true,false,false,false],n:=31,pin:=[],fail:=[],fz:=[] }
theorem FH:bC vK Tryz.f77 fG=some p_l_heldFileS:=by kernel_rfl
theorem FI {W:Wld}{ins outs:List (List D)}(h:pwp (FunOk PP W) p_l_heldFileS (aL outs) (envL ins)):FunOk PP W pC fG ins outs:=aK (C:=vK) (aJ rfl) (aR rfl rfl) mixed Tryz.func77 (by kernel_rfl) (by kernel_rfl) FH h

def p_l_heldDepS:PC:= .seq (.ss [.mv 4 (.c (.int .i64 0))]) (.seq (.seq (.ss [.mv 5 (.c (.int .i64 0))]) (.block 0 (.loop (.seq (.seq (.ss [.mv 6 (.t 5),.mv 7 (.t 0),.len 8 (.t 7),.bin 9 .lss (.t 6) (.t 8)]) (.cond (.t 9) (.skip) (.exit 0))) (.seq (.block 1 (.seq (.seq (.ss [.mv 12 (.t 0),.mv 13 (.t 5),.elp 14 (.t 12) (.t 13) 2,.mv 15 (.t 14),.eld 16 15 0 [.int .i64 0],.mv 17 (.t 1),.bin 18 .neq (.t 16) (.t 17)]) (.cond (.t 18) (.seq (.ss [.mv 4 (.c (.int .i64 (-1)))]) (.ret [4])) (.skip))) (.seq (.ss [.mv 19 (.t 1),.bin 20 .add (.t 19) (.c (.int .i64 1)),.mv 1 (.t 20)]) (.seq (.seq (.ss [.mv 21 (.t 0),.mv 22 (.t 5),.elp 23 (.t 21) (.t 22) 2,.mv 24 (.t 23),.eld 25 24 1 [.int .i64 0],.mv 26 (.t 1),.bin 27 .neq (.t 25) (.t 26)]) (.cond (.t 27) (.seq (.ss [.mv 4 (.c (.int .i64 (-1)))]) (.ret [4])) (.skip))) (.ss [.mv 28 (.t 1),.bin 29 .add (.t 28) (.c (.int .i64 1)),.mv 1 (.t 29)]))))) (.ss [.mv 10 (.t 5),.bin 11 .add (.t 10) (.c (.int .i64 1)),.mv 5 (.t 11)])))))) (.seq (.ss [.mv 30 (.t 1),.mv 4 (.t 30)]) (.ret [4])))
def yP:Cfg:={tt:=tt,sigs:=sigs,mv:=false,bm:=[],eqt:=cV,keep:=[true,true,false,false,true,true,false,false,false,true,false,false,false,false,false,false,false,false,true,false,false,false,false,false,false,false,false,true,false,false,false],n:=31,pin:=[],fail:=[],fz:=[] }
theorem HV:bC yP Tryz.f78 gM=some p_l_heldDepS:=by kernel_rfl
theorem HW {W:Wld}{ins outs:List (List D)}(h:pwp (FunOk PP W) p_l_heldDepS (aL outs) (envL ins)):FunOk PP W qV gM ins outs:=aK (C:=yP) (aJ rfl) (aR rfl rfl) mixed Tryz.func78 (by kernel_rfl) (by kernel_rfl) HV h

def p_s_PkgOk:PC:= .seq (.ss [.mv 1 (.t 0),.mv 2 (.c (.bool false))]) (.seq (.ss [.nop,.sub 4 1 0 1,.call 5 cU bY [(.t 4),(.c (.int .i64 1)),(.c (.int .i64 4))] [],.mv 6 (.t 5),.g 6 true 7 (.nop),.g 6 true 8 (.sub 8 1 1 1),.g 6 true 9 (.call 9 cU bY [(.t 8),(.c (.int .i64 1)),(.c (.int .i64 5))] []),.pick 10 (.t 6) (.t 9) (.c (.bool false)),.mv 11 (.t 10),.g 11 true 12 (.nop),.g 11 true 13 (.sub 13 1 2 1),.g 11 true 14 (.call 14 tL jG [(.t 13)] []),.pick 15 (.t 11) (.t 14) (.c (.bool false)),.mv 16 (.t 15),.g 16 true 17 (.nop),.g 16 true 18 (.sub 18 1 0 1),.g 16 true 19 (.nop),.g 16 true 20 (.sub 20 1 3 1),.g 16 true 21 (.call 21 wV lA [(.t 18),(.t 20)] []),.pick 22 (.t 16) (.t 21) (.c (.bool false)),.mv 2 (.t 22)]) (.ret [2]))
def GO:Cfg:={tt:=tt,sigs:=sigs,mv:=false,bm:=[],eqt:=cV,keep:=[true,true,true,false,false,false,false,false,false,false,false,false,false,false,false,false,false,false,false,false,false,false,false],n:=23,pin:=[],fail:=[],fz:=[] }
theorem Oh:bC GO Tryz.f84 kT=some p_s_PkgOk:=by kernel_rfl
theorem Oi {W:Wld}{ins outs:List (List D)}(h:pwp (FunOk PP W) p_s_PkgOk (aL outs) (envL ins)):FunOk PP W uI kT ins outs:=aK (C:=GO) (aJ rfl) (aR rfl rfl) mixed Tryz.func84 (by kernel_rfl) (by kernel_rfl) Oh h

def p_s_l3Less:PC:= .seq (.ss [.mv 8 (.c (.bool false))]) (.seq (.ss [.mv 9 (.t 0),.mv 10 (.t 2),.bin 11 .lss (.t 9) (.t 10),.mv 12 (.t 11),.g 12 false 13 (.mv 13 (.t 0)),.g 12 false 14 (.mv 14 (.t 2)),.g 12 false 15 (.bin 15 .eql (.t 13) (.t 14)),.g 12 false 16 (.mv 16 (.t 15)),.g 16 true 17 (.mv 17 (.t 1)),.g 16 true 18 (.mv 18 (.t 3)),.g 16 true 19 (.bin 19 .lss (.t 17) (.t 18)),.g 12 false 20 (.pick 20 (.t 16) (.t 19) (.c (.bool false))),.pick 21 (.t 12) (.c (.bool true)) (.t 20),.mv 8 (.t 21)]) (.ret [8]))
def EK:Cfg:={tt:=tt,sigs:=sigs,mv:=false,bm:=[],eqt:=cV,keep:=[true,true,true,true,false,false,false,false,true,false,false,false,false,false,false,false,false,false,false,false,false,false],n:=22,pin:=[],fail:=[],fz:=[] }
theorem Li:bC EK Tryz.f85 eP=some p_s_l3Less:=by kernel_rfl
theorem Lj {W:Wld}{ins outs:List (List D)}(h:pwp (FunOk PP W) p_s_l3Less (aL outs) (envL ins)):FunOk PP W kI eP ins outs:=aK (C:=EK) (aJ rfl) (aR rfl rfl) mixed Tryz.func85 (by kernel_rfl) (by kernel_rfl) Li h

def p_i_Index_same:PC:= .seq (.ss [.mv 2 (.t 0),.mv 3 (.t 1),.mv 4 (.c (.bool false))]) (.seq (.ss [.nop,.sub 6 2 0 1,.nop,.sub 8 3 0 1,.bin 9 .eql (.t 6) (.t 8),.mv 10 (.t 9),.g 10 true 11 (.nop),.g 10 true 12 (.sub 12 2 1 1),.g 10 true 13 (.nop),.g 10 true 14 (.sub 14 3 1 1),.g 10 true 15 (.bin 15 .eql (.t 12) (.t 14)),.pick 16 (.t 10) (.t 15) (.c (.bool false)),.mv 17 (.t 16),.g 17 true 18 (.nop),.g 17 true 19 (.sub 19 2 2 1),.g 17 true 20 (.nop),.g 17 true 21 (.sub 21 3 2 1),.g 17 true 22 (.call 22 lZ dN [(.t 19),(.t 21)] []),.pick 23 (.t 17) (.t 22) (.c (.bool false)),.mv 4 (.t 23)]) (.ret [4]))
def tP:Cfg:={tt:=tt,sigs:=sigs,mv:=false,bm:=[],eqt:=cV,keep:=[true,true,true,true,true,false,false,false,false,false,false,false,false,false,false,false,false,false,false,false,false,false,false,false],n:=24,pin:=[],fail:=[],fz:=[] }
theorem EL:bC tP Tryz.f86 eC=some p_i_Index_same:=by kernel_rfl
theorem EM {W:Wld}{ins outs:List (List D)}(h:pwp (FunOk PP W) p_i_Index_same (aL outs) (envL ins)):FunOk PP W nL eC ins outs:=aK (C:=tP) (aJ rfl) (aR rfl rfl) mixed Tryz.func86 (by kernel_rfl) (by kernel_rfl) EL h

def p_sl_Index_Meta:PC:= .seq (.ss [.mv 3 (.t 1),.mv 4 (.c (.int .i64 0))]) (.seq (.seq (.ss [.mv 6 (.t 0),.len 7 (.t 6),.mv 8 (.c (.int .i64 0))]) (.block 0 (.loop (.seq (.ss [.bin 9 .lss (.t 8) (.t 7)]) (.seq (.cond (.t 9) (.skip) (.exit 0)) (.seq (.block 1 (.seq (.ss [.mv 10 (.t 8),.mv 5 (.t 10)]) (.seq (.ss [.sub 11 3 0 3,.mv 12 (.t 0),.mv 13 (.t 5),.elp 14 (.t 12) (.t 13) 3,.eld 15 14 0 [.int .i64 0,.int .i64 0,.int .i64 0],.eqs 16 false [.int .i64 0,.int .i64 0,.int .i64 0] (.t 11) (.t 15)]) (.cond (.t 16) (.seq (.ss [.mv 17 (.t 5),.mv 4 (.t 17)]) (.ret [4])) (.skip))))) (.ss [.bin 18 .add (.t 8) (.c (.int .i64 1)),.mv 8 (.t 18)]))))))) (.seq (.ss [.mv 4 (.c (.int .i64 (-1)))]) (.ret [4])))
def rG:Cfg:={tt:=tt,sigs:=sigs,mv:=false,bm:=[],eqt:=cV,keep:=[true,true,false,true,true,true,false,true,true,true,false,false,false,false,false,false,true,false,false],n:=19,pin:=[],fail:=[],fz:=[] }
theorem CF:bC rG Tryz.f87 dM=some p_sl_Index_Meta:=by kernel_rfl
theorem CG {W:Wld}{ins outs:List (List D)}(h:pwp (FunOk PP W) p_sl_Index_Meta (aL outs) (envL ins)):FunOk PP W lX dM ins outs:=aK (C:=rG) (aJ rfl) (aR rfl rfl) mixed Tryz.func87 (by kernel_rfl) (by kernel_rfl) CF h

def p_i_SumOf:PC:= .seq (.ss [.mv 2 (.c (.int .i64 0))]) (.seq (.ss [.mv 3 (.c (.int .i64 7))]) (.seq (.seq (.ss [.mv 6 (.t 0),.s2b 7 (.t 6),.len 8 (.t 7),.mv 9 (.c (.int .i64 0))]) (.block 0 (.loop (.seq (.ss [.bin 10 .lss (.t 9) (.t 8)]) (.seq (.cond (.t 10) (.skip) (.exit 0)) (.seq (.block 1 (.seq (.ss [.elp 11 (.t 7) (.t 9) 1,.eld 12 11 0 [.int .u8 0],.mv 5 (.t 12)]) (.ss [.mv 13 (.t 3),.bin 14 .mul (.c (.int .i64 31)) (.t 13),.mv 15 (.t 5),.cvt 16 .i64 (.t 15),.bin 17 .add (.t 14) (.t 16),.bin 18 .add (.t 17) (.c (.int .i64 1)),.bin 19 .rem (.t 18) (.c (.int .i64 9973)),.mv 3 (.t 19)]))) (.ss [.bin 20 .add (.t 9) (.c (.int .i64 1)),.mv 9 (.t 20)]))))))) (.seq (.ss [.mv 21 (.t 3),.mv 2 (.t 21)]) (.ret [2]))))
def GP:Cfg:={tt:=tt,sigs:=sigs,mv:=false,bm:=[],eqt:=cV,keep:=[true,false,true,true,false,true,false,true,true,true,true,false,false,false,false,false,false,false,false,false,false,false],n:=22,pin:=[],fail:=[],fz:=[] }
theorem Oj:bC GP Tryz.f88 nA=some p_i_SumOf:=by kernel_rfl
theorem Ok {W:Wld}{ins outs:List (List D)}(h:pwp (FunOk PP W) p_i_SumOf (aL outs) (envL ins)):FunOk PP W AX nA ins outs:=aK (C:=GP) (aJ rfl) (aR rfl rfl) mixed Tryz.func88 (by kernel_rfl) (by kernel_rfl) Oj h

def p_s_l6In:PC:= .seq (.ss [.mv 6 (.c (.bool false))]) (.seq (.ss [.mv 7 (.t 0),.mv 8 (.t 1),.bin 9 .geq (.t 7) (.t 8),.mv 10 (.t 9),.g 10 true 11 (.mv 11 (.t 0)),.g 10 true 12 (.mv 12 (.t 2)),.g 10 true 13 (.bin 13 .leq (.t 11) (.t 12)),.pick 14 (.t 10) (.t 13) (.c (.bool false)),.mv 6 (.t 14)]) (.ret [6]))
def Jl:Cfg:={tt:=tt,sigs:=sigs,mv:=false,bm:=[],eqt:=cV,keep:=[true,true,true,false,false,false,true,false,false,false,false,false,false,false,false],n:=15,pin:=[],fail:=[],fz:=[] }
theorem Re:bC Jl Tryz.f93 bY=some p_s_l6In:=by kernel_rfl
theorem Rf {W:Wld}{ins outs:List (List D)}(h:pwp (FunOk PP W) p_s_l6In (aL outs) (envL ins)):FunOk PP W cU bY ins outs:=aK (C:=Jl) (aJ rfl) (aR rfl rfl) mixed Tryz.func93 (by kernel_rfl) (by kernel_rfl) Re h

def p_s_KeysOk:PC:= .seq (.ss [.mv 2 (.c (.bool false))]) (.seq (.seq (.ss [.mv 3 (.c (.int .i64 0))]) (.block 0 (.loop (.seq (.seq (.ss [.mv 4 (.t 3),.mv 5 (.t 0),.len 6 (.t 5),.bin 7 .lss (.t 4) (.t 6)]) (.cond (.t 7) (.skip) (.exit 0))) (.seq (.block 1 (.seq (.ss [.mv 10 (.t 0),.mv 11 (.t 3),.elp 12 (.t 10) (.t 11) 1,.eld 13 12 0 [.int .i64 0],.call 14 cU bY [(.t 13),(.c (.int .i64 1)),(.c (.int .i64 6))] [],.un 15 .not (.t 14),.mv 16 (.t 15),.g 16 false 17 (.mv 17 (.t 3)),.g 16 false 18 (.bin 18 .gtr (.t 17) (.c (.int .i64 0))),.g 16 false 19 (.mv 19 (.t 18)),.g 19 true 20 (.mv 20 (.t 0)),.g 19 true 21 (.mv 21 (.t 3)),.g 19 true 22 (.bin 22 .sub (.t 21) (.c (.int .i64 1))),.g 19 true 23 (.elp 23 (.t 20) (.t 22) 1),.g 19 true 24 (.eld 24 23 0 [.int .i64 0]),.g 19 true 25 (.mv 25 (.t 0)),.g 19 true 26 (.mv 26 (.t 3)),.g 19 true 27 (.elp 27 (.t 25) (.t 26) 1),.g 19 true 28 (.eld 28 27 0 [.int .i64 0]),.g 19 true 29 (.bin 29 .geq (.t 24) (.t 28)),.g 16 false 30 (.pick 30 (.t 19) (.t 29) (.c (.bool false))),.pick 31 (.t 16) (.c (.bool true)) (.t 30)]) (.cond (.t 31) (.seq (.ss [.mv 2 (.c (.bool false))]) (.ret [2])) (.skip)))) (.ss [.mv 8 (.t 3),.bin 9 .add (.t 8) (.c (.int .i64 1)),.mv 3 (.t 9)])))))) (.seq (.ss [.mv 2 (.c (.bool true))]) (.ret [2])))
def EN:Cfg:={tt:=tt,sigs:=sigs,mv:=false,bm:=[],eqt:=cV,keep:=[true,false,true,true,false,false,false,true,false,false,false,false,false,false,false,false,false,false,false,false,false,false,false,false,false,false,false,false,false,false,false,true],n:=32,pin:=[],fail:=[],fz:=[] }
theorem Lk:bC EN Tryz.f94 kU=some p_s_KeysOk:=by kernel_rfl
theorem Ll {W:Wld}{ins outs:List (List D)}(h:pwp (FunOk PP W) p_s_KeysOk (aL outs) (envL ins)):FunOk PP W wN kU ins outs:=aK (C:=EN) (aJ rfl) (aR rfl rfl) mixed Tryz.func94 (by kernel_rfl) (by kernel_rfl) Lk h

def p_i_nameRead:PC:= .seq (.ss [.mv 2 (.c (.int .i64 0)),.mv 3 (.c (.int .i64 0))]) (.seq (.seq (.ss [.mv 6 (.t 0),.bin 7 .eql (.t 6) (.c (.str ⟨#[]⟩))]) (.cond (.t 7) (.seq (.ss [.mv 2 (.c (.int .i64 0)),.mv 3 (.c (.int .i64 0))]) (.ret [2,3])) (.skip))) (.seq (.ss [.mv 9 (.t 0),.ssl 10 (.t 9) (some (.c (.int .i64 1))) none,.call 11 jS dG [(.t 10)] [],.mv 8 (.t 11),.ext 12 8 0 1,.ext 13 8 1 1,.mv 4 (.t 12),.mv 5 (.t 13)]) (.seq (.ss [.mv 14 (.t 0),.sidx 15 (.t 14) (.c (.int .i64 0)),.cvt 16 .i64 (.t 15),.bin 17 .sub (.t 16) (.c (.int .i64 97)),.bin 18 .add (.t 17) (.c (.int .i64 1)),.mv 19 (.t 4),.mv 2 (.t 18),.mv 3 (.t 19)]) (.ret [2,3]))))
def yQ:Cfg:={tt:=tt,sigs:=sigs,mv:=false,bm:=[],eqt:=cV,keep:=[true,false,true,true,true,false,false,true,false,false,false,false,false,false,false,false,false,false,false,false],n:=20,pin:=[],fail:=[],fz:=[] }
theorem HX:bC yQ Tryz.f96 eQ=some p_i_nameRead:=by kernel_rfl
theorem HY {W:Wld}{ins outs:List (List D)}(h:pwp (FunOk PP W) p_i_nameRead (aL outs) (envL ins)):FunOk PP W mO eQ ins outs:=aK (C:=yQ) (aJ rfl) (aR rfl rfl) mixed Tryz.func96 (by kernel_rfl) (by kernel_rfl) HX h

def p_i_isName:PC:= .seq (.ss [.mv 2 (.c (.bool false))]) (.seq (.ss [.mv 3 (.t 0),.call 4 lY iE [(.t 3),(.c (.int .i64 1)),(.c (.int .i64 4))] [],.mv 2 (.t 4)]) (.ret [2]))
def EO:Cfg:={tt:=tt,sigs:=sigs,mv:=false,bm:=[],eqt:=cV,keep:=[true,false,true,false,false],n:=5,pin:=[],fail:=[],fz:=[] }
theorem Lm:bC EO Tryz.f99 fV=some p_i_isName:=by kernel_rfl
theorem Ln {W:Wld}{ins outs:List (List D)}(h:pwp (FunOk PP W) p_i_isName (aL outs) (envL ins)):FunOk PP W nN fV ins outs:=aK (C:=EO) (aJ rfl) (aR rfl rfl) mixed Tryz.func99 (by kernel_rfl) (by kernel_rfl) Lm h

def p_i_isVer:PC:= .seq (.ss [.mv 2 (.c (.bool false))]) (.seq (.ss [.mv 3 (.t 0),.call 4 lY iE [(.t 3),(.c (.int .i64 1)),(.c (.int .i64 5))] [],.mv 2 (.t 4)]) (.ret [2]))
def GQ:Cfg:={tt:=tt,sigs:=sigs,mv:=false,bm:=[],eqt:=cV,keep:=[true,false,true,false,false],n:=5,pin:=[],fail:=[],fz:=[] }
theorem Ol:bC GQ Tryz.f100 jC=some p_i_isVer:=by kernel_rfl
theorem Om {W:Wld}{ins outs:List (List D)}(h:pwp (FunOk PP W) p_i_isVer (aL outs) (envL ins)):FunOk PP W pU jC ins outs:=aK (C:=GQ) (aJ rfl) (aR rfl rfl) mixed Tryz.func100 (by kernel_rfl) (by kernel_rfl) Ol h

def p_i_in:PC:= .seq (.ss [.mv 6 (.c (.bool false))]) (.seq (.ss [.mv 7 (.t 0),.mv 8 (.t 1),.bin 9 .geq (.t 7) (.t 8),.mv 10 (.t 9),.g 10 true 11 (.mv 11 (.t 0)),.g 10 true 12 (.mv 12 (.t 2)),.g 10 true 13 (.bin 13 .leq (.t 11) (.t 12)),.pick 14 (.t 10) (.t 13) (.c (.bool false)),.mv 6 (.t 14)]) (.ret [6]))
def Rg:Cfg:={tt:=tt,sigs:=sigs,mv:=false,bm:=[],eqt:=cV,keep:=[true,true,true,false,false,false,true,false,false,false,false,false,false,false,false],n:=15,pin:=[],fail:=[],fz:=[] }
theorem WM:bC Rg Tryz.f101 iE=some p_i_in:=by kernel_rfl
theorem WN {W:Wld}{ins outs:List (List D)}(h:pwp (FunOk PP W) p_i_in (aL outs) (envL ins)):FunOk PP W lY iE ins outs:=aK (C:=Rg) (aJ rfl) (aR rfl rfl) mixed Tryz.func101 (by kernel_rfl) (by kernel_rfl) WM h

def p_s_l1Name:PC:= .seq (.ss [.mv 4 (.c (.str ⟨#[]⟩))]) (.seq (.ss [.mv 5 (.t 0),.bin 6 .add (.c (.int .i64 97)) (.t 5),.bin 7 .sub (.t 6) (.c (.int .i64 1)),.cvt 8 .u8 (.t 7),.lit 9 1 [.int .u8 0] [(0,(.t 8))],.b2s 10 (.t 9),.mv 11 (.t 1),.call 12 kJ fH [(.t 11)] [],.bin 13 .add (.t 10) (.t 12),.mv 4 (.t 13)]) (.ret [4]))
def EP:Cfg:={tt:=tt,sigs:=sigs,mv:=false,bm:=[],eqt:=cV,keep:=[true,true,false,false,true,false,false,false,false,false,false,false,false,false],n:=14,pin:=[],fail:=[],fz:=[] }
theorem Lo:bC EP Tryz.f104 iF=some p_s_l1Name:=by kernel_rfl
theorem Lp {W:Wld}{ins outs:List (List D)}(h:pwp (FunOk PP W) p_s_l1Name (aL outs) (envL ins)):FunOk PP W qW iF ins outs:=aK (C:=EP) (aJ rfl) (aR rfl rfl) mixed Tryz.func104 (by kernel_rfl) (by kernel_rfl) Lo h

def p_s_l6Dec:PC:= .seq (.ss [.mv 2 (.c (.str ⟨#[]⟩))]) (.seq (.seq (.ss [.mv 3 (.t 0),.bin 4 .lss (.t 3) (.c (.int .i64 (-9223372036854775807)))]) (.cond (.t 4) (.seq (.ss [.mv 2 (.c (.str ⟨#[45,57,50,50,51,51,55,50,48,51,54,56,53,52,55,55,53,56,48,56]⟩))]) (.ret [2])) (.skip))) (.seq (.seq (.ss [.mv 5 (.t 0),.bin 6 .lss (.t 5) (.c (.int .i64 0))]) (.cond (.t 6) (.seq (.ss [.mv 7 (.t 0),.un 8 .neg (.t 7),.call 9 kJ fH [(.t 8)] [],.bin 10 .add (.c (.str ⟨#[45]⟩)) (.t 9),.mv 2 (.t 10)]) (.ret [2])) (.skip))) (.seq (.seq (.ss [.mv 11 (.t 0),.bin 12 .lss (.t 11) (.c (.int .i64 10))]) (.cond (.t 12) (.seq (.ss [.mv 13 (.t 0),.bin 14 .add (.c (.int .i64 48)) (.t 13),.cvt 15 .u8 (.t 14),.lit 16 1 [.int .u8 0] [(0,(.t 15))],.b2s 17 (.t 16),.mv 2 (.t 17)]) (.ret [2])) (.skip))) (.seq (.ss [.mv 18 (.t 0),.bin 19 .quo (.t 18) (.c (.int .i64 10)),.call 20 kJ fH [(.t 19)] [],.mv 21 (.t 0),.bin 22 .rem (.t 21) (.c (.int .i64 10)),.bin 23 .add (.c (.int .i64 48)) (.t 22),.cvt 24 .u8 (.t 23),.lit 25 1 [.int .u8 0] [(0,(.t 24))],.b2s 26 (.t 25),.bin 27 .add (.t 20) (.t 26),.mv 2 (.t 27)]) (.ret [2])))))
def GR:Cfg:={tt:=tt,sigs:=sigs,mv:=false,bm:=[],eqt:=cV,keep:=[true,false,true,false,true,false,true,false,false,false,false,false,true,false,false,false,false,false,false,false,false,false,false,false,false,false,false,false],n:=28,pin:=[],fail:=[],fz:=[] }
theorem On:bC GR Tryz.f105 fH=some p_s_l6Dec:=by kernel_rfl
theorem Oo {W:Wld}{ins outs:List (List D)}(h:pwp (FunOk PP W) p_s_l6Dec (aL outs) (envL ins)):FunOk PP W kJ fH ins outs:=aK (C:=GR) (aJ rfl) (aR rfl rfl) mixed Tryz.func105 (by kernel_rfl) (by kernel_rfl) On h

def p_i_KeysOk:PC:= .seq (.ss [.mv 2 (.c (.bool false))]) (.seq (.seq (.ss [.mv 5 (.t 0),.len 6 (.t 5),.mv 7 (.c (.int .i64 0))]) (.block 0 (.loop (.seq (.ss [.bin 8 .lss (.t 7) (.t 6)]) (.seq (.cond (.t 8) (.skip) (.exit 0)) (.seq (.block 1 (.seq (.ss [.mv 9 (.t 7),.elp 10 (.t 5) (.t 7) 1,.eld 11 10 0 [.int .i64 0],.mv 3 (.t 9),.mv 4 (.t 11)]) (.seq (.ss [.mv 12 (.t 4),.call 13 lY iE [(.t 12),(.c (.int .i64 1)),(.c (.int .i64 6))] [],.un 14 .not (.t 13),.mv 15 (.t 14),.g 15 false 16 (.mv 16 (.t 3)),.g 15 false 17 (.bin 17 .gtr (.t 16) (.c (.int .i64 0))),.g 15 false 18 (.mv 18 (.t 17)),.g 18 true 19 (.mv 19 (.t 4)),.g 18 true 20 (.mv 20 (.t 0)),.g 18 true 21 (.mv 21 (.t 3)),.g 18 true 22 (.bin 22 .sub (.t 21) (.c (.int .i64 1))),.g 18 true 23 (.elp 23 (.t 20) (.t 22) 1),.g 18 true 24 (.eld 24 23 0 [.int .i64 0]),.g 18 true 25 (.bin 25 .leq (.t 19) (.t 24)),.g 15 false 26 (.pick 26 (.t 18) (.t 25) (.c (.bool false))),.pick 27 (.t 15) (.c (.bool true)) (.t 26)]) (.cond (.t 27) (.seq (.ss [.mv 2 (.c (.bool false))]) (.ret [2])) (.skip))))) (.ss [.bin 28 .add (.t 7) (.c (.int .i64 1)),.mv 7 (.t 28)]))))))) (.seq (.ss [.mv 2 (.c (.bool true))]) (.ret [2])))
def EQ:Cfg:={tt:=tt,sigs:=sigs,mv:=false,bm:=[],eqt:=cV,keep:=[true,false,true,true,true,true,true,true,true,false,false,false,false,false,false,false,false,false,false,false,false,false,false,false,false,false,false,true,false],n:=29,pin:=[],fail:=[],fz:=[] }
theorem Lq:bC EQ Tryz.f108 kV=some p_i_KeysOk:=by kernel_rfl
theorem Lr {W:Wld}{ins outs:List (List D)}(h:pwp (FunOk PP W) p_i_KeysOk (aL outs) (envL ins)):FunOk PP W wO kV ins outs:=aK (C:=EQ) (aJ rfl) (aR rfl rfl) mixed Tryz.func108 (by kernel_rfl) (by kernel_rfl) Lq h

def p_cmp_Or_int:PC:= .seq (.ss [.mv 2 (.c (.int .i64 0))]) (.seq (.ss [.mv 3 (.c (.int .i64 0))]) (.seq (.seq (.ss [.mv 6 (.t 0),.len 7 (.t 6),.mv 8 (.c (.int .i64 0))]) (.block 0 (.loop (.seq (.ss [.bin 9 .lss (.t 8) (.t 7)]) (.seq (.cond (.t 9) (.skip) (.exit 0)) (.seq (.block 1 (.seq (.ss [.elp 10 (.t 6) (.t 8) 1,.eld 11 10 0 [.int .i64 0],.mv 5 (.t 11)]) (.seq (.ss [.mv 12 (.t 5),.mv 13 (.t 3),.bin 14 .neq (.t 12) (.t 13)]) (.cond (.t 14) (.seq (.ss [.mv 15 (.t 5),.mv 2 (.t 15)]) (.ret [2])) (.skip))))) (.ss [.bin 16 .add (.t 8) (.c (.int .i64 1)),.mv 8 (.t 16)]))))))) (.seq (.ss [.mv 17 (.t 3),.mv 2 (.t 17)]) (.ret [2]))))
def yR:Cfg:={tt:=tt,sigs:=sigs,mv:=false,bm:=[],eqt:=cV,keep:=[true,false,true,true,false,true,true,true,true,true,false,false,false,false,true,false,false,false],n:=18,pin:=[],fail:=[],fz:=[] }
theorem HZ:bC yR Tryz.f110 gN=some p_cmp_Or_int:=by kernel_rfl
theorem Ha {W:Wld}{ins outs:List (List D)}(h:pwp (FunOk PP W) p_cmp_Or_int (aL outs) (envL ins)):FunOk PP W qX gN ins outs:=aK (C:=yR) (aJ rfl) (aR rfl rfl) mixed Tryz.func110 (by kernel_rfl) (by kernel_rfl) HZ h

def p_cmp_Compare_int:PC:= .seq (.ss [.mv 4 (.c (.int .i64 0))]) (.seq (.ss [.mv 7 (.t 0),.call 8 hO cQ [(.t 7)] [],.mv 5 (.t 8)]) (.seq (.ss [.mv 9 (.t 1),.call 10 hO cQ [(.t 9)] [],.mv 6 (.t 10)]) (.seq (.seq (.ss [.mv 11 (.t 5)]) (.cond (.t 11) (.seq (.seq (.ss [.mv 12 (.t 6)]) (.cond (.t 12) (.seq (.ss [.mv 4 (.c (.int .i64 0))]) (.ret [4])) (.skip))) (.seq (.ss [.mv 4 (.c (.int .i64 (-1)))]) (.ret [4]))) (.skip))) (.seq (.seq (.ss [.mv 13 (.t 6)]) (.cond (.t 13) (.seq (.ss [.mv 4 (.c (.int .i64 1))]) (.ret [4])) (.skip))) (.seq (.seq (.ss [.mv 14 (.t 0),.mv 15 (.t 1),.bin 16 .lss (.t 14) (.t 15)]) (.cond (.t 16) (.seq (.ss [.mv 4 (.c (.int .i64 (-1)))]) (.ret [4])) (.skip))) (.seq (.seq (.ss [.mv 17 (.t 0),.mv 18 (.t 1),.bin 19 .gtr (.t 17) (.t 18)]) (.cond (.t 19) (.seq (.ss [.mv 4 (.c (.int .i64 1))]) (.ret [4])) (.skip))) (.seq (.ss [.mv 4 (.c (.int .i64 0))]) (.ret [4]))))))))
def oN:Cfg:={tt:=tt,sigs:=sigs,mv:=false,bm:=[],eqt:=cV,keep:=[true,true,false,false,true,true,true,false,false,false,false,true,true,true,false,false,true,false,false,true],n:=20,pin:=[],fail:=[],fz:=[] }
theorem yS:bC oN Tryz.f111 bZ=some p_cmp_Compare_int:=by kernel_rfl
theorem yT {W:Wld}{ins outs:List (List D)}(h:pwp (FunOk PP W) p_cmp_Compare_int (aL outs) (envL ins)):FunOk PP W fM bZ ins outs:=aK (C:=oN) (aJ rfl) (aR rfl rfl) mixed Tryz.func111 (by kernel_rfl) (by kernel_rfl) yS h

def p_l_szIntS:PC:= .seq (.ss [.mv 4 (.c (.int .i64 0))]) (.seq (.ss [.mv 5 (.t 1),.mv 6 (.t 0),.len 7 (.t 6),.bin 8 .sub (.t 5) (.t 7),.mv 1 (.t 8)]) (.seq (.seq (.ss [.mv 9 (.t 1),.bin 10 .lss (.t 9) (.c (.int .i64 0))]) (.cond (.t 10) (.seq (.ss [.mv 4 (.c (.int .i64 (-1)))]) (.ret [4])) (.skip))) (.seq (.ss [.mv 11 (.t 1),.mv 4 (.t 11)]) (.ret [4]))))
def ER:Cfg:={tt:=tt,sigs:=sigs,mv:=false,bm:=[],eqt:=cV,keep:=[true,true,false,false,true,false,false,false,false,false,true,false],n:=12,pin:=[],fail:=[],fz:=[] }
theorem Ls:bC ER Tryz.f112 kW=some p_l_szIntS:=by kernel_rfl
theorem Lt {W:Wld}{ins outs:List (List D)}(h:pwp (FunOk PP W) p_l_szIntS (aL outs) (envL ins)):FunOk PP W wP kW ins outs:=aK (C:=ER) (aJ rfl) (aR rfl rfl) mixed Tryz.func112 (by kernel_rfl) (by kernel_rfl) Ls h

def p_l_szMetaS:PC:= .seq (.ss [.mv 4 (.c (.int .i64 0))]) (.seq (.ss [.mv 5 (.t 1),.mv 6 (.t 0),.len 7 (.t 6),.bin 8 .sub (.t 5) (.t 7),.mv 1 (.t 8)]) (.seq (.seq (.ss [.mv 9 (.t 1),.bin 10 .lss (.t 9) (.c (.int .i64 0))]) (.cond (.t 10) (.seq (.ss [.mv 4 (.c (.int .i64 (-1)))]) (.ret [4])) (.skip))) (.seq (.ss [.mv 11 (.t 1),.mv 4 (.t 11)]) (.ret [4]))))
def Bh:Cfg:={tt:=tt,sigs:=sigs,mv:=false,bm:=[],eqt:=cV,keep:=[true,true,false,false,true,false,false,false,false,false,true,false],n:=12,pin:=[],fail:=[],fz:=[] }
theorem Jm:bC Bh Tryz.f113 jD=some p_l_szMetaS:=by kernel_rfl
theorem Jn {W:Wld}{ins outs:List (List D)}(h:pwp (FunOk PP W) p_l_szMetaS (aL outs) (envL ins)):FunOk PP W tG jD ins outs:=aK (C:=Bh) (aJ rfl) (aR rfl rfl) mixed Tryz.func113 (by kernel_rfl) (by kernel_rfl) Jm h

def p_l_szFileS:PC:= .seq (.ss [.mv 4 (.c (.int .i64 0))]) (.seq (.ss [.mv 5 (.t 1),.mv 6 (.t 0),.len 7 (.t 6),.bin 8 .sub (.t 5) (.t 7),.mv 1 (.t 8)]) (.seq (.seq (.ss [.mv 9 (.t 1),.bin 10 .lss (.t 9) (.c (.int .i64 0))]) (.cond (.t 10) (.seq (.ss [.mv 4 (.c (.int .i64 (-1)))]) (.ret [4])) (.skip))) (.seq (.ss [.mv 11 (.t 1),.mv 4 (.t 11)]) (.ret [4]))))
def Bi:Cfg:={tt:=tt,sigs:=sigs,mv:=false,bm:=[],eqt:=cV,keep:=[true,true,false,false,true,false,false,false,false,false,true,false],n:=12,pin:=[],fail:=[],fz:=[] }
theorem Jo:bC Bi Tryz.f114 jE=some p_l_szFileS:=by kernel_rfl
theorem Jp {W:Wld}{ins outs:List (List D)}(h:pwp (FunOk PP W) p_l_szFileS (aL outs) (envL ins)):FunOk PP W tH jE ins outs:=aK (C:=Bi) (aJ rfl) (aR rfl rfl) mixed Tryz.func114 (by kernel_rfl) (by kernel_rfl) Jo h

def p_l_szDepS:PC:= .seq (.ss [.mv 4 (.c (.int .i64 0))]) (.seq (.ss [.mv 5 (.t 1),.mv 6 (.t 0),.len 7 (.t 6),.bin 8 .sub (.t 5) (.t 7),.mv 1 (.t 8)]) (.seq (.seq (.ss [.mv 9 (.t 1),.bin 10 .lss (.t 9) (.c (.int .i64 0))]) (.cond (.t 10) (.seq (.ss [.mv 4 (.c (.int .i64 (-1)))]) (.ret [4])) (.skip))) (.seq (.ss [.mv 11 (.t 1),.mv 4 (.t 11)]) (.ret [4]))))
def ES:Cfg:={tt:=tt,sigs:=sigs,mv:=false,bm:=[],eqt:=cV,keep:=[true,true,false,false,true,false,false,false,false,false,true,false],n:=12,pin:=[],fail:=[],fz:=[] }
theorem Lu:bC ES Tryz.f115 kX=some p_l_szDepS:=by kernel_rfl
theorem Lv {W:Wld}{ins outs:List (List D)}(h:pwp (FunOk PP W) p_l_szDepS (aL outs) (envL ins)):FunOk PP W wQ kX ins outs:=aK (C:=ES) (aJ rfl) (aR rfl rfl) mixed Tryz.func115 (by kernel_rfl) (by kernel_rfl) Lu h

def p_l_eqFileS:PC:= .seq (.ss [.mv 4 (.c (.bool false))]) (.seq (.seq (.ss [.mv 6 (.t 0),.len 7 (.t 6),.mv 8 (.t 1),.len 9 (.t 8),.bin 10 .neq (.t 7) (.t 9)]) (.cond (.t 10) (.seq (.ss [.mv 4 (.c (.bool false))]) (.ret [4])) (.skip))) (.seq (.seq (.ss [.mv 5 (.c (.int .i64 0))]) (.block 0 (.loop (.seq (.seq (.ss [.mv 11 (.t 5),.mv 12 (.t 0),.len 13 (.t 12),.bin 14 .lss (.t 11) (.t 13)]) (.cond (.t 14) (.skip) (.exit 0))) (.seq (.block 1 (.seq (.ss [.mv 17 (.t 0),.mv 18 (.t 5),.elp 19 (.t 17) (.t 18) 2,.eld 20 19 0 [.int .i64 0,.int .i64 0],.mv 21 (.t 1),.mv 22 (.t 5),.elp 23 (.t 21) (.t 22) 2,.eld 24 23 0 [.int .i64 0,.int .i64 0],.call 25 wY lB [(.t 20),(.t 24)] [],.un 26 .not (.t 25)]) (.cond (.t 26) (.seq (.ss [.mv 4 (.c (.bool false))]) (.ret [4])) (.skip)))) (.ss [.mv 15 (.t 5),.bin 16 .add (.t 15) (.c (.int .i64 1)),.mv 5 (.t 16)])))))) (.seq (.ss [.mv 4 (.c (.bool true))]) (.ret [4]))))
def Bj:Cfg:={tt:=tt,sigs:=sigs,mv:=false,bm:=[],eqt:=cV,keep:=[true,true,false,false,true,true,false,false,false,false,true,false,false,false,true,false,false,false,false,false,false,false,false,false,false,false,true],n:=27,pin:=[],fail:=[],fz:=[] }
theorem Jq:bC Bj Tryz.f120 jF=some p_l_eqFileS:=by kernel_rfl
theorem Jr {W:Wld}{ins outs:List (List D)}(h:pwp (FunOk PP W) p_l_eqFileS (aL outs) (envL ins)):FunOk PP W tK jF ins outs:=aK (C:=Bj) (aJ rfl) (aR rfl rfl) mixed Tryz.func120 (by kernel_rfl) (by kernel_rfl) Jq h

def p_l_eqDepS:PC:= .seq (.ss [.mv 4 (.c (.bool false))]) (.seq (.seq (.ss [.mv 6 (.t 0),.len 7 (.t 6),.mv 8 (.t 1),.len 9 (.t 8),.bin 10 .neq (.t 7) (.t 9)]) (.cond (.t 10) (.seq (.ss [.mv 4 (.c (.bool false))]) (.ret [4])) (.skip))) (.seq (.seq (.ss [.mv 5 (.c (.int .i64 0))]) (.block 0 (.loop (.seq (.seq (.ss [.mv 11 (.t 5),.mv 12 (.t 0),.len 13 (.t 12),.bin 14 .lss (.t 11) (.t 13)]) (.cond (.t 14) (.skip) (.exit 0))) (.seq (.block 1 (.seq (.ss [.mv 17 (.t 0),.mv 18 (.t 5),.elp 19 (.t 17) (.t 18) 2,.eld 20 19 0 [.int .i64 0,.int .i64 0],.mv 21 (.t 1),.mv 22 (.t 5),.elp 23 (.t 21) (.t 22) 2,.eld 24 23 0 [.int .i64 0,.int .i64 0],.call 25 Aa nC [(.t 20),(.t 24)] [],.un 26 .not (.t 25)]) (.cond (.t 26) (.seq (.ss [.mv 4 (.c (.bool false))]) (.ret [4])) (.skip)))) (.ss [.mv 15 (.t 5),.bin 16 .add (.t 15) (.c (.int .i64 1)),.mv 5 (.t 16)])))))) (.seq (.ss [.mv 4 (.c (.bool true))]) (.ret [4]))))
def ET:Cfg:={tt:=tt,sigs:=sigs,mv:=false,bm:=[],eqt:=cV,keep:=[true,true,false,false,true,true,false,false,false,false,true,false,false,false,true,false,false,false,false,false,false,false,false,false,false,false,true],n:=27,pin:=[],fail:=[],fz:=[] }
theorem Lw:bC ET Tryz.f121 kY=some p_l_eqDepS:=by kernel_rfl
theorem Lx {W:Wld}{ins outs:List (List D)}(h:pwp (FunOk PP W) p_l_eqDepS (aL outs) (envL ins)):FunOk PP W wT kY ins outs:=aK (C:=ET) (aJ rfl) (aR rfl rfl) mixed Tryz.func121 (by kernel_rfl) (by kernel_rfl) Lw h

def p_l_eqIntS:PC:= .seq (.ss [.mv 4 (.c (.bool false))]) (.seq (.seq (.ss [.mv 6 (.t 0),.len 7 (.t 6),.mv 8 (.t 1),.len 9 (.t 8),.bin 10 .neq (.t 7) (.t 9)]) (.cond (.t 10) (.seq (.ss [.mv 4 (.c (.bool false))]) (.ret [4])) (.skip))) (.seq (.seq (.ss [.mv 5 (.c (.int .i64 0))]) (.block 0 (.loop (.seq (.seq (.ss [.mv 11 (.t 5),.mv 12 (.t 0),.len 13 (.t 12),.bin 14 .lss (.t 11) (.t 13)]) (.cond (.t 14) (.skip) (.exit 0))) (.seq (.block 1 (.seq (.ss [.mv 17 (.t 0),.mv 18 (.t 5),.elp 19 (.t 17) (.t 18) 1,.eld 20 19 0 [.int .i64 0],.mv 21 (.t 1),.mv 22 (.t 5),.elp 23 (.t 21) (.t 22) 1,.eld 24 23 0 [.int .i64 0],.bin 25 .neq (.t 20) (.t 24)]) (.cond (.t 25) (.seq (.ss [.mv 4 (.c (.bool false))]) (.ret [4])) (.skip)))) (.ss [.mv 15 (.t 5),.bin 16 .add (.t 15) (.c (.int .i64 1)),.mv 5 (.t 16)])))))) (.seq (.ss [.mv 4 (.c (.bool true))]) (.ret [4]))))
def EU:Cfg:={tt:=tt,sigs:=sigs,mv:=false,bm:=[],eqt:=cV,keep:=[true,true,false,false,true,true,false,false,false,false,true,false,false,false,true,false,false,false,false,false,false,false,false,false,false,true],n:=26,pin:=[],fail:=[],fz:=[] }
theorem Ly:bC EU Tryz.f122 kZ=some p_l_eqIntS:=by kernel_rfl
theorem Lz {W:Wld}{ins outs:List (List D)}(h:pwp (FunOk PP W) p_l_eqIntS (aL outs) (envL ins)):FunOk PP W wU kZ ins outs:=aK (C:=EU) (aJ rfl) (aR rfl rfl) mixed Tryz.func122 (by kernel_rfl) (by kernel_rfl) Ly h

def p_l_eqMetaS:PC:= .seq (.ss [.mv 4 (.c (.bool false))]) (.seq (.seq (.ss [.mv 6 (.t 0),.len 7 (.t 6),.mv 8 (.t 1),.len 9 (.t 8),.bin 10 .neq (.t 7) (.t 9)]) (.cond (.t 10) (.seq (.ss [.mv 4 (.c (.bool false))]) (.ret [4])) (.skip))) (.seq (.seq (.ss [.mv 5 (.c (.int .i64 0))]) (.block 0 (.loop (.seq (.seq (.ss [.mv 11 (.t 5),.mv 12 (.t 0),.len 13 (.t 12),.bin 14 .lss (.t 11) (.t 13)]) (.cond (.t 14) (.skip) (.exit 0))) (.seq (.block 1 (.seq (.ss [.mv 17 (.t 0),.mv 18 (.t 5),.elp 19 (.t 17) (.t 18) 3,.eld 20 19 0 [.int .i64 0,.int .i64 0,.int .i64 0],.mv 21 (.t 1),.mv 22 (.t 5),.elp 23 (.t 21) (.t 22) 3,.eld 24 23 0 [.int .i64 0,.int .i64 0,.int .i64 0],.call 25 wZ lC [(.t 20),(.t 24)] [],.un 26 .not (.t 25)]) (.cond (.t 26) (.seq (.ss [.mv 4 (.c (.bool false))]) (.ret [4])) (.skip)))) (.ss [.mv 15 (.t 5),.bin 16 .add (.t 15) (.c (.int .i64 1)),.mv 5 (.t 16)])))))) (.seq (.ss [.mv 4 (.c (.bool true))]) (.ret [4]))))
def Bk:Cfg:={tt:=tt,sigs:=sigs,mv:=false,bm:=[],eqt:=cV,keep:=[true,true,false,false,true,true,false,false,false,false,true,false,false,false,true,false,false,false,false,false,false,false,false,false,false,false,true],n:=27,pin:=[],fail:=[],fz:=[] }
theorem Js:bC Bk Tryz.f123 fX=some p_l_eqMetaS:=by kernel_rfl
theorem Jt {W:Wld}{ins outs:List (List D)}(h:pwp (FunOk PP W) p_l_eqMetaS (aL outs) (envL ins)):FunOk PP W oM fX ins outs:=aK (C:=Bk) (aJ rfl) (aR rfl rfl) mixed Tryz.func123 (by kernel_rfl) (by kernel_rfl) Js h

def p_s_SumOf:PC:= .seq (.ss [.mv 2 (.c (.int .i64 0))]) (.seq (.ss [.mv 3 (.c (.int .i64 7))]) (.seq (.seq (.ss [.mv 4 (.c (.int .i64 0))]) (.block 0 (.loop (.seq (.seq (.ss [.mv 5 (.t 4),.mv 6 (.t 0),.slen 7 (.t 6),.bin 8 .lss (.t 5) (.t 7)]) (.cond (.t 8) (.skip) (.exit 0))) (.seq (.block 1 (.ss [.mv 11 (.t 3),.bin 12 .mul (.c (.int .i64 31)) (.t 11),.mv 13 (.t 0),.mv 14 (.t 4),.sidx 15 (.t 13) (.t 14),.cvt 16 .i64 (.t 15),.bin 17 .add (.t 12) (.t 16),.bin 18 .add (.t 17) (.c (.int .i64 1)),.bin 19 .rem (.t 18) (.c (.int .i64 9973)),.mv 3 (.t 19)])) (.ss [.mv 9 (.t 4),.bin 10 .add (.t 9) (.c (.int .i64 1)),.mv 4 (.t 10)])))))) (.seq (.ss [.mv 20 (.t 3),.mv 2 (.t 20)]) (.ret [2]))))
def GS:Cfg:={tt:=tt,sigs:=sigs,mv:=false,bm:=[],eqt:=cV,keep:=[true,false,true,true,true,false,false,false,true,false,false,false,false,false,false,false,false,false,false,false,false],n:=21,pin:=[],fail:=[],fz:=[] }
theorem Oq:bC GS Tryz.f127 nB=some p_s_SumOf:=by kernel_rfl
theorem Ot {W:Wld}{ins outs:List (List D)}(h:pwp (FunOk PP W) p_s_SumOf (aL outs) (envL ins)):FunOk PP W AY nB ins outs:=aK (C:=GS) (aJ rfl) (aR rfl rfl) mixed Tryz.func127 (by kernel_rfl) (by kernel_rfl) Oq h

def p_s_l1Files:PC:= .seq (.ss [.mv 2 (.c (.bool false))]) (.seq (.seq (.ss [.mv 3 (.c (.int .i64 0))]) (.block 0 (.loop (.seq (.seq (.ss [.mv 4 (.t 3),.mv 5 (.t 0),.len 6 (.t 5),.bin 7 .lss (.t 4) (.t 6)]) (.cond (.t 7) (.skip) (.exit 0))) (.seq (.block 1 (.seq (.ss [.mv 10 (.t 0),.mv 11 (.t 3),.elp 12 (.t 10) (.t 11) 2,.mv 13 (.t 12),.eld 14 13 0 [.int .i64 0],.call 15 cU bY [(.t 14),(.c (.int .i64 0)),(.c (.int .i64 5))] [],.un 16 .not (.t 15),.mv 17 (.t 16),.g 17 false 18 (.mv 18 (.t 0)),.g 17 false 19 (.mv 19 (.t 3)),.g 17 false 20 (.elp 20 (.t 18) (.t 19) 2),.g 17 false 21 (.mv 21 (.t 20)),.g 17 false 22 (.eld 22 21 1 [.int .i64 0]),.g 17 false 23 (.call 23 cU bY [(.t 22),(.c (.int .i64 0)),(.c (.int .i64 9))] []),.g 17 false 24 (.un 24 .not (.t 23)),.pick 25 (.t 17) (.c (.bool true)) (.t 24),.mv 26 (.t 25),.g 26 false 27 (.mv 27 (.t 3)),.g 26 false 28 (.bin 28 .gtr (.t 27) (.c (.int .i64 0))),.g 26 false 29 (.mv 29 (.t 28)),.g 29 true 30 (.mv 30 (.t 0)),.g 29 true 31 (.mv 31 (.t 3)),.g 29 true 32 (.bin 32 .sub (.t 31) (.c (.int .i64 1))),.g 29 true 33 (.elp 33 (.t 30) (.t 32) 2),.g 29 true 34 (.mv 34 (.t 33)),.g 29 true 35 (.eld 35 34 0 [.int .i64 0]),.g 29 true 36 (.mv 36 (.t 0)),.g 29 true 37 (.mv 37 (.t 3)),.g 29 true 38 (.elp 38 (.t 36) (.t 37) 2),.g 29 true 39 (.mv 39 (.t 38)),.g 29 true 40 (.eld 40 39 0 [.int .i64 0]),.g 29 true 41 (.bin 41 .geq (.t 35) (.t 40)),.g 26 false 42 (.pick 42 (.t 29) (.t 41) (.c (.bool false))),.pick 43 (.t 26) (.c (.bool true)) (.t 42)]) (.cond (.t 43) (.seq (.ss [.mv 2 (.c (.bool false))]) (.ret [2])) (.skip)))) (.ss [.mv 8 (.t 3),.bin 9 .add (.t 8) (.c (.int .i64 1)),.mv 3 (.t 9)])))))) (.seq (.ss [.mv 44 (.t 0),.len 45 (.t 44),.bin 46 .leq (.t 45) (.c (.int .i64 2)),.mv 2 (.t 46)]) (.ret [2])))
def Bl:Cfg:={tt:=tt,sigs:=sigs,mv:=false,bm:=[],eqt:=cV,keep:=[true,false,true,true,false,false,false,true,false,false,false,false,false,false,false,false,false,false,false,false,false,false,false,false,false,false,false,false,false,false,false,false,false,false,false,false,false,false,false,false,false,false,false,true,false,false,false],n:=47,pin:=[],fail:=[],fz:=[] }
theorem Ju:bC Bl Tryz.f128 jG=some p_s_l1Files:=by kernel_rfl
theorem Jv {W:Wld}{ins outs:List (List D)}(h:pwp (FunOk PP W) p_s_l1Files (aL outs) (envL ins)):FunOk PP W tL jG ins outs:=aK (C:=Bl) (aJ rfl) (aR rfl rfl) mixed Tryz.func128 (by kernel_rfl) (by kernel_rfl) Ju h

def p_s_l1Deps:PC:= .seq (.ss [.mv 4 (.c (.bool false))]) (.seq (.seq (.ss [.mv 5 (.c (.int .i64 0))]) (.block 0 (.loop (.seq (.seq (.ss [.mv 7 (.t 5),.mv 8 (.t 1),.len 9 (.t 8),.bin 10 .lss (.t 7) (.t 9)]) (.cond (.t 10) (.skip) (.exit 0))) (.seq (.block 1 (.seq (.ss [.mv 13 (.t 1),.mv 14 (.t 5),.elp 15 (.t 13) (.t 14) 2,.eld 16 15 0 [.int .i64 0,.int .i64 0],.bld 6 [.int .i64 0,.int .i64 0] [],.st 6 0 (.t 16)]) (.seq (.ss [.nop,.sub 18 6 0 1,.call 19 cU bY [(.t 18),(.c (.int .i64 1)),(.c (.int .i64 4))] [],.un 20 .not (.t 19),.mv 21 (.t 20),.g 21 false 22 (.nop),.g 21 false 23 (.sub 23 6 0 1),.g 21 false 24 (.mv 24 (.t 0)),.g 21 false 25 (.bin 25 .eql (.t 23) (.t 24)),.pick 26 (.t 21) (.c (.bool true)) (.t 25),.mv 27 (.t 26),.g 27 false 28 (.nop),.g 27 false 29 (.sub 29 6 1 1),.g 27 false 30 (.call 30 cU bY [(.t 29),(.c (.int .i64 1)),(.c (.int .i64 5))] []),.g 27 false 31 (.un 31 .not (.t 30)),.pick 32 (.t 27) (.c (.bool true)) (.t 31),.mv 33 (.t 32),.g 33 false 34 (.mv 34 (.t 5)),.g 33 false 35 (.bin 35 .gtr (.t 34) (.c (.int .i64 0))),.g 33 false 36 (.mv 36 (.t 35)),.g 36 true 37 (.mv 37 (.t 1)),.g 36 true 38 (.mv 38 (.t 5)),.g 36 true 39 (.bin 39 .sub (.t 38) (.c (.int .i64 1))),.g 36 true 40 (.elp 40 (.t 37) (.t 39) 2),.g 36 true 41 (.mv 41 (.t 40)),.g 36 true 42 (.eld 42 41 0 [.int .i64 0]),.g 36 true 43 (.nop),.g 36 true 44 (.sub 44 6 0 1),.g 36 true 45 (.bin 45 .geq (.t 42) (.t 44)),.g 33 false 46 (.pick 46 (.t 36) (.t 45) (.c (.bool false))),.pick 47 (.t 33) (.c (.bool true)) (.t 46)]) (.cond (.t 47) (.seq (.ss [.mv 4 (.c (.bool false))]) (.ret [4])) (.skip))))) (.ss [.mv 11 (.t 5),.bin 12 .add (.t 11) (.c (.int .i64 1)),.mv 5 (.t 12)])))))) (.seq (.ss [.mv 48 (.t 1),.len 49 (.t 48),.bin 50 .leq (.t 49) (.c (.int .i64 2)),.mv 4 (.t 50)]) (.ret [4])))
def EV:Cfg:={tt:=tt,sigs:=sigs,mv:=false,bm:=[],eqt:=cV,keep:=[true,true,false,false,true,true,true,false,false,false,true,false,false,false,false,false,false,false,false,false,false,false,false,false,false,false,false,false,false,false,false,false,false,false,false,false,false,false,false,false,false,false,false,false,false,false,false,true,false,false,false],n:=51,pin:=[],fail:=[],fz:=[] }
theorem MA:bC EV Tryz.f129 lA=some p_s_l1Deps:=by kernel_rfl
theorem MB {W:Wld}{ins outs:List (List D)}(h:pwp (FunOk PP W) p_s_l1Deps (aL outs) (envL ins)):FunOk PP W wV lA ins outs:=aK (C:=EV) (aJ rfl) (aR rfl rfl) mixed Tryz.func129 (by kernel_rfl) (by kernel_rfl) MA h

def p_sl_Equal_Meta:PC:= .seq (.ss [.mv 4 (.c (.bool false))]) (.seq (.seq (.ss [.mv 6 (.t 0),.len 7 (.t 6),.mv 8 (.t 1),.len 9 (.t 8),.bin 10 .neq (.t 7) (.t 9)]) (.cond (.t 10) (.seq (.ss [.mv 4 (.c (.bool false))]) (.ret [4])) (.skip))) (.seq (.seq (.ss [.mv 11 (.t 0),.len 12 (.t 11),.mv 13 (.c (.int .i64 0))]) (.block 0 (.loop (.seq (.ss [.bin 14 .lss (.t 13) (.t 12)]) (.seq (.cond (.t 14) (.skip) (.exit 0)) (.seq (.block 1 (.seq (.ss [.mv 15 (.t 13),.mv 5 (.t 15)]) (.seq (.ss [.mv 16 (.t 0),.mv 17 (.t 5),.elp 18 (.t 16) (.t 17) 3,.eld 19 18 0 [.int .i64 0,.int .i64 0,.int .i64 0],.mv 20 (.t 1),.mv 21 (.t 5),.elp 22 (.t 20) (.t 21) 3,.eld 23 22 0 [.int .i64 0,.int .i64 0,.int .i64 0],.eqs 24 true [.int .i64 0,.int .i64 0,.int .i64 0] (.t 19) (.t 23)]) (.cond (.t 24) (.seq (.ss [.mv 4 (.c (.bool false))]) (.ret [4])) (.skip))))) (.ss [.bin 25 .add (.t 13) (.c (.int .i64 1)),.mv 13 (.t 25)]))))))) (.seq (.ss [.mv 4 (.c (.bool true))]) (.ret [4]))))
def rH:Cfg:={tt:=tt,sigs:=sigs,mv:=false,bm:=[],eqt:=cV,keep:=[true,true,false,false,true,true,false,false,false,false,true,false,true,true,true,false,false,false,false,false,false,false,false,false,true,false],n:=26,pin:=[],fail:=[],fz:=[] }
theorem CH:bC rH Tryz.f130 dN=some p_sl_Equal_Meta:=by kernel_rfl
theorem CI {W:Wld}{ins outs:List (List D)}(h:pwp (FunOk PP W) p_sl_Equal_Meta (aL outs) (envL ins)):FunOk PP W lZ dN ins outs:=aK (C:=rH) (aJ rfl) (aR rfl rfl) mixed Tryz.func130 (by kernel_rfl) (by kernel_rfl) CH h

end
section

def p_cmp_isNaN_int:PC:= .seq (.ss [.mv 2 (.c (.bool false))]) (.seq (.ss [.mv 3 (.t 0),.mv 4 (.t 0),.bin 5 .neq (.t 3) (.t 4),.mv 2 (.t 5)]) (.ret [2]))
def rI:Cfg:={tt:=tt,sigs:=sigs,mv:=false,bm:=[],eqt:=cV,keep:=[true,false,true,false,false,false],n:=6,pin:=[],fail:=[],fz:=[] }
theorem CJ:bC rI Tryz.f140 cQ=some p_cmp_isNaN_int:=by kernel_rfl
theorem CK {W:Wld}{ins outs:List (List D)}(h:pwp (FunOk PP W) p_cmp_isNaN_int (aL outs) (envL ins)):FunOk PP W hO cQ ins outs:=aK (C:=rI) (aJ rfl) (aR rfl rfl) mixed Tryz.func140 (by kernel_rfl) (by kernel_rfl) CJ h

def p_l_eqFile:PC:= .seq (.ss [.mv 2 (.t 0),.mv 3 (.t 1),.mv 4 (.c (.bool false))]) (.seq (.seq (.ss [.nop,.sub 6 2 0 1,.nop,.sub 8 3 0 1,.bin 9 .neq (.t 6) (.t 8)]) (.cond (.t 9) (.seq (.ss [.mv 4 (.c (.bool false))]) (.ret [4])) (.skip))) (.seq (.seq (.ss [.nop,.sub 11 2 1 1,.nop,.sub 13 3 1 1,.bin 14 .neq (.t 11) (.t 13)]) (.cond (.t 14) (.seq (.ss [.mv 4 (.c (.bool false))]) (.ret [4])) (.skip))) (.seq (.ss [.mv 4 (.c (.bool true))]) (.ret [4]))))
def EW:Cfg:={tt:=tt,sigs:=sigs,mv:=false,bm:=[],eqt:=cV,keep:=[true,true,true,true,true,false,false,false,false,true,false,false,false,false,true],n:=15,pin:=[],fail:=[],fz:=[] }
theorem MC:bC EW Tryz.f144 lB=some p_l_eqFile:=by kernel_rfl
theorem MD {W:Wld}{ins outs:List (List D)}(h:pwp (FunOk PP W) p_l_eqFile (aL outs) (envL ins)):FunOk PP W wY lB ins outs:=aK (C:=EW) (aJ rfl) (aR rfl rfl) mixed Tryz.func144 (by kernel_rfl) (by kernel_rfl) MC h

def p_l_eqDep:PC:= .seq (.ss [.mv 2 (.t 0),.mv 3 (.t 1),.mv 4 (.c (.bool false))]) (.seq (.seq (.ss [.nop,.sub 6 2 0 1,.nop,.sub 8 3 0 1,.bin 9 .neq (.t 6) (.t 8)]) (.cond (.t 9) (.seq (.ss [.mv 4 (.c (.bool false))]) (.ret [4])) (.skip))) (.seq (.seq (.ss [.nop,.sub 11 2 1 1,.nop,.sub 13 3 1 1,.bin 14 .neq (.t 11) (.t 13)]) (.cond (.t 14) (.seq (.ss [.mv 4 (.c (.bool false))]) (.ret [4])) (.skip))) (.seq (.ss [.mv 4 (.c (.bool true))]) (.ret [4]))))
def GT:Cfg:={tt:=tt,sigs:=sigs,mv:=false,bm:=[],eqt:=cV,keep:=[true,true,true,true,true,false,false,false,false,true,false,false,false,false,true],n:=15,pin:=[],fail:=[],fz:=[] }
theorem Ou:bC GT Tryz.f145 nC=some p_l_eqDep:=by kernel_rfl
theorem Ov {W:Wld}{ins outs:List (List D)}(h:pwp (FunOk PP W) p_l_eqDep (aL outs) (envL ins)):FunOk PP W Aa nC ins outs:=aK (C:=GT) (aJ rfl) (aR rfl rfl) mixed Tryz.func145 (by kernel_rfl) (by kernel_rfl) Ou h

def p_l_eqMeta:PC:= .seq (.ss [.mv 2 (.t 0),.mv 3 (.t 1),.mv 4 (.c (.bool false))]) (.seq (.seq (.ss [.nop,.sub 6 2 0 1,.nop,.sub 8 3 0 1,.bin 9 .neq (.t 6) (.t 8)]) (.cond (.t 9) (.seq (.ss [.mv 4 (.c (.bool false))]) (.ret [4])) (.skip))) (.seq (.seq (.ss [.nop,.sub 11 2 1 1,.nop,.sub 13 3 1 1,.bin 14 .neq (.t 11) (.t 13)]) (.cond (.t 14) (.seq (.ss [.mv 4 (.c (.bool false))]) (.ret [4])) (.skip))) (.seq (.seq (.ss [.nop,.sub 16 2 2 1,.nop,.sub 18 3 2 1,.bin 19 .neq (.t 16) (.t 18)]) (.cond (.t 19) (.seq (.ss [.mv 4 (.c (.bool false))]) (.ret [4])) (.skip))) (.seq (.ss [.mv 4 (.c (.bool true))]) (.ret [4])))))
def EX:Cfg:={tt:=tt,sigs:=sigs,mv:=false,bm:=[],eqt:=cV,keep:=[true,true,true,true,true,false,false,false,false,true,false,false,false,false,true,false,false,false,false,true],n:=20,pin:=[],fail:=[],fz:=[] }
theorem ME:bC EX Tryz.f146 lC=some p_l_eqMeta:=by kernel_rfl
theorem MF {W:Wld}{ins outs:List (List D)}(h:pwp (FunOk PP W) p_l_eqMeta (aL outs) (envL ins)):FunOk PP W wZ lC ins outs:=aK (C:=EX) (aJ rfl) (aR rfl rfl) mixed Tryz.func146 (by kernel_rfl) (by kernel_rfl) ME h

end
section

def p_l_toIntS_X:PC:= .seq (.ss [.mv 2 (.c (.sl []))]) (.seq (.ss [.mv 5 (.t 0),.len 6 (.t 5),.mk 7 [.int .i64 0] (.t 6) (.t 6),.mv 3 (.t 7)]) (.seq (.seq (.ss [.mv 4 (.c (.int .i64 0))]) (.block 0 (.loop (.seq (.seq (.ss [.mv 8 (.t 4),.mv 9 (.t 0),.len 10 (.t 9),.bin 11 .lss (.t 8) (.t 10)]) (.cond (.t 11) (.skip) (.exit 0))) (.seq (.block 1 (.ss [.mv 14 (.t 3),.mv 15 (.t 4),.mv 16 (.t 0),.mv 17 (.t 4),.elp 18 (.t 16) (.t 17) 1,.eld 19 18 0 [.int .i64 0],.elp 20 (.t 14) (.t 15) 1,.els 20 0 3 0 (.t 19)])) (.ss [.mv 12 (.t 4),.bin 13 .add (.t 12) (.c (.int .i64 1)),.mv 4 (.t 13)])))))) (.seq (.ss [.mv 21 (.t 3),.mv 2 (.t 21)]) (.ret [2]))))
def yU:Cfg:={tt:=tt,sigs:=eF,mv:=true,bm:=[],eqt:=cV,keep:=[true,false,true,true,true,false,false,false,false,false,false,true,false,false,false,false,false,false,false,false,false,false],n:=22,pin:=[],fz:=[],al:=false }
theorem Hb:bC yU Tryz.f116 jT=some p_l_toIntS_X:=by kernel_rfl
theorem Hc {W:Wld}{ins outs:List (List D)}(h:pwp (FunOk PP W) p_l_toIntS_X (aL outs) (envL ins)):FunOk PP W wR jT ins outs:=aK (C:=yU) (aJ rfl) (aR rfl rfl) mixed Tryz.func116 (by kernel_rfl) (by kernel_rfl) Hb h

def p_l_toRoot_X:PC:= .seq (.ss [.mv 1 (.t 0),.bld 2 [.int .i64 0,.sl [],.int .i64 0] []]) (.seq (.ss [.bld 3 [.int .i64 0,.sl [],.int .i64 0] []]) (.seq (.ss [.nop,.sub 5 1 0 1,.nop,.st 3 0 (.t 5)]) (.seq (.ss [.nop,.sub 8 1 1 1,.call 9 wR jT [(.t 8)] [],.nop,.st 3 1 (.t 9)]) (.seq (.ss [.nop,.sub 12 1 2 1,.nop,.st 3 2 (.t 12)]) (.seq (.ss [.sub 14 3 0 3,.st 2 0 (.t 14)]) (.ret [2]))))))
def yV:Cfg:={tt:=tt,sigs:=eF,mv:=true,bm:=[],eqt:=cV,keep:=[true,true,true,true,false,false,false,false,false,false,false,false,false,false,false],n:=15,pin:=[],fz:=[],al:=false }
theorem Hd:bC yV Tryz.f67 jU=some p_l_toRoot_X:=by kernel_rfl
theorem He {W:Wld}{ins outs:List (List D)}(h:pwp (FunOk PP W) p_l_toRoot_X (aL outs) (envL ins)):FunOk PP W wM jU ins outs:=aK (C:=yV) (aJ rfl) (aR rfl rfl) mixed Tryz.func67 (by kernel_rfl) (by kernel_rfl) Hd h

def p_l_toFile_X:PC:= .seq (.ss [.mv 1 (.t 0),.bld 2 [.int .i64 0,.int .i64 0] []]) (.seq (.ss [.bld 3 [.int .i64 0,.int .i64 0] []]) (.seq (.ss [.nop,.sub 5 1 0 1,.nop,.st 3 0 (.t 5)]) (.seq (.ss [.nop,.sub 8 1 1 1,.nop,.st 3 1 (.t 8)]) (.seq (.ss [.sub 10 3 0 2,.st 2 0 (.t 10)]) (.ret [2])))))
def yW:Cfg:={tt:=tt,sigs:=eF,mv:=true,bm:=[],eqt:=cV,keep:=[true,true,true,true,false,false,false,false,false,false,false],n:=11,pin:=[],fz:=[],al:=false }
theorem Hf:bC yW Tryz.f142 jV=some p_l_toFile_X:=by kernel_rfl
theorem Hg {W:Wld}{ins outs:List (List D)}(h:pwp (FunOk PP W) p_l_toFile_X (aL outs) (envL ins)):FunOk PP W wX jV ins outs:=aK (C:=yW) (aJ rfl) (aR rfl rfl) mixed Tryz.func142 (by kernel_rfl) (by kernel_rfl) Hf h

def p_l_toFileS_X:PC:= .seq (.ss [.mv 2 (.c (.sl []))]) (.seq (.ss [.mv 5 (.t 0),.len 6 (.t 5),.mk 7 [.int .i64 0,.int .i64 0] (.t 6) (.t 6),.mv 3 (.t 7)]) (.seq (.seq (.ss [.mv 4 (.c (.int .i64 0))]) (.block 0 (.loop (.seq (.seq (.ss [.mv 8 (.t 4),.mv 9 (.t 0),.len 10 (.t 9),.bin 11 .lss (.t 8) (.t 10)]) (.cond (.t 11) (.skip) (.exit 0))) (.seq (.block 1 (.ss [.mv 14 (.t 3),.mv 15 (.t 4),.mv 16 (.t 0),.mv 17 (.t 4),.elp 18 (.t 16) (.t 17) 2,.eld 19 18 0 [.int .i64 0,.int .i64 0],.call 20 wX jV [(.t 19)] [],.elp 21 (.t 14) (.t 15) 2,.els 21 0 3 0 (.t 20)])) (.ss [.mv 12 (.t 4),.bin 13 .add (.t 12) (.c (.int .i64 1)),.mv 4 (.t 13)])))))) (.seq (.ss [.mv 22 (.t 3),.mv 2 (.t 22)]) (.ret [2]))))
def vL:Cfg:={tt:=tt,sigs:=eF,mv:=true,bm:=[],eqt:=cV,keep:=[true,false,true,true,true,false,false,false,false,false,false,true,false,false,false,false,false,false,false,false,false,false,false],n:=23,pin:=[],fz:=[],al:=false }
theorem FJ:bC vL Tryz.f118 gW=some p_l_toFileS_X:=by kernel_rfl
theorem FK {W:Wld}{ins outs:List (List D)}(h:pwp (FunOk PP W) p_l_toFileS_X (aL outs) (envL ins)):FunOk PP W tJ gW ins outs:=aK (C:=vL) (aJ rfl) (aR rfl rfl) mixed Tryz.func118 (by kernel_rfl) (by kernel_rfl) FJ h

def p_l_toDep_X:PC:= .seq (.ss [.mv 1 (.t 0),.bld 2 [.int .i64 0,.int .i64 0] []]) (.seq (.ss [.bld 3 [.int .i64 0,.int .i64 0] []]) (.seq (.ss [.nop,.sub 5 1 0 1,.nop,.st 3 0 (.t 5)]) (.seq (.ss [.nop,.sub 8 1 1 1,.nop,.st 3 1 (.t 8)]) (.seq (.ss [.sub 10 3 0 2,.st 2 0 (.t 10)]) (.ret [2])))))
def Bm:Cfg:={tt:=tt,sigs:=eF,mv:=true,bm:=[],eqt:=cV,keep:=[true,true,true,true,false,false,false,false,false,false,false],n:=11,pin:=[],fz:=[],al:=false }
theorem Jw:bC Bm Tryz.f143 lS=some p_l_toDep_X:=by kernel_rfl
theorem Jx {W:Wld}{ins outs:List (List D)}(h:pwp (FunOk PP W) p_l_toDep_X (aL outs) (envL ins)):FunOk PP W AZ lS ins outs:=aK (C:=Bm) (aJ rfl) (aR rfl rfl) mixed Tryz.func143 (by kernel_rfl) (by kernel_rfl) Jw h

def p_l_toDepS_X:PC:= .seq (.ss [.mv 2 (.c (.sl []))]) (.seq (.ss [.mv 5 (.t 0),.len 6 (.t 5),.mk 7 [.int .i64 0,.int .i64 0] (.t 6) (.t 6),.mv 3 (.t 7)]) (.seq (.seq (.ss [.mv 4 (.c (.int .i64 0))]) (.block 0 (.loop (.seq (.seq (.ss [.mv 8 (.t 4),.mv 9 (.t 0),.len 10 (.t 9),.bin 11 .lss (.t 8) (.t 10)]) (.cond (.t 11) (.skip) (.exit 0))) (.seq (.block 1 (.ss [.mv 14 (.t 3),.mv 15 (.t 4),.mv 16 (.t 0),.mv 17 (.t 4),.elp 18 (.t 16) (.t 17) 2,.eld 19 18 0 [.int .i64 0,.int .i64 0],.call 20 AZ lS [(.t 19)] [],.elp 21 (.t 14) (.t 15) 2,.els 21 0 3 0 (.t 20)])) (.ss [.mv 12 (.t 4),.bin 13 .add (.t 12) (.c (.int .i64 1)),.mv 4 (.t 13)])))))) (.seq (.ss [.mv 22 (.t 3),.mv 2 (.t 22)]) (.ret [2]))))
def yX:Cfg:={tt:=tt,sigs:=eF,mv:=true,bm:=[],eqt:=cV,keep:=[true,false,true,true,true,false,false,false,false,false,false,true,false,false,false,false,false,false,false,false,false,false,false],n:=23,pin:=[],fz:=[],al:=false }
theorem Hh:bC yX Tryz.f119 jW=some p_l_toDepS_X:=by kernel_rfl
theorem Hi {W:Wld}{ins outs:List (List D)}(h:pwp (FunOk PP W) p_l_toDepS_X (aL outs) (envL ins)):FunOk PP W wS jW ins outs:=aK (C:=yX) (aJ rfl) (aR rfl rfl) mixed Tryz.func119 (by kernel_rfl) (by kernel_rfl) Hh h

def p_l_toPkg_X:PC:= .seq (.ss [.mv 1 (.t 0),.bld 2 [.int .i64 0,.int .i64 0,.sl [],.sl []] []]) (.seq (.ss [.bld 3 [.int .i64 0,.int .i64 0,.sl [],.sl []] []]) (.seq (.ss [.nop,.sub 5 1 0 1,.nop,.st 3 0 (.t 5)]) (.seq (.ss [.nop,.sub 8 1 1 1,.nop,.st 3 1 (.t 8)]) (.seq (.ss [.nop,.sub 11 1 2 1,.call 12 tJ gW [(.t 11)] [],.nop,.st 3 2 (.t 12)]) (.seq (.ss [.nop,.sub 15 1 3 1,.call 16 wS jW [(.t 15)] [],.nop,.st 3 3 (.t 16)]) (.seq (.ss [.sub 18 3 0 4,.st 2 0 (.t 18)]) (.ret [2])))))))
def Bn:Cfg:={tt:=tt,sigs:=eF,mv:=true,bm:=[],eqt:=cV,keep:=[true,true,true,true,false,false,false,false,false,false,false,false,false,false,false,false,false,false,false],n:=19,pin:=[],fz:=[],al:=false }
theorem Jy:bC Bn Tryz.f69 lT=some p_l_toPkg_X:=by kernel_rfl
theorem Jz {W:Wld}{ins outs:List (List D)}(h:pwp (FunOk PP W) p_l_toPkg_X (aL outs) (envL ins)):FunOk PP W AV lT ins outs:=aK (C:=Bn) (aJ rfl) (aR rfl rfl) mixed Tryz.func69 (by kernel_rfl) (by kernel_rfl) Jy h

def p_l_toPkgS_X:PC:= .seq (.ss [.mv 2 (.c (.sl []))]) (.seq (.ss [.mv 5 (.t 0),.len 6 (.t 5),.mk 7 [.int .i64 0,.int .i64 0,.sl [],.sl []] (.t 6) (.t 6),.mv 3 (.t 7)]) (.seq (.seq (.ss [.mv 4 (.c (.int .i64 0))]) (.block 0 (.loop (.seq (.seq (.ss [.mv 8 (.t 4),.mv 9 (.t 0),.len 10 (.t 9),.bin 11 .lss (.t 8) (.t 10)]) (.cond (.t 11) (.skip) (.exit 0))) (.seq (.block 1 (.ss [.mv 14 (.t 3),.mv 15 (.t 4),.mv 16 (.t 0),.mv 17 (.t 4),.elp 18 (.t 16) (.t 17) 4,.eld 19 18 0 [.int .i64 0,.int .i64 0,.sl [],.sl []],.call 20 AV lT [(.t 19)] [],.elp 21 (.t 14) (.t 15) 4,.els 21 0 3 0 (.t 20)])) (.ss [.mv 12 (.t 4),.bin 13 .add (.t 12) (.c (.int .i64 1)),.mv 4 (.t 13)])))))) (.seq (.ss [.mv 22 (.t 3),.mv 2 (.t 22)]) (.ret [2]))))
def yY:Cfg:={tt:=tt,sigs:=eF,mv:=true,bm:=[],eqt:=cV,keep:=[true,false,true,true,true,false,false,false,false,false,false,true,false,false,false,false,false,false,false,false,false,false,false],n:=23,pin:=[],fz:=[],al:=false }
theorem Hj:bC yY Tryz.f27 dS=some p_l_toPkgS_X:=by kernel_rfl
theorem Hk {W:Wld}{ins outs:List (List D)}(h:pwp (FunOk PP W) p_l_toPkgS_X (aL outs) (envL ins)):FunOk PP W kH dS ins outs:=aK (C:=yY) (aJ rfl) (aR rfl rfl) mixed Tryz.func27 (by kernel_rfl) (by kernel_rfl) Hj h

def p_l_markIntS_X:PC:= .seq (.ss [.mv 4 (.c (.int .i64 0))]) (.seq (.seq (.ss [.mv 5 (.c (.int .i64 0))]) (.block 0 (.loop (.seq (.seq (.ss [.mv 6 (.t 5),.mv 7 (.t 0),.len 8 (.t 7),.bin 9 .lss (.t 6) (.t 8)]) (.cond (.t 9) (.skip) (.exit 0))) (.seq (.block 1 (.seq (.ss [.mv 12 (.t 0),.mv 13 (.t 5),.mv 14 (.t 1),.elp 15 (.t 12) (.t 13) 1,.els 15 0 0 0 (.t 14)]) (.ss [.mv 16 (.t 1),.bin 17 .add (.t 16) (.c (.int .i64 1)),.mv 1 (.t 17)]))) (.ss [.mv 10 (.t 5),.bin 11 .add (.t 10) (.c (.int .i64 1)),.mv 5 (.t 11)])))))) (.seq (.ss [.mv 18 (.t 1),.mv 4 (.t 18)]) (.ret [4,0])))
def tQ:Cfg:={tt:=tt,sigs:=eF,mv:=true,bm:=[],eqt:=cV,keep:=[true,true,false,false,true,true,false,false,false,true,false,false,false,false,false,false,false,false,false],n:=19,pin:=[0],fz:=[],al:=false }
theorem EY:oY tQ Tryz.f124 fY=some p_l_markIntS_X:=by kernel_rfl
theorem EZ {W:Wld}{ins outs:List (List D)}(h:pwp (FunOk PP W) p_l_markIntS_X (aL outs) (envL ins)):FunOk PP W qY fY ins outs:=sL (C:=tQ) (aJ rfl) (aR rfl rfl) mixed Tryz.func124 (by kernel_rfl) EY h

def p_l_markRoot_X:PC:= .seq (.ss [.mv 2 (.t 0),.mv 4 (.c (.int .i64 0))]) (.seq (.ss [.nop,.sub 6 2 1 1,.mv 7 (.t 1),.ioc 8 qY fY (.t 6) (.t 7) 0 1 none,.mv 1 (.t 8)]) (.seq (.ss [.mv 9 (.t 1),.mv 4 (.t 9)]) (.ret [4,0])))
def tR:Cfg:={tt:=tt,sigs:=eF,mv:=true,bm:=[],eqt:=cV,keep:=[true,true,true,false,true,false,false,false,false,false],n:=10,pin:=[0],fz:=[],al:=true }
theorem Ea:oY tR Tryz.f73 fZ=some p_l_markRoot_X:=by kernel_rfl
theorem Eb {W:Wld}{ins outs:List (List D)}(h:pwp (FunOk PP W) p_l_markRoot_X (aL outs) (envL ins)):FunOk PP W qT fZ ins outs:=sL (C:=tR) (aJ rfl) (aR rfl rfl) mixed Tryz.func73 (by kernel_rfl) Ea h

def p_l_markFileS_X:PC:= .seq (.ss [.mv 4 (.c (.int .i64 0))]) (.seq (.seq (.ss [.mv 5 (.c (.int .i64 0))]) (.block 0 (.loop (.seq (.seq (.ss [.mv 6 (.t 5),.mv 7 (.t 0),.len 8 (.t 7),.bin 9 .lss (.t 6) (.t 8)]) (.cond (.t 9) (.skip) (.exit 0))) (.seq (.block 1 (.seq (.ss [.mv 12 (.t 0),.mv 13 (.t 5),.mv 14 (.t 1),.elp 15 (.t 12) (.t 13) 2,.mv 16 (.t 15),.els 16 0 0 0 (.t 14)]) (.seq (.ss [.mv 17 (.t 1),.bin 18 .add (.t 17) (.c (.int .i64 1)),.mv 1 (.t 18)]) (.seq (.ss [.mv 19 (.t 0),.mv 20 (.t 5),.mv 21 (.t 1),.elp 22 (.t 19) (.t 20) 2,.mv 23 (.t 22),.els 23 1 0 0 (.t 21)]) (.ss [.mv 24 (.t 1),.bin 25 .add (.t 24) (.c (.int .i64 1)),.mv 1 (.t 25)]))))) (.ss [.mv 10 (.t 5),.bin 11 .add (.t 10) (.c (.int .i64 1)),.mv 5 (.t 11)])))))) (.seq (.ss [.mv 26 (.t 1),.mv 4 (.t 26)]) (.ret [4,0])))
def rJ:Cfg:={tt:=tt,sigs:=eF,mv:=true,bm:=[],eqt:=cV,keep:=[true,true,false,false,true,true,false,false,false,true,false,false,false,false,false,false,false,false,false,false,false,false,false,false,false,false,false],n:=27,pin:=[0],fz:=[],al:=false }
theorem CL:oY rJ Tryz.f75 eV=some p_l_markFileS_X:=by kernel_rfl
theorem CM {W:Wld}{ins outs:List (List D)}(h:pwp (FunOk PP W) p_l_markFileS_X (aL outs) (envL ins)):FunOk PP W pB eV ins outs:=sL (C:=rJ) (aJ rfl) (aR rfl rfl) mixed Tryz.func75 (by kernel_rfl) CL h

def p_l_markDepS_X:PC:= .seq (.ss [.mv 4 (.c (.int .i64 0))]) (.seq (.seq (.ss [.mv 5 (.c (.int .i64 0))]) (.block 0 (.loop (.seq (.seq (.ss [.mv 6 (.t 5),.mv 7 (.t 0),.len 8 (.t 7),.bin 9 .lss (.t 6) (.t 8)]) (.cond (.t 9) (.skip) (.exit 0))) (.seq (.block 1 (.seq (.ss [.mv 12 (.t 0),.mv 13 (.t 5),.mv 14 (.t 1),.elp 15 (.t 12) (.t 13) 2,.mv 16 (.t 15),.els 16 0 0 0 (.t 14)]) (.seq (.ss [.mv 17 (.t 1),.bin 18 .add (.t 17) (.c (.int .i64 1)),.mv 1 (.t 18)]) (.seq (.ss [.mv 19 (.t 0),.mv 20 (.t 5),.mv 21 (.t 1),.elp 22 (.t 19) (.t 20) 2,.mv 23 (.t 22),.els 23 1 0 0 (.t 21)]) (.ss [.mv 24 (.t 1),.bin 25 .add (.t 24) (.c (.int .i64 1)),.mv 1 (.t 25)]))))) (.ss [.mv 10 (.t 5),.bin 11 .add (.t 10) (.c (.int .i64 1)),.mv 5 (.t 11)])))))) (.seq (.ss [.mv 26 (.t 1),.mv 4 (.t 26)]) (.ret [4,0])))
def tS:Cfg:={tt:=tt,sigs:=eF,mv:=true,bm:=[],eqt:=cV,keep:=[true,true,false,false,true,true,false,false,false,true,false,false,false,false,false,false,false,false,false,false,false,false,false,false,false,false,false],n:=27,pin:=[0],fz:=[],al:=false }
theorem Ec:oY tS Tryz.f76 gA=some p_l_markDepS_X:=by kernel_rfl
theorem Ed {W:Wld}{ins outs:List (List D)}(h:pwp (FunOk PP W) p_l_markDepS_X (aL outs) (envL ins)):FunOk PP W qU gA ins outs:=sL (C:=tS) (aJ rfl) (aR rfl rfl) mixed Tryz.func76 (by kernel_rfl) Ec h

def p_l_markPkgS_X:PC:= .seq (.ss [.mv 4 (.c (.int .i64 0))]) (.seq (.seq (.ss [.mv 5 (.c (.int .i64 0))]) (.block 0 (.loop (.seq (.seq (.ss [.mv 6 (.t 5),.mv 7 (.t 0),.len 8 (.t 7),.bin 9 .lss (.t 6) (.t 8)]) (.cond (.t 9) (.skip) (.exit 0))) (.seq (.block 1 (.seq (.ss [.mv 12 (.t 0),.mv 13 (.t 5),.mv 14 (.t 1),.elp 15 (.t 12) (.t 13) 4,.mv 16 (.t 15),.els 16 0 0 0 (.t 14)]) (.seq (.ss [.mv 17 (.t 1),.bin 18 .add (.t 17) (.c (.int .i64 1)),.mv 1 (.t 18)]) (.seq (.ss [.mv 19 (.t 0),.mv 20 (.t 5),.mv 21 (.t 1),.elp 22 (.t 19) (.t 20) 4,.mv 23 (.t 22),.els 23 1 0 0 (.t 21)]) (.seq (.ss [.mv 24 (.t 1),.bin 25 .add (.t 24) (.c (.int .i64 1)),.mv 1 (.t 25)]) (.seq (.ss [.mv 26 (.t 0),.mv 27 (.t 5),.elp 28 (.t 26) (.t 27) 4,.mv 29 (.t 28),.eld 30 29 2 [.sl []],.mv 31 (.t 1),.ioc 32 pB eV (.t 30) (.t 31) 0 0 (some (29,2)),.mv 1 (.t 32)]) (.ss [.mv 33 (.t 0),.mv 34 (.t 5),.elp 35 (.t 33) (.t 34) 4,.mv 36 (.t 35),.eld 37 36 3 [.sl []],.mv 38 (.t 1),.ioc 39 qU gA (.t 37) (.t 38) 0 0 (some (36,3)),.mv 1 (.t 39)]))))))) (.ss [.mv 10 (.t 5),.bin 11 .add (.t 10) (.c (.int .i64 1)),.mv 5 (.t 11)])))))) (.seq (.ss [.mv 40 (.t 1),.mv 4 (.t 40)]) (.ret [4,0])))
def tT:Cfg:={tt:=tt,sigs:=eF,mv:=true,bm:=[],eqt:=cV,keep:=[true,true,false,false,true,true,false,false,false,true,false,false,false,false,false,false,false,false,false,false,false,false,false,false,false,false,false,false,false,false,false,false,false,false,false,false,false,false,false,false,false],n:=41,pin:=[0],fz:=[],al:=false }
theorem Ee:oY tT Tryz.f31 eD=some p_l_markPkgS_X:=by kernel_rfl
theorem Ef {W:Wld}{ins outs:List (List D)}(h:pwp (FunOk PP W) p_l_markPkgS_X (aL outs) (envL ins)):FunOk PP W mM eD ins outs:=sL (C:=tT) (aJ rfl) (aR rfl rfl) mixed Tryz.func31 (by kernel_rfl) Ee h

def p_i_put_X:PC:= .seq (.ss [.mv 3 (.t 1),.mv 4 (.c (.sl [])),.mv 5 (.c (.bool false))]) (.seq (.ss [.mv 9 (.t 0),.sub 10 3 0 4,.call 11 dK bM [(.t 9),(.t 10),(.c (.fn 63 [] []))] [],.mv 8 (.t 11),.ext 12 8 0 1,.ext 13 8 1 1,.mv 6 (.t 12),.mv 7 (.t 13)]) (.seq (.seq (.ss [.mv 14 (.t 7)]) (.cond (.t 14) (.seq (.ss [.mv 15 (.t 0),.mv 4 (.t 15),.mv 5 (.c (.bool false))]) (.ret [4,5])) (.skip))) (.seq (.ss [.mv 16 (.t 0),.mv 17 (.t 6),.sub 18 3 0 4,.call 19 jR dD [(.t 18)] [],.lit 20 1 [.int .i64 0,.int .i64 0,.sl [],.sl []] [(0,(.t 19))],.call 21 rC fO [(.t 16),(.t 17),(.t 20)] [],.mv 4 (.t 21),.mv 5 (.c (.bool true))]) (.ret [4,5]))))
def GU:Cfg:={tt:=tt,sigs:=eF,mv:=true,bm:=[],eqt:=cV,keep:=[true,true,false,true,true,true,true,true,false,false,false,false,false,false,true,false,false,false,false,false,false,false],n:=22,pin:=[],fz:=[],al:=false }
theorem Ow:bC GU Tryz.f60 pV=some p_i_put_X:=by kernel_rfl
theorem Ox {W:Wld}{ins outs:List (List D)}(h:pwp (FunOk PP W) p_i_put_X (aL outs) (envL ins)):FunOk PP W HO pV ins outs:=aK (C:=GU) (aJ rfl) (aR rfl rfl) mixed Tryz.func60 (by kernel_rfl) (by kernel_rfl) Ow h

def p_i_copies_X:PC:= .seq (.ss [.mv 2 (.c (.sl []))]) (.seq (.ss [.mv 3 (.c (.sl []))]) (.seq (.seq (.ss [.mv 6 (.t 0),.len 7 (.t 6),.mv 8 (.c (.int .i64 0))]) (.block 0 (.loop (.seq (.ss [.bin 9 .lss (.t 8) (.t 7)]) (.seq (.cond (.t 9) (.skip) (.exit 0)) (.seq (.block 1 (.seq (.ss [.elp 10 (.t 6) (.t 8) 4,.eld 11 10 0 [.int .i64 0,.int .i64 0,.sl [],.sl []],.bld 5 [.int .i64 0,.int .i64 0,.sl [],.sl []] [],.st 5 0 (.t 11)]) (.ss [.mv 12 (.t 3),.sub 13 5 0 4,.call 14 jR dD [(.t 13)] [],.lit 15 1 [.int .i64 0,.int .i64 0,.sl [],.sl []] [(0,(.t 14))],.app 16 4 false (.t 12) (.t 15),.mv 3 (.t 16)]))) (.ss [.bin 17 .add (.t 8) (.c (.int .i64 1)),.mv 8 (.t 17)]))))))) (.seq (.ss [.mv 18 (.t 3),.mv 2 (.t 18)]) (.ret [2]))))
def yZ:Cfg:={tt:=tt,sigs:=eF,mv:=true,bm:=[],eqt:=cV,keep:=[true,false,true,true,false,true,true,true,true,true,false,false,false,false,false,false,false,false,false],n:=19,pin:=[],fz:=[],al:=false }
theorem Hl:bC yZ Tryz.f59 jX=some p_i_copies_X:=by kernel_rfl
theorem Hm {W:Wld}{ins outs:List (List D)}(h:pwp (FunOk PP W) p_i_copies_X (aL outs) (envL ins)):FunOk PP W wJ jX ins outs:=aK (C:=yZ) (aJ rfl) (aR rfl rfl) mixed Tryz.func59 (by kernel_rfl) (by kernel_rfl) Hl h

def p_i_Pkg_copied_X:PC:= .seq (.ss [.mv 1 (.t 0),.bld 2 [.int .i64 0,.int .i64 0,.sl [],.sl []] []]) (.seq (.ss [.nop,.sub 4 1 2 1,.call 5 rA fN [(.t 4)] [],.nop,.sub 7 1 3 1,.call 8 tF gO [(.t 7)] [],.nop,.st 1 2 (.t 5),.nop,.st 1 3 (.t 8)]) (.seq (.ss [.sub 11 1 0 4,.st 2 0 (.t 11)]) (.ret [2])))
def pW:Cfg:={tt:=tt,sigs:=eF,mv:=true,bm:=[],eqt:=cV,keep:=[true,true,true,false,false,false,false,false,false,false,false,false],n:=12,pin:=[],fz:=[],al:=false }
theorem Ad:bC pW Tryz.f44 dD=some p_i_Pkg_copied_X:=by kernel_rfl
theorem Ae {W:Wld}{ins outs:List (List D)}(h:pwp (FunOk PP W) p_i_Pkg_copied_X (aL outs) (envL ins)):FunOk PP W jR dD ins outs:=aK (C:=pW) (aJ rfl) (aR rfl rfl) mixed Tryz.func44 (by kernel_rfl) (by kernel_rfl) Ad h

def p_l_markTrust_X:PC:= .seq (.ss [.mv 2 (.t 0),.mv 4 (.c (.int .i64 0))]) (.seq (.ss [.nop,.sub 6 2 0 3,.mv 7 (.t 1),.ioc 8 qT fZ (.t 6) (.t 7) 0 0 none,.mv 1 (.t 8)]) (.seq (.ss [.nop,.sub 10 2 4 3,.mv 11 (.t 1),.ioc 12 pA eY (.t 10) (.t 11) 0 4 none,.mv 1 (.t 12)]) (.seq (.ss [.mv 13 (.t 1),.mv 4 (.t 13)]) (.ret [4,0]))))
def rK:Cfg:={tt:=tt,sigs:=eF,mv:=true,bm:=[],eqt:=cV,keep:=[true,true,true,false,true,false,false,false,false,false,false,false,false,false],n:=14,pin:=[0],fz:=[],al:=true }
theorem CN:oY rK Tryz.f30 eX=some p_l_markTrust_X:=by kernel_rfl
theorem CO {W:Wld}{ins outs:List (List D)}(h:pwp (FunOk PP W) p_l_markTrust_X (aL outs) (envL ins)):FunOk PP W oZ eX ins outs:=sL (C:=rK) (aJ rfl) (aR rfl rfl) mixed Tryz.func30 (by kernel_rfl) CN h

def p_l_markIndex_X:PC:= .seq (.ss [.mv 2 (.t 0),.mv 4 (.c (.int .i64 0))]) (.seq (.ss [.nop,.sub 6 2 2 1,.mv 7 (.t 1),.ioc 8 pD eZ (.t 6) (.t 7) 0 2 none,.mv 1 (.t 8)]) (.seq (.ss [.mv 9 (.t 1),.mv 4 (.t 9)]) (.ret [4,0])))
def rL:Cfg:={tt:=tt,sigs:=eF,mv:=true,bm:=[],eqt:=cV,keep:=[true,true,true,false,true,false,false,false,false,false],n:=10,pin:=[0],fz:=[],al:=true }
theorem CP:oY rL Tryz.f74 eY=some p_l_markIndex_X:=by kernel_rfl
theorem CQ {W:Wld}{ins outs:List (List D)}(h:pwp (FunOk PP W) p_l_markIndex_X (aL outs) (envL ins)):FunOk PP W pA eY ins outs:=sL (C:=rL) (aJ rfl) (aR rfl rfl) mixed Tryz.func74 (by kernel_rfl) CP h

def p_l_markMetaS_X:PC:= .seq (.ss [.mv 4 (.c (.int .i64 0))]) (.seq (.seq (.ss [.mv 5 (.c (.int .i64 0))]) (.block 0 (.loop (.seq (.seq (.ss [.mv 6 (.t 5),.mv 7 (.t 0),.len 8 (.t 7),.bin 9 .lss (.t 6) (.t 8)]) (.cond (.t 9) (.skip) (.exit 0))) (.seq (.block 1 (.seq (.ss [.mv 12 (.t 0),.mv 13 (.t 5),.mv 14 (.t 1),.elp 15 (.t 12) (.t 13) 3,.mv 16 (.t 15),.els 16 0 0 0 (.t 14)]) (.seq (.ss [.mv 17 (.t 1),.bin 18 .add (.t 17) (.c (.int .i64 1)),.mv 1 (.t 18)]) (.seq (.ss [.mv 19 (.t 0),.mv 20 (.t 5),.mv 21 (.t 1),.elp 22 (.t 19) (.t 20) 3,.mv 23 (.t 22),.els 23 1 0 0 (.t 21)]) (.seq (.ss [.mv 24 (.t 1),.bin 25 .add (.t 24) (.c (.int .i64 1)),.mv 1 (.t 25)]) (.seq (.ss [.mv 26 (.t 0),.mv 27 (.t 5),.mv 28 (.t 1),.elp 29 (.t 26) (.t 27) 3,.mv 30 (.t 29),.els 30 2 0 0 (.t 28)]) (.ss [.mv 31 (.t 1),.bin 32 .add (.t 31) (.c (.int .i64 1)),.mv 1 (.t 32)]))))))) (.ss [.mv 10 (.t 5),.bin 11 .add (.t 10) (.c (.int .i64 1)),.mv 5 (.t 11)])))))) (.seq (.ss [.mv 33 (.t 1),.mv 4 (.t 33)]) (.ret [4,0])))
def rM:Cfg:={tt:=tt,sigs:=eF,mv:=true,bm:=[],eqt:=cV,keep:=[true,true,false,false,true,true,false,false,false,true,false,false,false,false,false,false,false,false,false,false,false,false,false,false,false,false,false,false,false,false,false,false,false,false],n:=34,pin:=[0],fz:=[],al:=false }
theorem CR:oY rM Tryz.f125 eZ=some p_l_markMetaS_X:=by kernel_rfl
theorem CT {W:Wld}{ins outs:List (List D)}(h:pwp (FunOk PP W) p_l_markMetaS_X (aL outs) (envL ins)):FunOk PP W pD eZ ins outs:=sL (C:=rM) (aJ rfl) (aR rfl rfl) mixed Tryz.func125 (by kernel_rfl) CR h

def p_l_toMeta_X:PC:= .seq (.ss [.mv 1 (.t 0),.bld 2 [.int .i64 0,.int .i64 0,.int .i64 0] []]) (.seq (.ss [.bld 3 [.int .i64 0,.int .i64 0,.int .i64 0] []]) (.seq (.ss [.nop,.sub 5 1 0 1,.nop,.st 3 0 (.t 5)]) (.seq (.ss [.nop,.sub 8 1 1 1,.nop,.st 3 1 (.t 8)]) (.seq (.ss [.nop,.sub 11 1 2 1,.nop,.st 3 2 (.t 11)]) (.seq (.ss [.sub 13 3 0 3,.st 2 0 (.t 13)]) (.ret [2]))))))
def zC:Cfg:={tt:=tt,sigs:=eF,mv:=true,bm:=[],eqt:=cV,keep:=[true,true,true,true,false,false,false,false,false,false,false,false,false,false],n:=14,pin:=[],fz:=[],al:=false }
theorem Hn:bC zC Tryz.f141 jY=some p_l_toMeta_X:=by kernel_rfl
theorem Ho {W:Wld}{ins outs:List (List D)}(h:pwp (FunOk PP W) p_l_toMeta_X (aL outs) (envL ins)):FunOk PP W wW jY ins outs:=aK (C:=zC) (aJ rfl) (aR rfl rfl) mixed Tryz.func141 (by kernel_rfl) (by kernel_rfl) Hn h

def p_l_toMetaS_X:PC:= .seq (.ss [.mv 2 (.c (.sl []))]) (.seq (.ss [.mv 5 (.t 0),.len 6 (.t 5),.mk 7 [.int .i64 0,.int .i64 0,.int .i64 0] (.t 6) (.t 6),.mv 3 (.t 7)]) (.seq (.seq (.ss [.mv 4 (.c (.int .i64 0))]) (.block 0 (.loop (.seq (.seq (.ss [.mv 8 (.t 4),.mv 9 (.t 0),.len 10 (.t 9),.bin 11 .lss (.t 8) (.t 10)]) (.cond (.t 11) (.skip) (.exit 0))) (.seq (.block 1 (.ss [.mv 14 (.t 3),.mv 15 (.t 4),.mv 16 (.t 0),.mv 17 (.t 4),.elp 18 (.t 16) (.t 17) 3,.eld 19 18 0 [.int .i64 0,.int .i64 0,.int .i64 0],.call 20 wW jY [(.t 19)] [],.elp 21 (.t 14) (.t 15) 3,.els 21 0 3 0 (.t 20)])) (.ss [.mv 12 (.t 4),.bin 13 .add (.t 12) (.c (.int .i64 1)),.mv 4 (.t 13)])))))) (.seq (.ss [.mv 22 (.t 3),.mv 2 (.t 22)]) (.ret [2]))))
def vM:Cfg:={tt:=tt,sigs:=eF,mv:=true,bm:=[],eqt:=cV,keep:=[true,false,true,true,true,false,false,false,false,false,false,true,false,false,false,false,false,false,false,false,false,false,false],n:=23,pin:=[],fz:=[],al:=false }
theorem FL:bC vM Tryz.f117 gX=some p_l_toMetaS_X:=by kernel_rfl
theorem FM {W:Wld}{ins outs:List (List D)}(h:pwp (FunOk PP W) p_l_toMetaS_X (aL outs) (envL ins)):FunOk PP W tI gX ins outs:=aK (C:=vM) (aJ rfl) (aR rfl rfl) mixed Tryz.func117 (by kernel_rfl) (by kernel_rfl) FL h

def p_l_toIndex_X:PC:= .seq (.ss [.mv 1 (.t 0),.bld 2 [.int .i64 0,.int .i64 0,.sl []] []]) (.seq (.ss [.bld 3 [.int .i64 0,.int .i64 0,.sl []] []]) (.seq (.ss [.nop,.sub 5 1 0 1,.nop,.st 3 0 (.t 5)]) (.seq (.ss [.nop,.sub 8 1 1 1,.nop,.st 3 1 (.t 8)]) (.seq (.ss [.nop,.sub 11 1 2 1,.call 12 tI gX [(.t 11)] [],.nop,.st 3 2 (.t 12)]) (.seq (.ss [.sub 14 3 0 3,.st 2 0 (.t 14)]) (.ret [2]))))))
def vN:Cfg:={tt:=tt,sigs:=eF,mv:=true,bm:=[],eqt:=cV,keep:=[true,true,true,true,false,false,false,false,false,false,false,false,false,false,false],n:=15,pin:=[],fz:=[],al:=false }
theorem FN:bC vN Tryz.f68 gY=some p_l_toIndex_X:=by kernel_rfl
theorem FO {W:Wld}{ins outs:List (List D)}(h:pwp (FunOk PP W) p_l_toIndex_X (aL outs) (envL ins)):FunOk PP W tC gY ins outs:=aK (C:=vN) (aJ rfl) (aR rfl rfl) mixed Tryz.func68 (by kernel_rfl) (by kernel_rfl) FN h

def p_l_toTrust_X:PC:= .seq (.ss [.mv 1 (.t 0),.bld 2 [.int .i64 0,.sl [],.int .i64 0,.bool false,.int .i64 0,.int .i64 0,.sl []] []]) (.seq (.ss [.bld 3 [.int .i64 0,.sl [],.int .i64 0,.bool false,.int .i64 0,.int .i64 0,.sl []] []]) (.seq (.ss [.nop,.sub 5 1 0 3,.call 6 wM jU [(.t 5)] [],.nop,.st 3 0 (.t 6)]) (.seq (.ss [.nop,.sub 9 1 3 1,.nop,.st 3 3 (.t 9)]) (.seq (.ss [.nop,.sub 12 1 4 3,.call 13 tC gY [(.t 12)] [],.nop,.st 3 4 (.t 13)]) (.seq (.ss [.sub 15 3 0 7,.st 2 0 (.t 15)]) (.ret [2]))))))
def vO:Cfg:={tt:=tt,sigs:=eF,mv:=true,bm:=[],eqt:=cV,keep:=[true,true,true,true,false,false,false,false,false,false,false,false,false,false,false,false],n:=16,pin:=[],fz:=[],al:=false }
theorem FP:bC vO Tryz.f26 dA=some p_l_toTrust_X:=by kernel_rfl
theorem FQ {W:Wld}{ins outs:List (List D)}(h:pwp (FunOk PP W) p_l_toTrust_X (aL outs) (envL ins)):FunOk PP W iO dA ins outs:=aK (C:=vO) (aJ rfl) (aR rfl rfl) mixed Tryz.func26 (by kernel_rfl) (by kernel_rfl) FP h

def p_i_StoreAdd_X:PC:= .seq (.ss [.mv 3 (.t 0),.mv 6 (.c (.sl [])),.mv 7 (.c (.bool false))]) (.seq (.seq (.ss [.sub 11 3 0 7,.call 12 sX iX [(.t 11)] [],.un 13 .not (.t 12),.mv 14 (.t 13),.g 14 false 15 (.mv 15 (.t 1)),.g 14 false 16 (.call 16 sR iT [(.t 15)] []),.g 14 false 17 (.un 17 .not (.t 16)),.pick 18 (.t 14) (.c (.bool true)) (.t 17)]) (.cond (.t 18) (.seq (.ss [.mv 6 (.c (.sl [])),.mv 7 (.c (.bool false))]) (.ret [6,7])) (.skip))) (.seq (.ss [.mv 19 (.t 1),.call 20 wJ jX [(.t 19)] [],.mv 8 (.t 20)]) (.seq (.ss [.nop,.sub 23 3 4 3,.mv 24 (.t 2),.call 25 jQ dR [(.t 23),(.t 24)] [],.mv 21 (.t 25),.ext 26 21 0 4,.ext 27 21 4 1,.bld 9 [.int .i64 0,.int .i64 0,.sl [],.sl []] [],.st 9 0 (.t 26),.mv 10 (.t 27)]) (.seq (.seq (.ss [.nop,.sub 29 3 3 1,.un 30 .not (.t 29),.mv 31 (.t 30),.g 31 false 32 (.mv 32 (.t 10)),.g 31 false 33 (.un 33 .not (.t 32)),.pick 34 (.t 31) (.c (.bool true)) (.t 33)]) (.cond (.t 34) (.seq (.ss [.mv 35 (.t 8),.mv 6 (.t 35),.mv 7 (.c (.bool false))]) (.ret [6,7])) (.skip))) (.seq (.ss [.mv 36 (.t 8),.sub 37 9 0 4,.call 38 HO pV [(.t 36),(.t 37)] [],.ext 39 38 0 1,.ext 40 38 1 1,.mv 6 (.t 39),.mv 7 (.t 40)]) (.ret [6,7]))))))
def tU:Cfg:={tt:=tt,sigs:=eF,mv:=true,bm:=[],eqt:=cV,keep:=[true,true,true,true,false,false,true,true,true,true,true,false,false,false,false,false,false,false,true,false,false,false,false,false,false,false,false,false,false,false,false,false,false,false,true,false,false,false,false,false,false],n:=41,pin:=[],fz:=[],al:=false }
theorem Eg:bC tU Tryz.f20 eE=some p_i_StoreAdd_X:=by kernel_rfl
theorem Eh {W:Wld}{ins outs:List (List D)}(h:pwp (FunOk PP W) p_i_StoreAdd_X (aL outs) (envL ins)):FunOk PP W mL eE ins outs:=aK (C:=tU) (aJ rfl) (aR rfl rfl) mixed Tryz.func20 (by kernel_rfl) (by kernel_rfl) Eg h

def p_l_FnExactStoreAdd_X:PC:= .seq (.ss [.mv 3 (.t 0),.mv 6 (.c (.bool false))]) (.seq (.seq (.ss [.mv 19 (.t 2),.slen 20 (.t 19),.bin 21 .gtr (.t 20) (.c (.int .i64 1048576))]) (.cond (.t 21) (.seq (.ss [.mv 6 (.c (.bool true))]) (.ret [6])) (.skip))) (.seq (.ss [.mv 7 (.c (.int .i64 1048576))]) (.seq (.ss [.sub 22 3 0 7,.mv 23 (.t 7),.call 24 sS iU [(.t 22),(.t 23)] [],.mv 7 (.t 24)]) (.seq (.seq (.ss [.mv 25 (.t 7),.bin 26 .lss (.t 25) (.c (.int .i64 0))]) (.cond (.t 26) (.seq (.ss [.mv 6 (.c (.bool true))]) (.ret [6])) (.skip))) (.seq (.ss [.mv 27 (.t 1),.mv 28 (.t 7),.call 29 wD kL [(.t 27),(.t 28)] [],.mv 7 (.t 29)]) (.seq (.seq (.ss [.mv 30 (.t 7),.bin 31 .lss (.t 30) (.c (.int .i64 0))]) (.cond (.t 31) (.seq (.ss [.mv 6 (.c (.bool true))]) (.ret [6])) (.skip))) (.seq (.ss [.sub 33 3 0 7,.call 34 iO dA [(.t 33)] [],.mv 35 (.t 1),.call 36 kH dS [(.t 35)] [],.mv 37 (.t 2),.call 38 qR gL [(.t 34),(.t 36),(.t 37)] [],.mv 32 (.t 38),.ext 39 32 0 1,.ext 40 32 1 1,.mv 8 (.t 39),.mv 9 (.t 40)]) (.seq (.ss [.sub 41 3 0 7,.call 42 iO dA [(.t 41)] [],.bld 10 [.int .i64 0,.sl [],.int .i64 0,.bool false,.int .i64 0,.int .i64 0,.sl []] [],.st 10 0 (.t 42)]) (.seq (.ss [.mv 43 (.t 1),.call 44 kH dS [(.t 43)] [],.mv 11 (.t 44)]) (.seq (.ss [.sub 46 10 0 7,.mv 47 (.t 11),.mv 48 (.t 2),.call 49 mL eE [(.t 46),(.t 47),(.t 48)] [],.mv 45 (.t 49),.ext 50 45 0 1,.ext 51 45 1 1,.mv 12 (.t 50),.mv 13 (.t 51)]) (.seq (.seq (.ss [.mv 52 (.t 12),.mv 53 (.t 8),.call 54 iB dY [(.t 52),(.t 53)] [],.un 55 .not (.t 54),.mv 56 (.t 55),.g 56 false 57 (.mv 57 (.t 13)),.g 56 false 58 (.mv 58 (.t 9)),.g 56 false 59 (.beq 59 true (.t 57) (.t 58)),.pick 60 (.t 56) (.c (.bool true)) (.t 59)]) (.cond (.t 60) (.seq (.ss [.mv 6 (.c (.bool false))]) (.ret [6])) (.skip))) (.seq (.seq (.ss [.sub 61 10 0 7,.sub 62 3 0 7,.call 63 iO dA [(.t 62)] [],.call 64 sU iV [(.t 61),(.t 63)] [],.un 65 .not (.t 64)]) (.cond (.t 65) (.seq (.ss [.mv 6 (.c (.bool false))]) (.ret [6])) (.skip))) (.seq (.seq (.ss [.mv 66 (.t 11),.mv 67 (.t 1),.call 68 kH dS [(.t 67)] [],.call 69 iB dY [(.t 66),(.t 68)] [],.un 70 .not (.t 69)]) (.cond (.t 70) (.seq (.ss [.mv 6 (.c (.bool false))]) (.ret [6])) (.skip))) (.seq (.ss [.mv 14 (.c (.int .i64 1))]) (.seq (.ss [.sub 71 10 0 7,.mv 72 (.t 14),.ioc 73 oZ eX (.t 71) (.t 72) 10 0 none,.mv 14 (.t 73)]) (.seq (.ss [.mv 74 (.t 11),.mv 75 (.t 14),.ioc 76 mM eD (.t 74) (.t 75) 11 0 none,.mv 14 (.t 76)]) (.seq (.seq (.ss [.mv 77 (.t 14),.bin 78 .lss (.t 77) (.c (.int .i64 0)),.mv 79 (.t 78),.g 79 false 80 (.mv 80 (.t 12)),.g 79 false 81 (.mv 81 (.t 8)),.g 79 false 82 (.call 82 iB dY [(.t 80),(.t 81)] []),.g 79 false 83 (.un 83 .not (.t 82)),.pick 84 (.t 79) (.c (.bool true)) (.t 83),.mv 85 (.t 84),.g 85 false 86 (.mv 86 (.t 13)),.g 85 false 87 (.mv 87 (.t 9)),.g 85 false 88 (.beq 88 true (.t 86) (.t 87)),.pick 89 (.t 85) (.c (.bool true)) (.t 88)]) (.cond (.t 89) (.seq (.ss [.mv 6 (.c (.bool false))]) (.ret [6])) (.skip))) (.seq (.ss [.mv 15 (.c (.int .i64 1))]) (.seq (.ss [.mv 90 (.t 12),.mv 91 (.t 15),.ioc 92 mM eD (.t 90) (.t 91) 12 0 none,.mv 15 (.t 92)]) (.seq (.ss [.mv 16 (.c (.int .i64 1))]) (.seq (.ss [.mv 93 (.t 12),.mv 94 (.t 16),.call 95 mN eO [(.t 93),(.t 94)] [],.mv 16 (.t 95)]) (.seq (.seq (.ss [.mv 96 (.t 16),.bin 97 .lss (.t 96) (.c (.int .i64 0))]) (.cond (.t 97) (.seq (.ss [.mv 6 (.c (.bool false))]) (.ret [6])) (.skip))) (.seq (.seq (.ss [.mv 98 (.t 16),.mv 99 (.t 15),.bin 100 .neq (.t 98) (.t 99)]) (.cond (.t 100) (.seq (.ss [.mv 6 (.c (.bool false))]) (.ret [6])) (.skip))) (.seq (.ss [.sub 102 3 0 7,.call 103 iO dA [(.t 102)] [],.mv 104 (.t 1),.call 105 kH dS [(.t 104)] [],.mv 106 (.t 2),.call 107 mL eE [(.t 103),(.t 105),(.t 106)] [],.mv 101 (.t 107),.ext 108 101 0 1,.ext 109 101 1 1,.mv 17 (.t 108),.mv 18 (.t 109)]) (.seq (.seq (.ss [.mv 110 (.t 17),.mv 111 (.t 8),.call 112 iB dY [(.t 110),(.t 111)] [],.un 113 .not (.t 112),.mv 114 (.t 113),.g 114 false 115 (.mv 115 (.t 18)),.g 114 false 116 (.mv 116 (.t 9)),.g 114 false 117 (.beq 117 true (.t 115) (.t 116)),.pick 118 (.t 114) (.c (.bool true)) (.t 117)]) (.cond (.t 118) (.seq (.ss [.mv 6 (.c (.bool false))]) (.ret [6])) (.skip))) (.seq (.ss [.mv 16 (.c (.int .i64 1))]) (.seq (.ss [.mv 119 (.t 12),.mv 120 (.t 16),.call 121 mN eO [(.t 119),(.t 120)] [],.mv 16 (.t 121)]) (.seq (.seq (.ss [.mv 122 (.t 16),.bin 123 .lss (.t 122) (.c (.int .i64 0))]) (.cond (.t 123) (.seq (.ss [.mv 6 (.c (.bool false))]) (.ret [6])) (.skip))) (.seq (.seq (.ss [.mv 124 (.t 16),.mv 125 (.t 15),.bin 126 .neq (.t 124) (.t 125)]) (.cond (.t 126) (.seq (.ss [.mv 6 (.c (.bool false))]) (.ret [6])) (.skip))) (.seq (.ss [.mv 6 (.c (.bool true))]) (.ret [6])))))))))))))))))))))))))))))))
def kD:Cfg:={tt:=tt,sigs:=eF,mv:=true,bm:=[],eqt:=cV,keep:=[true,true,true,true,false,false,true,true,true,true,true,true,true,true,true,true,true,true,true,false,false,true,false,false,false,false,true,false,false,false,false,true,false,false,false,false,false,false,false,false,false,false,false,false,false,false,false,false,false,false,false,false,false,false,false,false,false,false,false,false,true,false,false,false,false,true,false,false,false,false,true,false,false,false,false,false,false,false,false,false,false,false,false,false,false,false,false,false,false,true,false,false,false,false,false,false,false,true,false,false,true,false,false,false,false,false,false,false,false,false,false,false,false,false,false,false,false,false,true,false,false,false,false,true,false,false,true],n:=127,pin:=[],fz:=[],al:=false }
theorem rS:bC kD Tryz.f8 fJ=some p_l_FnExactStoreAdd_X:=by kernel_rfl
theorem rT {W:Wld}{ins outs:List (List D)}(h:pwp (FunOk PP W) p_l_FnExactStoreAdd_X (aL outs) (envL ins)):FunOk PP W n_l_FnExactStoreAdd fJ ins outs:=aK (C:=kD) (aJ rfl) (aR rfl rfl) mixed Tryz.func8 (by kernel_rfl) (by kernel_rfl) rS h

end
section
open Classical
variable {W:Wld}

theorem qZ (n lo hi:Int):FunOk PP W cU bY [i64 n,i64 lo,i64 hi] [bo (decide (lo≤n∧n≤hi))]:=by
 refine Rf (lW ?_)
 (repeat' first
  | (refine hM (fun h=>?_) (fun h=>?_)<;>(try simp (disch:=omega) only [zB,eqDs,aZ,Nat.reduceAdd,aA] at h)<;>(try (exfalso;omega)))
  | (refine Need.mk (by (try simp (disch:=omega) only [zB,eqDs,aZ,Nat.reduceAdd,aA]);first | exact oJ (by omega) (by omega) (fun _=>rfl) | exact oK (by omega) (by omega) (fun _=>rfl) | exact pR (by omega) (by omega) (by omega) rfl | exact pS (by omega) (fun _=>rfl) | exact dB (by omega) (fun _=>rfl) (fun _=>rfl) | exact dC (by omega) (fun _=>rfl) rfl rfl | exact gI (by omega) (fun _=>rfl) (fun _=>rfl)) ?_)
  | (refine Need.mk ?_ ?_)
  | refine rb ?_
  | refine ri ?_
  | refine bI ?_ ?_
  | refine bL ?_)
 ·simp_all
 ·exact fD (by omega)

theorem GV (n lo hi:Int):FunOk PP W lY iE [i64 n,i64 lo,i64 hi] [bo (decide (lo≤n∧n≤hi))]:=by
 refine WN (lW ?_)
 (repeat' first
  | (refine hM (fun h=>?_) (fun h=>?_)<;>(try simp (disch:=omega) only [zB,eqDs,aZ,Nat.reduceAdd,aA] at h)<;>(try (exfalso;omega)))
  | (refine Need.mk (by (try simp (disch:=omega) only [zB,eqDs,aZ,Nat.reduceAdd,aA]);first | exact oJ (by omega) (by omega) (fun _=>rfl) | exact oK (by omega) (by omega) (fun _=>rfl) | exact pR (by omega) (by omega) (by omega) rfl | exact pS (by omega) (fun _=>rfl) | exact dB (by omega) (fun _=>rfl) (fun _=>rfl) | exact dC (by omega) (fun _=>rfl) rfl rfl | exact gI (by omega) (fun _=>rfl) (fun _=>rfl)) ?_)
  | (refine Need.mk ?_ ?_)
  | refine rb ?_
  | refine ri ?_
  | refine bI ?_ ?_
  | refine bL ?_)
 ·simp_all
 ·exact fD (by omega)

theorem Af (n:Int):FunOk PP W nN fV [i64 n] [bo (decide (1≤n∧n≤4))]:=by
 refine Ln (lW ?_)
 (repeat' first
  | (refine hM (fun h=>?_) (fun h=>?_)<;>(try simp (disch:=omega) only [zB,eqDs,aZ,Nat.reduceAdd,aA] at h)<;>(try (exfalso;omega)))
  | (refine Need.mk (by (try simp (disch:=omega) only [zB,eqDs,aZ,Nat.reduceAdd,aA]);first | exact oJ (by omega) (by omega) (fun _=>rfl) | exact oK (by omega) (by omega) (fun _=>rfl) | exact pR (by omega) (by omega) (by omega) rfl | exact pS (by omega) (fun _=>rfl) | exact dB (by omega) (fun _=>rfl) (fun _=>rfl) | exact dC (by omega) (fun _=>rfl) rfl rfl | exact gI (by omega) (fun _=>rfl) (fun _=>rfl)) ?_)
  | (refine oI (GV ..) rfl ?_)
  | (refine Need.mk ?_ ?_)
  | refine rb ?_
  | refine ri ?_
  | refine bI ?_ ?_
  | refine bL ?_)
 rfl
theorem Ei (n:Int):FunOk PP W pU jC [i64 n] [bo (decide (1≤n∧n≤5))]:=by
 refine Om (lW ?_)
 (repeat' first
  | (refine hM (fun h=>?_) (fun h=>?_)<;>(try simp (disch:=omega) only [zB,eqDs,aZ,Nat.reduceAdd,aA] at h)<;>(try (exfalso;omega)))
  | (refine Need.mk (by (try simp (disch:=omega) only [zB,eqDs,aZ,Nat.reduceAdd,aA]);first | exact oJ (by omega) (by omega) (fun _=>rfl) | exact oK (by omega) (by omega) (fun _=>rfl) | exact pR (by omega) (by omega) (by omega) rfl | exact pS (by omega) (fun _=>rfl) | exact dB (by omega) (fun _=>rfl) (fun _=>rfl) | exact dC (by omega) (fun _=>rfl) rfl rfl | exact gI (by omega) (fun _=>rfl) (fun _=>rfl)) ?_)
  | (refine oI (GV ..) rfl ?_)
  | (refine Need.mk ?_ ?_)
  | refine rb ?_
  | refine ri ?_
  | refine bI ?_ ?_
  | refine bL ?_)
 rfl

def lD (fs:List P2)(i:Int):Prop:=(0≤(ix fs i).a∧(ix fs i).a≤5)∧(0≤(ix fs i).b∧(ix fs i).b≤9)∧(0<i→(ix fs (i - 1)).a<(ix fs i).a)
def zD (fs:List P2):Prop:=mF fs.length (lD fs)∧(fs.length:Int)≤2
def nP (name:Int)(fs:List P2)(i:Int):Prop:=(1≤(ix fs i).a∧(ix fs i).a≤4)∧(ix fs i).a≠name∧(1≤(ix fs i).b∧(ix fs i).b≤5)∧(0<i→(ix fs (i - 1)).a<(ix fs i).a)
def Hp (name:Int)(fs:List P2):Prop:=mF fs.length (nP name fs)∧(fs.length:Int)≤2
def PkOk (p:Pk):Prop:=(1≤p.name∧p.name≤4)∧(1≤p.ver∧p.ver≤5)∧zD p.files∧Hp p.name p.deps
def SmP (p:Pk):Prop:=p.files.length≤lim∧p.deps.length≤lim

theorem MG (fs:List P2)(hl:fs.length≤lim):FunOk PP W tL jG [eT fs] [bo (decide (zD fs))]:=by
 refine Jv (lW ?_)
 unfold lim at hl
 refine Cg (fun i:Int=>0≤i∧i≤fs.length∧mF i (lD fs)) (fun i=>[(3,i64 i),(0,eT fs)]) (fun i=>(fs.length - i).toNat) 0 ⟨by omega,by omega,bE _⟩ ⟨rfl,rfl,trivial⟩ ?_
 rintro i e ⟨h0,hN,hP⟩
 (repeat' first
  | (refine hM (fun h=>?_) (fun h=>?_)<;>(try simp (disch:=omega) only [zB,eqDs,aZ,Nat.reduceAdd,aA] at h)<;>(try (exfalso;omega)))
  | (refine Need.mk (by (try simp (disch:=omega) only [zB,eqDs,aZ,Nat.reduceAdd,aA]);first | exact oJ (by omega) (by omega) (fun _=>rfl) | exact oK (by omega) (by omega) (fun _=>rfl) | exact pR (by omega) (by omega) (by omega) rfl | exact pS (by omega) (fun _=>rfl) | exact dB (by omega) (fun _=>rfl) (fun _=>rfl) | exact dC (by omega) (fun _=>rfl) rfl rfl | exact gI (by omega) (fun _=>rfl) (fun _=>rfl)) ?_)
  | (refine oI (qZ ..) rfl ?_)
  | (refine Exists.intro (i+1) ⟨by omega,⟨by omega,by omega,cF hP ?_⟩,aO (aA _ (by omega)),rfl,trivial⟩)
  | (refine Need.mk ?_ ?_)
  | refine rb ?_
  | refine ri ?_
  | refine bI ?_ ?_
  | refine bL ?_)
 ·exact fD (fun ⟨h,_⟩=>by have:=h i (by omega) (by omega);unfold lD at this;omega)
 ·exact fD (fun ⟨h,_⟩=>by have:=h i (by omega) (by omega);unfold lD at this;omega)
 ·exact fD (fun ⟨h,_⟩=>by have:=h i (by omega) (by omega);unfold lD at this;omega)
 ·unfold lD;omega
 ·unfold lD;omega
 ·simp only [List.length_map]
  congr 1
  simp only [zD,eq_iff_iff]
  exact ⟨fun h1=>⟨dF hP (by omega),h1⟩,fun h=>h.2⟩

theorem Oy (name:Int)(fs:List P2)(hl:fs.length≤lim):FunOk PP W wV lA [i64 name,eT fs] [bo (decide (Hp name fs))]:=by
 refine MB (lW ?_)
 unfold lim at hl
 refine Cg (fun i:Int=>0≤i∧i≤fs.length∧mF i (nP name fs)) (fun i=>[(5,i64 i),(1,eT fs),(0,i64 name)]) (fun i=>(fs.length - i).toNat) 0 ⟨by omega,by omega,bE _⟩ ⟨rfl,rfl,rfl,trivial⟩ ?_
 rintro i e ⟨h0,hN,hP⟩
 (repeat' first
  | (refine hM (fun h=>?_) (fun h=>?_)<;>(try simp (disch:=omega) only [zB,eqDs,aZ,Nat.reduceAdd,aA] at h)<;>(try (exfalso;omega)))
  | (refine Need.mk (by (try simp (disch:=omega) only [zB,eqDs,aZ,Nat.reduceAdd,aA]);first | exact oJ (by omega) (by omega) (fun _=>rfl) | exact oK (by omega) (by omega) (fun _=>rfl) | exact pR (by omega) (by omega) (by omega) rfl | exact pS (by omega) (fun _=>rfl) | exact dB (by omega) (fun _=>rfl) (fun _=>rfl) | exact dC (by omega) (fun _=>rfl) rfl rfl | exact gI (by omega) (fun _=>rfl) (fun _=>rfl)) ?_)
  | (refine oI (qZ ..) rfl ?_)
  | (refine Exists.intro (i+1) ⟨by omega,⟨by omega,by omega,cF hP ?_⟩,aO (aA _ (by omega)),rfl,rfl,trivial⟩)
  | (refine Need.mk ?_ ?_)
  | refine rb ?_
  | refine ri ?_
  | refine bI ?_ ?_
  | refine bL ?_)
 ·exact fD (fun ⟨h,_⟩=>by have:=h i (by omega) (by omega);unfold nP at this;omega)
 ·exact fD (fun ⟨h,_⟩=>by have:=h i (by omega) (by omega);unfold nP at this;omega)
 ·exact fD (fun ⟨h,_⟩=>by have:=h i (by omega) (by omega);unfold nP at this;omega)
 ·exact fD (fun ⟨h,_⟩=>by have:=h i (by omega) (by omega);unfold nP at this;omega)
 ·unfold nP;omega
 ·unfold nP;omega
 ·simp only [List.length_map]
  congr 1
  simp only [Hp,eq_iff_iff]
  exact ⟨fun h1=>⟨dF hP (by omega),h1⟩,fun h=>h.2⟩

theorem GW (p:Pk)(hs:SmP p):FunOk PP W uI kT [ePk p] [bo (decide (PkOk p))]:=by
 refine Oi (lW ?_)
 (repeat' first
  | (refine hM (fun h=>?_) (fun h=>?_)<;>(try simp (disch:=omega) only [zB,eqDs,aZ,Nat.reduceAdd,aA] at h)<;>(try (exfalso;omega)))
  | (refine Need.mk (by (try simp (disch:=omega) only [zB,eqDs,aZ,Nat.reduceAdd,aA]);first | exact oJ (by omega) (by omega) (fun _=>rfl) | exact oK (by omega) (by omega) (fun _=>rfl) | exact pR (by omega) (by omega) (by omega) rfl | exact pS (by omega) (fun _=>rfl) | exact dB (by omega) (fun _=>rfl) (fun _=>rfl) | exact dC (by omega) (fun _=>rfl) rfl rfl | exact gI (by omega) (fun _=>rfl) (fun _=>rfl)) ?_)
  | (refine oI (qZ ..) rfl ?_)
  | (refine oI (MG p.files hs.1) rfl ?_)
  | (refine oI (Oy p.name p.deps hs.2) rfl ?_)
  | (refine Need.mk ?_ ?_)
  | refine rb ?_
  | refine ri ?_
  | refine bI ?_ ?_
  | refine bL ?_)
 ·congr 1
  simp only [PkOk,eq_iff_iff]
  exact ⟨fun h=>⟨by assumption,by assumption,by assumption,h⟩,fun h=>h.2.2.2⟩
 ·exact fD (fun h=>absurd h.2.2.1 (by assumption))
 ·exact fD (fun h=>absurd h.2.1 (by assumption))
 ·exact fD (fun h=>absurd h.1 (by assumption))

end
section
open Classical
variable {W:Wld}

theorem uJ (n v m w:Int):FunOk PP W kI eP [i64 n,i64 v,i64 m,i64 w] [bo (decide (n<m∨(n=m∧v<w)))]:=by
 refine Lj (lW ?_)
 (repeat' first
  | (refine hM (fun h=>?_) (fun h=>?_)<;>(try simp (disch:=omega) only [zB,eqDs,aZ,Nat.reduceAdd,aA] at h)<;>(try (exfalso;omega)))
  | (refine Need.mk (by (try simp (disch:=omega) only [zB,eqDs,aZ,Nat.reduceAdd,aA]);first | exact oJ (by omega) (by omega) (fun _=>rfl) | exact oK (by omega) (by omega) (fun _=>rfl) | exact pR (by omega) (by omega) (by omega) rfl | exact pS (by omega) (fun _=>rfl) | exact dB (by omega) (fun _=>rfl) (fun _=>rfl) | exact dC (by omega) (fun _=>rfl) rfl rfl | exact gI (by omega) (fun _=>rfl) (fun _=>rfl)) ?_)
  | (refine Need.mk ?_ ?_)
  | refine rb ?_
  | refine ri ?_
  | refine bI ?_ ?_
  | refine bL ?_)
 all_goals simp_all

def bN (p q:Pk):Prop:=p.name<q.name∨(p.name=q.name∧p.ver<q.ver)
def WO (ps:List Pk)(i:Int):Prop:=PkOk (ix ps i)∧(0<i→bN (ix ps (i - 1)) (ix ps i))
def Bo (ps:List Pk):Prop:=mF ps.length (WO ps)
def uQ (ps:List Pk):Prop:=ps.length≤lim∧∀ p∈ps,SmP p
theorem uK {ps:List Pk}(h:uQ ps){i:Int}(h0:0≤i)(h1:i<ps.length):SmP (ix ps i):=h.2 _ (oX h0 h1)

theorem Oz (ps:List Pk)(hs:uQ ps):FunOk PP W wF kM [cJ ps] [bo (decide (Bo ps))]:=by
 refine LX (lW ?_)
 have hl:=hs.1
 unfold lim at hl
 refine Cg (fun i:Int=>0≤i∧i≤ps.length∧mF i (WO ps)) (fun i=>[(3,i64 i),(0,cJ ps)]) (fun i=>(ps.length - i).toNat) 0 ⟨by omega,by omega,bE _⟩ ⟨rfl,rfl,trivial⟩ ?_
 rintro i e ⟨h0,hN,hP⟩
 (repeat' first
  | (refine hM (fun h=>?_) (fun h=>?_)<;>(try simp (disch:=omega) only [zB,eqDs,aZ,Nat.reduceAdd,aA] at h)<;>(try (exfalso;omega)))
  | (refine Need.mk (by (try simp (disch:=omega) only [zB,eqDs,aZ,Nat.reduceAdd,aA]);first | exact oJ (by omega) (by omega) (fun _=>rfl) | exact oK (by omega) (by omega) (fun _=>rfl) | exact pR (by omega) (by omega) (by omega) rfl | exact pS (by omega) (fun _=>rfl) | exact dB (by omega) (fun _=>rfl) (fun _=>rfl) | exact dC (by omega) (fun _=>rfl) rfl rfl | exact gI (by omega) (fun _=>rfl) (fun _=>rfl)) ?_)
  | (refine Dr (GW (ix ps i) (uK hs (by omega) (by omega))) (by simp (disch:=omega) only [zB,eqDs,aZ,Nat.reduceAdd,aA]) rfl ?_)
  | (refine Dr (uJ (ix ps (i - 1)).name (ix ps (i - 1)).ver (ix ps i).name (ix ps i).ver) (by simp (disch:=omega) only [zB,eqDs,aZ,Nat.reduceAdd,aA]) rfl ?_)
  | (refine Exists.intro (i+1) ⟨by omega,⟨by omega,by omega,cF hP ?_⟩,aO (aA _ (by omega)),rfl,trivial⟩)
  | (refine Need.mk ?_ ?_)
  | refine rb ?_
  | refine ri ?_
  | refine bI ?_ ?_
  | refine bL ?_)
 ·exact fD (fun h=>absurd (h i (by omega) (by omega)).1 (by assumption))
 ·exact fD (fun h=>absurd ((h i (by omega) (by omega)).2 (by assumption)) (by assumption))
 ·exact ⟨by assumption,fun _=>by assumption⟩
 ·exact ⟨by assumption,fun h=>absurd h (by assumption)⟩
 ·exact tD (dF hP (by omega))

theorem Bp (ps:List Pk)(hs:uQ ps):FunOk PP W sP iS [cJ ps] [bo (decide (Bo ps))]:=by
 refine JO (lW ?_)
 (repeat' first
  | (refine hM (fun h=>?_) (fun h=>?_)<;>(try simp (disch:=omega) only [zB,eqDs,aZ,Nat.reduceAdd,aA] at h)<;>(try (exfalso;omega)))
  | (refine Need.mk (by (try simp (disch:=omega) only [zB,eqDs,aZ,Nat.reduceAdd,aA]);first | exact oJ (by omega) (by omega) (fun _=>rfl) | exact oK (by omega) (by omega) (fun _=>rfl) | exact pR (by omega) (by omega) (by omega) rfl | exact pS (by omega) (fun _=>rfl) | exact dB (by omega) (fun _=>rfl) (fun _=>rfl) | exact dC (by omega) (fun _=>rfl) rfl rfl | exact gI (by omega) (fun _=>rfl) (fun _=>rfl)) ?_)
  | (refine oI (Oz ps hs) rfl ?_)
  | (refine Need.mk ?_ ?_)
  | refine rb ?_
  | refine ri ?_
  | refine bI ?_ ?_
  | refine bL ?_)
 rfl
end
section
open Classical
variable {W:Wld}

theorem FR (p:Pk)(hs:SmP p):FunOk PP W nM eB [ePk p] [ePk p]:=by
 refine EA (lW ?_)
 obtain ⟨h1,h2⟩:=hs
 unfold lim at h1 h2
 (repeat' first
  | (refine hM (fun h=>?_) (fun h=>?_)<;>(try simp (disch:=omega) only [zB,eqDs,aZ,Nat.reduceAdd,aA] at h)<;>(try (exfalso;omega)))
  | (refine Need.mk (by (try simp (disch:=omega) only [zB,eqDs,aZ,Nat.reduceAdd,aA]);first | exact oJ (by omega) (by omega) (fun _=>rfl) | exact oK (by omega) (by omega) (fun _=>rfl) | exact pR (by omega) (by omega) (by omega) rfl | exact pS (by omega) (fun _=>rfl) | exact dB (by omega) (fun _=>rfl) (fun _=>rfl) | exact dC (by omega) (fun _=>rfl) rfl rfl | exact gI (by omega) (fun _=>rfl) (fun _=>rfl)) ?_)
  | (refine Need.mk ?_ ?_)
  | refine rb ?_
  | refine ri ?_
  | refine bI ?_ ?_
  | refine bL ?_)
 rfl

theorem MH (ps:List Pk)(hs:uQ ps):FunOk PP W sY iP [cJ ps] [cJ ps]:=by
 refine JI (lW ?_)
 have hl:=hs.1
 unfold lim at hl
 refine Cg (fun i:Int=>0≤i∧i≤ps.length) (fun i=>[(4,i64 i),(0,cJ ps),(3,cJ (ps.take i.toNat))]) (fun i=>(ps.length - i).toNat) 0 ⟨by omega,by omega⟩ ⟨rfl,rfl,rfl,trivial⟩ ?_
 rintro i e ⟨h0,hN⟩
 have ht:(ps.take i.toNat).length≤i:=by rw [List.length_take];omega
 (repeat' first
  | (refine hM (fun h=>?_) (fun h=>?_)<;>(try simp (disch:=omega) only [zB,eqDs,aZ,Nat.reduceAdd,aA] at h)<;>(try (exfalso;omega)))
  | (refine Need.mk (by (try simp (disch:=omega) only [zB,eqDs,aZ,Nat.reduceAdd,aA]);first | exact oJ (by omega) (by omega) (fun _=>rfl) | exact oK (by omega) (by omega) (fun _=>rfl) | exact pR (by omega) (by omega) (by omega) rfl | exact pS (by omega) (fun _=>rfl) | exact dB (by omega) (fun _=>rfl) (fun _=>rfl) | exact dC (by omega) (fun _=>rfl) rfl rfl | exact gI (by omega) (fun _=>rfl) (fun _=>rfl)) ?_)
  | (refine Dr (FR (ix ps i) (uK hs (by omega) (by omega))) (by simp (disch:=omega) only [zB,eqDs,aZ,Nat.reduceAdd,aA]) rfl ?_)
  | (refine Exists.intro (i+1) ⟨by omega,⟨by omega,by omega⟩,aO (aA _ (by omega)),rfl,?_,trivial⟩)
  | (refine Need.mk ?_ ?_)
  | refine rb ?_
  | refine ri ?_
  | refine bI ?_ ?_
  | refine bL ?_)
 ·refine bU ?_
  rw [jO ps h0 (by omega),List.map_append]
  rfl
 ·refine bU ?_
  rw [List.take_of_length_le (by omega)]

end
section
open Classical
variable {W:Wld}

theorem Ag {α:Type}[Inhabited α]{xs:List α}{x:α}(h:x∈xs):∃ i:Int,0≤i∧i<xs.length∧ix xs i=x:=by
 obtain ⟨n,hn,rfl⟩:=List.mem_iff_getElem.1 h
 exact ⟨n,by omega,by omega,by simp [ix,hn]⟩
end
section
variable {W:Wld}

theorem GX {Φ:Ask}{α:Type}{enc:α→List D}(l:List α)(hl:l.length≤lim)(sz:Nat)(hz:∀ x,(enc x).length=sz)(hs:∀ x,(enc x).all jH=true)(z:List D):
  pwp Φ (.ss [.mv 2 (.c (.sl []))]) (fun x e=>x= .normal∧∃ e1 xs,bH Φ (.mv 3 (.t 0)) e e1∧e1 3=[.sl xs]∧∀ b,(b=true→xs=[])→
   pwp Φ (.cond (.t 4) (.seq (.ss [.mv 2 (.c (.sl []))]) (.ret [2])) .skip) (PX.then (pwp Φ (.seq (.ss [.lit 5 0 z [],.mv 6 (.t 0),.app 7 sz true (.t 5) (.t 6),.mv 2 (.t 7)]) (.ret [2])) (aL [[.sl (l.map enc)]])) (aL [[.sl (l.map enc)]])) (put e1 4 [.bool b])) (envL [[.sl (l.map enc)]]):=by
 refine ⟨_,⟨_,rfl,rfl⟩,rfl,_,l.map enc,rfl,rfl,fun b hb=>?_⟩
 cases b with
 | true=>
  refine .inl ⟨rfl,_,⟨_,rfl,rfl⟩,?_⟩
  show ([[D.sl []]]:List (List D))=[[.sl (l.map enc)]]
  rw [hb rfl]
 | false=>
  have happ:∀ e:Env,e 5=[.sl []]→e 6=[.sl (l.map enc)]→pstep (.app 7 sz true (.t 5) (.t 6)) e=some (put e 7 [.sl (l.map enc)]):=fun e h5 h6=>by
   have h5':(Opd.t 5).get e=[.sl []]:=h5
   have h6':(Opd.t 6).get e=[.sl (l.map enc)]:=h6
   simp only [pstep,h5',h6',List.nil_append]
   refine if_pos ⟨by simpa using hl,fun x hx=>?_,fun _ y hy=>?_⟩
   ·obtain ⟨w,_,rfl⟩:=List.mem_map.1 hx
    exact hz w
   ·obtain ⟨w,_,rfl⟩:=List.mem_map.1 hy
    exact hs w
  exact .inr ⟨rfl,_,⟨_,rfl,_,rfl,_,happ _ rfl rfl,_,rfl,rfl⟩,rfl⟩

end
section
open Classical
variable {W:Wld}

theorem Ah (p:Pk)(hs:SmP p):FunOk PP W uH kQ [ePk p] [bo (decide (PkOk p))]:=by
 refine Oc (aI ?_)
 obtain ⟨hs1,hs2⟩:=hs
 unfold lim at hs1 hs2
 (repeat' first
  | (refine run_ite rfl (fun h=>?_) (fun h=>?_)<;>(try simp (disch:=omega) only [zB,eqDs,aZ,Nat.reduceAdd,aA] at h)<;>(try (exfalso;omega)))
  | refine aG rfl ?_
  | refine aH rfl ?_
  | refine aE rfl (Af ..) rfl ?_
  | refine aE rfl (Ei ..) rfl ?_
  | refine aB rfl ?_ ?_
  | (refine aD rfl ?_;first | refine rb ?_ | refine ri ?_ | refine bI ?_ ?_ | refine bL ?_)
  | refine aC rfl ?_)
 ·exact fD (fun h=>by unfold PkOk at h;omega)
 ·exact fD (fun h=>by unfold PkOk at h;omega)
 ·exact fD (fun h=>by unfold PkOk zD at h;omega)
 ·exact fD (fun h=>by unfold PkOk Hp at h;omega)
 rename_i q1 q2 q3
 have q4:=h
 clear h
 refine aU rfl (fun i:Int=>0≤i∧i≤p.files.length∧mF i (lD p.files)) (fun i=>[(32,.val (i64 i)),(30,.val (eT p.files)),(31,.val (i64 (p.files.map eP2).length)),(1,.val (ePk p))]) (fun i=>(p.files.length - i).toNat) 0 ⟨by omega,by omega,bE _⟩ ⟨rfl,rfl,rfl,rfl,trivial⟩ rfl ?_
 rintro i e ⟨h0,hN,hP⟩
 (repeat' first
  | (refine run_ite rfl (fun h=>?_) (fun h=>?_)<;>(try simp (disch:=omega) only [zB,eqDs,aZ,Nat.reduceAdd,aA] at h)<;>(try (exfalso;omega)))
  | refine aG rfl ?_
  | refine aH rfl ?_
  | refine aE rfl (GV ..) rfl ?_
  | (refine aT rfl (Exists.intro (i+1) ⟨by omega,⟨by omega,by omega,cF hP ?_⟩,aO (aA _ (by omega)),rfl,rfl,rfl,trivial⟩))
  | refine aB rfl ?_ ?_
  | (refine aD rfl ?_;first | refine rb ?_ | refine ri ?_ | refine bI ?_ ?_ | refine bL ?_)
  | refine aC rfl ?_)
 ·exact fD (fun ⟨_,_,⟨h,_⟩,_⟩=>by have:=h i (by omega) (by omega);unfold lD at this;omega)
 ·exact fD (fun ⟨_,_,⟨h,_⟩,_⟩=>by have:=h i (by omega) (by omega);unfold lD at this;omega)
 ·exact fD (fun ⟨_,_,⟨h,_⟩,_⟩=>by have:=h i (by omega) (by omega);unfold lD at this;omega)
 ·unfold lD;omega
 ·unfold lD;omega
 have hF:zD p.files:=⟨dF hP (by omega),by omega⟩
 clear hP h0 hN
 refine aU rfl (fun i:Int=>0≤i∧i≤p.deps.length∧mF i (nP p.name p.deps)) (fun i=>[(67,.val (i64 i)),(65,.val (eT p.deps)),(66,.val (i64 (p.deps.map eP2).length)),(1,.val (ePk p))]) (fun i=>(p.deps.length - i).toNat) 0 ⟨by omega,by omega,bE _⟩ ⟨rfl,rfl,rfl,rfl,trivial⟩ rfl ?_
 rintro i e ⟨h0,hN,hP⟩
 (repeat' first
  | (refine run_ite rfl (fun h=>?_) (fun h=>?_)<;>(try simp (disch:=omega) only [zB,eqDs,aZ,Nat.reduceAdd,aA] at h)<;>(try (exfalso;omega)))
  | refine aG rfl ?_
  | refine aH rfl ?_
  | refine aE rfl (Af ..) rfl ?_
  | refine aE rfl (Ei ..) rfl ?_
  | (refine aT rfl (Exists.intro (i+1) ⟨by omega,⟨by omega,by omega,cF hP ?_⟩,aO (aA _ (by omega)),rfl,rfl,rfl,trivial⟩))
  | refine aB rfl ?_ ?_
  | (refine aD rfl ?_;first | refine rb ?_ | refine ri ?_ | refine bI ?_ ?_ | refine bL ?_)
  | refine aC rfl ?_)
 ·exact fD (fun ⟨_,_,_,h,_⟩=>by have:=h i (by omega) (by omega);unfold nP at this;omega)
 ·exact fD (fun ⟨_,_,_,h,_⟩=>by have:=h i (by omega) (by omega);unfold nP at this;omega)
 ·exact fD (fun ⟨_,_,_,h,_⟩=>by have:=h i (by omega) (by omega);unfold nP at this;omega)
 ·exact fD (fun ⟨_,_,_,h,_⟩=>by have:=h i (by omega) (by omega);unfold nP at this;omega)
 ·unfold nP;omega
 ·unfold nP;omega
 ·exact tD ⟨q1,q2,hF,dF hP (by omega),by omega⟩

end
section
open Classical
variable {W:Wld}

theorem Rh {p q:P2}(h1:p.a=q.a)(h2:p.b=q.b):p=q:=by cases p;cases q;simp_all
theorem WP {p q:Pk}(h1:p.name=q.name)(h2:p.ver=q.ver)(h3:p.files=q.files)(h4:p.deps=q.deps):p=q:=by cases p;cases q;simp_all

end
section
open Classical
variable {W:Wld}

theorem Ri (a:Int):FunOk PP W hO cQ [i64 a] [bo false]:=by
 refine CK (aI ?_)
 (repeat' first
  | (refine run_ite rfl (fun h=>?_) (fun h=>?_)<;>(try simp (disch:=omega) only [zB,eqDs,aZ,Nat.reduceAdd,aA] at h)<;>(try (exfalso;omega)))
  | refine aG rfl ?_
  | refine aH rfl ?_
  | refine aB rfl ?_ ?_
  | (refine aD rfl ?_;first | refine rb ?_ | refine ri ?_ | refine bI ?_ ?_ | refine bL ?_)
  | refine aC rfl ?_)
 simp

def pX (a b:Int):Int:=if a<b then -1 else if b<a then 1 else 0
theorem UP (a b:Int):FunOk PP W fM bZ [i64 a,i64 b] [i64 (pX a b)]:=by
 refine yT (aI ?_)
 (repeat' first
  | (refine run_ite rfl (fun h=>?_) (fun h=>?_)<;>(try simp (disch:=omega) only [zB,eqDs,aZ,Nat.reduceAdd,aA] at h)<;>(try (exfalso;omega)))
  | refine aG rfl ?_
  | refine aH rfl ?_
  | refine aE rfl (Ri ..) rfl ?_
  | refine aB rfl ?_ ?_
  | (refine aD rfl ?_;first | refine rb ?_ | refine ri ?_ | refine bI ?_ ?_ | refine bL ?_)
  | refine aC rfl ?_)
 all_goals unfold pX
 all_goals (repeat' split)<;>omega

theorem Rj (a b:Int):FunOk PP W qX gN [HJ [a,b]] [i64 (if a=0 then b else a)]:=by
 refine Ha (aI ?_)
 (repeat' first
  | (refine run_ite rfl (fun h=>?_) (fun h=>?_)<;>(try simp (disch:=omega) only [zB,eqDs,aZ,Nat.reduceAdd,aA] at h)<;>(try (exfalso;omega)))
  | refine aG rfl ?_
  | refine aH rfl ?_
  | refine aB rfl ?_ ?_
  | (refine aD rfl ?_;first | refine rb ?_ | refine ri ?_ | refine bI ?_ ?_ | refine bL ?_)
  | refine aC rfl ?_)
 refine aU rfl (fun i:Int=>0≤i∧i≤2∧(0<i→a=0)∧(1<i→b=0)) (fun i=>[(8,.val (i64 i)),(6,.val (HJ [a,b])),(7,.val (i64 2)),(3,.val (i64 0))]) (fun i=>(2 - i).toNat) 0 ⟨by omega,by omega,by omega,by omega⟩ ⟨rfl,rfl,rfl,rfl,trivial⟩ rfl ?_
 rintro i e ⟨h0,hN,hP1,hP2⟩
 (repeat' first
  | (refine run_ite rfl (fun h=>?_) (fun h=>?_)<;>(try simp (disch:=omega) only [zB,eqDs,aZ,Nat.reduceAdd,aA] at h)<;>(try (exfalso;omega)))
  | refine aG rfl ?_
  | refine aH rfl ?_
  | (refine aT rfl (Exists.intro (i+1) ⟨by omega,⟨by omega,by omega,?_,?_⟩,aO (aA _ (by omega)),rfl,rfl,rfl,trivial⟩))
  | refine aB rfl ?_ ?_
  | (refine aD rfl ?_;first | refine rb ?_ | refine ri ?_ | refine bI ?_ ?_ | refine bL ?_)
  | refine aC rfl ?_)
 ·rw [XM]
  have hi:i=0∨i=1:=by omega
  rcases hi with rfl | rfl<;>simp_all [ix]
 ·intro _
  have hi:i=0∨i=1:=by omega
  rcases hi with rfl | rfl<;>simp_all [ix]
 ·intro _
  have hi:i=1:=by omega
  subst hi
  simp_all [ix]
 ·rw [if_pos (hP1 (by omega)),hP2 (by omega)]

theorem xC (p q:Pk):FunOk PP W cD cE [ePk p,ePk q] [i64 (if pX p.name q.name=0 then pX p.ver q.ver else pX p.name q.name)]:=by
 refine CE (aI ?_)
 (repeat' first
  | (refine run_ite rfl (fun h=>?_) (fun h=>?_)<;>(try simp (disch:=omega) only [zB,eqDs,aZ,Nat.reduceAdd,aA] at h)<;>(try (exfalso;omega)))
  | refine aG rfl ?_
  | refine aH rfl ?_
  | refine aE rfl (UP ..) rfl ?_
  | refine aE rfl (Rj ..) rfl ?_
  | refine aB rfl ?_ ?_
  | (refine aD rfl ?_;first | refine rb ?_ | refine ri ?_ | refine bI ?_ ?_ | refine bL ?_)
  | refine aC rfl ?_)
 rfl
theorem zE (p q:Pk):¬0≤(if pX p.name q.name=0 then pX p.ver q.ver else pX p.name q.name)↔bN p q:=by
 unfold pX bN
 (repeat' split)<;>omega

theorem oO (ps:List Pk)(hs:uQ ps):FunOk PP W sR iT [cJ ps] [bo (decide (Bo ps))]:=by
 refine JQ (aI ?_)
 have hl:=hs.1
 unfold lim at hl
 refine aU rfl (fun i:Int=>0≤i∧i≤ps.length∧mF i (WO ps)) (fun i=>[(7,.val (i64 i)),(0,.val (cJ ps)),(5,.val (cJ ps)),(6,.val (i64 (ps.map ePk).length))]) (fun i=>(ps.length - i).toNat) 0 ⟨by omega,by omega,bE _⟩ ⟨rfl,rfl,rfl,rfl,trivial⟩ rfl ?_
 rintro i e ⟨h0,hN,hP⟩
 (repeat' first
  | (refine run_ite rfl (fun h=>?_) (fun h=>?_)<;>(try simp (disch:=omega) only [zB,eqDs,aZ,Nat.reduceAdd,aA] at h)<;>(try (exfalso;omega)))
  | refine aG rfl ?_
  | refine aH rfl ?_
  | refine iA rfl (Ah (ix ps i) (uK hs (by omega) (by omega))) rfl ?_
  | refine iA rfl (xC (ix ps (i - 1)) (ix ps i)) rfl ?_
  | (refine aT rfl (Exists.intro (i+1) ⟨by omega,⟨by omega,by omega,cF hP ?_⟩,aO (aA _ (by omega)),rfl,rfl,rfl,trivial⟩))
  | refine aB rfl ?_ ?_
  | (refine aD rfl ?_;first | refine rb ?_ | refine ri ?_ | refine bI ?_ ?_ | refine bL ?_)
  | refine aC rfl ?_)
 ·exact fD (fun h'=>absurd (h' i (by omega) (by omega)).1 (by assumption))
 ·exact fD (fun h'=>(zE _ _).2 ((h' i (by omega) (by omega)).2 (by assumption)) h)
 ·exact ⟨by assumption,fun _=>(zE _ _).1 h⟩
 ·exact ⟨by assumption,fun h'=>absurd h' (by assumption)⟩
 ·exact tD (dF hP (by omega))
end
section
open Classical
variable {W:Wld}

noncomputable def pY {α:Type}[Inhabited α](P:α→Prop)(xs:List α):Nat→Int→Int
 | 0,_=> -1
 | n+1,i=>if P (ix xs i) then i else pY P xs n (i+1)

theorem KA {α:Type}[Inhabited α](P:α→Prop)(xs:List α):∀ (n:Nat) (i:Int),0≤i→(0≤pY P xs n i↔∃ j,i≤j∧j<i+n∧P (ix xs j))
 | 0,i,h0=>by
  unfold pY
  constructor
  ·intro h;omega
  ·rintro ⟨j,h1,h2,_⟩;omega
 | n+1,i,h0=>by
  unfold pY
  by_cases hp:P (ix xs i)
  ·rw [if_pos hp]
   exact ⟨fun _=>⟨i,by omega,by omega,hp⟩,fun _=>h0⟩
  ·rw [if_neg hp,KA P xs n (i+1) (by omega)]
   constructor
   ·rintro ⟨j,h1,h2,h3⟩;exact ⟨j,by omega,by omega,h3⟩
   ·rintro ⟨j,h1,h2,h3⟩
    by_cases hj:j=i
    ·subst hj;exact absurd h3 hp
    ·exact ⟨j,by omega,by omega,h3⟩
theorem KB {α:Type}[Inhabited α](P:α→Prop)(xs:List α):0≤pY P xs xs.length 0↔∃ x∈xs,P x:=by
 rw [KA P xs xs.length 0 (by omega)]
 constructor
 ·rintro ⟨j,h1,h2,h3⟩;exact ⟨_,oX h1 (by omega),h3⟩
 ·rintro ⟨x,hx,h⟩
  obtain ⟨j,h1,h2,rfl⟩:=Ag hx
  exact ⟨j,h1,by omega,h⟩

end
section
open Classical
variable {W:Wld}

theorem dI {p:Prop}[Decidable p]{b:Bool}(h:b=true↔p):b=decide p:=by
 by_cases hp:p<;>simp_all
end
section
open Classical
variable {W:Wld}

noncomputable def zF (ps:List Pk)(p:Pk):List Pk:=ps.filter (fun q=>decide (bN q p))++[p]++ps.filter (fun q=>decide (bN p q))
theorem Bq {α:Type}[Inhabited α](f:α→Bool)(ps:List α){i:Int}(h0:0≤i)(h1:i<ps.length):(ps.take (i+1).toNat).filter f=(ps.take i.toNat).filter f++if f (ix ps i)=true then [ix ps i] else []:=by
 rw [jO ps h0 h1,List.filter_append]
 congr 1
 by_cases h:f (ix ps i)=true<;>simp [h]
theorem MI (ps:List Pk)(hs:uQ ps)(h1:ps.length≤2000000)(p:Pk)(hp:SmP p):FunOk PP W sW iQ [cJ ps,ePk p] [cJ (zF ps p)]:=by
 refine JK (aI ?_)
 (repeat' first
  | (refine run_ite rfl (fun h=>?_) (fun h=>?_)<;>(try simp (disch:=omega) only [zB,eqDs,aZ,Nat.reduceAdd,aA] at h)<;>(try (exfalso;omega)))
  | refine aG rfl ?_
  | refine aH rfl ?_
  | refine aB rfl ?_ ?_
  | (refine aD rfl ?_;first | refine rb ?_ | refine ri ?_ | refine bI ?_ ?_ | refine bL ?_)
  | refine aC rfl ?_)
 refine aU rfl (fun i:Int=>0≤i∧i≤ps.length) (fun i=>[(6,.val (i64 i)),(0,.val (cJ ps)),(5,.val (cJ ((ps.take i.toNat).filter (fun q=>decide (bN q p))))),(3,.val (ePk p))]) (fun i=>(ps.length - i).toNat) 0 ⟨by omega,by omega⟩ ⟨rfl,rfl,rfl,rfl,trivial⟩ rfl ?_
 rintro i e ⟨h0,hN⟩
 have hft:=Bq (fun q=>decide (bN q p)) ps (i:=i) h0
 have hfl:((ps.take i.toNat).filter (fun q=>decide (bN q p))).length≤ps.length:=Nat.le_trans (List.length_filter_le _ _) (by rw [List.length_take];omega)
 have hfin:¬i<ps.length→(ps.take i.toNat).filter (fun q=>decide (bN q p))=ps.filter (fun q=>decide (bN q p)):=fun h=>by rw [List.take_of_length_le (by omega)]
 generalize (ps.take i.toNat).filter (fun q=>decide (bN q p))=A at hft hfl hfin
 (repeat' first
  | (refine run_ite rfl (fun h=>?_) (fun h=>?_)<;>(try simp (disch:=omega) only [zB,eqDs,aZ,Nat.reduceAdd,aA] at h)<;>(try (exfalso;omega)))
  | refine aG rfl ?_
  | refine aH rfl ?_
  | refine iA rfl (uJ (ix ps i).name (ix ps i).ver p.name p.ver) rfl ?_
  | (refine aT rfl (Exists.intro (i+1) ⟨by omega,⟨by omega,by omega⟩,aO (aA _ (by omega)),rfl,?_,rfl,trivial⟩))
  | refine aB rfl ?_ ?_
  | (refine aD rfl ?_;first | refine rb ?_ | refine ri ?_ | refine bI ?_ ?_ | refine bL ?_)
  | refine aC rfl ?_)
 ·rw [hft (by assumption),if_pos (decide_eq_true (show bN (ix ps i) p from h))]
  refine bU ?_
  simp only [zB,eqDs,aZ,Nat.reduceAdd,List.map_append]
  rfl
 ·rw [hft (by assumption),if_neg (by rw [decide_eq_true_eq];exact h),List.append_nil]
  rfl
 have hA:=hfin h
 clear hft hfin h h0 hN
 unfold zF
 rw [←hA]
 clear hA
 refine aU rfl (fun i:Int=>0≤i∧i≤ps.length) (fun i=>[(7,.val (i64 i)),(0,.val (cJ ps)),(5,.val (cJ (A++[p]++(ps.take i.toNat).filter (fun q=>decide (bN p q))))),(3,.val (ePk p))]) (fun i=>(ps.length - i).toNat) 0 ⟨by omega,by omega⟩ ⟨rfl,rfl,?_,rfl,trivial⟩ rfl ?_
 ·refine bU ?_
  rw [show (ps.take (0:Int).toNat).filter (fun q=>decide (bN p q))=[] from rfl,List.append_nil,List.map_append]
  rfl
 rintro i e ⟨h0,hN⟩
 have hft:=Bq (fun q=>decide (bN p q)) ps (i:=i) h0
 have hfl2:((ps.take i.toNat).filter (fun q=>decide (bN p q))).length≤ps.length:=Nat.le_trans (List.length_filter_le _ _) (by rw [List.length_take];omega)
 have hfin:¬i<ps.length→(ps.take i.toNat).filter (fun q=>decide (bN p q))=ps.filter (fun q=>decide (bN p q)):=fun h=>by rw [List.take_of_length_le (by omega)]
 generalize (ps.take i.toNat).filter (fun q=>decide (bN p q))=B at hft hfl2 hfin
 have hBl:(A++[p]++B).length≤4000001:=by simp;omega
 have hft2:i<ps.length→A++[p]++(ps.take (i+1).toNat).filter (fun q=>decide (bN p q))=(A++[p]++B)++if decide (bN p (ix ps i))=true then [ix ps i] else []:=fun h=>by rw [hft h];simp only [List.append_assoc]
 have hfin2:¬i<ps.length→A++[p]++B=A++[p]++ps.filter (fun q=>decide (bN p q)):=fun h=>by rw [hfin h]
 generalize A++[p]++B=E at hBl hft2 hfin2
 (repeat' first
  | (refine run_ite rfl (fun h=>?_) (fun h=>?_)<;>(try simp (disch:=omega) only [zB,eqDs,aZ,Nat.reduceAdd,aA] at h)<;>(try (exfalso;omega)))
  | refine aG rfl ?_
  | refine aH rfl ?_
  | refine iA rfl (uJ p.name p.ver (ix ps i).name (ix ps i).ver) rfl ?_
  | (refine aT rfl (Exists.intro (i+1) ⟨by omega,⟨by omega,by omega⟩,aO (aA _ (by omega)),rfl,?_,rfl,trivial⟩))
  | refine aB rfl ?_ ?_
  | (refine aD rfl ?_;first | refine rb ?_ | refine ri ?_ | refine bI ?_ ?_ | refine bL ?_)
  | refine aC rfl ?_)
 ·rw [hft2 (by assumption),if_pos (decide_eq_true (show bN p (ix ps i) from h))]
  refine bU ?_
  simp only [zB,eqDs,aZ,Nat.reduceAdd,List.map_append]
  rfl
 ·rw [hft2 (by assumption),if_neg (by rw [decide_eq_true_eq];exact h),List.append_nil]
  rfl
 ·rw [hfin2 h]

end
section
variable {W:Wld}

def pZ:Cfg:={tt:=tt,sigs:=eF,mv:=true,bm:=[5],eqt:=cV,keep:=[true,false,true,false,true,false,false,false],n:=8,pin:=[] }
theorem Ai:HN pZ Tryz.f89 fN=some (.ss [.mv 2 (.c (.sl []))],.mv 3 (.t 0),3,4,.cond (.t 4) (.seq (.ss [.mv 2 (.c (.sl []))]) (.ret [2])) .skip,.seq (.ss [.lit 5 0 [.int .i64 0,.int .i64 0] [],.mv 6 (.t 0),.app 7 2 true (.t 5) (.t 6),.mv 2 (.t 7)]) (.ret [2])):=by kernel_rfl
theorem Rk (l:List P2)(hl:l.length≤lim):FunOk PP W rA fN [eT l] [eT l]:=by
 refine GH (C:=pZ) (aJ rfl) (aR rfl rfl) mixed Tryz.func89 (by kernel_rfl) (by kernel_rfl) Ai ?_
 exact GX (enc:=eP2) l hl 2 (fun _=>rfl) (fun _=>rfl) [.int .i64 0,.int .i64 0]

def rN:Cfg:={tt:=tt,sigs:=eF,mv:=true,bm:=[5],eqt:=cV,keep:=[true,false,true,false,true,false,false,false],n:=8,pin:=[] }
theorem CU:HN rN Tryz.f90 gO=some (.ss [.mv 2 (.c (.sl []))],.mv 3 (.t 0),3,4,.cond (.t 4) (.seq (.ss [.mv 2 (.c (.sl []))]) (.ret [2])) .skip,.seq (.ss [.lit 5 0 [.int .i64 0,.int .i64 0] [],.mv 6 (.t 0),.app 7 2 true (.t 5) (.t 6),.mv 2 (.t 7)]) (.ret [2])):=by kernel_rfl
theorem Rl (l:List P2)(hl:l.length≤lim):FunOk PP W tF gO [eT l] [eT l]:=by
 refine GH (C:=rN) (aJ rfl) (aR rfl rfl) mixed Tryz.func90 (by kernel_rfl) (by kernel_rfl) CU ?_
 exact GX (enc:=eP2) l hl 2 (fun _=>rfl) (fun _=>rfl) [.int .i64 0,.int .i64 0]

/-! Writing into lists that are encoded. -/
theorem jZ {α:Type}{enc:α→List D}{xs ys:List α}{i:Int}{off sz:Nat}{c:List D}(h0:0≤i)(h1:i<xs.length)(h2:i<ys.length)(hz:∀ x,(enc x).length=sz)(hc:off+c.length≤sz):NL (xs.map enc) (ys.map enc) i off c:=by
 have a:i.toNat<xs.length:=by omega
 have b:i.toNat<ys.length:=by omega
 exact ⟨enc xs[i.toNat],enc ys[i.toNat],by simp [a],by simp [b],by rw [hz,hz],by rw [hz];exact hc⟩
theorem kA {α:Type}[Inhabited α]{enc:α→List D}{ys:List α}{i:Int}{off:Nat}{c:List D}{z:α}(h0:0≤i)(h2:i<ys.length)(hz:bG (enc (ix ys i)) off c=enc z):rQ (ys.map enc) i off c=(ys.set i.toNat z).map enc:=by
 have b:i.toNat<ys.length:=by omega
 have e:enc (ix ys i)=enc ys[i.toNat]:=by simp [ix,b]
 rw [e] at hz
 simp only [rQ,List.getD_eq_getElem?_getD,List.getElem?_map,List.getElem?_eq_getElem b,Option.map_some,Option.getD_some,hz]
 rw [List.map_set]
theorem NW {ys:List P2}{i v:Int}(h0:0≤i)(h2:i<ys.length):rQ (ys.map eP2) i 0 [.int .i64 v]=(ys.set i.toNat ⟨v,(ix ys i).b⟩).map eP2:=kA h0 h2 rfl
theorem NX {ys:List P2}{i v:Int}(h0:0≤i)(h2:i<ys.length):rQ (ys.map eP2) i 1 [.int .i64 v]=(ys.set i.toNat ⟨(ix ys i).a,v⟩).map eP2:=kA h0 h2 rfl
theorem NY {ys:List P2}{i v u:Int}(h0:0≤i)(h2:i<ys.length):rQ (ys.map eP2) i 0 [.int .i64 v,.int .i64 u]=(ys.set i.toNat ⟨v,u⟩).map eP2:=kA h0 h2 rfl
theorem UQ {ys:List Pk}{i v:Int}(h0:0≤i)(h2:i<ys.length):rQ (ys.map ePk) i 0 [.int .i64 v]=(ys.set i.toNat ⟨v,(ix ys i).ver,(ix ys i).files,(ix ys i).deps⟩).map ePk:=kA h0 h2 rfl
theorem UR {ys:List Pk}{i v:Int}(h0:0≤i)(h2:i<ys.length):rQ (ys.map ePk) i 1 [.int .i64 v]=(ys.set i.toNat ⟨(ix ys i).name,v,(ix ys i).files,(ix ys i).deps⟩).map ePk:=kA h0 h2 rfl
theorem US {ys:List Pk}{i v u:Int}{f d:List P2}(h0:0≤i)(h2:i<ys.length):rQ (ys.map ePk) i 0 [.int .i64 v,.int .i64 u,.sl (f.map eP2),.sl (d.map eP2)]=(ys.set i.toNat ⟨v,u,f,d⟩).map ePk:=kA h0 h2 rfl
theorem eG {Φ:Ask}{Q:PX→Env→Prop}{Ns:List (Env→Prop)}{e:Env}{fs fs':List Fr}{l l':Sm}{N:Prop}{h:Nat}{r c:List D}(hr:run 100000 e fs l= .need N fs' ((h,.val r)::l'))(hp:N)(he:r=c)(hk:RunM Φ Q Ns e fs' ((h,.val c)::l')):RunM Φ Q Ns e fs l:=by
 subst he
 exact aB hr hp hk

theorem Hq {α:Type}[Inhabited α]{ys:List α}{i j:Int}{z:α}(h0:0≤i)(h1:i<ys.length)(hj:0≤j):ix (ys.set i.toNat z) j=if j=i then z else ix ys j:=by
 by_cases h:j=i
 ·subst h
  have:j.toNat<ys.length:=by omega
  simp [ix,this]
 ·have:j.toNat≠i.toNat:=by omega
  simp only [ix,List.getD_eq_getElem?_getD,if_neg h]
  rw [List.getElem?_set_ne (Ne.symm this)]
theorem Ej {α:Type}[Inhabited α]{ys:List α}{i:Int}{z:α}(h0:0≤i)(h1:i<ys.length):ix (ys.set i.toNat z) i=z:=by rw [Hq h0 h1 h0,if_pos rfl]
end
section
open Classical
variable {W:Wld}

theorem zG {α:Type}[Inhabited α]{xs ys:List α}{i:Int}(h0:0≤i)(h1:i<ys.length)(h:mF i (fun j=>ix ys j=ix xs j)):mF (i+1) (fun j=>ix (ys.set i.toNat (ix xs i)) j=ix xs j):=fun j j0 j1=>by
 show ix (ys.set i.toNat (ix xs i)) j=ix xs j
 rw [Hq h0 h1 j0]
 by_cases e:j=i
 ·rw [if_pos e,e]
 ·rw [if_neg e]
  exact h j j0 (by omega)

/-! What is copied. -/
theorem Rm (l:List Int)(hl:l.length≤lim):FunOk PP W wR jT [HJ l] [HJ l]:=by
 refine Hc (aI ?_)
 unfold lim at hl
 (repeat' first
  | (refine run_ite rfl (fun h=>?_) (fun h=>?_)<;>(try simp (disch:=omega) only [zB,eqDs,aZ,Nat.reduceAdd,aA] at h)<;>(try (exfalso;omega)))
  | refine aG rfl ?_
  | refine aH rfl ?_
  | refine aB rfl ?_ ?_
  | (refine aD rfl ?_;first | refine rb ?_ | refine ri ?_ | refine bI ?_ ?_ | refine bL ?_)
  | refine aC rfl ?_)
 ·simp [lim];omega
 refine aU rfl (fun x:Int×List Int=>0≤x.1∧x.1≤l.length∧x.2.length=l.length∧mF x.1 (fun j=>ix x.2 j=ix l j)) (fun x=>[(4,.val (i64 x.1)),(3,.val (HJ x.2)),(0,.val (HJ l))]) (fun x=>(l.length - x.1).toNat) (0,List.replicate l.length 0) ⟨by omega,by simp,by simp,bE _⟩ ⟨rfl,bU (by simp),rfl,trivial⟩ rfl ?_
 rintro ⟨i,ys⟩ e ⟨h0,hN,hy,hP⟩
 dsimp only at h0 hN hy hP ⊢
 (repeat' first
  | (refine run_ite rfl (fun h=>?_) (fun h=>?_)<;>(try simp (disch:=omega) only [zB,eqDs,aZ,Nat.reduceAdd,aA] at h)<;>(try (exfalso;omega)))
  | refine aG rfl ?_
  | refine aH rfl ?_
  | (refine aT rfl (Exists.intro (i+1,ys.set i.toNat (ix l i)) ⟨by dsimp only;omega,⟨by dsimp only;omega,by dsimp only;omega,by simpa using hy,zG h0 (by omega) hP⟩,aO (aA _ (by omega)),bU (by rw [VN h0 (by omega),YM]),rfl,trivial⟩))
  | refine aB rfl ?_ ?_
  | (refine aD rfl ?_;first | refine rb ?_ | refine ri ?_ | refine bI ?_ ?_ | refine bL ?_)
  | refine aC rfl ?_)
 ·exact bU (by rw [gS hy (dF hP (by omega))])

theorem Rn (p:P2):FunOk PP W wX jV [eP2 p] [eP2 p]:=by
 refine Hg (aI ?_)
 (repeat' first
  | (refine run_ite rfl (fun h=>?_) (fun h=>?_)<;>(try simp (disch:=omega) only [zB,eqDs,aZ,Nat.reduceAdd,aA] at h)<;>(try (exfalso;omega)))
  | refine aG rfl ?_
  | refine aH rfl ?_
  | refine aB rfl ?_ ?_
  | (refine aD rfl ?_;first | refine rb ?_ | refine ri ?_ | refine bI ?_ ?_ | refine bL ?_)
  | refine aC rfl ?_)
 rfl
theorem PA (l:List P2)(hl:l.length≤lim):FunOk PP W tJ gW [eT l] [eT l]:=by
 refine FK (aI ?_)
 unfold lim at hl
 (repeat' first
  | (refine run_ite rfl (fun h=>?_) (fun h=>?_)<;>(try simp (disch:=omega) only [zB,eqDs,aZ,Nat.reduceAdd,aA] at h)<;>(try (exfalso;omega)))
  | refine aG rfl ?_
  | refine aH rfl ?_
  | refine aB rfl ?_ ?_
  | (refine aD rfl ?_;first | refine rb ?_ | refine ri ?_ | refine bI ?_ ?_ | refine bL ?_)
  | refine aC rfl ?_)
 ·simp [lim];omega
 refine aU rfl (fun x:Int×List P2=>0≤x.1∧x.1≤l.length∧x.2.length=l.length∧mF x.1 (fun j=>ix x.2 j=ix l j)) (fun x=>[(4,.val (i64 x.1)),(3,.val (eT x.2)),(0,.val (eT l))]) (fun x=>(l.length - x.1).toNat) (0,List.replicate l.length ⟨0,0⟩) ⟨by omega,by simp,by simp,bE _⟩ ⟨rfl,bU (by simp),rfl,trivial⟩ rfl ?_
 rintro ⟨i,ys⟩ e ⟨h0,hN,hy,hP⟩
 dsimp only at h0 hN hy hP ⊢
 (repeat' first
  | (refine run_ite rfl (fun h=>?_) (fun h=>?_)<;>(try simp (disch:=omega) only [zB,eqDs,aZ,Nat.reduceAdd,aA] at h)<;>(try (exfalso;omega)))
  | refine aG rfl ?_
  | refine aH rfl ?_
  | refine iA rfl (Rn (ix l i)) rfl ?_
  | (refine eG rfl (jZ (sz:=2) h0 (by omega) (by omega) (fun _=>rfl) (Nat.le_of_ble_eq_true rfl)) (bU (NY h0 (by omega))) ?_)
  | (refine aT rfl (Exists.intro (i+1,ys.set i.toNat (ix l i)) ⟨by dsimp only;omega,⟨by dsimp only;omega,by dsimp only;omega,by simpa using hy,zG h0 (by omega) hP⟩,aO (aA _ (by omega)),rfl,rfl,trivial⟩))
  | refine aB rfl ?_ ?_
  | (refine aD rfl ?_;first | refine rb ?_ | refine ri ?_ | refine bI ?_ ?_ | refine bL ?_)
  | refine aC rfl ?_)
 ·exact bU (by rw [gS hy (dF hP (by omega))])

theorem UT (p:P2):FunOk PP W AZ lS [eP2 p] [eP2 p]:=by
 refine Jx (aI ?_)
 (repeat' first
  | (refine run_ite rfl (fun h=>?_) (fun h=>?_)<;>(try simp (disch:=omega) only [zB,eqDs,aZ,Nat.reduceAdd,aA] at h)<;>(try (exfalso;omega)))
  | refine aG rfl ?_
  | refine aH rfl ?_
  | refine aB rfl ?_ ?_
  | (refine aD rfl ?_;first | refine rb ?_ | refine ri ?_ | refine bI ?_ ?_ | refine bL ?_)
  | refine aC rfl ?_)
 rfl
theorem Ro (l:List P2)(hl:l.length≤lim):FunOk PP W wS jW [eT l] [eT l]:=by
 refine Hi (aI ?_)
 unfold lim at hl
 (repeat' first
  | (refine run_ite rfl (fun h=>?_) (fun h=>?_)<;>(try simp (disch:=omega) only [zB,eqDs,aZ,Nat.reduceAdd,aA] at h)<;>(try (exfalso;omega)))
  | refine aG rfl ?_
  | refine aH rfl ?_
  | refine aB rfl ?_ ?_
  | (refine aD rfl ?_;first | refine rb ?_ | refine ri ?_ | refine bI ?_ ?_ | refine bL ?_)
  | refine aC rfl ?_)
 ·simp [lim];omega
 refine aU rfl (fun x:Int×List P2=>0≤x.1∧x.1≤l.length∧x.2.length=l.length∧mF x.1 (fun j=>ix x.2 j=ix l j)) (fun x=>[(4,.val (i64 x.1)),(3,.val (eT x.2)),(0,.val (eT l))]) (fun x=>(l.length - x.1).toNat) (0,List.replicate l.length ⟨0,0⟩) ⟨by omega,by simp,by simp,bE _⟩ ⟨rfl,bU (by simp),rfl,trivial⟩ rfl ?_
 rintro ⟨i,ys⟩ e ⟨h0,hN,hy,hP⟩
 dsimp only at h0 hN hy hP ⊢
 (repeat' first
  | (refine run_ite rfl (fun h=>?_) (fun h=>?_)<;>(try simp (disch:=omega) only [zB,eqDs,aZ,Nat.reduceAdd,aA] at h)<;>(try (exfalso;omega)))
  | refine aG rfl ?_
  | refine aH rfl ?_
  | refine iA rfl (UT (ix l i)) rfl ?_
  | (refine eG rfl (jZ (sz:=2) h0 (by omega) (by omega) (fun _=>rfl) (Nat.le_of_ble_eq_true rfl)) (bU (NY h0 (by omega))) ?_)
  | (refine aT rfl (Exists.intro (i+1,ys.set i.toNat (ix l i)) ⟨by dsimp only;omega,⟨by dsimp only;omega,by dsimp only;omega,by simpa using hy,zG h0 (by omega) hP⟩,aO (aA _ (by omega)),rfl,rfl,trivial⟩))
  | refine aB rfl ?_ ?_
  | (refine aD rfl ?_;first | refine rb ?_ | refine ri ?_ | refine bI ?_ ?_ | refine bL ?_)
  | refine aC rfl ?_)
 ·exact bU (by rw [gS hy (dF hP (by omega))])

theorem UU (p:Pk)(hs:SmP p):FunOk PP W AV lT [ePk p] [ePk p]:=by
 refine Jz (aI ?_)
 obtain ⟨h1,h2⟩:=hs
 (repeat' first
  | (refine run_ite rfl (fun h=>?_) (fun h=>?_)<;>(try simp (disch:=omega) only [zB,eqDs,aZ,Nat.reduceAdd,aA] at h)<;>(try (exfalso;omega)))
  | refine aG rfl ?_
  | refine aH rfl ?_
  | refine aE rfl (PA p.files h1) rfl ?_
  | refine aE rfl (Ro p.deps h2) rfl ?_
  | refine aB rfl ?_ ?_
  | (refine aD rfl ?_;first | refine rb ?_ | refine ri ?_ | refine bI ?_ ?_ | refine bL ?_)
  | refine aC rfl ?_)
 rfl
theorem Rp (l:List Pk)(hs:uQ l):FunOk PP W kH dS [cJ l] [cJ l]:=by
 refine Hk (aI ?_)
 have hl:=hs.1
 unfold lim at hl
 (repeat' first
  | (refine run_ite rfl (fun h=>?_) (fun h=>?_)<;>(try simp (disch:=omega) only [zB,eqDs,aZ,Nat.reduceAdd,aA] at h)<;>(try (exfalso;omega)))
  | refine aG rfl ?_
  | refine aH rfl ?_
  | refine aB rfl ?_ ?_
  | (refine aD rfl ?_;first | refine rb ?_ | refine ri ?_ | refine bI ?_ ?_ | refine bL ?_)
  | refine aC rfl ?_)
 ·simp [lim];omega
 refine aU rfl (fun x:Int×List Pk=>0≤x.1∧x.1≤l.length∧x.2.length=l.length∧mF x.1 (fun j=>ix x.2 j=ix l j)) (fun x=>[(4,.val (i64 x.1)),(3,.val (cJ x.2)),(0,.val (cJ l))]) (fun x=>(l.length - x.1).toNat) (0,List.replicate l.length ⟨0,0,[],[]⟩) ⟨by omega,by simp,by simp,bE _⟩ ⟨rfl,bU (by simp),rfl,trivial⟩ rfl ?_
 rintro ⟨i,ys⟩ e ⟨h0,hN,hy,hP⟩
 dsimp only at h0 hN hy hP ⊢
 (repeat' first
  | (refine run_ite rfl (fun h=>?_) (fun h=>?_)<;>(try simp (disch:=omega) only [zB,eqDs,aZ,Nat.reduceAdd,aA] at h)<;>(try (exfalso;omega)))
  | refine aG rfl ?_
  | refine aH rfl ?_
  | refine iA rfl (UU (ix l i) (uK hs h0 (by omega))) rfl ?_
  | (refine eG rfl (jZ (sz:=4) h0 (by omega) (by omega) (fun _=>rfl) (Nat.le_of_ble_eq_true rfl)) (bU (US h0 (by omega))) ?_)
  | (refine aT rfl (Exists.intro (i+1,ys.set i.toNat (ix l i)) ⟨by dsimp only;omega,⟨by dsimp only;omega,by dsimp only;omega,by simpa using hy,zG h0 (by omega) hP⟩,aO (aA _ (by omega)),rfl,rfl,trivial⟩))
  | refine aB rfl ?_ ?_
  | (refine aD rfl ?_;first | refine rb ?_ | refine ri ?_ | refine bI ?_ ?_ | refine bL ?_)
  | refine aC rfl ?_)
 ·exact bU (by rw [gS hy (dF hP (by omega))])
end
section
open Classical
variable {W:Wld}

/-! Sums. -/
def fA {α:Type}(f:α→Int)(xs:List α):Int:=(xs.map f).sum
theorem Aj {α:Type}[Inhabited α](f:α→Int)(xs:List α){i:Int}(h0:0≤i)(h1:i<xs.length):fA f (xs.take (i+1).toNat)=fA f (xs.take i.toNat)+f (ix xs i):=by
 rw [jO xs h0 h1]
 simp [fA]
theorem mP {α:Type}{f:α→Int}(hf:∀ x,0≤f x):∀ xs:List α,0≤fA f xs
 | []=>by simp [fA]
 | x::r=>by
  have:=mP hf r
  have:=hf x
  simp only [fA,List.map_cons,List.sum_cons] at *
  omega
theorem Hr {α:Type}{f:α→Int}(hf:∀ x,0≤f x)(xs:List α)(n:Nat):fA f (xs.take n)≤fA f xs:=by
 have h:fA f xs=fA f (xs.take n)+fA f (xs.drop n):=by
  conv=>lhs;rw [←List.take_append_drop n xs]
  simp only [fA,List.map_append,List.sum_append]
 have:=mP hf (xs.drop n)
 omega
theorem KC {α:Type}(f:α→Int)(xs:List α){n:Nat}(h:xs.length≤n):fA f (xs.take n)=fA f xs:=by rw [List.take_of_length_le h]

/-! How much comes in. -/
def mx:Int:=9223372036854775807
def cP (p:Pk):Int:=p.files.length+p.deps.length
def gT (ps:List Pk):Int:=ps.length+fA cP ps
theorem Br (p:Pk):0≤cP p:=by unfold cP;omega
theorem NZ (ps:List Pk):0≤gT ps:=by have:=mP Br ps;unfold gT;omega
def YF (p:Pk):Prop:=(p.files.length:Int)≤mx∧(p.deps.length:Int)≤mx
def UV (ps:List Pk):Prop:=(ps.length:Int)≤mx∧∀ p∈ps,YF p
noncomputable def Ek (left n:Int):Int:=if left<n then -1 else left - n
theorem cY {left n:Int}(h:left<n):Ek left n= -1:=if_pos h
theorem dZ {left n:Int}(h:n≤left):Ek left n=left - n:=if_neg (by omega)

theorem PB (l:List Int)(left:Int)(h:0≤left∧left≤1048576)(hb:(l.length:Int)≤mx):FunOk PP W wP kW [HJ l,i64 left] [i64 (Ek left l.length)]:=by
 refine Lt (aI ?_)
 unfold mx at hb
 (repeat' first
  | (refine run_ite rfl (fun h=>?_) (fun h=>?_)<;>(try simp (disch:=omega) only [zB,eqDs,aZ,Nat.reduceAdd,aA] at h)<;>(try (exfalso;omega)))
  | refine aG rfl ?_
  | refine aH rfl ?_
  | refine aB rfl ?_ ?_
  | (refine aD rfl ?_;first | refine rb ?_ | refine ri ?_ | refine bI ?_ ?_ | refine bL ?_)
  | refine aC rfl ?_)
 ·rw [cY (by omega)]
 ·rw [List.length_map,aA _ (by omega),dZ (by omega)]

theorem MJ (l:List P2)(left:Int)(h:0≤left∧left≤1048576)(hb:(l.length:Int)≤mx):FunOk PP W tH jE [eT l,i64 left] [i64 (Ek left l.length)]:=by
 refine Jp (aI ?_)
 unfold mx at hb
 (repeat' first
  | (refine run_ite rfl (fun h=>?_) (fun h=>?_)<;>(try simp (disch:=omega) only [zB,eqDs,aZ,Nat.reduceAdd,aA] at h)<;>(try (exfalso;omega)))
  | refine aG rfl ?_
  | refine aH rfl ?_
  | refine aB rfl ?_ ?_
  | (refine aD rfl ?_;first | refine rb ?_ | refine ri ?_ | refine bI ?_ ?_ | refine bL ?_)
  | refine aC rfl ?_)
 ·rw [cY (by omega)]
 ·rw [List.length_map,aA _ (by omega),dZ (by omega)]

theorem PD (l:List P2)(left:Int)(h:0≤left∧left≤1048576)(hb:(l.length:Int)≤mx):FunOk PP W wQ kX [eT l,i64 left] [i64 (Ek left l.length)]:=by
 refine Lv (aI ?_)
 unfold mx at hb
 (repeat' first
  | (refine run_ite rfl (fun h=>?_) (fun h=>?_)<;>(try simp (disch:=omega) only [zB,eqDs,aZ,Nat.reduceAdd,aA] at h)<;>(try (exfalso;omega)))
  | refine aG rfl ?_
  | refine aH rfl ?_
  | refine aB rfl ?_ ?_
  | (refine aD rfl ?_;first | refine rb ?_ | refine ri ?_ | refine bI ?_ ?_ | refine bL ?_)
  | refine aC rfl ?_)
 ·rw [cY (by omega)]
 ·rw [List.length_map,aA _ (by omega),dZ (by omega)]

theorem Rq (p:Pk)(left:Int)(h:0≤left∧left≤1048576)(hb:YF p):FunOk PP W AU mY [ePk p,i64 left] [i64 (Ek left (cP p))]:=by
 refine Oe (aI ?_)
 obtain ⟨b1,b2⟩:=hb
 unfold cP
 have f1:=MJ (W:=W) p.files left h b1
 by_cases c1:left<p.files.length
 ·rw [cY c1] at f1
  (repeat' first
  | (refine run_ite rfl (fun h=>?_) (fun h=>?_)<;>(try simp (disch:=omega) only [zB,eqDs,aZ,Nat.reduceAdd,aA] at h)<;>(try (exfalso;omega)))
  | refine aG rfl ?_
  | refine aH rfl ?_
  | refine aE rfl (f1) rfl ?_
  | refine aB rfl ?_ ?_
  | (refine aD rfl ?_;first | refine rb ?_ | refine ri ?_ | refine bI ?_ ?_ | refine bL ?_)
  | refine aC rfl ?_)
  rw [cY (by omega)]
 ·rw [dZ (by omega)] at f1
  have f2:=PD (W:=W) p.deps (left - p.files.length) (by omega) b2
  by_cases c2:left - p.files.length<p.deps.length
  ·rw [cY c2] at f2
   (repeat' first
  | (refine run_ite rfl (fun h=>?_) (fun h=>?_)<;>(try simp (disch:=omega) only [zB,eqDs,aZ,Nat.reduceAdd,aA] at h)<;>(try (exfalso;omega)))
  | refine aG rfl ?_
  | refine aH rfl ?_
  | refine aE rfl (f1) rfl ?_
  | refine aE rfl (f2) rfl ?_
  | refine aB rfl ?_ ?_
  | (refine aD rfl ?_;first | refine rb ?_ | refine ri ?_ | refine bI ?_ ?_ | refine bL ?_)
  | refine aC rfl ?_)
   rw [cY (by omega)]
  ·rw [dZ (by omega)] at f2
   (repeat' first
  | (refine run_ite rfl (fun h=>?_) (fun h=>?_)<;>(try simp (disch:=omega) only [zB,eqDs,aZ,Nat.reduceAdd,aA] at h)<;>(try (exfalso;omega)))
  | refine aG rfl ?_
  | refine aH rfl ?_
  | refine aE rfl (f1) rfl ?_
  | refine aE rfl (f2) rfl ?_
  | refine aB rfl ?_ ?_
  | (refine aD rfl ?_;first | refine rb ?_ | refine ri ?_ | refine bI ?_ ?_ | refine bL ?_)
  | refine aC rfl ?_)
   rw [dZ (by omega)];omega

theorem PE (l:List Pk)(left:Int)(h:0≤left∧left≤1048576)(hb:UV l):FunOk PP W wD kL [cJ l,i64 left] [i64 (Ek left (gT l))]:=by
 refine LT (aI ?_)
 obtain ⟨b1,b2⟩:=hb
 unfold mx at b1
 have hnn:=mP Br l
 (repeat' first
  | (refine run_ite rfl (fun h=>?_) (fun h=>?_)<;>(try simp (disch:=omega) only [zB,eqDs,aZ,Nat.reduceAdd,aA] at h)<;>(try (exfalso;omega)))
  | refine aG rfl ?_
  | refine aH rfl ?_
  | refine aB rfl ?_ ?_
  | (refine aD rfl ?_;first | refine rb ?_ | refine ri ?_ | refine bI ?_ ?_ | refine bL ?_)
  | refine aC rfl ?_)
 ·rw [cY (by unfold gT;omega)]
 rename_i h'
 refine aU rfl (fun i:Int=>0≤i∧i≤l.length∧0≤left - l.length - fA cP (l.take i.toNat)) (fun i=>[(5,.val (i64 i)),(1,.val (i64 (left - l.length - fA cP (l.take i.toNat)))),(0,.val (cJ l))]) (fun i=>(l.length - i).toNat) 0 ⟨by omega,by omega,by simp [fA];omega⟩ ⟨rfl,aO (by rw [List.length_map,aA _ (by omega)];simp [fA]),rfl,trivial⟩ rfl ?_
 rintro i e ⟨h0,hN,hP⟩
 have hs:=mP Br (l.take i.toNat)
 by_cases hi:i<l.length
 ·have f:=Rq (W:=W) (ix l i) (left - l.length - fA cP (l.take i.toNat)) (by omega) (b2 _ (oX h0 hi))
  have ht:=Aj cP l h0 hi
  have hle:=Hr Br l (i+1).toNat
  have hc:=Br (ix l i)
  by_cases c:left - l.length - fA cP (l.take i.toNat)<cP (ix l i)
  ·rw [cY c] at f
   (repeat' first
  | (refine run_ite rfl (fun h=>?_) (fun h=>?_)<;>(try simp (disch:=omega) only [zB,eqDs,aZ,Nat.reduceAdd,aA] at h)<;>(try (exfalso;omega)))
  | refine aG rfl ?_
  | refine aH rfl ?_
  | refine iA rfl (f) rfl ?_
  | refine aB rfl ?_ ?_
  | (refine aD rfl ?_;first | refine rb ?_ | refine ri ?_ | refine bI ?_ ?_ | refine bL ?_)
  | refine aC rfl ?_)
   rw [cY (by unfold gT;omega)]
  ·rw [dZ (by omega)] at f
   (repeat' first
  | (refine run_ite rfl (fun h=>?_) (fun h=>?_)<;>(try simp (disch:=omega) only [zB,eqDs,aZ,Nat.reduceAdd,aA] at h)<;>(try (exfalso;omega)))
  | refine aG rfl ?_
  | refine aH rfl ?_
  | refine iA rfl (f) rfl ?_
  | (refine aT rfl (Exists.intro (i+1) ⟨by omega,⟨by omega,by omega,by omega⟩,aO (aA _ (by omega)),aO (by omega),rfl,trivial⟩))
  | refine aB rfl ?_ ?_
  | (refine aD rfl ?_;first | refine rb ?_ | refine ri ?_ | refine bI ?_ ?_ | refine bL ?_)
  | refine aC rfl ?_)
 ·(repeat' first
  | (refine run_ite rfl (fun h=>?_) (fun h=>?_)<;>(try simp (disch:=omega) only [zB,eqDs,aZ,Nat.reduceAdd,aA] at h)<;>(try (exfalso;omega)))
  | refine aG rfl ?_
  | refine aH rfl ?_
  | refine aB rfl ?_ ?_
  | (refine aD rfl ?_;first | refine rb ?_ | refine ri ?_ | refine bI ?_ ?_ | refine bL ?_)
  | refine aC rfl ?_)
  rw [KC _ _ (by omega)] at hP
  rw [KC _ _ (by omega),dZ (by unfold gT;omega)]
  unfold gT
  omega
end
end V
end Go.Proofs.YtmgpamcpdblckaaGreatDoor
