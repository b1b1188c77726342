/-
Part 4 of the proof of the claimed statement (its last part holds the theorem, and says what is proved). Conditions: none.
-/
import Derived.Test.YtmgpamcpdblckaaGreatDoorM3
import Derived.Test.YtmgpamcpdblckaaGreatDoorProg
import Derived.KernelRfl
import Derived.Test.YtmgpamcpdblckaaGreatDoorChecked
import Derived.Tactics
import Derived.Tactics2
import Derived.WalkKit
import Derived.Below
import Derived.RegionTactic
import Derived.Lib.FrozenHead2
import Derived.Lib.OthersKept
set_option linter.all false
set_option maxRecDepth 100000
/-
The seat's own numbers: types, functions, how each is called. Written by a program.
-/
namespace Go.Proofs.YtmgpamcpdblckaaGreatDoor
namespace V
section

noncomputable abbrev PP:Program:=Tryz.prog
def tt:TT:= .n 123 ⟨2,32,[.sl [],.int .i64 0],(.struct [(0,22),(1,3)])⟩ (.n 64 ⟨1,8,[.bad],.other⟩ (.n 30 ⟨7,88,[.int .i64 0,.sl [],.int .i64 0,.bool false,.int .i64 0,.int .i64 0,.sl []],(.struct [(0,25),(3,4),(4,28)])⟩ (.n 15 ⟨1,8,[.bad],(.ptr 230)⟩ (.n 8 ⟨4,24,[.int .i64 0,.int .i64 0,.bool false,.int .u8 0],(.struct [(0,2),(1,3),(2,4),(3,6)])⟩ (.n 4 ⟨1,1,[.bool false],.bool⟩ (.n 2 ⟨1,8,[.int .i64 0],(.int .i64)⟩ (.n 1 ⟨1,8,[.bad],.other⟩ (.e) (.e)) (.n 3 ⟨1,8,[.int .i64 0],(.int .i64)⟩ (.e) (.e))) (.n 6 ⟨1,1,[.int .u8 0],(.int .u8)⟩ (.n 5 ⟨1,1,[.int .u8 0],(.int .u8)⟩ (.e) (.e)) (.n 7 ⟨4,24,[.int .i64 0,.int .i64 0,.bool false,.int .u8 0],(.struct [(0,2),(1,3),(2,4),(3,6)])⟩ (.e) (.e)))) (.n 12 ⟨1,8,[.int .u64 0],(.int .u64)⟩ (.n 10 ⟨1,16,[.str ⟨#[]⟩],.str⟩ (.n 9 ⟨1,16,[.str ⟨#[]⟩],.str⟩ (.e) (.e)) (.n 11 ⟨1,16,[.str ⟨#[]⟩],.str⟩ (.e) (.e))) (.n 14 ⟨2,24,[.str ⟨#[]⟩,.int .u64 0],(.struct [(0,9),(1,12)])⟩ (.n 13 ⟨2,24,[.str ⟨#[]⟩,.int .u64 0],(.struct [(0,9),(1,12)])⟩ (.e) (.e)) (.e)))) (.n 23 ⟨1,24,[.sl []],(.slice 3)⟩ (.n 19 ⟨1,8,[.bad],(.struct [(0,17)])⟩ (.n 17 ⟨1,8,[.bad],(.ptr 241)⟩ (.n 16 ⟨1,8,[.bad],(.ptr 233)⟩ (.e) (.e)) (.n 18 ⟨1,8,[.bad],(.struct [(0,17)])⟩ (.e) (.e))) (.n 21 ⟨1,4,[.int .i32 0],(.int .i32)⟩ (.n 20 ⟨1,16,[.bad],.other⟩ (.e) (.e)) (.n 22 ⟨1,24,[.sl []],(.slice 5)⟩ (.e) (.e)))) (.n 27 ⟨3,40,[.int .i64 0,.int .i64 0,.sl []],(.struct [(0,3),(1,3),(2,26)])⟩ (.n 25 ⟨3,40,[.int .i64 0,.sl [],.int .i64 0],(.struct [(0,3),(1,23),(2,3)])⟩ (.n 24 ⟨3,40,[.int .i64 0,.sl [],.int .i64 0],(.struct [(0,3),(1,23),(2,3)])⟩ (.e) (.e)) (.n 26 ⟨1,24,[.sl []],(.slice 80)⟩ (.e) (.e))) (.n 29 ⟨7,88,[.int .i64 0,.sl [],.int .i64 0,.bool false,.int .i64 0,.int .i64 0,.sl []],(.struct [(0,25),(3,4),(4,28)])⟩ (.n 28 ⟨3,40,[.int .i64 0,.int .i64 0,.sl []],(.struct [(0,3),(1,3),(2,26)])⟩ (.e) (.e)) (.e))))) (.n 48 ⟨1,8,[.bad],.other⟩ (.n 39 ⟨1,24,[.sl []],(.slice 100)⟩ (.n 35 ⟨1,8,[.bad],.other⟩ (.n 33 ⟨1,8,[.bad],.other⟩ (.n 31 ⟨1,24,[.sl []],(.slice 41)⟩ (.e) (.e)) (.n 34 ⟨1,8,[.bad],.other⟩ (.e) (.e))) (.n 37 ⟨1,8,[.bad],.other⟩ (.n 36 ⟨1,8,[.bad],.other⟩ (.e) (.e)) (.n 38 ⟨1,24,[.sl []],(.slice 97)⟩ (.e) (.e)))) (.n 44 ⟨1,8,[.bad],.other⟩ (.n 41 ⟨4,64,[.int .i64 0,.int .i64 0,.sl [],.sl []],(.struct [(0,3),(1,3),(2,38),(3,39)])⟩ (.n 40 ⟨4,64,[.int .i64 0,.int .i64 0,.sl [],.sl []],(.struct [(0,3),(1,3),(2,38),(3,39)])⟩ (.e) (.e)) (.n 43 ⟨1,8,[.bad],.other⟩ (.e) (.e))) (.n 46 ⟨1,8,[.bad],.other⟩ (.n 45 ⟨1,8,[.bad],.other⟩ (.e) (.e)) (.e)))) (.n 57 ⟨3,40,[.int .i64 0,.int .i64 0,.sl []],(.struct [(0,3),(1,3),(2,56)])⟩ (.n 54 ⟨1,8,[.bad],.other⟩ (.n 51 ⟨1,8,[.bad],.other⟩ (.n 50 ⟨1,8,[.bad],.other⟩ (.e) (.e)) (.n 53 ⟨1,8,[.bad],.other⟩ (.e) (.e))) (.n 56 ⟨1,24,[.sl []],(.slice 175)⟩ (.n 55 ⟨3,40,[.int .i64 0,.sl [],.int .i64 0],(.struct [(0,3),(1,23),(2,3)])⟩ (.e) (.e)) (.e))) (.n 61 ⟨1,24,[.sl []],(.slice 112)⟩ (.n 59 ⟨7,88,[.int .i64 0,.sl [],.int .i64 0,.bool false,.int .i64 0,.int .i64 0,.sl []],(.struct [(0,55),(3,4),(4,58)])⟩ (.n 58 ⟨3,40,[.int .i64 0,.int .i64 0,.sl []],(.struct [(0,3),(1,3),(2,56)])⟩ (.e) (.e)) (.n 60 ⟨7,88,[.int .i64 0,.sl [],.int .i64 0,.bool false,.int .i64 0,.int .i64 0,.sl []],(.struct [(0,55),(3,4),(4,58)])⟩ (.e) (.e))) (.n 63 ⟨1,8,[.bad],.other⟩ (.n 62 ⟨1,8,[.bad],.other⟩ (.e) (.e)) (.e)))))) (.n 94 ⟨1,8,[.bad],.other⟩ (.n 79 ⟨3,24,[.int .i64 0,.int .i64 0,.int .i64 0],(.struct [(0,3),(1,3),(2,3)])⟩ (.n 72 ⟨1,8,[.bad],.other⟩ (.n 68 ⟨1,8,[.bad],.other⟩ (.n 66 ⟨1,8,[.bad],.other⟩ (.n 65 ⟨1,8,[.bad],.other⟩ (.e) (.e)) (.n 67 ⟨1,8,[.bad],.other⟩ (.e) (.e))) (.n 70 ⟨1,8,[.bad],(.ptr 123)⟩ (.n 69 ⟨1,8,[.bad],.other⟩ (.e) (.e)) (.n 71 ⟨1,8,[.bad],.other⟩ (.e) (.e)))) (.n 76 ⟨1,8,[.bad],.other⟩ (.n 74 ⟨1,8,[.bad],.other⟩ (.n 73 ⟨1,8,[.bad],.other⟩ (.e) (.e)) (.n 75 ⟨1,8,[.bad],.other⟩ (.e) (.e))) (.n 78 ⟨1,8,[.bad],.other⟩ (.n 77 ⟨1,8,[.bad],.other⟩ (.e) (.e)) (.e)))) (.n 86 ⟨1,8,[.bad],.other⟩ (.n 83 ⟨1,8,[.bad],.other⟩ (.n 81 ⟨1,8,[.bad],.other⟩ (.n 80 ⟨3,24,[.int .i64 0,.int .i64 0,.int .i64 0],(.struct [(0,3),(1,3),(2,3)])⟩ (.e) (.e)) (.n 82 ⟨1,8,[.bad],.other⟩ (.e) (.e))) (.n 85 ⟨1,8,[.bad],.other⟩ (.n 84 ⟨1,8,[.bad],.other⟩ (.e) (.e)) (.e))) (.n 90 ⟨2,32,[.bad,.sl []],(.struct [(0,88),(1,22)])⟩ (.n 88 ⟨1,8,[.bad],(.ptr 90)⟩ (.n 87 ⟨1,8,[.bad],.other⟩ (.e) (.e)) (.n 89 ⟨2,32,[.bad,.sl []],(.struct [(0,88),(1,22)])⟩ (.e) (.e))) (.n 92 ⟨1,16,[.bad],.other⟩ (.n 91 ⟨1,16,[.bad],.other⟩ (.e) (.e)) (.e))))) (.n 109 ⟨1,24,[.sl []],(.slice 177)⟩ (.n 102 ⟨1,8,[.bad],.other⟩ (.n 98 ⟨1,8,[.bad],.other⟩ (.n 96 ⟨2,16,[.int .i64 0,.int .i64 0],(.struct [(0,3),(1,3)])⟩ (.n 95 ⟨1,8,[.bad],.other⟩ (.e) (.e)) (.n 97 ⟨2,16,[.int .i64 0,.int .i64 0],(.struct [(0,3),(1,3)])⟩ (.e) (.e))) (.n 100 ⟨2,16,[.int .i64 0,.int .i64 0],(.struct [(0,3),(1,3)])⟩ (.n 99 ⟨2,16,[.int .i64 0,.int .i64 0],(.struct [(0,3),(1,3)])⟩ (.e) (.e)) (.n 101 ⟨1,8,[.bad],.other⟩ (.e) (.e)))) (.n 106 ⟨1,8,[.bad],.other⟩ (.n 104 ⟨1,8,[.bad],.other⟩ (.n 103 ⟨1,8,[.bad],.other⟩ (.e) (.e)) (.n 105 ⟨1,8,[.bad],.other⟩ (.e) (.e))) (.n 108 ⟨1,8,[.bad],.other⟩ (.n 107 ⟨1,8,[.bad],.other⟩ (.e) (.e)) (.e)))) (.n 116 ⟨1,8,[.bad],.other⟩ (.n 113 ⟨1,8,[.bad],.other⟩ (.n 111 ⟨4,64,[.int .i64 0,.int .i64 0,.sl [],.sl []],(.struct [(0,3),(1,3),(2,109),(3,110)])⟩ (.n 110 ⟨1,24,[.sl []],(.slice 179)⟩ (.e) (.e)) (.n 112 ⟨4,64,[.int .i64 0,.int .i64 0,.sl [],.sl []],(.struct [(0,3),(1,3),(2,109),(3,110)])⟩ (.e) (.e))) (.n 115 ⟨1,8,[.bad],.other⟩ (.n 114 ⟨1,8,[.bad],.other⟩ (.e) (.e)) (.e))) (.n 120 ⟨1,8,[.bad],.other⟩ (.n 118 ⟨1,8,[.bad],.other⟩ (.n 117 ⟨1,8,[.bad],.other⟩ (.e) (.e)) (.n 119 ⟨1,8,[.bad],.other⟩ (.e) (.e))) (.n 122 ⟨2,32,[.sl [],.int .i64 0],(.struct [(0,22),(1,3)])⟩ (.n 121 ⟨1,8,[.bad],.other⟩ (.e) (.e)) (.e))))))) (.n 186 ⟨1,8,[.int .i64 0],(.int .i64)⟩ (.n 157 ⟨1,8,[.bad],.other⟩ (.n 140 ⟨1,8,[.bad],.other⟩ (.n 132 ⟨1,8,[.bad],.other⟩ (.n 128 ⟨1,8,[.bad],.other⟩ (.n 125 ⟨1,8,[.bad],.other⟩ (.n 124 ⟨1,8,[.bad],.other⟩ (.e) (.e)) (.n 127 ⟨1,8,[.bad],.other⟩ (.e) (.e))) (.n 130 ⟨1,8,[.bad],.other⟩ (.n 129 ⟨1,8,[.bad],.other⟩ (.e) (.e)) (.n 131 ⟨1,8,[.bad],.other⟩ (.e) (.e)))) (.n 136 ⟨1,8,[.bad],.other⟩ (.n 134 ⟨1,8,[.bad],.other⟩ (.n 133 ⟨1,8,[.bad],.other⟩ (.e) (.e)) (.n 135 ⟨1,8,[.bad],.other⟩ (.e) (.e))) (.n 138 ⟨1,8,[.bad],.other⟩ (.n 137 ⟨1,24,[.sl []],(.slice 9)⟩ (.e) (.e)) (.e)))) (.n 150 ⟨1,8,[.bad],.other⟩ (.n 146 ⟨1,8,[.bad],.other⟩ (.n 143 ⟨1,8,[.bad],.other⟩ (.n 142 ⟨1,8,[.bad],.other⟩ (.e) (.e)) (.n 144 ⟨1,8,[.bad],(.ptr 5)⟩ (.e) (.e))) (.n 148 ⟨1,8,[.bad],.other⟩ (.n 147 ⟨1,8,[.bad],.other⟩ (.e) (.e)) (.n 149 ⟨1,8,[.bad],.other⟩ (.e) (.e)))) (.n 154 ⟨1,8,[.bad],.other⟩ (.n 152 ⟨1,8,[.bad],.other⟩ (.n 151 ⟨1,8,[.bad],.other⟩ (.e) (.e)) (.n 153 ⟨1,8,[.bad],.other⟩ (.e) (.e))) (.n 156 ⟨1,8,[.bad],.other⟩ (.n 155 ⟨1,8,[.bad],.other⟩ (.e) (.e)) (.e))))) (.n 172 ⟨1,8,[.int .u64 0],(.int .u64)⟩ (.n 165 ⟨1,8,[.bad],.other⟩ (.n 161 ⟨1,8,[.bad],.other⟩ (.n 159 ⟨1,8,[.bad],.other⟩ (.n 158 ⟨1,8,[.bad],.other⟩ (.e) (.e)) (.n 160 ⟨1,8,[.bad],.other⟩ (.e) (.e))) (.n 163 ⟨1,8,[.bad],.other⟩ (.n 162 ⟨1,8,[.bad],.other⟩ (.e) (.e)) (.n 164 ⟨1,8,[.bad],.other⟩ (.e) (.e)))) (.n 169 ⟨1,8,[.bad],.other⟩ (.n 167 ⟨1,8,[.bad],.other⟩ (.n 166 ⟨1,8,[.bad],.other⟩ (.e) (.e)) (.n 168 ⟨1,8,[.bad],.other⟩ (.e) (.e))) (.n 171 ⟨1,8,[.bad],.other⟩ (.n 170 ⟨1,8,[.bad],.other⟩ (.e) (.e)) (.e)))) (.n 179 ⟨2,16,[.int .i64 0,.int .i64 0],(.struct [(0,3),(1,3)])⟩ (.n 176 ⟨1,8,[.bad],.other⟩ (.n 174 ⟨1,8,[.bad],.other⟩ (.n 173 ⟨1,8,[.bad],.other⟩ (.e) (.e)) (.n 175 ⟨3,24,[.int .i64 0,.int .i64 0,.int .i64 0],(.struct [(0,3),(1,3),(2,3)])⟩ (.e) (.e))) (.n 178 ⟨1,8,[.bad],.other⟩ (.n 177 ⟨2,16,[.int .i64 0,.int .i64 0],(.struct [(0,3),(1,3)])⟩ (.e) (.e)) (.e))) (.n 183 ⟨1,8,[.bad],.other⟩ (.n 181 ⟨1,8,[.bad],.other⟩ (.n 180 ⟨1,8,[.bad],.other⟩ (.e) (.e)) (.n 182 ⟨1,8,[.bad],.other⟩ (.e) (.e))) (.n 185 ⟨1,8,[.bad],.other⟩ (.n 184 ⟨1,8,[.bad],.other⟩ (.e) (.e)) (.e)))))) (.n 220 ⟨1,8,[.bad],.other⟩ (.n 205 ⟨3,48,[.str ⟨#[]⟩,.str ⟨#[]⟩,.bad],(.struct [(0,9),(1,9),(2,92)])⟩ (.n 195 ⟨1,8,[.bad],.other⟩ (.n 191 ⟨1,8,[.bad],.other⟩ (.n 189 ⟨1,8,[.bad],(.ptr 205)⟩ (.n 188 ⟨1,8,[.bad],.other⟩ (.e) (.e)) (.n 190 ⟨1,8,[.bad],.other⟩ (.e) (.e))) (.n 193 ⟨1,8,[.int .u64 0],(.int .u64)⟩ (.n 192 ⟨24,24,[.int .u8 0,.int .u8 0,.int .u8 0,.int .u8 0,.int .u8 0,.int .u8 0,.int .u8 0,.int .u8 0,.int .u8 0,.int .u8 0,.int .u8 0,.int .u8 0,.int .u8 0,.int .u8 0,.int .u8 0,.int .u8 0,.int .u8 0,.int .u8 0,.int .u8 0,.int .u8 0,.int .u8 0,.int .u8 0,.int .u8 0,.int .u8 0],(.array 24 5)⟩ (.e) (.e)) (.n 194 ⟨1,8,[.bad],.other⟩ (.e) (.e)))) (.n 202 ⟨1,8,[.bad],.other⟩ (.n 199 ⟨1,8,[.bad],.other⟩ (.n 197 ⟨1,8,[.bad],.other⟩ (.e) (.e)) (.n 200 ⟨1,8,[.bad],.other⟩ (.e) (.e))) (.n 204 ⟨3,48,[.str ⟨#[]⟩,.str ⟨#[]⟩,.bad],(.struct [(0,9),(1,9),(2,92)])⟩ (.n 203 ⟨1,8,[.bad],.other⟩ (.e) (.e)) (.e)))) (.n 212 ⟨1,8,[.bad],.other⟩ (.n 209 ⟨1,4,[.int .u32 0],(.int .u32)⟩ (.n 207 ⟨1,8,[.bad],.other⟩ (.n 206 ⟨1,8,[.bad],.other⟩ (.e) (.e)) (.n 208 ⟨20,160,[.int .u64 0,.int .u64 0,.int .u64 0,.int .u64 0,.int .u64 0,.int .u64 0,.int .u64 0,.int .u64 0,.int .u64 0,.int .u64 0,.int .u64 0,.int .u64 0,.int .u64 0,.int .u64 0,.int .u64 0,.int .u64 0,.int .u64 0,.int .u64 0,.int .u64 0,.int .u64 0],(.array 20 193)⟩ (.e) (.e))) (.n 211 ⟨1,8,[.bad],.other⟩ (.n 210 ⟨65,65,[.int .u8 0,.int .u8 0,.int .u8 0,.int .u8 0,.int .u8 0,.int .u8 0,.int .u8 0,.int .u8 0,.int .u8 0,.int .u8 0,.int .u8 0,.int .u8 0,.int .u8 0,.int .u8 0,.int .u8 0,.int .u8 0,.int .u8 0,.int .u8 0,.int .u8 0,.int .u8 0,.int .u8 0,.int .u8 0,.int .u8 0,.int .u8 0,.int .u8 0,.int .u8 0,.int .u8 0,.int .u8 0,.int .u8 0,.int .u8 0,.int .u8 0,.int .u8 0,.int .u8 0,.int .u8 0,.int .u8 0,.int .u8 0,.int .u8 0,.int .u8 0,.int .u8 0,.int .u8 0,.int .u8 0,.int .u8 0,.int .u8 0,.int .u8 0,.int .u8 0,.int .u8 0,.int .u8 0,.int .u8 0,.int .u8 0,.int .u8 0,.int .u8 0,.int .u8 0,.int .u8 0,.int .u8 0,.int .u8 0,.int .u8 0,.int .u8 0,.int .u8 0,.int .u8 0,.int .u8 0,.int .u8 0,.int .u8 0,.int .u8 0,.int .u8 0,.int .u8 0],(.array 65 5)⟩ (.e) (.e)) (.e))) (.n 217 ⟨1,8,[.bad],(.ptr 219)⟩ (.n 215 ⟨1,8,[.bad],.other⟩ (.n 214 ⟨1,8,[.bad],.other⟩ (.e) (.e)) (.n 216 ⟨1,8,[.bad],.other⟩ (.e) (.e))) (.n 219 ⟨1,16,[.str ⟨#[]⟩],(.struct [(0,9)])⟩ (.n 218 ⟨1,16,[.str ⟨#[]⟩],(.struct [(0,9)])⟩ (.e) (.e)) (.e))))) (.n 235 ⟨1,1,[.int .u8 0],(.int .u8)⟩ (.n 228 ⟨1,8,[.bad],(.ptr 248)⟩ (.n 224 ⟨32,32,[.int .u8 0,.int .u8 0,.int .u8 0,.int .u8 0,.int .u8 0,.int .u8 0,.int .u8 0,.int .u8 0,.int .u8 0,.int .u8 0,.int .u8 0,.int .u8 0,.int .u8 0,.int .u8 0,.int .u8 0,.int .u8 0,.int .u8 0,.int .u8 0,.int .u8 0,.int .u8 0,.int .u8 0,.int .u8 0,.int .u8 0,.int .u8 0,.int .u8 0,.int .u8 0,.int .u8 0,.int .u8 0,.int .u8 0,.int .u8 0,.int .u8 0,.int .u8 0],(.array 16 223)⟩ (.n 222 ⟨2,2,[.int .u8 0,.int .u8 0],(.struct [(0,5),(1,5)])⟩ (.n 221 ⟨256,256,[.int .u8 0,.int .u8 0,.int .u8 0,.int .u8 0,.int .u8 0,.int .u8 0,.int .u8 0,.int .u8 0,.int .u8 0,.int .u8 0,.int .u8 0,.int .u8 0,.int .u8 0,.int .u8 0,.int .u8 0,.int .u8 0,.int .u8 0,.int .u8 0,.int .u8 0,.int .u8 0,.int .u8 0,.int .u8 0,.int .u8 0,.int .u8 0,.int .u8 0,.int .u8 0,.int .u8 0,.int .u8 0,.int .u8 0,.int .u8 0,.int .u8 0,.int .u8 0,.int .u8 0,.int .u8 0,.int .u8 0,.int .u8 0,.int .u8 0,.int .u8 0,.int .u8 0,.int .u8 0,.int .u8 0,.int .u8 0,.int .u8 0,.int .u8 0,.int .u8 0,.int .u8 0,.int .u8 0,.int .u8 0,.int .u8 0,.int .u8 0,.int .u8 0,.int .u8 0,.int .u8 0,.int .u8 0,.int .u8 0,.int .u8 0,.int .u8 0,.int .u8 0,.int .u8 0,.int .u8 0,.int .u8 0,.int .u8 0,.int .u8 0,.int .u8 0,.int .u8 0,.int .u8 0,.int .u8 0,.int .u8 0,.int .u8 0,.int .u8 0,.int .u8 0,.int .u8 0,.int .u8 0,.int .u8 0,.int .u8 0,.int .u8 0,.int .u8 0,.int .u8 0,.int .u8 0,.int .u8 0,.int .u8 0,.int .u8 0,.int .u8 0,.int .u8 0,.int .u8 0,.int .u8 0,.int .u8 0,.int .u8 0,.int .u8 0,.int .u8 0,.int .u8 0,.int .u8 0,.int .u8 0,.int .u8 0,.int .u8 0,.int .u8 0,.int .u8 0,.int .u8 0,.int .u8 0,.int .u8 0,.int .u8 0,.int .u8 0,.int .u8 0,.int .u8 0,.int .u8 0,.int .u8 0,.int .u8 0,.int .u8 0,.int .u8 0,.int .u8 0,.int .u8 0,.int .u8 0,.int .u8 0,.int .u8 0,.int .u8 0,.int .u8 0,.int .u8 0,.int .u8 0,.int .u8 0,.int .u8 0,.int .u8 0,.int .u8 0,.int .u8 0,.int .u8 0,.int .u8 0,.int .u8 0,.int .u8 0,.int .u8 0,.int .u8 0,.int .u8 0,.int .u8 0,.int .u8 0,.int .u8 0,.int .u8 0,.int .u8 0,.int .u8 0,.int .u8 0,.int .u8 0,.int .u8 0,.int .u8 0,.int .u8 0,.int .u8 0,.int .u8 0,.int .u8 0,.int .u8 0,.int .u8 0,.int .u8 0,.int .u8 0,.int .u8 0,.int .u8 0,.int .u8 0,.int .u8 0,.int .u8 0,.int .u8 0,.int .u8 0,.int .u8 0,.int .u8 0,.int .u8 0,.int .u8 0,.int .u8 0,.int .u8 0,.int .u8 0,.int .u8 0,.int .u8 0,.int .u8 0,.int .u8 0,.int .u8 0,.int .u8 0,.int .u8 0,.int .u8 0,.int .u8 0,.int .u8 0,.int .u8 0,.int .u8 0,.int .u8 0,.int .u8 0,.int .u8 0,.int .u8 0,.int .u8 0,.int .u8 0,.int .u8 0,.int .u8 0,.int .u8 0,.int .u8 0,.int .u8 0,.int .u8 0,.int .u8 0,.int .u8 0,.int .u8 0,.int .u8 0,.int .u8 0,.int .u8 0,.int .u8 0,.int .u8 0,.int .u8 0,.int .u8 0,.int .u8 0,.int .u8 0,.int .u8 0,.int .u8 0,.int .u8 0,.int .u8 0,.int .u8 0,.int .u8 0,.int .u8 0,.int .u8 0,.int .u8 0,.int .u8 0,.int .u8 0,.int .u8 0,.int .u8 0,.int .u8 0,.int .u8 0,.int .u8 0,.int .u8 0,.int .u8 0,.int .u8 0,.int .u8 0,.int .u8 0,.int .u8 0,.int .u8 0,.int .u8 0,.int .u8 0,.int .u8 0,.int .u8 0,.int .u8 0,.int .u8 0,.int .u8 0,.int .u8 0,.int .u8 0,.int .u8 0,.int .u8 0,.int .u8 0,.int .u8 0,.int .u8 0,.int .u8 0,.int .u8 0,.int .u8 0,.int .u8 0,.int .u8 0,.int .u8 0,.int .u8 0,.int .u8 0,.int .u8 0,.int .u8 0,.int .u8 0,.int .u8 0,.int .u8 0,.int .u8 0,.int .u8 0,.int .u8 0,.int .u8 0,.int .u8 0,.int .u8 0,.int .u8 0,.int .u8 0],(.array 256 5)⟩ (.e) (.e)) (.n 223 ⟨2,2,[.int .u8 0,.int .u8 0],(.struct [(0,5),(1,5)])⟩ (.e) (.e))) (.n 226 ⟨64,64,[.int .u8 0,.int .u8 0,.int .u8 0,.int .u8 0,.int .u8 0,.int .u8 0,.int .u8 0,.int .u8 0,.int .u8 0,.int .u8 0,.int .u8 0,.int .u8 0,.int .u8 0,.int .u8 0,.int .u8 0,.int .u8 0,.int .u8 0,.int .u8 0,.int .u8 0,.int .u8 0,.int .u8 0,.int .u8 0,.int .u8 0,.int .u8 0,.int .u8 0,.int .u8 0,.int .u8 0,.int .u8 0,.int .u8 0,.int .u8 0,.int .u8 0,.int .u8 0,.int .u8 0,.int .u8 0,.int .u8 0,.int .u8 0,.int .u8 0,.int .u8 0,.int .u8 0,.int .u8 0,.int .u8 0,.int .u8 0,.int .u8 0,.int .u8 0,.int .u8 0,.int .u8 0,.int .u8 0,.int .u8 0,.int .u8 0,.int .u8 0,.int .u8 0,.int .u8 0,.int .u8 0,.int .u8 0,.int .u8 0,.int .u8 0,.int .u8 0,.int .u8 0,.int .u8 0,.int .u8 0,.int .u8 0,.int .u8 0,.int .u8 0,.int .u8 0],(.array 64 5)⟩ (.n 225 ⟨32,32,[.int .u8 0,.int .u8 0,.int .u8 0,.int .u8 0,.int .u8 0,.int .u8 0,.int .u8 0,.int .u8 0,.int .u8 0,.int .u8 0,.int .u8 0,.int .u8 0,.int .u8 0,.int .u8 0,.int .u8 0,.int .u8 0,.int .u8 0,.int .u8 0,.int .u8 0,.int .u8 0,.int .u8 0,.int .u8 0,.int .u8 0,.int .u8 0,.int .u8 0,.int .u8 0,.int .u8 0,.int .u8 0,.int .u8 0,.int .u8 0,.int .u8 0,.int .u8 0],(.array 32 5)⟩ (.e) (.e)) (.n 227 ⟨1,8,[.bad],(.ptr 245)⟩ (.e) (.e)))) (.n 232 ⟨0,0,[],(.struct [(0,231)])⟩ (.n 230 ⟨4,40,[.bad,.bad,.bad,.str ⟨#[]⟩],(.struct [(0,17),(1,17),(2,17),(3,9)])⟩ (.n 229 ⟨4,40,[.bad,.bad,.bad,.str ⟨#[]⟩],(.struct [(0,17),(1,17),(2,17),(3,9)])⟩ (.e) (.e)) (.n 231 ⟨0,0,[],(.array 0 16)⟩ (.e) (.e))) (.n 234 ⟨1,8,[.bad],.other⟩ (.n 233 ⟨0,0,[],(.struct [(0,231)])⟩ (.e) (.e)) (.e)))) (.n 242 ⟨1,8,[.bad],.other⟩ (.n 239 ⟨1,4,[.int .i32 0],(.int .i32)⟩ (.n 237 ⟨1,8,[.bad],.other⟩ (.n 236 ⟨1,1,[.int .u8 0],(.int .u8)⟩ (.e) (.e)) (.n 238 ⟨1,4,[.int .i32 0],(.int .i32)⟩ (.e) (.e))) (.n 241 ⟨11,48,[.int .u64 0,.int .u64 0,.int .u32 0,.int .u8 0,.int .u8 0,.int .u8 0,.int .u8 0,.bad,.bad,.int .i32 0,.int .i32 0],(.struct [(0,12),(1,12),(2,209),(3,235),(4,5),(5,5),(6,236),(7,237),(8,144),(9,238),(10,239)])⟩ (.n 240 ⟨11,48,[.int .u64 0,.int .u64 0,.int .u32 0,.int .u8 0,.int .u8 0,.int .u8 0,.int .u8 0,.bad,.bad,.int .i32 0,.int .i32 0],(.struct [(0,12),(1,12),(2,209),(3,235),(4,5),(5,5),(6,236),(7,237),(8,144),(9,238),(10,239)])⟩ (.e) (.e)) (.e))) (.n 246 ⟨1,24,[.sl []],(.slice 92)⟩ (.n 244 ⟨2,32,[.str ⟨#[]⟩,.bad],(.struct [(0,9),(1,92)])⟩ (.n 243 ⟨1,8,[.bad],.other⟩ (.e) (.e)) (.n 245 ⟨2,32,[.str ⟨#[]⟩,.bad],(.struct [(0,9),(1,92)])⟩ (.e) (.e))) (.n 248 ⟨2,40,[.str ⟨#[]⟩,.sl []],(.struct [(0,9),(1,246)])⟩ (.n 247 ⟨2,40,[.str ⟨#[]⟩,.sl []],(.struct [(0,9),(1,246)])⟩ (.e) (.e)) (.e)))))))
abbrev n_l_FnAddHas:Nat:=6
abbrev mH:Nat:=11
abbrev nD:Nat:=13
abbrev nE:Nat:=14
abbrev eK:Nat:=15
abbrev rB:Nat:=16
abbrev sD:Nat:=17
abbrev jJ:Nat:=18
abbrev pO:Nat:=19
abbrev iY:Nat:=20
abbrev rC:Nat:=22
abbrev nF:Nat:=23
abbrev tN:Nat:=33
abbrev pP:Nat:=34
abbrev rD:Nat:=35
abbrev aH:Nat:=36
abbrev pQ:Nat:=37
abbrev kP:Nat:=38
abbrev pR:Nat:=39
abbrev nG:Nat:=40
abbrev rE:Nat:=41
abbrev hH:Nat:=42
abbrev tO:Nat:=43
abbrev iZ:Nat:=44
abbrev rF:Nat:=46
abbrev tP:Nat:=47
abbrev nH:Nat:=48
abbrev kQ:Nat:=49
abbrev nI:Nat:=50
abbrev sE:Nat:=51
abbrev iH:Nat:=56
abbrev mI:Nat:=57
abbrev tQ:Nat:=58
abbrev tR:Nat:=59
abbrev EZ:Nat:=60
abbrev tS:Nat:=61
abbrev cG:Nat:=63
abbrev rG:Nat:=79
abbrev kR:Nat:=80
abbrev nJ:Nat:=81
abbrev pS:Nat:=82
abbrev tT:Nat:=83
abbrev sF:Nat:=84
abbrev jK:Nat:=85
abbrev mJ:Nat:=86
abbrev lA:Nat:=87
abbrev xF:Nat:=88
abbrev pW:Nat:=89
abbrev rH:Nat:=90
abbrev lU:Nat:=91
abbrev mK:Nat:=92
abbrev cX:Nat:=93
abbrev tU:Nat:=94
abbrev pX:Nat:=95
abbrev lM:Nat:=96
abbrev sZ:Nat:=97
abbrev jA:Nat:=98
abbrev mL:Nat:=99
abbrev oO:Nat:=100
abbrev lB:Nat:=101
abbrev pT:Nat:=104
abbrev jL:Nat:=105
abbrev dL:Nat:=106
abbrev pY:Nat:=107
abbrev tV:Nat:=108
abbrev pU:Nat:=110
abbrev eX:Nat:=111
abbrev rI:Nat:=126
abbrev sG:Nat:=127
abbrev rJ:Nat:=128
abbrev tW:Nat:=129
abbrev lC:Nat:=130
abbrev kS:Nat:=131
abbrev gW:Nat:=140
abbrev xG:Nat:=147
abbrev jM:Sig:=⟨[.v false [.r]],[.nbox [.r,.s]]⟩
abbrev hM:Sig:=⟨[.box false [.r,.s],.v false [.s],.v false [.s]],[.v true [.s,.s,.o false ⟨2,false⟩,.o false ⟨2,false⟩]]⟩
abbrev fI:Sig:=⟨[.box false [.r,.s]],[.v true [.s,.s,.o false ⟨2,false⟩,.o false ⟨2,false⟩]]⟩
abbrev fJ:Sig:=⟨[.v false [.s],.v false [.s],.v false [.b]],[.v true [.s,.s,.o false ⟨3,false⟩],.v false [.s]]⟩
abbrev gD:Sig:=⟨[.box false [.r,.s]],[.v true [.s,.s,.o false ⟨3,false⟩]]⟩
abbrev eC:Sig:=⟨[.v false [.s]],[.v true [.s,.s,.r,.r],.v false [.s]]⟩
abbrev lV:Sig:=⟨[.v false [.s],.v false [.s]],[.v false [.r]]⟩
abbrev iI:Sig:=⟨[.v false [.b]],[.v false [.r]]⟩
abbrev dZ:Sig:=⟨[.v true [.s,.s,.b,.b]],[.v true [.s,.s,.o false ⟨2,false⟩,.o false ⟨2,false⟩]]⟩
abbrev jN:Sig:=⟨[.v true [.s,.b,.s,.s,.s,.s,.b],.v false [.r],.v false [.s]],[.v false [.r],.v false [.s]]⟩
abbrev gF:Sig:=⟨[.v true [.s,.s,.b],.v false [.s]],[.v true [.s,.s,.r,.r],.v false [.s]]⟩
abbrev iJ:Sig:=⟨[.box false [.r,.s]],[.v true [.s,.r,.s]]⟩
abbrev iK:Sig:=⟨[.box false [.r,.s]],[.v false [.o false ⟨1,false⟩]]⟩
abbrev Je:Sig:=⟨[.v false [.o false ⟨4,false⟩],.v true [.s,.s,.b,.b]],[.v false [.o false ⟨4,false⟩],.v false [.s]]⟩
abbrev bL:Sig:=⟨[.v false [.b],.v true [.s,.s,.b,.b],.clo cG],[.v false [.s],.v false [.s]]⟩
abbrev pZ:Sig:=⟨[.v false [.o false ⟨4,false⟩],.v false [.s],.v false [.o false ⟨4,false⟩]],[.v false [.o false ⟨4,false⟩]]⟩
abbrev gX:Sig:=⟨[.v false [.s],.v false [.s]],[.v false [.r]]⟩
abbrev jO:Sig:=⟨[.box false [.r,.s]],[.v false [.o true ⟨4,false⟩]]⟩
abbrev eD:Sig:=⟨[.box false [.r,.s]],[.v false [.o true ⟨4,false⟩]]⟩
abbrev fK:Sig:=⟨[.v false [.r],.v true [.s,.s,.r,.r]],[.v false [.o true ⟨4,false⟩]]⟩
abbrev fM:Sig:=⟨[.v false [.b],.v false [.b]],[.v false [.s]]⟩
abbrev fN:Sig:=⟨[.v true [.s,.b,.s,.s,.s,.s,.b]],[.v false [.s]]⟩
abbrev fO:Sig:=⟨[.v false [.b]],[.v false [.s]]⟩
abbrev cN:Sig:=⟨[.v true [.s,.s,.b],.v false [.s]],[.v true [.s,.s,.o false ⟨2,false⟩,.o false ⟨2,false⟩],.v false [.s]]⟩
abbrev kT:Sig:=⟨[.v true [.s,.s,.b,.b]],[.v false [.s]]⟩
abbrev jP:Sig:=⟨[.v true [.s,.s,.b,.b],.v true [.s,.s,.b,.b]],[.v false [.s]]⟩
abbrev dD:Sig:=⟨[.v false [.r]],[.v true [.s,.r,.s,.s,.s,.s,.r],.v false [.r],.v false [.s]]⟩
abbrev gG:Sig:=⟨[.v true [.s,.r,.s,.s,.s,.s,.r],.v false [.r],.v false [.s]],[.v false [.r],.v false [.s]]⟩
abbrev vF:Sig:=⟨[.v true [.s,.b,.s,.s,.s,.s,.b],.v false [.b],.v false [.s]],[.v false [.o false ⟨4,false⟩],.v false [.s]]⟩
abbrev kU:Sig:=⟨[.v false [.b],.v true [.s,.s,.b,.b]],[.v false [.s]]⟩
abbrev fP:Sig:=⟨[.v false [.b]],[.v false [.s]]⟩
abbrev gH:Sig:=⟨[.box false [.r,.s]],[.v true [.s,.r,.s,.s,.s,.s,.r],.v false [.r]]⟩
abbrev iL:Sig:=⟨[.box false [.r,.s],.v false [.r]],[.v false [.r]]⟩
abbrev aF:Sig:=⟨[.box false [.r,.s],.v false [.s]],[.v false [.s]]⟩
abbrev eE:Sig:=⟨[.v false [.b],.v false [.s],.v false [.s]],[.v false [.s]]⟩
abbrev hO:Sig:=⟨[.v false [.b]],[.v false [.s]]⟩
abbrev iM:Sig:=⟨[.v true [.s,.b,.s,.s,.s,.s,.b]],[.v false [.s]]⟩
abbrev cM:Sig:=⟨[.v false [.b],.v true [.s,.s,.s]],[.v false [.s]]⟩
abbrev jQ:Sig:=⟨[.v true [.s,.s,.b,.b]],[.v true [.s,.s,.s]]⟩
abbrev rK:Sig:=⟨[.v true [.s,.s,.b,.b]],[.v true [.s,.s,.o false ⟨2,false⟩,.o false ⟨2,false⟩]]⟩
abbrev jR:Sig:=⟨[.v true [.s,.b,.s]],[.v false [.s]]⟩
abbrev fQ:Sig:=⟨[.v true [.s,.s,.b]],[.v false [.s]]⟩
abbrev eF:Sig:=⟨[.v false [.s]],[.v true [.s,.s,.o false ⟨2,false⟩,.o false ⟨2,false⟩],.v false [.s]]⟩
abbrev fR:Sig:=⟨[.v true [.s,.s,.b]],[.v false [.s]]⟩
abbrev jS:Sig:=⟨[.v true [.s,.s,.b,.b]],[.v false [.s]]⟩
abbrev dS:Sig:=⟨[.v true [.s,.s,.b,.b]],[.v false [.s]]⟩
abbrev Bf:Sig:=⟨[.v false [.b]],[.v false [.o false ⟨4,false⟩]]⟩
abbrev jT:Sig:=⟨[.v true [.s,.b,.s]],[.v false [.s]]⟩
abbrev cH:Sig:=⟨[.v true [.s,.s,.b,.b],.v true [.s,.s,.b,.b]],[.v false [.s]]⟩
abbrev jU:Sig:=⟨[.v true [.s,.s,.b,.b]],[.v false [.s]]⟩
abbrev eL:Sig:=⟨[.v false [.s],.v false [.s],.v false [.s],.v false [.s]],[.v false [.s]]⟩
abbrev eA:Sig:=⟨[.v true [.s,.s,.b],.v true [.s,.s,.b]],[.v false [.s]]⟩
abbrev dN:Sig:=⟨[.v false [.b],.v true [.s,.s,.s]],[.v false [.s]]⟩
abbrev lW:Sig:=⟨[.v false [.s]],[.v false [.s]]⟩
abbrev qA:Sig:=⟨[.v false [.b]],[.v false [.o true ⟨2,false⟩]]⟩
abbrev rL:Sig:=⟨[.v false [.b]],[.v false [.o true ⟨2,false⟩]]⟩
abbrev cA:Sig:=⟨[.v false [.s],.v false [.s],.v false [.s]],[.v false [.s]]⟩
abbrev jV:Sig:=⟨[.v false [.b]],[.v false [.s]]⟩
abbrev eM:Sig:=⟨[.v false [.s]],[.v false [.s],.v false [.s]]⟩
abbrev kD:Sig:=⟨[.v false [.s],.v false [.s]],[.v false [.s],.v false [.s],.v false [.s]]⟩
abbrev dG:Sig:=⟨[.v false [.s]],[.v false [.s],.v false [.x]]⟩
abbrev fS:Sig:=⟨[.v false [.s]],[.v false [.s]]⟩
abbrev iN:Sig:=⟨[.v false [.s]],[.v false [.s]]⟩
abbrev hU:Sig:=⟨[.v false [.s],.v false [.s],.v false [.s]],[.v false [.s]]⟩
abbrev hY:Sig:=⟨[.v false [.s],.v false [.s]],[.v false [.s]]⟩
abbrev eR:Sig:=⟨[.v false [.s]],[.v false [.s]]⟩
abbrev jW:Sig:=⟨[.v false [.b]],[.v false [.s]]⟩
abbrev gI:Sig:=⟨[.v false [.b]],[.v false [.s]]⟩
abbrev cC:Sig:=⟨[.v false [.s],.v false [.s]],[.v false [.s]]⟩
abbrev jX:Sig:=⟨[.v false [.s]],[.v false [.s]]⟩
abbrev iO:Sig:=⟨[.v false [.b]],[.v false [.s]]⟩
abbrev jY:Sig:=⟨[.v false [.s],.v false [.b]],[.v false [.s]]⟩
abbrev dO:Sig:=⟨[.v false [.b],.v false [.b]],[.v false [.s]]⟩
abbrev cU:Sig:=⟨[.v false [.s]],[.v false [.s]]⟩
def sigs:Tr (List Sig):= .n 80 [eD] (.n 40 [fK] (.n 22 [kU] (.n 16 [kT] (.n 14 [fO] (.n 13 [fN] (.n 11 [fM] (.e) (.e)) (.e)) (.n 15 [cN] (.e) (.e))) (.n 19 [gG] (.n 18 [dD] (.n 17 [jP] (.e) (.e)) (.e)) (.n 20 [vF] (.e) (.e)))) (.n 36 [aF] (.n 34 [gH] (.n 33 [jM] (.n 23 [fP] (.e) (.e)) (.e)) (.n 35 [iL] (.e) (.e))) (.n 38 [eE] (.n 37 [hM] (.e) (.e)) (.n 39 [hO] (.e) (.e))))) (.n 51 [jS] (.n 46 [iI] (.n 43 [jQ] (.n 42 [cM] (.n 41 [iM] (.e) (.e)) (.e)) (.n 44 [rK] (.e) (.e))) (.n 49 [eF] (.n 48 [fQ] (.n 47 [jR] (.e) (.e)) (.e)) (.n 50 [fR] (.e) (.e)))) (.n 60 [Je] (.n 58 [jN] (.n 57 [fI] (.n 56 [dS] (.e) (.e)) (.e)) (.n 59 [Bf] (.e) (.e))) (.n 63 [cH] (.n 61 [jT] (.e) (.e)) (.n 79 [iJ] (.e) (.e)))))) (.n 99 [fS] (.n 90 [rL] (.n 85 [eL] (.n 83 [jO] (.n 82 [gD] (.n 81 [fJ] (.e) (.e)) (.e)) (.n 84 [jU] (.e) (.e))) (.n 88 [lW] (.n 87 [dN] (.n 86 [eA] (.e) (.e)) (.e)) (.n 89 [qA] (.e) (.e)))) (.n 95 [gX] (.n 93 [cA] (.n 92 [dZ] (.n 91 [gF] (.e) (.e)) (.e)) (.n 94 [jV] (.e) (.e))) (.n 97 [kD] (.n 96 [eM] (.e) (.e)) (.n 98 [dG] (.e) (.e))))) (.n 111 [cC] (.n 106 [bL] (.n 104 [hY] (.n 101 [hU] (.n 100 [iN] (.e) (.e)) (.e)) (.n 105 [eR] (.e) (.e))) (.n 108 [jW] (.n 107 [pZ] (.e) (.e)) (.n 110 [gI] (.e) (.e)))) (.n 130 [dO] (.n 128 [iO] (.n 127 [jX] (.n 126 [iK] (.e) (.e)) (.e)) (.n 129 [jY] (.e) (.e))) (.n 140 [cU] (.n 131 [eC] (.e) (.e)) (.n 147 [lV] (.e) (.e))))))
def fE:List Nat:=[97,100,80]
theorem SX:tt.all (Iy PP)=true:=by kernel_rfl
theorem aP {C:Cfg}(h:C.tt=tt):CfgOk PP C:=fun t ti ht=>Le (Tr.get_all (p:=Iy PP) SX (by rw [←h];exact ht))
theorem RP:fE.all (fun t=>match tt.get t with | some ti=>JS PP t ti.zero | none=>true)=true:=by kernel_rfl
theorem bB {C:Cfg}(ht:C.tt=tt)(he:C.eqt=fE):EqOk PP C:=Om (by unfold Cfg.ty;rw [ht,he];exact RP)
theorem mixed:PP.follows .mixedOrders=true:=by kernel_rfl

end
section

abbrev oP:Sig:=⟨[.v false [.o true ⟨4,true⟩],.v true [.s,.s,.b,.b]],[.v false [.o true ⟨4,true⟩],.v false [.s]]⟩
abbrev jB:Sig:=⟨[.v false [.b]],[.v false [.o true ⟨4,true⟩]]⟩
abbrev dF:Sig:=⟨[.v true [.s,.s,.b,.b]],[.v true [.s,.s,.o true ⟨2,true⟩,.o true ⟨2,true⟩]]⟩
abbrev eY:Sig:=⟨[.v false [.b]],[.v false [.o true ⟨2,true⟩]]⟩
abbrev gJ:Sig:=⟨[.v false [.b]],[.v false [.o true ⟨2,true⟩]]⟩
abbrev eZ:Sig:=⟨[.v false [.o true ⟨4,true⟩],.v false [.s],.v false [.o true ⟨4,true⟩]],[.v false [.o true ⟨4,true⟩]]⟩
abbrev dH:Sig:=⟨[.v true [.s,.b,.s,.s,.s,.s,.b],.v false [.b],.v false [.s]],[.v false [.o true ⟨4,true⟩],.v false [.s]]⟩
abbrev mM:Sig:=⟨[.v false [.r]],[.v false [.s]]⟩
def Bg:Tr (List Sig):= .n 80 [eD] (.n 40 [fK] (.n 22 [kU] (.n 16 [kT] (.n 14 [fO] (.n 13 [fN] (.n 11 [fM] (.e) (.e)) (.e)) (.n 15 [cN] (.e) (.e))) (.n 19 [gG] (.n 18 [dD] (.n 17 [jP] (.e) (.e)) (.e)) (.n 20 [dH,vF] (.e) (.e)))) (.n 36 [aF] (.n 34 [gH] (.n 33 [jM] (.n 23 [fP] (.e) (.e)) (.e)) (.n 35 [iL] (.e) (.e))) (.n 38 [eE] (.n 37 [hM] (.e) (.e)) (.n 39 [hO] (.e) (.e))))) (.n 51 [jS] (.n 46 [iI] (.n 43 [jQ] (.n 42 [cM] (.n 41 [iM] (.e) (.e)) (.e)) (.n 44 [dF,rK] (.e) (.e))) (.n 49 [eF] (.n 48 [fQ] (.n 47 [jR] (.e) (.e)) (.e)) (.n 50 [fR] (.e) (.e)))) (.n 60 [oP,Je] (.n 58 [jN] (.n 57 [fI] (.n 56 [dS] (.e) (.e)) (.e)) (.n 59 [jB,Bf] (.e) (.e))) (.n 63 [cH] (.n 61 [jT] (.e) (.e)) (.n 79 [iJ] (.e) (.e)))))) (.n 99 [fS] (.n 90 [gJ,rL] (.n 85 [eL] (.n 83 [jO] (.n 82 [gD] (.n 81 [fJ] (.e) (.e)) (.e)) (.n 84 [jU] (.e) (.e))) (.n 88 [lW] (.n 87 [dN] (.n 86 [eA] (.e) (.e)) (.e)) (.n 89 [eY,qA] (.e) (.e)))) (.n 95 [gX] (.n 93 [cA] (.n 92 [dZ] (.n 91 [gF] (.e) (.e)) (.e)) (.n 94 [jV] (.e) (.e))) (.n 97 [kD] (.n 96 [eM] (.e) (.e)) (.n 98 [dG] (.e) (.e))))) (.n 111 [cC] (.n 106 [bL] (.n 104 [hY] (.n 101 [hU] (.n 100 [iN] (.e) (.e)) (.e)) (.n 105 [eR] (.e) (.e))) (.n 108 [jW] (.n 107 [eZ,pZ] (.e) (.e)) (.n 110 [gI] (.e) (.e)))) (.n 130 [dO] (.n 128 [iO] (.n 127 [jX] (.n 126 [iK] (.e) (.e)) (.e)) (.n 129 [jY] (.e) (.e))) (.n 140 [cU] (.n 131 [eC] (.e) (.e)) (.n 147 [lV] (.e) (.e))))))

end
section

def p_s_l6Open:PC:= .seq (.ss [.mv 2 (.c (.bad))]) (.seq (.seq (.ss [.mv 3 (.t 0),.len 4 (.t 3),.bin 5 .gtr (.t 4) (.c (.int .i64 2000))]) (.cond (.t 5) (.ss [.mv 6 (.t 0),.lsl 7 1 (.t 6) none (some (.c (.int .i64 2000))) none,.mv 0 (.t 7)]) (.skip))) (.seq (.ss [.mv 8 (.t 0),.bld 9 [.sl [],.int .i64 0] [(0,(.t 8))],.mv 10 (.t 9),.nop]) (.ret [10])))
def Bh:Cfg:={tt:=tt,sigs:=sigs,mv:=false,bm:=[],eqt:=fE,keep:=[true,false,true,false,false,true,false,false,false,false,true],n:=11,pin:=[],fail:=[],fz:=[] }
theorem Hp:bP Bh Tryz.f33 jM=some p_s_l6Open:=by kernel_rfl
theorem Hq {W:Wld}{ins outs:List (List D)}(h:pwp (FunOk PP W) p_s_l6Open (aS outs) (envL ins)):FunOk PP W tN jM ins outs:=aQ (C:=Bh) (aP rfl) (bB rfl rfl) mixed Tryz.func33 (by kernel_rfl) (by kernel_rfl) Hp h

def p_s_l71Pkg:PC:= .seq (.ss [.bld 6 [.int .i64 0,.int .i64 0,.sl [],.sl []] []]) (.seq (.ss [.mv 11 (.t 1),.mv 12 (.t 2),.lit 13 0 [.int .i64 0,.int .i64 0] [],.lit 14 0 [.int .i64 0,.int .i64 0] [],.bld 15 [.int .i64 0,.int .i64 0,.sl [],.sl []] [(0,(.t 11)),(1,(.t 12)),(2,(.t 13)),(3,(.t 14))],.bld 7 [.int .i64 0,.int .i64 0,.sl [],.sl []] [],.st 7 0 (.t 15)]) (.seq (.ss [.nop,.call 17 aH aF [(.t 0),(.c (.int .i64 4))] [0],.mv 8 (.t 17)]) (.seq (.seq (.ss [.nop,.call 19 aH aF [(.t 0),(.c (.int .i64 3))] [0],.mv 9 (.t 19)]) (.block 0 (.loop (.seq (.seq (.ss [.mv 20 (.t 9),.bin 21 .gtr (.t 20) (.c (.int .i64 0)),.mv 22 (.t 21),.g 22 true 23 (.mv 23 (.t 8)),.g 22 true 24 (.bin 24 .lss (.t 23) (.c (.int .i64 6))),.pick 25 (.t 22) (.t 24) (.c (.bool false))]) (.cond (.t 25) (.skip) (.exit 0))) (.seq (.block 1 (.seq (.ss [.nop,.sub 29 7 2 1,.mv 30 (.t 8),.nop,.call 32 aH aF [(.t 0),(.c (.int .i64 10))] [0],.bld 33 [.int .i64 0,.int .i64 0] [(0,(.t 30)),(1,(.t 32))],.lit 34 1 [.int .i64 0,.int .i64 0] [(0,(.t 33))],.app 35 2 true (.t 29) (.t 34),.nop,.st 7 2 (.t 35)]) (.ss [.mv 37 (.t 8),.bin 38 .add (.t 37) (.c (.int .i64 1)),.nop,.call 40 aH aF [(.t 0),(.c (.int .i64 3))] [0],.bin 41 .add (.t 38) (.t 40),.mv 8 (.t 41)]))) (.ss [.mv 26 (.t 9),.bin 27 .sub (.t 26) (.c (.int .i64 1)),.mv 9 (.t 27)])))))) (.seq (.seq (.ss [.mv 10 (.c (.int .i64 1))]) (.block 2 (.loop (.seq (.seq (.ss [.mv 42 (.t 10),.bin 43 .leq (.t 42) (.c (.int .i64 4)),.mv 44 (.t 43),.g 44 true 45 (.nop),.g 44 true 46 (.sub 46 7 3 1),.g 44 true 47 (.len 47 (.t 46)),.g 44 true 48 (.bin 48 .lss (.t 47) (.c (.int .i64 2))),.pick 49 (.t 44) (.t 48) (.c (.bool false))]) (.cond (.t 49) (.skip) (.exit 2))) (.seq (.block 3 (.seq (.ss [.mv 52 (.t 10),.mv 53 (.t 1),.bin 54 .neq (.t 52) (.t 53),.mv 55 (.t 54),.g 55 true 56 (.nop),.g 55 true 57 (.call 57 aH aF [(.t 0),(.c (.int .i64 6))] [0]),.g 55 true 58 (.bin 58 .eql (.t 57) (.c (.int .i64 0))),.pick 59 (.t 55) (.t 58) (.c (.bool false))]) (.cond (.t 59) (.ss [.nop,.sub 61 7 3 1,.mv 62 (.t 10),.nop,.call 64 aH aF [(.t 0),(.c (.int .i64 2))] [0],.bin 65 .add (.c (.int .i64 1)) (.t 64),.bld 66 [.int .i64 0,.int .i64 0] [(0,(.t 62)),(1,(.t 65))],.lit 67 1 [.int .i64 0,.int .i64 0] [(0,(.t 66))],.app 68 2 true (.t 61) (.t 67),.nop,.st 7 3 (.t 68)]) (.skip)))) (.ss [.mv 50 (.t 10),.bin 51 .add (.t 50) (.c (.int .i64 1)),.mv 10 (.t 51)])))))) (.seq (.ss [.sub 70 7 0 4,.st 6 0 (.t 70)]) (.ret [6,0]))))))
def Bi:Cfg:={tt:=tt,sigs:=sigs,mv:=false,bm:=[],eqt:=fE,keep:=[true,true,true,false,false,false,true,true,true,true,true,false,false,false,false,false,false,false,false,false,false,false,false,false,false,true,false,false,false,false,false,false,false,false,false,false,false,false,false,false,false,false,false,false,false,false,false,false,false,true,false,false,false,false,false,false,false,false,false,true,false,false,false,false,false,false,false,false,false,false,false],n:=71,pin:=[0],fail:=[],fz:=[] }
theorem Hr:bP Bi Tryz.f37 hM=some p_s_l71Pkg:=by kernel_rfl
theorem Hs {W:Wld}{ins outs:List (List D)}(h:pwp (FunOk PP W) p_s_l71Pkg (aS outs) (envL ins)):FunOk PP W pQ hM ins outs:=aQ (C:=Bi) (aP rfl) (bB rfl rfl) mixed Tryz.func37 (by kernel_rfl) (by kernel_rfl) Hr h

def p_s_l71Any:PC:= .seq (.ss [.bld 2 [.int .i64 0,.int .i64 0,.sl [],.sl []] []]) (.seq (.ss [.nop,.nop,.call 6 aH aF [(.t 0),(.c (.int .i64 4))] [0],.bin 7 .add (.c (.int .i64 1)) (.t 6),.nop,.call 9 aH aF [(.t 0),(.c (.int .i64 3))] [0],.bin 10 .add (.c (.int .i64 1)) (.t 9),.call 11 pQ hM [(.t 0),(.t 7),(.t 10)] [0],.bld 3 [.int .i64 0,.int .i64 0,.sl [],.sl []] [],.st 3 0 (.t 11)]) (.seq (.seq (.ss [.nop,.call 13 aH aF [(.t 0),(.c (.int .i64 20))] [0]]) (.block 0 (.seq (.ss [.bin 15 .eql (.t 13) (.c (.int .i64 0)),.mv 14 (.t 15)]) (.cond (.t 14) (.ss [.lit 16 2 [.int .i64 0] [(0,(.c (.int .i64 0))),(1,(.c (.int .i64 5)))],.nop,.call 18 aH aF [(.t 0),(.c (.int .i64 2))] [0],.elp 19 (.t 16) (.t 18) 1,.eld 20 19 0 [.int .i64 0],.nop,.st 3 0 (.t 20)]) (.seq (.ss [.bin 23 .eql (.t 13) (.c (.int .i64 1)),.mv 22 (.t 23)]) (.cond (.t 22) (.ss [.lit 24 2 [.int .i64 0] [(0,(.c (.int .i64 0))),(1,(.c (.int .i64 6)))],.nop,.call 26 aH aF [(.t 0),(.c (.int .i64 2))] [0],.elp 27 (.t 24) (.t 26) 1,.eld 28 27 0 [.int .i64 0],.nop,.st 3 1 (.t 28)]) (.seq (.ss [.bin 31 .eql (.t 13) (.c (.int .i64 2)),.mv 30 (.t 31)]) (.cond (.t 30) (.ss [.nop,.sub 33 3 2 1,.nop,.call 35 aH aF [(.t 0),(.c (.int .i64 7))] [0],.nop,.call 37 aH aF [(.t 0),(.c (.int .i64 12))] [0],.bld 38 [.int .i64 0,.int .i64 0] [(0,(.t 35)),(1,(.t 37))],.lit 39 1 [.int .i64 0,.int .i64 0] [(0,(.t 38))],.app 40 2 true (.t 33) (.t 39),.nop,.st 3 2 (.t 40)]) (.seq (.ss [.bin 43 .eql (.t 13) (.c (.int .i64 3)),.mv 42 (.t 43)]) (.cond (.t 42) (.ss [.nop,.sub 45 3 3 1,.nop,.call 47 aH aF [(.t 0),(.c (.int .i64 6))] [0],.nop,.call 49 aH aF [(.t 0),(.c (.int .i64 7))] [0],.bld 50 [.int .i64 0,.int .i64 0] [(0,(.t 47)),(1,(.t 49))],.lit 51 1 [.int .i64 0,.int .i64 0] [(0,(.t 50))],.app 52 2 true (.t 45) (.t 51),.nop,.st 3 3 (.t 52)]) (.skip))))))))))) (.seq (.ss [.sub 54 3 0 4,.st 2 0 (.t 54)]) (.ret [2,0]))))
def Bj:Cfg:={tt:=tt,sigs:=sigs,mv:=false,bm:=[],eqt:=fE,keep:=[true,false,true,true,false,false,false,false,false,false,false,false,false,true,true,false,false,false,false,false,false,false,true,false,false,false,false,false,false,false,true,false,false,false,false,false,false,false,false,false,false,false,true,false,false,false,false,false,false,false,false,false,false,false,false],n:=55,pin:=[0],fail:=[],fz:=[] }
theorem Ht:bP Bj Tryz.f57 fI=some p_s_l71Any:=by kernel_rfl
theorem Hu {W:Wld}{ins outs:List (List D)}(h:pwp (FunOk PP W) p_s_l71Any (aS outs) (envL ins)):FunOk PP W mI fI ins outs:=aQ (C:=Bj) (aP rfl) (bB rfl rfl) mixed Tryz.func57 (by kernel_rfl) (by kernel_rfl) Ht h

def p_s_IndexOf:PC:= .seq (.ss [.bld 6 [.int .i64 0,.int .i64 0,.sl []] [],.mv 7 (.c (.bool false))]) (.seq (.ss [.mv 10 (.t 0),.mv 11 (.t 1),.lit 12 0 [.int .i64 0,.int .i64 0,.int .i64 0] [],.bld 13 [.int .i64 0,.int .i64 0,.sl []] [(0,(.t 10)),(1,(.t 11)),(2,(.t 12))],.bld 8 [.int .i64 0,.int .i64 0,.sl []] [],.st 8 0 (.t 13)]) (.seq (.seq (.ss [.mv 14 (.t 2),.call 15 pR hO [(.t 14)] [],.un 16 .not (.t 15)]) (.cond (.t 16) (.seq (.ss [.bld 17 [.int .i64 0,.int .i64 0,.sl []] [],.st 6 0 (.t 17),.mv 7 (.c (.bool false))]) (.ret [6,7])) (.skip))) (.seq (.seq (.ss [.mv 9 (.c (.int .i64 0))]) (.block 0 (.loop (.seq (.seq (.ss [.mv 18 (.t 9),.mv 19 (.t 2),.len 20 (.t 19),.bin 21 .lss (.t 18) (.t 20)]) (.cond (.t 21) (.skip) (.exit 0))) (.seq (.block 1 (.ss [.nop,.sub 25 8 2 1,.mv 26 (.t 2),.mv 27 (.t 9),.elp 28 (.t 26) (.t 27) 4,.mv 29 (.t 28),.eld 30 29 0 [.int .i64 0],.mv 31 (.t 2),.mv 32 (.t 9),.elp 33 (.t 31) (.t 32) 4,.mv 34 (.t 33),.eld 35 34 1 [.int .i64 0],.mv 36 (.t 2),.mv 37 (.t 9),.elp 38 (.t 36) (.t 37) 4,.eld 39 38 0 [.int .i64 0,.int .i64 0,.sl [],.sl []],.call 40 iH dS [(.t 39)] [],.call 41 sG jX [(.t 40)] [],.bld 42 [.int .i64 0,.int .i64 0,.int .i64 0] [(0,(.t 30)),(1,(.t 35)),(2,(.t 41))],.lit 43 1 [.int .i64 0,.int .i64 0,.int .i64 0] [(0,(.t 42))],.app 44 3 true (.t 25) (.t 43),.nop,.st 8 2 (.t 44)])) (.ss [.mv 22 (.t 9),.bin 23 .add (.t 22) (.c (.int .i64 1)),.mv 9 (.t 23)])))))) (.seq (.seq (.ss [.sub 46 8 0 3,.call 47 nH fQ [(.t 46)] [],.un 48 .not (.t 47)]) (.cond (.t 48) (.seq (.ss [.bld 49 [.int .i64 0,.int .i64 0,.sl []] [],.st 6 0 (.t 49),.mv 7 (.c (.bool false))]) (.ret [6,7])) (.skip))) (.seq (.ss [.sub 50 8 0 3,.st 6 0 (.t 50),.mv 7 (.c (.bool true))]) (.ret [6,7]))))))
def yQ:Cfg:={tt:=tt,sigs:=sigs,mv:=false,bm:=[],eqt:=fE,keep:=[true,true,true,false,false,false,true,true,true,true,false,false,false,false,false,false,true,false,false,false,false,true,false,false,false,false,false,false,false,false,false,false,false,false,false,false,false,false,false,false,false,false,false,false,false,false,false,false,true,false,false],n:=51,pin:=[],fail:=[],fz:=[] }
theorem GA:bP yQ Tryz.f81 fJ=some p_s_IndexOf:=by kernel_rfl
theorem GB {W:Wld}{ins outs:List (List D)}(h:pwp (FunOk PP W) p_s_IndexOf (aS outs) (envL ins)):FunOk PP W nJ fJ ins outs:=aQ (C:=yQ) (aP rfl) (bB rfl rfl) mixed Tryz.func81 (by kernel_rfl) (by kernel_rfl) GA h

def p_s_l71Index:PC:= .seq (.ss [.bld 2 [.int .i64 0,.int .i64 0,.sl []] []]) (.seq (.ss [.nop,.call 7 aH aF [(.t 0),(.c (.int .i64 6))] [0],.bin 8 .add (.c (.int .i64 1)) (.t 7),.nop,.call 10 aH aF [(.t 0),(.c (.int .i64 12))] [0],.nop,.call 12 kR eD [(.t 0)] [0],.call 13 nJ fJ [(.t 8),(.t 10),(.t 12)] [],.mv 5 (.t 13),.ext 14 5 0 3,.ext 15 5 3 1,.bld 3 [.int .i64 0,.int .i64 0,.sl []] [],.st 3 0 (.t 14),.mv 4 (.t 15)]) (.seq (.seq (.ss [.nop,.call 17 aH aF [(.t 0),(.c (.int .i64 16))] [0]]) (.block 0 (.seq (.ss [.bin 19 .eql (.t 17) (.c (.int .i64 0)),.mv 18 (.t 19)]) (.cond (.t 18) (.ss [.lit 20 3 [.int .i64 0] [(0,(.c (.int .i64 0))),(1,(.c (.int .i64 30))),(2,(.c (.int .i64 31)))],.nop,.call 22 aH aF [(.t 0),(.c (.int .i64 3))] [0],.elp 23 (.t 20) (.t 22) 1,.eld 24 23 0 [.int .i64 0],.nop,.st 3 0 (.t 24)]) (.seq (.ss [.bin 27 .eql (.t 17) (.c (.int .i64 1)),.mv 26 (.t 27)]) (.cond (.t 26) (.ss [.lit 28 3 [.int .i64 0] [(0,(.c (.int .i64 (-1)))),(1,(.c (.int .i64 60))),(2,(.c (.int .i64 61)))],.nop,.call 30 aH aF [(.t 0),(.c (.int .i64 3))] [0],.elp 31 (.t 28) (.t 30) 1,.eld 32 31 0 [.int .i64 0],.nop,.st 3 1 (.t 32)]) (.seq (.ss [.bin 35 .eql (.t 17) (.c (.int .i64 2)),.mv 34 (.t 35)]) (.cond (.t 34) (.ss [.nop,.sub 37 3 2 1,.nop,.call 39 aH aF [(.t 0),(.c (.int .i64 4))] [0],.bin 40 .add (.c (.int .i64 1)) (.t 39),.nop,.call 42 aH aF [(.t 0),(.c (.int .i64 4))] [0],.bin 43 .add (.c (.int .i64 1)) (.t 42),.nop,.call 45 aH aF [(.t 0),(.c (.int .i64 9973))] [0],.bld 46 [.int .i64 0,.int .i64 0,.int .i64 0] [(0,(.t 40)),(1,(.t 43)),(2,(.t 45))],.lit 47 1 [.int .i64 0,.int .i64 0,.int .i64 0] [(0,(.t 46))],.app 48 3 true (.t 37) (.t 47),.nop,.st 3 2 (.t 48)]) (.skip))))))))) (.seq (.ss [.sub 50 3 0 3,.st 2 0 (.t 50)]) (.ret [2,0]))))
def vH:Cfg:={tt:=tt,sigs:=sigs,mv:=false,bm:=[],eqt:=fE,keep:=[true,false,true,true,false,false,false,false,false,false,false,false,false,false,false,false,false,true,true,false,false,false,false,false,false,false,true,false,false,false,false,false,false,false,true,false,false,false,false,false,false,false,false,false,false,false,false,false,false,false,false],n:=51,pin:=[0],fail:=[],fz:=[] }
theorem Ea:bP vH Tryz.f82 gD=some p_s_l71Index:=by kernel_rfl
theorem Eb {W:Wld}{ins outs:List (List D)}(h:pwp (FunOk PP W) p_s_l71Index (aS outs) (envL ins)):FunOk PP W pS gD ins outs:=aQ (C:=vH) (aP rfl) (bB rfl rfl) mixed Tryz.func82 (by kernel_rfl) (by kernel_rfl) Ea h

def p_s_PkgRead:PC:= .seq (.ss [.bld 2 [.int .i64 0,.int .i64 0,.sl [],.sl []] [],.mv 3 (.c (.bool false))]) (.seq (.seq (.ss [.mv 8 (.t 0),.slen 9 (.t 8),.bin 10 .gtr (.t 9) (.c (.int .i64 30))]) (.cond (.t 10) (.seq (.ss [.bld 11 [.int .i64 0,.int .i64 0,.sl [],.sl []] [],.st 2 0 (.t 11),.mv 3 (.c (.bool false))]) (.ret [2,3])) (.skip))) (.seq (.ss [.mv 12 (.t 0),.call 13 xG lV [(.t 12),(.c (.int .u8 32))] [],.mv 4 (.t 13)]) (.seq (.ss [.lit 14 0 [.int .i64 0,.int .i64 0] [],.lit 15 0 [.int .i64 0,.int .i64 0] [],.bld 16 [.int .i64 0,.int .i64 0,.sl [],.sl []] [(2,(.t 14)),(3,(.t 15))],.bld 5 [.int .i64 0,.int .i64 0,.sl [],.sl []] [],.st 5 0 (.t 16)]) (.seq (.seq (.ss [.mv 6 (.c (.int .i64 0))]) (.block 0 (.loop (.seq (.seq (.ss [.mv 17 (.t 6),.mv 18 (.t 4),.len 19 (.t 18),.bin 20 .lss (.t 17) (.t 19)]) (.cond (.t 20) (.skip) (.exit 0))) (.seq (.block 1 (.seq (.ss [.mv 23 (.t 4),.mv 24 (.t 6),.elp 25 (.t 23) (.t 24) 1,.eld 26 25 0 [.str ⟨#[]⟩],.mv 7 (.t 26)]) (.block 2 (.seq (.ss [.mv 28 (.t 6),.bin 29 .eql (.t 28) (.c (.int .i64 0)),.mv 30 (.t 29),.g 30 true 31 (.mv 31 (.t 7)),.g 30 true 32 (.slen 32 (.t 31)),.g 30 true 33 (.bin 33 .eql (.t 32) (.c (.int .i64 2))),.pick 34 (.t 30) (.t 33) (.c (.bool false)),.mv 27 (.t 34)]) (.cond (.t 27) (.seq (.ss [.mv 35 (.t 7),.sidx 36 (.t 35) (.c (.int .i64 0)),.cvt 37 .i64 (.t 36),.bin 38 .sub (.t 37) (.c (.int .i64 97)),.bin 39 .add (.t 38) (.c (.int .i64 1)),.nop,.st 5 0 (.t 39)]) (.ss [.mv 41 (.t 7),.sidx 42 (.t 41) (.c (.int .i64 1)),.cvt 43 .i64 (.t 42),.bin 44 .sub (.t 43) (.c (.int .i64 48)),.nop,.st 5 1 (.t 44)])) (.seq (.ss [.mv 47 (.t 6),.bin 48 .gtr (.t 47) (.c (.int .i64 0)),.mv 49 (.t 48),.g 49 true 50 (.mv 50 (.t 7)),.g 49 true 51 (.slen 51 (.t 50)),.g 49 true 52 (.bin 52 .eql (.t 51) (.c (.int .i64 3))),.pick 53 (.t 49) (.t 52) (.c (.bool false)),.mv 46 (.t 53)]) (.cond (.t 46) (.ss [.nop,.sub 55 5 2 1,.mv 56 (.t 7),.sidx 57 (.t 56) (.c (.int .i64 0)),.cvt 58 .i64 (.t 57),.bin 59 .sub (.t 58) (.c (.int .i64 48)),.mv 60 (.t 7),.sidx 61 (.t 60) (.c (.int .i64 2)),.cvt 62 .i64 (.t 61),.bin 63 .sub (.t 62) (.c (.int .i64 48)),.bld 64 [.int .i64 0,.int .i64 0] [(0,(.t 59)),(1,(.t 63))],.lit 65 1 [.int .i64 0,.int .i64 0] [(0,(.t 64))],.app 66 2 true (.t 55) (.t 65),.nop,.st 5 2 (.t 66)]) (.seq (.ss [.mv 69 (.t 6),.bin 70 .gtr (.t 69) (.c (.int .i64 0)),.mv 71 (.t 70),.g 71 true 72 (.mv 72 (.t 7)),.g 71 true 73 (.slen 73 (.t 72)),.g 71 true 74 (.bin 74 .eql (.t 73) (.c (.int .i64 2))),.pick 75 (.t 71) (.t 74) (.c (.bool false)),.mv 68 (.t 75)]) (.cond (.t 68) (.ss [.nop,.sub 77 5 3 1,.mv 78 (.t 7),.sidx 79 (.t 78) (.c (.int .i64 0)),.cvt 80 .i64 (.t 79),.bin 81 .sub (.t 80) (.c (.int .i64 97)),.bin 82 .add (.t 81) (.c (.int .i64 1)),.mv 83 (.t 7),.sidx 84 (.t 83) (.c (.int .i64 1)),.cvt 85 .i64 (.t 84),.bin 86 .sub (.t 85) (.c (.int .i64 48)),.bld 87 [.int .i64 0,.int .i64 0] [(0,(.t 82)),(1,(.t 86))],.lit 88 1 [.int .i64 0,.int .i64 0] [(0,(.t 87))],.app 89 2 true (.t 77) (.t 88),.nop,.st 5 3 (.t 89)]) (.skip)))))))))) (.ss [.mv 21 (.t 6),.bin 22 .add (.t 21) (.c (.int .i64 1)),.mv 6 (.t 22)])))))) (.seq (.seq (.ss [.sub 91 5 0 4,.call 92 iH dS [(.t 91)] [],.mv 93 (.t 0),.bin 94 .neq (.t 92) (.t 93),.mv 95 (.t 94),.g 95 false 96 (.mv 96 (.t 0)),.g 95 false 97 (.bin 97 .eql (.t 96) (.c (.str ⟨#[]⟩))),.pick 98 (.t 95) (.c (.bool true)) (.t 97)]) (.cond (.t 98) (.seq (.ss [.bld 99 [.int .i64 0,.int .i64 0,.sl [],.sl []] [],.st 2 0 (.t 99),.mv 3 (.c (.bool false))]) (.ret [2,3])) (.skip))) (.seq (.ss [.sub 100 5 0 4,.st 2 0 (.t 100),.mv 3 (.c (.bool true))]) (.ret [2,3])))))))
def yR:Cfg:={tt:=tt,sigs:=sigs,mv:=false,bm:=[],eqt:=fE,keep:=[true,false,true,true,true,true,true,true,false,false,true,false,false,false,false,false,false,false,false,false,true,false,false,false,false,false,false,true,false,false,false,false,false,false,false,false,false,false,false,false,false,false,false,false,false,false,true,false,false,false,false,false,false,false,false,false,false,false,false,false,false,false,false,false,false,false,false,false,true,false,false,false,false,false,false,false,false,false,false,false,false,false,false,false,false,false,false,false,false,false,false,false,false,false,false,false,false,false,true,false,false],n:=101,pin:=[],fail:=[],fz:=[] }
theorem GC:bP yR Tryz.f131 eC=some p_s_PkgRead:=by kernel_rfl
theorem GD {W:Wld}{ins outs:List (List D)}(h:pwp (FunOk PP W) p_s_PkgRead (aS outs) (envL ins)):FunOk PP W kS eC ins outs:=aQ (C:=yR) (aP rfl) (bB rfl rfl) mixed Tryz.func131 (by kernel_rfl) (by kernel_rfl) GC h

def p_s_l1Cut:PC:= .seq (.ss [.mv 4 (.c (.sl []))]) (.seq (.ss [.lit 7 1 [.str ⟨#[]⟩] [(0,(.c (.str ⟨#[]⟩)))],.mv 5 (.t 7)]) (.seq (.seq (.ss [.mv 6 (.c (.int .i64 0))]) (.block 0 (.loop (.seq (.seq (.ss [.mv 8 (.t 6),.mv 9 (.t 0),.slen 10 (.t 9),.bin 11 .lss (.t 8) (.t 10)]) (.cond (.t 11) (.skip) (.exit 0))) (.seq (.block 1 (.seq (.ss [.mv 14 (.t 0),.mv 15 (.t 6),.sidx 16 (.t 14) (.t 15),.mv 17 (.t 1),.bin 18 .eql (.t 16) (.t 17)]) (.cond (.t 18) (.ss [.mv 19 (.t 5),.lit 20 1 [.str ⟨#[]⟩] [(0,(.c (.str ⟨#[]⟩)))],.app 21 1 true (.t 19) (.t 20),.mv 5 (.t 21)]) (.ss [.mv 22 (.t 5),.mv 23 (.t 5),.len 24 (.t 23),.bin 25 .sub (.t 24) (.c (.int .i64 1)),.mv 26 (.t 5),.mv 27 (.t 5),.len 28 (.t 27),.bin 29 .sub (.t 28) (.c (.int .i64 1)),.elp 30 (.t 26) (.t 29) 1,.eld 31 30 0 [.str ⟨#[]⟩],.mv 32 (.t 0),.mv 33 (.t 6),.sidx 34 (.t 32) (.t 33),.lit 35 1 [.int .u8 0] [(0,(.t 34))],.b2s 36 (.t 35),.bin 37 .add (.t 31) (.t 36),.elp 38 (.t 22) (.t 25) 1,.els 38 0 5 0 (.t 37)])))) (.ss [.mv 12 (.t 6),.bin 13 .add (.t 12) (.c (.int .i64 1)),.mv 6 (.t 13)])))))) (.seq (.ss [.mv 39 (.t 5),.mv 4 (.t 39)]) (.ret [4]))))
def DR:Cfg:={tt:=tt,sigs:=sigs,mv:=false,bm:=[7],eqt:=fE,keep:=[true,true,false,false,true,true,true,false,false,false,false,true,false,false,false,false,false,false,true,false,false,false,false,false,false,false,false,false,false,false,false,false,false,false,false,false,false,false,false,false],n:=40,pin:=[],fail:=[],fz:=[] }
theorem KV:bP DR Tryz.f147 lV=some p_s_l1Cut:=by kernel_rfl
theorem KW {W:Wld}{ins outs:List (List D)}(h:pwp (FunOk PP W) p_s_l1Cut (aS outs) (envL ins)):FunOk PP W xG lV ins outs:=aQ (C:=DR) (aP rfl) (bB rfl rfl) mixed Tryz.func147 (by kernel_rfl) (by kernel_rfl) KV h

def p_s_l12Copy:PC:= .seq (.ss [.mv 2 (.c (.sl []))]) (.seq (.ss [.lit 5 0 [.int .i64 0,.int .i64 0,.sl [],.sl []] [],.mv 3 (.t 5)]) (.seq (.seq (.ss [.mv 4 (.c (.int .i64 0))]) (.block 0 (.loop (.seq (.seq (.ss [.mv 6 (.t 4),.mv 7 (.t 0),.len 8 (.t 7),.bin 9 .lss (.t 6) (.t 8)]) (.cond (.t 9) (.skip) (.exit 0))) (.seq (.block 1 (.ss [.mv 12 (.t 3),.mv 13 (.t 0),.mv 14 (.t 4),.elp 15 (.t 13) (.t 14) 4,.eld 16 15 0 [.int .i64 0,.int .i64 0,.sl [],.sl []],.call 17 mK dZ [(.t 16)] [],.lit 18 1 [.int .i64 0,.int .i64 0,.sl [],.sl []] [(0,(.t 17))],.app 19 4 false (.t 12) (.t 18),.mv 3 (.t 19)])) (.ss [.mv 10 (.t 4),.bin 11 .add (.t 10) (.c (.int .i64 1)),.mv 4 (.t 11)])))))) (.seq (.ss [.mv 20 (.t 3),.mv 2 (.t 20)]) (.ret [2]))))
def yS:Cfg:={tt:=tt,sigs:=sigs,mv:=false,bm:=[],eqt:=fE,keep:=[true,false,true,true,true,false,false,false,false,true,false,false,false,false,false,false,false,false,false,false,false],n:=21,pin:=[],fail:=[],fz:=[] }
theorem GE:bP yS Tryz.f46 iI=some p_s_l12Copy:=by kernel_rfl
theorem GF {W:Wld}{ins outs:List (List D)}(h:pwp (FunOk PP W) p_s_l12Copy (aS outs) (envL ins)):FunOk PP W rF iI ins outs:=aQ (C:=yS) (aP rfl) (bB rfl rfl) mixed Tryz.func46 (by kernel_rfl) (by kernel_rfl) GE h

def p_s_l12PkgCopy:PC:= .seq (.ss [.mv 1 (.t 0),.bld 2 [.int .i64 0,.int .i64 0,.sl [],.sl []] []]) (.seq (.ss [.lit 3 0 [.int .i64 0,.int .i64 0] [],.nop,.sub 5 1 2 1,.app 6 2 true (.t 3) (.t 5),.nop,.st 1 2 (.t 6)]) (.seq (.ss [.lit 8 0 [.int .i64 0,.int .i64 0] [],.nop,.sub 10 1 3 1,.app 11 2 true (.t 8) (.t 10),.nop,.st 1 3 (.t 11)]) (.seq (.ss [.sub 13 1 0 4,.st 2 0 (.t 13)]) (.ret [2]))))
def rM:Cfg:={tt:=tt,sigs:=sigs,mv:=false,bm:=[],eqt:=fE,keep:=[true,true,true,false,false,false,false,false,false,false,false,false,false,false],n:=14,pin:=[],fail:=[],fz:=[] }
theorem Bk:bP rM Tryz.f92 dZ=some p_s_l12PkgCopy:=by kernel_rfl
theorem Bl {W:Wld}{ins outs:List (List D)}(h:pwp (FunOk PP W) p_s_l12PkgCopy (aS outs) (envL ins)):FunOk PP W mK dZ ins outs:=aQ (C:=rM) (aP rfl) (bB rfl rfl) mixed Tryz.func92 (by kernel_rfl) (by kernel_rfl) Bk h

def p_s_l12Add:PC:= .seq (.ss [.mv 3 (.t 0),.mv 6 (.c (.sl [])),.mv 7 (.c (.bool false))]) (.seq (.seq (.ss [.nop,.sub 11 3 3 1,.un 12 .not (.t 11)]) (.cond (.t 12) (.seq (.ss [.mv 13 (.t 1),.mv 6 (.t 13),.mv 7 (.c (.bool false))]) (.ret [6,7])) (.skip))) (.seq (.ss [.nop,.sub 16 3 4 3,.mv 17 (.t 2),.call 18 lU gF [(.t 16),(.t 17)] [],.mv 14 (.t 18),.ext 19 14 0 4,.ext 20 14 4 1,.bld 8 [.int .i64 0,.int .i64 0,.sl [],.sl []] [],.st 8 0 (.t 19),.mv 9 (.t 20)]) (.seq (.seq (.ss [.mv 21 (.t 9),.un 22 .not (.t 21),.mv 23 (.t 22),.g 23 false 24 (.mv 24 (.t 1)),.g 23 false 25 (.nop),.g 23 false 26 (.sub 26 8 0 1),.g 23 false 27 (.nop),.g 23 false 28 (.sub 28 8 1 1),.g 23 false 29 (.call 29 kP eE [(.t 24),(.t 26),(.t 28)] []),.g 23 false 30 (.bin 30 .geq (.t 29) (.c (.int .i64 0))),.pick 31 (.t 23) (.c (.bool true)) (.t 30)]) (.cond (.t 31) (.seq (.ss [.mv 32 (.t 1),.mv 6 (.t 32),.mv 7 (.c (.bool false))]) (.ret [6,7])) (.skip))) (.seq (.ss [.mv 33 (.t 1),.sub 34 8 0 4,.call 35 nG fK [(.t 33),(.t 34)] [],.mv 6 (.t 35),.mv 7 (.c (.bool true))]) (.ret [6,7])))))
def Bm:Cfg:={tt:=tt,sigs:=sigs,mv:=false,bm:=[],eqt:=fE,keep:=[true,true,true,true,false,false,true,true,true,true,false,false,true,false,false,false,false,false,false,false,false,false,false,false,false,false,false,false,false,false,false,true,false,false,false,false],n:=36,pin:=[],fail:=[],fz:=[] }
theorem Hv:bP Bm Tryz.f58 jN=some p_s_l12Add:=by kernel_rfl
theorem Hw {W:Wld}{ins outs:List (List D)}(h:pwp (FunOk PP W) p_s_l12Add (aS outs) (envL ins)):FunOk PP W tQ jN ins outs:=aQ (C:=Bm) (aP rfl) (bB rfl rfl) mixed Tryz.func58 (by kernel_rfl) (by kernel_rfl) Hv h

def p_s_l3Has:PC:= .seq (.ss [.mv 2 (.t 0),.bld 4 [.int .i64 0,.int .i64 0,.sl [],.sl []] [],.mv 5 (.c (.bool false))]) (.seq (.ss [.mv 11 (.t 1),.call 12 kS eC [(.t 11)] [],.mv 10 (.t 12),.ext 13 10 0 4,.ext 14 10 4 1,.bld 6 [.int .i64 0,.int .i64 0,.sl [],.sl []] [],.st 6 0 (.t 13),.mv 7 (.t 14)]) (.seq (.seq (.ss [.mv 15 (.t 7),.un 16 .not (.t 15)]) (.cond (.t 16) (.seq (.ss [.bld 17 [.int .i64 0,.int .i64 0,.sl [],.sl []] [],.st 4 0 (.t 17),.mv 5 (.c (.bool false))]) (.ret [4,5])) (.skip))) (.seq (.seq (.ss [.mv 8 (.c (.int .i64 0))]) (.block 0 (.loop (.seq (.seq (.ss [.mv 18 (.t 8),.nop,.sub 20 2 2 1,.len 21 (.t 20),.bin 22 .lss (.t 18) (.t 21)]) (.cond (.t 22) (.skip) (.exit 0))) (.seq (.block 1 (.seq (.ss [.nop,.sub 26 2 2 1,.mv 27 (.t 8),.elp 28 (.t 26) (.t 27) 3,.eld 29 28 0 [.int .i64 0,.int .i64 0,.int .i64 0],.bld 9 [.int .i64 0,.int .i64 0,.int .i64 0] [],.st 9 0 (.t 29)]) (.seq (.ss [.nop,.sub 31 9 0 1,.nop,.sub 33 6 0 1,.bin 34 .eql (.t 31) (.t 33),.mv 35 (.t 34),.g 35 true 36 (.nop),.g 35 true 37 (.sub 37 9 1 1),.g 35 true 38 (.nop),.g 35 true 39 (.sub 39 6 1 1),.g 35 true 40 (.bin 40 .eql (.t 37) (.t 39)),.pick 41 (.t 35) (.t 40) (.c (.bool false)),.mv 42 (.t 41),.g 42 true 43 (.nop),.g 42 true 44 (.sub 44 9 2 1),.g 42 true 45 (.mv 45 (.t 1)),.g 42 true 46 (.call 46 sG jX [(.t 45)] []),.g 42 true 47 (.bin 47 .eql (.t 44) (.t 46)),.pick 48 (.t 42) (.t 47) (.c (.bool false))]) (.cond (.t 48) (.seq (.ss [.sub 49 6 0 4,.st 4 0 (.t 49),.mv 5 (.c (.bool true))]) (.ret [4,5])) (.skip))))) (.ss [.mv 23 (.t 8),.bin 24 .add (.t 23) (.c (.int .i64 1)),.mv 8 (.t 24)])))))) (.seq (.ss [.bld 50 [.int .i64 0,.int .i64 0,.sl [],.sl []] [],.st 4 0 (.t 50),.mv 5 (.c (.bool false))]) (.ret [4,5])))))
def DS:Cfg:={tt:=tt,sigs:=sigs,mv:=false,bm:=[],eqt:=fE,keep:=[true,true,true,false,true,true,true,true,true,true,false,false,false,false,false,false,true,false,false,false,false,false,true,false,false,false,false,false,false,false,false,false,false,false,false,false,false,false,false,false,false,false,false,false,false,false,false,false,true,false,false],n:=51,pin:=[],fail:=[],fz:=[] }
theorem KX:bP DS Tryz.f91 gF=some p_s_l3Has:=by kernel_rfl
theorem xH {W:Wld}{ins outs:List (List D)}(h:pwp (FunOk PP W) p_s_l3Has (aS outs) (envL ins)):FunOk PP W lU gF ins outs:=aQ (C:=DS) (aP rfl) (bB rfl rfl) mixed Tryz.func91 (by kernel_rfl) (by kernel_rfl) KX h

def p_s_l71Root:PC:= .seq (.ss [.bld 2 [.int .i64 0,.sl [],.int .i64 0] []]) (.seq (.ss [.nop,.call 6 rI iK [(.t 0)] [0],.mv 3 (.t 6)]) (.seq (.seq (.ss [.mv 7 (.t 3),.len 8 (.t 7),.bin 9 .eql (.t 8) (.c (.int .i64 0))]) (.cond (.t 9) (.ss [.nop,.call 11 aH aF [(.t 0),(.c (.int .i64 6))] [0],.bin 12 .add (.c (.int .i64 1)) (.t 11),.lit 13 1 [.int .i64 0] [(0,(.t 12))],.mv 3 (.t 13)]) (.skip))) (.seq (.ss [.nop,.call 15 aH aF [(.t 0),(.c (.int .i64 3))] [0],.bin 16 .add (.c (.int .i64 1)) (.t 15),.mv 17 (.t 3),.nop,.mv 19 (.t 3),.len 20 (.t 19),.call 21 aH aF [(.t 0),(.t 20)] [0],.bin 22 .add (.c (.int .i64 1)) (.t 21),.bld 23 [.int .i64 0,.sl [],.int .i64 0] [(0,(.t 16)),(1,(.t 17)),(2,(.t 22))],.bld 4 [.int .i64 0,.sl [],.int .i64 0] [],.st 4 0 (.t 23)]) (.seq (.seq (.ss [.nop,.call 25 aH aF [(.t 0),(.c (.int .i64 20))] [0]]) (.block 0 (.seq (.ss [.bin 27 .eql (.t 25) (.c (.int .i64 0)),.mv 26 (.t 27)]) (.cond (.t 26) (.ss [.lit 28 3 [.int .i64 0] [(0,(.c (.int .i64 0))),(1,(.c (.int .i64 9))),(2,(.c (.int .i64 10)))],.nop,.call 30 aH aF [(.t 0),(.c (.int .i64 3))] [0],.elp 31 (.t 28) (.t 30) 1,.eld 32 31 0 [.int .i64 0],.nop,.st 4 0 (.t 32)]) (.seq (.ss [.bin 35 .eql (.t 25) (.c (.int .i64 1)),.mv 34 (.t 35)]) (.cond (.t 34) (.ss [.mv 36 (.t 3),.len 37 (.t 36),.bin 38 .add (.t 37) (.c (.int .i64 1)),.lit 39 2 [.int .i64 0] [(0,(.c (.int .i64 0))),(1,(.t 38))],.nop,.call 41 aH aF [(.t 0),(.c (.int .i64 2))] [0],.elp 42 (.t 39) (.t 41) 1,.eld 43 42 0 [.int .i64 0],.nop,.st 4 2 (.t 43)]) (.skip))))))) (.seq (.ss [.sub 45 4 0 3,.st 2 0 (.t 45)]) (.ret [2,0]))))))
def yT:Cfg:={tt:=tt,sigs:=sigs,mv:=false,bm:=[],eqt:=fE,keep:=[true,false,true,true,true,false,false,false,false,true,false,false,false,false,false,false,false,false,false,false,false,false,false,false,false,true,true,false,false,false,false,false,false,false,true,false,false,false,false,false,false,false,false,false,false,false],n:=46,pin:=[0],fail:=[],fz:=[] }
theorem GG:bP yT Tryz.f79 iJ=some p_s_l71Root:=by kernel_rfl
theorem GH {W:Wld}{ins outs:List (List D)}(h:pwp (FunOk PP W) p_s_l71Root (aS outs) (envL ins)):FunOk PP W rG iJ ins outs:=aQ (C:=yT) (aP rfl) (bB rfl rfl) mixed Tryz.func79 (by kernel_rfl) (by kernel_rfl) GG h

def p_s_l71Keys:PC:= .seq (.ss [.mv 2 (.c (.sl []))]) (.seq (.ss [.lit 5 0 [.int .i64 0] [],.mv 3 (.t 5)]) (.seq (.seq (.ss [.mv 4 (.c (.int .i64 1))]) (.block 0 (.loop (.seq (.seq (.ss [.mv 6 (.t 4),.bin 7 .leq (.t 6) (.c (.int .i64 6))]) (.cond (.t 7) (.skip) (.exit 0))) (.seq (.block 1 (.seq (.ss [.nop,.call 11 aH aF [(.t 0),(.c (.int .i64 2))] [0],.bin 12 .eql (.t 11) (.c (.int .i64 0))]) (.cond (.t 12) (.ss [.mv 13 (.t 3),.mv 14 (.t 4),.lit 15 1 [.int .i64 0] [(0,(.t 14))],.app 16 1 true (.t 13) (.t 15),.mv 3 (.t 16)]) (.skip)))) (.ss [.mv 8 (.t 4),.bin 9 .add (.t 8) (.c (.int .i64 1)),.mv 4 (.t 9)])))))) (.seq (.seq (.ss [.nop,.call 18 aH aF [(.t 0),(.c (.int .i64 16))] [0],.bin 19 .eql (.t 18) (.c (.int .i64 0))]) (.cond (.t 19) (.ss [.mv 20 (.t 3),.lit 21 3 [.int .i64 0] [(0,(.c (.int .i64 0))),(1,(.c (.int .i64 7))),(2,(.c (.int .i64 1)))],.nop,.call 23 aH aF [(.t 0),(.c (.int .i64 3))] [0],.elp 24 (.t 21) (.t 23) 1,.eld 25 24 0 [.int .i64 0],.lit 26 1 [.int .i64 0] [(0,(.t 25))],.app 27 1 true (.t 20) (.t 26),.mv 3 (.t 27)]) (.skip))) (.seq (.ss [.mv 28 (.t 3),.mv 2 (.t 28)]) (.ret [2,0])))))
def yU:Cfg:={tt:=tt,sigs:=sigs,mv:=false,bm:=[],eqt:=fE,keep:=[true,false,true,true,true,false,false,true,false,false,false,false,true,false,false,false,false,false,false,true,false,false,false,false,false,false,false,false,false],n:=29,pin:=[0],fail:=[],fz:=[] }
theorem GI:bP yU Tryz.f126 iK=some p_s_l71Keys:=by kernel_rfl
theorem GJ {W:Wld}{ins outs:List (List D)}(h:pwp (FunOk PP W) p_s_l71Keys (aS outs) (envL ins)):FunOk PP W rI iK ins outs:=aQ (C:=yU) (aP rfl) (bB rfl rfl) mixed Tryz.func126 (by kernel_rfl) (by kernel_rfl) GI h

def p_sl_BinarySearchFunc_Pkg:PC:= .seq (.ss [.mv 4 (.t 1),.mv 6 (.c (.int .i64 0)),.mv 7 (.c (.bool false))]) (.seq (.ss [.mv 12 (.t 0),.len 13 (.t 12),.mv 8 (.t 13)]) (.seq (.ss [.mv 14 (.t 8),.mv 9 (.c (.int .i64 0)),.mv 10 (.t 14)]) (.seq (.block 0 (.loop (.seq (.seq (.ss [.mv 15 (.t 9),.mv 16 (.t 10),.bin 17 .lss (.t 15) (.t 16)]) (.cond (.t 17) (.skip) (.exit 0))) (.block 1 (.seq (.ss [.mv 18 (.t 9),.mv 19 (.t 10),.bin 20 .add (.t 18) (.t 19),.cvt 21 .u64 (.t 20),.bin 22 .shr (.t 21) (.c (.int .u64 1)),.cvt 23 .i64 (.t 22),.mv 11 (.t 23)]) (.seq (.ss [.mv 24 (.t 2),.mv 25 (.t 0),.mv 26 (.t 11),.elp 27 (.t 25) (.t 26) 4,.eld 28 27 0 [.int .i64 0,.int .i64 0,.sl [],.sl []],.sub 29 4 0 4,.callc 30 24 cG cH [(.t 28),(.t 29)],.bin 31 .lss (.t 30) (.c (.int .i64 0))]) (.cond (.t 31) (.ss [.mv 32 (.t 11),.bin 33 .add (.t 32) (.c (.int .i64 1)),.mv 9 (.t 33)]) (.ss [.mv 34 (.t 11),.mv 10 (.t 34)])))))))) (.seq (.ss [.mv 35 (.t 9),.mv 36 (.t 9),.mv 37 (.t 8),.bin 38 .lss (.t 36) (.t 37),.mv 39 (.t 38),.g 39 true 40 (.mv 40 (.t 2)),.g 39 true 41 (.mv 41 (.t 0)),.g 39 true 42 (.mv 42 (.t 9)),.g 39 true 43 (.elp 43 (.t 41) (.t 42) 4),.g 39 true 44 (.eld 44 43 0 [.int .i64 0,.int .i64 0,.sl [],.sl []]),.g 39 true 45 (.sub 45 4 0 4),.g 39 true 46 (.callc 46 40 cG cH [(.t 44),(.t 45)]),.g 39 true 47 (.bin 47 .eql (.t 46) (.c (.int .i64 0))),.pick 48 (.t 39) (.t 47) (.c (.bool false)),.mv 6 (.t 35),.mv 7 (.t 48)]) (.ret [6,7])))))
def gO:Cfg:={tt:=tt,sigs:=sigs,mv:=false,bm:=[],eqt:=fE,keep:=[true,true,true,false,true,false,true,true,true,true,true,true,false,false,false,false,false,true,false,false,false,false,false,false,false,false,false,false,false,false,false,true,false,false,false,false,false,false,false,false,false,false,false,false,false,false,false,false,false],n:=49,pin:=[],fail:=[],fz:=[] }
theorem mQ:bP gO Tryz.f106 bL=some p_sl_BinarySearchFunc_Pkg:=by kernel_rfl
theorem mR {W:Wld}{ins outs:List (List D)}(h:pwp (FunOk PP W) p_sl_BinarySearchFunc_Pkg (aS outs) (envL ins)):FunOk PP W dL bL ins outs:=aQ (C:=gO) (aP rfl) (bB rfl rfl) mixed Tryz.func106 (by kernel_rfl) (by kernel_rfl) mQ h

def p_s_l71Off:PC:= .seq (.ss [.mv 2 (.c (.sl []))]) (.seq (.ss [.nop,.call 5 kR eD [(.t 0)] [0],.mv 3 (.t 5)]) (.seq (.seq (.ss [.nop,.call 7 aH aF [(.t 0),(.c (.int .i64 20))] [0]]) (.block 0 (.seq (.ss [.bin 9 .eql (.t 7) (.c (.int .i64 0)),.mv 8 (.t 9)]) (.cond (.t 8) (.ss [.mv 10 (.t 3),.nop,.call 12 mI fI [(.t 0)] [0],.lit 13 1 [.int .i64 0,.int .i64 0,.sl [],.sl []] [(0,(.t 12))],.app 14 4 false (.t 10) (.t 13),.mv 3 (.t 14)]) (.seq (.ss [.bin 16 .eql (.t 7) (.c (.int .i64 1)),.mv 15 (.t 16)]) (.cond (.t 15) (.seq (.ss [.mv 17 (.t 3),.len 18 (.t 17),.bin 19 .gtr (.t 18) (.c (.int .i64 0))]) (.cond (.t 19) (.ss [.mv 20 (.t 3),.nop,.mv 22 (.t 3),.len 23 (.t 22),.call 24 aH aF [(.t 0),(.t 23)] [0],.nop,.call 26 mI fI [(.t 0)] [0],.elp 27 (.t 20) (.t 24) 4,.els 27 0 3 0 (.t 26)]) (.skip))) (.skip))))))) (.seq (.ss [.mv 28 (.t 3),.mv 2 (.t 28)]) (.ret [2,0]))))
def Bn:Cfg:={tt:=tt,sigs:=sigs,mv:=false,bm:=[],eqt:=fE,keep:=[true,false,true,true,false,false,false,true,true,false,false,false,false,false,false,true,false,false,false,true,false,false,false,false,false,false,false,false,false],n:=29,pin:=[0],fail:=[],fz:=[] }
theorem Hx:bP Bn Tryz.f83 jO=some p_s_l71Off:=by kernel_rfl
theorem Hy {W:Wld}{ins outs:List (List D)}(h:pwp (FunOk PP W) p_s_l71Off (aS outs) (envL ins)):FunOk PP W tT jO ins outs:=aQ (C:=Bn) (aP rfl) (bB rfl rfl) mixed Tryz.func83 (by kernel_rfl) (by kernel_rfl) Hx h

def p_s_l71Pkgs:PC:= .seq (.ss [.mv 2 (.c (.sl []))]) (.seq (.ss [.lit 6 0 [.int .i64 0,.int .i64 0,.sl [],.sl []] [],.mv 3 (.t 6)]) (.seq (.seq (.ss [.nop,.call 8 aH aF [(.t 0),(.c (.int .i64 8))] [0],.mv 4 (.t 8)]) (.block 0 (.loop (.seq (.seq (.ss [.mv 9 (.t 4),.bin 10 .gtr (.t 9) (.c (.int .i64 0))]) (.cond (.t 10) (.skip) (.exit 0))) (.seq (.block 1 (.seq (.ss [.nop,.nop,.call 15 aH aF [(.t 0),(.c (.int .i64 4))] [0],.bin 16 .add (.c (.int .i64 1)) (.t 15),.nop,.call 18 aH aF [(.t 0),(.c (.int .i64 3))] [0],.bin 19 .add (.c (.int .i64 1)) (.t 18),.call 20 pQ hM [(.t 0),(.t 16),(.t 19)] [0],.bld 5 [.int .i64 0,.int .i64 0,.sl [],.sl []] [],.st 5 0 (.t 20)]) (.seq (.ss [.mv 21 (.t 3),.nop,.sub 23 5 0 1,.nop,.sub 25 5 1 1,.call 26 kP eE [(.t 21),(.t 23),(.t 25)] [],.bin 27 .lss (.t 26) (.c (.int .i64 0))]) (.cond (.t 27) (.ss [.mv 28 (.t 3),.sub 29 5 0 4,.call 30 nG fK [(.t 28),(.t 29)] [],.mv 3 (.t 30)]) (.skip))))) (.ss [.mv 11 (.t 4),.bin 12 .sub (.t 11) (.c (.int .i64 1)),.mv 4 (.t 12)])))))) (.seq (.ss [.mv 31 (.t 3),.mv 2 (.t 31)]) (.ret [2,0]))))
def yV:Cfg:={tt:=tt,sigs:=sigs,mv:=false,bm:=[6],eqt:=fE,keep:=[true,false,true,true,true,true,false,false,false,false,true,false,false,false,false,false,false,false,false,false,false,false,false,false,false,false,false,true,false,false,false,false],n:=32,pin:=[0],fail:=[],fz:=[] }
theorem GK:bP yV Tryz.f80 eD=some p_s_l71Pkgs:=by kernel_rfl
theorem GL {W:Wld}{ins outs:List (List D)}(h:pwp (FunOk PP W) p_s_l71Pkgs (aS outs) (envL ins)):FunOk PP W kR eD ins outs:=aQ (C:=yV) (aP rfl) (bB rfl rfl) mixed Tryz.func80 (by kernel_rfl) (by kernel_rfl) GK h

def p_s_l12With:PC:= .seq (.ss [.mv 3 (.t 1),.mv 4 (.c (.sl []))]) (.seq (.ss [.lit 8 0 [.int .i64 0,.int .i64 0,.sl [],.sl []] [],.mv 5 (.t 8)]) (.seq (.seq (.ss [.mv 6 (.c (.int .i64 0))]) (.block 0 (.loop (.seq (.seq (.ss [.mv 9 (.t 6),.mv 10 (.t 0),.len 11 (.t 10),.bin 12 .lss (.t 9) (.t 11)]) (.cond (.t 12) (.skip) (.exit 0))) (.seq (.block 1 (.seq (.ss [.mv 15 (.t 0),.mv 16 (.t 6),.elp 17 (.t 15) (.t 16) 4,.mv 18 (.t 17),.eld 19 18 0 [.int .i64 0],.mv 20 (.t 0),.mv 21 (.t 6),.elp 22 (.t 20) (.t 21) 4,.mv 23 (.t 22),.eld 24 23 1 [.int .i64 0],.nop,.sub 26 3 0 1,.nop,.sub 28 3 1 1,.call 29 jK eL [(.t 19),(.t 24),(.t 26),(.t 28)] []]) (.cond (.t 29) (.ss [.mv 30 (.t 5),.mv 31 (.t 0),.mv 32 (.t 6),.elp 33 (.t 31) (.t 32) 4,.eld 34 33 0 [.int .i64 0,.int .i64 0,.sl [],.sl []],.lit 35 1 [.int .i64 0,.int .i64 0,.sl [],.sl []] [(0,(.t 34))],.app 36 4 false (.t 30) (.t 35),.mv 5 (.t 36)]) (.skip)))) (.ss [.mv 13 (.t 6),.bin 14 .add (.t 13) (.c (.int .i64 1)),.mv 6 (.t 14)])))))) (.seq (.ss [.mv 37 (.t 5),.sub 38 3 0 4,.lit 39 1 [.int .i64 0,.int .i64 0,.sl [],.sl []] [(0,(.t 38))],.app 40 4 false (.t 37) (.t 39),.mv 5 (.t 40)]) (.seq (.seq (.ss [.mv 7 (.c (.int .i64 0))]) (.block 2 (.loop (.seq (.seq (.ss [.mv 41 (.t 7),.mv 42 (.t 0),.len 43 (.t 42),.bin 44 .lss (.t 41) (.t 43)]) (.cond (.t 44) (.skip) (.exit 2))) (.seq (.block 3 (.seq (.ss [.nop,.sub 48 3 0 1,.nop,.sub 50 3 1 1,.mv 51 (.t 0),.mv 52 (.t 7),.elp 53 (.t 51) (.t 52) 4,.mv 54 (.t 53),.eld 55 54 0 [.int .i64 0],.mv 56 (.t 0),.mv 57 (.t 7),.elp 58 (.t 56) (.t 57) 4,.mv 59 (.t 58),.eld 60 59 1 [.int .i64 0],.call 61 jK eL [(.t 48),(.t 50),(.t 55),(.t 60)] []]) (.cond (.t 61) (.ss [.mv 62 (.t 5),.mv 63 (.t 0),.mv 64 (.t 7),.elp 65 (.t 63) (.t 64) 4,.eld 66 65 0 [.int .i64 0,.int .i64 0,.sl [],.sl []],.lit 67 1 [.int .i64 0,.int .i64 0,.sl [],.sl []] [(0,(.t 66))],.app 68 4 false (.t 62) (.t 67),.mv 5 (.t 68)]) (.skip)))) (.ss [.mv 45 (.t 7),.bin 46 .add (.t 45) (.c (.int .i64 1)),.mv 7 (.t 46)])))))) (.seq (.ss [.mv 69 (.t 5),.mv 4 (.t 69)]) (.ret [4]))))))
def yW:Cfg:={tt:=tt,sigs:=sigs,mv:=false,bm:=[8],eqt:=fE,keep:=[true,true,false,true,true,true,true,true,false,false,false,false,true,false,false,false,false,false,false,false,false,false,false,false,false,false,false,false,false,true,false,false,false,false,false,false,false,false,false,false,false,false,false,false,true,false,false,false,false,false,false,false,false,false,false,false,false,false,false,false,false,true,false,false,false,false,false,false,false,false],n:=70,pin:=[],fail:=[],fz:=[] }
theorem GM:bP yW Tryz.f40 fK=some p_s_l12With:=by kernel_rfl
theorem GN {W:Wld}{ins outs:List (List D)}(h:pwp (FunOk PP W) p_s_l12With (aS outs) (envL ins)):FunOk PP W nG fK ins outs:=aQ (C:=yW) (aP rfl) (bB rfl rfl) mixed Tryz.func40 (by kernel_rfl) (by kernel_rfl) GM h

def p_l_luPkgs:PC:= .seq (.ss [.mv 4 (.c (.bool false))]) (.seq (.seq (.ss [.mv 6 (.t 0),.len 7 (.t 6),.mv 8 (.t 1),.len 9 (.t 8),.bin 10 .neq (.t 7) (.t 9)]) (.cond (.t 10) (.seq (.ss [.mv 4 (.c (.bool false))]) (.ret [4])) (.skip))) (.seq (.seq (.ss [.mv 5 (.c (.int .i64 0))]) (.block 0 (.loop (.seq (.seq (.ss [.mv 11 (.t 5),.mv 12 (.t 0),.len 13 (.t 12),.bin 14 .lss (.t 11) (.t 13)]) (.cond (.t 14) (.skip) (.exit 0))) (.seq (.block 1 (.seq (.ss [.mv 17 (.t 0),.mv 18 (.t 5),.elp 19 (.t 17) (.t 18) 4,.eld 20 19 0 [.int .i64 0,.int .i64 0,.sl [],.sl []],.mv 21 (.t 1),.mv 22 (.t 5),.elp 23 (.t 21) (.t 22) 4,.eld 24 23 0 [.int .i64 0,.int .i64 0,.sl [],.sl []],.call 25 sD jP [(.t 20),(.t 24)] [],.un 26 .not (.t 25)]) (.cond (.t 26) (.seq (.ss [.mv 4 (.c (.bool false))]) (.ret [4])) (.skip)))) (.ss [.mv 15 (.t 5),.bin 16 .add (.t 15) (.c (.int .i64 1)),.mv 5 (.t 16)])))))) (.seq (.ss [.mv 4 (.c (.bool true))]) (.ret [4]))))
def Bo:Cfg:={tt:=tt,sigs:=sigs,mv:=false,bm:=[],eqt:=fE,keep:=[true,true,false,false,true,true,false,false,false,false,true,false,false,false,true,false,false,false,false,false,false,false,false,false,false,false,true],n:=27,pin:=[],fail:=[],fz:=[] }
theorem Hz:bP Bo Tryz.f11 fM=some p_l_luPkgs:=by kernel_rfl
theorem IA {W:Wld}{ins outs:List (List D)}(h:pwp (FunOk PP W) p_l_luPkgs (aS outs) (envL ins)):FunOk PP W mH fM ins outs:=aQ (C:=Bo) (aP rfl) (bB rfl rfl) mixed Tryz.func11 (by kernel_rfl) (by kernel_rfl) Hz h

def p_s_TrustOk:PC:= .seq (.ss [.mv 1 (.t 0),.mv 2 (.c (.bool false))]) (.seq (.seq (.ss [.nop,.sub 4 1 0 3,.call 5 tP jR [(.t 4)] [],.un 6 .not (.t 5)]) (.cond (.t 6) (.seq (.ss [.mv 2 (.c (.bool false))]) (.ret [2])) (.skip))) (.seq (.seq (.ss [.nop,.sub 8 1 3 1]) (.cond (.t 8) (.seq (.ss [.nop,.sub 10 1 4 3,.call 11 nH fQ [(.t 10)] [],.mv 2 (.t 11)]) (.ret [2])) (.skip))) (.seq (.ss [.nop,.nop,.sub 14 1 4 1,.bin 15 .eql (.t 14) (.c (.int .i64 0)),.mv 16 (.t 15),.g 16 true 17 (.nop),.g 16 true 18 (.nop),.g 16 true 19 (.sub 19 1 5 1),.g 16 true 20 (.bin 20 .eql (.t 19) (.c (.int .i64 0))),.pick 21 (.t 16) (.t 20) (.c (.bool false)),.mv 22 (.t 21),.g 22 true 23 (.nop),.g 22 true 24 (.nop),.g 22 true 25 (.sub 25 1 6 1),.g 22 true 26 (.len 26 (.t 25)),.g 22 true 27 (.bin 27 .eql (.t 26) (.c (.int .i64 0))),.pick 28 (.t 22) (.t 27) (.c (.bool false)),.mv 2 (.t 28)]) (.ret [2]))))
def yX:Cfg:={tt:=tt,sigs:=sigs,mv:=false,bm:=[],eqt:=fE,keep:=[true,true,true,false,false,false,true,false,true,false,false,false,false,false,false,false,false,false,false,false,false,false,false,false,false,false,false,false,false],n:=29,pin:=[],fail:=[],fz:=[] }
theorem GO:bP yX Tryz.f13 fN=some p_s_TrustOk:=by kernel_rfl
theorem GP {W:Wld}{ins outs:List (List D)}(h:pwp (FunOk PP W) p_s_TrustOk (aS outs) (envL ins)):FunOk PP W nD fN ins outs:=aQ (C:=yX) (aP rfl) (bB rfl rfl) mixed Tryz.func13 (by kernel_rfl) (by kernel_rfl) GO h

def p_s_StoreOk:PC:= .seq (.ss [.mv 2 (.c (.bool false))]) (.seq (.ss [.mv 3 (.t 0),.call 4 pR hO [(.t 3)] [],.mv 2 (.t 4)]) (.ret [2]))
def yY:Cfg:={tt:=tt,sigs:=sigs,mv:=false,bm:=[],eqt:=fE,keep:=[true,false,true,false,false],n:=5,pin:=[],fail:=[],fz:=[] }
theorem GQ:bP yY Tryz.f14 fO=some p_s_StoreOk:=by kernel_rfl
theorem GR {W:Wld}{ins outs:List (List D)}(h:pwp (FunOk PP W) p_s_StoreOk (aS outs) (envL ins)):FunOk PP W nE fO ins outs:=aQ (C:=yY) (aP rfl) (bB rfl rfl) mixed Tryz.func14 (by kernel_rfl) (by kernel_rfl) GQ h

def p_i_IndexHas:PC:= .seq (.ss [.mv 2 (.t 0),.bld 4 [.int .i64 0,.int .i64 0,.sl [],.sl []] [],.mv 5 (.c (.bool false))]) (.seq (.ss [.mv 9 (.t 1),.call 10 kQ eF [(.t 9)] [],.mv 8 (.t 10),.ext 11 8 0 4,.ext 12 8 4 1,.bld 6 [.int .i64 0,.int .i64 0,.sl [],.sl []] [],.st 6 0 (.t 11),.mv 7 (.t 12)]) (.seq (.seq (.ss [.mv 13 (.t 7),.un 14 .not (.t 13),.mv 15 (.t 14),.g 15 false 16 (.sub 16 2 0 3),.g 15 false 17 (.call 17 nI fR [(.t 16)] []),.g 15 false 18 (.un 18 .not (.t 17)),.pick 19 (.t 15) (.c (.bool true)) (.t 18),.mv 20 (.t 19),.g 20 false 21 (.nop),.g 20 false 22 (.sub 22 2 2 1),.g 20 false 23 (.sub 23 6 0 4),.g 20 false 24 (.call 24 tO jQ [(.t 23)] []),.g 20 false 25 (.call 25 hH cM [(.t 22),(.t 24)] []),.g 20 false 26 (.un 26 .not (.t 25)),.pick 27 (.t 20) (.c (.bool true)) (.t 26)]) (.cond (.t 27) (.seq (.ss [.bld 28 [.int .i64 0,.int .i64 0,.sl [],.sl []] [],.st 4 0 (.t 28),.mv 5 (.c (.bool false))]) (.ret [4,5])) (.skip))) (.seq (.ss [.sub 29 6 0 4,.st 4 0 (.t 29),.mv 5 (.c (.bool true))]) (.ret [4,5]))))
def vI:Cfg:={tt:=tt,sigs:=sigs,mv:=false,bm:=[],eqt:=fE,keep:=[true,true,true,false,true,true,true,true,false,false,false,false,false,false,false,false,false,false,false,false,false,false,false,false,false,false,false,true,false,false],n:=30,pin:=[],fail:=[],fz:=[] }
theorem Ec:bP vI Tryz.f15 cN=some p_i_IndexHas:=by kernel_rfl
theorem Ed {W:Wld}{ins outs:List (List D)}(h:pwp (FunOk PP W) p_i_IndexHas (aS outs) (envL ins)):FunOk PP W eK cN ins outs:=aQ (C:=vI) (aP rfl) (bB rfl rfl) mixed Tryz.func15 (by kernel_rfl) (by kernel_rfl) Ec h

def p_l_luPkg:PC:= .seq (.ss [.mv 2 (.t 0),.mv 3 (.t 1),.mv 4 (.c (.bool false))]) (.seq (.seq (.ss [.nop,.sub 8 2 0 1,.nop,.sub 10 3 0 1,.bin 11 .neq (.t 8) (.t 10),.mv 12 (.t 11),.g 12 false 13 (.nop),.g 12 false 14 (.sub 14 2 1 1),.g 12 false 15 (.nop),.g 12 false 16 (.sub 16 3 1 1),.g 12 false 17 (.bin 17 .neq (.t 14) (.t 16)),.pick 18 (.t 12) (.c (.bool true)) (.t 17),.mv 19 (.t 18),.g 19 false 20 (.nop),.g 19 false 21 (.sub 21 2 2 1),.g 19 false 22 (.len 22 (.t 21)),.g 19 false 23 (.nop),.g 19 false 24 (.sub 24 3 2 1),.g 19 false 25 (.len 25 (.t 24)),.g 19 false 26 (.bin 26 .neq (.t 22) (.t 25)),.pick 27 (.t 19) (.c (.bool true)) (.t 26),.mv 28 (.t 27),.g 28 false 29 (.nop),.g 28 false 30 (.sub 30 2 3 1),.g 28 false 31 (.len 31 (.t 30)),.g 28 false 32 (.nop),.g 28 false 33 (.sub 33 3 3 1),.g 28 false 34 (.len 34 (.t 33)),.g 28 false 35 (.bin 35 .neq (.t 31) (.t 34)),.pick 36 (.t 28) (.c (.bool true)) (.t 35)]) (.cond (.t 36) (.seq (.ss [.mv 4 (.c (.bool false))]) (.ret [4])) (.skip))) (.seq (.seq (.ss [.mv 5 (.c (.int .i64 0))]) (.block 0 (.loop (.seq (.seq (.ss [.mv 37 (.t 5),.nop,.sub 39 2 2 1,.len 40 (.t 39),.bin 41 .lss (.t 37) (.t 40)]) (.cond (.t 41) (.skip) (.exit 0))) (.seq (.block 1 (.seq (.ss [.nop,.sub 45 2 2 1,.mv 46 (.t 5),.elp 47 (.t 45) (.t 46) 2,.eld 48 47 0 [.int .i64 0,.int .i64 0],.nop,.sub 50 3 2 1,.mv 51 (.t 5),.elp 52 (.t 50) (.t 51) 2,.eld 53 52 0 [.int .i64 0,.int .i64 0],.eqs 54 true [.int .i64 0,.int .i64 0] (.t 48) (.t 53)]) (.cond (.t 54) (.seq (.ss [.mv 4 (.c (.bool false))]) (.ret [4])) (.skip)))) (.ss [.mv 42 (.t 5),.bin 43 .add (.t 42) (.c (.int .i64 1)),.mv 5 (.t 43)])))))) (.seq (.seq (.ss [.mv 6 (.c (.int .i64 0))]) (.block 2 (.loop (.seq (.seq (.ss [.mv 55 (.t 6),.nop,.sub 57 2 3 1,.len 58 (.t 57),.bin 59 .lss (.t 55) (.t 58)]) (.cond (.t 59) (.skip) (.exit 2))) (.seq (.block 3 (.seq (.ss [.nop,.sub 63 2 3 1,.mv 64 (.t 6),.elp 65 (.t 63) (.t 64) 2,.eld 66 65 0 [.int .i64 0,.int .i64 0],.nop,.sub 68 3 3 1,.mv 69 (.t 6),.elp 70 (.t 68) (.t 69) 2,.eld 71 70 0 [.int .i64 0,.int .i64 0],.eqs 72 true [.int .i64 0,.int .i64 0] (.t 66) (.t 71)]) (.cond (.t 72) (.seq (.ss [.mv 4 (.c (.bool false))]) (.ret [4])) (.skip)))) (.ss [.mv 60 (.t 6),.bin 61 .add (.t 60) (.c (.int .i64 1)),.mv 6 (.t 61)])))))) (.seq (.ss [.mv 4 (.c (.bool true))]) (.ret [4])))))
def DT:Cfg:={tt:=tt,sigs:=sigs,mv:=false,bm:=[],eqt:=fE,keep:=[true,true,true,true,true,true,true,false,false,false,false,false,false,false,false,false,false,false,false,false,false,false,false,false,false,false,false,false,false,false,false,false,false,false,false,false,true,false,false,false,false,true,false,false,false,false,false,false,false,false,false,false,false,false,true,false,false,false,false,true,false,false,false,false,false,false,false,false,false,false,false,false,true],n:=73,pin:=[],fail:=[],fz:=[] }
theorem KY:bP DT Tryz.f17 jP=some p_l_luPkg:=by kernel_rfl
theorem KZ {W:Wld}{ins outs:List (List D)}(h:pwp (FunOk PP W) p_l_luPkg (aS outs) (envL ins)):FunOk PP W sD jP ins outs:=aQ (C:=DT) (aP rfl) (bB rfl rfl) mixed Tryz.func17 (by kernel_rfl) (by kernel_rfl) KY h

def p_s_DrawStoreAdd:PC:= .seq (.ss [.bld 2 [.int .i64 0,.sl [],.int .i64 0,.bool false,.int .i64 0,.int .i64 0,.sl []] [],.mv 3 (.c (.sl [])),.mv 4 (.c (.str ⟨#[]⟩))]) (.seq (.ss [.mv 9 (.t 0),.call 10 tN jM [(.t 9)] [],.nop]) (.seq (.ss [.nop,.call 13 pP gH [(.t 10)] [10],.mv 11 (.t 13),.ext 14 11 0 7,.ext 15 11 7 1,.bld 6 [.int .i64 0,.sl [],.int .i64 0,.bool false,.int .i64 0,.int .i64 0,.sl []] [],.st 6 0 (.t 14),.mv 7 (.t 15)]) (.seq (.ss [.nop,.call 17 mI fI [(.t 10)] [10],.call 18 iH dS [(.t 17)] [],.mv 8 (.t 18)]) (.seq (.seq (.ss [.mv 19 (.t 7),.len 20 (.t 19),.bin 21 .gtr (.t 20) (.c (.int .i64 0)),.mv 22 (.t 21),.g 22 true 23 (.nop),.g 22 true 24 (.call 24 aH aF [(.t 10),(.c (.int .i64 6))] [10]),.g 22 true 25 (.bin 25 .gtr (.t 24) (.c (.int .i64 0))),.pick 26 (.t 22) (.t 25) (.c (.bool false))]) (.cond (.t 26) (.ss [.mv 27 (.t 7),.nop,.mv 29 (.t 7),.len 30 (.t 29),.call 31 aH aF [(.t 10),(.t 30)] [10],.elp 32 (.t 27) (.t 31) 4,.eld 33 32 0 [.int .i64 0,.int .i64 0,.sl [],.sl []],.call 34 iH dS [(.t 33)] [],.mv 8 (.t 34)]) (.skip))) (.seq (.ss [.sub 35 6 0 7,.nop,.mv 37 (.t 7),.call 38 rD iL [(.t 10),(.t 37)] [10],.mv 39 (.t 8),.st 2 0 (.t 35),.mv 3 (.t 38),.mv 4 (.t 39)]) (.ret [2,3,4]))))))
def oQ:Cfg:={tt:=tt,sigs:=sigs,mv:=false,bm:=[],eqt:=fE,keep:=[true,false,true,true,true,true,true,true,true,false,true,false,false,false,false,false,false,false,false,false,false,false,false,false,false,false,true,false,false,false,false,false,false,false,false,false,false,false,false,false],n:=40,pin:=[],fail:=[],fz:=[] }
theorem xI:bP oQ Tryz.f18 dD=some p_s_DrawStoreAdd:=by kernel_rfl
theorem xJ {W:Wld}{ins outs:List (List D)}(h:pwp (FunOk PP W) p_s_DrawStoreAdd (aS outs) (envL ins)):FunOk PP W jJ dD ins outs:=aQ (C:=oQ) (aP rfl) (bB rfl rfl) mixed Tryz.func18 (by kernel_rfl) (by kernel_rfl) xI h

def p_s_StoreAdd:PC:= .seq (.ss [.mv 3 (.t 0),.mv 6 (.c (.sl [])),.mv 7 (.c (.bool false))]) (.seq (.seq (.ss [.sub 8 3 0 7,.call 9 nD fN [(.t 8)] [],.un 10 .not (.t 9),.mv 11 (.t 10),.g 11 false 12 (.mv 12 (.t 1)),.g 11 false 13 (.call 13 nE fO [(.t 12)] []),.g 11 false 14 (.un 14 .not (.t 13)),.pick 15 (.t 11) (.c (.bool true)) (.t 14)]) (.cond (.t 15) (.seq (.ss [.lit 16 0 [.int .i64 0,.int .i64 0,.sl [],.sl []] [],.mv 6 (.t 16),.mv 7 (.c (.bool false))]) (.ret [6,7])) (.skip))) (.seq (.ss [.sub 17 3 0 7,.mv 18 (.t 1),.call 19 rF iI [(.t 18)] [],.mv 20 (.t 2),.call 21 tQ jN [(.t 17),(.t 19),(.t 20)] [],.ext 22 21 0 1,.ext 23 21 1 1,.mv 6 (.t 22),.mv 7 (.t 23)]) (.ret [6,7])))
def vJ:Cfg:={tt:=tt,sigs:=sigs,mv:=false,bm:=[],eqt:=fE,keep:=[true,true,true,true,false,false,true,true,false,false,false,false,false,false,false,true,false,false,false,false,false,false,false,false],n:=24,pin:=[],fail:=[],fz:=[] }
theorem Ee:bP vJ Tryz.f19 gG=some p_s_StoreAdd:=by kernel_rfl
theorem Ef {W:Wld}{ins outs:List (List D)}(h:pwp (FunOk PP W) p_s_StoreAdd (aS outs) (envL ins)):FunOk PP W pO gG ins outs:=aQ (C:=vJ) (aP rfl) (bB rfl rfl) mixed Tryz.func19 (by kernel_rfl) (by kernel_rfl) Ee h

def p_l_luIn:PC:= .seq (.ss [.mv 3 (.t 1),.mv 4 (.c (.bool false))]) (.seq (.seq (.ss [.mv 5 (.c (.int .i64 0))]) (.block 0 (.loop (.seq (.seq (.ss [.mv 6 (.t 5),.mv 7 (.t 0),.len 8 (.t 7),.bin 9 .lss (.t 6) (.t 8)]) (.cond (.t 9) (.skip) (.exit 0))) (.seq (.block 1 (.seq (.ss [.mv 12 (.t 0),.mv 13 (.t 5),.elp 14 (.t 12) (.t 13) 4,.eld 15 14 0 [.int .i64 0,.int .i64 0,.sl [],.sl []],.sub 16 3 0 4,.call 17 sD jP [(.t 15),(.t 16)] []]) (.cond (.t 17) (.seq (.ss [.mv 4 (.c (.bool true))]) (.ret [4])) (.skip)))) (.ss [.mv 10 (.t 5),.bin 11 .add (.t 10) (.c (.int .i64 1)),.mv 5 (.t 11)])))))) (.seq (.ss [.mv 4 (.c (.bool false))]) (.ret [4])))
def GS:Cfg:={tt:=tt,sigs:=sigs,mv:=false,bm:=[],eqt:=fE,keep:=[true,true,false,true,true,true,false,false,false,true,false,false,false,false,false,false,false,true],n:=18,pin:=[],fail:=[],fz:=[] }
theorem Mw:bP GS Tryz.f22 kU=some p_l_luIn:=by kernel_rfl
theorem Mx {W:Wld}{ins outs:List (List D)}(h:pwp (FunOk PP W) p_l_luIn (aS outs) (envL ins)):FunOk PP W rC kU ins outs:=aQ (C:=GS) (aP rfl) (bB rfl rfl) mixed Tryz.func22 (by kernel_rfl) (by kernel_rfl) Mw h

def p_i_StoreOk:PC:= .seq (.ss [.mv 2 (.c (.bool false))]) (.seq (.seq (.ss [.mv 5 (.t 0),.len 6 (.t 5),.mv 7 (.c (.int .i64 0))]) (.block 0 (.loop (.seq (.ss [.bin 8 .lss (.t 7) (.t 6)]) (.seq (.cond (.t 8) (.skip) (.exit 0)) (.seq (.block 1 (.seq (.ss [.mv 9 (.t 7),.elp 10 (.t 5) (.t 7) 4,.eld 11 10 0 [.int .i64 0,.int .i64 0,.sl [],.sl []],.bld 4 [.int .i64 0,.int .i64 0,.sl [],.sl []] [],.mv 3 (.t 9),.st 4 0 (.t 11)]) (.seq (.ss [.sub 12 4 0 4,.call 13 sE jS [(.t 12)] [],.un 14 .not (.t 13),.mv 15 (.t 14),.g 15 false 16 (.mv 16 (.t 3)),.g 15 false 17 (.bin 17 .gtr (.t 16) (.c (.int .i64 0))),.g 15 false 18 (.mv 18 (.t 17)),.g 18 true 19 (.mv 19 (.t 0)),.g 18 true 20 (.mv 20 (.t 3)),.g 18 true 21 (.bin 21 .sub (.t 20) (.c (.int .i64 1))),.g 18 true 22 (.elp 22 (.t 19) (.t 21) 4),.g 18 true 23 (.eld 23 22 0 [.int .i64 0,.int .i64 0,.sl [],.sl []]),.g 18 true 24 (.sub 24 4 0 4),.g 18 true 25 (.call 25 cG cH [(.t 23),(.t 24)] []),.g 18 true 26 (.bin 26 .geq (.t 25) (.c (.int .i64 0))),.g 15 false 27 (.pick 27 (.t 18) (.t 26) (.c (.bool false))),.pick 28 (.t 15) (.c (.bool true)) (.t 27)]) (.cond (.t 28) (.seq (.ss [.mv 2 (.c (.bool false))]) (.ret [2])) (.skip))))) (.ss [.bin 29 .add (.t 7) (.c (.int .i64 1)),.mv 7 (.t 29)]))))))) (.seq (.ss [.mv 2 (.c (.bool true))]) (.ret [2])))
def yZ:Cfg:={tt:=tt,sigs:=sigs,mv:=false,bm:=[],eqt:=fE,keep:=[true,false,true,true,true,true,true,true,true,false,false,false,false,false,false,false,false,false,false,false,false,false,false,false,false,false,false,false,true,false],n:=30,pin:=[],fail:=[],fz:=[] }
theorem GT:bP yZ Tryz.f23 fP=some p_i_StoreOk:=by kernel_rfl
theorem GU {W:Wld}{ins outs:List (List D)}(h:pwp (FunOk PP W) p_i_StoreOk (aS outs) (envL ins)):FunOk PP W nF fP ins outs:=aQ (C:=yZ) (aP rfl) (bB rfl rfl) mixed Tryz.func23 (by kernel_rfl) (by kernel_rfl) GT h

def p_s_l71Trust:PC:= .seq (.ss [.bld 2 [.int .i64 0,.sl [],.int .i64 0,.bool false,.int .i64 0,.int .i64 0,.sl []] [],.mv 3 (.c (.sl []))]) (.seq (.ss [.nop,.call 7 rG iJ [(.t 0)] [0],.bld 8 [.int .i64 0,.sl [],.int .i64 0,.bool false,.int .i64 0,.int .i64 0,.sl []] [(0,(.t 7))],.bld 4 [.int .i64 0,.sl [],.int .i64 0,.bool false,.int .i64 0,.int .i64 0,.sl []] [],.st 4 0 (.t 8)]) (.seq (.ss [.nop,.call 10 kR eD [(.t 0)] [0],.mv 5 (.t 10)]) (.seq (.seq (.ss [.nop,.call 12 aH aF [(.t 0),(.c (.int .i64 5))] [0],.bin 13 .gtr (.t 12) (.c (.int .i64 0))]) (.cond (.t 13) (.seq (.ss [.nop,.st 4 3 (.c (.bool true))]) (.ss [.nop,.call 17 aH aF [(.t 0),(.c (.int .i64 4))] [0],.bin 18 .add (.c (.int .i64 1)) (.t 17),.nop,.call 20 aH aF [(.t 0),(.c (.int .i64 12))] [0],.mv 21 (.t 5),.call 22 nJ fJ [(.t 18),(.t 20),(.t 21)] [],.mv 15 (.t 22),.ext 23 15 0 3,.ext 24 15 3 1,.nop,.st 4 4 (.t 23)])) (.skip))) (.seq (.seq (.ss [.nop,.call 27 aH aF [(.t 0),(.c (.int .i64 24))] [0]]) (.block 0 (.seq (.ss [.bin 29 .eql (.t 27) (.c (.int .i64 0)),.mv 28 (.t 29)]) (.cond (.t 28) (.ss [.nop,.sub 31 4 3 1,.un 32 .not (.t 31),.nop,.st 4 3 (.t 32)]) (.seq (.ss [.bin 35 .eql (.t 27) (.c (.int .i64 1)),.mv 34 (.t 35)]) (.cond (.t 34) (.ss [.nop,.call 37 pS gD [(.t 0)] [0],.nop,.st 4 4 (.t 37)]) (.skip))))))) (.seq (.ss [.sub 39 4 0 7,.mv 40 (.t 5),.st 2 0 (.t 39),.mv 3 (.t 40)]) (.ret [2,3,0]))))))
def vK:Cfg:={tt:=tt,sigs:=sigs,mv:=false,bm:=[],eqt:=fE,keep:=[true,false,true,true,true,true,false,false,false,false,false,false,false,true,false,false,false,false,false,false,false,false,false,false,false,false,false,true,true,false,false,false,false,false,true,false,false,false,false,false,false],n:=41,pin:=[0],fail:=[],fz:=[] }
theorem Eg:bP vK Tryz.f34 gH=some p_s_l71Trust:=by kernel_rfl
theorem Eh {W:Wld}{ins outs:List (List D)}(h:pwp (FunOk PP W) p_s_l71Trust (aS outs) (envL ins)):FunOk PP W pP gH ins outs:=aQ (C:=vK) (aP rfl) (bB rfl rfl) mixed Tryz.func34 (by kernel_rfl) (by kernel_rfl) Eg h

def p_s_l71Some:PC:= .seq (.ss [.mv 4 (.c (.sl []))]) (.seq (.ss [.lit 7 0 [.int .i64 0,.int .i64 0,.sl [],.sl []] [],.mv 5 (.t 7)]) (.seq (.seq (.ss [.mv 6 (.c (.int .i64 0))]) (.block 0 (.loop (.seq (.seq (.ss [.mv 8 (.t 6),.mv 9 (.t 1),.len 10 (.t 9),.bin 11 .lss (.t 8) (.t 10)]) (.cond (.t 11) (.skip) (.exit 0))) (.seq (.block 1 (.seq (.ss [.nop,.call 15 aH aF [(.t 0),(.c (.int .i64 3))] [0],.bin 16 .gtr (.t 15) (.c (.int .i64 0))]) (.cond (.t 16) (.ss [.mv 17 (.t 5),.mv 18 (.t 1),.mv 19 (.t 6),.elp 20 (.t 18) (.t 19) 4,.eld 21 20 0 [.int .i64 0,.int .i64 0,.sl [],.sl []],.lit 22 1 [.int .i64 0,.int .i64 0,.sl [],.sl []] [(0,(.t 21))],.app 23 4 false (.t 17) (.t 22),.mv 5 (.t 23)]) (.skip)))) (.ss [.mv 12 (.t 6),.bin 13 .add (.t 12) (.c (.int .i64 1)),.mv 6 (.t 13)])))))) (.seq (.seq (.ss [.nop,.call 25 aH aF [(.t 0),(.c (.int .i64 12))] [0],.bin 26 .eql (.t 25) (.c (.int .i64 0))]) (.cond (.t 26) (.seq (.ss [.nop,.call 28 tT jO [(.t 0)] [0],.mv 4 (.t 28)]) (.ret [4,0])) (.skip))) (.seq (.ss [.mv 29 (.t 5),.mv 4 (.t 29)]) (.ret [4,0])))))
def zC:Cfg:={tt:=tt,sigs:=sigs,mv:=false,bm:=[],eqt:=fE,keep:=[true,true,false,false,true,true,true,false,false,false,false,true,false,false,false,false,true,false,false,false,false,false,false,false,false,false,true,false,false,false],n:=30,pin:=[0],fail:=[],fz:=[] }
theorem GV:bP zC Tryz.f35 iL=some p_s_l71Some:=by kernel_rfl
theorem GW {W:Wld}{ins outs:List (List D)}(h:pwp (FunOk PP W) p_s_l71Some (aS outs) (envL ins)):FunOk PP W rD iL ins outs:=aQ (C:=zC) (aP rfl) (bB rfl rfl) mixed Tryz.func35 (by kernel_rfl) (by kernel_rfl) GV h

def p_s_l6Rd_pick:PC:= .seq (.ss [.mv 4 (.c (.int .i64 0))]) (.seq (.ss [.nop,.nop,.nop,.nop,.sub 11 0 1 1,.bin 12 .add (.t 11) (.c (.int .i64 1)),.nop,.nop,.st 0 1 (.t 12)]) (.seq (.seq (.ss [.mv 15 (.t 1),.bin 16 .lss (.t 15) (.c (.int .i64 1)),.mv 17 (.t 16),.g 17 false 18 (.nop),.g 17 false 19 (.nop),.g 17 false 20 (.nop),.g 17 false 21 (.sub 21 0 0 1),.g 17 false 22 (.len 22 (.t 21)),.g 17 false 23 (.bin 23 .eql (.t 22) (.c (.int .i64 0))),.pick 24 (.t 17) (.c (.bool true)) (.t 23)]) (.cond (.t 24) (.seq (.ss [.mv 4 (.c (.int .i64 0))]) (.ret [4,0])) (.skip))) (.seq (.ss [.nop,.nop,.nop,.sub 28 0 1 1,.bin 29 .sub (.t 28) (.c (.int .i64 1)),.mv 5 (.t 29)]) (.seq (.seq (.ss [.mv 30 (.t 5),.nop,.nop,.nop,.sub 34 0 0 1,.len 35 (.t 34),.bin 36 .lss (.t 30) (.t 35)]) (.cond (.t 36) (.seq (.ss [.nop,.nop,.nop,.sub 40 0 0 1,.mv 41 (.t 5),.elp 42 (.t 40) (.t 41) 1,.eld 43 42 0 [.int .u8 0],.cvt 44 .i64 (.t 43),.mv 45 (.t 1),.bin 46 .rem (.t 44) (.t 45),.mv 4 (.t 46)]) (.ret [4,0])) (.skip))) (.seq (.ss [.nop,.nop,.nop,.sub 50 0 0 1,.mv 51 (.t 5),.nop,.nop,.nop,.sub 55 0 0 1,.len 56 (.t 55),.bin 57 .rem (.t 51) (.t 56),.elp 58 (.t 50) (.t 57) 1,.eld 59 58 0 [.int .u8 0],.cvt 60 .i64 (.t 59),.bin 61 .mul (.t 60) (.c (.int .i64 131)),.nop,.nop,.nop,.sub 65 0 0 1,.mv 66 (.t 5),.bin 67 .mul (.t 66) (.c (.int .i64 7)),.bin 68 .add (.t 67) (.c (.int .i64 3)),.nop,.nop,.nop,.sub 72 0 0 1,.len 73 (.t 72),.bin 74 .rem (.t 68) (.t 73),.elp 75 (.t 65) (.t 74) 1,.eld 76 75 0 [.int .u8 0],.cvt 77 .i64 (.t 76),.bin 78 .mul (.t 77) (.c (.int .i64 1117)),.bin 79 .add (.t 61) (.t 78),.mv 80 (.t 5),.bin 81 .mul (.t 80) (.c (.int .i64 29)),.bin 82 .add (.t 79) (.t 81),.mv 83 (.t 5),.nop,.nop,.nop,.sub 87 0 0 1,.len 88 (.t 87),.bin 89 .quo (.t 83) (.t 88),.bin 90 .mul (.t 89) (.c (.int .i64 53)),.bin 91 .add (.t 82) (.t 90),.mv 6 (.t 91)]) (.seq (.ss [.mv 92 (.t 6),.mv 93 (.t 6),.bin 94 .quo (.t 93) (.c (.int .i64 64)),.bin 95 .xor (.t 92) (.t 94),.mv 6 (.t 95)]) (.seq (.ss [.mv 96 (.t 6),.mv 97 (.t 1),.bin 98 .rem (.t 96) (.t 97),.mv 4 (.t 98)]) (.ret [4,0]))))))))
def tA:Cfg:={tt:=tt,sigs:=sigs,mv:=false,bm:=[],eqt:=fE,keep:=[true,true,false,false,true,true,true,false,false,false,false,false,false,false,false,false,false,false,false,false,false,false,false,false,true,false,false,false,false,false,false,false,false,false,false,false,true,false,false,false,false,false,false,false,false,false,false,false,false,false,false,false,false,false,false,false,false,false,false,false,false,false,false,false,false,false,false,false,false,false,false,false,false,false,false,false,false,false,false,false,false,false,false,false,false,false,false,false,false,false,false,false,false,false,false,false,false,false,false],n:=99,pin:=[0],fail:=[],fz:=[] }
theorem Ca:bP tA Tryz.f36 aF=some p_s_l6Rd_pick:=by kernel_rfl
theorem Cb {W:Wld}{ins outs:List (List D)}(h:pwp (FunOk PP W) p_s_l6Rd_pick (aS outs) (envL ins)):FunOk PP W aH aF ins outs:=aQ (C:=tA) (aP rfl) (bB rfl rfl) mixed Tryz.func36 (by kernel_rfl) (by kernel_rfl) Ca h

end
section

def p_s_l12Find:PC:= .seq (.ss [.mv 6 (.c (.int .i64 0))]) (.seq (.seq (.ss [.mv 7 (.c (.int .i64 0))]) (.block 0 (.loop (.seq (.seq (.ss [.mv 8 (.t 7),.mv 9 (.t 0),.len 10 (.t 9),.bin 11 .lss (.t 8) (.t 10)]) (.cond (.t 11) (.skip) (.exit 0))) (.seq (.block 1 (.seq (.ss [.mv 14 (.t 0),.mv 15 (.t 7),.elp 16 (.t 14) (.t 15) 4,.mv 17 (.t 16),.eld 18 17 0 [.int .i64 0],.mv 19 (.t 1),.bin 20 .eql (.t 18) (.t 19),.mv 21 (.t 20),.g 21 true 22 (.mv 22 (.t 0)),.g 21 true 23 (.mv 23 (.t 7)),.g 21 true 24 (.elp 24 (.t 22) (.t 23) 4),.g 21 true 25 (.mv 25 (.t 24)),.g 21 true 26 (.eld 26 25 1 [.int .i64 0]),.g 21 true 27 (.mv 27 (.t 2)),.g 21 true 28 (.bin 28 .eql (.t 26) (.t 27)),.pick 29 (.t 21) (.t 28) (.c (.bool false))]) (.cond (.t 29) (.seq (.ss [.mv 30 (.t 7),.mv 6 (.t 30)]) (.ret [6])) (.skip)))) (.ss [.mv 12 (.t 7),.bin 13 .add (.t 12) (.c (.int .i64 1)),.mv 7 (.t 13)])))))) (.seq (.ss [.mv 6 (.c (.int .i64 (-1)))]) (.ret [6])))
def zD:Cfg:={tt:=tt,sigs:=sigs,mv:=false,bm:=[],eqt:=fE,keep:=[true,true,true,false,false,false,true,true,false,false,false,true,false,false,false,false,false,false,false,false,false,false,false,false,false,false,false,false,false,true,false],n:=31,pin:=[],fail:=[],fz:=[] }
theorem GX:bP zD Tryz.f38 eE=some p_s_l12Find:=by kernel_rfl
theorem zE {W:Wld}{ins outs:List (List D)}(h:pwp (FunOk PP W) p_s_l12Find (aS outs) (envL ins)):FunOk PP W kP eE ins outs:=aQ (C:=zD) (aP rfl) (bB rfl rfl) mixed Tryz.func38 (by kernel_rfl) (by kernel_rfl) GX h

def p_s_l3Pkgs:PC:= .seq (.ss [.mv 2 (.c (.bool false))]) (.seq (.seq (.ss [.mv 3 (.c (.int .i64 0))]) (.block 0 (.loop (.seq (.seq (.ss [.mv 4 (.t 3),.mv 5 (.t 0),.len 6 (.t 5),.bin 7 .lss (.t 4) (.t 6)]) (.cond (.t 7) (.skip) (.exit 0))) (.seq (.block 1 (.seq (.ss [.mv 10 (.t 0),.mv 11 (.t 3),.elp 12 (.t 10) (.t 11) 4,.eld 13 12 0 [.int .i64 0,.int .i64 0,.sl [],.sl []],.call 14 sF jU [(.t 13)] [],.un 15 .not (.t 14),.mv 16 (.t 15),.g 16 false 17 (.mv 17 (.t 3)),.g 16 false 18 (.bin 18 .gtr (.t 17) (.c (.int .i64 0))),.g 16 false 19 (.mv 19 (.t 18)),.g 19 true 20 (.mv 20 (.t 0)),.g 19 true 21 (.mv 21 (.t 3)),.g 19 true 22 (.bin 22 .sub (.t 21) (.c (.int .i64 1))),.g 19 true 23 (.elp 23 (.t 20) (.t 22) 4),.g 19 true 24 (.mv 24 (.t 23)),.g 19 true 25 (.eld 25 24 0 [.int .i64 0]),.g 19 true 26 (.mv 26 (.t 0)),.g 19 true 27 (.mv 27 (.t 3)),.g 19 true 28 (.bin 28 .sub (.t 27) (.c (.int .i64 1))),.g 19 true 29 (.elp 29 (.t 26) (.t 28) 4),.g 19 true 30 (.mv 30 (.t 29)),.g 19 true 31 (.eld 31 30 1 [.int .i64 0]),.g 19 true 32 (.mv 32 (.t 0)),.g 19 true 33 (.mv 33 (.t 3)),.g 19 true 34 (.elp 34 (.t 32) (.t 33) 4),.g 19 true 35 (.mv 35 (.t 34)),.g 19 true 36 (.eld 36 35 0 [.int .i64 0]),.g 19 true 37 (.mv 37 (.t 0)),.g 19 true 38 (.mv 38 (.t 3)),.g 19 true 39 (.elp 39 (.t 37) (.t 38) 4),.g 19 true 40 (.mv 40 (.t 39)),.g 19 true 41 (.eld 41 40 1 [.int .i64 0]),.g 19 true 42 (.call 42 jK eL [(.t 25),(.t 31),(.t 36),(.t 41)] []),.g 19 true 43 (.un 43 .not (.t 42)),.g 16 false 44 (.pick 44 (.t 19) (.t 43) (.c (.bool false))),.pick 45 (.t 16) (.c (.bool true)) (.t 44)]) (.cond (.t 45) (.seq (.ss [.mv 2 (.c (.bool false))]) (.ret [2])) (.skip)))) (.ss [.mv 8 (.t 3),.bin 9 .add (.t 8) (.c (.int .i64 1)),.mv 3 (.t 9)])))))) (.seq (.ss [.mv 2 (.c (.bool true))]) (.ret [2])))
def Bp:Cfg:={tt:=tt,sigs:=sigs,mv:=false,bm:=[],eqt:=fE,keep:=[true,false,true,true,false,false,false,true,false,false,false,false,false,false,false,false,false,false,false,false,false,false,false,false,false,false,false,false,false,false,false,false,false,false,false,false,false,false,false,false,false,false,false,false,false,true],n:=46,pin:=[],fail:=[],fz:=[] }
theorem IB:bP Bp Tryz.f39 hO=some p_s_l3Pkgs:=by kernel_rfl
theorem IC {W:Wld}{ins outs:List (List D)}(h:pwp (FunOk PP W) p_s_l3Pkgs (aS outs) (envL ins)):FunOk PP W pR hO ins outs:=aQ (C:=Bp) (aP rfl) (bB rfl rfl) mixed Tryz.func39 (by kernel_rfl) (by kernel_rfl) IB h

def p_i_TrustOk:PC:= .seq (.ss [.mv 1 (.t 0),.mv 2 (.c (.bool false))]) (.seq (.seq (.ss [.nop,.sub 4 1 0 3,.call 5 tS jT [(.t 4)] [],.un 6 .not (.t 5)]) (.cond (.t 6) (.seq (.ss [.mv 2 (.c (.bool false))]) (.ret [2])) (.skip))) (.seq (.seq (.ss [.nop,.sub 8 1 3 1]) (.cond (.t 8) (.seq (.ss [.nop,.sub 10 1 4 3,.call 11 nI fR [(.t 10)] [],.mv 2 (.t 11)]) (.ret [2])) (.skip))) (.seq (.ss [.nop,.sub 13 1 4 3,.bld 14 [.int .i64 0,.int .i64 0,.sl []] [],.call 15 mJ eA [(.t 13),(.t 14)] [],.mv 2 (.t 15)]) (.ret [2]))))
def zF:Cfg:={tt:=tt,sigs:=sigs,mv:=false,bm:=[],eqt:=fE,keep:=[true,true,true,false,false,false,true,false,true,false,false,false,false,false,false,false],n:=16,pin:=[],fail:=[],fz:=[] }
theorem GY:bP zF Tryz.f41 iM=some p_i_TrustOk:=by kernel_rfl
theorem GZ {W:Wld}{ins outs:List (List D)}(h:pwp (FunOk PP W) p_i_TrustOk (aS outs) (envL ins)):FunOk PP W rE iM ins outs:=aQ (C:=zF) (aP rfl) (bB rfl rfl) mixed Tryz.func41 (by kernel_rfl) (by kernel_rfl) GY h

def p_sl_Contains_Meta:PC:= .seq (.ss [.mv 3 (.t 1),.mv 4 (.c (.bool false))]) (.seq (.ss [.mv 5 (.t 0),.sub 6 3 0 3,.call 7 lA dN [(.t 5),(.t 6)] [],.bin 8 .geq (.t 7) (.c (.int .i64 0)),.mv 4 (.t 8)]) (.ret [4]))
def mN:Cfg:={tt:=tt,sigs:=sigs,mv:=false,bm:=[],eqt:=fE,keep:=[true,true,false,true,true,false,false,false,false],n:=9,pin:=[],fail:=[],fz:=[] }
theorem tX:bP mN Tryz.f42 cM=some p_sl_Contains_Meta:=by kernel_rfl
theorem tY {W:Wld}{ins outs:List (List D)}(h:pwp (FunOk PP W) p_sl_Contains_Meta (aS outs) (envL ins)):FunOk PP W hH cM ins outs:=aQ (C:=mN) (aP rfl) (bB rfl rfl) mixed Tryz.func42 (by kernel_rfl) (by kernel_rfl) tX h

def p_i_metaOf:PC:= .seq (.ss [.mv 1 (.t 0),.bld 2 [.int .i64 0,.int .i64 0,.int .i64 0] []]) (.seq (.ss [.nop,.sub 4 1 0 1,.nop,.sub 6 1 1 1,.sub 7 1 0 4,.call 8 rB kT [(.t 7)] [],.call 9 xF lW [(.t 8)] [],.bld 10 [.int .i64 0,.int .i64 0,.int .i64 0] [(0,(.t 4)),(1,(.t 6)),(2,(.t 9))],.st 2 0 (.t 10)]) (.ret [2]))
def Bq:Cfg:={tt:=tt,sigs:=sigs,mv:=false,bm:=[],eqt:=fE,keep:=[true,true,true,false,false,false,false,false,false,false,false],n:=11,pin:=[],fail:=[],fz:=[] }
theorem ID:bP Bq Tryz.f43 jQ=some p_i_metaOf:=by kernel_rfl
theorem IE {W:Wld}{ins outs:List (List D)}(h:pwp (FunOk PP W) p_i_metaOf (aS outs) (envL ins)):FunOk PP W tO jQ ins outs:=aQ (C:=Bq) (aP rfl) (bB rfl rfl) mixed Tryz.func43 (by kernel_rfl) (by kernel_rfl) ID h

def p_s_RootOk:PC:= .seq (.ss [.mv 1 (.t 0),.mv 2 (.c (.bool false))]) (.seq (.ss [.nop,.sub 4 1 0 1,.call 5 cX cA [(.t 4),(.c (.int .i64 1)),(.c (.int .i64 9))] [],.mv 6 (.t 5),.g 6 true 7 (.nop),.g 6 true 8 (.sub 8 1 1 1),.g 6 true 9 (.call 9 tU jV [(.t 8)] []),.pick 10 (.t 6) (.t 9) (.c (.bool false)),.mv 11 (.t 10),.g 11 true 12 (.nop),.g 11 true 13 (.sub 13 1 2 1),.g 11 true 14 (.nop),.g 11 true 15 (.sub 15 1 1 1),.g 11 true 16 (.len 16 (.t 15)),.g 11 true 17 (.call 17 cX cA [(.t 13),(.c (.int .i64 1)),(.t 16)] []),.pick 18 (.t 11) (.t 17) (.c (.bool false)),.mv 2 (.t 18)]) (.ret [2]))
def Br:Cfg:={tt:=tt,sigs:=sigs,mv:=false,bm:=[],eqt:=fE,keep:=[true,true,true,false,false,false,false,false,false,false,false,false,false,false,false,false,false,false,false],n:=19,pin:=[],fail:=[],fz:=[] }
theorem IF:bP Br Tryz.f47 jR=some p_s_RootOk:=by kernel_rfl
theorem IG {W:Wld}{ins outs:List (List D)}(h:pwp (FunOk PP W) p_s_RootOk (aS outs) (envL ins)):FunOk PP W tP jR ins outs:=aQ (C:=Br) (aP rfl) (bB rfl rfl) mixed Tryz.func47 (by kernel_rfl) (by kernel_rfl) IF h

def p_s_IndexOk:PC:= .seq (.ss [.mv 1 (.t 0),.mv 2 (.c (.bool false))]) (.seq (.seq (.ss [.nop,.sub 6 1 0 1,.call 7 cX cA [(.t 6),(.c (.int .i64 1)),(.c (.int .i64 30))] [],.un 8 .not (.t 7),.mv 9 (.t 8),.g 9 false 10 (.nop),.g 9 false 11 (.sub 11 1 1 1),.g 9 false 12 (.call 12 cX cA [(.t 11),(.c (.int .i64 0)),(.c (.int .i64 60))] []),.g 9 false 13 (.un 13 .not (.t 12)),.pick 14 (.t 9) (.c (.bool true)) (.t 13),.mv 15 (.t 14),.g 15 false 16 (.nop),.g 15 false 17 (.sub 17 1 2 1),.g 15 false 18 (.len 18 (.t 17)),.g 15 false 19 (.bin 19 .gtr (.t 18) (.c (.int .i64 8))),.pick 20 (.t 15) (.c (.bool true)) (.t 19)]) (.cond (.t 20) (.seq (.ss [.mv 2 (.c (.bool false))]) (.ret [2])) (.skip))) (.seq (.seq (.ss [.mv 3 (.c (.int .i64 0))]) (.block 0 (.loop (.seq (.seq (.ss [.mv 21 (.t 3),.nop,.sub 23 1 2 1,.len 24 (.t 23),.bin 25 .lss (.t 21) (.t 24)]) (.cond (.t 25) (.skip) (.exit 0))) (.seq (.block 1 (.seq (.ss [.nop,.sub 29 1 2 1,.mv 30 (.t 3),.elp 31 (.t 29) (.t 30) 3,.eld 32 31 0 [.int .i64 0,.int .i64 0,.int .i64 0],.bld 4 [.int .i64 0,.int .i64 0,.int .i64 0] [],.st 4 0 (.t 32)]) (.seq (.seq (.ss [.nop,.sub 34 4 0 1,.call 35 cX cA [(.t 34),(.c (.int .i64 1)),(.c (.int .i64 4))] [],.un 36 .not (.t 35),.mv 37 (.t 36),.g 37 false 38 (.nop),.g 37 false 39 (.sub 39 4 1 1),.g 37 false 40 (.call 40 cX cA [(.t 39),(.c (.int .i64 1)),(.c (.int .i64 5))] []),.g 37 false 41 (.un 41 .not (.t 40)),.pick 42 (.t 37) (.c (.bool true)) (.t 41),.mv 43 (.t 42),.g 43 false 44 (.nop),.g 43 false 45 (.sub 45 4 2 1),.g 43 false 46 (.call 46 cX cA [(.t 45),(.c (.int .i64 0)),(.c (.int .i64 9972))] []),.g 43 false 47 (.un 47 .not (.t 46)),.pick 48 (.t 43) (.c (.bool true)) (.t 47)]) (.cond (.t 48) (.seq (.ss [.mv 2 (.c (.bool false))]) (.ret [2])) (.skip))) (.seq (.ss [.mv 49 (.t 3),.bin 50 .gtr (.t 49) (.c (.int .i64 0)),.mv 51 (.t 50),.g 51 true 52 (.nop),.g 51 true 53 (.sub 53 1 2 1),.g 51 true 54 (.mv 54 (.t 3)),.g 51 true 55 (.bin 55 .sub (.t 54) (.c (.int .i64 1))),.g 51 true 56 (.elp 56 (.t 53) (.t 55) 3),.g 51 true 57 (.mv 57 (.t 56)),.g 51 true 58 (.eld 58 57 0 [.int .i64 0]),.g 51 true 59 (.nop),.g 51 true 60 (.sub 60 1 2 1),.g 51 true 61 (.mv 61 (.t 3)),.g 51 true 62 (.bin 62 .sub (.t 61) (.c (.int .i64 1))),.g 51 true 63 (.elp 63 (.t 60) (.t 62) 3),.g 51 true 64 (.mv 64 (.t 63)),.g 51 true 65 (.eld 65 64 1 [.int .i64 0]),.g 51 true 66 (.nop),.g 51 true 67 (.sub 67 4 0 1),.g 51 true 68 (.nop),.g 51 true 69 (.sub 69 4 1 1),.g 51 true 70 (.call 70 jK eL [(.t 58),(.t 65),(.t 67),(.t 69)] []),.g 51 true 71 (.un 71 .not (.t 70)),.pick 72 (.t 51) (.t 71) (.c (.bool false))]) (.cond (.t 72) (.seq (.ss [.mv 2 (.c (.bool false))]) (.ret [2])) (.skip)))))) (.ss [.mv 26 (.t 3),.bin 27 .add (.t 26) (.c (.int .i64 1)),.mv 3 (.t 27)])))))) (.seq (.ss [.mv 2 (.c (.bool true))]) (.ret [2]))))
def zG:Cfg:={tt:=tt,sigs:=sigs,mv:=false,bm:=[],eqt:=fE,keep:=[true,true,true,true,true,false,false,false,false,false,false,false,false,false,false,false,false,false,false,false,true,false,false,false,false,true,false,false,false,false,false,false,false,false,false,false,false,false,false,false,false,false,false,false,false,false,false,false,true,false,false,false,false,false,false,false,false,false,false,false,false,false,false,false,false,false,false,false,false,false,false,false,true],n:=73,pin:=[],fail:=[],fz:=[] }
theorem Ga:bP zG Tryz.f48 fQ=some p_s_IndexOk:=by kernel_rfl
theorem Gb {W:Wld}{ins outs:List (List D)}(h:pwp (FunOk PP W) p_s_IndexOk (aS outs) (envL ins)):FunOk PP W nH fQ ins outs:=aQ (C:=zG) (aP rfl) (bB rfl rfl) mixed Tryz.func48 (by kernel_rfl) (by kernel_rfl) Ga h

def p_i_PkgRead:PC:= .seq (.ss [.bld 2 [.int .i64 0,.int .i64 0,.sl [],.sl []] [],.mv 3 (.c (.bool false))]) (.seq (.seq (.ss [.mv 17 (.t 0),.slen 18 (.t 17),.bin 19 .gtr (.t 18) (.c (.int .i64 30))]) (.cond (.t 19) (.seq (.ss [.bld 20 [.int .i64 0,.int .i64 0,.sl [],.sl []] [],.st 2 0 (.t 20),.mv 3 (.c (.bool false))]) (.ret [2,3])) (.skip))) (.seq (.ss [.mv 21 (.t 0),.call 22 pX gX [(.t 21),(.c (.str ⟨#[32]⟩))] [],.mv 4 (.t 22)]) (.seq (.ss [.bld 5 [.int .i64 0,.int .i64 0,.sl [],.sl []] []]) (.seq (.ss [.mv 24 (.t 4),.elp 25 (.t 24) (.c (.int .i64 0)) 1,.eld 26 25 0 [.str ⟨#[]⟩],.call 27 lM eM [(.t 26)] [],.mv 23 (.t 27),.ext 28 23 0 1,.ext 29 23 1 1,.nop,.st 5 0 (.t 28),.nop,.st 5 1 (.t 29)]) (.seq (.seq (.ss [.mv 32 (.t 4),.lsl 33 1 (.t 32) (some (.c (.int .i64 1))) none none,.len 34 (.t 33),.mv 35 (.c (.int .i64 0))]) (.block 0 (.loop (.seq (.ss [.bin 36 .lss (.t 35) (.t 34)]) (.seq (.cond (.t 36) (.skip) (.exit 0)) (.seq (.block 1 (.seq (.ss [.elp 37 (.t 33) (.t 35) 1,.eld 38 37 0 [.str ⟨#[]⟩],.mv 7 (.t 38)]) (.seq (.ss [.mv 40 (.t 7),.call 41 sZ kD [(.t 40),(.c (.str ⟨#[58]⟩))] [],.mv 39 (.t 41),.ext 42 39 0 1,.ext 43 39 1 1,.ext 44 39 2 1,.mv 8 (.t 42),.mv 9 (.t 43),.mv 10 (.t 44)]) (.seq (.seq (.ss [.mv 45 (.t 10)]) (.cond (.t 45) (.seq (.ss [.mv 47 (.t 8),.call 48 jA dG [(.t 47)] [],.mv 46 (.t 48),.ext 49 46 0 1,.ext 50 46 1 1,.mv 11 (.t 49),.mv 12 (.t 50)]) (.seq (.ss [.mv 52 (.t 9),.call 53 jA dG [(.t 52)] [],.mv 51 (.t 53),.ext 54 51 0 1,.ext 55 51 1 1,.mv 13 (.t 54),.mv 14 (.t 55)]) (.seq (.ss [.nop,.sub 57 5 2 1,.mv 58 (.t 11),.mv 59 (.t 13),.bld 60 [.int .i64 0,.int .i64 0] [(0,(.t 58)),(1,(.t 59))],.lit 61 1 [.int .i64 0,.int .i64 0] [(0,(.t 60))],.app 62 2 true (.t 57) (.t 61),.nop,.st 5 2 (.t 62)]) (.exit 1)))) (.skip))) (.seq (.ss [.mv 65 (.t 7),.call 66 lM eM [(.t 65)] [],.mv 64 (.t 66),.ext 67 64 0 1,.ext 68 64 1 1,.mv 15 (.t 67),.mv 16 (.t 68)]) (.ss [.nop,.sub 70 5 3 1,.mv 71 (.t 15),.mv 72 (.t 16),.bld 73 [.int .i64 0,.int .i64 0] [(0,(.t 71)),(1,(.t 72))],.lit 74 1 [.int .i64 0,.int .i64 0] [(0,(.t 73))],.app 75 2 true (.t 70) (.t 74),.nop,.st 5 3 (.t 75)])))))) (.ss [.bin 77 .add (.t 35) (.c (.int .i64 1)),.mv 35 (.t 77)]))))))) (.seq (.seq (.ss [.sub 78 5 0 4,.call 79 sE jS [(.t 78)] [],.un 80 .not (.t 79),.mv 81 (.t 80),.g 81 false 82 (.sub 82 5 0 4),.g 81 false 83 (.call 83 rB kT [(.t 82)] []),.g 81 false 84 (.mv 84 (.t 0)),.g 81 false 85 (.bin 85 .neq (.t 83) (.t 84)),.pick 86 (.t 81) (.c (.bool true)) (.t 85)]) (.cond (.t 86) (.seq (.ss [.bld 87 [.int .i64 0,.int .i64 0,.sl [],.sl []] [],.st 2 0 (.t 87),.mv 3 (.c (.bool false))]) (.ret [2,3])) (.skip))) (.seq (.ss [.sub 88 5 0 4,.st 2 0 (.t 88),.mv 3 (.c (.bool true))]) (.ret [2,3]))))))))
def zH:Cfg:={tt:=tt,sigs:=sigs,mv:=false,bm:=[],eqt:=fE,keep:=[true,false,true,true,true,true,false,true,true,true,true,true,false,true,false,true,true,false,false,true,false,false,false,false,false,false,false,false,false,false,false,false,false,true,true,true,true,false,false,false,false,false,false,false,false,true,false,false,false,false,false,false,false,false,false,false,false,false,false,false,false,false,false,false,false,false,false,false,false,false,false,false,false,false,false,false,false,false,false,false,false,false,false,false,false,false,true,false,false],n:=89,pin:=[],fail:=[],fz:=[] }
theorem Gc:bP zH Tryz.f49 eF=some p_i_PkgRead:=by kernel_rfl
theorem Ge {W:Wld}{ins outs:List (List D)}(h:pwp (FunOk PP W) p_i_PkgRead (aS outs) (envL ins)):FunOk PP W kQ eF ins outs:=aQ (C:=zH) (aP rfl) (bB rfl rfl) mixed Tryz.func49 (by kernel_rfl) (by kernel_rfl) Gc h

def p_i_IndexOk:PC:= .seq (.ss [.mv 1 (.t 0),.mv 2 (.c (.bool false))]) (.seq (.seq (.ss [.nop,.sub 6 1 2 1,.len 7 (.t 6),.mv 8 (.c (.int .i64 0))]) (.block 0 (.loop (.seq (.ss [.bin 9 .lss (.t 8) (.t 7)]) (.seq (.cond (.t 9) (.skip) (.exit 0)) (.seq (.block 1 (.seq (.ss [.mv 10 (.t 8),.elp 11 (.t 6) (.t 8) 3,.eld 12 11 0 [.int .i64 0,.int .i64 0,.int .i64 0],.bld 4 [.int .i64 0,.int .i64 0,.int .i64 0] [],.mv 3 (.t 10),.st 4 0 (.t 12)]) (.seq (.seq (.ss [.nop,.sub 14 4 0 1,.call 15 mL fS [(.t 14)] [],.un 16 .not (.t 15),.mv 17 (.t 16),.g 17 false 18 (.nop),.g 17 false 19 (.sub 19 4 1 1),.g 17 false 20 (.call 20 oO iN [(.t 19)] []),.g 17 false 21 (.un 21 .not (.t 20)),.pick 22 (.t 17) (.c (.bool true)) (.t 21),.mv 23 (.t 22),.g 23 false 24 (.nop),.g 23 false 25 (.sub 25 4 2 1),.g 23 false 26 (.call 26 lB hU [(.t 25),(.c (.int .i64 0)),(.c (.int .i64 9972))] []),.g 23 false 27 (.un 27 .not (.t 26)),.pick 28 (.t 23) (.c (.bool true)) (.t 27)]) (.cond (.t 28) (.seq (.ss [.mv 2 (.c (.bool false))]) (.ret [2])) (.skip))) (.seq (.ss [.mv 29 (.t 3),.bin 30 .gtr (.t 29) (.c (.int .i64 0)),.mv 31 (.t 30),.g 31 true 32 (.nop),.g 31 true 33 (.sub 33 4 0 1),.g 31 true 34 (.nop),.g 31 true 35 (.sub 35 1 2 1),.g 31 true 36 (.mv 36 (.t 3)),.g 31 true 37 (.bin 37 .sub (.t 36) (.c (.int .i64 1))),.g 31 true 38 (.elp 38 (.t 35) (.t 37) 3),.g 31 true 39 (.mv 39 (.t 38)),.g 31 true 40 (.eld 40 39 0 [.int .i64 0]),.g 31 true 41 (.bin 41 .lss (.t 33) (.t 40)),.g 31 true 42 (.mv 42 (.t 41)),.g 42 false 43 (.nop),.g 42 false 44 (.sub 44 4 0 1),.g 42 false 45 (.nop),.g 42 false 46 (.sub 46 1 2 1),.g 42 false 47 (.mv 47 (.t 3)),.g 42 false 48 (.bin 48 .sub (.t 47) (.c (.int .i64 1))),.g 42 false 49 (.elp 49 (.t 46) (.t 48) 3),.g 42 false 50 (.mv 50 (.t 49)),.g 42 false 51 (.eld 51 50 0 [.int .i64 0]),.g 42 false 52 (.bin 52 .eql (.t 44) (.t 51)),.g 42 false 53 (.mv 53 (.t 52)),.g 53 true 54 (.nop),.g 53 true 55 (.sub 55 4 1 1),.g 53 true 56 (.nop),.g 53 true 57 (.sub 57 1 2 1),.g 53 true 58 (.mv 58 (.t 3)),.g 53 true 59 (.bin 59 .sub (.t 58) (.c (.int .i64 1))),.g 53 true 60 (.elp 60 (.t 57) (.t 59) 3),.g 53 true 61 (.mv 61 (.t 60)),.g 53 true 62 (.eld 62 61 1 [.int .i64 0]),.g 53 true 63 (.bin 63 .leq (.t 55) (.t 62)),.g 42 false 64 (.pick 64 (.t 53) (.t 63) (.c (.bool false))),.g 31 true 65 (.pick 65 (.t 42) (.c (.bool true)) (.t 64)),.pick 66 (.t 31) (.t 65) (.c (.bool false))]) (.cond (.t 66) (.seq (.ss [.mv 2 (.c (.bool false))]) (.ret [2])) (.skip)))))) (.ss [.bin 67 .add (.t 8) (.c (.int .i64 1)),.mv 8 (.t 67)]))))))) (.seq (.ss [.nop,.sub 69 1 0 1,.call 70 lB hU [(.t 69),(.c (.int .i64 1)),(.c (.int .i64 30))] [],.mv 71 (.t 70),.g 71 true 72 (.nop),.g 71 true 73 (.sub 73 1 1 1),.g 71 true 74 (.call 74 lB hU [(.t 73),(.c (.int .i64 0)),(.c (.int .i64 60))] []),.pick 75 (.t 71) (.t 74) (.c (.bool false)),.mv 76 (.t 75),.g 76 true 77 (.nop),.g 76 true 78 (.sub 78 1 2 1),.g 76 true 79 (.len 79 (.t 78)),.g 76 true 80 (.bin 80 .leq (.t 79) (.c (.int .i64 8))),.pick 81 (.t 76) (.t 80) (.c (.bool false)),.mv 2 (.t 81)]) (.ret [2])))
def zI:Cfg:={tt:=tt,sigs:=sigs,mv:=false,bm:=[],eqt:=fE,keep:=[true,true,true,true,true,false,true,true,true,true,false,false,false,false,false,false,false,false,false,false,false,false,false,false,false,false,false,false,true,false,false,false,false,false,false,false,false,false,false,false,false,false,false,false,false,false,false,false,false,false,false,false,false,false,false,false,false,false,false,false,false,false,false,false,false,false,true,false,false,false,false,false,false,false,false,false,false,false,false,false,false,false],n:=82,pin:=[],fail:=[],fz:=[] }
theorem Gf:bP zI Tryz.f50 fR=some p_i_IndexOk:=by kernel_rfl
theorem Gg {W:Wld}{ins outs:List (List D)}(h:pwp (FunOk PP W) p_i_IndexOk (aS outs) (envL ins)):FunOk PP W nI fR ins outs:=aQ (C:=zI) (aP rfl) (bB rfl rfl) mixed Tryz.func50 (by kernel_rfl) (by kernel_rfl) Gf h

def p_i_PkgOk:PC:= .seq (.ss [.mv 1 (.t 0),.mv 2 (.c (.bool false))]) (.seq (.seq (.ss [.nop,.sub 8 1 0 1,.call 9 mL fS [(.t 8)] [],.un 10 .not (.t 9),.mv 11 (.t 10),.g 11 false 12 (.nop),.g 11 false 13 (.sub 13 1 1 1),.g 11 false 14 (.call 14 oO iN [(.t 13)] []),.g 11 false 15 (.un 15 .not (.t 14)),.pick 16 (.t 11) (.c (.bool true)) (.t 15),.mv 17 (.t 16),.g 17 false 18 (.nop),.g 17 false 19 (.sub 19 1 2 1),.g 17 false 20 (.len 20 (.t 19)),.g 17 false 21 (.bin 21 .gtr (.t 20) (.c (.int .i64 2))),.pick 22 (.t 17) (.c (.bool true)) (.t 21),.mv 23 (.t 22),.g 23 false 24 (.nop),.g 23 false 25 (.sub 25 1 3 1),.g 23 false 26 (.len 26 (.t 25)),.g 23 false 27 (.bin 27 .gtr (.t 26) (.c (.int .i64 2))),.pick 28 (.t 23) (.c (.bool true)) (.t 27)]) (.cond (.t 28) (.seq (.ss [.mv 2 (.c (.bool false))]) (.ret [2])) (.skip))) (.seq (.seq (.ss [.nop,.sub 30 1 2 1,.len 31 (.t 30),.mv 32 (.c (.int .i64 0))]) (.block 0 (.loop (.seq (.ss [.bin 33 .lss (.t 32) (.t 31)]) (.seq (.cond (.t 33) (.skip) (.exit 0)) (.seq (.block 1 (.seq (.ss [.mv 34 (.t 32),.elp 35 (.t 30) (.t 32) 2,.eld 36 35 0 [.int .i64 0,.int .i64 0],.bld 4 [.int .i64 0,.int .i64 0] [],.mv 3 (.t 34),.st 4 0 (.t 36)]) (.seq (.ss [.nop,.sub 38 4 0 1,.call 39 lB hU [(.t 38),(.c (.int .i64 0)),(.c (.int .i64 5))] [],.un 40 .not (.t 39),.mv 41 (.t 40),.g 41 false 42 (.nop),.g 41 false 43 (.sub 43 4 1 1),.g 41 false 44 (.call 44 lB hU [(.t 43),(.c (.int .i64 0)),(.c (.int .i64 9))] []),.g 41 false 45 (.un 45 .not (.t 44)),.pick 46 (.t 41) (.c (.bool true)) (.t 45),.mv 47 (.t 46),.g 47 false 48 (.mv 48 (.t 3)),.g 47 false 49 (.bin 49 .gtr (.t 48) (.c (.int .i64 0))),.g 47 false 50 (.mv 50 (.t 49)),.g 50 true 51 (.nop),.g 50 true 52 (.sub 52 4 0 1),.g 50 true 53 (.nop),.g 50 true 54 (.sub 54 1 2 1),.g 50 true 55 (.mv 55 (.t 3)),.g 50 true 56 (.bin 56 .sub (.t 55) (.c (.int .i64 1))),.g 50 true 57 (.elp 57 (.t 54) (.t 56) 2),.g 50 true 58 (.mv 58 (.t 57)),.g 50 true 59 (.eld 59 58 0 [.int .i64 0]),.g 50 true 60 (.bin 60 .leq (.t 52) (.t 59)),.g 47 false 61 (.pick 61 (.t 50) (.t 60) (.c (.bool false))),.pick 62 (.t 47) (.c (.bool true)) (.t 61)]) (.cond (.t 62) (.seq (.ss [.mv 2 (.c (.bool false))]) (.ret [2])) (.skip))))) (.ss [.bin 63 .add (.t 32) (.c (.int .i64 1)),.mv 32 (.t 63)]))))))) (.seq (.seq (.ss [.nop,.sub 65 1 3 1,.len 66 (.t 65),.mv 67 (.c (.int .i64 0))]) (.block 2 (.loop (.seq (.ss [.bin 68 .lss (.t 67) (.t 66)]) (.seq (.cond (.t 68) (.skip) (.exit 2)) (.seq (.block 3 (.seq (.ss [.mv 69 (.t 67),.elp 70 (.t 65) (.t 67) 2,.eld 71 70 0 [.int .i64 0,.int .i64 0],.bld 6 [.int .i64 0,.int .i64 0] [],.mv 5 (.t 69),.st 6 0 (.t 71)]) (.seq (.ss [.nop,.sub 73 6 0 1,.call 74 mL fS [(.t 73)] [],.un 75 .not (.t 74),.mv 76 (.t 75),.g 76 false 77 (.nop),.g 76 false 78 (.sub 78 6 0 1),.g 76 false 79 (.nop),.g 76 false 80 (.sub 80 1 0 1),.g 76 false 81 (.bin 81 .eql (.t 78) (.t 80)),.pick 82 (.t 76) (.c (.bool true)) (.t 81),.mv 83 (.t 82),.g 83 false 84 (.nop),.g 83 false 85 (.sub 85 6 1 1),.g 83 false 86 (.call 86 oO iN [(.t 85)] []),.g 83 false 87 (.un 87 .not (.t 86)),.pick 88 (.t 83) (.c (.bool true)) (.t 87),.mv 89 (.t 88),.g 89 false 90 (.mv 90 (.t 5)),.g 89 false 91 (.bin 91 .gtr (.t 90) (.c (.int .i64 0))),.g 89 false 92 (.mv 92 (.t 91)),.g 92 true 93 (.nop),.g 92 true 94 (.sub 94 6 0 1),.g 92 true 95 (.nop),.g 92 true 96 (.sub 96 1 3 1),.g 92 true 97 (.mv 97 (.t 5)),.g 92 true 98 (.bin 98 .sub (.t 97) (.c (.int .i64 1))),.g 92 true 99 (.elp 99 (.t 96) (.t 98) 2),.g 92 true 100 (.mv 100 (.t 99)),.g 92 true 101 (.eld 101 100 0 [.int .i64 0]),.g 92 true 102 (.bin 102 .leq (.t 94) (.t 101)),.g 89 false 103 (.pick 103 (.t 92) (.t 102) (.c (.bool false))),.pick 104 (.t 89) (.c (.bool true)) (.t 103)]) (.cond (.t 104) (.seq (.ss [.mv 2 (.c (.bool false))]) (.ret [2])) (.skip))))) (.ss [.bin 105 .add (.t 67) (.c (.int .i64 1)),.mv 67 (.t 105)]))))))) (.seq (.ss [.mv 2 (.c (.bool true))]) (.ret [2])))))
def DU:Cfg:={tt:=tt,sigs:=sigs,mv:=false,bm:=[],eqt:=fE,keep:=[true,true,true,true,true,true,true,false,false,false,false,false,false,false,false,false,false,false,false,false,false,false,false,false,false,false,false,false,true,false,true,true,true,true,false,false,false,false,false,false,false,false,false,false,false,false,false,false,false,false,false,false,false,false,false,false,false,false,false,false,false,false,true,false,false,true,true,true,true,false,false,false,false,false,false,false,false,false,false,false,false,false,false,false,false,false,false,false,false,false,false,false,false,false,false,false,false,false,false,false,false,false,false,false,true,false],n:=106,pin:=[],fail:=[],fz:=[] }
theorem Ka:bP DU Tryz.f51 jS=some p_i_PkgOk:=by kernel_rfl
theorem Kb {W:Wld}{ins outs:List (List D)}(h:pwp (FunOk PP W) p_i_PkgOk (aS outs) (envL ins)):FunOk PP W sE jS ins outs:=aQ (C:=DU) (aP rfl) (bB rfl rfl) mixed Tryz.func51 (by kernel_rfl) (by kernel_rfl) Ka h

def p_s_PkgText:PC:= .seq (.ss [.mv 1 (.t 0),.mv 2 (.c (.str ⟨#[]⟩))]) (.seq (.seq (.ss [.sub 6 1 0 4,.call 7 sF jU [(.t 6)] [],.un 8 .not (.t 7)]) (.cond (.t 8) (.seq (.ss [.mv 2 (.c (.str ⟨#[]⟩))]) (.ret [2])) (.skip))) (.seq (.ss [.nop,.sub 10 1 0 1,.nop,.sub 12 1 1 1,.call 13 pT hY [(.t 10),(.t 12)] [],.mv 3 (.t 13)]) (.seq (.seq (.ss [.mv 4 (.c (.int .i64 0))]) (.block 0 (.loop (.seq (.seq (.ss [.mv 14 (.t 4),.nop,.sub 16 1 2 1,.len 17 (.t 16),.bin 18 .lss (.t 14) (.t 17)]) (.cond (.t 18) (.skip) (.exit 0))) (.seq (.block 1 (.ss [.mv 21 (.t 3),.bin 22 .add (.t 21) (.c (.str ⟨#[32]⟩)),.nop,.sub 24 1 2 1,.mv 25 (.t 4),.elp 26 (.t 24) (.t 25) 2,.mv 27 (.t 26),.eld 28 27 0 [.int .i64 0],.call 29 jL eR [(.t 28)] [],.bin 30 .add (.t 22) (.t 29),.bin 31 .add (.t 30) (.c (.str ⟨#[58]⟩)),.nop,.sub 33 1 2 1,.mv 34 (.t 4),.elp 35 (.t 33) (.t 34) 2,.mv 36 (.t 35),.eld 37 36 1 [.int .i64 0],.call 38 jL eR [(.t 37)] [],.bin 39 .add (.t 31) (.t 38),.mv 3 (.t 39)])) (.ss [.mv 19 (.t 4),.bin 20 .add (.t 19) (.c (.int .i64 1)),.mv 4 (.t 20)])))))) (.seq (.seq (.ss [.mv 5 (.c (.int .i64 0))]) (.block 2 (.loop (.seq (.seq (.ss [.mv 40 (.t 5),.nop,.sub 42 1 3 1,.len 43 (.t 42),.bin 44 .lss (.t 40) (.t 43)]) (.cond (.t 44) (.skip) (.exit 2))) (.seq (.block 3 (.ss [.mv 47 (.t 3),.bin 48 .add (.t 47) (.c (.str ⟨#[32]⟩)),.nop,.sub 50 1 3 1,.mv 51 (.t 5),.elp 52 (.t 50) (.t 51) 2,.mv 53 (.t 52),.eld 54 53 0 [.int .i64 0],.nop,.sub 56 1 3 1,.mv 57 (.t 5),.elp 58 (.t 56) (.t 57) 2,.mv 59 (.t 58),.eld 60 59 1 [.int .i64 0],.call 61 pT hY [(.t 54),(.t 60)] [],.bin 62 .add (.t 48) (.t 61),.mv 3 (.t 62)])) (.ss [.mv 45 (.t 5),.bin 46 .add (.t 45) (.c (.int .i64 1)),.mv 5 (.t 46)])))))) (.seq (.ss [.mv 63 (.t 3),.mv 2 (.t 63)]) (.ret [2]))))))
def zJ:Cfg:={tt:=tt,sigs:=sigs,mv:=false,bm:=[],eqt:=fE,keep:=[true,true,true,true,true,true,false,false,true,false,false,false,false,false,false,false,false,false,true,false,false,false,false,false,false,false,false,false,false,false,false,false,false,false,false,false,false,false,false,false,false,false,false,false,true,false,false,false,false,false,false,false,false,false,false,false,false,false,false,false,false,false,false,false],n:=64,pin:=[],fail:=[],fz:=[] }
theorem Gh:bP zJ Tryz.f56 dS=some p_s_PkgText:=by kernel_rfl
theorem Gi {W:Wld}{ins outs:List (List D)}(h:pwp (FunOk PP W) p_s_PkgText (aS outs) (envL ins)):FunOk PP W iH dS ins outs:=aQ (C:=zJ) (aP rfl) (bB rfl rfl) mixed Tryz.func56 (by kernel_rfl) (by kernel_rfl) Gh h

def p_i_RootOk:PC:= .seq (.ss [.mv 1 (.t 0),.mv 2 (.c (.bool false))]) (.seq (.ss [.nop,.sub 4 1 0 1,.call 5 lB hU [(.t 4),(.c (.int .i64 1)),(.c (.int .i64 9))] [],.mv 6 (.t 5),.g 6 true 7 (.nop),.g 6 true 8 (.sub 8 1 1 1),.g 6 true 9 (.call 9 tV jW [(.t 8)] []),.pick 10 (.t 6) (.t 9) (.c (.bool false)),.mv 11 (.t 10),.g 11 true 12 (.nop),.g 11 true 13 (.sub 13 1 2 1),.g 11 true 14 (.nop),.g 11 true 15 (.sub 15 1 1 1),.g 11 true 16 (.len 16 (.t 15)),.g 11 true 17 (.call 17 lB hU [(.t 13),(.c (.int .i64 1)),(.t 16)] []),.pick 18 (.t 11) (.t 17) (.c (.bool false)),.mv 2 (.t 18)]) (.ret [2]))
def Bs:Cfg:={tt:=tt,sigs:=sigs,mv:=false,bm:=[],eqt:=fE,keep:=[true,true,true,false,false,false,false,false,false,false,false,false,false,false,false,false,false,false,false],n:=19,pin:=[],fail:=[],fz:=[] }
theorem IH:bP Bs Tryz.f61 jT=some p_i_RootOk:=by kernel_rfl
theorem II {W:Wld}{ins outs:List (List D)}(h:pwp (FunOk PP W) p_i_RootOk (aS outs) (envL ins)):FunOk PP W tS jT ins outs:=aQ (C:=Bs) (aP rfl) (bB rfl rfl) mixed Tryz.func61 (by kernel_rfl) (by kernel_rfl) IH h

def p_i_Pkg_compare:PC:= .seq (.ss [.mv 2 (.t 0),.mv 3 (.t 1),.mv 4 (.c (.int .i64 0))]) (.seq (.ss [.nop,.sub 6 2 0 1,.nop,.sub 8 3 0 1,.call 9 eX cC [(.t 6),(.t 8)] [],.nop,.sub 11 2 1 1,.nop,.sub 13 3 1 1,.call 14 eX cC [(.t 11),(.t 13)] [],.lit 15 2 [.int .i64 0] [(0,(.t 9)),(1,(.t 14))],.call 16 pU gI [(.t 15)] [],.mv 4 (.t 16)]) (.ret [4]))
def qB:Cfg:={tt:=tt,sigs:=sigs,mv:=false,bm:=[],eqt:=fE,keep:=[true,true,true,true,true,false,false,false,false,false,false,false,false,false,false,false,false],n:=17,pin:=[],fail:=[],fz:=[] }
theorem zX:bP qB Tryz.f63 cH=some p_i_Pkg_compare:=by kernel_rfl
theorem zY {W:Wld}{ins outs:List (List D)}(h:pwp (FunOk PP W) p_i_Pkg_compare (aS outs) (envL ins)):FunOk PP W cG cH ins outs:=aQ (C:=qB) (aP rfl) (bB rfl rfl) mixed Tryz.func63 (by kernel_rfl) (by kernel_rfl) zX h

def p_s_PkgOk:PC:= .seq (.ss [.mv 1 (.t 0),.mv 2 (.c (.bool false))]) (.seq (.ss [.nop,.sub 4 1 0 1,.call 5 cX cA [(.t 4),(.c (.int .i64 1)),(.c (.int .i64 4))] [],.mv 6 (.t 5),.g 6 true 7 (.nop),.g 6 true 8 (.sub 8 1 1 1),.g 6 true 9 (.call 9 cX cA [(.t 8),(.c (.int .i64 1)),(.c (.int .i64 5))] []),.pick 10 (.t 6) (.t 9) (.c (.bool false)),.mv 11 (.t 10),.g 11 true 12 (.nop),.g 11 true 13 (.sub 13 1 2 1),.g 11 true 14 (.call 14 rJ iO [(.t 13)] []),.pick 15 (.t 11) (.t 14) (.c (.bool false)),.mv 16 (.t 15),.g 16 true 17 (.nop),.g 16 true 18 (.sub 18 1 0 1),.g 16 true 19 (.nop),.g 16 true 20 (.sub 20 1 3 1),.g 16 true 21 (.call 21 tW jY [(.t 18),(.t 20)] []),.pick 22 (.t 16) (.t 21) (.c (.bool false)),.mv 2 (.t 22)]) (.ret [2]))
def DV:Cfg:={tt:=tt,sigs:=sigs,mv:=false,bm:=[],eqt:=fE,keep:=[true,true,true,false,false,false,false,false,false,false,false,false,false,false,false,false,false,false,false,false,false,false,false],n:=23,pin:=[],fail:=[],fz:=[] }
theorem Kc:bP DV Tryz.f84 jU=some p_s_PkgOk:=by kernel_rfl
theorem Kd {W:Wld}{ins outs:List (List D)}(h:pwp (FunOk PP W) p_s_PkgOk (aS outs) (envL ins)):FunOk PP W sF jU ins outs:=aQ (C:=DV) (aP rfl) (bB rfl rfl) mixed Tryz.func84 (by kernel_rfl) (by kernel_rfl) Kc h

def p_s_l3Less:PC:= .seq (.ss [.mv 8 (.c (.bool false))]) (.seq (.ss [.mv 9 (.t 0),.mv 10 (.t 2),.bin 11 .lss (.t 9) (.t 10),.mv 12 (.t 11),.g 12 false 13 (.mv 13 (.t 0)),.g 12 false 14 (.mv 14 (.t 2)),.g 12 false 15 (.bin 15 .eql (.t 13) (.t 14)),.g 12 false 16 (.mv 16 (.t 15)),.g 16 true 17 (.mv 17 (.t 1)),.g 16 true 18 (.mv 18 (.t 3)),.g 16 true 19 (.bin 19 .lss (.t 17) (.t 18)),.g 12 false 20 (.pick 20 (.t 16) (.t 19) (.c (.bool false))),.pick 21 (.t 12) (.c (.bool true)) (.t 20),.mv 8 (.t 21)]) (.ret [8]))
def Bt:Cfg:={tt:=tt,sigs:=sigs,mv:=false,bm:=[],eqt:=fE,keep:=[true,true,true,true,false,false,false,false,true,false,false,false,false,false,false,false,false,false,false,false,false,false],n:=22,pin:=[],fail:=[],fz:=[] }
theorem IJ:bP Bt Tryz.f85 eL=some p_s_l3Less:=by kernel_rfl
theorem IK {W:Wld}{ins outs:List (List D)}(h:pwp (FunOk PP W) p_s_l3Less (aS outs) (envL ins)):FunOk PP W jK eL ins outs:=aQ (C:=Bt) (aP rfl) (bB rfl rfl) mixed Tryz.func85 (by kernel_rfl) (by kernel_rfl) IJ h

def p_i_Index_same:PC:= .seq (.ss [.mv 2 (.t 0),.mv 3 (.t 1),.mv 4 (.c (.bool false))]) (.seq (.ss [.nop,.sub 6 2 0 1,.nop,.sub 8 3 0 1,.bin 9 .eql (.t 6) (.t 8),.mv 10 (.t 9),.g 10 true 11 (.nop),.g 10 true 12 (.sub 12 2 1 1),.g 10 true 13 (.nop),.g 10 true 14 (.sub 14 3 1 1),.g 10 true 15 (.bin 15 .eql (.t 12) (.t 14)),.pick 16 (.t 10) (.t 15) (.c (.bool false)),.mv 17 (.t 16),.g 17 true 18 (.nop),.g 17 true 19 (.sub 19 2 2 1),.g 17 true 20 (.nop),.g 17 true 21 (.sub 21 3 2 1),.g 17 true 22 (.call 22 lC dO [(.t 19),(.t 21)] []),.pick 23 (.t 17) (.t 22) (.c (.bool false)),.mv 4 (.t 23)]) (.ret [4]))
def rN:Cfg:={tt:=tt,sigs:=sigs,mv:=false,bm:=[],eqt:=fE,keep:=[true,true,true,true,true,false,false,false,false,false,false,false,false,false,false,false,false,false,false,false,false,false,false,false],n:=24,pin:=[],fail:=[],fz:=[] }
theorem Bu:bP rN Tryz.f86 eA=some p_i_Index_same:=by kernel_rfl
theorem Bv {W:Wld}{ins outs:List (List D)}(h:pwp (FunOk PP W) p_i_Index_same (aS outs) (envL ins)):FunOk PP W mJ eA ins outs:=aQ (C:=rN) (aP rfl) (bB rfl rfl) mixed Tryz.func86 (by kernel_rfl) (by kernel_rfl) Bu h

def p_sl_Index_Meta:PC:= .seq (.ss [.mv 3 (.t 1),.mv 4 (.c (.int .i64 0))]) (.seq (.seq (.ss [.mv 6 (.t 0),.len 7 (.t 6),.mv 8 (.c (.int .i64 0))]) (.block 0 (.loop (.seq (.ss [.bin 9 .lss (.t 8) (.t 7)]) (.seq (.cond (.t 9) (.skip) (.exit 0)) (.seq (.block 1 (.seq (.ss [.mv 10 (.t 8),.mv 5 (.t 10)]) (.seq (.ss [.sub 11 3 0 3,.mv 12 (.t 0),.mv 13 (.t 5),.elp 14 (.t 12) (.t 13) 3,.eld 15 14 0 [.int .i64 0,.int .i64 0,.int .i64 0],.eqs 16 false [.int .i64 0,.int .i64 0,.int .i64 0] (.t 11) (.t 15)]) (.cond (.t 16) (.seq (.ss [.mv 17 (.t 5),.mv 4 (.t 17)]) (.ret [4])) (.skip))))) (.ss [.bin 18 .add (.t 8) (.c (.int .i64 1)),.mv 8 (.t 18)]))))))) (.seq (.ss [.mv 4 (.c (.int .i64 (-1)))]) (.ret [4])))
def qC:Cfg:={tt:=tt,sigs:=sigs,mv:=false,bm:=[],eqt:=fE,keep:=[true,true,false,true,true,true,false,true,true,true,false,false,false,false,false,false,true,false,false],n:=19,pin:=[],fail:=[],fz:=[] }
theorem zZ:bP qC Tryz.f87 dN=some p_sl_Index_Meta:=by kernel_rfl
theorem AA {W:Wld}{ins outs:List (List D)}(h:pwp (FunOk PP W) p_sl_Index_Meta (aS outs) (envL ins)):FunOk PP W lA dN ins outs:=aQ (C:=qC) (aP rfl) (bB rfl rfl) mixed Tryz.func87 (by kernel_rfl) (by kernel_rfl) zZ h

def p_i_SumOf:PC:= .seq (.ss [.mv 2 (.c (.int .i64 0))]) (.seq (.ss [.mv 3 (.c (.int .i64 7))]) (.seq (.seq (.ss [.mv 6 (.t 0),.s2b 7 (.t 6),.len 8 (.t 7),.mv 9 (.c (.int .i64 0))]) (.block 0 (.loop (.seq (.ss [.bin 10 .lss (.t 9) (.t 8)]) (.seq (.cond (.t 10) (.skip) (.exit 0)) (.seq (.block 1 (.seq (.ss [.elp 11 (.t 7) (.t 9) 1,.eld 12 11 0 [.int .u8 0],.mv 5 (.t 12)]) (.ss [.mv 13 (.t 3),.bin 14 .mul (.c (.int .i64 31)) (.t 13),.mv 15 (.t 5),.cvt 16 .i64 (.t 15),.bin 17 .add (.t 14) (.t 16),.bin 18 .add (.t 17) (.c (.int .i64 1)),.bin 19 .rem (.t 18) (.c (.int .i64 9973)),.mv 3 (.t 19)]))) (.ss [.bin 20 .add (.t 9) (.c (.int .i64 1)),.mv 9 (.t 20)]))))))) (.seq (.ss [.mv 21 (.t 3),.mv 2 (.t 21)]) (.ret [2]))))
def DW:Cfg:={tt:=tt,sigs:=sigs,mv:=false,bm:=[],eqt:=fE,keep:=[true,false,true,true,false,true,false,true,true,true,true,false,false,false,false,false,false,false,false,false,false,false],n:=22,pin:=[],fail:=[],fz:=[] }
theorem Ke:bP DW Tryz.f88 lW=some p_i_SumOf:=by kernel_rfl
theorem Kf {W:Wld}{ins outs:List (List D)}(h:pwp (FunOk PP W) p_i_SumOf (aS outs) (envL ins)):FunOk PP W xF lW ins outs:=aQ (C:=DW) (aP rfl) (bB rfl rfl) mixed Tryz.func88 (by kernel_rfl) (by kernel_rfl) Ke h

def p_s_l6In:PC:= .seq (.ss [.mv 6 (.c (.bool false))]) (.seq (.ss [.mv 7 (.t 0),.mv 8 (.t 1),.bin 9 .geq (.t 7) (.t 8),.mv 10 (.t 9),.g 10 true 11 (.mv 11 (.t 0)),.g 10 true 12 (.mv 12 (.t 2)),.g 10 true 13 (.bin 13 .leq (.t 11) (.t 12)),.pick 14 (.t 10) (.t 13) (.c (.bool false)),.mv 6 (.t 14)]) (.ret [6]))
def Gj:Cfg:={tt:=tt,sigs:=sigs,mv:=false,bm:=[],eqt:=fE,keep:=[true,true,true,false,false,false,true,false,false,false,false,false,false,false,false],n:=15,pin:=[],fail:=[],fz:=[] }
theorem My:bP Gj Tryz.f93 cA=some p_s_l6In:=by kernel_rfl
theorem Mz {W:Wld}{ins outs:List (List D)}(h:pwp (FunOk PP W) p_s_l6In (aS outs) (envL ins)):FunOk PP W cX cA ins outs:=aQ (C:=Gj) (aP rfl) (bB rfl rfl) mixed Tryz.func93 (by kernel_rfl) (by kernel_rfl) My h

def p_s_KeysOk:PC:= .seq (.ss [.mv 2 (.c (.bool false))]) (.seq (.seq (.ss [.mv 3 (.c (.int .i64 0))]) (.block 0 (.loop (.seq (.seq (.ss [.mv 4 (.t 3),.mv 5 (.t 0),.len 6 (.t 5),.bin 7 .lss (.t 4) (.t 6)]) (.cond (.t 7) (.skip) (.exit 0))) (.seq (.block 1 (.seq (.ss [.mv 10 (.t 0),.mv 11 (.t 3),.elp 12 (.t 10) (.t 11) 1,.eld 13 12 0 [.int .i64 0],.call 14 cX cA [(.t 13),(.c (.int .i64 1)),(.c (.int .i64 6))] [],.un 15 .not (.t 14),.mv 16 (.t 15),.g 16 false 17 (.mv 17 (.t 3)),.g 16 false 18 (.bin 18 .gtr (.t 17) (.c (.int .i64 0))),.g 16 false 19 (.mv 19 (.t 18)),.g 19 true 20 (.mv 20 (.t 0)),.g 19 true 21 (.mv 21 (.t 3)),.g 19 true 22 (.bin 22 .sub (.t 21) (.c (.int .i64 1))),.g 19 true 23 (.elp 23 (.t 20) (.t 22) 1),.g 19 true 24 (.eld 24 23 0 [.int .i64 0]),.g 19 true 25 (.mv 25 (.t 0)),.g 19 true 26 (.mv 26 (.t 3)),.g 19 true 27 (.elp 27 (.t 25) (.t 26) 1),.g 19 true 28 (.eld 28 27 0 [.int .i64 0]),.g 19 true 29 (.bin 29 .geq (.t 24) (.t 28)),.g 16 false 30 (.pick 30 (.t 19) (.t 29) (.c (.bool false))),.pick 31 (.t 16) (.c (.bool true)) (.t 30)]) (.cond (.t 31) (.seq (.ss [.mv 2 (.c (.bool false))]) (.ret [2])) (.skip)))) (.ss [.mv 8 (.t 3),.bin 9 .add (.t 8) (.c (.int .i64 1)),.mv 3 (.t 9)])))))) (.seq (.ss [.mv 2 (.c (.bool true))]) (.ret [2])))
def Bw:Cfg:={tt:=tt,sigs:=sigs,mv:=false,bm:=[],eqt:=fE,keep:=[true,false,true,true,false,false,false,true,false,false,false,false,false,false,false,false,false,false,false,false,false,false,false,false,false,false,false,false,false,false,false,true],n:=32,pin:=[],fail:=[],fz:=[] }
theorem IL:bP Bw Tryz.f94 jV=some p_s_KeysOk:=by kernel_rfl
theorem IM {W:Wld}{ins outs:List (List D)}(h:pwp (FunOk PP W) p_s_KeysOk (aS outs) (envL ins)):FunOk PP W tU jV ins outs:=aQ (C:=Bw) (aP rfl) (bB rfl rfl) mixed Tryz.func94 (by kernel_rfl) (by kernel_rfl) IL h

def p_i_nameRead:PC:= .seq (.ss [.mv 2 (.c (.int .i64 0)),.mv 3 (.c (.int .i64 0))]) (.seq (.seq (.ss [.mv 6 (.t 0),.bin 7 .eql (.t 6) (.c (.str ⟨#[]⟩))]) (.cond (.t 7) (.seq (.ss [.mv 2 (.c (.int .i64 0)),.mv 3 (.c (.int .i64 0))]) (.ret [2,3])) (.skip))) (.seq (.ss [.mv 9 (.t 0),.ssl 10 (.t 9) (some (.c (.int .i64 1))) none,.call 11 jA dG [(.t 10)] [],.mv 8 (.t 11),.ext 12 8 0 1,.ext 13 8 1 1,.mv 4 (.t 12),.mv 5 (.t 13)]) (.seq (.ss [.mv 14 (.t 0),.sidx 15 (.t 14) (.c (.int .i64 0)),.cvt 16 .i64 (.t 15),.bin 17 .sub (.t 16) (.c (.int .i64 97)),.bin 18 .add (.t 17) (.c (.int .i64 1)),.mv 19 (.t 4),.mv 2 (.t 18),.mv 3 (.t 19)]) (.ret [2,3]))))
def vL:Cfg:={tt:=tt,sigs:=sigs,mv:=false,bm:=[],eqt:=fE,keep:=[true,false,true,true,true,false,false,true,false,false,false,false,false,false,false,false,false,false,false,false],n:=20,pin:=[],fail:=[],fz:=[] }
theorem Ei:bP vL Tryz.f96 eM=some p_i_nameRead:=by kernel_rfl
theorem Ej {W:Wld}{ins outs:List (List D)}(h:pwp (FunOk PP W) p_i_nameRead (aS outs) (envL ins)):FunOk PP W lM eM ins outs:=aQ (C:=vL) (aP rfl) (bB rfl rfl) mixed Tryz.func96 (by kernel_rfl) (by kernel_rfl) Ei h

def p_i_isName:PC:= .seq (.ss [.mv 2 (.c (.bool false))]) (.seq (.ss [.mv 3 (.t 0),.call 4 lB hU [(.t 3),(.c (.int .i64 1)),(.c (.int .i64 4))] [],.mv 2 (.t 4)]) (.ret [2]))
def Bx:Cfg:={tt:=tt,sigs:=sigs,mv:=false,bm:=[],eqt:=fE,keep:=[true,false,true,false,false],n:=5,pin:=[],fail:=[],fz:=[] }
theorem IN:bP Bx Tryz.f99 fS=some p_i_isName:=by kernel_rfl
theorem IO {W:Wld}{ins outs:List (List D)}(h:pwp (FunOk PP W) p_i_isName (aS outs) (envL ins)):FunOk PP W mL fS ins outs:=aQ (C:=Bx) (aP rfl) (bB rfl rfl) mixed Tryz.func99 (by kernel_rfl) (by kernel_rfl) IN h

def p_i_isVer:PC:= .seq (.ss [.mv 2 (.c (.bool false))]) (.seq (.ss [.mv 3 (.t 0),.call 4 lB hU [(.t 3),(.c (.int .i64 1)),(.c (.int .i64 5))] [],.mv 2 (.t 4)]) (.ret [2]))
def DX:Cfg:={tt:=tt,sigs:=sigs,mv:=false,bm:=[],eqt:=fE,keep:=[true,false,true,false,false],n:=5,pin:=[],fail:=[],fz:=[] }
theorem Kg:bP DX Tryz.f100 iN=some p_i_isVer:=by kernel_rfl
theorem Kh {W:Wld}{ins outs:List (List D)}(h:pwp (FunOk PP W) p_i_isVer (aS outs) (envL ins)):FunOk PP W oO iN ins outs:=aQ (C:=DX) (aP rfl) (bB rfl rfl) mixed Tryz.func100 (by kernel_rfl) (by kernel_rfl) Kg h

def p_i_in:PC:= .seq (.ss [.mv 6 (.c (.bool false))]) (.seq (.ss [.mv 7 (.t 0),.mv 8 (.t 1),.bin 9 .geq (.t 7) (.t 8),.mv 10 (.t 9),.g 10 true 11 (.mv 11 (.t 0)),.g 10 true 12 (.mv 12 (.t 2)),.g 10 true 13 (.bin 13 .leq (.t 11) (.t 12)),.pick 14 (.t 10) (.t 13) (.c (.bool false)),.mv 6 (.t 14)]) (.ret [6]))
def NA:Cfg:={tt:=tt,sigs:=sigs,mv:=false,bm:=[],eqt:=fE,keep:=[true,true,true,false,false,false,true,false,false,false,false,false,false,false,false],n:=15,pin:=[],fail:=[],fz:=[] }
theorem RQ:bP NA Tryz.f101 hU=some p_i_in:=by kernel_rfl
theorem RR {W:Wld}{ins outs:List (List D)}(h:pwp (FunOk PP W) p_i_in (aS outs) (envL ins)):FunOk PP W lB hU ins outs:=aQ (C:=NA) (aP rfl) (bB rfl rfl) mixed Tryz.func101 (by kernel_rfl) (by kernel_rfl) RQ h

def p_s_l1Name:PC:= .seq (.ss [.mv 4 (.c (.str ⟨#[]⟩))]) (.seq (.ss [.mv 5 (.t 0),.bin 6 .add (.c (.int .i64 97)) (.t 5),.bin 7 .sub (.t 6) (.c (.int .i64 1)),.cvt 8 .u8 (.t 7),.lit 9 1 [.int .u8 0] [(0,(.t 8))],.b2s 10 (.t 9),.mv 11 (.t 1),.call 12 jL eR [(.t 11)] [],.bin 13 .add (.t 10) (.t 12),.mv 4 (.t 13)]) (.ret [4]))
def By:Cfg:={tt:=tt,sigs:=sigs,mv:=false,bm:=[],eqt:=fE,keep:=[true,true,false,false,true,false,false,false,false,false,false,false,false,false],n:=14,pin:=[],fail:=[],fz:=[] }
theorem IP:bP By Tryz.f104 hY=some p_s_l1Name:=by kernel_rfl
theorem IQ {W:Wld}{ins outs:List (List D)}(h:pwp (FunOk PP W) p_s_l1Name (aS outs) (envL ins)):FunOk PP W pT hY ins outs:=aQ (C:=By) (aP rfl) (bB rfl rfl) mixed Tryz.func104 (by kernel_rfl) (by kernel_rfl) IP h

def p_s_l6Dec:PC:= .seq (.ss [.mv 2 (.c (.str ⟨#[]⟩))]) (.seq (.seq (.ss [.mv 3 (.t 0),.bin 4 .lss (.t 3) (.c (.int .i64 (-9223372036854775807)))]) (.cond (.t 4) (.seq (.ss [.mv 2 (.c (.str ⟨#[45,57,50,50,51,51,55,50,48,51,54,56,53,52,55,55,53,56,48,56]⟩))]) (.ret [2])) (.skip))) (.seq (.seq (.ss [.mv 5 (.t 0),.bin 6 .lss (.t 5) (.c (.int .i64 0))]) (.cond (.t 6) (.seq (.ss [.mv 7 (.t 0),.un 8 .neg (.t 7),.call 9 jL eR [(.t 8)] [],.bin 10 .add (.c (.str ⟨#[45]⟩)) (.t 9),.mv 2 (.t 10)]) (.ret [2])) (.skip))) (.seq (.seq (.ss [.mv 11 (.t 0),.bin 12 .lss (.t 11) (.c (.int .i64 10))]) (.cond (.t 12) (.seq (.ss [.mv 13 (.t 0),.bin 14 .add (.c (.int .i64 48)) (.t 13),.cvt 15 .u8 (.t 14),.lit 16 1 [.int .u8 0] [(0,(.t 15))],.b2s 17 (.t 16),.mv 2 (.t 17)]) (.ret [2])) (.skip))) (.seq (.ss [.mv 18 (.t 0),.bin 19 .quo (.t 18) (.c (.int .i64 10)),.call 20 jL eR [(.t 19)] [],.mv 21 (.t 0),.bin 22 .rem (.t 21) (.c (.int .i64 10)),.bin 23 .add (.c (.int .i64 48)) (.t 22),.cvt 24 .u8 (.t 23),.lit 25 1 [.int .u8 0] [(0,(.t 24))],.b2s 26 (.t 25),.bin 27 .add (.t 20) (.t 26),.mv 2 (.t 27)]) (.ret [2])))))
def DY:Cfg:={tt:=tt,sigs:=sigs,mv:=false,bm:=[],eqt:=fE,keep:=[true,false,true,false,true,false,true,false,false,false,false,false,true,false,false,false,false,false,false,false,false,false,false,false,false,false,false,false],n:=28,pin:=[],fail:=[],fz:=[] }
theorem Ki:bP DY Tryz.f105 eR=some p_s_l6Dec:=by kernel_rfl
theorem Kj {W:Wld}{ins outs:List (List D)}(h:pwp (FunOk PP W) p_s_l6Dec (aS outs) (envL ins)):FunOk PP W jL eR ins outs:=aQ (C:=DY) (aP rfl) (bB rfl rfl) mixed Tryz.func105 (by kernel_rfl) (by kernel_rfl) Ki h

def p_i_KeysOk:PC:= .seq (.ss [.mv 2 (.c (.bool false))]) (.seq (.seq (.ss [.mv 5 (.t 0),.len 6 (.t 5),.mv 7 (.c (.int .i64 0))]) (.block 0 (.loop (.seq (.ss [.bin 8 .lss (.t 7) (.t 6)]) (.seq (.cond (.t 8) (.skip) (.exit 0)) (.seq (.block 1 (.seq (.ss [.mv 9 (.t 7),.elp 10 (.t 5) (.t 7) 1,.eld 11 10 0 [.int .i64 0],.mv 3 (.t 9),.mv 4 (.t 11)]) (.seq (.ss [.mv 12 (.t 4),.call 13 lB hU [(.t 12),(.c (.int .i64 1)),(.c (.int .i64 6))] [],.un 14 .not (.t 13),.mv 15 (.t 14),.g 15 false 16 (.mv 16 (.t 3)),.g 15 false 17 (.bin 17 .gtr (.t 16) (.c (.int .i64 0))),.g 15 false 18 (.mv 18 (.t 17)),.g 18 true 19 (.mv 19 (.t 4)),.g 18 true 20 (.mv 20 (.t 0)),.g 18 true 21 (.mv 21 (.t 3)),.g 18 true 22 (.bin 22 .sub (.t 21) (.c (.int .i64 1))),.g 18 true 23 (.elp 23 (.t 20) (.t 22) 1),.g 18 true 24 (.eld 24 23 0 [.int .i64 0]),.g 18 true 25 (.bin 25 .leq (.t 19) (.t 24)),.g 15 false 26 (.pick 26 (.t 18) (.t 25) (.c (.bool false))),.pick 27 (.t 15) (.c (.bool true)) (.t 26)]) (.cond (.t 27) (.seq (.ss [.mv 2 (.c (.bool false))]) (.ret [2])) (.skip))))) (.ss [.bin 28 .add (.t 7) (.c (.int .i64 1)),.mv 7 (.t 28)]))))))) (.seq (.ss [.mv 2 (.c (.bool true))]) (.ret [2])))
def Bz:Cfg:={tt:=tt,sigs:=sigs,mv:=false,bm:=[],eqt:=fE,keep:=[true,false,true,true,true,true,true,true,true,false,false,false,false,false,false,false,false,false,false,false,false,false,false,false,false,false,false,true,false],n:=29,pin:=[],fail:=[],fz:=[] }
theorem IR:bP Bz Tryz.f108 jW=some p_i_KeysOk:=by kernel_rfl
theorem IS {W:Wld}{ins outs:List (List D)}(h:pwp (FunOk PP W) p_i_KeysOk (aS outs) (envL ins)):FunOk PP W tV jW ins outs:=aQ (C:=Bz) (aP rfl) (bB rfl rfl) mixed Tryz.func108 (by kernel_rfl) (by kernel_rfl) IR h

def p_cmp_Or_int:PC:= .seq (.ss [.mv 2 (.c (.int .i64 0))]) (.seq (.ss [.mv 3 (.c (.int .i64 0))]) (.seq (.seq (.ss [.mv 6 (.t 0),.len 7 (.t 6),.mv 8 (.c (.int .i64 0))]) (.block 0 (.loop (.seq (.ss [.bin 9 .lss (.t 8) (.t 7)]) (.seq (.cond (.t 9) (.skip) (.exit 0)) (.seq (.block 1 (.seq (.ss [.elp 10 (.t 6) (.t 8) 1,.eld 11 10 0 [.int .i64 0],.mv 5 (.t 11)]) (.seq (.ss [.mv 12 (.t 5),.mv 13 (.t 3),.bin 14 .neq (.t 12) (.t 13)]) (.cond (.t 14) (.seq (.ss [.mv 15 (.t 5),.mv 2 (.t 15)]) (.ret [2])) (.skip))))) (.ss [.bin 16 .add (.t 8) (.c (.int .i64 1)),.mv 8 (.t 16)]))))))) (.seq (.ss [.mv 17 (.t 3),.mv 2 (.t 17)]) (.ret [2]))))
def vM:Cfg:={tt:=tt,sigs:=sigs,mv:=false,bm:=[],eqt:=fE,keep:=[true,false,true,true,false,true,true,true,true,true,false,false,false,false,true,false,false,false],n:=18,pin:=[],fail:=[],fz:=[] }
theorem Ek:bP vM Tryz.f110 gI=some p_cmp_Or_int:=by kernel_rfl
theorem El {W:Wld}{ins outs:List (List D)}(h:pwp (FunOk PP W) p_cmp_Or_int (aS outs) (envL ins)):FunOk PP W pU gI ins outs:=aQ (C:=vM) (aP rfl) (bB rfl rfl) mixed Tryz.func110 (by kernel_rfl) (by kernel_rfl) Ek h

def p_cmp_Compare_int:PC:= .seq (.ss [.mv 4 (.c (.int .i64 0))]) (.seq (.ss [.mv 7 (.t 0),.call 8 gW cU [(.t 7)] [],.mv 5 (.t 8)]) (.seq (.ss [.mv 9 (.t 1),.call 10 gW cU [(.t 9)] [],.mv 6 (.t 10)]) (.seq (.seq (.ss [.mv 11 (.t 5)]) (.cond (.t 11) (.seq (.seq (.ss [.mv 12 (.t 6)]) (.cond (.t 12) (.seq (.ss [.mv 4 (.c (.int .i64 0))]) (.ret [4])) (.skip))) (.seq (.ss [.mv 4 (.c (.int .i64 (-1)))]) (.ret [4]))) (.skip))) (.seq (.seq (.ss [.mv 13 (.t 6)]) (.cond (.t 13) (.seq (.ss [.mv 4 (.c (.int .i64 1))]) (.ret [4])) (.skip))) (.seq (.seq (.ss [.mv 14 (.t 0),.mv 15 (.t 1),.bin 16 .lss (.t 14) (.t 15)]) (.cond (.t 16) (.seq (.ss [.mv 4 (.c (.int .i64 (-1)))]) (.ret [4])) (.skip))) (.seq (.seq (.ss [.mv 17 (.t 0),.mv 18 (.t 1),.bin 19 .gtr (.t 17) (.t 18)]) (.cond (.t 19) (.seq (.ss [.mv 4 (.c (.int .i64 1))]) (.ret [4])) (.skip))) (.seq (.ss [.mv 4 (.c (.int .i64 0))]) (.ret [4]))))))))
def nK:Cfg:={tt:=tt,sigs:=sigs,mv:=false,bm:=[],eqt:=fE,keep:=[true,true,false,false,true,true,true,false,false,false,false,true,true,true,false,false,true,false,false,true],n:=20,pin:=[],fail:=[],fz:=[] }
theorem vN:bP nK Tryz.f111 cC=some p_cmp_Compare_int:=by kernel_rfl
theorem vO {W:Wld}{ins outs:List (List D)}(h:pwp (FunOk PP W) p_cmp_Compare_int (aS outs) (envL ins)):FunOk PP W eX cC ins outs:=aQ (C:=nK) (aP rfl) (bB rfl rfl) mixed Tryz.func111 (by kernel_rfl) (by kernel_rfl) vN h

def p_s_SumOf:PC:= .seq (.ss [.mv 2 (.c (.int .i64 0))]) (.seq (.ss [.mv 3 (.c (.int .i64 7))]) (.seq (.seq (.ss [.mv 4 (.c (.int .i64 0))]) (.block 0 (.loop (.seq (.seq (.ss [.mv 5 (.t 4),.mv 6 (.t 0),.slen 7 (.t 6),.bin 8 .lss (.t 5) (.t 7)]) (.cond (.t 8) (.skip) (.exit 0))) (.seq (.block 1 (.ss [.mv 11 (.t 3),.bin 12 .mul (.c (.int .i64 31)) (.t 11),.mv 13 (.t 0),.mv 14 (.t 4),.sidx 15 (.t 13) (.t 14),.cvt 16 .i64 (.t 15),.bin 17 .add (.t 12) (.t 16),.bin 18 .add (.t 17) (.c (.int .i64 1)),.bin 19 .rem (.t 18) (.c (.int .i64 9973)),.mv 3 (.t 19)])) (.ss [.mv 9 (.t 4),.bin 10 .add (.t 9) (.c (.int .i64 1)),.mv 4 (.t 10)])))))) (.seq (.ss [.mv 20 (.t 3),.mv 2 (.t 20)]) (.ret [2]))))
def DZ:Cfg:={tt:=tt,sigs:=sigs,mv:=false,bm:=[],eqt:=fE,keep:=[true,false,true,true,true,false,false,false,true,false,false,false,false,false,false,false,false,false,false,false,false],n:=21,pin:=[],fail:=[],fz:=[] }
theorem Kk:bP DZ Tryz.f127 jX=some p_s_SumOf:=by kernel_rfl
theorem Kl {W:Wld}{ins outs:List (List D)}(h:pwp (FunOk PP W) p_s_SumOf (aS outs) (envL ins)):FunOk PP W sG jX ins outs:=aQ (C:=DZ) (aP rfl) (bB rfl rfl) mixed Tryz.func127 (by kernel_rfl) (by kernel_rfl) Kk h

def p_s_l1Files:PC:= .seq (.ss [.mv 2 (.c (.bool false))]) (.seq (.seq (.ss [.mv 3 (.c (.int .i64 0))]) (.block 0 (.loop (.seq (.seq (.ss [.mv 4 (.t 3),.mv 5 (.t 0),.len 6 (.t 5),.bin 7 .lss (.t 4) (.t 6)]) (.cond (.t 7) (.skip) (.exit 0))) (.seq (.block 1 (.seq (.ss [.mv 10 (.t 0),.mv 11 (.t 3),.elp 12 (.t 10) (.t 11) 2,.mv 13 (.t 12),.eld 14 13 0 [.int .i64 0],.call 15 cX cA [(.t 14),(.c (.int .i64 0)),(.c (.int .i64 5))] [],.un 16 .not (.t 15),.mv 17 (.t 16),.g 17 false 18 (.mv 18 (.t 0)),.g 17 false 19 (.mv 19 (.t 3)),.g 17 false 20 (.elp 20 (.t 18) (.t 19) 2),.g 17 false 21 (.mv 21 (.t 20)),.g 17 false 22 (.eld 22 21 1 [.int .i64 0]),.g 17 false 23 (.call 23 cX cA [(.t 22),(.c (.int .i64 0)),(.c (.int .i64 9))] []),.g 17 false 24 (.un 24 .not (.t 23)),.pick 25 (.t 17) (.c (.bool true)) (.t 24),.mv 26 (.t 25),.g 26 false 27 (.mv 27 (.t 3)),.g 26 false 28 (.bin 28 .gtr (.t 27) (.c (.int .i64 0))),.g 26 false 29 (.mv 29 (.t 28)),.g 29 true 30 (.mv 30 (.t 0)),.g 29 true 31 (.mv 31 (.t 3)),.g 29 true 32 (.bin 32 .sub (.t 31) (.c (.int .i64 1))),.g 29 true 33 (.elp 33 (.t 30) (.t 32) 2),.g 29 true 34 (.mv 34 (.t 33)),.g 29 true 35 (.eld 35 34 0 [.int .i64 0]),.g 29 true 36 (.mv 36 (.t 0)),.g 29 true 37 (.mv 37 (.t 3)),.g 29 true 38 (.elp 38 (.t 36) (.t 37) 2),.g 29 true 39 (.mv 39 (.t 38)),.g 29 true 40 (.eld 40 39 0 [.int .i64 0]),.g 29 true 41 (.bin 41 .geq (.t 35) (.t 40)),.g 26 false 42 (.pick 42 (.t 29) (.t 41) (.c (.bool false))),.pick 43 (.t 26) (.c (.bool true)) (.t 42)]) (.cond (.t 43) (.seq (.ss [.mv 2 (.c (.bool false))]) (.ret [2])) (.skip)))) (.ss [.mv 8 (.t 3),.bin 9 .add (.t 8) (.c (.int .i64 1)),.mv 3 (.t 9)])))))) (.seq (.ss [.mv 44 (.t 0),.len 45 (.t 44),.bin 46 .leq (.t 45) (.c (.int .i64 2)),.mv 2 (.t 46)]) (.ret [2])))
def zK:Cfg:={tt:=tt,sigs:=sigs,mv:=false,bm:=[],eqt:=fE,keep:=[true,false,true,true,false,false,false,true,false,false,false,false,false,false,false,false,false,false,false,false,false,false,false,false,false,false,false,false,false,false,false,false,false,false,false,false,false,false,false,false,false,false,false,true,false,false,false],n:=47,pin:=[],fail:=[],fz:=[] }
theorem Gk:bP zK Tryz.f128 iO=some p_s_l1Files:=by kernel_rfl
theorem Gl {W:Wld}{ins outs:List (List D)}(h:pwp (FunOk PP W) p_s_l1Files (aS outs) (envL ins)):FunOk PP W rJ iO ins outs:=aQ (C:=zK) (aP rfl) (bB rfl rfl) mixed Tryz.func128 (by kernel_rfl) (by kernel_rfl) Gk h

def p_s_l1Deps:PC:= .seq (.ss [.mv 4 (.c (.bool false))]) (.seq (.seq (.ss [.mv 5 (.c (.int .i64 0))]) (.block 0 (.loop (.seq (.seq (.ss [.mv 7 (.t 5),.mv 8 (.t 1),.len 9 (.t 8),.bin 10 .lss (.t 7) (.t 9)]) (.cond (.t 10) (.skip) (.exit 0))) (.seq (.block 1 (.seq (.ss [.mv 13 (.t 1),.mv 14 (.t 5),.elp 15 (.t 13) (.t 14) 2,.eld 16 15 0 [.int .i64 0,.int .i64 0],.bld 6 [.int .i64 0,.int .i64 0] [],.st 6 0 (.t 16)]) (.seq (.ss [.nop,.sub 18 6 0 1,.call 19 cX cA [(.t 18),(.c (.int .i64 1)),(.c (.int .i64 4))] [],.un 20 .not (.t 19),.mv 21 (.t 20),.g 21 false 22 (.nop),.g 21 false 23 (.sub 23 6 0 1),.g 21 false 24 (.mv 24 (.t 0)),.g 21 false 25 (.bin 25 .eql (.t 23) (.t 24)),.pick 26 (.t 21) (.c (.bool true)) (.t 25),.mv 27 (.t 26),.g 27 false 28 (.nop),.g 27 false 29 (.sub 29 6 1 1),.g 27 false 30 (.call 30 cX cA [(.t 29),(.c (.int .i64 1)),(.c (.int .i64 5))] []),.g 27 false 31 (.un 31 .not (.t 30)),.pick 32 (.t 27) (.c (.bool true)) (.t 31),.mv 33 (.t 32),.g 33 false 34 (.mv 34 (.t 5)),.g 33 false 35 (.bin 35 .gtr (.t 34) (.c (.int .i64 0))),.g 33 false 36 (.mv 36 (.t 35)),.g 36 true 37 (.mv 37 (.t 1)),.g 36 true 38 (.mv 38 (.t 5)),.g 36 true 39 (.bin 39 .sub (.t 38) (.c (.int .i64 1))),.g 36 true 40 (.elp 40 (.t 37) (.t 39) 2),.g 36 true 41 (.mv 41 (.t 40)),.g 36 true 42 (.eld 42 41 0 [.int .i64 0]),.g 36 true 43 (.nop),.g 36 true 44 (.sub 44 6 0 1),.g 36 true 45 (.bin 45 .geq (.t 42) (.t 44)),.g 33 false 46 (.pick 46 (.t 36) (.t 45) (.c (.bool false))),.pick 47 (.t 33) (.c (.bool true)) (.t 46)]) (.cond (.t 47) (.seq (.ss [.mv 4 (.c (.bool false))]) (.ret [4])) (.skip))))) (.ss [.mv 11 (.t 5),.bin 12 .add (.t 11) (.c (.int .i64 1)),.mv 5 (.t 12)])))))) (.seq (.ss [.mv 48 (.t 1),.len 49 (.t 48),.bin 50 .leq (.t 49) (.c (.int .i64 2)),.mv 4 (.t 50)]) (.ret [4])))
def CB:Cfg:={tt:=tt,sigs:=sigs,mv:=false,bm:=[],eqt:=fE,keep:=[true,true,false,false,true,true,true,false,false,false,true,false,false,false,false,false,false,false,false,false,false,false,false,false,false,false,false,false,false,false,false,false,false,false,false,false,false,false,false,false,false,false,false,false,false,false,false,true,false,false,false],n:=51,pin:=[],fail:=[],fz:=[] }
theorem IT:bP CB Tryz.f129 jY=some p_s_l1Deps:=by kernel_rfl
theorem IU {W:Wld}{ins outs:List (List D)}(h:pwp (FunOk PP W) p_s_l1Deps (aS outs) (envL ins)):FunOk PP W tW jY ins outs:=aQ (C:=CB) (aP rfl) (bB rfl rfl) mixed Tryz.func129 (by kernel_rfl) (by kernel_rfl) IT h

def p_sl_Equal_Meta:PC:= .seq (.ss [.mv 4 (.c (.bool false))]) (.seq (.seq (.ss [.mv 6 (.t 0),.len 7 (.t 6),.mv 8 (.t 1),.len 9 (.t 8),.bin 10 .neq (.t 7) (.t 9)]) (.cond (.t 10) (.seq (.ss [.mv 4 (.c (.bool false))]) (.ret [4])) (.skip))) (.seq (.seq (.ss [.mv 11 (.t 0),.len 12 (.t 11),.mv 13 (.c (.int .i64 0))]) (.block 0 (.loop (.seq (.ss [.bin 14 .lss (.t 13) (.t 12)]) (.seq (.cond (.t 14) (.skip) (.exit 0)) (.seq (.block 1 (.seq (.ss [.mv 15 (.t 13),.mv 5 (.t 15)]) (.seq (.ss [.mv 16 (.t 0),.mv 17 (.t 5),.elp 18 (.t 16) (.t 17) 3,.eld 19 18 0 [.int .i64 0,.int .i64 0,.int .i64 0],.mv 20 (.t 1),.mv 21 (.t 5),.elp 22 (.t 20) (.t 21) 3,.eld 23 22 0 [.int .i64 0,.int .i64 0,.int .i64 0],.eqs 24 true [.int .i64 0,.int .i64 0,.int .i64 0] (.t 19) (.t 23)]) (.cond (.t 24) (.seq (.ss [.mv 4 (.c (.bool false))]) (.ret [4])) (.skip))))) (.ss [.bin 25 .add (.t 13) (.c (.int .i64 1)),.mv 13 (.t 25)]))))))) (.seq (.ss [.mv 4 (.c (.bool true))]) (.ret [4]))))
def qD:Cfg:={tt:=tt,sigs:=sigs,mv:=false,bm:=[],eqt:=fE,keep:=[true,true,false,false,true,true,false,false,false,false,true,false,true,true,true,false,false,false,false,false,false,false,false,false,true,false],n:=26,pin:=[],fail:=[],fz:=[] }
theorem AB:bP qD Tryz.f130 dO=some p_sl_Equal_Meta:=by kernel_rfl
theorem AC {W:Wld}{ins outs:List (List D)}(h:pwp (FunOk PP W) p_sl_Equal_Meta (aS outs) (envL ins)):FunOk PP W lC dO ins outs:=aQ (C:=qD) (aP rfl) (bB rfl rfl) mixed Tryz.func130 (by kernel_rfl) (by kernel_rfl) AB h

end
section

def p_cmp_isNaN_int:PC:= .seq (.ss [.mv 2 (.c (.bool false))]) (.seq (.ss [.mv 3 (.t 0),.mv 4 (.t 0),.bin 5 .neq (.t 3) (.t 4),.mv 2 (.t 5)]) (.ret [2]))
def qE:Cfg:={tt:=tt,sigs:=sigs,mv:=false,bm:=[],eqt:=fE,keep:=[true,false,true,false,false,false],n:=6,pin:=[],fail:=[],fz:=[] }
theorem AD:bP qE Tryz.f140 cU=some p_cmp_isNaN_int:=by kernel_rfl
theorem AE {W:Wld}{ins outs:List (List D)}(h:pwp (FunOk PP W) p_cmp_isNaN_int (aS outs) (envL ins)):FunOk PP W gW cU ins outs:=aQ (C:=qE) (aP rfl) (bB rfl rfl) mixed Tryz.func140 (by kernel_rfl) (by kernel_rfl) AD h

end
section

def p_i_put_X:PC:= .seq (.ss [.mv 3 (.t 1),.mv 4 (.c (.sl [])),.mv 5 (.c (.bool false))]) (.seq (.ss [.mv 9 (.t 0),.sub 10 3 0 4,.call 11 dL bL [(.t 9),(.t 10),(.c (.fn 63 [] []))] [],.mv 8 (.t 11),.ext 12 8 0 1,.ext 13 8 1 1,.mv 6 (.t 12),.mv 7 (.t 13)]) (.seq (.seq (.ss [.mv 14 (.t 7)]) (.cond (.t 14) (.seq (.ss [.mv 15 (.t 0),.mv 4 (.t 15),.mv 5 (.c (.bool false))]) (.ret [4,5])) (.skip))) (.seq (.ss [.mv 16 (.t 0),.mv 17 (.t 6),.sub 18 3 0 4,.call 19 iZ dF [(.t 18)] [],.lit 20 1 [.int .i64 0,.int .i64 0,.sl [],.sl []] [(0,(.t 19))],.call 21 pY eZ [(.t 16),(.t 17),(.t 20)] [],.mv 4 (.t 21),.mv 5 (.c (.bool true))]) (.ret [4,5]))))
def Da:Cfg:={tt:=tt,sigs:=Bg,mv:=true,bm:=[],eqt:=fE,keep:=[true,true,false,true,true,true,true,true,false,false,false,false,false,false,true,false,false,false,false,false,false,false],n:=22,pin:=[],fz:=[],al:=false }
theorem Km:bP Da Tryz.f60 oP=some p_i_put_X:=by kernel_rfl
theorem Kn {W:Wld}{ins outs:List (List D)}(h:pwp (FunOk PP W) p_i_put_X (aS outs) (envL ins)):FunOk PP W EZ oP ins outs:=aQ (C:=Da) (aP rfl) (bB rfl rfl) mixed Tryz.func60 (by kernel_rfl) (by kernel_rfl) Km h

def p_i_copies_X:PC:= .seq (.ss [.mv 2 (.c (.sl []))]) (.seq (.ss [.mv 3 (.c (.sl []))]) (.seq (.seq (.ss [.mv 6 (.t 0),.len 7 (.t 6),.mv 8 (.c (.int .i64 0))]) (.block 0 (.loop (.seq (.ss [.bin 9 .lss (.t 8) (.t 7)]) (.seq (.cond (.t 9) (.skip) (.exit 0)) (.seq (.block 1 (.seq (.ss [.elp 10 (.t 6) (.t 8) 4,.eld 11 10 0 [.int .i64 0,.int .i64 0,.sl [],.sl []],.bld 5 [.int .i64 0,.int .i64 0,.sl [],.sl []] [],.st 5 0 (.t 11)]) (.ss [.mv 12 (.t 3),.sub 13 5 0 4,.call 14 iZ dF [(.t 13)] [],.lit 15 1 [.int .i64 0,.int .i64 0,.sl [],.sl []] [(0,(.t 14))],.app 16 4 false (.t 12) (.t 15),.mv 3 (.t 16)]))) (.ss [.bin 17 .add (.t 8) (.c (.int .i64 1)),.mv 8 (.t 17)]))))))) (.seq (.ss [.mv 18 (.t 3),.mv 2 (.t 18)]) (.ret [2]))))
def vP:Cfg:={tt:=tt,sigs:=Bg,mv:=true,bm:=[],eqt:=fE,keep:=[true,false,true,true,false,true,true,true,true,true,false,false,false,false,false,false,false,false,false],n:=19,pin:=[],fz:=[],al:=false }
theorem Em:bP vP Tryz.f59 jB=some p_i_copies_X:=by kernel_rfl
theorem En {W:Wld}{ins outs:List (List D)}(h:pwp (FunOk PP W) p_i_copies_X (aS outs) (envL ins)):FunOk PP W tR jB ins outs:=aQ (C:=vP) (aP rfl) (bB rfl rfl) mixed Tryz.func59 (by kernel_rfl) (by kernel_rfl) Em h

def p_i_Pkg_copied_X:PC:= .seq (.ss [.mv 1 (.t 0),.bld 2 [.int .i64 0,.int .i64 0,.sl [],.sl []] []]) (.seq (.ss [.nop,.sub 4 1 2 1,.call 5 pW eY [(.t 4)] [],.nop,.sub 7 1 3 1,.call 8 rH gJ [(.t 7)] [],.nop,.st 1 2 (.t 5),.nop,.st 1 3 (.t 8)]) (.seq (.ss [.sub 11 1 0 4,.st 2 0 (.t 11)]) (.ret [2])))
def oR:Cfg:={tt:=tt,sigs:=Bg,mv:=true,bm:=[],eqt:=fE,keep:=[true,true,true,false,false,false,false,false,false,false,false,false],n:=12,pin:=[],fz:=[],al:=false }
theorem xK:bP oR Tryz.f44 dF=some p_i_Pkg_copied_X:=by kernel_rfl
theorem xL {W:Wld}{ins outs:List (List D)}(h:pwp (FunOk PP W) p_i_Pkg_copied_X (aS outs) (envL ins)):FunOk PP W iZ dF ins outs:=aQ (C:=oR) (aP rfl) (bB rfl rfl) mixed Tryz.func44 (by kernel_rfl) (by kernel_rfl) xK h

def p_i_StoreAdd_X:PC:= .seq (.ss [.mv 3 (.t 0),.mv 6 (.c (.sl [])),.mv 7 (.c (.bool false))]) (.seq (.seq (.ss [.sub 11 3 0 7,.call 12 rE iM [(.t 11)] [],.un 13 .not (.t 12),.mv 14 (.t 13),.g 14 false 15 (.mv 15 (.t 1)),.g 14 false 16 (.call 16 nF fP [(.t 15)] []),.g 14 false 17 (.un 17 .not (.t 16)),.pick 18 (.t 14) (.c (.bool true)) (.t 17)]) (.cond (.t 18) (.seq (.ss [.mv 6 (.c (.sl [])),.mv 7 (.c (.bool false))]) (.ret [6,7])) (.skip))) (.seq (.ss [.mv 19 (.t 1),.call 20 tR jB [(.t 19)] [],.mv 8 (.t 20)]) (.seq (.ss [.nop,.sub 23 3 4 3,.mv 24 (.t 2),.call 25 eK cN [(.t 23),(.t 24)] [],.mv 21 (.t 25),.ext 26 21 0 4,.ext 27 21 4 1,.bld 9 [.int .i64 0,.int .i64 0,.sl [],.sl []] [],.st 9 0 (.t 26),.mv 10 (.t 27)]) (.seq (.seq (.ss [.nop,.sub 29 3 3 1,.un 30 .not (.t 29),.mv 31 (.t 30),.g 31 false 32 (.mv 32 (.t 10)),.g 31 false 33 (.un 33 .not (.t 32)),.pick 34 (.t 31) (.c (.bool true)) (.t 33)]) (.cond (.t 34) (.seq (.ss [.mv 35 (.t 8),.mv 6 (.t 35),.mv 7 (.c (.bool false))]) (.ret [6,7])) (.skip))) (.seq (.ss [.mv 36 (.t 8),.sub 37 9 0 4,.call 38 EZ oP [(.t 36),(.t 37)] [],.ext 39 38 0 1,.ext 40 38 1 1,.mv 6 (.t 39),.mv 7 (.t 40)]) (.ret [6,7]))))))
def rO:Cfg:={tt:=tt,sigs:=Bg,mv:=true,bm:=[],eqt:=fE,keep:=[true,true,true,true,false,false,true,true,true,true,true,false,false,false,false,false,false,false,true,false,false,false,false,false,false,false,false,false,false,false,false,false,false,false,true,false,false,false,false,false,false],n:=41,pin:=[],fz:=[],al:=false }
theorem CC:bP rO Tryz.f20 dH=some p_i_StoreAdd_X:=by kernel_rfl
theorem CD {W:Wld}{ins outs:List (List D)}(h:pwp (FunOk PP W) p_i_StoreAdd_X (aS outs) (envL ins)):FunOk PP W iY dH ins outs:=aQ (C:=rO) (aP rfl) (bB rfl rfl) mixed Tryz.func20 (by kernel_rfl) (by kernel_rfl) CC h

def p_l_FnAddHas_X:PC:= .seq (.ss [.mv 2 (.c (.bool false))]) (.seq (.seq (.ss [.mv 15 (.t 0),.len 16 (.t 15),.bin 17 .gtr (.t 16) (.c (.int .i64 1048576))]) (.cond (.t 17) (.seq (.ss [.mv 2 (.c (.bool true))]) (.ret [2])) (.skip))) (.seq (.ss [.mv 19 (.t 0),.call 20 jJ dD [(.t 19)] [],.mv 18 (.t 20),.ext 21 18 0 7,.ext 22 18 7 1,.ext 23 18 8 1,.bld 3 [.int .i64 0,.sl [],.int .i64 0,.bool false,.int .i64 0,.int .i64 0,.sl []] [],.st 3 0 (.t 21),.mv 4 (.t 22),.mv 5 (.t 23)]) (.seq (.ss [.sub 25 3 0 7,.mv 26 (.t 4),.mv 27 (.t 5),.call 28 pO gG [(.t 25),(.t 26),(.t 27)] [],.mv 24 (.t 28),.ext 29 24 0 1,.ext 30 24 1 1,.mv 6 (.t 29),.mv 7 (.t 30)]) (.seq (.ss [.sub 32 3 0 7,.mv 33 (.t 4),.mv 34 (.t 5),.call 35 iY dH [(.t 32),(.t 33),(.t 34)] [],.mv 31 (.t 35),.ext 36 31 0 1,.ext 37 31 1 1,.mv 8 (.t 36),.mv 9 (.t 37)]) (.seq (.seq (.ss [.mv 38 (.t 9),.mv 39 (.t 7),.beq 40 true (.t 38) (.t 39),.mv 41 (.t 40),.g 41 false 42 (.mv 42 (.t 8)),.g 41 false 43 (.mv 43 (.t 6)),.g 41 false 44 (.call 44 mH fM [(.t 42),(.t 43)] []),.g 41 false 45 (.un 45 .not (.t 44)),.pick 46 (.t 41) (.c (.bool true)) (.t 45),.mv 47 (.t 46),.g 47 false 48 (.sub 48 3 0 7),.g 47 false 49 (.call 49 nD fN [(.t 48)] []),.g 47 false 50 (.un 50 .not (.t 49)),.pick 51 (.t 47) (.c (.bool true)) (.t 50),.mv 52 (.t 51),.g 52 false 53 (.mv 53 (.t 4)),.g 52 false 54 (.call 54 nE fO [(.t 53)] []),.g 52 false 55 (.un 55 .not (.t 54)),.pick 56 (.t 52) (.c (.bool true)) (.t 55)]) (.cond (.t 56) (.seq (.ss [.mv 57 (.t 9),.mv 58 (.t 7),.beq 59 false (.t 57) (.t 58),.mv 60 (.t 59),.g 60 true 61 (.mv 61 (.t 8)),.g 60 true 62 (.mv 62 (.t 6)),.g 60 true 63 (.call 63 mH fM [(.t 61),(.t 62)] []),.pick 64 (.t 60) (.t 63) (.c (.bool false)),.mv 2 (.t 64)]) (.ret [2])) (.skip))) (.seq (.ss [.nop,.sub 67 3 4 3,.mv 68 (.t 5),.call 69 eK cN [(.t 67),(.t 68)] [],.mv 65 (.t 69),.ext 70 65 0 4,.ext 71 65 4 1,.bld 10 [.int .i64 0,.int .i64 0,.sl [],.sl []] [],.st 10 0 (.t 70),.mv 11 (.t 71)]) (.seq (.seq (.ss [.mv 72 (.t 9),.un 73 .not (.t 72)]) (.cond (.t 73) (.seq (.ss [.mv 74 (.t 8),.mv 75 (.t 4),.call 76 mH fM [(.t 74),(.t 75)] [],.mv 2 (.t 76)]) (.ret [2])) (.skip))) (.seq (.ss [.sub 78 3 0 7,.mv 79 (.t 8),.mv 80 (.t 5),.call 81 iY dH [(.t 78),(.t 79),(.t 80)] [],.mv 77 (.t 81),.ext 82 77 0 1,.ext 83 77 1 1,.mv 12 (.t 82),.mv 13 (.t 83)]) (.seq (.seq (.ss [.mv 14 (.c (.int .i64 0))]) (.block 0 (.loop (.seq (.seq (.ss [.mv 84 (.t 14),.mv 85 (.t 4),.len 86 (.t 85),.bin 87 .lss (.t 84) (.t 86)]) (.cond (.t 87) (.skip) (.exit 0))) (.seq (.block 1 (.seq (.ss [.mv 90 (.t 8),.mv 91 (.t 4),.mv 92 (.t 14),.elp 93 (.t 91) (.t 92) 4,.eld 94 93 0 [.int .i64 0,.int .i64 0,.sl [],.sl []],.call 95 rC kU [(.t 90),(.t 94)] [],.un 96 .not (.t 95)]) (.cond (.t 96) (.seq (.ss [.mv 2 (.c (.bool false))]) (.ret [2])) (.skip)))) (.ss [.mv 88 (.t 14),.bin 89 .add (.t 88) (.c (.int .i64 1)),.mv 14 (.t 89)])))))) (.seq (.ss [.mv 97 (.t 11),.mv 98 (.t 97),.g 98 true 99 (.nop),.g 98 true 100 (.sub 100 3 3 1),.pick 101 (.t 98) (.t 100) (.c (.bool false)),.mv 102 (.t 101),.g 102 true 103 (.mv 103 (.t 8)),.g 102 true 104 (.sub 104 10 0 4),.g 102 true 105 (.call 105 rC kU [(.t 103),(.t 104)] []),.pick 106 (.t 102) (.t 105) (.c (.bool false)),.mv 107 (.t 106),.g 107 true 108 (.mv 108 (.t 4)),.g 107 true 109 (.sub 109 10 0 4),.g 107 true 110 (.call 110 rC kU [(.t 108),(.t 109)] []),.g 107 true 111 (.un 111 .not (.t 110)),.pick 112 (.t 107) (.t 111) (.c (.bool false)),.mv 113 (.t 112),.g 113 true 114 (.mv 114 (.t 8)),.g 113 true 115 (.len 115 (.t 114)),.g 113 true 116 (.mv 116 (.t 4)),.g 113 true 117 (.len 117 (.t 116)),.g 113 true 118 (.bin 118 .add (.t 117) (.c (.int .i64 1))),.g 113 true 119 (.bin 119 .eql (.t 115) (.t 118)),.pick 120 (.t 113) (.t 119) (.c (.bool false)),.mv 121 (.t 120),.g 121 true 122 (.mv 122 (.t 8)),.g 121 true 123 (.call 123 nF fP [(.t 122)] []),.pick 124 (.t 121) (.t 123) (.c (.bool false)),.mv 125 (.t 124),.g 125 true 126 (.mv 126 (.t 13)),.g 125 true 127 (.un 127 .not (.t 126)),.pick 128 (.t 125) (.t 127) (.c (.bool false)),.mv 2 (.t 128)]) (.ret [2])))))))))))
def rP:Cfg:={tt:=tt,sigs:=Bg,mv:=false,bm:=[],eqt:=fE,keep:=[true,false,true,true,true,true,true,true,true,true,true,true,false,true,true,false,false,true,false,false,false,false,false,false,false,false,false,false,false,false,false,false,false,false,false,false,false,false,false,false,false,false,false,false,false,false,false,false,false,false,false,false,false,false,false,false,true,false,false,false,false,false,false,false,false,false,false,false,false,false,false,false,false,true,false,false,false,false,false,false,false,false,false,false,false,false,false,true,false,false,false,false,false,false,false,false,true,false,false,false,false,false,false,false,false,false,false,false,false,false,false,false,false,false,false,false,false,false,false,false,false,false,false,false,false,false,false,false,false],n:=129,pin:=[],fz:=[],al:=false }
theorem CE:bP rP Tryz.f6 mM=some p_l_FnAddHas_X:=by kernel_rfl
theorem CF {W:Wld}{ins outs:List (List D)}(h:pwp (FunOk PP W) p_l_FnAddHas_X (aS outs) (envL ins)):FunOk PP W n_l_FnAddHas mM ins outs:=aQ (C:=rP) (aP rfl) (bB rfl rfl) mixed Tryz.func6 (by kernel_rfl) (by kernel_rfl) CE h

end
section
open Classical
variable {W:Wld}

theorem pV (n lo hi:Int):FunOk PP W cX cA [i64 n,i64 lo,i64 hi] [bo (decide (lo≤n∧n≤hi))]:=by
 refine Mz (kZ ?_)
 (repeat' first
  | (refine gV (fun h=>?_) (fun h=>?_)<;>(try simp (disch:=omega) only [zB,eqDs,bM,Nat.reduceAdd,aA] at h)<;>(try (exfalso;omega)))
  | (refine Need.mk (by (try simp (disch:=omega) only [zB,eqDs,bM,Nat.reduceAdd,aA]);first | exact gL (by omega) (by omega) (fun _=>rfl) | exact gM (by omega) (by omega) (fun _=>rfl) | exact oL (by omega) (by omega) (by omega) rfl | exact oM (by omega) (fun _=>rfl) | exact dB (by omega) (fun _=>rfl) (fun _=>rfl) | exact dC (by omega) (fun _=>rfl) rfl rfl | exact gB (by omega) (fun _=>rfl) (fun _=>rfl)) ?_)
  | (refine Need.mk ?_ ?_)
  | refine rb ?_
  | refine ri ?_
  | refine bV ?_ ?_
  | refine cE ?_)
 ·simp_all
 ·exact fD (by omega)

theorem Db (n lo hi:Int):FunOk PP W lB hU [i64 n,i64 lo,i64 hi] [bo (decide (lo≤n∧n≤hi))]:=by
 refine RR (kZ ?_)
 (repeat' first
  | (refine gV (fun h=>?_) (fun h=>?_)<;>(try simp (disch:=omega) only [zB,eqDs,bM,Nat.reduceAdd,aA] at h)<;>(try (exfalso;omega)))
  | (refine Need.mk (by (try simp (disch:=omega) only [zB,eqDs,bM,Nat.reduceAdd,aA]);first | exact gL (by omega) (by omega) (fun _=>rfl) | exact gM (by omega) (by omega) (fun _=>rfl) | exact oL (by omega) (by omega) (by omega) rfl | exact oM (by omega) (fun _=>rfl) | exact dB (by omega) (fun _=>rfl) (fun _=>rfl) | exact dC (by omega) (fun _=>rfl) rfl rfl | exact gB (by omega) (fun _=>rfl) (fun _=>rfl)) ?_)
  | (refine Need.mk ?_ ?_)
  | refine rb ?_
  | refine ri ?_
  | refine bV ?_ ?_
  | refine cE ?_)
 ·simp_all
 ·exact fD (by omega)

theorem xM (n:Int):FunOk PP W mL fS [i64 n] [bo (decide (1≤n∧n≤4))]:=by
 refine IO (kZ ?_)
 (repeat' first
  | (refine gV (fun h=>?_) (fun h=>?_)<;>(try simp (disch:=omega) only [zB,eqDs,bM,Nat.reduceAdd,aA] at h)<;>(try (exfalso;omega)))
  | (refine Need.mk (by (try simp (disch:=omega) only [zB,eqDs,bM,Nat.reduceAdd,aA]);first | exact gL (by omega) (by omega) (fun _=>rfl) | exact gM (by omega) (by omega) (fun _=>rfl) | exact oL (by omega) (by omega) (by omega) rfl | exact oM (by omega) (fun _=>rfl) | exact dB (by omega) (fun _=>rfl) (fun _=>rfl) | exact dC (by omega) (fun _=>rfl) rfl rfl | exact gB (by omega) (fun _=>rfl) (fun _=>rfl)) ?_)
  | (refine nC (Db ..) rfl ?_)
  | (refine Need.mk ?_ ?_)
  | refine rb ?_
  | refine ri ?_
  | refine bV ?_ ?_
  | refine cE ?_)
 rfl
theorem CG (n:Int):FunOk PP W oO iN [i64 n] [bo (decide (1≤n∧n≤5))]:=by
 refine Kh (kZ ?_)
 (repeat' first
  | (refine gV (fun h=>?_) (fun h=>?_)<;>(try simp (disch:=omega) only [zB,eqDs,bM,Nat.reduceAdd,aA] at h)<;>(try (exfalso;omega)))
  | (refine Need.mk (by (try simp (disch:=omega) only [zB,eqDs,bM,Nat.reduceAdd,aA]);first | exact gL (by omega) (by omega) (fun _=>rfl) | exact gM (by omega) (by omega) (fun _=>rfl) | exact oL (by omega) (by omega) (by omega) rfl | exact oM (by omega) (fun _=>rfl) | exact dB (by omega) (fun _=>rfl) (fun _=>rfl) | exact dC (by omega) (fun _=>rfl) rfl rfl | exact gB (by omega) (fun _=>rfl) (fun _=>rfl)) ?_)
  | (refine nC (Db ..) rfl ?_)
  | (refine Need.mk ?_ ?_)
  | refine rb ?_
  | refine ri ?_
  | refine bV ?_ ?_
  | refine cE ?_)
 rfl

def jZ (fs:List P2)(i:Int):Prop:=(0≤(ix fs i).a∧(ix fs i).a≤5)∧(0≤(ix fs i).b∧(ix fs i).b≤9)∧(0<i→(ix fs (i - 1)).a<(ix fs i).a)
def vQ (fs:List P2):Prop:=uD fs.length (jZ fs)∧(fs.length:Int)≤2
def mO (name:Int)(fs:List P2)(i:Int):Prop:=(1≤(ix fs i).a∧(ix fs i).a≤4)∧(ix fs i).a≠name∧(1≤(ix fs i).b∧(ix fs i).b≤5)∧(0<i→(ix fs (i - 1)).a<(ix fs i).a)
def Eo (name:Int)(fs:List P2):Prop:=uD fs.length (mO name fs)∧(fs.length:Int)≤2
def PkOk (p:Pk):Prop:=(1≤p.name∧p.name≤4)∧(1≤p.ver∧p.ver≤5)∧vQ p.files∧Eo p.name p.deps
def SmP (p:Pk):Prop:=p.files.length≤lim∧p.deps.length≤lim

theorem IV (fs:List P2)(hl:fs.length≤lim):FunOk PP W rJ iO [CZ fs] [bo (decide (vQ fs))]:=by
 refine Gl (kZ ?_)
 unfold lim at hl
 refine AR (fun i:Int=>0≤i∧i≤fs.length∧uD i (jZ fs)) (fun i=>[(3,i64 i),(0,CZ fs)]) (fun i=>(fs.length - i).toNat) 0 ⟨by omega,by omega,cO _⟩ ⟨rfl,rfl,trivial⟩ ?_
 rintro i e ⟨h0,hN,hP⟩
 (repeat' first
  | (refine gV (fun h=>?_) (fun h=>?_)<;>(try simp (disch:=omega) only [zB,eqDs,bM,Nat.reduceAdd,aA] at h)<;>(try (exfalso;omega)))
  | (refine Need.mk (by (try simp (disch:=omega) only [zB,eqDs,bM,Nat.reduceAdd,aA]);first | exact gL (by omega) (by omega) (fun _=>rfl) | exact gM (by omega) (by omega) (fun _=>rfl) | exact oL (by omega) (by omega) (by omega) rfl | exact oM (by omega) (fun _=>rfl) | exact dB (by omega) (fun _=>rfl) (fun _=>rfl) | exact dC (by omega) (fun _=>rfl) rfl rfl | exact gB (by omega) (fun _=>rfl) (fun _=>rfl)) ?_)
  | (refine nC (pV ..) rfl ?_)
  | (refine Exists.intro (i+1) ⟨by omega,⟨by omega,by omega,cP hP ?_⟩,aY (aA _ (by omega)),rfl,trivial⟩)
  | (refine Need.mk ?_ ?_)
  | refine rb ?_
  | refine ri ?_
  | refine bV ?_ ?_
  | refine cE ?_)
 ·exact fD (fun ⟨h,_⟩=>by have:=h i (by omega) (by omega);unfold jZ at this;omega)
 ·exact fD (fun ⟨h,_⟩=>by have:=h i (by omega) (by omega);unfold jZ at this;omega)
 ·exact fD (fun ⟨h,_⟩=>by have:=h i (by omega) (by omega);unfold jZ at this;omega)
 ·unfold jZ;omega
 ·unfold jZ;omega
 ·simp only [List.length_map]
  congr 1
  simp only [vQ,eq_iff_iff]
  exact ⟨fun h1=>⟨gQ hP (by omega),h1⟩,fun h=>h.2⟩

theorem Ko (name:Int)(fs:List P2)(hl:fs.length≤lim):FunOk PP W tW jY [i64 name,CZ fs] [bo (decide (Eo name fs))]:=by
 refine IU (kZ ?_)
 unfold lim at hl
 refine AR (fun i:Int=>0≤i∧i≤fs.length∧uD i (mO name fs)) (fun i=>[(5,i64 i),(1,CZ fs),(0,i64 name)]) (fun i=>(fs.length - i).toNat) 0 ⟨by omega,by omega,cO _⟩ ⟨rfl,rfl,rfl,trivial⟩ ?_
 rintro i e ⟨h0,hN,hP⟩
 (repeat' first
  | (refine gV (fun h=>?_) (fun h=>?_)<;>(try simp (disch:=omega) only [zB,eqDs,bM,Nat.reduceAdd,aA] at h)<;>(try (exfalso;omega)))
  | (refine Need.mk (by (try simp (disch:=omega) only [zB,eqDs,bM,Nat.reduceAdd,aA]);first | exact gL (by omega) (by omega) (fun _=>rfl) | exact gM (by omega) (by omega) (fun _=>rfl) | exact oL (by omega) (by omega) (by omega) rfl | exact oM (by omega) (fun _=>rfl) | exact dB (by omega) (fun _=>rfl) (fun _=>rfl) | exact dC (by omega) (fun _=>rfl) rfl rfl | exact gB (by omega) (fun _=>rfl) (fun _=>rfl)) ?_)
  | (refine nC (pV ..) rfl ?_)
  | (refine Exists.intro (i+1) ⟨by omega,⟨by omega,by omega,cP hP ?_⟩,aY (aA _ (by omega)),rfl,rfl,trivial⟩)
  | (refine Need.mk ?_ ?_)
  | refine rb ?_
  | refine ri ?_
  | refine bV ?_ ?_
  | refine cE ?_)
 ·exact fD (fun ⟨h,_⟩=>by have:=h i (by omega) (by omega);unfold mO at this;omega)
 ·exact fD (fun ⟨h,_⟩=>by have:=h i (by omega) (by omega);unfold mO at this;omega)
 ·exact fD (fun ⟨h,_⟩=>by have:=h i (by omega) (by omega);unfold mO at this;omega)
 ·exact fD (fun ⟨h,_⟩=>by have:=h i (by omega) (by omega);unfold mO at this;omega)
 ·unfold mO;omega
 ·unfold mO;omega
 ·simp only [List.length_map]
  congr 1
  simp only [Eo,eq_iff_iff]
  exact ⟨fun h1=>⟨gQ hP (by omega),h1⟩,fun h=>h.2⟩

theorem Dc (p:Pk)(hs:SmP p):FunOk PP W sF jU [ePk p] [bo (decide (PkOk p))]:=by
 refine Kd (kZ ?_)
 (repeat' first
  | (refine gV (fun h=>?_) (fun h=>?_)<;>(try simp (disch:=omega) only [zB,eqDs,bM,Nat.reduceAdd,aA] at h)<;>(try (exfalso;omega)))
  | (refine Need.mk (by (try simp (disch:=omega) only [zB,eqDs,bM,Nat.reduceAdd,aA]);first | exact gL (by omega) (by omega) (fun _=>rfl) | exact gM (by omega) (by omega) (fun _=>rfl) | exact oL (by omega) (by omega) (by omega) rfl | exact oM (by omega) (fun _=>rfl) | exact dB (by omega) (fun _=>rfl) (fun _=>rfl) | exact dC (by omega) (fun _=>rfl) rfl rfl | exact gB (by omega) (fun _=>rfl) (fun _=>rfl)) ?_)
  | (refine nC (pV ..) rfl ?_)
  | (refine nC (IV p.files hs.1) rfl ?_)
  | (refine nC (Ko p.name p.deps hs.2) rfl ?_)
  | (refine Need.mk ?_ ?_)
  | refine rb ?_
  | refine ri ?_
  | refine bV ?_ ?_
  | refine cE ?_)
 ·congr 1
  simp only [PkOk,eq_iff_iff]
  exact ⟨fun h=>⟨by assumption,by assumption,by assumption,h⟩,fun h=>h.2.2.2⟩
 ·exact fD (fun h=>absurd h.2.2.1 (by assumption))
 ·exact fD (fun h=>absurd h.2.1 (by assumption))
 ·exact fD (fun h=>absurd h.1 (by assumption))

end
section
open Classical
variable {W:Wld}

theorem sH (n v m w:Int):FunOk PP W jK eL [i64 n,i64 v,i64 m,i64 w] [bo (decide (n<m∨(n=m∧v<w)))]:=by
 refine IK (kZ ?_)
 (repeat' first
  | (refine gV (fun h=>?_) (fun h=>?_)<;>(try simp (disch:=omega) only [zB,eqDs,bM,Nat.reduceAdd,aA] at h)<;>(try (exfalso;omega)))
  | (refine Need.mk (by (try simp (disch:=omega) only [zB,eqDs,bM,Nat.reduceAdd,aA]);first | exact gL (by omega) (by omega) (fun _=>rfl) | exact gM (by omega) (by omega) (fun _=>rfl) | exact oL (by omega) (by omega) (by omega) rfl | exact oM (by omega) (fun _=>rfl) | exact dB (by omega) (fun _=>rfl) (fun _=>rfl) | exact dC (by omega) (fun _=>rfl) rfl rfl | exact gB (by omega) (fun _=>rfl) (fun _=>rfl)) ?_)
  | (refine Need.mk ?_ ?_)
  | refine rb ?_
  | refine ri ?_
  | refine bV ?_ ?_
  | refine cE ?_)
 all_goals simp_all

def bH (p q:Pk):Prop:=p.name<q.name∨(p.name=q.name∧p.ver<q.ver)
def RT (ps:List Pk)(i:Int):Prop:=PkOk (ix ps i)∧(0<i→bH (ix ps (i - 1)) (ix ps i))
def jC (ps:List Pk):Prop:=uD ps.length (RT ps)
def kV (ps:List Pk):Prop:=ps.length≤lim∧∀ p∈ps,SmP p
theorem nL {ps:List Pk}(h:kV ps){i:Int}(h0:0≤i)(h1:i<ps.length):SmP (ix ps i):=h.2 _ (jI h0 h1)

theorem Dd (ps:List Pk)(hs:kV ps):FunOk PP W pR hO [bN ps] [bo (decide (jC ps))]:=by
 refine IC (kZ ?_)
 have hl:=hs.1
 unfold lim at hl
 refine AR (fun i:Int=>0≤i∧i≤ps.length∧uD i (RT ps)) (fun i=>[(3,i64 i),(0,bN ps)]) (fun i=>(ps.length - i).toNat) 0 ⟨by omega,by omega,cO _⟩ ⟨rfl,rfl,trivial⟩ ?_
 rintro i e ⟨h0,hN,hP⟩
 (repeat' first
  | (refine gV (fun h=>?_) (fun h=>?_)<;>(try simp (disch:=omega) only [zB,eqDs,bM,Nat.reduceAdd,aA] at h)<;>(try (exfalso;omega)))
  | (refine Need.mk (by (try simp (disch:=omega) only [zB,eqDs,bM,Nat.reduceAdd,aA]);first | exact gL (by omega) (by omega) (fun _=>rfl) | exact gM (by omega) (by omega) (fun _=>rfl) | exact oL (by omega) (by omega) (by omega) rfl | exact oM (by omega) (fun _=>rfl) | exact dB (by omega) (fun _=>rfl) (fun _=>rfl) | exact dC (by omega) (fun _=>rfl) rfl rfl | exact gB (by omega) (fun _=>rfl) (fun _=>rfl)) ?_)
  | (refine Bb (Dc (ix ps i) (nL hs (by omega) (by omega))) (by simp (disch:=omega) only [zB,eqDs,bM,Nat.reduceAdd,aA]) rfl ?_)
  | (refine Bb (sH (ix ps (i - 1)).name (ix ps (i - 1)).ver (ix ps i).name (ix ps i).ver) (by simp (disch:=omega) only [zB,eqDs,bM,Nat.reduceAdd,aA]) rfl ?_)
  | (refine Exists.intro (i+1) ⟨by omega,⟨by omega,by omega,cP hP ?_⟩,aY (aA _ (by omega)),rfl,trivial⟩)
  | (refine Need.mk ?_ ?_)
  | refine rb ?_
  | refine ri ?_
  | refine bV ?_ ?_
  | refine cE ?_)
 ·exact fD (fun h=>absurd (h i (by omega) (by omega)).1 (by assumption))
 ·exact fD (fun h=>absurd ((h i (by omega) (by omega)).2 (by assumption)) (by assumption))
 ·exact ⟨by assumption,fun _=>by assumption⟩
 ·exact ⟨by assumption,fun h=>absurd h (by assumption)⟩
 ·exact tD (gQ hP (by omega))

theorem nM (ps:List Pk)(hs:kV ps):FunOk PP W nE fO [bN ps] [bo (decide (jC ps))]:=by
 refine GR (kZ ?_)
 (repeat' first
  | (refine gV (fun h=>?_) (fun h=>?_)<;>(try simp (disch:=omega) only [zB,eqDs,bM,Nat.reduceAdd,aA] at h)<;>(try (exfalso;omega)))
  | (refine Need.mk (by (try simp (disch:=omega) only [zB,eqDs,bM,Nat.reduceAdd,aA]);first | exact gL (by omega) (by omega) (fun _=>rfl) | exact gM (by omega) (by omega) (fun _=>rfl) | exact oL (by omega) (by omega) (by omega) rfl | exact oM (by omega) (fun _=>rfl) | exact dB (by omega) (fun _=>rfl) (fun _=>rfl) | exact dC (by omega) (fun _=>rfl) rfl rfl | exact gB (by omega) (fun _=>rfl) (fun _=>rfl)) ?_)
  | (refine nC (Dd ps hs) rfl ?_)
  | (refine Need.mk ?_ ?_)
  | refine rb ?_
  | refine ri ?_
  | refine bV ?_ ?_
  | refine cE ?_)
 rfl
end
section
open Classical
variable {W:Wld}

theorem Cc (p:Pk)(hs:SmP p):FunOk PP W mK dZ [ePk p] [ePk p]:=by
 refine Bl (kZ ?_)
 obtain ⟨h1,h2⟩:=hs
 unfold lim at h1 h2
 (repeat' first
  | (refine gV (fun h=>?_) (fun h=>?_)<;>(try simp (disch:=omega) only [zB,eqDs,bM,Nat.reduceAdd,aA] at h)<;>(try (exfalso;omega)))
  | (refine Need.mk (by (try simp (disch:=omega) only [zB,eqDs,bM,Nat.reduceAdd,aA]);first | exact gL (by omega) (by omega) (fun _=>rfl) | exact gM (by omega) (by omega) (fun _=>rfl) | exact oL (by omega) (by omega) (by omega) rfl | exact oM (by omega) (fun _=>rfl) | exact dB (by omega) (fun _=>rfl) (fun _=>rfl) | exact dC (by omega) (fun _=>rfl) rfl rfl | exact gB (by omega) (fun _=>rfl) (fun _=>rfl)) ?_)
  | (refine Need.mk ?_ ?_)
  | refine rb ?_
  | refine ri ?_
  | refine bV ?_ ?_
  | refine cE ?_)
 rfl

theorem IW (ps:List Pk)(hs:kV ps):FunOk PP W rF iI [bN ps] [bN ps]:=by
 refine GF (kZ ?_)
 have hl:=hs.1
 unfold lim at hl
 refine AR (fun i:Int=>0≤i∧i≤ps.length) (fun i=>[(4,i64 i),(0,bN ps),(3,bN (ps.take i.toNat))]) (fun i=>(ps.length - i).toNat) 0 ⟨by omega,by omega⟩ ⟨rfl,rfl,rfl,trivial⟩ ?_
 rintro i e ⟨h0,hN⟩
 have ht:(ps.take i.toNat).length≤i:=by rw [List.length_take];omega
 (repeat' first
  | (refine gV (fun h=>?_) (fun h=>?_)<;>(try simp (disch:=omega) only [zB,eqDs,bM,Nat.reduceAdd,aA] at h)<;>(try (exfalso;omega)))
  | (refine Need.mk (by (try simp (disch:=omega) only [zB,eqDs,bM,Nat.reduceAdd,aA]);first | exact gL (by omega) (by omega) (fun _=>rfl) | exact gM (by omega) (by omega) (fun _=>rfl) | exact oL (by omega) (by omega) (by omega) rfl | exact oM (by omega) (fun _=>rfl) | exact dB (by omega) (fun _=>rfl) (fun _=>rfl) | exact dC (by omega) (fun _=>rfl) rfl rfl | exact gB (by omega) (fun _=>rfl) (fun _=>rfl)) ?_)
  | (refine Bb (Cc (ix ps i) (nL hs (by omega) (by omega))) (by simp (disch:=omega) only [zB,eqDs,bM,Nat.reduceAdd,aA]) rfl ?_)
  | (refine Exists.intro (i+1) ⟨by omega,⟨by omega,by omega⟩,aY (aA _ (by omega)),rfl,?_,trivial⟩)
  | (refine Need.mk ?_ ?_)
  | refine rb ?_
  | refine ri ?_
  | refine bV ?_ ?_
  | refine cE ?_)
 ·refine mF ?_
  rw [iW ps h0 (by omega),List.map_append]
  rfl
 ·refine mF ?_
  rw [List.take_of_length_le (by omega)]

end
section
open Classical
variable {W:Wld}

theorem rQ {α:Type}[Inhabited α]{xs:List α}{x:α}(h:x∈xs):∃ i:Int,0≤i∧i<xs.length∧ix xs i=x:=by
 obtain ⟨n,hn,rfl⟩:=List.mem_iff_getElem.1 h
 exact ⟨n,by omega,by omega,by simp [ix,hn]⟩
end
section
variable {W:Wld}

theorem De {Φ:Ask}{α:Type}{enc:α→List D}(l:List α)(hl:l.length≤lim)(sz:Nat)(hz:∀ x,(enc x).length=sz)(hs:∀ x,(enc x).all iP=true)(z:List D):
  pwp Φ (.ss [.mv 2 (.c (.sl []))]) (fun x e=>x= .normal∧∃ e1 xs,bJ Φ (.mv 3 (.t 0)) e e1∧e1 3=[.sl xs]∧∀ b,(b=true→xs=[])→
   pwp Φ (.cond (.t 4) (.seq (.ss [.mv 2 (.c (.sl []))]) (.ret [2])) .skip) (PX.then (pwp Φ (.seq (.ss [.lit 5 0 z [],.mv 6 (.t 0),.app 7 sz true (.t 5) (.t 6),.mv 2 (.t 7)]) (.ret [2])) (aS [[.sl (l.map enc)]])) (aS [[.sl (l.map enc)]])) (put e1 4 [.bool b])) (envL [[.sl (l.map enc)]]):=by
 refine ⟨_,⟨_,rfl,rfl⟩,rfl,_,l.map enc,rfl,rfl,fun b hb=>?_⟩
 cases b with
 | true=>
  refine .inl ⟨rfl,_,⟨_,rfl,rfl⟩,?_⟩
  show ([[D.sl []]]:List (List D))=[[.sl (l.map enc)]]
  rw [hb rfl]
 | false=>
  have happ:∀ e:Env,e 5=[.sl []]→e 6=[.sl (l.map enc)]→pstep (.app 7 sz true (.t 5) (.t 6)) e=some (put e 7 [.sl (l.map enc)]):=fun e h5 h6=>by
   have h5':(Opd.t 5).get e=[.sl []]:=h5
   have h6':(Opd.t 6).get e=[.sl (l.map enc)]:=h6
   simp only [pstep,h5',h6',List.nil_append]
   refine if_pos ⟨by simpa using hl,fun x hx=>?_,fun _ y hy=>?_⟩
   ·obtain ⟨w,_,rfl⟩:=List.mem_map.1 hx
    exact hz w
   ·obtain ⟨w,_,rfl⟩:=List.mem_map.1 hy
    exact hs w
  exact .inr ⟨rfl,_,⟨_,rfl,_,rfl,_,happ _ rfl rfl,_,rfl,rfl⟩,rfl⟩

end
section
open Classical
variable {W:Wld}

theorem xN (p:Pk)(hs:SmP p):FunOk PP W sE jS [ePk p] [bo (decide (PkOk p))]:=by
 refine Kb (aU ?_)
 obtain ⟨hs1,hs2⟩:=hs
 unfold lim at hs1 hs2
 (repeat' first
  | (refine run_ite rfl (fun h=>?_) (fun h=>?_)<;>(try simp (disch:=omega) only [zB,eqDs,bM,Nat.reduceAdd,aA] at h)<;>(try (exfalso;omega)))
  | refine aI rfl ?_
  | refine aJ rfl ?_
  | refine aE rfl (xM ..) rfl ?_
  | refine aE rfl (CG ..) rfl ?_
  | refine aB rfl ?_ ?_
  | (refine aG rfl ?_;first | refine rb ?_ | refine ri ?_ | refine bV ?_ ?_ | refine cE ?_)
  | refine aD rfl ?_)
 ·exact fD (fun h=>by unfold PkOk at h;omega)
 ·exact fD (fun h=>by unfold PkOk at h;omega)
 ·exact fD (fun h=>by unfold PkOk vQ at h;omega)
 ·exact fD (fun h=>by unfold PkOk Eo at h;omega)
 rename_i q1 q2 q3
 have q4:=h
 clear h
 refine aX rfl (fun i:Int=>0≤i∧i≤p.files.length∧uD i (jZ p.files)) (fun i=>[(32,.val (i64 i)),(30,.val (CZ p.files)),(31,.val (i64 (p.files.map eP2).length)),(1,.val (ePk p))]) (fun i=>(p.files.length - i).toNat) 0 ⟨by omega,by omega,cO _⟩ ⟨rfl,rfl,rfl,rfl,trivial⟩ rfl ?_
 rintro i e ⟨h0,hN,hP⟩
 (repeat' first
  | (refine run_ite rfl (fun h=>?_) (fun h=>?_)<;>(try simp (disch:=omega) only [zB,eqDs,bM,Nat.reduceAdd,aA] at h)<;>(try (exfalso;omega)))
  | refine aI rfl ?_
  | refine aJ rfl ?_
  | refine aE rfl (Db ..) rfl ?_
  | (refine aR rfl (Exists.intro (i+1) ⟨by omega,⟨by omega,by omega,cP hP ?_⟩,aY (aA _ (by omega)),rfl,rfl,rfl,trivial⟩))
  | refine aB rfl ?_ ?_
  | (refine aG rfl ?_;first | refine rb ?_ | refine ri ?_ | refine bV ?_ ?_ | refine cE ?_)
  | refine aD rfl ?_)
 ·exact fD (fun ⟨_,_,⟨h,_⟩,_⟩=>by have:=h i (by omega) (by omega);unfold jZ at this;omega)
 ·exact fD (fun ⟨_,_,⟨h,_⟩,_⟩=>by have:=h i (by omega) (by omega);unfold jZ at this;omega)
 ·exact fD (fun ⟨_,_,⟨h,_⟩,_⟩=>by have:=h i (by omega) (by omega);unfold jZ at this;omega)
 ·unfold jZ;omega
 ·unfold jZ;omega
 have hF:vQ p.files:=⟨gQ hP (by omega),by omega⟩
 clear hP h0 hN
 refine aX rfl (fun i:Int=>0≤i∧i≤p.deps.length∧uD i (mO p.name p.deps)) (fun i=>[(67,.val (i64 i)),(65,.val (CZ p.deps)),(66,.val (i64 (p.deps.map eP2).length)),(1,.val (ePk p))]) (fun i=>(p.deps.length - i).toNat) 0 ⟨by omega,by omega,cO _⟩ ⟨rfl,rfl,rfl,rfl,trivial⟩ rfl ?_
 rintro i e ⟨h0,hN,hP⟩
 (repeat' first
  | (refine run_ite rfl (fun h=>?_) (fun h=>?_)<;>(try simp (disch:=omega) only [zB,eqDs,bM,Nat.reduceAdd,aA] at h)<;>(try (exfalso;omega)))
  | refine aI rfl ?_
  | refine aJ rfl ?_
  | refine aE rfl (xM ..) rfl ?_
  | refine aE rfl (CG ..) rfl ?_
  | (refine aR rfl (Exists.intro (i+1) ⟨by omega,⟨by omega,by omega,cP hP ?_⟩,aY (aA _ (by omega)),rfl,rfl,rfl,trivial⟩))
  | refine aB rfl ?_ ?_
  | (refine aG rfl ?_;first | refine rb ?_ | refine ri ?_ | refine bV ?_ ?_ | refine cE ?_)
  | refine aD rfl ?_)
 ·exact fD (fun ⟨_,_,_,h,_⟩=>by have:=h i (by omega) (by omega);unfold mO at this;omega)
 ·exact fD (fun ⟨_,_,_,h,_⟩=>by have:=h i (by omega) (by omega);unfold mO at this;omega)
 ·exact fD (fun ⟨_,_,_,h,_⟩=>by have:=h i (by omega) (by omega);unfold mO at this;omega)
 ·exact fD (fun ⟨_,_,_,h,_⟩=>by have:=h i (by omega) (by omega);unfold mO at this;omega)
 ·unfold mO;omega
 ·unfold mO;omega
 ·exact tD ⟨q1,q2,hF,gQ hP (by omega),by omega⟩

end
section
open Classical
variable {W:Wld}

theorem NB {p q:P2}(h1:p.a=q.a)(h2:p.b=q.b):p=q:=by cases p;cases q;simp_all
theorem RU {p q:Pk}(h1:p.name=q.name)(h2:p.ver=q.ver)(h3:p.files=q.files)(h4:p.deps=q.deps):p=q:=by cases p;cases q;simp_all

theorem Gm (p q:Pk)(hs:SmP p):FunOk PP W sD jP [ePk p,ePk q] [bo (decide (p=q))]:=by
 refine KZ (aU ?_)
 obtain ⟨hs1,hs2⟩:=hs
 unfold lim at hs1 hs2
 (repeat' first
  | (refine run_ite rfl (fun h=>?_) (fun h=>?_)<;>(try simp (disch:=omega) only [zB,eqDs,bM,Nat.reduceAdd,aA] at h)<;>(try (exfalso;omega)))
  | refine aI rfl ?_
  | refine aJ rfl ?_
  | refine aB rfl ?_ ?_
  | (refine aG rfl ?_;first | refine rb ?_ | refine ri ?_ | refine bV ?_ ?_ | refine cE ?_)
  | refine aD rfl ?_)
 ·exact fD (fun h'=>by simp_all)
 ·exact fD (fun h'=>by simp_all)
 ·exact fD (fun h'=>by simp_all)
 ·exact fD (fun h'=>by simp_all)
 rename_i q1 q2 q3
 have q4:=h
 clear h
 refine aX rfl (fun i:Int=>0≤i∧i≤p.files.length∧uD i (fun j=>ix p.files j=ix q.files j)) (fun i=>[(5,.val (i64 i)),(2,.val (ePk p)),(3,.val (ePk q))]) (fun i=>(p.files.length - i).toNat) 0 ⟨by omega,by omega,cO _⟩ ⟨rfl,rfl,rfl,trivial⟩ rfl ?_
 rintro i e ⟨h0,hN,hP⟩
 (repeat' first
  | (refine run_ite rfl (fun h=>?_) (fun h=>?_)<;>(try simp (disch:=omega) only [zB,eqDs,bM,Nat.reduceAdd,aA] at h)<;>(try (exfalso;omega)))
  | refine aI rfl ?_
  | refine aJ rfl ?_
  | (refine aR rfl (Exists.intro (i+1) ⟨by omega,⟨by omega,by omega,cP hP ?_⟩,aY (aA _ (by omega)),rfl,rfl,trivial⟩))
  | refine aB rfl ?_ ?_
  | (refine aG rfl ?_;first | refine rb ?_ | refine ri ?_ | refine bV ?_ ?_ | refine cE ?_)
  | refine aD rfl ?_)
 ·exact fD (fun h'=>by subst h';exact h rfl rfl)
 ·exact NB h.1 h.2
 have q5:p.files=q.files:=EU (by omega) (gQ hP (by omega))
 clear hP h0 hN h
 refine aX rfl (fun i:Int=>0≤i∧i≤p.deps.length∧uD i (fun j=>ix p.deps j=ix q.deps j)) (fun i=>[(6,.val (i64 i)),(2,.val (ePk p)),(3,.val (ePk q))]) (fun i=>(p.deps.length - i).toNat) 0 ⟨by omega,by omega,cO _⟩ ⟨rfl,rfl,rfl,trivial⟩ rfl ?_
 rintro i e ⟨h0,hN,hP⟩
 (repeat' first
  | (refine run_ite rfl (fun h=>?_) (fun h=>?_)<;>(try simp (disch:=omega) only [zB,eqDs,bM,Nat.reduceAdd,aA] at h)<;>(try (exfalso;omega)))
  | refine aI rfl ?_
  | refine aJ rfl ?_
  | (refine aR rfl (Exists.intro (i+1) ⟨by omega,⟨by omega,by omega,cP hP ?_⟩,aY (aA _ (by omega)),rfl,rfl,trivial⟩))
  | refine aB rfl ?_ ?_
  | (refine aG rfl ?_;first | refine rb ?_ | refine ri ?_ | refine bV ?_ ?_ | refine cE ?_)
  | refine aD rfl ?_)
 ·exact fD (fun h'=>by subst h';exact h rfl rfl)
 ·exact NB h.1 h.2
 ·exact tD (RU q1 q2 q5 (EU (by omega) (gQ hP (by omega))))

theorem xO (a b:List Pk)(ha:kV a):FunOk PP W mH fM [bN a,bN b] [bo (decide (a=b))]:=by
 refine IA (aU ?_)
 have hl:=ha.1
 unfold lim at hl
 (repeat' first
  | (refine run_ite rfl (fun h=>?_) (fun h=>?_)<;>(try simp (disch:=omega) only [zB,eqDs,bM,Nat.reduceAdd,aA] at h)<;>(try (exfalso;omega)))
  | refine aI rfl ?_
  | refine aJ rfl ?_
  | refine aB rfl ?_ ?_
  | (refine aG rfl ?_;first | refine rb ?_ | refine ri ?_ | refine bV ?_ ?_ | refine cE ?_)
  | refine aD rfl ?_)
 ·exact fD (fun h'=>by simp_all)
 have hn:a.length=b.length:=by omega
 clear h
 refine aX rfl (fun i:Int=>0≤i∧i≤a.length∧uD i (fun j=>ix a j=ix b j)) (fun i=>[(5,.val (i64 i)),(0,.val (bN a)),(1,.val (bN b))]) (fun i=>(a.length - i).toNat) 0 ⟨by omega,by omega,cO _⟩ ⟨rfl,rfl,rfl,trivial⟩ rfl ?_
 rintro i e ⟨h0,hN,hP⟩
 (repeat' first
  | (refine run_ite rfl (fun h=>?_) (fun h=>?_)<;>(try simp (disch:=omega) only [zB,eqDs,bM,Nat.reduceAdd,aA] at h)<;>(try (exfalso;omega)))
  | refine aI rfl ?_
  | refine aJ rfl ?_
  | refine mG rfl (Gm (ix a i) (ix b i) (nL ha (by omega) (by omega))) rfl ?_
  | (refine aR rfl (Exists.intro (i+1) ⟨by omega,⟨by omega,by omega,cP hP (by assumption)⟩,aY (aA _ (by omega)),rfl,rfl,trivial⟩))
  | refine aB rfl ?_ ?_
  | (refine aG rfl ?_;first | refine rb ?_ | refine ri ?_ | refine bV ?_ ?_ | refine cE ?_)
  | refine aD rfl ?_)
 ·exact fD (fun h'=>by subst h';exact absurd rfl (by assumption))
 ·exact tD (EU hn (gQ hP (by omega)))

end
section
open Classical
variable {W:Wld}

theorem NC (a:Int):FunOk PP W gW cU [i64 a] [bo false]:=by
 refine AE (aU ?_)
 (repeat' first
  | (refine run_ite rfl (fun h=>?_) (fun h=>?_)<;>(try simp (disch:=omega) only [zB,eqDs,bM,Nat.reduceAdd,aA] at h)<;>(try (exfalso;omega)))
  | refine aI rfl ?_
  | refine aJ rfl ?_
  | refine aB rfl ?_ ?_
  | (refine aG rfl ?_;first | refine rb ?_ | refine ri ?_ | refine bV ?_ ?_ | refine cE ?_)
  | refine aD rfl ?_)
 simp

def oS (a b:Int):Int:=if a<b then -1 else if b<a then 1 else 0
theorem PQ (a b:Int):FunOk PP W eX cC [i64 a,i64 b] [i64 (oS a b)]:=by
 refine vO (aU ?_)
 (repeat' first
  | (refine run_ite rfl (fun h=>?_) (fun h=>?_)<;>(try simp (disch:=omega) only [zB,eqDs,bM,Nat.reduceAdd,aA] at h)<;>(try (exfalso;omega)))
  | refine aI rfl ?_
  | refine aJ rfl ?_
  | refine aE rfl (NC ..) rfl ?_
  | refine aB rfl ?_ ?_
  | (refine aG rfl ?_;first | refine rb ?_ | refine ri ?_ | refine bV ?_ ?_ | refine cE ?_)
  | refine aD rfl ?_)
 all_goals unfold oS
 all_goals (repeat' split)<;>omega

theorem ND (a b:Int):FunOk PP W pU gI [Mj [a,b]] [i64 (if a=0 then b else a)]:=by
 refine El (aU ?_)
 (repeat' first
  | (refine run_ite rfl (fun h=>?_) (fun h=>?_)<;>(try simp (disch:=omega) only [zB,eqDs,bM,Nat.reduceAdd,aA] at h)<;>(try (exfalso;omega)))
  | refine aI rfl ?_
  | refine aJ rfl ?_
  | refine aB rfl ?_ ?_
  | (refine aG rfl ?_;first | refine rb ?_ | refine ri ?_ | refine bV ?_ ?_ | refine cE ?_)
  | refine aD rfl ?_)
 refine aX rfl (fun i:Int=>0≤i∧i≤2∧(0<i→a=0)∧(1<i→b=0)) (fun i=>[(8,.val (i64 i)),(6,.val (Mj [a,b])),(7,.val (i64 2)),(3,.val (i64 0))]) (fun i=>(2 - i).toNat) 0 ⟨by omega,by omega,by omega,by omega⟩ ⟨rfl,rfl,rfl,rfl,trivial⟩ rfl ?_
 rintro i e ⟨h0,hN,hP1,hP2⟩
 (repeat' first
  | (refine run_ite rfl (fun h=>?_) (fun h=>?_)<;>(try simp (disch:=omega) only [zB,eqDs,bM,Nat.reduceAdd,aA] at h)<;>(try (exfalso;omega)))
  | refine aI rfl ?_
  | refine aJ rfl ?_
  | (refine aR rfl (Exists.intro (i+1) ⟨by omega,⟨by omega,by omega,?_,?_⟩,aY (aA _ (by omega)),rfl,rfl,rfl,trivial⟩))
  | refine aB rfl ?_ ?_
  | (refine aG rfl ?_;first | refine rb ?_ | refine ri ?_ | refine bV ?_ ?_ | refine cE ?_)
  | refine aD rfl ?_)
 ·rw [SO]
  have hi:i=0∨i=1:=by omega
  rcases hi with rfl | rfl<;>simp_all [ix]
 ·intro _
  have hi:i=0∨i=1:=by omega
  rcases hi with rfl | rfl<;>simp_all [ix]
 ·intro _
  have hi:i=1:=by omega
  subst hi
  simp_all [ix]
 ·rw [if_pos (hP1 (by omega)),hP2 (by omega)]

theorem tZ (p q:Pk):FunOk PP W cG cH [ePk p,ePk q] [i64 (if oS p.name q.name=0 then oS p.ver q.ver else oS p.name q.name)]:=by
 refine zY (aU ?_)
 (repeat' first
  | (refine run_ite rfl (fun h=>?_) (fun h=>?_)<;>(try simp (disch:=omega) only [zB,eqDs,bM,Nat.reduceAdd,aA] at h)<;>(try (exfalso;omega)))
  | refine aI rfl ?_
  | refine aJ rfl ?_
  | refine aE rfl (PQ ..) rfl ?_
  | refine aE rfl (ND ..) rfl ?_
  | refine aB rfl ?_ ?_
  | (refine aG rfl ?_;first | refine rb ?_ | refine ri ?_ | refine bV ?_ ?_ | refine cE ?_)
  | refine aD rfl ?_)
 rfl
theorem vR (p q:Pk):¬0≤(if oS p.name q.name=0 then oS p.ver q.ver else oS p.name q.name)↔bH p q:=by
 unfold oS bH
 (repeat' split)<;>omega

theorem kW (ps:List Pk)(hs:kV ps):FunOk PP W nF fP [bN ps] [bo (decide (jC ps))]:=by
 refine GU (aU ?_)
 have hl:=hs.1
 unfold lim at hl
 refine aX rfl (fun i:Int=>0≤i∧i≤ps.length∧uD i (RT ps)) (fun i=>[(7,.val (i64 i)),(0,.val (bN ps)),(5,.val (bN ps)),(6,.val (i64 (ps.map ePk).length))]) (fun i=>(ps.length - i).toNat) 0 ⟨by omega,by omega,cO _⟩ ⟨rfl,rfl,rfl,rfl,trivial⟩ rfl ?_
 rintro i e ⟨h0,hN,hP⟩
 (repeat' first
  | (refine run_ite rfl (fun h=>?_) (fun h=>?_)<;>(try simp (disch:=omega) only [zB,eqDs,bM,Nat.reduceAdd,aA] at h)<;>(try (exfalso;omega)))
  | refine aI rfl ?_
  | refine aJ rfl ?_
  | refine mG rfl (xN (ix ps i) (nL hs (by omega) (by omega))) rfl ?_
  | refine mG rfl (tZ (ix ps (i - 1)) (ix ps i)) rfl ?_
  | (refine aR rfl (Exists.intro (i+1) ⟨by omega,⟨by omega,by omega,cP hP ?_⟩,aY (aA _ (by omega)),rfl,rfl,rfl,trivial⟩))
  | refine aB rfl ?_ ?_
  | (refine aG rfl ?_;first | refine rb ?_ | refine ri ?_ | refine bV ?_ ?_ | refine cE ?_)
  | refine aD rfl ?_)
 ·exact fD (fun h'=>absurd (h' i (by omega) (by omega)).1 (by assumption))
 ·exact fD (fun h'=>(vR _ _).2 ((h' i (by omega) (by omega)).2 (by assumption)) h)
 ·exact ⟨by assumption,fun _=>(vR _ _).1 h⟩
 ·exact ⟨by assumption,fun h'=>absurd h' (by assumption)⟩
 ·exact tD (gQ hP (by omega))
end
section
open Classical
variable {W:Wld}

noncomputable def oT {α:Type}[Inhabited α](P:α→Prop)(xs:List α):Nat→Int→Int
 | 0,_=> -1
 | n+1,i=>if P (ix xs i) then i else oT P xs n (i+1)

theorem Gn {α:Type}[Inhabited α](P:α→Prop)(xs:List α):∀ (n:Nat) (i:Int),0≤i→(0≤oT P xs n i↔∃ j,i≤j∧j<i+n∧P (ix xs j))
 | 0,i,h0=>by
  unfold oT
  constructor
  ·intro h;omega
  ·rintro ⟨j,h1,h2,_⟩;omega
 | n+1,i,h0=>by
  unfold oT
  by_cases hp:P (ix xs i)
  ·rw [if_pos hp]
   exact ⟨fun _=>⟨i,by omega,by omega,hp⟩,fun _=>h0⟩
  ·rw [if_neg hp,Gn P xs n (i+1) (by omega)]
   constructor
   ·rintro ⟨j,h1,h2,h3⟩;exact ⟨j,by omega,by omega,h3⟩
   ·rintro ⟨j,h1,h2,h3⟩
    by_cases hj:j=i
    ·subst hj;exact absurd h3 hp
    ·exact ⟨j,by omega,by omega,h3⟩
theorem Gp {α:Type}[Inhabited α](P:α→Prop)(xs:List α):0≤oT P xs xs.length 0↔∃ x∈xs,P x:=by
 rw [Gn P xs xs.length 0 (by omega)]
 constructor
 ·rintro ⟨j,h1,h2,h3⟩;exact ⟨_,jI h1 (by omega),h3⟩
 ·rintro ⟨x,hx,h⟩
  obtain ⟨j,h1,h2,rfl⟩:=rQ hx
  exact ⟨j,h1,by omega,h⟩

end
section
open Classical
variable {W:Wld}

theorem dI {p:Prop}[Decidable p]{b:Bool}(h:b=true↔p):b=decide p:=by
 by_cases hp:p<;>simp_all
end
section
open Classical
variable {W:Wld}

abbrev eT (b:List Int)(p:Int):List D:=[.sl (b.map eU),.int .i64 p]
def Kp (b:List Int):Prop:=b.length≤2000∧∀ x∈b,0≤x∧x≤255
theorem RV {b:List Int}(h:Kp b)(i:Int):0≤ix b i∧ix b i≤255:=by
 by_cases hi:i.toNat<b.length
 ·refine h.2 _ ?_
  simp [ix,hi]
 ·rw [dK hi]
  exact ⟨Int.le_refl _,by decide⟩
theorem IX {b:List Int}(h:Kp b)(i:Int):0≤cI (b.map eU) i 0∧cI (b.map eU) i 0≤255:=by rw [SP];exact RV h i

theorem Jf {k l:Int}(hk:0≤k)(hl:1≤l):0≤k.tdiv l∧k.tdiv l≤k:=by
 rw [Int.tdiv_eq_ediv_of_nonneg hk]
 exact ⟨Int.ediv_nonneg hk (by omega),Int.ediv_le_self _ hk⟩
theorem RW {x y k l:Int}(hx:0≤x∧x≤255)(hy:0≤y∧y≤255)(hk:0≤k∧k<1000000000)(hl:1≤l):
  0≤IntKind.i64.wrap (IntKind.i64.wrap (IntKind.i64.wrap (IntKind.i64.wrap (IntKind.i64.wrap x*131)+IntKind.i64.wrap (IntKind.i64.wrap y*1117))+IntKind.i64.wrap (k*29))+IntKind.i64.wrap (IntKind.i64.wrap (k.tdiv l)*53))∧
  IntKind.i64.wrap (IntKind.i64.wrap (IntKind.i64.wrap (IntKind.i64.wrap (IntKind.i64.wrap x*131)+IntKind.i64.wrap (IntKind.i64.wrap y*1117))+IntKind.i64.wrap (k*29))+IntKind.i64.wrap (IntKind.i64.wrap (k.tdiv l)*53))<4611686018427387904:=by
 have hd:=Jf hk.1 hl
 simp (disch:=omega) only [aA]
 omega
theorem PR {x:Int}(h:0≤x∧x<4611686018427387904):0≤IntKind.i64.wrap (x.tdiv 64)∧IntKind.i64.wrap (x.tdiv 64)<4611686018427387904:=by
 have hd:=Jf (l:=64) h.1 (by decide)
 rw [aA _ (by omega)]
 omega
theorem RX {a b:Int}(ha:0≤a∧a<4611686018427387904)(hb:0≤b∧b<4611686018427387904):0≤IntKind.i64.wrap ↑(BitVec.ofInt IntKind.i64.bits a^^^BitVec.ofInt IntKind.i64.bits b).toNat:=by
 have hbits:IntKind.i64.bits=64:=rfl
 have key:∀ c d:Nat,c<2^62→d<2^62→c^^^d<2^62:=fun c d h1 h2=>Nat.xor_lt_two_pow h1 h2
 have e1:(BitVec.ofInt 64 a).toNat=a.toNat:=by rw [BitVec.toNat_ofInt];omega
 have e2:(BitVec.ofInt 64 b).toNat=b.toNat:=by rw [BitVec.toNat_ofInt];omega
 have h:=key a.toNat b.toNat (by omega) (by omega)
 show 0≤IntKind.i64.wrap ↑(BitVec.ofInt 64 a^^^BitVec.ofInt 64 b).toNat
 rw [BitVec.toNat_xor,e1,e2,aA _ (by omega)]
 omega

theorem eN (b:List Int)(hb:Kp b)(p n:Int)(hp:0≤p∧p<1000000000)(hn:0≤n∧n<1000000000):∃ outs,(∃ v:Int,outs=[i64 v,eT b (p+1)]∧0≤v∧(v<n∨v=0))∧FunOk PP W aH aF [eT b p,i64 n] outs:=by
 have hp1:IntKind.i64.wrap (p+1)=p+1:=aA _ (by omega)
 have hp2:IntKind.i64.wrap (IntKind.i64.wrap (p+1) - 1)=p:=by rw [hp1,aA _ (by omega)];omega
 have hr:∀ x:Int,([D.sl (b.map eU),D.int .i64 (IntKind.i64.wrap (p+1))]:List D)=eT b (p+1):=fun _=>by rw [hp1]
 obtain ⟨outs,h1,h2⟩:=dY (Φ:=FunOk PP W) (p:=p_s_l6Rd_pick) (ins:=[eT b p,i64 n]) (G:=fun outs=>∃ v:Int,outs=[i64 v,eT b (p+1)]∧0≤v∧(v<n∨v=0)) (by
  have hb1:=hb.1
  (repeat' first
  | (refine run_ite rfl (fun h=>?_) (fun h=>?_)<;>(try simp (disch:=omega) only [zB,eqDs,bM,Nat.reduceAdd,aA] at h)<;>(try (exfalso;omega)))
  | refine aI rfl ?_
  | refine aJ rfl ?_
  | (refine aB rfl (by simp (disch:=omega) only [zB,eqDs,bM,Nat.reduceAdd,aA];exact gL (Int.tmod_nonneg _ (by omega)) (Int.tmod_lt_of_pos _ (by omega)) (fun _=>rfl)) ?_)
  | (refine aB rfl (by simp (disch:=omega) only [zB,eqDs,bM,Nat.reduceAdd,aA];exact gM (Int.tmod_nonneg _ (by omega)) (Int.tmod_lt_of_pos _ (by omega)) (fun _=>rfl)) ?_)
  | refine aB rfl ?_ ?_
  | (refine aG rfl ?_;first | refine rb ?_ | refine ri ?_ | refine bV ?_ ?_ | refine cE ?_)
  | refine aD rfl ?_)
  ·exact ⟨0,bV rfl (hr 0),Int.le_refl _,.inr rfl⟩
  ·exact ⟨0,bV rfl (hr 0),Int.le_refl _,.inr rfl⟩
  ·refine ⟨_,bV rfl (hr 0),?_⟩
   have h3:=IX hb (IntKind.i64.wrap (IntKind.i64.wrap (p+1) - 1))
   rw [aA _ (by omega)]
   exact ⟨Int.tmod_nonneg _ h3.1,.inl (Int.tmod_lt_of_pos _ (by omega))⟩
  ·refine ⟨_,bV rfl (hr 0),?_⟩
   refine ⟨Int.tmod_nonneg _ ?_,.inl (Int.tmod_lt_of_pos _ (by omega))⟩
   have h3:=RW (l:=((b.map eU).length:Int)) (IX hb ((IntKind.i64.wrap (IntKind.i64.wrap (p+1) - 1)).tmod ((b.map eU).length:Int))) (IX hb ((IntKind.i64.wrap (IntKind.i64.wrap (IntKind.i64.wrap (IntKind.i64.wrap (p+1) - 1)*7)+3)).tmod ((b.map eU).length:Int))) (k:=IntKind.i64.wrap (IntKind.i64.wrap (p+1) - 1)) (by rw [hp2];exact hp) (by rw [List.length_map];omega)
   exact RX h3 (PR h3))
 exact ⟨outs,h1,Cb h2⟩
end
section
open Classical
variable {W:Wld}

theorem PT (b:List Int)(hb:b.length≤1048576):FunOk PP W tN jM [TB b] [eT (b.take 2000) 0]:=by
 refine Hq (aU ?_)
 (repeat' first
  | (refine run_ite rfl (fun h=>?_) (fun h=>?_)<;>(try simp (disch:=omega) only [zB,eqDs,bM,Nat.reduceAdd,aA] at h)<;>(try (exfalso;omega)))
  | refine aI rfl ?_
  | refine aJ rfl ?_
  | refine aB rfl ?_ ?_
  | (refine aG rfl ?_;first | refine rb ?_ | refine ri ?_ | refine bV ?_ ?_ | refine cE ?_)
  | refine aD rfl ?_)
 ·show [D.sl (((b.map eU).take 2000).drop 0),D.int .i64 0]=_
  rw [List.drop_zero,←List.map_take]
 ·rw [List.take_of_length_le (by omega)]

def PU (q:Pk):Prop:=(1≤q.name∧q.name≤4)∧q.files.length≤3∧q.deps.length≤3∧∀ d∈q.deps,1≤d.a∧d.a≤4
theorem NE (b:List Int)(hb:Kp b)(p name ver:Int)(hp:0≤p∧p<900000000)(hn:1≤name∧name≤4):∃ outs,(∃ q p',outs=[ePk q,eT b p']∧PU q∧p≤p'∧p'≤p+30)∧FunOk PP W pQ hM [eT b p,i64 name,i64 ver] outs:=by
 obtain ⟨outs,h1,h2⟩:=dY (Φ:=FunOk PP W) (p:=p_s_l71Pkg) (ins:=[eT b p,i64 name,i64 ver]) (G:=fun outs=>∃ q p',outs=[ePk q,eT b p']∧PU q∧p≤p'∧p'≤p+30) (by
  (repeat' first
  | (refine run_ite rfl (fun h=>?_) (fun h=>?_)<;>(try simp (disch:=omega) only [zB,eqDs,bM,Nat.reduceAdd,aA] at h)<;>(try (exfalso;omega)))
  | refine aI rfl ?_
  | refine aJ rfl ?_
  | (refine aW rfl (eN b hb _ _ (by first | omega | (simp only [List.length_map];omega)) (by first | omega | (simp only [List.length_map];omega) | (simp;done))) rfl (fun outs hG=>?_);obtain ⟨v,rfl,hv0,hv1⟩:=hG;(try simp only [List.length_map] at hv1);refine ⟨[i64 v],[eT b _],rfl,rfl,rfl,?_⟩)
  | refine aB rfl ?_ ?_
  | (refine aG rfl ?_;first | refine rb ?_ | refine ri ?_ | refine bV ?_ ?_ | refine cE ?_)
  | refine aD rfl ?_)
  rename_i a0 ha0 ha1
  refine aX rfl (fun x:Int×Int×Int×List P2=>(0≤x.1∧x.1≤2)∧(0≤x.2.1∧x.2.1≤30 - 8*x.1)∧(p+2≤x.2.2.1∧x.2.2.1≤p+6 - 2*x.1)∧(x.2.2.2.length:Int)≤2 - x.1) (fun x=>[(9,.val (i64 x.1)),(8,.val (i64 x.2.1)),(0,.val (eT b x.2.2.1)),(7,.val (ePk ⟨name,ver,x.2.2.2,[]⟩)),(6,.val (ePk default)),(1,.val (i64 name))]) (fun x=>x.1.toNat) (v,a0,p+1+1,[]) ⟨by dsimp only;omega,by dsimp only;omega,by dsimp only;omega,by simp;omega⟩ ⟨rfl,rfl,rfl,rfl,rfl,rfl,trivial⟩ rfl ?_
  rintro ⟨n,a,q,fs⟩ e ⟨h0,h1,h2,h3⟩
  dsimp only at h0 h1 h2 h3 ⊢
  (repeat' first
  | (refine run_ite rfl (fun h=>?_) (fun h=>?_)<;>(try simp (disch:=omega) only [zB,eqDs,bM,Nat.reduceAdd,aA] at h)<;>(try (exfalso;omega)))
  | refine aI rfl ?_
  | refine aJ rfl ?_
  | (refine aW rfl (eN b hb _ _ (by first | omega | (simp only [List.length_map];omega)) (by first | omega | (simp only [List.length_map];omega) | (simp;done))) rfl (fun outs hG=>?_);obtain ⟨v,rfl,hv0,hv1⟩:=hG;(try simp only [List.length_map] at hv1);refine ⟨[i64 v],[eT b _],rfl,rfl,rfl,?_⟩)
  | refine aB rfl ?_ ?_
  | (refine aG rfl ?_;first | refine rb ?_ | refine ri ?_ | refine bV ?_ ?_ | refine cE ?_)
  | refine aD rfl ?_)
  ·rename_i w0 hw0 hw1
   exact aR rfl (Exists.intro (n - 1,a+1+v,q+1+1,fs++[⟨a,w0⟩]) ⟨by dsimp only;omega,⟨by dsimp only;omega,by dsimp only;omega,by dsimp only;omega,by simp;omega⟩,aY (aA _ (by omega)),aY (by simp (disch:=omega) only [aA]),rfl,by dsimp only [ePk];rw [List.map_append];rfl,rfl,rfl,trivial⟩)
  all_goals (
   refine aX rfl (fun x:Int×Int×List P2=>(1≤x.1∧x.1≤5)∧(p≤x.2.1∧x.2.1≤p+6+2*x.1)∧x.2.2.length≤2∧∀ d∈x.2.2,1≤d.a∧d.a≤4) (fun x=>[(10,.val (i64 x.1)),(0,.val (eT b x.2.1)),(7,.val (ePk ⟨name,ver,fs,x.2.2⟩)),(6,.val (ePk default)),(1,.val (i64 name))]) (fun x=>(6 - x.1).toNat) (1,q,[]) ⟨by dsimp only;omega,by dsimp only;omega,by simp,by simp⟩ ⟨rfl,rfl,rfl,rfl,rfl,trivial⟩ rfl ?_
   rintro ⟨d,r,ds⟩ e ⟨g0,g1,g2,g3⟩
   dsimp only at g0 g1 g2 g3 ⊢
   (repeat' first
  | (refine run_ite rfl (fun h=>?_) (fun h=>?_)<;>(try simp (disch:=omega) only [zB,eqDs,bM,Nat.reduceAdd,aA] at h)<;>(try (exfalso;omega)))
  | refine aI rfl ?_
  | refine aJ rfl ?_
  | (refine aW rfl (eN b hb _ _ (by first | omega | (simp only [List.length_map];omega)) (by first | omega | (simp only [List.length_map];omega) | (simp;done))) rfl (fun outs hG=>?_);obtain ⟨v,rfl,hv0,hv1⟩:=hG;(try simp only [List.length_map] at hv1);refine ⟨[i64 v],[eT b _],rfl,rfl,rfl,?_⟩)
  | (refine aR rfl (Exists.intro (d+1,r,ds) ⟨by dsimp only;omega,⟨by dsimp only;omega,by dsimp only;omega,g2,g3⟩,aY (aA _ (by omega)),rfl,rfl,rfl,rfl,trivial⟩))
  | (refine aR rfl (Exists.intro (d+1,r+1,ds) ⟨by dsimp only;omega,⟨by dsimp only;omega,by dsimp only;omega,g2,g3⟩,aY (aA _ (by omega)),rfl,rfl,rfl,rfl,trivial⟩))
  | (refine aR rfl (Exists.intro (d+1,r+1+1,ds++[⟨d,1+v⟩]) ⟨by dsimp only;omega,⟨by dsimp only;omega,by dsimp only;omega,by simp;omega,?_⟩,aY (aA _ (by omega)),rfl,?_,rfl,rfl,trivial⟩))
  | refine aB rfl ?_ ?_
  | (refine aG rfl ?_;first | refine rb ?_ | refine ri ?_ | refine bV ?_ ?_ | refine cE ?_)
  | refine aD rfl ?_)
   all_goals first
    | exact ⟨⟨name,ver,fs,ds⟩,r,rfl,⟨hn,by dsimp only;omega,by dsimp only;omega,g3⟩,by omega,by omega⟩
    | (intro x hx;rcases List.mem_append.1 hx with h' | h';exact g3 x h';rw [List.mem_singleton.1 h'];dsimp only;omega)
    | (refine Eq.trans (b:=[.int .i64 name,.int .i64 ver,.sl (fs.map eP2),.sl (ds.map eP2++[[.int .i64 d,.int .i64 (IntKind.i64.wrap (1+v))]])]) rfl ?_;rw [aA _ (by omega)];dsimp only [ePk];rw [List.map_append];rfl)))
 exact ⟨outs,h1,Hs h2⟩

theorem PV (ps:List Pk)(hl:ps.length≤lim)(n v:Int):∃ outs,(∃ k:Int,outs=[i64 k])∧FunOk PP W kP eE [bN ps,i64 n,i64 v] outs:=by
 obtain ⟨outs,h1,h2⟩:=dY (Φ:=FunOk PP W) (p:=p_s_l12Find) (ins:=[bN ps,i64 n,i64 v]) (G:=fun outs=>∃ k:Int,outs=[i64 k]) (by
  unfold lim at hl
  refine aX rfl (fun i:Int=>0≤i∧i≤ps.length) (fun i=>[(7,.val (i64 i)),(0,.val (bN ps)),(1,.val (i64 n)),(2,.val (i64 v))]) (fun i=>(ps.length - i).toNat) 0 ⟨by omega,by omega⟩ ⟨rfl,rfl,rfl,rfl,trivial⟩ rfl ?_
  rintro i e ⟨h0,hN⟩
  (repeat' first
  | (refine run_ite rfl (fun h=>?_) (fun h=>?_)<;>(try simp (disch:=omega) only [zB,eqDs,bM,Nat.reduceAdd,aA] at h)<;>(try (exfalso;omega)))
  | refine aI rfl ?_
  | refine aJ rfl ?_
  | (refine aR rfl (Exists.intro (i+1) ⟨by omega,⟨by omega,by omega⟩,aY (aA _ (by omega)),rfl,rfl,rfl,trivial⟩))
  | refine aB rfl ?_ ?_
  | (refine aG rfl ?_;first | refine rb ?_ | refine ri ?_ | refine bV ?_ ?_ | refine cE ?_)
  | refine aD rfl ?_)
  all_goals exact ⟨_,rfl⟩)
 exact ⟨outs,h1,zE h2⟩

noncomputable def gS (ps:List Pk)(p:Pk):List Pk:=ps.filter (fun q=>decide (bH q p))++[p]++ps.filter (fun q=>decide (bH p q))
theorem zL {α:Type}[Inhabited α](f:α→Bool)(ps:List α){i:Int}(h0:0≤i)(h1:i<ps.length):(ps.take (i+1).toNat).filter f=(ps.take i.toNat).filter f++if f (ix ps i)=true then [ix ps i] else []:=by
 rw [iW ps h0 h1,List.filter_append]
 congr 1
 by_cases h:f (ix ps i)=true<;>simp [h]
theorem CH (ps:List Pk)(hs:kV ps)(h1:ps.length≤2000000)(p:Pk)(hp:SmP p):FunOk PP W nG fK [bN ps,ePk p] [bN (gS ps p)]:=by
 refine GN (aU ?_)
 (repeat' first
  | (refine run_ite rfl (fun h=>?_) (fun h=>?_)<;>(try simp (disch:=omega) only [zB,eqDs,bM,Nat.reduceAdd,aA] at h)<;>(try (exfalso;omega)))
  | refine aI rfl ?_
  | refine aJ rfl ?_
  | refine aB rfl ?_ ?_
  | (refine aG rfl ?_;first | refine rb ?_ | refine ri ?_ | refine bV ?_ ?_ | refine cE ?_)
  | refine aD rfl ?_)
 refine aX rfl (fun i:Int=>0≤i∧i≤ps.length) (fun i=>[(6,.val (i64 i)),(0,.val (bN ps)),(5,.val (bN ((ps.take i.toNat).filter (fun q=>decide (bH q p))))),(3,.val (ePk p))]) (fun i=>(ps.length - i).toNat) 0 ⟨by omega,by omega⟩ ⟨rfl,rfl,rfl,rfl,trivial⟩ rfl ?_
 rintro i e ⟨h0,hN⟩
 have hft:=zL (fun q=>decide (bH q p)) ps (i:=i) h0
 have hfl:((ps.take i.toNat).filter (fun q=>decide (bH q p))).length≤ps.length:=Nat.le_trans (List.length_filter_le _ _) (by rw [List.length_take];omega)
 have hfin:¬i<ps.length→(ps.take i.toNat).filter (fun q=>decide (bH q p))=ps.filter (fun q=>decide (bH q p)):=fun h=>by rw [List.take_of_length_le (by omega)]
 generalize (ps.take i.toNat).filter (fun q=>decide (bH q p))=A at hft hfl hfin
 (repeat' first
  | (refine run_ite rfl (fun h=>?_) (fun h=>?_)<;>(try simp (disch:=omega) only [zB,eqDs,bM,Nat.reduceAdd,aA] at h)<;>(try (exfalso;omega)))
  | refine aI rfl ?_
  | refine aJ rfl ?_
  | refine mG rfl (sH (ix ps i).name (ix ps i).ver p.name p.ver) rfl ?_
  | (refine aR rfl (Exists.intro (i+1) ⟨by omega,⟨by omega,by omega⟩,aY (aA _ (by omega)),rfl,?_,rfl,trivial⟩))
  | refine aB rfl ?_ ?_
  | (refine aG rfl ?_;first | refine rb ?_ | refine ri ?_ | refine bV ?_ ?_ | refine cE ?_)
  | refine aD rfl ?_)
 ·rw [hft (by assumption),if_pos (decide_eq_true (show bH (ix ps i) p from h))]
  refine mF ?_
  simp only [zB,eqDs,bM,Nat.reduceAdd,List.map_append]
  rfl
 ·rw [hft (by assumption),if_neg (by rw [decide_eq_true_eq];exact h),List.append_nil]
  rfl
 have hA:=hfin h
 clear hft hfin h h0 hN
 unfold gS
 rw [←hA]
 clear hA
 refine aX rfl (fun i:Int=>0≤i∧i≤ps.length) (fun i=>[(7,.val (i64 i)),(0,.val (bN ps)),(5,.val (bN (A++[p]++(ps.take i.toNat).filter (fun q=>decide (bH p q))))),(3,.val (ePk p))]) (fun i=>(ps.length - i).toNat) 0 ⟨by omega,by omega⟩ ⟨rfl,rfl,?_,rfl,trivial⟩ rfl ?_
 ·refine mF ?_
  rw [show (ps.take (0:Int).toNat).filter (fun q=>decide (bH p q))=[] from rfl,List.append_nil,List.map_append]
  rfl
 rintro i e ⟨h0,hN⟩
 have hft:=zL (fun q=>decide (bH p q)) ps (i:=i) h0
 have hfl2:((ps.take i.toNat).filter (fun q=>decide (bH p q))).length≤ps.length:=Nat.le_trans (List.length_filter_le _ _) (by rw [List.length_take];omega)
 have hfin:¬i<ps.length→(ps.take i.toNat).filter (fun q=>decide (bH p q))=ps.filter (fun q=>decide (bH p q)):=fun h=>by rw [List.take_of_length_le (by omega)]
 generalize (ps.take i.toNat).filter (fun q=>decide (bH p q))=B at hft hfl2 hfin
 have hBl:(A++[p]++B).length≤4000001:=by simp;omega
 have hft2:i<ps.length→A++[p]++(ps.take (i+1).toNat).filter (fun q=>decide (bH p q))=(A++[p]++B)++if decide (bH p (ix ps i))=true then [ix ps i] else []:=fun h=>by rw [hft h];simp only [List.append_assoc]
 have hfin2:¬i<ps.length→A++[p]++B=A++[p]++ps.filter (fun q=>decide (bH p q)):=fun h=>by rw [hfin h]
 generalize A++[p]++B=E at hBl hft2 hfin2
 (repeat' first
  | (refine run_ite rfl (fun h=>?_) (fun h=>?_)<;>(try simp (disch:=omega) only [zB,eqDs,bM,Nat.reduceAdd,aA] at h)<;>(try (exfalso;omega)))
  | refine aI rfl ?_
  | refine aJ rfl ?_
  | refine mG rfl (sH p.name p.ver (ix ps i).name (ix ps i).ver) rfl ?_
  | (refine aR rfl (Exists.intro (i+1) ⟨by omega,⟨by omega,by omega⟩,aY (aA _ (by omega)),rfl,?_,rfl,trivial⟩))
  | refine aB rfl ?_ ?_
  | (refine aG rfl ?_;first | refine rb ?_ | refine ri ?_ | refine bV ?_ ?_ | refine cE ?_)
  | refine aD rfl ?_)
 ·rw [hft2 (by assumption),if_pos (decide_eq_true (show bH p (ix ps i) from h))]
  refine mF ?_
  simp only [zB,eqDs,bM,Nat.reduceAdd,List.map_append]
  rfl
 ·rw [hft2 (by assumption),if_neg (by rw [decide_eq_true_eq];exact h),List.append_nil]
  rfl
 ·rw [hfin2 h]

theorem zM {α:Type}(f g:α→Bool)(h:∀ x,f x=true→g x=true→False):∀ l:List α,(l.filter f).length+(l.filter g).length≤l.length
 | []=>by simp
 | x::l=>by
  have:=zM f g h l
  have hx:=h x
  simp only [List.filter_cons,List.length_cons]
  split<;>split<;>simp_all<;>omega
theorem NF {p q:Pk}(h1:bH p q)(h2:bH q p):False:=by unfold bH at h1 h2;omega
theorem Df (ps:List Pk)(p:Pk):(gS ps p).length≤ps.length+1:=by
 have:=zM (fun q=>decide (bH q p)) (fun q=>decide (bH p q)) (fun x h1 h2=>NF (of_decide_eq_true h1) (of_decide_eq_true h2)) ps
 unfold gS
 simp only [List.length_append,List.length_singleton]
 omega
theorem Dg {ps:List Pk}{p q:Pk}(h:q∈gS ps p):q∈ps∨q=p:=by
 unfold gS at h
 simp only [List.mem_append,List.mem_filter,List.mem_singleton] at h
 rcases h with (⟨h,_⟩ | h) | ⟨h,_⟩
 ·exact .inl h
 ·exact .inr h
 ·exact .inl h
def Dh (ps:List Pk):Prop:=∀ q∈ps,PU q
theorem AU {q:Pk}(h:PU q):SmP q:=by
 obtain ⟨_,h1,h2,_⟩:=h
 unfold SmP lim
 omega
theorem oU {ps:List Pk}(h:Dh ps)(hl:ps.length≤1000):kV ps:=⟨by unfold lim;omega,fun q hq=>AU (h q hq)⟩

end
section
open Classical
variable {W:Wld}

theorem Ep (b:List Int)(hb:Kp b)(p:Int)(hp:0≤p∧p<800000000):∃ outs,(∃ ps p',outs=[bN ps,eT b p']∧Dh ps∧ps.length≤7∧p≤p'∧p'≤p+300)∧FunOk PP W kR eD [eT b p] outs:=by
 obtain ⟨outs,h1,h2⟩:=dY (Φ:=FunOk PP W) (p:=p_s_l71Pkgs) (ins:=[eT b p]) (G:=fun outs=>∃ ps p',outs=[bN ps,eT b p']∧Dh ps∧ps.length≤7∧p≤p'∧p'≤p+300) (by
  (repeat' first
  | (refine run_ite rfl (fun h=>?_) (fun h=>?_)<;>(try simp (disch:=omega) only [zB,eqDs,bM,Nat.reduceAdd,aA] at h)<;>(try (exfalso;omega)))
  | refine aI rfl ?_
  | refine aJ rfl ?_
  | (refine aW rfl (eN b hb _ _ (by first | omega | (simp only [List.length_map];omega)) (by first | omega | (simp only [List.length_map];omega) | (simp;done))) rfl (fun outs hG=>?_);obtain ⟨v,rfl,hv0,hv1⟩:=hG;(try simp only [List.length_map] at hv1);refine ⟨[i64 v],[eT b _],rfl,rfl,rfl,?_⟩)
  | refine aB rfl ?_ ?_
  | (refine aG rfl ?_;first | refine rb ?_ | refine ri ?_ | refine bV ?_ ?_ | refine cE ?_)
  | refine aD rfl ?_)
  refine aX rfl (fun x:Int×Int×List Pk=>(0≤x.1∧x.1≤7)∧(p≤x.2.1∧x.2.1≤p+300 - 35*x.1)∧(x.2.2.length:Int)≤7 - x.1∧Dh x.2.2) (fun x=>[(4,.val (i64 x.1)),(0,.val (eT b x.2.1)),(3,.val (bN x.2.2))]) (fun x=>x.1.toNat) (v,p+1,[]) ⟨by dsimp only;omega,by dsimp only;omega,by simp;omega,by intro q hq;cases hq⟩ ⟨rfl,rfl,rfl,trivial⟩ rfl ?_
  rintro ⟨n,r,ps⟩ e ⟨g0,g1,g2,g3⟩
  dsimp only at g0 g1 g2 g3 ⊢
  (repeat' first
  | (refine run_ite rfl (fun h=>?_) (fun h=>?_)<;>(try simp (disch:=omega) only [zB,eqDs,bM,Nat.reduceAdd,aA] at h)<;>(try (exfalso;omega)))
  | refine aI rfl ?_
  | refine aJ rfl ?_
  | (refine aW rfl (eN b hb _ _ (by first | omega | (simp only [List.length_map];omega)) (by first | omega | (simp only [List.length_map];omega) | (simp;done))) rfl (fun outs hG=>?_);obtain ⟨v,rfl,hv0,hv1⟩:=hG;(try simp only [List.length_map] at hv1);refine ⟨[i64 v],[eT b _],rfl,rfl,rfl,?_⟩)
  | refine aB rfl ?_ ?_
  | (refine aG rfl ?_;first | refine rb ?_ | refine ri ?_ | refine bV ?_ ?_ | refine cE ?_)
  | refine aD rfl ?_)
  ·rename_i w hw0 hw1
   refine aW rfl (NE b hb (r+1+1) (1+w) (1+v) (by omega) (by omega)) (by simp (disch:=omega) only [aA]) (fun outs hG=>?_)
   obtain ⟨q,p',rfl,hq1,hq2,hq3⟩:=hG
   refine ⟨[ePk q],[eT b p'],rfl,rfl,rfl,?_⟩
   have hps:kV ps:=oU g3 (by omega)
   (repeat' first
  | (refine run_ite rfl (fun h=>?_) (fun h=>?_)<;>(try simp (disch:=omega) only [zB,eqDs,bM,Nat.reduceAdd,aA] at h)<;>(try (exfalso;omega)))
  | refine aI rfl ?_
  | refine aJ rfl ?_
  | (refine aW rfl (PV ps hps.1 _ _) rfl (fun outs hG=>?_);obtain ⟨k,rfl⟩:=hG;refine ⟨[i64 k],[],rfl,rfl,rfl,?_⟩)
  | refine aE rfl (CH ps hps (by omega) q (AU hq1)) rfl ?_
  | (refine aR rfl (Exists.intro (n - 1,p',gS ps q) ⟨by dsimp only;omega,⟨by dsimp only;omega,by dsimp only;omega,?_,?_⟩,aY (aA _ (by omega)),rfl,rfl,trivial⟩))
  | (refine aR rfl (Exists.intro (n - 1,p',ps) ⟨by dsimp only;omega,⟨by dsimp only;omega,by dsimp only;omega,by dsimp only;omega,g3⟩,aY (aA _ (by omega)),rfl,rfl,trivial⟩))
  | refine aB rfl ?_ ?_
  | (refine aG rfl ?_;first | refine rb ?_ | refine ri ?_ | refine bV ?_ ?_ | refine cE ?_)
  | refine aD rfl ?_)
   ·have:=Df ps q
    dsimp only
    omega
   ·intro x hx
    rcases Dg hx with h' | h'
    ·exact g3 x h'
    ·rw [h'];exact hq1
  ·exact ⟨ps,r,rfl,g3,by omega,by omega,by omega⟩)
 exact ⟨outs,h1,GL h2⟩

theorem NG (b:List Int)(hb:Kp b)(p:Int)(hp:0≤p∧p<800000000):∃ outs,(∃ q p',outs=[ePk q,eT b p']∧SmP q∧p≤p'∧p'≤p+50)∧FunOk PP W mI fI [eT b p] outs:=by
 obtain ⟨outs,h1,h2⟩:=dY (Φ:=FunOk PP W) (p:=p_s_l71Any) (ins:=[eT b p]) (G:=fun outs=>∃ q p',outs=[ePk q,eT b p']∧SmP q∧p≤p'∧p'≤p+50) (by
  (repeat' first
  | (refine run_ite rfl (fun h=>?_) (fun h=>?_)<;>(try simp (disch:=omega) only [zB,eqDs,bM,Nat.reduceAdd,aA] at h)<;>(try (exfalso;omega)))
  | refine aI rfl ?_
  | refine aJ rfl ?_
  | (refine aW rfl (eN b hb _ _ (by first | omega | (simp only [List.length_map];omega)) (by first | omega | (simp only [List.length_map];omega) | (simp;done))) rfl (fun outs hG=>?_);obtain ⟨v,rfl,hv0,hv1⟩:=hG;(try simp only [List.length_map] at hv1);refine ⟨[i64 v],[eT b _],rfl,rfl,rfl,?_⟩)
  | refine aB rfl ?_ ?_
  | (refine aG rfl ?_;first | refine rb ?_ | refine ri ?_ | refine bV ?_ ?_ | refine cE ?_)
  | refine aD rfl ?_)
  rename_i w hw0 hw1
  refine aW rfl (NE b hb (p+1+1) (1+w) (1+v) (by omega) (by omega)) (by simp (disch:=omega) only [aA]) (fun outs hG=>?_)
  obtain ⟨q,p',rfl,hq1,hq2,hq3⟩:=hG
  refine ⟨[ePk q],[eT b p'],rfl,rfl,rfl,?_⟩
  obtain ⟨_,hf,hd,_⟩:=hq1
  (repeat' first
  | (refine run_ite rfl (fun h=>?_) (fun h=>?_)<;>(try simp (disch:=omega) only [zB,eqDs,bM,Nat.reduceAdd,aA] at h)<;>(try (exfalso;omega)))
  | refine aI rfl ?_
  | refine aJ rfl ?_
  | (refine aW rfl (eN b hb _ _ (by first | omega | (simp only [List.length_map];omega)) (by first | omega | (simp only [List.length_map];omega) | (simp;done))) rfl (fun outs hG=>?_);obtain ⟨v,rfl,hv0,hv1⟩:=hG;(try simp only [List.length_map] at hv1);refine ⟨[i64 v],[eT b _],rfl,rfl,rfl,?_⟩)
  | (refine aB rfl (gL (enc:=i64) (xs:=[0,5]) (by omega) (by simp;omega) (fun _=>rfl)) ?_)
  | (refine aB rfl (gM (enc:=i64) (xs:=[0,5]) (by omega) (by simp;omega) (fun _=>rfl)) ?_)
  | (refine aB rfl (gL (enc:=i64) (xs:=[0,6]) (by omega) (by simp;omega) (fun _=>rfl)) ?_)
  | (refine aB rfl (gM (enc:=i64) (xs:=[0,6]) (by omega) (by simp;omega) (fun _=>rfl)) ?_)
  | refine aB rfl ?_ ?_
  | (refine aG rfl ?_;first | refine rb ?_ | refine ri ?_ | refine bV ?_ ?_ | refine cE ?_)
  | refine aD rfl ?_)
  ·exact ⟨⟨cI [[D.int .i64 0],[D.int .i64 5]] v 0,q.ver,q.files,q.deps⟩,p'+1+1,rfl,⟨by dsimp only;unfold lim;omega,by dsimp only;unfold lim;omega⟩,by omega,by omega⟩
  ·exact ⟨⟨q.name,cI [[D.int .i64 0],[D.int .i64 6]] v 0,q.files,q.deps⟩,p'+1+1,rfl,⟨by dsimp only;unfold lim;omega,by dsimp only;unfold lim;omega⟩,by omega,by omega⟩
  ·rename_i x hx0 hx1
   exact ⟨⟨q.name,q.ver,q.files++[⟨x,v⟩],q.deps⟩,p'+1+1+1,bV (by dsimp only [ePk];rw [List.map_append];rfl) rfl,⟨by simp [lim];omega,by dsimp only;unfold lim;omega⟩,by omega,by omega⟩
  ·rename_i x hx0 hx1
   exact ⟨⟨q.name,q.ver,q.files,q.deps++[⟨x,v⟩]⟩,p'+1+1+1,bV (by dsimp only [ePk];rw [List.map_append];rfl) rfl,⟨by dsimp only;unfold lim;omega,by simp [lim];omega⟩,by omega,by omega⟩
  ·exact ⟨q,p'+1,rfl,⟨by unfold lim;omega,by unfold lim;omega⟩,by omega,by omega⟩)
 exact ⟨outs,h1,Hu h2⟩

theorem SY {α:Type}{enc:α→List D}{xs ys:List α}{i:Int}{z:α}{sz:Nat}(h0:0≤i)(h1:i<xs.length)(h2:i<ys.length)(hz:∀ x,(enc x).length=sz):Fn (xs.map enc) (ys.map enc) i 0 (enc z):=by
 have a:i.toNat<xs.length:=by omega
 have b:i.toNat<ys.length:=by omega
 exact ⟨enc xs[i.toNat],enc ys[i.toNat],by simp [a],by simp [b],by rw [hz,hz],by simp [hz]⟩
theorem RY {α:Type}{enc:α→List D}{ys:List α}{i:Int}{z:α}{sz:Nat}(h0:0≤i)(h2:i<ys.length)(hz:∀ x,(enc x).length=sz):Fo (ys.map enc) i 0 (enc z)=(ys.set i.toNat z).map enc:=by
 have b:i.toNat<ys.length:=by omega
 simp only [Fo,List.getD_eq_getElem?_getD,List.getElem?_map,List.getElem?_eq_getElem b,Option.map_some,Option.getD_some]
 rw [List.map_set]
 congr 1
 simp [bG,hz]

theorem RZ (b:List Int)(hb:Kp b)(p:Int)(hp:0≤p∧p<700000000):∃ outs,(∃ ps p',outs=[bN ps,eT b p']∧kV ps∧ps.length≤8∧p≤p'∧p'≤p+400)∧FunOk PP W tT jO [eT b p] outs:=by
 obtain ⟨outs,h1,h2⟩:=dY (Φ:=FunOk PP W) (p:=p_s_l71Off) (ins:=[eT b p]) (G:=fun outs=>∃ ps p',outs=[bN ps,eT b p']∧kV ps∧ps.length≤8∧p≤p'∧p'≤p+400) (by
  (repeat' first
  | (refine run_ite rfl (fun h=>?_) (fun h=>?_)<;>(try simp (disch:=omega) only [zB,eqDs,bM,Nat.reduceAdd,aA] at h)<;>(try (exfalso;omega)))
  | refine aI rfl ?_
  | refine aJ rfl ?_
  | (refine aW rfl (eN b hb _ _ (by first | omega | (simp only [List.length_map];omega)) (by first | omega | (simp only [List.length_map];omega) | (simp;done))) rfl (fun outs hG=>?_);obtain ⟨v,rfl,hv0,hv1⟩:=hG;(try simp only [List.length_map] at hv1);refine ⟨[i64 v],[eT b _],rfl,rfl,rfl,?_⟩)
  | (refine aW rfl (Ep b hb p (by omega)) rfl (fun outs hG=>?_);obtain ⟨ps,p',rfl,hq1,hq2,hq3,hq4⟩:=hG;refine ⟨[bN ps],[eT b p'],rfl,rfl,rfl,?_⟩)
  | (refine aW rfl (NG b hb _ (by omega)) rfl (fun outs hG=>?_);obtain ⟨q,p',rfl,hr1,hr2,hr3⟩:=hG;refine ⟨[ePk q],[eT b p'],rfl,rfl,rfl,?_⟩)
  | (refine aB rfl (SY (enc:=ePk) (sz:=4) (xs:=ps) (ys:=ps) (z:=q) (by omega) (by omega) (by omega) (fun _=>rfl)) ?_)
  | refine aB rfl ?_ ?_
  | (refine aG rfl ?_;first | refine rb ?_ | refine ri ?_ | refine bV ?_ ?_ | refine cE ?_)
  | refine aD rfl ?_)
  ·refine ⟨ps++[q],p',bV (mF (by rw [List.map_append];rfl)) rfl,⟨by simp [lim];omega,fun x hx=>?_⟩,by simp;omega,by omega,by omega⟩
   rcases List.mem_append.1 hx with h' | h'
   ·exact AU (hq1 x h')
   ·rw [List.mem_singleton.1 h'];exact hr1
  ·refine ⟨ps.set v.toNat q,p',bV (mF (RY (enc:=ePk) (sz:=4) (ys:=ps) (z:=q) (i:=v) (by omega) (by omega) (fun _=>rfl))) rfl,⟨by simp [lim];omega,fun x hx=>?_⟩,by simp;omega,by omega,by omega⟩
   rcases List.mem_or_eq_of_mem_set hx with h' | h'
   ·exact AU (hq1 x h')
   ·rw [h'];exact hr1
  ·exact ⟨ps,p'+1,rfl,oU hq1 (by omega),by omega,by omega,by omega⟩
  ·exact ⟨ps,p'+1,rfl,oU hq1 (by omega),by omega,by omega,by omega⟩)
 exact ⟨outs,h1,Hy h2⟩
end
section
variable {W:Wld}

def oV:Cfg:={tt:=tt,sigs:=Bg,mv:=true,bm:=[5],eqt:=fE,keep:=[true,false,true,false,true,false,false,false],n:=8,pin:=[] }
theorem xP:EY oV Tryz.f89 eY=some (.ss [.mv 2 (.c (.sl []))],.mv 3 (.t 0),3,4,.cond (.t 4) (.seq (.ss [.mv 2 (.c (.sl []))]) (.ret [2])) .skip,.seq (.ss [.lit 5 0 [.int .i64 0,.int .i64 0] [],.mv 6 (.t 0),.app 7 2 true (.t 5) (.t 6),.mv 2 (.t 7)]) (.ret [2])):=by kernel_rfl
theorem NH (l:List P2)(hl:l.length≤lim):FunOk PP W pW eY [CZ l] [CZ l]:=by
 refine DQ (C:=oV) (aP rfl) (bB rfl rfl) mixed Tryz.func89 (by kernel_rfl) (by kernel_rfl) xP ?_
 exact De (enc:=eP2) l hl 2 (fun _=>rfl) (fun _=>rfl) [.int .i64 0,.int .i64 0]

def qF:Cfg:={tt:=tt,sigs:=Bg,mv:=true,bm:=[5],eqt:=fE,keep:=[true,false,true,false,true,false,false,false],n:=8,pin:=[] }
theorem AF:EY qF Tryz.f90 gJ=some (.ss [.mv 2 (.c (.sl []))],.mv 3 (.t 0),3,4,.cond (.t 4) (.seq (.ss [.mv 2 (.c (.sl []))]) (.ret [2])) .skip,.seq (.ss [.lit 5 0 [.int .i64 0,.int .i64 0] [],.mv 6 (.t 0),.app 7 2 true (.t 5) (.t 6),.mv 2 (.t 7)]) (.ret [2])):=by kernel_rfl
theorem NI (l:List P2)(hl:l.length≤lim):FunOk PP W rH gJ [CZ l] [CZ l]:=by
 refine DQ (C:=qF) (aP rfl) (bB rfl rfl) mixed Tryz.func90 (by kernel_rfl) (by kernel_rfl) AF ?_
 exact De (enc:=eP2) l hl 2 (fun _=>rfl) (fun _=>rfl) [.int .i64 0,.int .i64 0]

/-! Writing into lists that are encoded. -/
theorem Ra {α:Type}{enc:α→List D}{xs ys:List α}{i:Int}{off sz:Nat}{c:List D}(h0:0≤i)(h1:i<xs.length)(h2:i<ys.length)(hz:∀ x,(enc x).length=sz)(hc:off+c.length≤sz):Fn (xs.map enc) (ys.map enc) i off c:=by
 have a:i.toNat<xs.length:=by omega
 have b:i.toNat<ys.length:=by omega
 exact ⟨enc xs[i.toNat],enc ys[i.toNat],by simp [a],by simp [b],by rw [hz,hz],by rw [hz];exact hc⟩
theorem PW {α:Type}[Inhabited α]{enc:α→List D}{ys:List α}{i:Int}{off:Nat}{c:List D}{z:α}(h0:0≤i)(h2:i<ys.length)(hz:bG (enc (ix ys i)) off c=enc z):Fo (ys.map enc) i off c=(ys.set i.toNat z).map enc:=by
 have b:i.toNat<ys.length:=by omega
 have e:enc (ix ys i)=enc ys[i.toNat]:=by simp [ix,b]
 rw [e] at hz
 simp only [Fo,List.getD_eq_getElem?_getD,List.getElem?_map,List.getElem?_eq_getElem b,Option.map_some,Option.getD_some,hz]
 rw [List.map_set]
end
section
open Classical
variable {W:Wld}

/-! Sums. -/
/-! How much comes in. -/
def mx:Int:=9223372036854775807
noncomputable def UN (left n:Int):Int:=if left<n then -1 else left - n
end
section
open Classical
variable {W:Wld}

theorem zN (p:Pk)(hs:SmP p):FunOk PP W iZ dF [ePk p] [ePk p]:=by
 refine xL (aU ?_)
 (repeat' first
  | (refine run_ite rfl (fun h=>?_) (fun h=>?_)<;>(try simp (disch:=omega) only [zB,eqDs,bM,Nat.reduceAdd,aA] at h)<;>(try (exfalso;omega)))
  | refine aI rfl ?_
  | refine aJ rfl ?_
  | refine aE rfl (NH p.files hs.1) rfl ?_
  | refine aE rfl (NI p.deps hs.2) rfl ?_
  | refine aB rfl ?_ ?_
  | (refine aG rfl ?_;first | refine rb ?_ | refine ri ?_ | refine bV ?_ ?_ | refine cE ?_)
  | refine aD rfl ?_)
 rfl
theorem CI (ps:List Pk)(hs:kV ps):FunOk PP W tR jB [bN ps] [bN ps]:=by
 refine En (aU ?_)
 have hl:=hs.1
 unfold lim at hl
 refine aX rfl (fun i:Int=>0≤i∧i≤ps.length) (fun i=>[(8,.val (i64 i)),(6,.val (bN ps)),(3,.val (bN (ps.take i.toNat))),(7,.val (i64 (ps.map ePk).length))]) (fun i=>(ps.length - i).toNat) 0 ⟨by omega,by omega⟩ ⟨rfl,rfl,rfl,rfl,trivial⟩ rfl ?_
 rintro i e ⟨h0,hN⟩
 have ht:(ps.take i.toNat).length≤i:=by rw [List.length_take];omega
 (repeat' first
  | (refine run_ite rfl (fun h=>?_) (fun h=>?_)<;>(try simp (disch:=omega) only [zB,eqDs,bM,Nat.reduceAdd,aA] at h)<;>(try (exfalso;omega)))
  | refine aI rfl ?_
  | refine aJ rfl ?_
  | refine mG rfl (zN (ix ps i) (nL hs (by omega) (by omega))) rfl ?_
  | (refine aR rfl (Exists.intro (i+1) ⟨by omega,⟨by omega,by omega⟩,aY (aA _ (by omega)),rfl,?_,rfl,trivial⟩))
  | refine aB rfl ?_ ?_
  | (refine aG rfl ?_;first | refine rb ?_ | refine ri ?_ | refine bV ?_ ?_ | refine cE ?_)
  | refine aD rfl ?_)
 ·refine mF ?_
  rw [iW ps h0 (by omega),List.map_append]
  rfl
 ·refine mF ?_
  rw [List.take_of_length_le (by omega)]

end
section
open Classical
variable {W:Wld}

/-! Keys. -/
def CJ (l:List Int)(i:Int):Prop:=(1≤ix l i∧ix l i≤6)∧(0<i→ix l (i - 1)<ix l i)
def NJ (l:List Int):Prop:=uD l.length (CJ l)
theorem IY (l:List Int)(hl:l.length≤lim):FunOk PP W tU jV [Mj l] [bo (decide (NJ l))]:=by
 refine IM (aU ?_)
 unfold lim at hl
 (repeat' first
  | (refine run_ite rfl (fun h=>?_) (fun h=>?_)<;>(try simp (disch:=omega) only [zB,eqDs,bM,Nat.reduceAdd,aA] at h)<;>(try (exfalso;omega)))
  | refine aI rfl ?_
  | refine aJ rfl ?_
  | refine aB rfl ?_ ?_
  | (refine aG rfl ?_;first | refine rb ?_ | refine ri ?_ | refine bV ?_ ?_ | refine cE ?_)
  | refine aD rfl ?_)
 refine aX rfl (fun i:Int=>0≤i∧i≤l.length∧uD i (CJ l)) (fun i=>[(3,.val (i64 i)),(0,.val (Mj l))]) (fun i=>(l.length - i).toNat) 0 ⟨by omega,by omega,cO _⟩ ⟨rfl,rfl,trivial⟩ rfl ?_
 rintro i e ⟨h0,hN,hP⟩
 (repeat' first
  | (refine run_ite rfl (fun h=>?_) (fun h=>?_)<;>(try simp (disch:=omega) only [zB,eqDs,bM,Nat.reduceAdd,aA] at h)<;>(try (exfalso;omega)))
  | refine aI rfl ?_
  | refine aJ rfl ?_
  | refine aE rfl (pV ..) rfl ?_
  | (refine aR rfl (Exists.intro (i+1) ⟨by omega,⟨by omega,by omega,cP hP (by unfold CJ;omega)⟩,aY (aA _ (by omega)),rfl,trivial⟩))
  | refine aB rfl ?_ ?_
  | (refine aG rfl ?_;first | refine rb ?_ | refine ri ?_ | refine bV ?_ ?_ | refine cE ?_)
  | refine aD rfl ?_)
 all_goals first
  | exact tD (gQ hP (by omega))
  | exact fD (fun h'=>by have:=h' i (by omega) (by omega);unfold CJ at this;omega)
theorem IZ (l:List Int)(hl:l.length≤lim):FunOk PP W tV jW [Mj l] [bo (decide (NJ l))]:=by
 refine IS (aU ?_)
 unfold lim at hl
 (repeat' first
  | (refine run_ite rfl (fun h=>?_) (fun h=>?_)<;>(try simp (disch:=omega) only [zB,eqDs,bM,Nat.reduceAdd,aA] at h)<;>(try (exfalso;omega)))
  | refine aI rfl ?_
  | refine aJ rfl ?_
  | refine aB rfl ?_ ?_
  | (refine aG rfl ?_;first | refine rb ?_ | refine ri ?_ | refine bV ?_ ?_ | refine cE ?_)
  | refine aD rfl ?_)
 refine aX rfl (fun i:Int=>0≤i∧i≤l.length∧uD i (CJ l)) (fun i=>[(7,.val (i64 i)),(5,.val (Mj l)),(6,.val (i64 (l.map i64).length)),(0,.val (Mj l))]) (fun i=>(l.length - i).toNat) 0 ⟨by omega,by omega,cO _⟩ ⟨rfl,rfl,rfl,rfl,trivial⟩ rfl ?_
 rintro i e ⟨h0,hN,hP⟩
 (repeat' first
  | (refine run_ite rfl (fun h=>?_) (fun h=>?_)<;>(try simp (disch:=omega) only [zB,eqDs,bM,Nat.reduceAdd,aA] at h)<;>(try (exfalso;omega)))
  | refine aI rfl ?_
  | refine aJ rfl ?_
  | refine aE rfl (Db ..) rfl ?_
  | (refine aR rfl (Exists.intro (i+1) ⟨by omega,⟨by omega,by omega,cP hP (by unfold CJ;omega)⟩,aY (aA _ (by omega)),rfl,rfl,rfl,trivial⟩))
  | refine aB rfl ?_ ?_
  | (refine aG rfl ?_;first | refine rb ?_ | refine ri ?_ | refine bV ?_ ?_ | refine cE ?_)
  | refine aD rfl ?_)
 all_goals first
  | exact tD (gQ hP (by omega))
  | exact fD (fun h'=>by have:=h' i (by omega) (by omega);unfold CJ at this;omega)

/-! How many keys are among both. -/
/-! Roots. -/
structure Rt where
 num:Int
 keys:List Int
 need:Int
deriving DecidableEq,Inhabited
abbrev SZ (r:Rt):List D:=[.int .i64 r.num,.sl (r.keys.map i64),.int .i64 r.need]
def Gq (r:Rt):Prop:=(1≤r.num∧r.num≤9)∧NJ r.keys∧(1≤r.need∧r.need≤r.keys.length)
theorem Ia (r:Rt)(hl:r.keys.length≤lim):FunOk PP W tP jR [SZ r] [bo (decide (Gq r))]:=by
 refine IG (aU ?_)
 (repeat' first
  | (refine run_ite rfl (fun h=>?_) (fun h=>?_)<;>(try simp (disch:=omega) only [zB,eqDs,bM,Nat.reduceAdd,aA] at h)<;>(try (exfalso;omega)))
  | refine aI rfl ?_
  | refine aJ rfl ?_
  | refine aE rfl (IY r.keys hl) rfl ?_
  | refine aE rfl (pV ..) rfl ?_
  | refine aB rfl ?_ ?_
  | (refine aG rfl ?_;first | refine rb ?_ | refine ri ?_ | refine bV ?_ ?_ | refine cE ?_)
  | refine aD rfl ?_)
 all_goals
  refine dI ?_
  unfold Gq
  try simp only [List.length_map,decide_eq_true_eq]
  grind
theorem Ib (r:Rt)(hl:r.keys.length≤lim):FunOk PP W tS jT [SZ r] [bo (decide (Gq r))]:=by
 refine II (aU ?_)
 (repeat' first
  | (refine run_ite rfl (fun h=>?_) (fun h=>?_)<;>(try simp (disch:=omega) only [zB,eqDs,bM,Nat.reduceAdd,aA] at h)<;>(try (exfalso;omega)))
  | refine aI rfl ?_
  | refine aJ rfl ?_
  | refine aE rfl (IZ r.keys hl) rfl ?_
  | refine aE rfl (Db ..) rfl ?_
  | refine aB rfl ?_ ?_
  | (refine aG rfl ?_;first | refine rb ?_ | refine ri ?_ | refine bV ?_ ?_ | refine cE ?_)
  | refine aD rfl ?_)
 all_goals
  refine dI ?_
  unfold Gq
  try simp only [List.length_map,decide_eq_true_eq]
  grind
/-! A new world. -/
structure Wn where
 roots:List SR
 bad:List Int
 tr:Rt
 dk:Dk
deriving DecidableEq,Inhabited
end
section
open Classical

def bA (l:List UInt8):ByteArray:=⟨l.toArray⟩
theorem bA_app (a b:List UInt8):bA a++bA b=bA (a++b):=by
 apply ByteArray.ext
 simp [bA,ByteArray.data_append]
theorem bA_size (a:List UInt8):(bA a).size=a.length:=by simp [bA,ByteArray.size]
abbrev sT (l:List UInt8):List D:=[.str (bA l)]
def u8 (n:Int):UInt8:=UInt8.ofNat n.toNat
def nmT (n v:Int):List UInt8:=[u8 (97+n - 1),u8 (48+v)]
def fT (f:P2):List UInt8:=[32,u8 (48+f.a),58,u8 (48+f.b)]
def dT (d:P2):List UInt8:=32::nmT d.a d.b
noncomputable def textM (p:Pk):List UInt8:=if PkOk p then nmT p.name p.ver++p.files.flatMap fT++p.deps.flatMap dT else []
theorem lX (p:Pk):(textM p).length≤30:=by
 unfold textM
 split
 ·rename_i h
  have h1:(p.files.length:Int)≤2:=h.2.2.1.2
  have h2:(p.deps.length:Int)≤2:=h.2.2.2.2
  have e1:(p.files.flatMap fT).length=4*p.files.length:=by
   rw [List.length_flatMap]
   induction p.files with
   | nil=>rfl
   | cons a r ih=>simp [fT,ih] at *;omega
  have e2:(p.deps.flatMap dT).length=3*p.deps.length:=by
   rw [List.length_flatMap]
   induction p.deps with
   | nil=>rfl
   | cons a r ih=>simp [dT,nmT,ih] at *;omega
  simp only [List.length_append,e1,e2]
  simp [nmT]
  omega
 ·simp
def Kq (n:Int)(b:UInt8):Int:=(31*n+b.toNat+1).tmod 9973
def uA (l:List UInt8):Int:=l.foldl Kq 7
theorem CK {n:Int}(b:UInt8)(h:0≤n):0≤Kq n b∧Kq n b<9973:=by
 unfold Kq
 rw [Int.tmod_eq_emod_of_nonneg (by omega)]
 omega
theorem Di:∀ (l:List UInt8) (n:Int),0≤n→n<9973→0≤l.foldl Kq n∧l.foldl Kq n<9973
 | [],n,h,h'=>⟨h,h'⟩
 | b::r,n,h,_=>Di r _ (CK b h).1 (CK b h).2
theorem Ic (l:List UInt8):0≤uA l∧uA l<9973:=Di l 7 (by omega) (by omega)
noncomputable def jE (p:Pk):Mt:=⟨p.name,p.ver,uA (textM p)⟩

structure Ix where
 num:Int
 till:Int
 ms:List Mt
deriving DecidableEq,Inhabited
abbrev zO (x:Ix):List D:=[.int .i64 x.num,.int .i64 x.till,.sl (x.ms.map Hl)]
def NK:Ix:=⟨0,0,[]⟩
structure Tu where
 r:Rt
 has:Bool
 x:Ix
deriving DecidableEq,Inhabited
abbrev Kr (t:Tu):List D:=[.int .i64 t.r.num,.sl (t.r.keys.map i64),.int .i64 t.r.need,.bool t.has,.int .i64 t.x.num,.int .i64 t.x.till,.sl (t.x.ms.map Hl)]
def Id (l:List Mt)(i:Int):Prop:=(1≤(ix l i).name∧(ix l i).name≤4)∧(1≤(ix l i).ver∧(ix l i).ver≤5)∧(0≤(ix l i).sum∧(ix l i).sum≤9972)∧
 (0<i→(ix l (i - 1)).name<(ix l i).name∨((ix l (i - 1)).name=(ix l i).name∧(ix l (i - 1)).ver<(ix l i).ver))
def Ie (x:Ix):Prop:=(1≤x.num∧x.num≤30)∧(0≤x.till∧x.till≤60)∧(x.ms.length:Int)≤8∧uD x.ms.length (Id x.ms)
def xQ (t:Tu):Prop:=Gq t.r∧if t.has=true then Ie t.x else (t.x.num=0∧t.x.till=0∧t.x.ms=[])
def PY (t:Tu):Prop:=t.r.keys.length≤1000∧t.x.ms.length≤1000
end
end V
end Go.Proofs.YtmgpamcpdblckaaGreatDoor

/-
What strings.Builder's writing does at this seat (after the kit's own walks, Derived/Shelf/Strings/Builder1.lean and BuilderK.lean: the loader's refused row in copyCheck makes the body another one than the shelf's).
-/
namespace Go.Proofs.YtmgpamcpdblckaaGreatDoor
open Go.Shelf Go.RowKit
set_option maxRecDepth 100000
set_option maxHeartbeats 2000000

theorem CL (b:Nat)(w:World)(h0:w.cell? ⟨b,0,none⟩=some (.pointer (some ⟨b,0,none⟩))):
  Calls Tryz.prog 102 #[.pointer (some ⟨b,0,none⟩)] w fun e w'=>e= .returned (.tuple #[])∧w'=w:=by
 have hs:(Tryz.prog.info? 90).map (·.size)=some 2:=Tryz.Builder_Extra_169.sizeBuilder
 obtain ⟨j,hj,_⟩:=Option.map_eq_some_iff.1 hs
 have mixed:Tryz.prog.follows .mixedOrders=true:=V.mixed
 go_enter Tryz.func102,Tryz.ntmps102
 go_wp2
 rw [Lib.run_neq_ptr_same w _ Tryz.underlying88 hj]
 go_wp2
 go_end0
 exact ⟨rfl,rfl⟩

theorem AG (b:Nat)(w:World)(h0:w.cell? ⟨b,0,none⟩=some (.pointer none))(hsh:w.shape? b=some (90,2))(hfz:w.frozen? ⟨b,0,none⟩=false):
  Calls Tryz.prog 102 #[.pointer (some ⟨b,0,none⟩)] w fun e w'=>e= .returned (.tuple #[])∧w'=w.setCell ⟨b,0,none⟩ (.pointer (some ⟨b,0,none⟩)):=by
 have hs:(Tryz.prog.info? 90).map (·.size)=some 2:=Tryz.Builder_Extra_169.sizeBuilder
 obtain ⟨j,hj,hjs⟩:=Option.map_eq_some_iff.1 hs
 have hlies:liesAt Tryz.prog Tryz.prog.depth 90 (2 / Tryz.prog.cellsOf 90) 0 90 1=true:=Tryz.Builder_Extra_169.liesBuilder
 have mixed:Tryz.prog.follows .mixedOrders=true:=V.mixed
 go_enter Tryz.func102,Tryz.ntmps102
 go_wp2
 rw [Lib.run_to_unsafe w ⟨b,0,none⟩ Tryz.underlying88 Tryz.underlying169 hj (by rw [hjs];decide) hsh (Nat.zero_lt_succ 1)]
 simp only [Result.andThen]
 rw [Oper.upon_value]
 go_wp2
 rw [run_callFunc_extern Tryz.func136 (by kernel_rfl) (by kernel_rfl) (by kernel_rfl) (e:=Extern.AbiNoEscape.same) (by kernel_rfl)]
 rw [Lib.run_noEscape]
 simp only [Result.andThen]
 rw [Oper.upon_value]
 go_wp2
 rw [Lib.run_from_unsafe w ⟨b,0,none⟩ Tryz.underlying169 Tryz.underlying88 hj hsh hlies]
 simp only [Result.andThen]
 rw [Oper.upon_value]
 go_wp2
 go_end0
 exact ⟨rfl,rfl⟩

theorem Gr (B b:Nat)(bs:List Value)(w:World)(h:Lib.IsBuilderF 90 5 B b bs w):
  Calls Tryz.prog 102 #[.pointer (some ⟨b,0,none⟩)] w fun e w'=>e= .returned (.tuple #[])∧(Lib.BuilderAtF 90 5 B b (.pointer (some ⟨b,0,none⟩)) bs w'∧Below B w w'∧Lib.OthersKept 5 (some b) w w'):=by
 rcases h with h | h
 ·refine (AG b w h.cell0 h.shape h.frozen0).mono ?_
  rintro e w' ⟨rfl,rfl⟩
  exact ⟨rfl,h.used _,(Below.refl B w).setCell (p:=⟨b,0,none⟩) h.1 _,(Lib.OthersKept.refl _ _ w).setCell ⟨b,0,none⟩ rfl _⟩
 ·refine (CL b w h.cell0).mono ?_
  rintro e w' ⟨rfl,rfl⟩
  exact ⟨rfl,h,Below.refl B _,Lib.OthersKept.refl _ _ _⟩

theorem nX (B b:Nat)(bs:List Value)(s:ByteArray)(w:World)(h:Lib.IsBuilderF 90 5 B b bs w)(hlen:bs.length+s.size≤140737488355328)(hBw:B≤w.heap.size):
  Calls Tryz.prog 52 #[.pointer (some ⟨b,0,none⟩),.string s] w fun e w'=>e= .returned (.tuple #[.int .i64 s.size,.nilIface])∧(Lib.BuilderAtF 90 5 B b (.pointer (some ⟨b,0,none⟩)) (bs++Lib.strCells s) w'∧Below B w w'∧Lib.OthersKept 5 (some b) w w'):=by
 have hib:(Tryz.prog.info? 5).map (fun i=>(i.zero,i.size,i.bytes))=some (some (.int .u8 0),1,1):=Tryz.Builder_Extra_169.infoByte
 obtain ⟨i0,hi,hz0,hz1,hz2⟩:=info_parts hib
 have mixed:Tryz.prog.follows .mixedOrders=true:=V.mixed
 go_enter Tryz.func52,Tryz.ntmps52
 go_wp2_with (go_at_call 102;refine (Gr B b bs _ h).mono ?_)
 rintro e w1 ⟨rfl,h1,hb1,hk1⟩
 obtain ⟨hB,v,hbk,hown,hne⟩:=h1
 have c0:w1.cell? ⟨b,0,none⟩=some (.pointer (some ⟨b,0,none⟩)):=by rw [Lib.cell_of_heap hbk];rfl
 have c1:w1.cell? ⟨b,1,none⟩=some v:=by rw [Lib.cell_of_heap hbk];rfl
 go_wp2_with (at_builtin;refine Lib.wpList_append_own_stringF _ rfl _ _ 22 9 rfl B 5 i0 Tryz.underlying22 Tryz.underlying9 hi hz0 hz1 hz2 _ _ _ rfl hown s rfl ?c3 ?c4 ?c5 ?_)
 case c3=>unfold maxLen;omega
 case c4=>omega
 case c5=>have:=hb1.size;omega
 intro v' w2 hown' hgrow _
 have hlt:b<w1.heap.size:=by
  rcases Nat.lt_or_ge b w1.heap.size with h' | h'
  ·exact h'
  ·simp [Array.getElem?_eq_none h'] at hbk
 have hb2:w2.heap[b]? =some (.cells #[.pointer (some ⟨b,0,none⟩),v] 90 (0,0)):=by
  rw [hgrow.block b hlt (fun e=>hne e.symm)]
  exact hbk
 have d0:w2.cell? ⟨b,0,none⟩=some (.pointer (some ⟨b,0,none⟩)):=by rw [Lib.cell_of_heap hb2];rfl
 have d1:w2.cell? ⟨b,1,none⟩=some v:=by rw [Lib.cell_of_heap hb2];rfl
 have f1:w2.frozen? ⟨b,1,none⟩=false:=Lib.frozen_of_heap hb2 1
 obtain ⟨ao,n',cap,rfl⟩:∃ ao n' cap,v'= .slice ao n' cap:=by
  rcases hown'.2 with ⟨hv,_⟩ | ⟨g,cap,cur,fz,hv,_⟩
  ·exact ⟨_,_,_,hv⟩
  ·exact ⟨_,_,_,hv⟩
 go_wp2
 go_ret2
 refine ⟨rfl,?_,?_,(hk1.grown hgrow (Lib.ownsRowF_kind hown)).setCell ⟨b,1,none⟩ rfl _⟩
 ·exact Lib.BuilderAtF.put (T:=90) (e:=5) hB hb2 (bs':=bs++Lib.strCells s) (by simpa [Lib.strCells_length] using hown') Tryz.Builder_Extra_169.neB5
 ·exact (hb1.grown hgrow (by have:=hb1.size;omega) (fun k hk=>(hown.lt k hk).1)).setCell (p:=⟨b,1,none⟩) hB _
end Go.Proofs.YtmgpamcpdblckaaGreatDoor

/-
What the program's named does.
-/
namespace Go.Proofs.YtmgpamcpdblckaaGreatDoor
open Go.Shelf Go.RowKit
set_option maxRecDepth 100000
set_option maxHeartbeats 2000000

theorem TU (n:Int)(hn:1≤n∧n≤4):Utf8.encode (97+n - 1)=V.bA [V.u8 (97+n - 1)]:=by
 have:n=1∨n=2∨n=3∨n=4:=by omega
 rcases this with rfl | rfl | rfl | rfl<;>rfl
theorem Rb (i:Nat)(h:i≤9):Lib.decDigits i=[V.u8 (48+(i:Int))]:=by
 rw [Lib.decDigits_one (by omega)]
 unfold V.u8
 rw [show (48+(i:Int)).toNat=48+i by omega]
theorem CM (n v:Int)(hn:1≤n∧n≤4)(hv:1≤v∧v≤5)(w:World):
  Calls Tryz.prog 53 #[.int .i64 n,.int .i64 v] w fun e w'=>e= .returned (.string (V.bA (V.nmT n v)))∧w'=w:=by
 have mixed:Tryz.prog.follows .mixedOrders=true:=V.mixed
 obtain ⟨i,rfl⟩:∃ i:Nat,v=i:=⟨v.toNat,by omega⟩
 have he:=TU n hn
 have hd:=Rb i (by omega)
 have hs:¬9223372036854775807<(Utf8.encode (97+n - 1)).size+(Lib.decDigits i).length:=by rw [he,hd,V.bA_size];simp
 go_enter Tryz.func53,Tryz.ntmps53
 go_wp2_with (go_at_call 54;refine (Tryz.strconv_Itoa_small i (by omega) _).mono ?_;rintro e w' ⟨rfl,rfl⟩)
 go_ret
 refine ⟨?_,rfl⟩
 show Ending.returned (Value.string (V.bA [V.u8 (97+n - 1)]++V.bA [V.u8 (48+(i:Int))]))=_
 rw [V.bA_app]
 rfl
namespace V
open Classical
def InW (w:World)(g _o:Nat):Prop:=g<w.heap.size
def Sa:Own:=fun _=>none
def TV (w:World):Cx:=⟨InW w,InW w,fun g=>w.heap.size≤g⟩
theorem NL (w:World):WOk w Sa (TV w) Sa w where
 kept:=Kept.refl _ _
 dom:=fun g i h=>by cases h
 n:=fun g=>by
  show w.heap.size≤g↔_
  exact ⟨fun h=> .inl h,fun h=>h.elim id (fun h'=>absurd rfl h')⟩
 s1:=fun g o h=>h
 s2:=fun g o h=>⟨h,aN rfl⟩
 cl:=fun g o _ h=>h
 inj:=fun g g' i j h=>by cases h
theorem NM {w:World}{cx:Cx}{own:Own}{d:D}{v:Value}(h:Rep w (BS cx own) d v):Rep w (InW w) d v:=
 h.in_ (fun _ _ _ _ h=>h) (fun g cur T h=>⟨cur,h,rfl⟩) (fun g o u _ h=>eI h)
theorem NN {w:World}{d:D}{v:Value}(h:Rep w (InW w) d v):Rep w (BS (TV w) Sa) d v:=
 h.mono (fun _ _ _=>rfl) (fun g cur T h=>⟨cur,h,rfl⟩) (fun g o h=>⟨aN rfl,.inl h⟩)
theorem Kept.below {w w':World}(h:Kept Sa w w'):Below w.heap.size w w':=⟨h.os,h.tape,h.output,h.size,fun k hk=>h.block k hk rfl⟩
theorem inW_below {w w':World}{B:Nat}{d:D}{v:Value}(h:Rep w (InW w) d v)(hb:Below B w w')(hB:w.heap.size≤B):Rep w' (InW w) d v:=
 h.mono (fun g o hg=>by
  have hg:g<w.heap.size:=hg
  simp only [World.cell?,hb.block g (by omega)]) (fun g cur T h=>by
   have:=iS h
   exact ⟨cur,by rw [hb.block g (by omega)];exact h,rfl⟩) (fun _ _ h=>h)
theorem rep_row {w:World}{xs:List P2}{v:Value}(h:Rep w (InW w) (.sl (xs.map eP2)) v):∃ A cap,v= .slice A xs.length cap∧xs.length≤cap+xs.length∧
  ∀ i:Nat,i<xs.length→∃ g off,A=some ⟨g,off,none⟩∧xs.length≤cap∧g<w.heap.size∧w.cell? ⟨g,off+i*2,none⟩=some (.int .i64 (ix xs i).a)∧w.cell? ⟨g,off+i*2+1,none⟩=some (.int .i64 (ix xs i).b):=by
 generalize hd:D.sl (xs.map eP2)=d at h
 cases h with
 | scal h=>subst hd;cases h
 | nil A cap=>
  have:xs=[]:=by simpa using hd
  subst this
  exact ⟨A,cap,rfl,by simp,fun i hi=>absurd hi (by simp)⟩
 | sl ys g off sz cap vs q1 q2 q3 q4 q5=>
  have hy:xs.map eP2=ys:=by simpa using hd
  subst hy
  refine ⟨some ⟨g,off,none⟩,cap,by simp,by omega,fun i hi=>?_⟩
  have hx:(xs.map eP2)[i]? =some (eP2 (ix xs i)):=by simp [ix,hi]
  have h2:sz=2:=(q2 _ (List.mem_of_getElem? hx)).symm
  subst h2
  have c0:=q3 i _ 0 _ hx rfl
  have c1:=q3 i _ 1 _ hx rfl
  have r0:=q5 i _ 0 _ hx rfl
  have r1:=q5 i _ 1 _ hx rfl
  have s0:=q4 i _ 0 _ hx rfl
  have key:∀ (n:Int) (u:Value),Rep w (InW w) (.int .i64 n) u→u= .int .i64 n:=fun n u h=>by
   cases h with
   | scal h=>cases h;rfl
  have e0:=key _ _ r0
  have e1:=key _ _ r1
  rw [e0] at c0
  rw [e1] at c1
  exact ⟨g,off,rfl,by simpa using q1,s0,c0,c1⟩
 | fn=>cases hd
theorem pkgOk_call (p:Pk)(hs:SmP p)(v1 v2:Value)(w:World)(h1:Rep w (InW w) (.sl (p.files.map eP2)) v1)(h2:Rep w (InW w) (.sl (p.deps.map eP2)) v2):
  Calls Tryz.prog 51 #[.agg #[.int .i64 p.name,.int .i64 p.ver,v1,v2]] w fun e w'=>e= .returned (.bool (decide (PkOk p)))∧Below w.heap.size w w':=by
 obtain ⟨_,hf⟩:=xN (W:=RK) p hs
 have s1:∀ {d:D} {v:Value},Rep w (InW w) d v→(∃ xs,d= .sl xs)→Cell1 v:=fun h hd=>by
  obtain ⟨xs,rfl⟩:=hd
  cases h with
  | scal h=>cases h
  | nil A cap=>exact ⟨fun c h=>(by cases h),fun c h=>(by cases h)⟩
  | sl=>exact ⟨fun c h=>(by cases h),fun c h=>(by cases h)⟩
 refine (hf w Sa (TV w) [.agg #[.int .i64 p.name,.int .i64 p.ver,v1,v2]] trivial (NL w) (fun g i h=>by cases h) rfl rfl (fun q hq=>?_)).mono ?_
 ·have:q=(0,.v true [.s,.s,.b,.b]):=by simpa [kK,pB,lI] using hq
  subst this
  refine ⟨[.int .i64 p.name,.int .i64 p.ver,v1,v2],rfl,fun h=>(by cases h),rfl,rfl,fun i c d v hc hd hv=>?_⟩
  match i,hc,hd,hv with
  | 0,hc,hd,hv=>cases hc;cases hd;cases hv;exact ⟨⟨fun c h=>(by cases h),fun c h=>(by cases h)⟩,.int _ _⟩
  | 1,hc,hd,hv=>cases hc;cases hd;cases hv;exact ⟨⟨fun c h=>(by cases h),fun c h=>(by cases h)⟩,.int _ _⟩
  | 2,hc,hd,hv=>cases hc;cases hd;cases hv;exact ⟨s1 h1 ⟨_,rfl⟩,NN h1⟩
  | 3,hc,hd,hv=>cases hc;cases hd;cases hv;exact ⟨s1 h2 ⟨_,rfl⟩,NN h2⟩
  | i+4,hc,hd,hv=>simp at hc
 ·rintro e w' ⟨v,own',rfl,hw',hr⟩
  refine ⟨?_,hw'.kept.below⟩
  obtain ⟨rv,hrl,hv,hrs,_⟩:=hr.tv
  match rv,hrl with
  | [r],_=>
   have hv:v=r:=hv
   subst hv
   obtain ⟨vs,e0,l0,a0⟩:=hrs 0 _ rfl
   match vs,l0 rfl with
   | [u],_=>
    have e0:v=u:=e0
    subst e0
    obtain ⟨_,hsc⟩:=a0.2.2 0 .s (.bool (decide (PkOk p))) v rfl rfl rfl
    have hsc:Scal (.bool (decide (PkOk p))) v:=hsc
    cases hsc
    rfl
end V
end Go.Proofs.YtmgpamcpdblckaaGreatDoor

