/-
Part 4 of the proof of the claimed statement (its last part holds the theorem, and says what is proved). Conditions: none.
-/
import Derived.Test.YtmgpamcpdblckaaGreatDoorM3
import Derived.Test.YtmgpamcpdblckaaGreatDoorProg
import Derived.KernelRfl
import Derived.Test.YtmgpamcpdblckaaGreatDoorChecked
import Derived.Tactics
import Derived.Tactics2
import Derived.WalkKit
import Derived.Below
import Derived.RegionTactic
import Derived.Lib.FrozenHead2
import Derived.Lib.OthersKept
set_option linter.all false
set_option maxRecDepth 100000
/-
The seat's own numbers: types, functions, how each is called. Written by a program.
-/
namespace Go.Proofs.YtmgpamcpdblckaaGreatDoor
namespace V
section

noncomputable abbrev PP:Program:=Tryz.prog
def tt:TT:= .n 123 ⟨2,32,[.sl [],.int .i64 0],(.struct [(0,22),(1,3)])⟩ (.n 64 ⟨1,8,[.bad],.other⟩ (.n 30 ⟨7,88,[.int .i64 0,.sl [],.int .i64 0,.bool false,.int .i64 0,.int .i64 0,.sl []],(.struct [(0,25),(3,4),(4,28)])⟩ (.n 15 ⟨1,8,[.bad],(.ptr 230)⟩ (.n 8 ⟨4,24,[.int .i64 0,.int .i64 0,.bool false,.int .u8 0],(.struct [(0,2),(1,3),(2,4),(3,6)])⟩ (.n 4 ⟨1,1,[.bool false],.bool⟩ (.n 2 ⟨1,8,[.int .i64 0],(.int .i64)⟩ (.n 1 ⟨1,8,[.bad],.other⟩ (.e) (.e)) (.n 3 ⟨1,8,[.int .i64 0],(.int .i64)⟩ (.e) (.e))) (.n 6 ⟨1,1,[.int .u8 0],(.int .u8)⟩ (.n 5 ⟨1,1,[.int .u8 0],(.int .u8)⟩ (.e) (.e)) (.n 7 ⟨4,24,[.int .i64 0,.int .i64 0,.bool false,.int .u8 0],(.struct [(0,2),(1,3),(2,4),(3,6)])⟩ (.e) (.e)))) (.n 12 ⟨1,8,[.int .u64 0],(.int .u64)⟩ (.n 10 ⟨1,16,[.str ⟨#[]⟩],.str⟩ (.n 9 ⟨1,16,[.str ⟨#[]⟩],.str⟩ (.e) (.e)) (.n 11 ⟨1,16,[.str ⟨#[]⟩],.str⟩ (.e) (.e))) (.n 14 ⟨2,24,[.str ⟨#[]⟩,.int .u64 0],(.struct [(0,9),(1,12)])⟩ (.n 13 ⟨2,24,[.str ⟨#[]⟩,.int .u64 0],(.struct [(0,9),(1,12)])⟩ (.e) (.e)) (.e)))) (.n 23 ⟨1,24,[.sl []],(.slice 3)⟩ (.n 19 ⟨1,8,[.bad],(.struct [(0,17)])⟩ (.n 17 ⟨1,8,[.bad],(.ptr 241)⟩ (.n 16 ⟨1,8,[.bad],(.ptr 233)⟩ (.e) (.e)) (.n 18 ⟨1,8,[.bad],(.struct [(0,17)])⟩ (.e) (.e))) (.n 21 ⟨1,4,[.int .i32 0],(.int .i32)⟩ (.n 20 ⟨1,16,[.bad],.other⟩ (.e) (.e)) (.n 22 ⟨1,24,[.sl []],(.slice 5)⟩ (.e) (.e)))) (.n 27 ⟨3,40,[.int .i64 0,.int .i64 0,.sl []],(.struct [(0,3),(1,3),(2,26)])⟩ (.n 25 ⟨3,40,[.int .i64 0,.sl [],.int .i64 0],(.struct [(0,3),(1,23),(2,3)])⟩ (.n 24 ⟨3,40,[.int .i64 0,.sl [],.int .i64 0],(.struct [(0,3),(1,23),(2,3)])⟩ (.e) (.e)) (.n 26 ⟨1,24,[.sl []],(.slice 80)⟩ (.e) (.e))) (.n 29 ⟨7,88,[.int .i64 0,.sl [],.int .i64 0,.bool false,.int .i64 0,.int .i64 0,.sl []],(.struct [(0,25),(3,4),(4,28)])⟩ (.n 28 ⟨3,40,[.int .i64 0,.int .i64 0,.sl []],(.struct [(0,3),(1,3),(2,26)])⟩ (.e) (.e)) (.e))))) (.n 48 ⟨1,8,[.bad],.other⟩ (.n 39 ⟨1,24,[.sl []],(.slice 100)⟩ (.n 35 ⟨1,8,[.bad],.other⟩ (.n 33 ⟨1,8,[.bad],.other⟩ (.n 31 ⟨1,24,[.sl []],(.slice 41)⟩ (.e) (.e)) (.n 34 ⟨1,8,[.bad],.other⟩ (.e) (.e))) (.n 37 ⟨1,8,[.bad],.other⟩ (.n 36 ⟨1,8,[.bad],.other⟩ (.e) (.e)) (.n 38 ⟨1,24,[.sl []],(.slice 97)⟩ (.e) (.e)))) (.n 44 ⟨1,8,[.bad],.other⟩ (.n 41 ⟨4,64,[.int .i64 0,.int .i64 0,.sl [],.sl []],(.struct [(0,3),(1,3),(2,38),(3,39)])⟩ (.n 40 ⟨4,64,[.int .i64 0,.int .i64 0,.sl [],.sl []],(.struct [(0,3),(1,3),(2,38),(3,39)])⟩ (.e) (.e)) (.n 43 ⟨1,8,[.bad],.other⟩ (.e) (.e))) (.n 46 ⟨1,8,[.bad],.other⟩ (.n 45 ⟨1,8,[.bad],.other⟩ (.e) (.e)) (.e)))) (.n 57 ⟨3,40,[.int .i64 0,.int .i64 0,.sl []],(.struct [(0,3),(1,3),(2,56)])⟩ (.n 54 ⟨1,8,[.bad],.other⟩ (.n 51 ⟨1,8,[.bad],.other⟩ (.n 50 ⟨1,8,[.bad],.other⟩ (.e) (.e)) (.n 53 ⟨1,8,[.bad],.other⟩ (.e) (.e))) (.n 56 ⟨1,24,[.sl []],(.slice 175)⟩ (.n 55 ⟨3,40,[.int .i64 0,.sl [],.int .i64 0],(.struct [(0,3),(1,23),(2,3)])⟩ (.e) (.e)) (.e))) (.n 61 ⟨1,24,[.sl []],(.slice 112)⟩ (.n 59 ⟨7,88,[.int .i64 0,.sl [],.int .i64 0,.bool false,.int .i64 0,.int .i64 0,.sl []],(.struct [(0,55),(3,4),(4,58)])⟩ (.n 58 ⟨3,40,[.int .i64 0,.int .i64 0,.sl []],(.struct [(0,3),(1,3),(2,56)])⟩ (.e) (.e)) (.n 60 ⟨7,88,[.int .i64 0,.sl [],.int .i64 0,.bool false,.int .i64 0,.int .i64 0,.sl []],(.struct [(0,55),(3,4),(4,58)])⟩ (.e) (.e))) (.n 63 ⟨1,8,[.bad],.other⟩ (.n 62 ⟨1,8,[.bad],.other⟩ (.e) (.e)) (.e)))))) (.n 94 ⟨1,8,[.bad],.other⟩ (.n 79 ⟨3,24,[.int .i64 0,.int .i64 0,.int .i64 0],(.struct [(0,3),(1,3),(2,3)])⟩ (.n 72 ⟨1,8,[.bad],.other⟩ (.n 68 ⟨1,8,[.bad],.other⟩ (.n 66 ⟨1,8,[.bad],.other⟩ (.n 65 ⟨1,8,[.bad],.other⟩ (.e) (.e)) (.n 67 ⟨1,8,[.bad],.other⟩ (.e) (.e))) (.n 70 ⟨1,8,[.bad],(.ptr 123)⟩ (.n 69 ⟨1,8,[.bad],.other⟩ (.e) (.e)) (.n 71 ⟨1,8,[.bad],.other⟩ (.e) (.e)))) (.n 76 ⟨1,8,[.bad],.other⟩ (.n 74 ⟨1,8,[.bad],.other⟩ (.n 73 ⟨1,8,[.bad],.other⟩ (.e) (.e)) (.n 75 ⟨1,8,[.bad],.other⟩ (.e) (.e))) (.n 78 ⟨1,8,[.bad],.other⟩ (.n 77 ⟨1,8,[.bad],.other⟩ (.e) (.e)) (.e)))) (.n 86 ⟨1,8,[.bad],.other⟩ (.n 83 ⟨1,8,[.bad],.other⟩ (.n 81 ⟨1,8,[.bad],.other⟩ (.n 80 ⟨3,24,[.int .i64 0,.int .i64 0,.int .i64 0],(.struct [(0,3),(1,3),(2,3)])⟩ (.e) (.e)) (.n 82 ⟨1,8,[.bad],.other⟩ (.e) (.e))) (.n 85 ⟨1,8,[.bad],.other⟩ (.n 84 ⟨1,8,[.bad],.other⟩ (.e) (.e)) (.e))) (.n 90 ⟨2,32,[.bad,.sl []],(.struct [(0,88),(1,22)])⟩ (.n 88 ⟨1,8,[.bad],(.ptr 90)⟩ (.n 87 ⟨1,8,[.bad],.other⟩ (.e) (.e)) (.n 89 ⟨2,32,[.bad,.sl []],(.struct [(0,88),(1,22)])⟩ (.e) (.e))) (.n 92 ⟨1,16,[.bad],.other⟩ (.n 91 ⟨1,16,[.bad],.other⟩ (.e) (.e)) (.e))))) (.n 109 ⟨1,24,[.sl []],(.slice 177)⟩ (.n 102 ⟨1,8,[.bad],.other⟩ (.n 98 ⟨1,8,[.bad],.other⟩ (.n 96 ⟨2,16,[.int .i64 0,.int .i64 0],(.struct [(0,3),(1,3)])⟩ (.n 95 ⟨1,8,[.bad],.other⟩ (.e) (.e)) (.n 97 ⟨2,16,[.int .i64 0,.int .i64 0],(.struct [(0,3),(1,3)])⟩ (.e) (.e))) (.n 100 ⟨2,16,[.int .i64 0,.int .i64 0],(.struct [(0,3),(1,3)])⟩ (.n 99 ⟨2,16,[.int .i64 0,.int .i64 0],(.struct [(0,3),(1,3)])⟩ (.e) (.e)) (.n 101 ⟨1,8,[.bad],.other⟩ (.e) (.e)))) (.n 106 ⟨1,8,[.bad],.other⟩ (.n 104 ⟨1,8,[.bad],.other⟩ (.n 103 ⟨1,8,[.bad],.other⟩ (.e) (.e)) (.n 105 ⟨1,8,[.bad],.other⟩ (.e) (.e))) (.n 108 ⟨1,8,[.bad],.other⟩ (.n 107 ⟨1,8,[.bad],.other⟩ (.e) (.e)) (.e)))) (.n 116 ⟨1,8,[.bad],.other⟩ (.n 113 ⟨1,8,[.bad],.other⟩ (.n 111 ⟨4,64,[.int .i64 0,.int .i64 0,.sl [],.sl []],(.struct [(0,3),(1,3),(2,109),(3,110)])⟩ (.n 110 ⟨1,24,[.sl []],(.slice 179)⟩ (.e) (.e)) (.n 112 ⟨4,64,[.int .i64 0,.int .i64 0,.sl [],.sl []],(.struct [(0,3),(1,3),(2,109),(3,110)])⟩ (.e) (.e))) (.n 115 ⟨1,8,[.bad],.other⟩ (.n 114 ⟨1,8,[.bad],.other⟩ (.e) (.e)) (.e))) (.n 120 ⟨1,8,[.bad],.other⟩ (.n 118 ⟨1,8,[.bad],.other⟩ (.n 117 ⟨1,8,[.bad],.other⟩ (.e) (.e)) (.n 119 ⟨1,8,[.bad],.other⟩ (.e) (.e))) (.n 122 ⟨2,32,[.sl [],.int .i64 0],(.struct [(0,22),(1,3)])⟩ (.n 121 ⟨1,8,[.bad],.other⟩ (.e) (.e)) (.e))))))) (.n 186 ⟨1,8,[.int .i64 0],(.int .i64)⟩ (.n 157 ⟨1,8,[.bad],.other⟩ (.n 140 ⟨1,8,[.bad],.other⟩ (.n 132 ⟨1,8,[.bad],.other⟩ (.n 128 ⟨1,8,[.bad],.other⟩ (.n 125 ⟨1,8,[.bad],.other⟩ (.n 124 ⟨1,8,[.bad],.other⟩ (.e) (.e)) (.n 127 ⟨1,8,[.bad],.other⟩ (.e) (.e))) (.n 130 ⟨1,8,[.bad],.other⟩ (.n 129 ⟨1,8,[.bad],.other⟩ (.e) (.e)) (.n 131 ⟨1,8,[.bad],.other⟩ (.e) (.e)))) (.n 136 ⟨1,8,[.bad],.other⟩ (.n 134 ⟨1,8,[.bad],.other⟩ (.n 133 ⟨1,8,[.bad],.other⟩ (.e) (.e)) (.n 135 ⟨1,8,[.bad],.other⟩ (.e) (.e))) (.n 138 ⟨1,8,[.bad],.other⟩ (.n 137 ⟨1,24,[.sl []],(.slice 9)⟩ (.e) (.e)) (.e)))) (.n 150 ⟨1,8,[.bad],.other⟩ (.n 146 ⟨1,8,[.bad],.other⟩ (.n 143 ⟨1,8,[.bad],.other⟩ (.n 142 ⟨1,8,[.bad],.other⟩ (.e) (.e)) (.n 144 ⟨1,8,[.bad],(.ptr 5)⟩ (.e) (.e))) (.n 148 ⟨1,8,[.bad],.other⟩ (.n 147 ⟨1,8,[.bad],.other⟩ (.e) (.e)) (.n 149 ⟨1,8,[.bad],.other⟩ (.e) (.e)))) (.n 154 ⟨1,8,[.bad],.other⟩ (.n 152 ⟨1,8,[.bad],.other⟩ (.n 151 ⟨1,8,[.bad],.other⟩ (.e) (.e)) (.n 153 ⟨1,8,[.bad],.other⟩ (.e) (.e))) (.n 156 ⟨1,8,[.bad],.other⟩ (.n 155 ⟨1,8,[.bad],.other⟩ (.e) (.e)) (.e))))) (.n 172 ⟨1,8,[.int .u64 0],(.int .u64)⟩ (.n 165 ⟨1,8,[.bad],.other⟩ (.n 161 ⟨1,8,[.bad],.other⟩ (.n 159 ⟨1,8,[.bad],.other⟩ (.n 158 ⟨1,8,[.bad],.other⟩ (.e) (.e)) (.n 160 ⟨1,8,[.bad],.other⟩ (.e) (.e))) (.n 163 ⟨1,8,[.bad],.other⟩ (.n 162 ⟨1,8,[.bad],.other⟩ (.e) (.e)) (.n 164 ⟨1,8,[.bad],.other⟩ (.e) (.e)))) (.n 169 ⟨1,8,[.bad],.other⟩ (.n 167 ⟨1,8,[.bad],.other⟩ (.n 166 ⟨1,8,[.bad],.other⟩ (.e) (.e)) (.n 168 ⟨1,8,[.bad],.other⟩ (.e) (.e))) (.n 171 ⟨1,8,[.bad],.other⟩ (.n 170 ⟨1,8,[.bad],.other⟩ (.e) (.e)) (.e)))) (.n 179 ⟨2,16,[.int .i64 0,.int .i64 0],(.struct [(0,3),(1,3)])⟩ (.n 176 ⟨1,8,[.bad],.other⟩ (.n 174 ⟨1,8,[.bad],.other⟩ (.n 173 ⟨1,8,[.bad],.other⟩ (.e) (.e)) (.n 175 ⟨3,24,[.int .i64 0,.int .i64 0,.int .i64 0],(.struct [(0,3),(1,3),(2,3)])⟩ (.e) (.e))) (.n 178 ⟨1,8,[.bad],.other⟩ (.n 177 ⟨2,16,[.int .i64 0,.int .i64 0],(.struct [(0,3),(1,3)])⟩ (.e) (.e)) (.e))) (.n 183 ⟨1,8,[.bad],.other⟩ (.n 181 ⟨1,8,[.bad],.other⟩ (.n 180 ⟨1,8,[.bad],.other⟩ (.e) (.e)) (.n 182 ⟨1,8,[.bad],.other⟩ (.e) (.e))) (.n 185 ⟨1,8,[.bad],.other⟩ (.n 184 ⟨1,8,[.bad],.other⟩ (.e) (.e)) (.e)))))) (.n 220 ⟨1,8,[.bad],.other⟩ (.n 205 ⟨3,48,[.str ⟨#[]⟩,.str ⟨#[]⟩,.bad],(.struct [(0,9),(1,9),(2,92)])⟩ (.n 195 ⟨1,8,[.bad],.other⟩ (.n 191 ⟨1,8,[.bad],.other⟩ (.n 189 ⟨1,8,[.bad],(.ptr 205)⟩ (.n 188 ⟨1,8,[.bad],.other⟩ (.e) (.e)) (.n 190 ⟨1,8,[.bad],.other⟩ (.e) (.e))) (.n 193 ⟨1,8,[.int .u64 0],(.int .u64)⟩ (.n 192 ⟨24,24,[.int .u8 0,.int .u8 0,.int .u8 0,.int .u8 0,.int .u8 0,.int .u8 0,.int .u8 0,.int .u8 0,.int .u8 0,.int .u8 0,.int .u8 0,.int .u8 0,.int .u8 0,.int .u8 0,.int .u8 0,.int .u8 0,.int .u8 0,.int .u8 0,.int .u8 0,.int .u8 0,.int .u8 0,.int .u8 0,.int .u8 0,.int .u8 0],(.array 24 5)⟩ (.e) (.e)) (.n 194 ⟨1,8,[.bad],.other⟩ (.e) (.e)))) (.n 202 ⟨1,8,[.bad],.other⟩ (.n 199 ⟨1,8,[.bad],.other⟩ (.n 197 ⟨1,8,[.bad],.other⟩ (.e) (.e)) (.n 200 ⟨1,8,[.bad],.other⟩ (.e) (.e))) (.n 204 ⟨3,48,[.str ⟨#[]⟩,.str ⟨#[]⟩,.bad],(.struct [(0,9),(1,9),(2,92)])⟩ (.n 203 ⟨1,8,[.bad],.other⟩ (.e) (.e)) (.e)))) (.n 212 ⟨1,8,[.bad],.other⟩ (.n 209 ⟨1,4,[.int .u32 0],(.int .u32)⟩ (.n 207 ⟨1,8,[.bad],.other⟩ (.n 206 ⟨1,8,[.bad],.other⟩ (.e) (.e)) (.n 208 ⟨20,160,[.int .u64 0,.int .u64 0,.int .u64 0,.int .u64 0,.int .u64 0,.int .u64 0,.int .u64 0,.int .u64 0,.int .u64 0,.int .u64 0,.int .u64 0,.int .u64 0,.int .u64 0,.int .u64 0,.int .u64 0,.int .u64 0,.int .u64 0,.int .u64 0,.int .u64 0,.int .u64 0],(.array 20 193)⟩ (.e) (.e))) (.n 211 ⟨1,8,[.bad],.other⟩ (.n 210 ⟨65,65,[.int .u8 0,.int .u8 0,.int .u8 0,.int .u8 0,.int .u8 0,.int .u8 0,.int .u8 0,.int .u8 0,.int .u8 0,.int .u8 0,.int .u8 0,.int .u8 0,.int .u8 0,.int .u8 0,.int .u8 0,.int .u8 0,.int .u8 0,.int .u8 0,.int .u8 0,.int .u8 0,.int .u8 0,.int .u8 0,.int .u8 0,.int .u8 0,.int .u8 0,.int .u8 0,.int .u8 0,.int .u8 0,.int .u8 0,.int .u8 0,.int .u8 0,.int .u8 0,.int .u8 0,.int .u8 0,.int .u8 0,.int .u8 0,.int .u8 0,.int .u8 0,.int .u8 0,.int .u8 0,.int .u8 0,.int .u8 0,.int .u8 0,.int .u8 0,.int .u8 0,.int .u8 0,.int .u8 0,.int .u8 0,.int .u8 0,.int .u8 0,.int .u8 0,.int .u8 0,.int .u8 0,.int .u8 0,.int .u8 0,.int .u8 0,.int .u8 0,.int .u8 0,.int .u8 0,.int .u8 0,.int .u8 0,.int .u8 0,.int .u8 0,.int .u8 0,.int .u8 0],(.array 65 5)⟩ (.e) (.e)) (.e))) (.n 217 ⟨1,8,[.bad],(.ptr 219)⟩ (.n 215 ⟨1,8,[.bad],.other⟩ (.n 214 ⟨1,8,[.bad],.other⟩ (.e) (.e)) (.n 216 ⟨1,8,[.bad],.other⟩ (.e) (.e))) (.n 219 ⟨1,16,[.str ⟨#[]⟩],(.struct [(0,9)])⟩ (.n 218 ⟨1,16,[.str ⟨#[]⟩],(.struct [(0,9)])⟩ (.e) (.e)) (.e))))) (.n 235 ⟨1,1,[.int .u8 0],(.int .u8)⟩ (.n 228 ⟨1,8,[.bad],(.ptr 248)⟩ (.n 224 ⟨32,32,[.int .u8 0,.int .u8 0,.int .u8 0,.int .u8 0,.int .u8 0,.int .u8 0,.int .u8 0,.int .u8 0,.int .u8 0,.int .u8 0,.int .u8 0,.int .u8 0,.int .u8 0,.int .u8 0,.int .u8 0,.int .u8 0,.int .u8 0,.int .u8 0,.int .u8 0,.int .u8 0,.int .u8 0,.int .u8 0,.int .u8 0,.int .u8 0,.int .u8 0,.int .u8 0,.int .u8 0,.int .u8 0,.int .u8 0,.int .u8 0,.int .u8 0,.int .u8 0],(.array 16 223)⟩ (.n 222 ⟨2,2,[.int .u8 0,.int .u8 0],(.struct [(0,5),(1,5)])⟩ (.n 221 ⟨256,256,[.int .u8 0,.int .u8 0,.int .u8 0,.int .u8 0,.int .u8 0,.int .u8 0,.int .u8 0,.int .u8 0,.int .u8 0,.int .u8 0,.int .u8 0,.int .u8 0,.int .u8 0,.int .u8 0,.int .u8 0,.int .u8 0,.int .u8 0,.int .u8 0,.int .u8 0,.int .u8 0,.int .u8 0,.int .u8 0,.int .u8 0,.int .u8 0,.int .u8 0,.int .u8 0,.int .u8 0,.int .u8 0,.int .u8 0,.int .u8 0,.int .u8 0,.int .u8 0,.int .u8 0,.int .u8 0,.int .u8 0,.int .u8 0,.int .u8 0,.int .u8 0,.int .u8 0,.int .u8 0,.int .u8 0,.int .u8 0,.int .u8 0,.int .u8 0,.int .u8 0,.int .u8 0,.int .u8 0,.int .u8 0,.int .u8 0,.int .u8 0,.int .u8 0,.int .u8 0,.int .u8 0,.int .u8 0,.int .u8 0,.int .u8 0,.int .u8 0,.int .u8 0,.int .u8 0,.int .u8 0,.int .u8 0,.int .u8 0,.int .u8 0,.int .u8 0,.int .u8 0,.int .u8 0,.int .u8 0,.int .u8 0,.int .u8 0,.int .u8 0,.int .u8 0,.int .u8 0,.int .u8 0,.int .u8 0,.int .u8 0,.int .u8 0,.int .u8 0,.int .u8 0,.int .u8 0,.int .u8 0,.int .u8 0,.int .u8 0,.int .u8 0,.int .u8 0,.int .u8 0,.int .u8 0,.int .u8 0,.int .u8 0,.int .u8 0,.int .u8 0,.int .u8 0,.int .u8 0,.int .u8 0,.int .u8 0,.int .u8 0,.int .u8 0,.int .u8 0,.int .u8 0,.int .u8 0,.int .u8 0,.int .u8 0,.int .u8 0,.int .u8 0,.int .u8 0,.int .u8 0,.int .u8 0,.int .u8 0,.int .u8 0,.int .u8 0,.int .u8 0,.int .u8 0,.int .u8 0,.int .u8 0,.int .u8 0,.int .u8 0,.int .u8 0,.int .u8 0,.int .u8 0,.int .u8 0,.int .u8 0,.int .u8 0,.int .u8 0,.int .u8 0,.int .u8 0,.int .u8 0,.int .u8 0,.int .u8 0,.int .u8 0,.int .u8 0,.int .u8 0,.int .u8 0,.int .u8 0,.int .u8 0,.int .u8 0,.int .u8 0,.int .u8 0,.int .u8 0,.int .u8 0,.int .u8 0,.int .u8 0,.int .u8 0,.int .u8 0,.int .u8 0,.int .u8 0,.int .u8 0,.int .u8 0,.int .u8 0,.int .u8 0,.int .u8 0,.int .u8 0,.int .u8 0,.int .u8 0,.int .u8 0,.int .u8 0,.int .u8 0,.int .u8 0,.int .u8 0,.int .u8 0,.int .u8 0,.int .u8 0,.int .u8 0,.int .u8 0,.int .u8 0,.int .u8 0,.int .u8 0,.int .u8 0,.int .u8 0,.int .u8 0,.int .u8 0,.int .u8 0,.int .u8 0,.int .u8 0,.int .u8 0,.int .u8 0,.int .u8 0,.int .u8 0,.int .u8 0,.int .u8 0,.int .u8 0,.int .u8 0,.int .u8 0,.int .u8 0,.int .u8 0,.int .u8 0,.int .u8 0,.int .u8 0,.int .u8 0,.int .u8 0,.int .u8 0,.int .u8 0,.int .u8 0,.int .u8 0,.int .u8 0,.int .u8 0,.int .u8 0,.int .u8 0,.int .u8 0,.int .u8 0,.int .u8 0,.int .u8 0,.int .u8 0,.int .u8 0,.int .u8 0,.int .u8 0,.int .u8 0,.int .u8 0,.int .u8 0,.int .u8 0,.int .u8 0,.int .u8 0,.int .u8 0,.int .u8 0,.int .u8 0,.int .u8 0,.int .u8 0,.int .u8 0,.int .u8 0,.int .u8 0,.int .u8 0,.int .u8 0,.int .u8 0,.int .u8 0,.int .u8 0,.int .u8 0,.int .u8 0,.int .u8 0,.int .u8 0,.int .u8 0,.int .u8 0,.int .u8 0,.int .u8 0,.int .u8 0,.int .u8 0,.int .u8 0,.int .u8 0,.int .u8 0,.int .u8 0,.int .u8 0,.int .u8 0,.int .u8 0,.int .u8 0,.int .u8 0,.int .u8 0,.int .u8 0,.int .u8 0,.int .u8 0,.int .u8 0,.int .u8 0,.int .u8 0,.int .u8 0,.int .u8 0,.int .u8 0,.int .u8 0,.int .u8 0,.int .u8 0,.int .u8 0],(.array 256 5)⟩ (.e) (.e)) (.n 223 ⟨2,2,[.int .u8 0,.int .u8 0],(.struct [(0,5),(1,5)])⟩ (.e) (.e))) (.n 226 ⟨64,64,[.int .u8 0,.int .u8 0,.int .u8 0,.int .u8 0,.int .u8 0,.int .u8 0,.int .u8 0,.int .u8 0,.int .u8 0,.int .u8 0,.int .u8 0,.int .u8 0,.int .u8 0,.int .u8 0,.int .u8 0,.int .u8 0,.int .u8 0,.int .u8 0,.int .u8 0,.int .u8 0,.int .u8 0,.int .u8 0,.int .u8 0,.int .u8 0,.int .u8 0,.int .u8 0,.int .u8 0,.int .u8 0,.int .u8 0,.int .u8 0,.int .u8 0,.int .u8 0,.int .u8 0,.int .u8 0,.int .u8 0,.int .u8 0,.int .u8 0,.int .u8 0,.int .u8 0,.int .u8 0,.int .u8 0,.int .u8 0,.int .u8 0,.int .u8 0,.int .u8 0,.int .u8 0,.int .u8 0,.int .u8 0,.int .u8 0,.int .u8 0,.int .u8 0,.int .u8 0,.int .u8 0,.int .u8 0,.int .u8 0,.int .u8 0,.int .u8 0,.int .u8 0,.int .u8 0,.int .u8 0,.int .u8 0,.int .u8 0,.int .u8 0,.int .u8 0],(.array 64 5)⟩ (.n 225 ⟨32,32,[.int .u8 0,.int .u8 0,.int .u8 0,.int .u8 0,.int .u8 0,.int .u8 0,.int .u8 0,.int .u8 0,.int .u8 0,.int .u8 0,.int .u8 0,.int .u8 0,.int .u8 0,.int .u8 0,.int .u8 0,.int .u8 0,.int .u8 0,.int .u8 0,.int .u8 0,.int .u8 0,.int .u8 0,.int .u8 0,.int .u8 0,.int .u8 0,.int .u8 0,.int .u8 0,.int .u8 0,.int .u8 0,.int .u8 0,.int .u8 0,.int .u8 0,.int .u8 0],(.array 32 5)⟩ (.e) (.e)) (.n 227 ⟨1,8,[.bad],(.ptr 245)⟩ (.e) (.e)))) (.n 232 ⟨0,0,[],(.struct [(0,231)])⟩ (.n 230 ⟨4,40,[.bad,.bad,.bad,.str ⟨#[]⟩],(.struct [(0,17),(1,17),(2,17),(3,9)])⟩ (.n 229 ⟨4,40,[.bad,.bad,.bad,.str ⟨#[]⟩],(.struct [(0,17),(1,17),(2,17),(3,9)])⟩ (.e) (.e)) (.n 231 ⟨0,0,[],(.array 0 16)⟩ (.e) (.e))) (.n 234 ⟨1,8,[.bad],.other⟩ (.n 233 ⟨0,0,[],(.struct [(0,231)])⟩ (.e) (.e)) (.e)))) (.n 242 ⟨1,8,[.bad],.other⟩ (.n 239 ⟨1,4,[.int .i32 0],(.int .i32)⟩ (.n 237 ⟨1,8,[.bad],.other⟩ (.n 236 ⟨1,1,[.int .u8 0],(.int .u8)⟩ (.e) (.e)) (.n 238 ⟨1,4,[.int .i32 0],(.int .i32)⟩ (.e) (.e))) (.n 241 ⟨11,48,[.int .u64 0,.int .u64 0,.int .u32 0,.int .u8 0,.int .u8 0,.int .u8 0,.int .u8 0,.bad,.bad,.int .i32 0,.int .i32 0],(.struct [(0,12),(1,12),(2,209),(3,235),(4,5),(5,5),(6,236),(7,237),(8,144),(9,238),(10,239)])⟩ (.n 240 ⟨11,48,[.int .u64 0,.int .u64 0,.int .u32 0,.int .u8 0,.int .u8 0,.int .u8 0,.int .u8 0,.bad,.bad,.int .i32 0,.int .i32 0],(.struct [(0,12),(1,12),(2,209),(3,235),(4,5),(5,5),(6,236),(7,237),(8,144),(9,238),(10,239)])⟩ (.e) (.e)) (.e))) (.n 246 ⟨1,24,[.sl []],(.slice 92)⟩ (.n 244 ⟨2,32,[.str ⟨#[]⟩,.bad],(.struct [(0,9),(1,92)])⟩ (.n 243 ⟨1,8,[.bad],.other⟩ (.e) (.e)) (.n 245 ⟨2,32,[.str ⟨#[]⟩,.bad],(.struct [(0,9),(1,92)])⟩ (.e) (.e))) (.n 248 ⟨2,40,[.str ⟨#[]⟩,.sl []],(.struct [(0,9),(1,246)])⟩ (.n 247 ⟨2,40,[.str ⟨#[]⟩,.sl []],(.struct [(0,9),(1,246)])⟩ (.e) (.e)) (.e)))))))
abbrev n_l_FnTrimAdd:Nat:=7
abbrev kD:Nat:=10
abbrev mK:Nat:=11
abbrev rE:Nat:=13
abbrev rF:Nat:=14
abbrev jC:Nat:=15
abbrev rG:Nat:=16
abbrev xH:Nat:=17
abbrev jM:Nat:=18
abbrev pN:Nat:=19
abbrev jD:Nat:=20
abbrev nF:Nat:=23
abbrev tQ:Nat:=33
abbrev pO:Nat:=34
abbrev rH:Nat:=35
abbrev aH:Nat:=36
abbrev pP:Nat:=37
abbrev kQ:Nat:=38
abbrev pQ:Nat:=39
abbrev nG:Nat:=40
abbrev nH:Nat:=41
abbrev eL:Nat:=42
abbrev pR:Nat:=43
abbrev fK:Nat:=44
abbrev rI:Nat:=46
abbrev tR:Nat:=47
abbrev nI:Nat:=48
abbrev kR:Nat:=49
abbrev nJ:Nat:=50
abbrev sG:Nat:=51
abbrev iK:Nat:=56
abbrev mL:Nat:=57
abbrev tS:Nat:=58
abbrev tT:Nat:=59
abbrev Ef:Nat:=60
abbrev tU:Nat:=61
abbrev cG:Nat:=63
abbrev rJ:Nat:=79
abbrev kS:Nat:=80
abbrev nK:Nat:=81
abbrev pS:Nat:=82
abbrev tV:Nat:=83
abbrev sH:Nat:=84
abbrev jN:Nat:=85
abbrev mM:Nat:=86
abbrev lC:Nat:=87
abbrev xI:Nat:=88
abbrev pX:Nat:=89
abbrev rK:Nat:=90
abbrev lW:Nat:=91
abbrev mN:Nat:=92
abbrev cX:Nat:=93
abbrev tW:Nat:=94
abbrev pY:Nat:=95
abbrev lP:Nat:=96
abbrev tA:Nat:=97
abbrev jE:Nat:=98
abbrev mO:Nat:=99
abbrev oN:Nat:=100
abbrev lD:Nat:=101
abbrev pT:Nat:=104
abbrev jO:Nat:=105
abbrev dK:Nat:=106
abbrev pZ:Nat:=107
abbrev tX:Nat:=108
abbrev pU:Nat:=110
abbrev eZ:Nat:=111
abbrev rL:Nat:=126
abbrev sI:Nat:=127
abbrev rM:Nat:=128
abbrev tY:Nat:=129
abbrev lE:Nat:=130
abbrev kT:Nat:=131
abbrev gZ:Nat:=140
abbrev xJ:Nat:=147
abbrev jP:Sig:=⟨[.v false [.r]],[.nbox [.r,.s]]⟩
abbrev hU:Sig:=⟨[.box false [.r,.s],.v false [.s],.v false [.s]],[.v true [.s,.s,.o false ⟨2,false⟩,.o false ⟨2,false⟩]]⟩
abbrev fM:Sig:=⟨[.box false [.r,.s]],[.v true [.s,.s,.o false ⟨2,false⟩,.o false ⟨2,false⟩]]⟩
abbrev fN:Sig:=⟨[.v false [.s],.v false [.s],.v false [.b]],[.v true [.s,.s,.o false ⟨3,false⟩],.v false [.s]]⟩
abbrev gH:Sig:=⟨[.box false [.r,.s]],[.v true [.s,.s,.o false ⟨3,false⟩]]⟩
abbrev eD:Sig:=⟨[.v false [.s]],[.v true [.s,.s,.r,.r],.v false [.s]]⟩
abbrev lX:Sig:=⟨[.v false [.s],.v false [.s]],[.v false [.r]]⟩
abbrev iL:Sig:=⟨[.v false [.b]],[.v false [.r]]⟩
abbrev eA:Sig:=⟨[.v true [.s,.s,.b,.b]],[.v true [.s,.s,.o false ⟨2,false⟩,.o false ⟨2,false⟩]]⟩
abbrev jQ:Sig:=⟨[.v true [.s,.b,.s,.s,.s,.s,.b],.v false [.r],.v false [.s]],[.v false [.r],.v false [.s]]⟩
abbrev gI:Sig:=⟨[.v true [.s,.s,.b],.v false [.s]],[.v true [.s,.s,.r,.r],.v false [.s]]⟩
abbrev iM:Sig:=⟨[.box false [.r,.s]],[.v true [.s,.r,.s]]⟩
abbrev iN:Sig:=⟨[.box false [.r,.s]],[.v false [.o false ⟨1,false⟩]]⟩
abbrev Jj:Sig:=⟨[.v false [.o false ⟨4,false⟩],.v true [.s,.s,.b,.b]],[.v false [.o false ⟨4,false⟩],.v false [.s]]⟩
abbrev bL:Sig:=⟨[.v false [.b],.v true [.s,.s,.b,.b],.clo cG],[.v false [.s],.v false [.s]]⟩
abbrev qA:Sig:=⟨[.v false [.o false ⟨4,false⟩],.v false [.s],.v false [.o false ⟨4,false⟩]],[.v false [.o false ⟨4,false⟩]]⟩
abbrev hH:Sig:=⟨[.v false [.s],.v false [.s]],[.v false [.r]]⟩
abbrev jR:Sig:=⟨[.box false [.r,.s]],[.v false [.o true ⟨4,false⟩]]⟩
abbrev eE:Sig:=⟨[.box false [.r,.s]],[.v false [.o true ⟨4,false⟩]]⟩
abbrev fO:Sig:=⟨[.v false [.r],.v true [.s,.s,.r,.r]],[.v false [.o true ⟨4,false⟩]]⟩
abbrev tB:Sig:=⟨[.v true [.s,.b,.s,.s,.s,.s,.b],.v false [.b]],[.v false [.o false ⟨4,false⟩]]⟩
abbrev fP:Sig:=⟨[.v false [.b],.v false [.b]],[.v false [.s]]⟩
abbrev iO:Sig:=⟨[.v true [.s,.b,.s,.s,.s,.s,.b]],[.v false [.s]]⟩
abbrev iP:Sig:=⟨[.v false [.b]],[.v false [.s]]⟩
abbrev dS:Sig:=⟨[.v true [.s,.s,.b],.v false [.s]],[.v true [.s,.s,.o false ⟨2,false⟩,.o false ⟨2,false⟩],.v false [.s]]⟩
abbrev kU:Sig:=⟨[.v true [.s,.s,.b,.b]],[.v false [.s]]⟩
abbrev lY:Sig:=⟨[.v true [.s,.s,.b,.b],.v true [.s,.s,.b,.b]],[.v false [.s]]⟩
abbrev dD:Sig:=⟨[.v false [.r]],[.v true [.s,.r,.s,.s,.s,.s,.r],.v false [.r],.v false [.s]]⟩
abbrev gJ:Sig:=⟨[.v true [.s,.r,.s,.s,.s,.s,.r],.v false [.r],.v false [.s]],[.v false [.r],.v false [.s]]⟩
abbrev vJ:Sig:=⟨[.v true [.s,.b,.s,.s,.s,.s,.b],.v false [.b],.v false [.s]],[.v false [.o false ⟨4,false⟩],.v false [.s]]⟩
abbrev fQ:Sig:=⟨[.v false [.b]],[.v false [.s]]⟩
abbrev gK:Sig:=⟨[.box false [.r,.s]],[.v true [.s,.r,.s,.s,.s,.s,.r],.v false [.r]]⟩
abbrev iQ:Sig:=⟨[.box false [.r,.s],.v false [.r]],[.v false [.r]]⟩
abbrev aF:Sig:=⟨[.box false [.r,.s],.v false [.s]],[.v false [.s]]⟩
abbrev eF:Sig:=⟨[.v false [.b],.v false [.s],.v false [.s]],[.v false [.s]]⟩
abbrev hY:Sig:=⟨[.v false [.b]],[.v false [.s]]⟩
abbrev fR:Sig:=⟨[.v true [.s,.b,.s,.s,.s,.s,.b]],[.v false [.s]]⟩
abbrev bW:Sig:=⟨[.v false [.b],.v true [.s,.s,.s]],[.v false [.s]]⟩
abbrev hZ:Sig:=⟨[.v true [.s,.s,.b,.b]],[.v true [.s,.s,.s]]⟩
abbrev rN:Sig:=⟨[.v true [.s,.s,.b,.b]],[.v true [.s,.s,.o false ⟨2,false⟩,.o false ⟨2,false⟩]]⟩
abbrev jS:Sig:=⟨[.v true [.s,.b,.s]],[.v false [.s]]⟩
abbrev fS:Sig:=⟨[.v true [.s,.s,.b]],[.v false [.s]]⟩
abbrev eG:Sig:=⟨[.v false [.s]],[.v true [.s,.s,.o false ⟨2,false⟩,.o false ⟨2,false⟩],.v false [.s]]⟩
abbrev fU:Sig:=⟨[.v true [.s,.s,.b]],[.v false [.s]]⟩
abbrev jT:Sig:=⟨[.v true [.s,.s,.b,.b]],[.v false [.s]]⟩
abbrev dU:Sig:=⟨[.v true [.s,.s,.b,.b]],[.v false [.s]]⟩
abbrev Bn:Sig:=⟨[.v false [.b]],[.v false [.o false ⟨4,false⟩]]⟩
abbrev jU:Sig:=⟨[.v true [.s,.b,.s]],[.v false [.s]]⟩
abbrev cH:Sig:=⟨[.v true [.s,.s,.b,.b],.v true [.s,.s,.b,.b]],[.v false [.s]]⟩
abbrev jV:Sig:=⟨[.v true [.s,.s,.b,.b]],[.v false [.s]]⟩
abbrev eM:Sig:=⟨[.v false [.s],.v false [.s],.v false [.s],.v false [.s]],[.v false [.s]]⟩
abbrev eB:Sig:=⟨[.v true [.s,.s,.b],.v true [.s,.s,.b]],[.v false [.s]]⟩
abbrev dM:Sig:=⟨[.v false [.b],.v true [.s,.s,.s]],[.v false [.s]]⟩
abbrev lZ:Sig:=⟨[.v false [.s]],[.v false [.s]]⟩
abbrev qB:Sig:=⟨[.v false [.b]],[.v false [.o true ⟨2,false⟩]]⟩
abbrev rO:Sig:=⟨[.v false [.b]],[.v false [.o true ⟨2,false⟩]]⟩
abbrev cA:Sig:=⟨[.v false [.s],.v false [.s],.v false [.s]],[.v false [.s]]⟩
abbrev jW:Sig:=⟨[.v false [.b]],[.v false [.s]]⟩
abbrev eN:Sig:=⟨[.v false [.s]],[.v false [.s],.v false [.s]]⟩
abbrev kF:Sig:=⟨[.v false [.s],.v false [.s]],[.v false [.s],.v false [.s],.v false [.s]]⟩
abbrev dF:Sig:=⟨[.v false [.s]],[.v false [.s],.v false [.x]]⟩
abbrev fV:Sig:=⟨[.v false [.s]],[.v false [.s]]⟩
abbrev iR:Sig:=⟨[.v false [.s]],[.v false [.s]]⟩
abbrev iA:Sig:=⟨[.v false [.s],.v false [.s],.v false [.s]],[.v false [.s]]⟩
abbrev iB:Sig:=⟨[.v false [.s],.v false [.s]],[.v false [.s]]⟩
abbrev eT:Sig:=⟨[.v false [.s]],[.v false [.s]]⟩
abbrev jX:Sig:=⟨[.v false [.b]],[.v false [.s]]⟩
abbrev gL:Sig:=⟨[.v false [.b]],[.v false [.s]]⟩
abbrev cC:Sig:=⟨[.v false [.s],.v false [.s]],[.v false [.s]]⟩
abbrev jY:Sig:=⟨[.v false [.s]],[.v false [.s]]⟩
abbrev iS:Sig:=⟨[.v false [.b]],[.v false [.s]]⟩
abbrev jZ:Sig:=⟨[.v false [.s],.v false [.b]],[.v false [.s]]⟩
abbrev dN:Sig:=⟨[.v false [.b],.v false [.b]],[.v false [.s]]⟩
abbrev cR:Sig:=⟨[.v false [.s]],[.v false [.s]]⟩
def sigs:Tr (List Sig):= .n 80 [eE] (.n 40 [fO] (.n 20 [vJ] (.n 15 [dS] (.n 13 [iO] (.n 11 [fP] (.n 10 [tB] (.e) (.e)) (.e)) (.n 14 [iP] (.e) (.e))) (.n 18 [dD] (.n 17 [lY] (.n 16 [kU] (.e) (.e)) (.e)) (.n 19 [gJ] (.e) (.e)))) (.n 36 [aF] (.n 34 [gK] (.n 33 [jP] (.n 23 [fQ] (.e) (.e)) (.e)) (.n 35 [iQ] (.e) (.e))) (.n 38 [eF] (.n 37 [hU] (.e) (.e)) (.n 39 [hY] (.e) (.e))))) (.n 51 [jT] (.n 46 [iL] (.n 43 [hZ] (.n 42 [bW] (.n 41 [fR] (.e) (.e)) (.e)) (.n 44 [rN] (.e) (.e))) (.n 49 [eG] (.n 48 [fS] (.n 47 [jS] (.e) (.e)) (.e)) (.n 50 [fU] (.e) (.e)))) (.n 60 [Jj] (.n 58 [jQ] (.n 57 [fM] (.n 56 [dU] (.e) (.e)) (.e)) (.n 59 [Bn] (.e) (.e))) (.n 63 [cH] (.n 61 [jU] (.e) (.e)) (.n 79 [iM] (.e) (.e)))))) (.n 99 [fV] (.n 90 [rO] (.n 85 [eM] (.n 83 [jR] (.n 82 [gH] (.n 81 [fN] (.e) (.e)) (.e)) (.n 84 [jV] (.e) (.e))) (.n 88 [lZ] (.n 87 [dM] (.n 86 [eB] (.e) (.e)) (.e)) (.n 89 [qB] (.e) (.e)))) (.n 95 [hH] (.n 93 [cA] (.n 92 [eA] (.n 91 [gI] (.e) (.e)) (.e)) (.n 94 [jW] (.e) (.e))) (.n 97 [kF] (.n 96 [eN] (.e) (.e)) (.n 98 [dF] (.e) (.e))))) (.n 111 [cC] (.n 106 [bL] (.n 104 [iB] (.n 101 [iA] (.n 100 [iR] (.e) (.e)) (.e)) (.n 105 [eT] (.e) (.e))) (.n 108 [jX] (.n 107 [qA] (.e) (.e)) (.n 110 [gL] (.e) (.e)))) (.n 130 [dN] (.n 128 [iS] (.n 127 [jY] (.n 126 [iN] (.e) (.e)) (.e)) (.n 129 [jZ] (.e) (.e))) (.n 140 [cR] (.n 131 [eD] (.e) (.e)) (.n 147 [lX] (.e) (.e))))))
def fH:List Nat:=[97,100,80]
theorem SV:tt.all (JD PP)=true:=by kernel_rfl
theorem aP {C:Cfg}(h:C.tt=tt):CfgOk PP C:=fun t ti ht=>Lj (Tr.get_all (p:=JD PP) SV (by rw [←h];exact ht))
theorem RQ:fH.all (fun t=>match tt.get t with | some ti=>JX PP t ti.zero | none=>true)=true:=by kernel_rfl
theorem bB {C:Cfg}(ht:C.tt=tt)(he:C.eqt=fH):EqOk PP C:=Om (by unfold Cfg.ty;rw [ht,he];exact RQ)
theorem mixed:PP.follows .mixedOrders=true:=by kernel_rfl

end
section

abbrev oO:Sig:=⟨[.v false [.o true ⟨4,true⟩],.v true [.s,.s,.b,.b]],[.v false [.o true ⟨4,true⟩],.v false [.s]]⟩
abbrev jF:Sig:=⟨[.v false [.b]],[.v false [.o true ⟨4,true⟩]]⟩
abbrev cM:Sig:=⟨[.v true [.s,.s,.b,.b]],[.v true [.s,.s,.o true ⟨2,true⟩,.o true ⟨2,true⟩]]⟩
abbrev fA:Sig:=⟨[.v false [.b]],[.v false [.o true ⟨2,true⟩]]⟩
abbrev gM:Sig:=⟨[.v false [.b]],[.v false [.o true ⟨2,true⟩]]⟩
abbrev fE:Sig:=⟨[.v false [.o true ⟨4,true⟩],.v false [.s],.v false [.o true ⟨4,true⟩]],[.v false [.o true ⟨4,true⟩]]⟩
abbrev dO:Sig:=⟨[.v true [.s,.b,.s,.s,.s,.s,.b],.v false [.b]],[.v false [.o true ⟨4,true⟩]]⟩
abbrev dG:Sig:=⟨[.v true [.s,.b,.s,.s,.s,.s,.b],.v false [.b],.v false [.s]],[.v false [.o true ⟨4,true⟩],.v false [.s]]⟩
abbrev lF:Sig:=⟨[.v false [.r]],[.v false [.s]]⟩
def yS:Tr (List Sig):= .n 80 [eE] (.n 40 [fO] (.n 20 [dG,vJ] (.n 15 [dS] (.n 13 [iO] (.n 11 [fP] (.n 10 [dO,tB] (.e) (.e)) (.e)) (.n 14 [iP] (.e) (.e))) (.n 18 [dD] (.n 17 [lY] (.n 16 [kU] (.e) (.e)) (.e)) (.n 19 [gJ] (.e) (.e)))) (.n 36 [aF] (.n 34 [gK] (.n 33 [jP] (.n 23 [fQ] (.e) (.e)) (.e)) (.n 35 [iQ] (.e) (.e))) (.n 38 [eF] (.n 37 [hU] (.e) (.e)) (.n 39 [hY] (.e) (.e))))) (.n 51 [jT] (.n 46 [iL] (.n 43 [hZ] (.n 42 [bW] (.n 41 [fR] (.e) (.e)) (.e)) (.n 44 [cM,rN] (.e) (.e))) (.n 49 [eG] (.n 48 [fS] (.n 47 [jS] (.e) (.e)) (.e)) (.n 50 [fU] (.e) (.e)))) (.n 60 [oO,Jj] (.n 58 [jQ] (.n 57 [fM] (.n 56 [dU] (.e) (.e)) (.e)) (.n 59 [jF,Bn] (.e) (.e))) (.n 63 [cH] (.n 61 [jU] (.e) (.e)) (.n 79 [iM] (.e) (.e)))))) (.n 99 [fV] (.n 90 [gM,rO] (.n 85 [eM] (.n 83 [jR] (.n 82 [gH] (.n 81 [fN] (.e) (.e)) (.e)) (.n 84 [jV] (.e) (.e))) (.n 88 [lZ] (.n 87 [dM] (.n 86 [eB] (.e) (.e)) (.e)) (.n 89 [fA,qB] (.e) (.e)))) (.n 95 [hH] (.n 93 [cA] (.n 92 [eA] (.n 91 [gI] (.e) (.e)) (.e)) (.n 94 [jW] (.e) (.e))) (.n 97 [kF] (.n 96 [eN] (.e) (.e)) (.n 98 [dF] (.e) (.e))))) (.n 111 [cC] (.n 106 [bL] (.n 104 [iB] (.n 101 [iA] (.n 100 [iR] (.e) (.e)) (.e)) (.n 105 [eT] (.e) (.e))) (.n 108 [jX] (.n 107 [fE,qA] (.e) (.e)) (.n 110 [gL] (.e) (.e)))) (.n 130 [dN] (.n 128 [iS] (.n 127 [jY] (.n 126 [iN] (.e) (.e)) (.e)) (.n 129 [jZ] (.e) (.e))) (.n 140 [cR] (.n 131 [eD] (.e) (.e)) (.n 147 [lX] (.e) (.e))))))

end
section

def p_s_l6Open:PC:= .seq (.ss [.mv 2 (.c (.bad))]) (.seq (.seq (.ss [.mv 3 (.t 0),.len 4 (.t 3),.bin 5 .gtr (.t 4) (.c (.int .i64 2000))]) (.cond (.t 5) (.ss [.mv 6 (.t 0),.lsl 7 1 (.t 6) none (some (.c (.int .i64 2000))) none,.mv 0 (.t 7)]) (.skip))) (.seq (.ss [.mv 8 (.t 0),.bld 9 [.sl [],.int .i64 0] [(0,(.t 8))],.mv 10 (.t 9),.nop]) (.ret [10])))
def Bo:Cfg:={tt:=tt,sigs:=sigs,mv:=false,bm:=[],eqt:=fH,keep:=[true,false,true,false,false,true,false,false,false,false,true],n:=11,pin:=[],fail:=[],fz:=[] }
theorem Hx:bP Bo Tryz.f33 jP=some p_s_l6Open:=by kernel_rfl
theorem Hy {W:Wld}{ins outs:List (List D)}(h:pwp (FunOk PP W) p_s_l6Open (aR outs) (envL ins)):FunOk PP W tQ jP ins outs:=aQ (C:=Bo) (aP rfl) (bB rfl rfl) mixed Tryz.func33 (by kernel_rfl) (by kernel_rfl) Hx h

def p_s_l71Pkg:PC:= .seq (.ss [.bld 6 [.int .i64 0,.int .i64 0,.sl [],.sl []] []]) (.seq (.ss [.mv 11 (.t 1),.mv 12 (.t 2),.lit 13 0 [.int .i64 0,.int .i64 0] [],.lit 14 0 [.int .i64 0,.int .i64 0] [],.bld 15 [.int .i64 0,.int .i64 0,.sl [],.sl []] [(0,(.t 11)),(1,(.t 12)),(2,(.t 13)),(3,(.t 14))],.bld 7 [.int .i64 0,.int .i64 0,.sl [],.sl []] [],.st 7 0 (.t 15)]) (.seq (.ss [.nop,.call 17 aH aF [(.t 0),(.c (.int .i64 4))] [0],.mv 8 (.t 17)]) (.seq (.seq (.ss [.nop,.call 19 aH aF [(.t 0),(.c (.int .i64 3))] [0],.mv 9 (.t 19)]) (.block 0 (.loop (.seq (.seq (.ss [.mv 20 (.t 9),.bin 21 .gtr (.t 20) (.c (.int .i64 0)),.mv 22 (.t 21),.g 22 true 23 (.mv 23 (.t 8)),.g 22 true 24 (.bin 24 .lss (.t 23) (.c (.int .i64 6))),.pick 25 (.t 22) (.t 24) (.c (.bool false))]) (.cond (.t 25) (.skip) (.exit 0))) (.seq (.block 1 (.seq (.ss [.nop,.sub 29 7 2 1,.mv 30 (.t 8),.nop,.call 32 aH aF [(.t 0),(.c (.int .i64 10))] [0],.bld 33 [.int .i64 0,.int .i64 0] [(0,(.t 30)),(1,(.t 32))],.lit 34 1 [.int .i64 0,.int .i64 0] [(0,(.t 33))],.app 35 2 true (.t 29) (.t 34),.nop,.st 7 2 (.t 35)]) (.ss [.mv 37 (.t 8),.bin 38 .add (.t 37) (.c (.int .i64 1)),.nop,.call 40 aH aF [(.t 0),(.c (.int .i64 3))] [0],.bin 41 .add (.t 38) (.t 40),.mv 8 (.t 41)]))) (.ss [.mv 26 (.t 9),.bin 27 .sub (.t 26) (.c (.int .i64 1)),.mv 9 (.t 27)])))))) (.seq (.seq (.ss [.mv 10 (.c (.int .i64 1))]) (.block 2 (.loop (.seq (.seq (.ss [.mv 42 (.t 10),.bin 43 .leq (.t 42) (.c (.int .i64 4)),.mv 44 (.t 43),.g 44 true 45 (.nop),.g 44 true 46 (.sub 46 7 3 1),.g 44 true 47 (.len 47 (.t 46)),.g 44 true 48 (.bin 48 .lss (.t 47) (.c (.int .i64 2))),.pick 49 (.t 44) (.t 48) (.c (.bool false))]) (.cond (.t 49) (.skip) (.exit 2))) (.seq (.block 3 (.seq (.ss [.mv 52 (.t 10),.mv 53 (.t 1),.bin 54 .neq (.t 52) (.t 53),.mv 55 (.t 54),.g 55 true 56 (.nop),.g 55 true 57 (.call 57 aH aF [(.t 0),(.c (.int .i64 6))] [0]),.g 55 true 58 (.bin 58 .eql (.t 57) (.c (.int .i64 0))),.pick 59 (.t 55) (.t 58) (.c (.bool false))]) (.cond (.t 59) (.ss [.nop,.sub 61 7 3 1,.mv 62 (.t 10),.nop,.call 64 aH aF [(.t 0),(.c (.int .i64 2))] [0],.bin 65 .add (.c (.int .i64 1)) (.t 64),.bld 66 [.int .i64 0,.int .i64 0] [(0,(.t 62)),(1,(.t 65))],.lit 67 1 [.int .i64 0,.int .i64 0] [(0,(.t 66))],.app 68 2 true (.t 61) (.t 67),.nop,.st 7 3 (.t 68)]) (.skip)))) (.ss [.mv 50 (.t 10),.bin 51 .add (.t 50) (.c (.int .i64 1)),.mv 10 (.t 51)])))))) (.seq (.ss [.sub 70 7 0 4,.st 6 0 (.t 70)]) (.ret [6,0]))))))
def Bp:Cfg:={tt:=tt,sigs:=sigs,mv:=false,bm:=[],eqt:=fH,keep:=[true,true,true,false,false,false,true,true,true,true,true,false,false,false,false,false,false,false,false,false,false,false,false,false,false,true,false,false,false,false,false,false,false,false,false,false,false,false,false,false,false,false,false,false,false,false,false,false,false,true,false,false,false,false,false,false,false,false,false,true,false,false,false,false,false,false,false,false,false,false,false],n:=71,pin:=[0],fail:=[],fz:=[] }
theorem Hz:bP Bp Tryz.f37 hU=some p_s_l71Pkg:=by kernel_rfl
theorem IA {W:Wld}{ins outs:List (List D)}(h:pwp (FunOk PP W) p_s_l71Pkg (aR outs) (envL ins)):FunOk PP W pP hU ins outs:=aQ (C:=Bp) (aP rfl) (bB rfl rfl) mixed Tryz.func37 (by kernel_rfl) (by kernel_rfl) Hz h

def p_s_l71Any:PC:= .seq (.ss [.bld 2 [.int .i64 0,.int .i64 0,.sl [],.sl []] []]) (.seq (.ss [.nop,.nop,.call 6 aH aF [(.t 0),(.c (.int .i64 4))] [0],.bin 7 .add (.c (.int .i64 1)) (.t 6),.nop,.call 9 aH aF [(.t 0),(.c (.int .i64 3))] [0],.bin 10 .add (.c (.int .i64 1)) (.t 9),.call 11 pP hU [(.t 0),(.t 7),(.t 10)] [0],.bld 3 [.int .i64 0,.int .i64 0,.sl [],.sl []] [],.st 3 0 (.t 11)]) (.seq (.seq (.ss [.nop,.call 13 aH aF [(.t 0),(.c (.int .i64 20))] [0]]) (.block 0 (.seq (.ss [.bin 15 .eql (.t 13) (.c (.int .i64 0)),.mv 14 (.t 15)]) (.cond (.t 14) (.ss [.lit 16 2 [.int .i64 0] [(0,(.c (.int .i64 0))),(1,(.c (.int .i64 5)))],.nop,.call 18 aH aF [(.t 0),(.c (.int .i64 2))] [0],.elp 19 (.t 16) (.t 18) 1,.eld 20 19 0 [.int .i64 0],.nop,.st 3 0 (.t 20)]) (.seq (.ss [.bin 23 .eql (.t 13) (.c (.int .i64 1)),.mv 22 (.t 23)]) (.cond (.t 22) (.ss [.lit 24 2 [.int .i64 0] [(0,(.c (.int .i64 0))),(1,(.c (.int .i64 6)))],.nop,.call 26 aH aF [(.t 0),(.c (.int .i64 2))] [0],.elp 27 (.t 24) (.t 26) 1,.eld 28 27 0 [.int .i64 0],.nop,.st 3 1 (.t 28)]) (.seq (.ss [.bin 31 .eql (.t 13) (.c (.int .i64 2)),.mv 30 (.t 31)]) (.cond (.t 30) (.ss [.nop,.sub 33 3 2 1,.nop,.call 35 aH aF [(.t 0),(.c (.int .i64 7))] [0],.nop,.call 37 aH aF [(.t 0),(.c (.int .i64 12))] [0],.bld 38 [.int .i64 0,.int .i64 0] [(0,(.t 35)),(1,(.t 37))],.lit 39 1 [.int .i64 0,.int .i64 0] [(0,(.t 38))],.app 40 2 true (.t 33) (.t 39),.nop,.st 3 2 (.t 40)]) (.seq (.ss [.bin 43 .eql (.t 13) (.c (.int .i64 3)),.mv 42 (.t 43)]) (.cond (.t 42) (.ss [.nop,.sub 45 3 3 1,.nop,.call 47 aH aF [(.t 0),(.c (.int .i64 6))] [0],.nop,.call 49 aH aF [(.t 0),(.c (.int .i64 7))] [0],.bld 50 [.int .i64 0,.int .i64 0] [(0,(.t 47)),(1,(.t 49))],.lit 51 1 [.int .i64 0,.int .i64 0] [(0,(.t 50))],.app 52 2 true (.t 45) (.t 51),.nop,.st 3 3 (.t 52)]) (.skip))))))))))) (.seq (.ss [.sub 54 3 0 4,.st 2 0 (.t 54)]) (.ret [2,0]))))
def Bq:Cfg:={tt:=tt,sigs:=sigs,mv:=false,bm:=[],eqt:=fH,keep:=[true,false,true,true,false,false,false,false,false,false,false,false,false,true,true,false,false,false,false,false,false,false,true,false,false,false,false,false,false,false,true,false,false,false,false,false,false,false,false,false,false,false,true,false,false,false,false,false,false,false,false,false,false,false,false],n:=55,pin:=[0],fail:=[],fz:=[] }
theorem IB:bP Bq Tryz.f57 fM=some p_s_l71Any:=by kernel_rfl
theorem IC {W:Wld}{ins outs:List (List D)}(h:pwp (FunOk PP W) p_s_l71Any (aR outs) (envL ins)):FunOk PP W mL fM ins outs:=aQ (C:=Bq) (aP rfl) (bB rfl rfl) mixed Tryz.func57 (by kernel_rfl) (by kernel_rfl) IB h

def p_s_IndexOf:PC:= .seq (.ss [.bld 6 [.int .i64 0,.int .i64 0,.sl []] [],.mv 7 (.c (.bool false))]) (.seq (.ss [.mv 10 (.t 0),.mv 11 (.t 1),.lit 12 0 [.int .i64 0,.int .i64 0,.int .i64 0] [],.bld 13 [.int .i64 0,.int .i64 0,.sl []] [(0,(.t 10)),(1,(.t 11)),(2,(.t 12))],.bld 8 [.int .i64 0,.int .i64 0,.sl []] [],.st 8 0 (.t 13)]) (.seq (.seq (.ss [.mv 14 (.t 2),.call 15 pQ hY [(.t 14)] [],.un 16 .not (.t 15)]) (.cond (.t 16) (.seq (.ss [.bld 17 [.int .i64 0,.int .i64 0,.sl []] [],.st 6 0 (.t 17),.mv 7 (.c (.bool false))]) (.ret [6,7])) (.skip))) (.seq (.seq (.ss [.mv 9 (.c (.int .i64 0))]) (.block 0 (.loop (.seq (.seq (.ss [.mv 18 (.t 9),.mv 19 (.t 2),.len 20 (.t 19),.bin 21 .lss (.t 18) (.t 20)]) (.cond (.t 21) (.skip) (.exit 0))) (.seq (.block 1 (.ss [.nop,.sub 25 8 2 1,.mv 26 (.t 2),.mv 27 (.t 9),.elp 28 (.t 26) (.t 27) 4,.mv 29 (.t 28),.eld 30 29 0 [.int .i64 0],.mv 31 (.t 2),.mv 32 (.t 9),.elp 33 (.t 31) (.t 32) 4,.mv 34 (.t 33),.eld 35 34 1 [.int .i64 0],.mv 36 (.t 2),.mv 37 (.t 9),.elp 38 (.t 36) (.t 37) 4,.eld 39 38 0 [.int .i64 0,.int .i64 0,.sl [],.sl []],.call 40 iK dU [(.t 39)] [],.call 41 sI jY [(.t 40)] [],.bld 42 [.int .i64 0,.int .i64 0,.int .i64 0] [(0,(.t 30)),(1,(.t 35)),(2,(.t 41))],.lit 43 1 [.int .i64 0,.int .i64 0,.int .i64 0] [(0,(.t 42))],.app 44 3 true (.t 25) (.t 43),.nop,.st 8 2 (.t 44)])) (.ss [.mv 22 (.t 9),.bin 23 .add (.t 22) (.c (.int .i64 1)),.mv 9 (.t 23)])))))) (.seq (.seq (.ss [.sub 46 8 0 3,.call 47 nI fS [(.t 46)] [],.un 48 .not (.t 47)]) (.cond (.t 48) (.seq (.ss [.bld 49 [.int .i64 0,.int .i64 0,.sl []] [],.st 6 0 (.t 49),.mv 7 (.c (.bool false))]) (.ret [6,7])) (.skip))) (.seq (.ss [.sub 50 8 0 3,.st 6 0 (.t 50),.mv 7 (.c (.bool true))]) (.ret [6,7]))))))
def yT:Cfg:={tt:=tt,sigs:=sigs,mv:=false,bm:=[],eqt:=fH,keep:=[true,true,true,false,false,false,true,true,true,true,false,false,false,false,false,false,true,false,false,false,false,true,false,false,false,false,false,false,false,false,false,false,false,false,false,false,false,false,false,false,false,false,false,false,false,false,false,false,true,false,false],n:=51,pin:=[],fail:=[],fz:=[] }
theorem GH:bP yT Tryz.f81 fN=some p_s_IndexOf:=by kernel_rfl
theorem GI {W:Wld}{ins outs:List (List D)}(h:pwp (FunOk PP W) p_s_IndexOf (aR outs) (envL ins)):FunOk PP W nK fN ins outs:=aQ (C:=yT) (aP rfl) (bB rfl rfl) mixed Tryz.func81 (by kernel_rfl) (by kernel_rfl) GH h

def p_s_l71Index:PC:= .seq (.ss [.bld 2 [.int .i64 0,.int .i64 0,.sl []] []]) (.seq (.ss [.nop,.call 7 aH aF [(.t 0),(.c (.int .i64 6))] [0],.bin 8 .add (.c (.int .i64 1)) (.t 7),.nop,.call 10 aH aF [(.t 0),(.c (.int .i64 12))] [0],.nop,.call 12 kS eE [(.t 0)] [0],.call 13 nK fN [(.t 8),(.t 10),(.t 12)] [],.mv 5 (.t 13),.ext 14 5 0 3,.ext 15 5 3 1,.bld 3 [.int .i64 0,.int .i64 0,.sl []] [],.st 3 0 (.t 14),.mv 4 (.t 15)]) (.seq (.seq (.ss [.nop,.call 17 aH aF [(.t 0),(.c (.int .i64 16))] [0]]) (.block 0 (.seq (.ss [.bin 19 .eql (.t 17) (.c (.int .i64 0)),.mv 18 (.t 19)]) (.cond (.t 18) (.ss [.lit 20 3 [.int .i64 0] [(0,(.c (.int .i64 0))),(1,(.c (.int .i64 30))),(2,(.c (.int .i64 31)))],.nop,.call 22 aH aF [(.t 0),(.c (.int .i64 3))] [0],.elp 23 (.t 20) (.t 22) 1,.eld 24 23 0 [.int .i64 0],.nop,.st 3 0 (.t 24)]) (.seq (.ss [.bin 27 .eql (.t 17) (.c (.int .i64 1)),.mv 26 (.t 27)]) (.cond (.t 26) (.ss [.lit 28 3 [.int .i64 0] [(0,(.c (.int .i64 (-1)))),(1,(.c (.int .i64 60))),(2,(.c (.int .i64 61)))],.nop,.call 30 aH aF [(.t 0),(.c (.int .i64 3))] [0],.elp 31 (.t 28) (.t 30) 1,.eld 32 31 0 [.int .i64 0],.nop,.st 3 1 (.t 32)]) (.seq (.ss [.bin 35 .eql (.t 17) (.c (.int .i64 2)),.mv 34 (.t 35)]) (.cond (.t 34) (.ss [.nop,.sub 37 3 2 1,.nop,.call 39 aH aF [(.t 0),(.c (.int .i64 4))] [0],.bin 40 .add (.c (.int .i64 1)) (.t 39),.nop,.call 42 aH aF [(.t 0),(.c (.int .i64 4))] [0],.bin 43 .add (.c (.int .i64 1)) (.t 42),.nop,.call 45 aH aF [(.t 0),(.c (.int .i64 9973))] [0],.bld 46 [.int .i64 0,.int .i64 0,.int .i64 0] [(0,(.t 40)),(1,(.t 43)),(2,(.t 45))],.lit 47 1 [.int .i64 0,.int .i64 0,.int .i64 0] [(0,(.t 46))],.app 48 3 true (.t 37) (.t 47),.nop,.st 3 2 (.t 48)]) (.skip))))))))) (.seq (.ss [.sub 50 3 0 3,.st 2 0 (.t 50)]) (.ret [2,0]))))
def vK:Cfg:={tt:=tt,sigs:=sigs,mv:=false,bm:=[],eqt:=fH,keep:=[true,false,true,true,false,false,false,false,false,false,false,false,false,false,false,false,false,true,true,false,false,false,false,false,false,false,true,false,false,false,false,false,false,false,true,false,false,false,false,false,false,false,false,false,false,false,false,false,false,false,false],n:=51,pin:=[0],fail:=[],fz:=[] }
theorem Eg:bP vK Tryz.f82 gH=some p_s_l71Index:=by kernel_rfl
theorem Eh {W:Wld}{ins outs:List (List D)}(h:pwp (FunOk PP W) p_s_l71Index (aR outs) (envL ins)):FunOk PP W pS gH ins outs:=aQ (C:=vK) (aP rfl) (bB rfl rfl) mixed Tryz.func82 (by kernel_rfl) (by kernel_rfl) Eg h

def p_s_PkgRead:PC:= .seq (.ss [.bld 2 [.int .i64 0,.int .i64 0,.sl [],.sl []] [],.mv 3 (.c (.bool false))]) (.seq (.seq (.ss [.mv 8 (.t 0),.slen 9 (.t 8),.bin 10 .gtr (.t 9) (.c (.int .i64 30))]) (.cond (.t 10) (.seq (.ss [.bld 11 [.int .i64 0,.int .i64 0,.sl [],.sl []] [],.st 2 0 (.t 11),.mv 3 (.c (.bool false))]) (.ret [2,3])) (.skip))) (.seq (.ss [.mv 12 (.t 0),.call 13 xJ lX [(.t 12),(.c (.int .u8 32))] [],.mv 4 (.t 13)]) (.seq (.ss [.lit 14 0 [.int .i64 0,.int .i64 0] [],.lit 15 0 [.int .i64 0,.int .i64 0] [],.bld 16 [.int .i64 0,.int .i64 0,.sl [],.sl []] [(2,(.t 14)),(3,(.t 15))],.bld 5 [.int .i64 0,.int .i64 0,.sl [],.sl []] [],.st 5 0 (.t 16)]) (.seq (.seq (.ss [.mv 6 (.c (.int .i64 0))]) (.block 0 (.loop (.seq (.seq (.ss [.mv 17 (.t 6),.mv 18 (.t 4),.len 19 (.t 18),.bin 20 .lss (.t 17) (.t 19)]) (.cond (.t 20) (.skip) (.exit 0))) (.seq (.block 1 (.seq (.ss [.mv 23 (.t 4),.mv 24 (.t 6),.elp 25 (.t 23) (.t 24) 1,.eld 26 25 0 [.str ⟨#[]⟩],.mv 7 (.t 26)]) (.block 2 (.seq (.ss [.mv 28 (.t 6),.bin 29 .eql (.t 28) (.c (.int .i64 0)),.mv 30 (.t 29),.g 30 true 31 (.mv 31 (.t 7)),.g 30 true 32 (.slen 32 (.t 31)),.g 30 true 33 (.bin 33 .eql (.t 32) (.c (.int .i64 2))),.pick 34 (.t 30) (.t 33) (.c (.bool false)),.mv 27 (.t 34)]) (.cond (.t 27) (.seq (.ss [.mv 35 (.t 7),.sidx 36 (.t 35) (.c (.int .i64 0)),.cvt 37 .i64 (.t 36),.bin 38 .sub (.t 37) (.c (.int .i64 97)),.bin 39 .add (.t 38) (.c (.int .i64 1)),.nop,.st 5 0 (.t 39)]) (.ss [.mv 41 (.t 7),.sidx 42 (.t 41) (.c (.int .i64 1)),.cvt 43 .i64 (.t 42),.bin 44 .sub (.t 43) (.c (.int .i64 48)),.nop,.st 5 1 (.t 44)])) (.seq (.ss [.mv 47 (.t 6),.bin 48 .gtr (.t 47) (.c (.int .i64 0)),.mv 49 (.t 48),.g 49 true 50 (.mv 50 (.t 7)),.g 49 true 51 (.slen 51 (.t 50)),.g 49 true 52 (.bin 52 .eql (.t 51) (.c (.int .i64 3))),.pick 53 (.t 49) (.t 52) (.c (.bool false)),.mv 46 (.t 53)]) (.cond (.t 46) (.ss [.nop,.sub 55 5 2 1,.mv 56 (.t 7),.sidx 57 (.t 56) (.c (.int .i64 0)),.cvt 58 .i64 (.t 57),.bin 59 .sub (.t 58) (.c (.int .i64 48)),.mv 60 (.t 7),.sidx 61 (.t 60) (.c (.int .i64 2)),.cvt 62 .i64 (.t 61),.bin 63 .sub (.t 62) (.c (.int .i64 48)),.bld 64 [.int .i64 0,.int .i64 0] [(0,(.t 59)),(1,(.t 63))],.lit 65 1 [.int .i64 0,.int .i64 0] [(0,(.t 64))],.app 66 2 true (.t 55) (.t 65),.nop,.st 5 2 (.t 66)]) (.seq (.ss [.mv 69 (.t 6),.bin 70 .gtr (.t 69) (.c (.int .i64 0)),.mv 71 (.t 70),.g 71 true 72 (.mv 72 (.t 7)),.g 71 true 73 (.slen 73 (.t 72)),.g 71 true 74 (.bin 74 .eql (.t 73) (.c (.int .i64 2))),.pick 75 (.t 71) (.t 74) (.c (.bool false)),.mv 68 (.t 75)]) (.cond (.t 68) (.ss [.nop,.sub 77 5 3 1,.mv 78 (.t 7),.sidx 79 (.t 78) (.c (.int .i64 0)),.cvt 80 .i64 (.t 79),.bin 81 .sub (.t 80) (.c (.int .i64 97)),.bin 82 .add (.t 81) (.c (.int .i64 1)),.mv 83 (.t 7),.sidx 84 (.t 83) (.c (.int .i64 1)),.cvt 85 .i64 (.t 84),.bin 86 .sub (.t 85) (.c (.int .i64 48)),.bld 87 [.int .i64 0,.int .i64 0] [(0,(.t 82)),(1,(.t 86))],.lit 88 1 [.int .i64 0,.int .i64 0] [(0,(.t 87))],.app 89 2 true (.t 77) (.t 88),.nop,.st 5 3 (.t 89)]) (.skip)))))))))) (.ss [.mv 21 (.t 6),.bin 22 .add (.t 21) (.c (.int .i64 1)),.mv 6 (.t 22)])))))) (.seq (.seq (.ss [.sub 91 5 0 4,.call 92 iK dU [(.t 91)] [],.mv 93 (.t 0),.bin 94 .neq (.t 92) (.t 93),.mv 95 (.t 94),.g 95 false 96 (.mv 96 (.t 0)),.g 95 false 97 (.bin 97 .eql (.t 96) (.c (.str ⟨#[]⟩))),.pick 98 (.t 95) (.c (.bool true)) (.t 97)]) (.cond (.t 98) (.seq (.ss [.bld 99 [.int .i64 0,.int .i64 0,.sl [],.sl []] [],.st 2 0 (.t 99),.mv 3 (.c (.bool false))]) (.ret [2,3])) (.skip))) (.seq (.ss [.sub 100 5 0 4,.st 2 0 (.t 100),.mv 3 (.c (.bool true))]) (.ret [2,3])))))))
def yU:Cfg:={tt:=tt,sigs:=sigs,mv:=false,bm:=[],eqt:=fH,keep:=[true,false,true,true,true,true,true,true,false,false,true,false,false,false,false,false,false,false,false,false,true,false,false,false,false,false,false,true,false,false,false,false,false,false,false,false,false,false,false,false,false,false,false,false,false,false,true,false,false,false,false,false,false,false,false,false,false,false,false,false,false,false,false,false,false,false,false,false,true,false,false,false,false,false,false,false,false,false,false,false,false,false,false,false,false,false,false,false,false,false,false,false,false,false,false,false,false,false,true,false,false],n:=101,pin:=[],fail:=[],fz:=[] }
theorem GJ:bP yU Tryz.f131 eD=some p_s_PkgRead:=by kernel_rfl
theorem GK {W:Wld}{ins outs:List (List D)}(h:pwp (FunOk PP W) p_s_PkgRead (aR outs) (envL ins)):FunOk PP W kT eD ins outs:=aQ (C:=yU) (aP rfl) (bB rfl rfl) mixed Tryz.func131 (by kernel_rfl) (by kernel_rfl) GJ h

def p_s_l1Cut:PC:= .seq (.ss [.mv 4 (.c (.sl []))]) (.seq (.ss [.lit 7 1 [.str ⟨#[]⟩] [(0,(.c (.str ⟨#[]⟩)))],.mv 5 (.t 7)]) (.seq (.seq (.ss [.mv 6 (.c (.int .i64 0))]) (.block 0 (.loop (.seq (.seq (.ss [.mv 8 (.t 6),.mv 9 (.t 0),.slen 10 (.t 9),.bin 11 .lss (.t 8) (.t 10)]) (.cond (.t 11) (.skip) (.exit 0))) (.seq (.block 1 (.seq (.ss [.mv 14 (.t 0),.mv 15 (.t 6),.sidx 16 (.t 14) (.t 15),.mv 17 (.t 1),.bin 18 .eql (.t 16) (.t 17)]) (.cond (.t 18) (.ss [.mv 19 (.t 5),.lit 20 1 [.str ⟨#[]⟩] [(0,(.c (.str ⟨#[]⟩)))],.app 21 1 true (.t 19) (.t 20),.mv 5 (.t 21)]) (.ss [.mv 22 (.t 5),.mv 23 (.t 5),.len 24 (.t 23),.bin 25 .sub (.t 24) (.c (.int .i64 1)),.mv 26 (.t 5),.mv 27 (.t 5),.len 28 (.t 27),.bin 29 .sub (.t 28) (.c (.int .i64 1)),.elp 30 (.t 26) (.t 29) 1,.eld 31 30 0 [.str ⟨#[]⟩],.mv 32 (.t 0),.mv 33 (.t 6),.sidx 34 (.t 32) (.t 33),.lit 35 1 [.int .u8 0] [(0,(.t 34))],.b2s 36 (.t 35),.bin 37 .add (.t 31) (.t 36),.elp 38 (.t 22) (.t 25) 1,.els 38 0 5 0 (.t 37)])))) (.ss [.mv 12 (.t 6),.bin 13 .add (.t 12) (.c (.int .i64 1)),.mv 6 (.t 13)])))))) (.seq (.ss [.mv 39 (.t 5),.mv 4 (.t 39)]) (.ret [4]))))
def DY:Cfg:={tt:=tt,sigs:=sigs,mv:=false,bm:=[7],eqt:=fH,keep:=[true,true,false,false,true,true,true,false,false,false,false,true,false,false,false,false,false,false,true,false,false,false,false,false,false,false,false,false,false,false,false,false,false,false,false,false,false,false,false,false],n:=40,pin:=[],fail:=[],fz:=[] }
theorem Kb:bP DY Tryz.f147 lX=some p_s_l1Cut:=by kernel_rfl
theorem Kc {W:Wld}{ins outs:List (List D)}(h:pwp (FunOk PP W) p_s_l1Cut (aR outs) (envL ins)):FunOk PP W xJ lX ins outs:=aQ (C:=DY) (aP rfl) (bB rfl rfl) mixed Tryz.func147 (by kernel_rfl) (by kernel_rfl) Kb h

def p_s_l12Copy:PC:= .seq (.ss [.mv 2 (.c (.sl []))]) (.seq (.ss [.lit 5 0 [.int .i64 0,.int .i64 0,.sl [],.sl []] [],.mv 3 (.t 5)]) (.seq (.seq (.ss [.mv 4 (.c (.int .i64 0))]) (.block 0 (.loop (.seq (.seq (.ss [.mv 6 (.t 4),.mv 7 (.t 0),.len 8 (.t 7),.bin 9 .lss (.t 6) (.t 8)]) (.cond (.t 9) (.skip) (.exit 0))) (.seq (.block 1 (.ss [.mv 12 (.t 3),.mv 13 (.t 0),.mv 14 (.t 4),.elp 15 (.t 13) (.t 14) 4,.eld 16 15 0 [.int .i64 0,.int .i64 0,.sl [],.sl []],.call 17 mN eA [(.t 16)] [],.lit 18 1 [.int .i64 0,.int .i64 0,.sl [],.sl []] [(0,(.t 17))],.app 19 4 false (.t 12) (.t 18),.mv 3 (.t 19)])) (.ss [.mv 10 (.t 4),.bin 11 .add (.t 10) (.c (.int .i64 1)),.mv 4 (.t 11)])))))) (.seq (.ss [.mv 20 (.t 3),.mv 2 (.t 20)]) (.ret [2]))))
def yV:Cfg:={tt:=tt,sigs:=sigs,mv:=false,bm:=[],eqt:=fH,keep:=[true,false,true,true,true,false,false,false,false,true,false,false,false,false,false,false,false,false,false,false,false],n:=21,pin:=[],fail:=[],fz:=[] }
theorem GL:bP yV Tryz.f46 iL=some p_s_l12Copy:=by kernel_rfl
theorem GM {W:Wld}{ins outs:List (List D)}(h:pwp (FunOk PP W) p_s_l12Copy (aR outs) (envL ins)):FunOk PP W rI iL ins outs:=aQ (C:=yV) (aP rfl) (bB rfl rfl) mixed Tryz.func46 (by kernel_rfl) (by kernel_rfl) GL h

def p_s_l12PkgCopy:PC:= .seq (.ss [.mv 1 (.t 0),.bld 2 [.int .i64 0,.int .i64 0,.sl [],.sl []] []]) (.seq (.ss [.lit 3 0 [.int .i64 0,.int .i64 0] [],.nop,.sub 5 1 2 1,.app 6 2 true (.t 3) (.t 5),.nop,.st 1 2 (.t 6)]) (.seq (.ss [.lit 8 0 [.int .i64 0,.int .i64 0] [],.nop,.sub 10 1 3 1,.app 11 2 true (.t 8) (.t 10),.nop,.st 1 3 (.t 11)]) (.seq (.ss [.sub 13 1 0 4,.st 2 0 (.t 13)]) (.ret [2]))))
def rP:Cfg:={tt:=tt,sigs:=sigs,mv:=false,bm:=[],eqt:=fH,keep:=[true,true,true,false,false,false,false,false,false,false,false,false,false,false],n:=14,pin:=[],fail:=[],fz:=[] }
theorem Br:bP rP Tryz.f92 eA=some p_s_l12PkgCopy:=by kernel_rfl
theorem Bs {W:Wld}{ins outs:List (List D)}(h:pwp (FunOk PP W) p_s_l12PkgCopy (aR outs) (envL ins)):FunOk PP W mN eA ins outs:=aQ (C:=rP) (aP rfl) (bB rfl rfl) mixed Tryz.func92 (by kernel_rfl) (by kernel_rfl) Br h

def p_s_l12Add:PC:= .seq (.ss [.mv 3 (.t 0),.mv 6 (.c (.sl [])),.mv 7 (.c (.bool false))]) (.seq (.seq (.ss [.nop,.sub 11 3 3 1,.un 12 .not (.t 11)]) (.cond (.t 12) (.seq (.ss [.mv 13 (.t 1),.mv 6 (.t 13),.mv 7 (.c (.bool false))]) (.ret [6,7])) (.skip))) (.seq (.ss [.nop,.sub 16 3 4 3,.mv 17 (.t 2),.call 18 lW gI [(.t 16),(.t 17)] [],.mv 14 (.t 18),.ext 19 14 0 4,.ext 20 14 4 1,.bld 8 [.int .i64 0,.int .i64 0,.sl [],.sl []] [],.st 8 0 (.t 19),.mv 9 (.t 20)]) (.seq (.seq (.ss [.mv 21 (.t 9),.un 22 .not (.t 21),.mv 23 (.t 22),.g 23 false 24 (.mv 24 (.t 1)),.g 23 false 25 (.nop),.g 23 false 26 (.sub 26 8 0 1),.g 23 false 27 (.nop),.g 23 false 28 (.sub 28 8 1 1),.g 23 false 29 (.call 29 kQ eF [(.t 24),(.t 26),(.t 28)] []),.g 23 false 30 (.bin 30 .geq (.t 29) (.c (.int .i64 0))),.pick 31 (.t 23) (.c (.bool true)) (.t 30)]) (.cond (.t 31) (.seq (.ss [.mv 32 (.t 1),.mv 6 (.t 32),.mv 7 (.c (.bool false))]) (.ret [6,7])) (.skip))) (.seq (.ss [.mv 33 (.t 1),.sub 34 8 0 4,.call 35 nG fO [(.t 33),(.t 34)] [],.mv 6 (.t 35),.mv 7 (.c (.bool true))]) (.ret [6,7])))))
def Bt:Cfg:={tt:=tt,sigs:=sigs,mv:=false,bm:=[],eqt:=fH,keep:=[true,true,true,true,false,false,true,true,true,true,false,false,true,false,false,false,false,false,false,false,false,false,false,false,false,false,false,false,false,false,false,true,false,false,false,false],n:=36,pin:=[],fail:=[],fz:=[] }
theorem ID:bP Bt Tryz.f58 jQ=some p_s_l12Add:=by kernel_rfl
theorem IE {W:Wld}{ins outs:List (List D)}(h:pwp (FunOk PP W) p_s_l12Add (aR outs) (envL ins)):FunOk PP W tS jQ ins outs:=aQ (C:=Bt) (aP rfl) (bB rfl rfl) mixed Tryz.func58 (by kernel_rfl) (by kernel_rfl) ID h

def p_s_l3Has:PC:= .seq (.ss [.mv 2 (.t 0),.bld 4 [.int .i64 0,.int .i64 0,.sl [],.sl []] [],.mv 5 (.c (.bool false))]) (.seq (.ss [.mv 11 (.t 1),.call 12 kT eD [(.t 11)] [],.mv 10 (.t 12),.ext 13 10 0 4,.ext 14 10 4 1,.bld 6 [.int .i64 0,.int .i64 0,.sl [],.sl []] [],.st 6 0 (.t 13),.mv 7 (.t 14)]) (.seq (.seq (.ss [.mv 15 (.t 7),.un 16 .not (.t 15)]) (.cond (.t 16) (.seq (.ss [.bld 17 [.int .i64 0,.int .i64 0,.sl [],.sl []] [],.st 4 0 (.t 17),.mv 5 (.c (.bool false))]) (.ret [4,5])) (.skip))) (.seq (.seq (.ss [.mv 8 (.c (.int .i64 0))]) (.block 0 (.loop (.seq (.seq (.ss [.mv 18 (.t 8),.nop,.sub 20 2 2 1,.len 21 (.t 20),.bin 22 .lss (.t 18) (.t 21)]) (.cond (.t 22) (.skip) (.exit 0))) (.seq (.block 1 (.seq (.ss [.nop,.sub 26 2 2 1,.mv 27 (.t 8),.elp 28 (.t 26) (.t 27) 3,.eld 29 28 0 [.int .i64 0,.int .i64 0,.int .i64 0],.bld 9 [.int .i64 0,.int .i64 0,.int .i64 0] [],.st 9 0 (.t 29)]) (.seq (.ss [.nop,.sub 31 9 0 1,.nop,.sub 33 6 0 1,.bin 34 .eql (.t 31) (.t 33),.mv 35 (.t 34),.g 35 true 36 (.nop),.g 35 true 37 (.sub 37 9 1 1),.g 35 true 38 (.nop),.g 35 true 39 (.sub 39 6 1 1),.g 35 true 40 (.bin 40 .eql (.t 37) (.t 39)),.pick 41 (.t 35) (.t 40) (.c (.bool false)),.mv 42 (.t 41),.g 42 true 43 (.nop),.g 42 true 44 (.sub 44 9 2 1),.g 42 true 45 (.mv 45 (.t 1)),.g 42 true 46 (.call 46 sI jY [(.t 45)] []),.g 42 true 47 (.bin 47 .eql (.t 44) (.t 46)),.pick 48 (.t 42) (.t 47) (.c (.bool false))]) (.cond (.t 48) (.seq (.ss [.sub 49 6 0 4,.st 4 0 (.t 49),.mv 5 (.c (.bool true))]) (.ret [4,5])) (.skip))))) (.ss [.mv 23 (.t 8),.bin 24 .add (.t 23) (.c (.int .i64 1)),.mv 8 (.t 24)])))))) (.seq (.ss [.bld 50 [.int .i64 0,.int .i64 0,.sl [],.sl []] [],.st 4 0 (.t 50),.mv 5 (.c (.bool false))]) (.ret [4,5])))))
def DZ:Cfg:={tt:=tt,sigs:=sigs,mv:=false,bm:=[],eqt:=fH,keep:=[true,true,true,false,true,true,true,true,true,true,false,false,false,false,false,false,true,false,false,false,false,false,true,false,false,false,false,false,false,false,false,false,false,false,false,false,false,false,false,false,false,false,false,false,false,false,false,false,true,false,false],n:=51,pin:=[],fail:=[],fz:=[] }
theorem Kd:bP DZ Tryz.f91 gI=some p_s_l3Has:=by kernel_rfl
theorem xK {W:Wld}{ins outs:List (List D)}(h:pwp (FunOk PP W) p_s_l3Has (aR outs) (envL ins)):FunOk PP W lW gI ins outs:=aQ (C:=DZ) (aP rfl) (bB rfl rfl) mixed Tryz.func91 (by kernel_rfl) (by kernel_rfl) Kd h

def p_s_l71Root:PC:= .seq (.ss [.bld 2 [.int .i64 0,.sl [],.int .i64 0] []]) (.seq (.ss [.nop,.call 6 rL iN [(.t 0)] [0],.mv 3 (.t 6)]) (.seq (.seq (.ss [.mv 7 (.t 3),.len 8 (.t 7),.bin 9 .eql (.t 8) (.c (.int .i64 0))]) (.cond (.t 9) (.ss [.nop,.call 11 aH aF [(.t 0),(.c (.int .i64 6))] [0],.bin 12 .add (.c (.int .i64 1)) (.t 11),.lit 13 1 [.int .i64 0] [(0,(.t 12))],.mv 3 (.t 13)]) (.skip))) (.seq (.ss [.nop,.call 15 aH aF [(.t 0),(.c (.int .i64 3))] [0],.bin 16 .add (.c (.int .i64 1)) (.t 15),.mv 17 (.t 3),.nop,.mv 19 (.t 3),.len 20 (.t 19),.call 21 aH aF [(.t 0),(.t 20)] [0],.bin 22 .add (.c (.int .i64 1)) (.t 21),.bld 23 [.int .i64 0,.sl [],.int .i64 0] [(0,(.t 16)),(1,(.t 17)),(2,(.t 22))],.bld 4 [.int .i64 0,.sl [],.int .i64 0] [],.st 4 0 (.t 23)]) (.seq (.seq (.ss [.nop,.call 25 aH aF [(.t 0),(.c (.int .i64 20))] [0]]) (.block 0 (.seq (.ss [.bin 27 .eql (.t 25) (.c (.int .i64 0)),.mv 26 (.t 27)]) (.cond (.t 26) (.ss [.lit 28 3 [.int .i64 0] [(0,(.c (.int .i64 0))),(1,(.c (.int .i64 9))),(2,(.c (.int .i64 10)))],.nop,.call 30 aH aF [(.t 0),(.c (.int .i64 3))] [0],.elp 31 (.t 28) (.t 30) 1,.eld 32 31 0 [.int .i64 0],.nop,.st 4 0 (.t 32)]) (.seq (.ss [.bin 35 .eql (.t 25) (.c (.int .i64 1)),.mv 34 (.t 35)]) (.cond (.t 34) (.ss [.mv 36 (.t 3),.len 37 (.t 36),.bin 38 .add (.t 37) (.c (.int .i64 1)),.lit 39 2 [.int .i64 0] [(0,(.c (.int .i64 0))),(1,(.t 38))],.nop,.call 41 aH aF [(.t 0),(.c (.int .i64 2))] [0],.elp 42 (.t 39) (.t 41) 1,.eld 43 42 0 [.int .i64 0],.nop,.st 4 2 (.t 43)]) (.skip))))))) (.seq (.ss [.sub 45 4 0 3,.st 2 0 (.t 45)]) (.ret [2,0]))))))
def yW:Cfg:={tt:=tt,sigs:=sigs,mv:=false,bm:=[],eqt:=fH,keep:=[true,false,true,true,true,false,false,false,false,true,false,false,false,false,false,false,false,false,false,false,false,false,false,false,false,true,true,false,false,false,false,false,false,false,true,false,false,false,false,false,false,false,false,false,false,false],n:=46,pin:=[0],fail:=[],fz:=[] }
theorem GN:bP yW Tryz.f79 iM=some p_s_l71Root:=by kernel_rfl
theorem GO {W:Wld}{ins outs:List (List D)}(h:pwp (FunOk PP W) p_s_l71Root (aR outs) (envL ins)):FunOk PP W rJ iM ins outs:=aQ (C:=yW) (aP rfl) (bB rfl rfl) mixed Tryz.func79 (by kernel_rfl) (by kernel_rfl) GN h

def p_s_l71Keys:PC:= .seq (.ss [.mv 2 (.c (.sl []))]) (.seq (.ss [.lit 5 0 [.int .i64 0] [],.mv 3 (.t 5)]) (.seq (.seq (.ss [.mv 4 (.c (.int .i64 1))]) (.block 0 (.loop (.seq (.seq (.ss [.mv 6 (.t 4),.bin 7 .leq (.t 6) (.c (.int .i64 6))]) (.cond (.t 7) (.skip) (.exit 0))) (.seq (.block 1 (.seq (.ss [.nop,.call 11 aH aF [(.t 0),(.c (.int .i64 2))] [0],.bin 12 .eql (.t 11) (.c (.int .i64 0))]) (.cond (.t 12) (.ss [.mv 13 (.t 3),.mv 14 (.t 4),.lit 15 1 [.int .i64 0] [(0,(.t 14))],.app 16 1 true (.t 13) (.t 15),.mv 3 (.t 16)]) (.skip)))) (.ss [.mv 8 (.t 4),.bin 9 .add (.t 8) (.c (.int .i64 1)),.mv 4 (.t 9)])))))) (.seq (.seq (.ss [.nop,.call 18 aH aF [(.t 0),(.c (.int .i64 16))] [0],.bin 19 .eql (.t 18) (.c (.int .i64 0))]) (.cond (.t 19) (.ss [.mv 20 (.t 3),.lit 21 3 [.int .i64 0] [(0,(.c (.int .i64 0))),(1,(.c (.int .i64 7))),(2,(.c (.int .i64 1)))],.nop,.call 23 aH aF [(.t 0),(.c (.int .i64 3))] [0],.elp 24 (.t 21) (.t 23) 1,.eld 25 24 0 [.int .i64 0],.lit 26 1 [.int .i64 0] [(0,(.t 25))],.app 27 1 true (.t 20) (.t 26),.mv 3 (.t 27)]) (.skip))) (.seq (.ss [.mv 28 (.t 3),.mv 2 (.t 28)]) (.ret [2,0])))))
def yX:Cfg:={tt:=tt,sigs:=sigs,mv:=false,bm:=[],eqt:=fH,keep:=[true,false,true,true,true,false,false,true,false,false,false,false,true,false,false,false,false,false,false,true,false,false,false,false,false,false,false,false,false],n:=29,pin:=[0],fail:=[],fz:=[] }
theorem GP:bP yX Tryz.f126 iN=some p_s_l71Keys:=by kernel_rfl
theorem GQ {W:Wld}{ins outs:List (List D)}(h:pwp (FunOk PP W) p_s_l71Keys (aR outs) (envL ins)):FunOk PP W rL iN ins outs:=aQ (C:=yX) (aP rfl) (bB rfl rfl) mixed Tryz.func126 (by kernel_rfl) (by kernel_rfl) GP h

def p_sl_BinarySearchFunc_Pkg:PC:= .seq (.ss [.mv 4 (.t 1),.mv 6 (.c (.int .i64 0)),.mv 7 (.c (.bool false))]) (.seq (.ss [.mv 12 (.t 0),.len 13 (.t 12),.mv 8 (.t 13)]) (.seq (.ss [.mv 14 (.t 8),.mv 9 (.c (.int .i64 0)),.mv 10 (.t 14)]) (.seq (.block 0 (.loop (.seq (.seq (.ss [.mv 15 (.t 9),.mv 16 (.t 10),.bin 17 .lss (.t 15) (.t 16)]) (.cond (.t 17) (.skip) (.exit 0))) (.block 1 (.seq (.ss [.mv 18 (.t 9),.mv 19 (.t 10),.bin 20 .add (.t 18) (.t 19),.cvt 21 .u64 (.t 20),.bin 22 .shr (.t 21) (.c (.int .u64 1)),.cvt 23 .i64 (.t 22),.mv 11 (.t 23)]) (.seq (.ss [.mv 24 (.t 2),.mv 25 (.t 0),.mv 26 (.t 11),.elp 27 (.t 25) (.t 26) 4,.eld 28 27 0 [.int .i64 0,.int .i64 0,.sl [],.sl []],.sub 29 4 0 4,.callc 30 24 cG cH [(.t 28),(.t 29)],.bin 31 .lss (.t 30) (.c (.int .i64 0))]) (.cond (.t 31) (.ss [.mv 32 (.t 11),.bin 33 .add (.t 32) (.c (.int .i64 1)),.mv 9 (.t 33)]) (.ss [.mv 34 (.t 11),.mv 10 (.t 34)])))))))) (.seq (.ss [.mv 35 (.t 9),.mv 36 (.t 9),.mv 37 (.t 8),.bin 38 .lss (.t 36) (.t 37),.mv 39 (.t 38),.g 39 true 40 (.mv 40 (.t 2)),.g 39 true 41 (.mv 41 (.t 0)),.g 39 true 42 (.mv 42 (.t 9)),.g 39 true 43 (.elp 43 (.t 41) (.t 42) 4),.g 39 true 44 (.eld 44 43 0 [.int .i64 0,.int .i64 0,.sl [],.sl []]),.g 39 true 45 (.sub 45 4 0 4),.g 39 true 46 (.callc 46 40 cG cH [(.t 44),(.t 45)]),.g 39 true 47 (.bin 47 .eql (.t 46) (.c (.int .i64 0))),.pick 48 (.t 39) (.t 47) (.c (.bool false)),.mv 6 (.t 35),.mv 7 (.t 48)]) (.ret [6,7])))))
def gR:Cfg:={tt:=tt,sigs:=sigs,mv:=false,bm:=[],eqt:=fH,keep:=[true,true,true,false,true,false,true,true,true,true,true,true,false,false,false,false,false,true,false,false,false,false,false,false,false,false,false,false,false,false,false,true,false,false,false,false,false,false,false,false,false,false,false,false,false,false,false,false,false],n:=49,pin:=[],fail:=[],fz:=[] }
theorem mS:bP gR Tryz.f106 bL=some p_sl_BinarySearchFunc_Pkg:=by kernel_rfl
theorem mT {W:Wld}{ins outs:List (List D)}(h:pwp (FunOk PP W) p_sl_BinarySearchFunc_Pkg (aR outs) (envL ins)):FunOk PP W dK bL ins outs:=aQ (C:=gR) (aP rfl) (bB rfl rfl) mixed Tryz.func106 (by kernel_rfl) (by kernel_rfl) mS h

def p_s_l71Off:PC:= .seq (.ss [.mv 2 (.c (.sl []))]) (.seq (.ss [.nop,.call 5 kS eE [(.t 0)] [0],.mv 3 (.t 5)]) (.seq (.seq (.ss [.nop,.call 7 aH aF [(.t 0),(.c (.int .i64 20))] [0]]) (.block 0 (.seq (.ss [.bin 9 .eql (.t 7) (.c (.int .i64 0)),.mv 8 (.t 9)]) (.cond (.t 8) (.ss [.mv 10 (.t 3),.nop,.call 12 mL fM [(.t 0)] [0],.lit 13 1 [.int .i64 0,.int .i64 0,.sl [],.sl []] [(0,(.t 12))],.app 14 4 false (.t 10) (.t 13),.mv 3 (.t 14)]) (.seq (.ss [.bin 16 .eql (.t 7) (.c (.int .i64 1)),.mv 15 (.t 16)]) (.cond (.t 15) (.seq (.ss [.mv 17 (.t 3),.len 18 (.t 17),.bin 19 .gtr (.t 18) (.c (.int .i64 0))]) (.cond (.t 19) (.ss [.mv 20 (.t 3),.nop,.mv 22 (.t 3),.len 23 (.t 22),.call 24 aH aF [(.t 0),(.t 23)] [0],.nop,.call 26 mL fM [(.t 0)] [0],.elp 27 (.t 20) (.t 24) 4,.els 27 0 3 0 (.t 26)]) (.skip))) (.skip))))))) (.seq (.ss [.mv 28 (.t 3),.mv 2 (.t 28)]) (.ret [2,0]))))
def Bu:Cfg:={tt:=tt,sigs:=sigs,mv:=false,bm:=[],eqt:=fH,keep:=[true,false,true,true,false,false,false,true,true,false,false,false,false,false,false,true,false,false,false,true,false,false,false,false,false,false,false,false,false],n:=29,pin:=[0],fail:=[],fz:=[] }
theorem IF:bP Bu Tryz.f83 jR=some p_s_l71Off:=by kernel_rfl
theorem IG {W:Wld}{ins outs:List (List D)}(h:pwp (FunOk PP W) p_s_l71Off (aR outs) (envL ins)):FunOk PP W tV jR ins outs:=aQ (C:=Bu) (aP rfl) (bB rfl rfl) mixed Tryz.func83 (by kernel_rfl) (by kernel_rfl) IF h

def p_s_l71Pkgs:PC:= .seq (.ss [.mv 2 (.c (.sl []))]) (.seq (.ss [.lit 6 0 [.int .i64 0,.int .i64 0,.sl [],.sl []] [],.mv 3 (.t 6)]) (.seq (.seq (.ss [.nop,.call 8 aH aF [(.t 0),(.c (.int .i64 8))] [0],.mv 4 (.t 8)]) (.block 0 (.loop (.seq (.seq (.ss [.mv 9 (.t 4),.bin 10 .gtr (.t 9) (.c (.int .i64 0))]) (.cond (.t 10) (.skip) (.exit 0))) (.seq (.block 1 (.seq (.ss [.nop,.nop,.call 15 aH aF [(.t 0),(.c (.int .i64 4))] [0],.bin 16 .add (.c (.int .i64 1)) (.t 15),.nop,.call 18 aH aF [(.t 0),(.c (.int .i64 3))] [0],.bin 19 .add (.c (.int .i64 1)) (.t 18),.call 20 pP hU [(.t 0),(.t 16),(.t 19)] [0],.bld 5 [.int .i64 0,.int .i64 0,.sl [],.sl []] [],.st 5 0 (.t 20)]) (.seq (.ss [.mv 21 (.t 3),.nop,.sub 23 5 0 1,.nop,.sub 25 5 1 1,.call 26 kQ eF [(.t 21),(.t 23),(.t 25)] [],.bin 27 .lss (.t 26) (.c (.int .i64 0))]) (.cond (.t 27) (.ss [.mv 28 (.t 3),.sub 29 5 0 4,.call 30 nG fO [(.t 28),(.t 29)] [],.mv 3 (.t 30)]) (.skip))))) (.ss [.mv 11 (.t 4),.bin 12 .sub (.t 11) (.c (.int .i64 1)),.mv 4 (.t 12)])))))) (.seq (.ss [.mv 31 (.t 3),.mv 2 (.t 31)]) (.ret [2,0]))))
def yY:Cfg:={tt:=tt,sigs:=sigs,mv:=false,bm:=[6],eqt:=fH,keep:=[true,false,true,true,true,true,false,false,false,false,true,false,false,false,false,false,false,false,false,false,false,false,false,false,false,false,false,true,false,false,false,false],n:=32,pin:=[0],fail:=[],fz:=[] }
theorem GR:bP yY Tryz.f80 eE=some p_s_l71Pkgs:=by kernel_rfl
theorem GS {W:Wld}{ins outs:List (List D)}(h:pwp (FunOk PP W) p_s_l71Pkgs (aR outs) (envL ins)):FunOk PP W kS eE ins outs:=aQ (C:=yY) (aP rfl) (bB rfl rfl) mixed Tryz.func80 (by kernel_rfl) (by kernel_rfl) GR h

def p_s_l12With:PC:= .seq (.ss [.mv 3 (.t 1),.mv 4 (.c (.sl []))]) (.seq (.ss [.lit 8 0 [.int .i64 0,.int .i64 0,.sl [],.sl []] [],.mv 5 (.t 8)]) (.seq (.seq (.ss [.mv 6 (.c (.int .i64 0))]) (.block 0 (.loop (.seq (.seq (.ss [.mv 9 (.t 6),.mv 10 (.t 0),.len 11 (.t 10),.bin 12 .lss (.t 9) (.t 11)]) (.cond (.t 12) (.skip) (.exit 0))) (.seq (.block 1 (.seq (.ss [.mv 15 (.t 0),.mv 16 (.t 6),.elp 17 (.t 15) (.t 16) 4,.mv 18 (.t 17),.eld 19 18 0 [.int .i64 0],.mv 20 (.t 0),.mv 21 (.t 6),.elp 22 (.t 20) (.t 21) 4,.mv 23 (.t 22),.eld 24 23 1 [.int .i64 0],.nop,.sub 26 3 0 1,.nop,.sub 28 3 1 1,.call 29 jN eM [(.t 19),(.t 24),(.t 26),(.t 28)] []]) (.cond (.t 29) (.ss [.mv 30 (.t 5),.mv 31 (.t 0),.mv 32 (.t 6),.elp 33 (.t 31) (.t 32) 4,.eld 34 33 0 [.int .i64 0,.int .i64 0,.sl [],.sl []],.lit 35 1 [.int .i64 0,.int .i64 0,.sl [],.sl []] [(0,(.t 34))],.app 36 4 false (.t 30) (.t 35),.mv 5 (.t 36)]) (.skip)))) (.ss [.mv 13 (.t 6),.bin 14 .add (.t 13) (.c (.int .i64 1)),.mv 6 (.t 14)])))))) (.seq (.ss [.mv 37 (.t 5),.sub 38 3 0 4,.lit 39 1 [.int .i64 0,.int .i64 0,.sl [],.sl []] [(0,(.t 38))],.app 40 4 false (.t 37) (.t 39),.mv 5 (.t 40)]) (.seq (.seq (.ss [.mv 7 (.c (.int .i64 0))]) (.block 2 (.loop (.seq (.seq (.ss [.mv 41 (.t 7),.mv 42 (.t 0),.len 43 (.t 42),.bin 44 .lss (.t 41) (.t 43)]) (.cond (.t 44) (.skip) (.exit 2))) (.seq (.block 3 (.seq (.ss [.nop,.sub 48 3 0 1,.nop,.sub 50 3 1 1,.mv 51 (.t 0),.mv 52 (.t 7),.elp 53 (.t 51) (.t 52) 4,.mv 54 (.t 53),.eld 55 54 0 [.int .i64 0],.mv 56 (.t 0),.mv 57 (.t 7),.elp 58 (.t 56) (.t 57) 4,.mv 59 (.t 58),.eld 60 59 1 [.int .i64 0],.call 61 jN eM [(.t 48),(.t 50),(.t 55),(.t 60)] []]) (.cond (.t 61) (.ss [.mv 62 (.t 5),.mv 63 (.t 0),.mv 64 (.t 7),.elp 65 (.t 63) (.t 64) 4,.eld 66 65 0 [.int .i64 0,.int .i64 0,.sl [],.sl []],.lit 67 1 [.int .i64 0,.int .i64 0,.sl [],.sl []] [(0,(.t 66))],.app 68 4 false (.t 62) (.t 67),.mv 5 (.t 68)]) (.skip)))) (.ss [.mv 45 (.t 7),.bin 46 .add (.t 45) (.c (.int .i64 1)),.mv 7 (.t 46)])))))) (.seq (.ss [.mv 69 (.t 5),.mv 4 (.t 69)]) (.ret [4]))))))
def yZ:Cfg:={tt:=tt,sigs:=sigs,mv:=false,bm:=[8],eqt:=fH,keep:=[true,true,false,true,true,true,true,true,false,false,false,false,true,false,false,false,false,false,false,false,false,false,false,false,false,false,false,false,false,true,false,false,false,false,false,false,false,false,false,false,false,false,false,false,true,false,false,false,false,false,false,false,false,false,false,false,false,false,false,false,false,true,false,false,false,false,false,false,false,false],n:=70,pin:=[],fail:=[],fz:=[] }
theorem GT:bP yZ Tryz.f40 fO=some p_s_l12With:=by kernel_rfl
theorem GU {W:Wld}{ins outs:List (List D)}(h:pwp (FunOk PP W) p_s_l12With (aR outs) (envL ins)):FunOk PP W nG fO ins outs:=aQ (C:=yZ) (aP rfl) (bB rfl rfl) mixed Tryz.func40 (by kernel_rfl) (by kernel_rfl) GT h

def p_l_luPkgs:PC:= .seq (.ss [.mv 4 (.c (.bool false))]) (.seq (.seq (.ss [.mv 6 (.t 0),.len 7 (.t 6),.mv 8 (.t 1),.len 9 (.t 8),.bin 10 .neq (.t 7) (.t 9)]) (.cond (.t 10) (.seq (.ss [.mv 4 (.c (.bool false))]) (.ret [4])) (.skip))) (.seq (.seq (.ss [.mv 5 (.c (.int .i64 0))]) (.block 0 (.loop (.seq (.seq (.ss [.mv 11 (.t 5),.mv 12 (.t 0),.len 13 (.t 12),.bin 14 .lss (.t 11) (.t 13)]) (.cond (.t 14) (.skip) (.exit 0))) (.seq (.block 1 (.seq (.ss [.mv 17 (.t 0),.mv 18 (.t 5),.elp 19 (.t 17) (.t 18) 4,.eld 20 19 0 [.int .i64 0,.int .i64 0,.sl [],.sl []],.mv 21 (.t 1),.mv 22 (.t 5),.elp 23 (.t 21) (.t 22) 4,.eld 24 23 0 [.int .i64 0,.int .i64 0,.sl [],.sl []],.call 25 xH lY [(.t 20),(.t 24)] [],.un 26 .not (.t 25)]) (.cond (.t 26) (.seq (.ss [.mv 4 (.c (.bool false))]) (.ret [4])) (.skip)))) (.ss [.mv 15 (.t 5),.bin 16 .add (.t 15) (.c (.int .i64 1)),.mv 5 (.t 16)])))))) (.seq (.ss [.mv 4 (.c (.bool true))]) (.ret [4]))))
def Bv:Cfg:={tt:=tt,sigs:=sigs,mv:=false,bm:=[],eqt:=fH,keep:=[true,true,false,false,true,true,false,false,false,false,true,false,false,false,true,false,false,false,false,false,false,false,false,false,false,false,true],n:=27,pin:=[],fail:=[],fz:=[] }
theorem IH:bP Bv Tryz.f11 fP=some p_l_luPkgs:=by kernel_rfl
theorem II {W:Wld}{ins outs:List (List D)}(h:pwp (FunOk PP W) p_l_luPkgs (aR outs) (envL ins)):FunOk PP W mK fP ins outs:=aQ (C:=Bv) (aP rfl) (bB rfl rfl) mixed Tryz.func11 (by kernel_rfl) (by kernel_rfl) IH h

def p_s_TrustOk:PC:= .seq (.ss [.mv 1 (.t 0),.mv 2 (.c (.bool false))]) (.seq (.seq (.ss [.nop,.sub 4 1 0 3,.call 5 tR jS [(.t 4)] [],.un 6 .not (.t 5)]) (.cond (.t 6) (.seq (.ss [.mv 2 (.c (.bool false))]) (.ret [2])) (.skip))) (.seq (.seq (.ss [.nop,.sub 8 1 3 1]) (.cond (.t 8) (.seq (.ss [.nop,.sub 10 1 4 3,.call 11 nI fS [(.t 10)] [],.mv 2 (.t 11)]) (.ret [2])) (.skip))) (.seq (.ss [.nop,.nop,.sub 14 1 4 1,.bin 15 .eql (.t 14) (.c (.int .i64 0)),.mv 16 (.t 15),.g 16 true 17 (.nop),.g 16 true 18 (.nop),.g 16 true 19 (.sub 19 1 5 1),.g 16 true 20 (.bin 20 .eql (.t 19) (.c (.int .i64 0))),.pick 21 (.t 16) (.t 20) (.c (.bool false)),.mv 22 (.t 21),.g 22 true 23 (.nop),.g 22 true 24 (.nop),.g 22 true 25 (.sub 25 1 6 1),.g 22 true 26 (.len 26 (.t 25)),.g 22 true 27 (.bin 27 .eql (.t 26) (.c (.int .i64 0))),.pick 28 (.t 22) (.t 27) (.c (.bool false)),.mv 2 (.t 28)]) (.ret [2]))))
def zC:Cfg:={tt:=tt,sigs:=sigs,mv:=false,bm:=[],eqt:=fH,keep:=[true,true,true,false,false,false,true,false,true,false,false,false,false,false,false,false,false,false,false,false,false,false,false,false,false,false,false,false,false],n:=29,pin:=[],fail:=[],fz:=[] }
theorem GV:bP zC Tryz.f13 iO=some p_s_TrustOk:=by kernel_rfl
theorem GW {W:Wld}{ins outs:List (List D)}(h:pwp (FunOk PP W) p_s_TrustOk (aR outs) (envL ins)):FunOk PP W rE iO ins outs:=aQ (C:=zC) (aP rfl) (bB rfl rfl) mixed Tryz.func13 (by kernel_rfl) (by kernel_rfl) GV h

def p_s_StoreOk:PC:= .seq (.ss [.mv 2 (.c (.bool false))]) (.seq (.ss [.mv 3 (.t 0),.call 4 pQ hY [(.t 3)] [],.mv 2 (.t 4)]) (.ret [2]))
def zD:Cfg:={tt:=tt,sigs:=sigs,mv:=false,bm:=[],eqt:=fH,keep:=[true,false,true,false,false],n:=5,pin:=[],fail:=[],fz:=[] }
theorem GX:bP zD Tryz.f14 iP=some p_s_StoreOk:=by kernel_rfl
theorem GY {W:Wld}{ins outs:List (List D)}(h:pwp (FunOk PP W) p_s_StoreOk (aR outs) (envL ins)):FunOk PP W rF iP ins outs:=aQ (C:=zD) (aP rfl) (bB rfl rfl) mixed Tryz.func14 (by kernel_rfl) (by kernel_rfl) GX h

def p_i_IndexHas:PC:= .seq (.ss [.mv 2 (.t 0),.bld 4 [.int .i64 0,.int .i64 0,.sl [],.sl []] [],.mv 5 (.c (.bool false))]) (.seq (.ss [.mv 9 (.t 1),.call 10 kR eG [(.t 9)] [],.mv 8 (.t 10),.ext 11 8 0 4,.ext 12 8 4 1,.bld 6 [.int .i64 0,.int .i64 0,.sl [],.sl []] [],.st 6 0 (.t 11),.mv 7 (.t 12)]) (.seq (.seq (.ss [.mv 13 (.t 7),.un 14 .not (.t 13),.mv 15 (.t 14),.g 15 false 16 (.sub 16 2 0 3),.g 15 false 17 (.call 17 nJ fU [(.t 16)] []),.g 15 false 18 (.un 18 .not (.t 17)),.pick 19 (.t 15) (.c (.bool true)) (.t 18),.mv 20 (.t 19),.g 20 false 21 (.nop),.g 20 false 22 (.sub 22 2 2 1),.g 20 false 23 (.sub 23 6 0 4),.g 20 false 24 (.call 24 pR hZ [(.t 23)] []),.g 20 false 25 (.call 25 eL bW [(.t 22),(.t 24)] []),.g 20 false 26 (.un 26 .not (.t 25)),.pick 27 (.t 20) (.c (.bool true)) (.t 26)]) (.cond (.t 27) (.seq (.ss [.bld 28 [.int .i64 0,.int .i64 0,.sl [],.sl []] [],.st 4 0 (.t 28),.mv 5 (.c (.bool false))]) (.ret [4,5])) (.skip))) (.seq (.ss [.sub 29 6 0 4,.st 4 0 (.t 29),.mv 5 (.c (.bool true))]) (.ret [4,5]))))
def vL:Cfg:={tt:=tt,sigs:=sigs,mv:=false,bm:=[],eqt:=fH,keep:=[true,true,true,false,true,true,true,true,false,false,false,false,false,false,false,false,false,false,false,false,false,false,false,false,false,false,false,true,false,false],n:=30,pin:=[],fail:=[],fz:=[] }
theorem Ei:bP vL Tryz.f15 dS=some p_i_IndexHas:=by kernel_rfl
theorem Ej {W:Wld}{ins outs:List (List D)}(h:pwp (FunOk PP W) p_i_IndexHas (aR outs) (envL ins)):FunOk PP W jC dS ins outs:=aQ (C:=vL) (aP rfl) (bB rfl rfl) mixed Tryz.func15 (by kernel_rfl) (by kernel_rfl) Ei h

def p_l_luPkg:PC:= .seq (.ss [.mv 2 (.t 0),.mv 3 (.t 1),.mv 4 (.c (.bool false))]) (.seq (.seq (.ss [.nop,.sub 8 2 0 1,.nop,.sub 10 3 0 1,.bin 11 .neq (.t 8) (.t 10),.mv 12 (.t 11),.g 12 false 13 (.nop),.g 12 false 14 (.sub 14 2 1 1),.g 12 false 15 (.nop),.g 12 false 16 (.sub 16 3 1 1),.g 12 false 17 (.bin 17 .neq (.t 14) (.t 16)),.pick 18 (.t 12) (.c (.bool true)) (.t 17),.mv 19 (.t 18),.g 19 false 20 (.nop),.g 19 false 21 (.sub 21 2 2 1),.g 19 false 22 (.len 22 (.t 21)),.g 19 false 23 (.nop),.g 19 false 24 (.sub 24 3 2 1),.g 19 false 25 (.len 25 (.t 24)),.g 19 false 26 (.bin 26 .neq (.t 22) (.t 25)),.pick 27 (.t 19) (.c (.bool true)) (.t 26),.mv 28 (.t 27),.g 28 false 29 (.nop),.g 28 false 30 (.sub 30 2 3 1),.g 28 false 31 (.len 31 (.t 30)),.g 28 false 32 (.nop),.g 28 false 33 (.sub 33 3 3 1),.g 28 false 34 (.len 34 (.t 33)),.g 28 false 35 (.bin 35 .neq (.t 31) (.t 34)),.pick 36 (.t 28) (.c (.bool true)) (.t 35)]) (.cond (.t 36) (.seq (.ss [.mv 4 (.c (.bool false))]) (.ret [4])) (.skip))) (.seq (.seq (.ss [.mv 5 (.c (.int .i64 0))]) (.block 0 (.loop (.seq (.seq (.ss [.mv 37 (.t 5),.nop,.sub 39 2 2 1,.len 40 (.t 39),.bin 41 .lss (.t 37) (.t 40)]) (.cond (.t 41) (.skip) (.exit 0))) (.seq (.block 1 (.seq (.ss [.nop,.sub 45 2 2 1,.mv 46 (.t 5),.elp 47 (.t 45) (.t 46) 2,.eld 48 47 0 [.int .i64 0,.int .i64 0],.nop,.sub 50 3 2 1,.mv 51 (.t 5),.elp 52 (.t 50) (.t 51) 2,.eld 53 52 0 [.int .i64 0,.int .i64 0],.eqs 54 true [.int .i64 0,.int .i64 0] (.t 48) (.t 53)]) (.cond (.t 54) (.seq (.ss [.mv 4 (.c (.bool false))]) (.ret [4])) (.skip)))) (.ss [.mv 42 (.t 5),.bin 43 .add (.t 42) (.c (.int .i64 1)),.mv 5 (.t 43)])))))) (.seq (.seq (.ss [.mv 6 (.c (.int .i64 0))]) (.block 2 (.loop (.seq (.seq (.ss [.mv 55 (.t 6),.nop,.sub 57 2 3 1,.len 58 (.t 57),.bin 59 .lss (.t 55) (.t 58)]) (.cond (.t 59) (.skip) (.exit 2))) (.seq (.block 3 (.seq (.ss [.nop,.sub 63 2 3 1,.mv 64 (.t 6),.elp 65 (.t 63) (.t 64) 2,.eld 66 65 0 [.int .i64 0,.int .i64 0],.nop,.sub 68 3 3 1,.mv 69 (.t 6),.elp 70 (.t 68) (.t 69) 2,.eld 71 70 0 [.int .i64 0,.int .i64 0],.eqs 72 true [.int .i64 0,.int .i64 0] (.t 66) (.t 71)]) (.cond (.t 72) (.seq (.ss [.mv 4 (.c (.bool false))]) (.ret [4])) (.skip)))) (.ss [.mv 60 (.t 6),.bin 61 .add (.t 60) (.c (.int .i64 1)),.mv 6 (.t 61)])))))) (.seq (.ss [.mv 4 (.c (.bool true))]) (.ret [4])))))
def Da:Cfg:={tt:=tt,sigs:=sigs,mv:=false,bm:=[],eqt:=fH,keep:=[true,true,true,true,true,true,true,false,false,false,false,false,false,false,false,false,false,false,false,false,false,false,false,false,false,false,false,false,false,false,false,false,false,false,false,false,true,false,false,false,false,true,false,false,false,false,false,false,false,false,false,false,false,false,true,false,false,false,false,true,false,false,false,false,false,false,false,false,false,false,false,false,true],n:=73,pin:=[],fail:=[],fz:=[] }
theorem Ke:bP Da Tryz.f17 lY=some p_l_luPkg:=by kernel_rfl
theorem Kf {W:Wld}{ins outs:List (List D)}(h:pwp (FunOk PP W) p_l_luPkg (aR outs) (envL ins)):FunOk PP W xH lY ins outs:=aQ (C:=Da) (aP rfl) (bB rfl rfl) mixed Tryz.func17 (by kernel_rfl) (by kernel_rfl) Ke h

def p_s_DrawStoreAdd:PC:= .seq (.ss [.bld 2 [.int .i64 0,.sl [],.int .i64 0,.bool false,.int .i64 0,.int .i64 0,.sl []] [],.mv 3 (.c (.sl [])),.mv 4 (.c (.str ⟨#[]⟩))]) (.seq (.ss [.mv 9 (.t 0),.call 10 tQ jP [(.t 9)] [],.nop]) (.seq (.ss [.nop,.call 13 pO gK [(.t 10)] [10],.mv 11 (.t 13),.ext 14 11 0 7,.ext 15 11 7 1,.bld 6 [.int .i64 0,.sl [],.int .i64 0,.bool false,.int .i64 0,.int .i64 0,.sl []] [],.st 6 0 (.t 14),.mv 7 (.t 15)]) (.seq (.ss [.nop,.call 17 mL fM [(.t 10)] [10],.call 18 iK dU [(.t 17)] [],.mv 8 (.t 18)]) (.seq (.seq (.ss [.mv 19 (.t 7),.len 20 (.t 19),.bin 21 .gtr (.t 20) (.c (.int .i64 0)),.mv 22 (.t 21),.g 22 true 23 (.nop),.g 22 true 24 (.call 24 aH aF [(.t 10),(.c (.int .i64 6))] [10]),.g 22 true 25 (.bin 25 .gtr (.t 24) (.c (.int .i64 0))),.pick 26 (.t 22) (.t 25) (.c (.bool false))]) (.cond (.t 26) (.ss [.mv 27 (.t 7),.nop,.mv 29 (.t 7),.len 30 (.t 29),.call 31 aH aF [(.t 10),(.t 30)] [10],.elp 32 (.t 27) (.t 31) 4,.eld 33 32 0 [.int .i64 0,.int .i64 0,.sl [],.sl []],.call 34 iK dU [(.t 33)] [],.mv 8 (.t 34)]) (.skip))) (.seq (.ss [.sub 35 6 0 7,.nop,.mv 37 (.t 7),.call 38 rH iQ [(.t 10),(.t 37)] [10],.mv 39 (.t 8),.st 2 0 (.t 35),.mv 3 (.t 38),.mv 4 (.t 39)]) (.ret [2,3,4]))))))
def oP:Cfg:={tt:=tt,sigs:=sigs,mv:=false,bm:=[],eqt:=fH,keep:=[true,false,true,true,true,true,true,true,true,false,true,false,false,false,false,false,false,false,false,false,false,false,false,false,false,false,true,false,false,false,false,false,false,false,false,false,false,false,false,false],n:=40,pin:=[],fail:=[],fz:=[] }
theorem xL:bP oP Tryz.f18 dD=some p_s_DrawStoreAdd:=by kernel_rfl
theorem xM {W:Wld}{ins outs:List (List D)}(h:pwp (FunOk PP W) p_s_DrawStoreAdd (aR outs) (envL ins)):FunOk PP W jM dD ins outs:=aQ (C:=oP) (aP rfl) (bB rfl rfl) mixed Tryz.func18 (by kernel_rfl) (by kernel_rfl) xL h

def p_s_StoreAdd:PC:= .seq (.ss [.mv 3 (.t 0),.mv 6 (.c (.sl [])),.mv 7 (.c (.bool false))]) (.seq (.seq (.ss [.sub 8 3 0 7,.call 9 rE iO [(.t 8)] [],.un 10 .not (.t 9),.mv 11 (.t 10),.g 11 false 12 (.mv 12 (.t 1)),.g 11 false 13 (.call 13 rF iP [(.t 12)] []),.g 11 false 14 (.un 14 .not (.t 13)),.pick 15 (.t 11) (.c (.bool true)) (.t 14)]) (.cond (.t 15) (.seq (.ss [.lit 16 0 [.int .i64 0,.int .i64 0,.sl [],.sl []] [],.mv 6 (.t 16),.mv 7 (.c (.bool false))]) (.ret [6,7])) (.skip))) (.seq (.ss [.sub 17 3 0 7,.mv 18 (.t 1),.call 19 rI iL [(.t 18)] [],.mv 20 (.t 2),.call 21 tS jQ [(.t 17),(.t 19),(.t 20)] [],.ext 22 21 0 1,.ext 23 21 1 1,.mv 6 (.t 22),.mv 7 (.t 23)]) (.ret [6,7])))
def vM:Cfg:={tt:=tt,sigs:=sigs,mv:=false,bm:=[],eqt:=fH,keep:=[true,true,true,true,false,false,true,true,false,false,false,false,false,false,false,true,false,false,false,false,false,false,false,false],n:=24,pin:=[],fail:=[],fz:=[] }
theorem Ek:bP vM Tryz.f19 gJ=some p_s_StoreAdd:=by kernel_rfl
theorem El {W:Wld}{ins outs:List (List D)}(h:pwp (FunOk PP W) p_s_StoreAdd (aR outs) (envL ins)):FunOk PP W pN gJ ins outs:=aQ (C:=vM) (aP rfl) (bB rfl rfl) mixed Tryz.func19 (by kernel_rfl) (by kernel_rfl) Ek h

def p_i_StoreOk:PC:= .seq (.ss [.mv 2 (.c (.bool false))]) (.seq (.seq (.ss [.mv 5 (.t 0),.len 6 (.t 5),.mv 7 (.c (.int .i64 0))]) (.block 0 (.loop (.seq (.ss [.bin 8 .lss (.t 7) (.t 6)]) (.seq (.cond (.t 8) (.skip) (.exit 0)) (.seq (.block 1 (.seq (.ss [.mv 9 (.t 7),.elp 10 (.t 5) (.t 7) 4,.eld 11 10 0 [.int .i64 0,.int .i64 0,.sl [],.sl []],.bld 4 [.int .i64 0,.int .i64 0,.sl [],.sl []] [],.mv 3 (.t 9),.st 4 0 (.t 11)]) (.seq (.ss [.sub 12 4 0 4,.call 13 sG jT [(.t 12)] [],.un 14 .not (.t 13),.mv 15 (.t 14),.g 15 false 16 (.mv 16 (.t 3)),.g 15 false 17 (.bin 17 .gtr (.t 16) (.c (.int .i64 0))),.g 15 false 18 (.mv 18 (.t 17)),.g 18 true 19 (.mv 19 (.t 0)),.g 18 true 20 (.mv 20 (.t 3)),.g 18 true 21 (.bin 21 .sub (.t 20) (.c (.int .i64 1))),.g 18 true 22 (.elp 22 (.t 19) (.t 21) 4),.g 18 true 23 (.eld 23 22 0 [.int .i64 0,.int .i64 0,.sl [],.sl []]),.g 18 true 24 (.sub 24 4 0 4),.g 18 true 25 (.call 25 cG cH [(.t 23),(.t 24)] []),.g 18 true 26 (.bin 26 .geq (.t 25) (.c (.int .i64 0))),.g 15 false 27 (.pick 27 (.t 18) (.t 26) (.c (.bool false))),.pick 28 (.t 15) (.c (.bool true)) (.t 27)]) (.cond (.t 28) (.seq (.ss [.mv 2 (.c (.bool false))]) (.ret [2])) (.skip))))) (.ss [.bin 29 .add (.t 7) (.c (.int .i64 1)),.mv 7 (.t 29)]))))))) (.seq (.ss [.mv 2 (.c (.bool true))]) (.ret [2])))
def zE:Cfg:={tt:=tt,sigs:=sigs,mv:=false,bm:=[],eqt:=fH,keep:=[true,false,true,true,true,true,true,true,true,false,false,false,false,false,false,false,false,false,false,false,false,false,false,false,false,false,false,false,true,false],n:=30,pin:=[],fail:=[],fz:=[] }
theorem GZ:bP zE Tryz.f23 fQ=some p_i_StoreOk:=by kernel_rfl
theorem Ga {W:Wld}{ins outs:List (List D)}(h:pwp (FunOk PP W) p_i_StoreOk (aR outs) (envL ins)):FunOk PP W nF fQ ins outs:=aQ (C:=zE) (aP rfl) (bB rfl rfl) mixed Tryz.func23 (by kernel_rfl) (by kernel_rfl) GZ h

def p_s_l71Trust:PC:= .seq (.ss [.bld 2 [.int .i64 0,.sl [],.int .i64 0,.bool false,.int .i64 0,.int .i64 0,.sl []] [],.mv 3 (.c (.sl []))]) (.seq (.ss [.nop,.call 7 rJ iM [(.t 0)] [0],.bld 8 [.int .i64 0,.sl [],.int .i64 0,.bool false,.int .i64 0,.int .i64 0,.sl []] [(0,(.t 7))],.bld 4 [.int .i64 0,.sl [],.int .i64 0,.bool false,.int .i64 0,.int .i64 0,.sl []] [],.st 4 0 (.t 8)]) (.seq (.ss [.nop,.call 10 kS eE [(.t 0)] [0],.mv 5 (.t 10)]) (.seq (.seq (.ss [.nop,.call 12 aH aF [(.t 0),(.c (.int .i64 5))] [0],.bin 13 .gtr (.t 12) (.c (.int .i64 0))]) (.cond (.t 13) (.seq (.ss [.nop,.st 4 3 (.c (.bool true))]) (.ss [.nop,.call 17 aH aF [(.t 0),(.c (.int .i64 4))] [0],.bin 18 .add (.c (.int .i64 1)) (.t 17),.nop,.call 20 aH aF [(.t 0),(.c (.int .i64 12))] [0],.mv 21 (.t 5),.call 22 nK fN [(.t 18),(.t 20),(.t 21)] [],.mv 15 (.t 22),.ext 23 15 0 3,.ext 24 15 3 1,.nop,.st 4 4 (.t 23)])) (.skip))) (.seq (.seq (.ss [.nop,.call 27 aH aF [(.t 0),(.c (.int .i64 24))] [0]]) (.block 0 (.seq (.ss [.bin 29 .eql (.t 27) (.c (.int .i64 0)),.mv 28 (.t 29)]) (.cond (.t 28) (.ss [.nop,.sub 31 4 3 1,.un 32 .not (.t 31),.nop,.st 4 3 (.t 32)]) (.seq (.ss [.bin 35 .eql (.t 27) (.c (.int .i64 1)),.mv 34 (.t 35)]) (.cond (.t 34) (.ss [.nop,.call 37 pS gH [(.t 0)] [0],.nop,.st 4 4 (.t 37)]) (.skip))))))) (.seq (.ss [.sub 39 4 0 7,.mv 40 (.t 5),.st 2 0 (.t 39),.mv 3 (.t 40)]) (.ret [2,3,0]))))))
def vN:Cfg:={tt:=tt,sigs:=sigs,mv:=false,bm:=[],eqt:=fH,keep:=[true,false,true,true,true,true,false,false,false,false,false,false,false,true,false,false,false,false,false,false,false,false,false,false,false,false,false,true,true,false,false,false,false,false,true,false,false,false,false,false,false],n:=41,pin:=[0],fail:=[],fz:=[] }
theorem Em:bP vN Tryz.f34 gK=some p_s_l71Trust:=by kernel_rfl
theorem En {W:Wld}{ins outs:List (List D)}(h:pwp (FunOk PP W) p_s_l71Trust (aR outs) (envL ins)):FunOk PP W pO gK ins outs:=aQ (C:=vN) (aP rfl) (bB rfl rfl) mixed Tryz.func34 (by kernel_rfl) (by kernel_rfl) Em h

def p_s_l71Some:PC:= .seq (.ss [.mv 4 (.c (.sl []))]) (.seq (.ss [.lit 7 0 [.int .i64 0,.int .i64 0,.sl [],.sl []] [],.mv 5 (.t 7)]) (.seq (.seq (.ss [.mv 6 (.c (.int .i64 0))]) (.block 0 (.loop (.seq (.seq (.ss [.mv 8 (.t 6),.mv 9 (.t 1),.len 10 (.t 9),.bin 11 .lss (.t 8) (.t 10)]) (.cond (.t 11) (.skip) (.exit 0))) (.seq (.block 1 (.seq (.ss [.nop,.call 15 aH aF [(.t 0),(.c (.int .i64 3))] [0],.bin 16 .gtr (.t 15) (.c (.int .i64 0))]) (.cond (.t 16) (.ss [.mv 17 (.t 5),.mv 18 (.t 1),.mv 19 (.t 6),.elp 20 (.t 18) (.t 19) 4,.eld 21 20 0 [.int .i64 0,.int .i64 0,.sl [],.sl []],.lit 22 1 [.int .i64 0,.int .i64 0,.sl [],.sl []] [(0,(.t 21))],.app 23 4 false (.t 17) (.t 22),.mv 5 (.t 23)]) (.skip)))) (.ss [.mv 12 (.t 6),.bin 13 .add (.t 12) (.c (.int .i64 1)),.mv 6 (.t 13)])))))) (.seq (.seq (.ss [.nop,.call 25 aH aF [(.t 0),(.c (.int .i64 12))] [0],.bin 26 .eql (.t 25) (.c (.int .i64 0))]) (.cond (.t 26) (.seq (.ss [.nop,.call 28 tV jR [(.t 0)] [0],.mv 4 (.t 28)]) (.ret [4,0])) (.skip))) (.seq (.ss [.mv 29 (.t 5),.mv 4 (.t 29)]) (.ret [4,0])))))
def zF:Cfg:={tt:=tt,sigs:=sigs,mv:=false,bm:=[],eqt:=fH,keep:=[true,true,false,false,true,true,true,false,false,false,false,true,false,false,false,false,true,false,false,false,false,false,false,false,false,false,true,false,false,false],n:=30,pin:=[0],fail:=[],fz:=[] }
theorem Gb:bP zF Tryz.f35 iQ=some p_s_l71Some:=by kernel_rfl
theorem Gc {W:Wld}{ins outs:List (List D)}(h:pwp (FunOk PP W) p_s_l71Some (aR outs) (envL ins)):FunOk PP W rH iQ ins outs:=aQ (C:=zF) (aP rfl) (bB rfl rfl) mixed Tryz.func35 (by kernel_rfl) (by kernel_rfl) Gb h

def p_s_l6Rd_pick:PC:= .seq (.ss [.mv 4 (.c (.int .i64 0))]) (.seq (.ss [.nop,.nop,.nop,.nop,.sub 11 0 1 1,.bin 12 .add (.t 11) (.c (.int .i64 1)),.nop,.nop,.st 0 1 (.t 12)]) (.seq (.seq (.ss [.mv 15 (.t 1),.bin 16 .lss (.t 15) (.c (.int .i64 1)),.mv 17 (.t 16),.g 17 false 18 (.nop),.g 17 false 19 (.nop),.g 17 false 20 (.nop),.g 17 false 21 (.sub 21 0 0 1),.g 17 false 22 (.len 22 (.t 21)),.g 17 false 23 (.bin 23 .eql (.t 22) (.c (.int .i64 0))),.pick 24 (.t 17) (.c (.bool true)) (.t 23)]) (.cond (.t 24) (.seq (.ss [.mv 4 (.c (.int .i64 0))]) (.ret [4,0])) (.skip))) (.seq (.ss [.nop,.nop,.nop,.sub 28 0 1 1,.bin 29 .sub (.t 28) (.c (.int .i64 1)),.mv 5 (.t 29)]) (.seq (.seq (.ss [.mv 30 (.t 5),.nop,.nop,.nop,.sub 34 0 0 1,.len 35 (.t 34),.bin 36 .lss (.t 30) (.t 35)]) (.cond (.t 36) (.seq (.ss [.nop,.nop,.nop,.sub 40 0 0 1,.mv 41 (.t 5),.elp 42 (.t 40) (.t 41) 1,.eld 43 42 0 [.int .u8 0],.cvt 44 .i64 (.t 43),.mv 45 (.t 1),.bin 46 .rem (.t 44) (.t 45),.mv 4 (.t 46)]) (.ret [4,0])) (.skip))) (.seq (.ss [.nop,.nop,.nop,.sub 50 0 0 1,.mv 51 (.t 5),.nop,.nop,.nop,.sub 55 0 0 1,.len 56 (.t 55),.bin 57 .rem (.t 51) (.t 56),.elp 58 (.t 50) (.t 57) 1,.eld 59 58 0 [.int .u8 0],.cvt 60 .i64 (.t 59),.bin 61 .mul (.t 60) (.c (.int .i64 131)),.nop,.nop,.nop,.sub 65 0 0 1,.mv 66 (.t 5),.bin 67 .mul (.t 66) (.c (.int .i64 7)),.bin 68 .add (.t 67) (.c (.int .i64 3)),.nop,.nop,.nop,.sub 72 0 0 1,.len 73 (.t 72),.bin 74 .rem (.t 68) (.t 73),.elp 75 (.t 65) (.t 74) 1,.eld 76 75 0 [.int .u8 0],.cvt 77 .i64 (.t 76),.bin 78 .mul (.t 77) (.c (.int .i64 1117)),.bin 79 .add (.t 61) (.t 78),.mv 80 (.t 5),.bin 81 .mul (.t 80) (.c (.int .i64 29)),.bin 82 .add (.t 79) (.t 81),.mv 83 (.t 5),.nop,.nop,.nop,.sub 87 0 0 1,.len 88 (.t 87),.bin 89 .quo (.t 83) (.t 88),.bin 90 .mul (.t 89) (.c (.int .i64 53)),.bin 91 .add (.t 82) (.t 90),.mv 6 (.t 91)]) (.seq (.ss [.mv 92 (.t 6),.mv 93 (.t 6),.bin 94 .quo (.t 93) (.c (.int .i64 64)),.bin 95 .xor (.t 92) (.t 94),.mv 6 (.t 95)]) (.seq (.ss [.mv 96 (.t 6),.mv 97 (.t 1),.bin 98 .rem (.t 96) (.t 97),.mv 4 (.t 98)]) (.ret [4,0]))))))))
def tC:Cfg:={tt:=tt,sigs:=sigs,mv:=false,bm:=[],eqt:=fH,keep:=[true,true,false,false,true,true,true,false,false,false,false,false,false,false,false,false,false,false,false,false,false,false,false,false,true,false,false,false,false,false,false,false,false,false,false,false,true,false,false,false,false,false,false,false,false,false,false,false,false,false,false,false,false,false,false,false,false,false,false,false,false,false,false,false,false,false,false,false,false,false,false,false,false,false,false,false,false,false,false,false,false,false,false,false,false,false,false,false,false,false,false,false,false,false,false,false,false,false,false],n:=99,pin:=[0],fail:=[],fz:=[] }
theorem Cg:bP tC Tryz.f36 aF=some p_s_l6Rd_pick:=by kernel_rfl
theorem Ch {W:Wld}{ins outs:List (List D)}(h:pwp (FunOk PP W) p_s_l6Rd_pick (aR outs) (envL ins)):FunOk PP W aH aF ins outs:=aQ (C:=tC) (aP rfl) (bB rfl rfl) mixed Tryz.func36 (by kernel_rfl) (by kernel_rfl) Cg h

end
section

def p_s_l12Find:PC:= .seq (.ss [.mv 6 (.c (.int .i64 0))]) (.seq (.seq (.ss [.mv 7 (.c (.int .i64 0))]) (.block 0 (.loop (.seq (.seq (.ss [.mv 8 (.t 7),.mv 9 (.t 0),.len 10 (.t 9),.bin 11 .lss (.t 8) (.t 10)]) (.cond (.t 11) (.skip) (.exit 0))) (.seq (.block 1 (.seq (.ss [.mv 14 (.t 0),.mv 15 (.t 7),.elp 16 (.t 14) (.t 15) 4,.mv 17 (.t 16),.eld 18 17 0 [.int .i64 0],.mv 19 (.t 1),.bin 20 .eql (.t 18) (.t 19),.mv 21 (.t 20),.g 21 true 22 (.mv 22 (.t 0)),.g 21 true 23 (.mv 23 (.t 7)),.g 21 true 24 (.elp 24 (.t 22) (.t 23) 4),.g 21 true 25 (.mv 25 (.t 24)),.g 21 true 26 (.eld 26 25 1 [.int .i64 0]),.g 21 true 27 (.mv 27 (.t 2)),.g 21 true 28 (.bin 28 .eql (.t 26) (.t 27)),.pick 29 (.t 21) (.t 28) (.c (.bool false))]) (.cond (.t 29) (.seq (.ss [.mv 30 (.t 7),.mv 6 (.t 30)]) (.ret [6])) (.skip)))) (.ss [.mv 12 (.t 7),.bin 13 .add (.t 12) (.c (.int .i64 1)),.mv 7 (.t 13)])))))) (.seq (.ss [.mv 6 (.c (.int .i64 (-1)))]) (.ret [6])))
def zG:Cfg:={tt:=tt,sigs:=sigs,mv:=false,bm:=[],eqt:=fH,keep:=[true,true,true,false,false,false,true,true,false,false,false,true,false,false,false,false,false,false,false,false,false,false,false,false,false,false,false,false,false,true,false],n:=31,pin:=[],fail:=[],fz:=[] }
theorem Ge:bP zG Tryz.f38 eF=some p_s_l12Find:=by kernel_rfl
theorem zH {W:Wld}{ins outs:List (List D)}(h:pwp (FunOk PP W) p_s_l12Find (aR outs) (envL ins)):FunOk PP W kQ eF ins outs:=aQ (C:=zG) (aP rfl) (bB rfl rfl) mixed Tryz.func38 (by kernel_rfl) (by kernel_rfl) Ge h

def p_s_l3Pkgs:PC:= .seq (.ss [.mv 2 (.c (.bool false))]) (.seq (.seq (.ss [.mv 3 (.c (.int .i64 0))]) (.block 0 (.loop (.seq (.seq (.ss [.mv 4 (.t 3),.mv 5 (.t 0),.len 6 (.t 5),.bin 7 .lss (.t 4) (.t 6)]) (.cond (.t 7) (.skip) (.exit 0))) (.seq (.block 1 (.seq (.ss [.mv 10 (.t 0),.mv 11 (.t 3),.elp 12 (.t 10) (.t 11) 4,.eld 13 12 0 [.int .i64 0,.int .i64 0,.sl [],.sl []],.call 14 sH jV [(.t 13)] [],.un 15 .not (.t 14),.mv 16 (.t 15),.g 16 false 17 (.mv 17 (.t 3)),.g 16 false 18 (.bin 18 .gtr (.t 17) (.c (.int .i64 0))),.g 16 false 19 (.mv 19 (.t 18)),.g 19 true 20 (.mv 20 (.t 0)),.g 19 true 21 (.mv 21 (.t 3)),.g 19 true 22 (.bin 22 .sub (.t 21) (.c (.int .i64 1))),.g 19 true 23 (.elp 23 (.t 20) (.t 22) 4),.g 19 true 24 (.mv 24 (.t 23)),.g 19 true 25 (.eld 25 24 0 [.int .i64 0]),.g 19 true 26 (.mv 26 (.t 0)),.g 19 true 27 (.mv 27 (.t 3)),.g 19 true 28 (.bin 28 .sub (.t 27) (.c (.int .i64 1))),.g 19 true 29 (.elp 29 (.t 26) (.t 28) 4),.g 19 true 30 (.mv 30 (.t 29)),.g 19 true 31 (.eld 31 30 1 [.int .i64 0]),.g 19 true 32 (.mv 32 (.t 0)),.g 19 true 33 (.mv 33 (.t 3)),.g 19 true 34 (.elp 34 (.t 32) (.t 33) 4),.g 19 true 35 (.mv 35 (.t 34)),.g 19 true 36 (.eld 36 35 0 [.int .i64 0]),.g 19 true 37 (.mv 37 (.t 0)),.g 19 true 38 (.mv 38 (.t 3)),.g 19 true 39 (.elp 39 (.t 37) (.t 38) 4),.g 19 true 40 (.mv 40 (.t 39)),.g 19 true 41 (.eld 41 40 1 [.int .i64 0]),.g 19 true 42 (.call 42 jN eM [(.t 25),(.t 31),(.t 36),(.t 41)] []),.g 19 true 43 (.un 43 .not (.t 42)),.g 16 false 44 (.pick 44 (.t 19) (.t 43) (.c (.bool false))),.pick 45 (.t 16) (.c (.bool true)) (.t 44)]) (.cond (.t 45) (.seq (.ss [.mv 2 (.c (.bool false))]) (.ret [2])) (.skip)))) (.ss [.mv 8 (.t 3),.bin 9 .add (.t 8) (.c (.int .i64 1)),.mv 3 (.t 9)])))))) (.seq (.ss [.mv 2 (.c (.bool true))]) (.ret [2])))
def Bw:Cfg:={tt:=tt,sigs:=sigs,mv:=false,bm:=[],eqt:=fH,keep:=[true,false,true,true,false,false,false,true,false,false,false,false,false,false,false,false,false,false,false,false,false,false,false,false,false,false,false,false,false,false,false,false,false,false,false,false,false,false,false,false,false,false,false,false,false,true],n:=46,pin:=[],fail:=[],fz:=[] }
theorem IJ:bP Bw Tryz.f39 hY=some p_s_l3Pkgs:=by kernel_rfl
theorem IK {W:Wld}{ins outs:List (List D)}(h:pwp (FunOk PP W) p_s_l3Pkgs (aR outs) (envL ins)):FunOk PP W pQ hY ins outs:=aQ (C:=Bw) (aP rfl) (bB rfl rfl) mixed Tryz.func39 (by kernel_rfl) (by kernel_rfl) IJ h

def p_i_TrustOk:PC:= .seq (.ss [.mv 1 (.t 0),.mv 2 (.c (.bool false))]) (.seq (.seq (.ss [.nop,.sub 4 1 0 3,.call 5 tU jU [(.t 4)] [],.un 6 .not (.t 5)]) (.cond (.t 6) (.seq (.ss [.mv 2 (.c (.bool false))]) (.ret [2])) (.skip))) (.seq (.seq (.ss [.nop,.sub 8 1 3 1]) (.cond (.t 8) (.seq (.ss [.nop,.sub 10 1 4 3,.call 11 nJ fU [(.t 10)] [],.mv 2 (.t 11)]) (.ret [2])) (.skip))) (.seq (.ss [.nop,.sub 13 1 4 3,.bld 14 [.int .i64 0,.int .i64 0,.sl []] [],.call 15 mM eB [(.t 13),(.t 14)] [],.mv 2 (.t 15)]) (.ret [2]))))
def zI:Cfg:={tt:=tt,sigs:=sigs,mv:=false,bm:=[],eqt:=fH,keep:=[true,true,true,false,false,false,true,false,true,false,false,false,false,false,false,false],n:=16,pin:=[],fail:=[],fz:=[] }
theorem Gf:bP zI Tryz.f41 fR=some p_i_TrustOk:=by kernel_rfl
theorem Gg {W:Wld}{ins outs:List (List D)}(h:pwp (FunOk PP W) p_i_TrustOk (aR outs) (envL ins)):FunOk PP W nH fR ins outs:=aQ (C:=zI) (aP rfl) (bB rfl rfl) mixed Tryz.func41 (by kernel_rfl) (by kernel_rfl) Gf h

def p_sl_Contains_Meta:PC:= .seq (.ss [.mv 3 (.t 1),.mv 4 (.c (.bool false))]) (.seq (.ss [.mv 5 (.t 0),.sub 6 3 0 3,.call 7 lC dM [(.t 5),(.t 6)] [],.bin 8 .geq (.t 7) (.c (.int .i64 0)),.mv 4 (.t 8)]) (.ret [4]))
def mP:Cfg:={tt:=tt,sigs:=sigs,mv:=false,bm:=[],eqt:=fH,keep:=[true,true,false,true,true,false,false,false,false],n:=9,pin:=[],fail:=[],fz:=[] }
theorem tZ:bP mP Tryz.f42 bW=some p_sl_Contains_Meta:=by kernel_rfl
theorem uA {W:Wld}{ins outs:List (List D)}(h:pwp (FunOk PP W) p_sl_Contains_Meta (aR outs) (envL ins)):FunOk PP W eL bW ins outs:=aQ (C:=mP) (aP rfl) (bB rfl rfl) mixed Tryz.func42 (by kernel_rfl) (by kernel_rfl) tZ h

def p_i_metaOf:PC:= .seq (.ss [.mv 1 (.t 0),.bld 2 [.int .i64 0,.int .i64 0,.int .i64 0] []]) (.seq (.ss [.nop,.sub 4 1 0 1,.nop,.sub 6 1 1 1,.sub 7 1 0 4,.call 8 rG kU [(.t 7)] [],.call 9 xI lZ [(.t 8)] [],.bld 10 [.int .i64 0,.int .i64 0,.int .i64 0] [(0,(.t 4)),(1,(.t 6)),(2,(.t 9))],.st 2 0 (.t 10)]) (.ret [2]))
def Bx:Cfg:={tt:=tt,sigs:=sigs,mv:=false,bm:=[],eqt:=fH,keep:=[true,true,true,false,false,false,false,false,false,false,false],n:=11,pin:=[],fail:=[],fz:=[] }
theorem IL:bP Bx Tryz.f43 hZ=some p_i_metaOf:=by kernel_rfl
theorem IM {W:Wld}{ins outs:List (List D)}(h:pwp (FunOk PP W) p_i_metaOf (aR outs) (envL ins)):FunOk PP W pR hZ ins outs:=aQ (C:=Bx) (aP rfl) (bB rfl rfl) mixed Tryz.func43 (by kernel_rfl) (by kernel_rfl) IL h

def p_s_RootOk:PC:= .seq (.ss [.mv 1 (.t 0),.mv 2 (.c (.bool false))]) (.seq (.ss [.nop,.sub 4 1 0 1,.call 5 cX cA [(.t 4),(.c (.int .i64 1)),(.c (.int .i64 9))] [],.mv 6 (.t 5),.g 6 true 7 (.nop),.g 6 true 8 (.sub 8 1 1 1),.g 6 true 9 (.call 9 tW jW [(.t 8)] []),.pick 10 (.t 6) (.t 9) (.c (.bool false)),.mv 11 (.t 10),.g 11 true 12 (.nop),.g 11 true 13 (.sub 13 1 2 1),.g 11 true 14 (.nop),.g 11 true 15 (.sub 15 1 1 1),.g 11 true 16 (.len 16 (.t 15)),.g 11 true 17 (.call 17 cX cA [(.t 13),(.c (.int .i64 1)),(.t 16)] []),.pick 18 (.t 11) (.t 17) (.c (.bool false)),.mv 2 (.t 18)]) (.ret [2]))
def By:Cfg:={tt:=tt,sigs:=sigs,mv:=false,bm:=[],eqt:=fH,keep:=[true,true,true,false,false,false,false,false,false,false,false,false,false,false,false,false,false,false,false],n:=19,pin:=[],fail:=[],fz:=[] }
theorem IN:bP By Tryz.f47 jS=some p_s_RootOk:=by kernel_rfl
theorem IO {W:Wld}{ins outs:List (List D)}(h:pwp (FunOk PP W) p_s_RootOk (aR outs) (envL ins)):FunOk PP W tR jS ins outs:=aQ (C:=By) (aP rfl) (bB rfl rfl) mixed Tryz.func47 (by kernel_rfl) (by kernel_rfl) IN h

def p_s_IndexOk:PC:= .seq (.ss [.mv 1 (.t 0),.mv 2 (.c (.bool false))]) (.seq (.seq (.ss [.nop,.sub 6 1 0 1,.call 7 cX cA [(.t 6),(.c (.int .i64 1)),(.c (.int .i64 30))] [],.un 8 .not (.t 7),.mv 9 (.t 8),.g 9 false 10 (.nop),.g 9 false 11 (.sub 11 1 1 1),.g 9 false 12 (.call 12 cX cA [(.t 11),(.c (.int .i64 0)),(.c (.int .i64 60))] []),.g 9 false 13 (.un 13 .not (.t 12)),.pick 14 (.t 9) (.c (.bool true)) (.t 13),.mv 15 (.t 14),.g 15 false 16 (.nop),.g 15 false 17 (.sub 17 1 2 1),.g 15 false 18 (.len 18 (.t 17)),.g 15 false 19 (.bin 19 .gtr (.t 18) (.c (.int .i64 8))),.pick 20 (.t 15) (.c (.bool true)) (.t 19)]) (.cond (.t 20) (.seq (.ss [.mv 2 (.c (.bool false))]) (.ret [2])) (.skip))) (.seq (.seq (.ss [.mv 3 (.c (.int .i64 0))]) (.block 0 (.loop (.seq (.seq (.ss [.mv 21 (.t 3),.nop,.sub 23 1 2 1,.len 24 (.t 23),.bin 25 .lss (.t 21) (.t 24)]) (.cond (.t 25) (.skip) (.exit 0))) (.seq (.block 1 (.seq (.ss [.nop,.sub 29 1 2 1,.mv 30 (.t 3),.elp 31 (.t 29) (.t 30) 3,.eld 32 31 0 [.int .i64 0,.int .i64 0,.int .i64 0],.bld 4 [.int .i64 0,.int .i64 0,.int .i64 0] [],.st 4 0 (.t 32)]) (.seq (.seq (.ss [.nop,.sub 34 4 0 1,.call 35 cX cA [(.t 34),(.c (.int .i64 1)),(.c (.int .i64 4))] [],.un 36 .not (.t 35),.mv 37 (.t 36),.g 37 false 38 (.nop),.g 37 false 39 (.sub 39 4 1 1),.g 37 false 40 (.call 40 cX cA [(.t 39),(.c (.int .i64 1)),(.c (.int .i64 5))] []),.g 37 false 41 (.un 41 .not (.t 40)),.pick 42 (.t 37) (.c (.bool true)) (.t 41),.mv 43 (.t 42),.g 43 false 44 (.nop),.g 43 false 45 (.sub 45 4 2 1),.g 43 false 46 (.call 46 cX cA [(.t 45),(.c (.int .i64 0)),(.c (.int .i64 9972))] []),.g 43 false 47 (.un 47 .not (.t 46)),.pick 48 (.t 43) (.c (.bool true)) (.t 47)]) (.cond (.t 48) (.seq (.ss [.mv 2 (.c (.bool false))]) (.ret [2])) (.skip))) (.seq (.ss [.mv 49 (.t 3),.bin 50 .gtr (.t 49) (.c (.int .i64 0)),.mv 51 (.t 50),.g 51 true 52 (.nop),.g 51 true 53 (.sub 53 1 2 1),.g 51 true 54 (.mv 54 (.t 3)),.g 51 true 55 (.bin 55 .sub (.t 54) (.c (.int .i64 1))),.g 51 true 56 (.elp 56 (.t 53) (.t 55) 3),.g 51 true 57 (.mv 57 (.t 56)),.g 51 true 58 (.eld 58 57 0 [.int .i64 0]),.g 51 true 59 (.nop),.g 51 true 60 (.sub 60 1 2 1),.g 51 true 61 (.mv 61 (.t 3)),.g 51 true 62 (.bin 62 .sub (.t 61) (.c (.int .i64 1))),.g 51 true 63 (.elp 63 (.t 60) (.t 62) 3),.g 51 true 64 (.mv 64 (.t 63)),.g 51 true 65 (.eld 65 64 1 [.int .i64 0]),.g 51 true 66 (.nop),.g 51 true 67 (.sub 67 4 0 1),.g 51 true 68 (.nop),.g 51 true 69 (.sub 69 4 1 1),.g 51 true 70 (.call 70 jN eM [(.t 58),(.t 65),(.t 67),(.t 69)] []),.g 51 true 71 (.un 71 .not (.t 70)),.pick 72 (.t 51) (.t 71) (.c (.bool false))]) (.cond (.t 72) (.seq (.ss [.mv 2 (.c (.bool false))]) (.ret [2])) (.skip)))))) (.ss [.mv 26 (.t 3),.bin 27 .add (.t 26) (.c (.int .i64 1)),.mv 3 (.t 27)])))))) (.seq (.ss [.mv 2 (.c (.bool true))]) (.ret [2]))))
def zJ:Cfg:={tt:=tt,sigs:=sigs,mv:=false,bm:=[],eqt:=fH,keep:=[true,true,true,true,true,false,false,false,false,false,false,false,false,false,false,false,false,false,false,false,true,false,false,false,false,true,false,false,false,false,false,false,false,false,false,false,false,false,false,false,false,false,false,false,false,false,false,false,true,false,false,false,false,false,false,false,false,false,false,false,false,false,false,false,false,false,false,false,false,false,false,false,true],n:=73,pin:=[],fail:=[],fz:=[] }
theorem Gh:bP zJ Tryz.f48 fS=some p_s_IndexOk:=by kernel_rfl
theorem Gi {W:Wld}{ins outs:List (List D)}(h:pwp (FunOk PP W) p_s_IndexOk (aR outs) (envL ins)):FunOk PP W nI fS ins outs:=aQ (C:=zJ) (aP rfl) (bB rfl rfl) mixed Tryz.func48 (by kernel_rfl) (by kernel_rfl) Gh h

def p_i_PkgRead:PC:= .seq (.ss [.bld 2 [.int .i64 0,.int .i64 0,.sl [],.sl []] [],.mv 3 (.c (.bool false))]) (.seq (.seq (.ss [.mv 17 (.t 0),.slen 18 (.t 17),.bin 19 .gtr (.t 18) (.c (.int .i64 30))]) (.cond (.t 19) (.seq (.ss [.bld 20 [.int .i64 0,.int .i64 0,.sl [],.sl []] [],.st 2 0 (.t 20),.mv 3 (.c (.bool false))]) (.ret [2,3])) (.skip))) (.seq (.ss [.mv 21 (.t 0),.call 22 pY hH [(.t 21),(.c (.str ⟨#[32]⟩))] [],.mv 4 (.t 22)]) (.seq (.ss [.bld 5 [.int .i64 0,.int .i64 0,.sl [],.sl []] []]) (.seq (.ss [.mv 24 (.t 4),.elp 25 (.t 24) (.c (.int .i64 0)) 1,.eld 26 25 0 [.str ⟨#[]⟩],.call 27 lP eN [(.t 26)] [],.mv 23 (.t 27),.ext 28 23 0 1,.ext 29 23 1 1,.nop,.st 5 0 (.t 28),.nop,.st 5 1 (.t 29)]) (.seq (.seq (.ss [.mv 32 (.t 4),.lsl 33 1 (.t 32) (some (.c (.int .i64 1))) none none,.len 34 (.t 33),.mv 35 (.c (.int .i64 0))]) (.block 0 (.loop (.seq (.ss [.bin 36 .lss (.t 35) (.t 34)]) (.seq (.cond (.t 36) (.skip) (.exit 0)) (.seq (.block 1 (.seq (.ss [.elp 37 (.t 33) (.t 35) 1,.eld 38 37 0 [.str ⟨#[]⟩],.mv 7 (.t 38)]) (.seq (.ss [.mv 40 (.t 7),.call 41 tA kF [(.t 40),(.c (.str ⟨#[58]⟩))] [],.mv 39 (.t 41),.ext 42 39 0 1,.ext 43 39 1 1,.ext 44 39 2 1,.mv 8 (.t 42),.mv 9 (.t 43),.mv 10 (.t 44)]) (.seq (.seq (.ss [.mv 45 (.t 10)]) (.cond (.t 45) (.seq (.ss [.mv 47 (.t 8),.call 48 jE dF [(.t 47)] [],.mv 46 (.t 48),.ext 49 46 0 1,.ext 50 46 1 1,.mv 11 (.t 49),.mv 12 (.t 50)]) (.seq (.ss [.mv 52 (.t 9),.call 53 jE dF [(.t 52)] [],.mv 51 (.t 53),.ext 54 51 0 1,.ext 55 51 1 1,.mv 13 (.t 54),.mv 14 (.t 55)]) (.seq (.ss [.nop,.sub 57 5 2 1,.mv 58 (.t 11),.mv 59 (.t 13),.bld 60 [.int .i64 0,.int .i64 0] [(0,(.t 58)),(1,(.t 59))],.lit 61 1 [.int .i64 0,.int .i64 0] [(0,(.t 60))],.app 62 2 true (.t 57) (.t 61),.nop,.st 5 2 (.t 62)]) (.exit 1)))) (.skip))) (.seq (.ss [.mv 65 (.t 7),.call 66 lP eN [(.t 65)] [],.mv 64 (.t 66),.ext 67 64 0 1,.ext 68 64 1 1,.mv 15 (.t 67),.mv 16 (.t 68)]) (.ss [.nop,.sub 70 5 3 1,.mv 71 (.t 15),.mv 72 (.t 16),.bld 73 [.int .i64 0,.int .i64 0] [(0,(.t 71)),(1,(.t 72))],.lit 74 1 [.int .i64 0,.int .i64 0] [(0,(.t 73))],.app 75 2 true (.t 70) (.t 74),.nop,.st 5 3 (.t 75)])))))) (.ss [.bin 77 .add (.t 35) (.c (.int .i64 1)),.mv 35 (.t 77)]))))))) (.seq (.seq (.ss [.sub 78 5 0 4,.call 79 sG jT [(.t 78)] [],.un 80 .not (.t 79),.mv 81 (.t 80),.g 81 false 82 (.sub 82 5 0 4),.g 81 false 83 (.call 83 rG kU [(.t 82)] []),.g 81 false 84 (.mv 84 (.t 0)),.g 81 false 85 (.bin 85 .neq (.t 83) (.t 84)),.pick 86 (.t 81) (.c (.bool true)) (.t 85)]) (.cond (.t 86) (.seq (.ss [.bld 87 [.int .i64 0,.int .i64 0,.sl [],.sl []] [],.st 2 0 (.t 87),.mv 3 (.c (.bool false))]) (.ret [2,3])) (.skip))) (.seq (.ss [.sub 88 5 0 4,.st 2 0 (.t 88),.mv 3 (.c (.bool true))]) (.ret [2,3]))))))))
def zK:Cfg:={tt:=tt,sigs:=sigs,mv:=false,bm:=[],eqt:=fH,keep:=[true,false,true,true,true,true,false,true,true,true,true,true,false,true,false,true,true,false,false,true,false,false,false,false,false,false,false,false,false,false,false,false,false,true,true,true,true,false,false,false,false,false,false,false,false,true,false,false,false,false,false,false,false,false,false,false,false,false,false,false,false,false,false,false,false,false,false,false,false,false,false,false,false,false,false,false,false,false,false,false,false,false,false,false,false,false,true,false,false],n:=89,pin:=[],fail:=[],fz:=[] }
theorem Gj:bP zK Tryz.f49 eG=some p_i_PkgRead:=by kernel_rfl
theorem Gk {W:Wld}{ins outs:List (List D)}(h:pwp (FunOk PP W) p_i_PkgRead (aR outs) (envL ins)):FunOk PP W kR eG ins outs:=aQ (C:=zK) (aP rfl) (bB rfl rfl) mixed Tryz.func49 (by kernel_rfl) (by kernel_rfl) Gj h

def p_i_IndexOk:PC:= .seq (.ss [.mv 1 (.t 0),.mv 2 (.c (.bool false))]) (.seq (.seq (.ss [.nop,.sub 6 1 2 1,.len 7 (.t 6),.mv 8 (.c (.int .i64 0))]) (.block 0 (.loop (.seq (.ss [.bin 9 .lss (.t 8) (.t 7)]) (.seq (.cond (.t 9) (.skip) (.exit 0)) (.seq (.block 1 (.seq (.ss [.mv 10 (.t 8),.elp 11 (.t 6) (.t 8) 3,.eld 12 11 0 [.int .i64 0,.int .i64 0,.int .i64 0],.bld 4 [.int .i64 0,.int .i64 0,.int .i64 0] [],.mv 3 (.t 10),.st 4 0 (.t 12)]) (.seq (.seq (.ss [.nop,.sub 14 4 0 1,.call 15 mO fV [(.t 14)] [],.un 16 .not (.t 15),.mv 17 (.t 16),.g 17 false 18 (.nop),.g 17 false 19 (.sub 19 4 1 1),.g 17 false 20 (.call 20 oN iR [(.t 19)] []),.g 17 false 21 (.un 21 .not (.t 20)),.pick 22 (.t 17) (.c (.bool true)) (.t 21),.mv 23 (.t 22),.g 23 false 24 (.nop),.g 23 false 25 (.sub 25 4 2 1),.g 23 false 26 (.call 26 lD iA [(.t 25),(.c (.int .i64 0)),(.c (.int .i64 9972))] []),.g 23 false 27 (.un 27 .not (.t 26)),.pick 28 (.t 23) (.c (.bool true)) (.t 27)]) (.cond (.t 28) (.seq (.ss [.mv 2 (.c (.bool false))]) (.ret [2])) (.skip))) (.seq (.ss [.mv 29 (.t 3),.bin 30 .gtr (.t 29) (.c (.int .i64 0)),.mv 31 (.t 30),.g 31 true 32 (.nop),.g 31 true 33 (.sub 33 4 0 1),.g 31 true 34 (.nop),.g 31 true 35 (.sub 35 1 2 1),.g 31 true 36 (.mv 36 (.t 3)),.g 31 true 37 (.bin 37 .sub (.t 36) (.c (.int .i64 1))),.g 31 true 38 (.elp 38 (.t 35) (.t 37) 3),.g 31 true 39 (.mv 39 (.t 38)),.g 31 true 40 (.eld 40 39 0 [.int .i64 0]),.g 31 true 41 (.bin 41 .lss (.t 33) (.t 40)),.g 31 true 42 (.mv 42 (.t 41)),.g 42 false 43 (.nop),.g 42 false 44 (.sub 44 4 0 1),.g 42 false 45 (.nop),.g 42 false 46 (.sub 46 1 2 1),.g 42 false 47 (.mv 47 (.t 3)),.g 42 false 48 (.bin 48 .sub (.t 47) (.c (.int .i64 1))),.g 42 false 49 (.elp 49 (.t 46) (.t 48) 3),.g 42 false 50 (.mv 50 (.t 49)),.g 42 false 51 (.eld 51 50 0 [.int .i64 0]),.g 42 false 52 (.bin 52 .eql (.t 44) (.t 51)),.g 42 false 53 (.mv 53 (.t 52)),.g 53 true 54 (.nop),.g 53 true 55 (.sub 55 4 1 1),.g 53 true 56 (.nop),.g 53 true 57 (.sub 57 1 2 1),.g 53 true 58 (.mv 58 (.t 3)),.g 53 true 59 (.bin 59 .sub (.t 58) (.c (.int .i64 1))),.g 53 true 60 (.elp 60 (.t 57) (.t 59) 3),.g 53 true 61 (.mv 61 (.t 60)),.g 53 true 62 (.eld 62 61 1 [.int .i64 0]),.g 53 true 63 (.bin 63 .leq (.t 55) (.t 62)),.g 42 false 64 (.pick 64 (.t 53) (.t 63) (.c (.bool false))),.g 31 true 65 (.pick 65 (.t 42) (.c (.bool true)) (.t 64)),.pick 66 (.t 31) (.t 65) (.c (.bool false))]) (.cond (.t 66) (.seq (.ss [.mv 2 (.c (.bool false))]) (.ret [2])) (.skip)))))) (.ss [.bin 67 .add (.t 8) (.c (.int .i64 1)),.mv 8 (.t 67)]))))))) (.seq (.ss [.nop,.sub 69 1 0 1,.call 70 lD iA [(.t 69),(.c (.int .i64 1)),(.c (.int .i64 30))] [],.mv 71 (.t 70),.g 71 true 72 (.nop),.g 71 true 73 (.sub 73 1 1 1),.g 71 true 74 (.call 74 lD iA [(.t 73),(.c (.int .i64 0)),(.c (.int .i64 60))] []),.pick 75 (.t 71) (.t 74) (.c (.bool false)),.mv 76 (.t 75),.g 76 true 77 (.nop),.g 76 true 78 (.sub 78 1 2 1),.g 76 true 79 (.len 79 (.t 78)),.g 76 true 80 (.bin 80 .leq (.t 79) (.c (.int .i64 8))),.pick 81 (.t 76) (.t 80) (.c (.bool false)),.mv 2 (.t 81)]) (.ret [2])))
def zL:Cfg:={tt:=tt,sigs:=sigs,mv:=false,bm:=[],eqt:=fH,keep:=[true,true,true,true,true,false,true,true,true,true,false,false,false,false,false,false,false,false,false,false,false,false,false,false,false,false,false,false,true,false,false,false,false,false,false,false,false,false,false,false,false,false,false,false,false,false,false,false,false,false,false,false,false,false,false,false,false,false,false,false,false,false,false,false,false,false,true,false,false,false,false,false,false,false,false,false,false,false,false,false,false,false],n:=82,pin:=[],fail:=[],fz:=[] }
theorem Gl:bP zL Tryz.f50 fU=some p_i_IndexOk:=by kernel_rfl
theorem Gm {W:Wld}{ins outs:List (List D)}(h:pwp (FunOk PP W) p_i_IndexOk (aR outs) (envL ins)):FunOk PP W nJ fU ins outs:=aQ (C:=zL) (aP rfl) (bB rfl rfl) mixed Tryz.func50 (by kernel_rfl) (by kernel_rfl) Gl h

def p_i_PkgOk:PC:= .seq (.ss [.mv 1 (.t 0),.mv 2 (.c (.bool false))]) (.seq (.seq (.ss [.nop,.sub 8 1 0 1,.call 9 mO fV [(.t 8)] [],.un 10 .not (.t 9),.mv 11 (.t 10),.g 11 false 12 (.nop),.g 11 false 13 (.sub 13 1 1 1),.g 11 false 14 (.call 14 oN iR [(.t 13)] []),.g 11 false 15 (.un 15 .not (.t 14)),.pick 16 (.t 11) (.c (.bool true)) (.t 15),.mv 17 (.t 16),.g 17 false 18 (.nop),.g 17 false 19 (.sub 19 1 2 1),.g 17 false 20 (.len 20 (.t 19)),.g 17 false 21 (.bin 21 .gtr (.t 20) (.c (.int .i64 2))),.pick 22 (.t 17) (.c (.bool true)) (.t 21),.mv 23 (.t 22),.g 23 false 24 (.nop),.g 23 false 25 (.sub 25 1 3 1),.g 23 false 26 (.len 26 (.t 25)),.g 23 false 27 (.bin 27 .gtr (.t 26) (.c (.int .i64 2))),.pick 28 (.t 23) (.c (.bool true)) (.t 27)]) (.cond (.t 28) (.seq (.ss [.mv 2 (.c (.bool false))]) (.ret [2])) (.skip))) (.seq (.seq (.ss [.nop,.sub 30 1 2 1,.len 31 (.t 30),.mv 32 (.c (.int .i64 0))]) (.block 0 (.loop (.seq (.ss [.bin 33 .lss (.t 32) (.t 31)]) (.seq (.cond (.t 33) (.skip) (.exit 0)) (.seq (.block 1 (.seq (.ss [.mv 34 (.t 32),.elp 35 (.t 30) (.t 32) 2,.eld 36 35 0 [.int .i64 0,.int .i64 0],.bld 4 [.int .i64 0,.int .i64 0] [],.mv 3 (.t 34),.st 4 0 (.t 36)]) (.seq (.ss [.nop,.sub 38 4 0 1,.call 39 lD iA [(.t 38),(.c (.int .i64 0)),(.c (.int .i64 5))] [],.un 40 .not (.t 39),.mv 41 (.t 40),.g 41 false 42 (.nop),.g 41 false 43 (.sub 43 4 1 1),.g 41 false 44 (.call 44 lD iA [(.t 43),(.c (.int .i64 0)),(.c (.int .i64 9))] []),.g 41 false 45 (.un 45 .not (.t 44)),.pick 46 (.t 41) (.c (.bool true)) (.t 45),.mv 47 (.t 46),.g 47 false 48 (.mv 48 (.t 3)),.g 47 false 49 (.bin 49 .gtr (.t 48) (.c (.int .i64 0))),.g 47 false 50 (.mv 50 (.t 49)),.g 50 true 51 (.nop),.g 50 true 52 (.sub 52 4 0 1),.g 50 true 53 (.nop),.g 50 true 54 (.sub 54 1 2 1),.g 50 true 55 (.mv 55 (.t 3)),.g 50 true 56 (.bin 56 .sub (.t 55) (.c (.int .i64 1))),.g 50 true 57 (.elp 57 (.t 54) (.t 56) 2),.g 50 true 58 (.mv 58 (.t 57)),.g 50 true 59 (.eld 59 58 0 [.int .i64 0]),.g 50 true 60 (.bin 60 .leq (.t 52) (.t 59)),.g 47 false 61 (.pick 61 (.t 50) (.t 60) (.c (.bool false))),.pick 62 (.t 47) (.c (.bool true)) (.t 61)]) (.cond (.t 62) (.seq (.ss [.mv 2 (.c (.bool false))]) (.ret [2])) (.skip))))) (.ss [.bin 63 .add (.t 32) (.c (.int .i64 1)),.mv 32 (.t 63)]))))))) (.seq (.seq (.ss [.nop,.sub 65 1 3 1,.len 66 (.t 65),.mv 67 (.c (.int .i64 0))]) (.block 2 (.loop (.seq (.ss [.bin 68 .lss (.t 67) (.t 66)]) (.seq (.cond (.t 68) (.skip) (.exit 2)) (.seq (.block 3 (.seq (.ss [.mv 69 (.t 67),.elp 70 (.t 65) (.t 67) 2,.eld 71 70 0 [.int .i64 0,.int .i64 0],.bld 6 [.int .i64 0,.int .i64 0] [],.mv 5 (.t 69),.st 6 0 (.t 71)]) (.seq (.ss [.nop,.sub 73 6 0 1,.call 74 mO fV [(.t 73)] [],.un 75 .not (.t 74),.mv 76 (.t 75),.g 76 false 77 (.nop),.g 76 false 78 (.sub 78 6 0 1),.g 76 false 79 (.nop),.g 76 false 80 (.sub 80 1 0 1),.g 76 false 81 (.bin 81 .eql (.t 78) (.t 80)),.pick 82 (.t 76) (.c (.bool true)) (.t 81),.mv 83 (.t 82),.g 83 false 84 (.nop),.g 83 false 85 (.sub 85 6 1 1),.g 83 false 86 (.call 86 oN iR [(.t 85)] []),.g 83 false 87 (.un 87 .not (.t 86)),.pick 88 (.t 83) (.c (.bool true)) (.t 87),.mv 89 (.t 88),.g 89 false 90 (.mv 90 (.t 5)),.g 89 false 91 (.bin 91 .gtr (.t 90) (.c (.int .i64 0))),.g 89 false 92 (.mv 92 (.t 91)),.g 92 true 93 (.nop),.g 92 true 94 (.sub 94 6 0 1),.g 92 true 95 (.nop),.g 92 true 96 (.sub 96 1 3 1),.g 92 true 97 (.mv 97 (.t 5)),.g 92 true 98 (.bin 98 .sub (.t 97) (.c (.int .i64 1))),.g 92 true 99 (.elp 99 (.t 96) (.t 98) 2),.g 92 true 100 (.mv 100 (.t 99)),.g 92 true 101 (.eld 101 100 0 [.int .i64 0]),.g 92 true 102 (.bin 102 .leq (.t 94) (.t 101)),.g 89 false 103 (.pick 103 (.t 92) (.t 102) (.c (.bool false))),.pick 104 (.t 89) (.c (.bool true)) (.t 103)]) (.cond (.t 104) (.seq (.ss [.mv 2 (.c (.bool false))]) (.ret [2])) (.skip))))) (.ss [.bin 105 .add (.t 67) (.c (.int .i64 1)),.mv 67 (.t 105)]))))))) (.seq (.ss [.mv 2 (.c (.bool true))]) (.ret [2])))))
def Db:Cfg:={tt:=tt,sigs:=sigs,mv:=false,bm:=[],eqt:=fH,keep:=[true,true,true,true,true,true,true,false,false,false,false,false,false,false,false,false,false,false,false,false,false,false,false,false,false,false,false,false,true,false,true,true,true,true,false,false,false,false,false,false,false,false,false,false,false,false,false,false,false,false,false,false,false,false,false,false,false,false,false,false,false,false,true,false,false,true,true,true,true,false,false,false,false,false,false,false,false,false,false,false,false,false,false,false,false,false,false,false,false,false,false,false,false,false,false,false,false,false,false,false,false,false,false,false,true,false],n:=106,pin:=[],fail:=[],fz:=[] }
theorem Kg:bP Db Tryz.f51 jT=some p_i_PkgOk:=by kernel_rfl
theorem Kh {W:Wld}{ins outs:List (List D)}(h:pwp (FunOk PP W) p_i_PkgOk (aR outs) (envL ins)):FunOk PP W sG jT ins outs:=aQ (C:=Db) (aP rfl) (bB rfl rfl) mixed Tryz.func51 (by kernel_rfl) (by kernel_rfl) Kg h

def p_s_PkgText:PC:= .seq (.ss [.mv 1 (.t 0),.mv 2 (.c (.str ⟨#[]⟩))]) (.seq (.seq (.ss [.sub 6 1 0 4,.call 7 sH jV [(.t 6)] [],.un 8 .not (.t 7)]) (.cond (.t 8) (.seq (.ss [.mv 2 (.c (.str ⟨#[]⟩))]) (.ret [2])) (.skip))) (.seq (.ss [.nop,.sub 10 1 0 1,.nop,.sub 12 1 1 1,.call 13 pT iB [(.t 10),(.t 12)] [],.mv 3 (.t 13)]) (.seq (.seq (.ss [.mv 4 (.c (.int .i64 0))]) (.block 0 (.loop (.seq (.seq (.ss [.mv 14 (.t 4),.nop,.sub 16 1 2 1,.len 17 (.t 16),.bin 18 .lss (.t 14) (.t 17)]) (.cond (.t 18) (.skip) (.exit 0))) (.seq (.block 1 (.ss [.mv 21 (.t 3),.bin 22 .add (.t 21) (.c (.str ⟨#[32]⟩)),.nop,.sub 24 1 2 1,.mv 25 (.t 4),.elp 26 (.t 24) (.t 25) 2,.mv 27 (.t 26),.eld 28 27 0 [.int .i64 0],.call 29 jO eT [(.t 28)] [],.bin 30 .add (.t 22) (.t 29),.bin 31 .add (.t 30) (.c (.str ⟨#[58]⟩)),.nop,.sub 33 1 2 1,.mv 34 (.t 4),.elp 35 (.t 33) (.t 34) 2,.mv 36 (.t 35),.eld 37 36 1 [.int .i64 0],.call 38 jO eT [(.t 37)] [],.bin 39 .add (.t 31) (.t 38),.mv 3 (.t 39)])) (.ss [.mv 19 (.t 4),.bin 20 .add (.t 19) (.c (.int .i64 1)),.mv 4 (.t 20)])))))) (.seq (.seq (.ss [.mv 5 (.c (.int .i64 0))]) (.block 2 (.loop (.seq (.seq (.ss [.mv 40 (.t 5),.nop,.sub 42 1 3 1,.len 43 (.t 42),.bin 44 .lss (.t 40) (.t 43)]) (.cond (.t 44) (.skip) (.exit 2))) (.seq (.block 3 (.ss [.mv 47 (.t 3),.bin 48 .add (.t 47) (.c (.str ⟨#[32]⟩)),.nop,.sub 50 1 3 1,.mv 51 (.t 5),.elp 52 (.t 50) (.t 51) 2,.mv 53 (.t 52),.eld 54 53 0 [.int .i64 0],.nop,.sub 56 1 3 1,.mv 57 (.t 5),.elp 58 (.t 56) (.t 57) 2,.mv 59 (.t 58),.eld 60 59 1 [.int .i64 0],.call 61 pT iB [(.t 54),(.t 60)] [],.bin 62 .add (.t 48) (.t 61),.mv 3 (.t 62)])) (.ss [.mv 45 (.t 5),.bin 46 .add (.t 45) (.c (.int .i64 1)),.mv 5 (.t 46)])))))) (.seq (.ss [.mv 63 (.t 3),.mv 2 (.t 63)]) (.ret [2]))))))
def zM:Cfg:={tt:=tt,sigs:=sigs,mv:=false,bm:=[],eqt:=fH,keep:=[true,true,true,true,true,true,false,false,true,false,false,false,false,false,false,false,false,false,true,false,false,false,false,false,false,false,false,false,false,false,false,false,false,false,false,false,false,false,false,false,false,false,false,false,true,false,false,false,false,false,false,false,false,false,false,false,false,false,false,false,false,false,false,false],n:=64,pin:=[],fail:=[],fz:=[] }
theorem Gn:bP zM Tryz.f56 dU=some p_s_PkgText:=by kernel_rfl
theorem Gp {W:Wld}{ins outs:List (List D)}(h:pwp (FunOk PP W) p_s_PkgText (aR outs) (envL ins)):FunOk PP W iK dU ins outs:=aQ (C:=zM) (aP rfl) (bB rfl rfl) mixed Tryz.func56 (by kernel_rfl) (by kernel_rfl) Gn h

def p_i_RootOk:PC:= .seq (.ss [.mv 1 (.t 0),.mv 2 (.c (.bool false))]) (.seq (.ss [.nop,.sub 4 1 0 1,.call 5 lD iA [(.t 4),(.c (.int .i64 1)),(.c (.int .i64 9))] [],.mv 6 (.t 5),.g 6 true 7 (.nop),.g 6 true 8 (.sub 8 1 1 1),.g 6 true 9 (.call 9 tX jX [(.t 8)] []),.pick 10 (.t 6) (.t 9) (.c (.bool false)),.mv 11 (.t 10),.g 11 true 12 (.nop),.g 11 true 13 (.sub 13 1 2 1),.g 11 true 14 (.nop),.g 11 true 15 (.sub 15 1 1 1),.g 11 true 16 (.len 16 (.t 15)),.g 11 true 17 (.call 17 lD iA [(.t 13),(.c (.int .i64 1)),(.t 16)] []),.pick 18 (.t 11) (.t 17) (.c (.bool false)),.mv 2 (.t 18)]) (.ret [2]))
def Bz:Cfg:={tt:=tt,sigs:=sigs,mv:=false,bm:=[],eqt:=fH,keep:=[true,true,true,false,false,false,false,false,false,false,false,false,false,false,false,false,false,false,false],n:=19,pin:=[],fail:=[],fz:=[] }
theorem IP:bP Bz Tryz.f61 jU=some p_i_RootOk:=by kernel_rfl
theorem IQ {W:Wld}{ins outs:List (List D)}(h:pwp (FunOk PP W) p_i_RootOk (aR outs) (envL ins)):FunOk PP W tU jU ins outs:=aQ (C:=Bz) (aP rfl) (bB rfl rfl) mixed Tryz.func61 (by kernel_rfl) (by kernel_rfl) IP h

def p_i_Pkg_compare:PC:= .seq (.ss [.mv 2 (.t 0),.mv 3 (.t 1),.mv 4 (.c (.int .i64 0))]) (.seq (.ss [.nop,.sub 6 2 0 1,.nop,.sub 8 3 0 1,.call 9 eZ cC [(.t 6),(.t 8)] [],.nop,.sub 11 2 1 1,.nop,.sub 13 3 1 1,.call 14 eZ cC [(.t 11),(.t 13)] [],.lit 15 2 [.int .i64 0] [(0,(.t 9)),(1,(.t 14))],.call 16 pU gL [(.t 15)] [],.mv 4 (.t 16)]) (.ret [4]))
def qC:Cfg:={tt:=tt,sigs:=sigs,mv:=false,bm:=[],eqt:=fH,keep:=[true,true,true,true,true,false,false,false,false,false,false,false,false,false,false,false,false],n:=17,pin:=[],fail:=[],fz:=[] }
theorem AA:bP qC Tryz.f63 cH=some p_i_Pkg_compare:=by kernel_rfl
theorem AB {W:Wld}{ins outs:List (List D)}(h:pwp (FunOk PP W) p_i_Pkg_compare (aR outs) (envL ins)):FunOk PP W cG cH ins outs:=aQ (C:=qC) (aP rfl) (bB rfl rfl) mixed Tryz.func63 (by kernel_rfl) (by kernel_rfl) AA h

def p_s_PkgOk:PC:= .seq (.ss [.mv 1 (.t 0),.mv 2 (.c (.bool false))]) (.seq (.ss [.nop,.sub 4 1 0 1,.call 5 cX cA [(.t 4),(.c (.int .i64 1)),(.c (.int .i64 4))] [],.mv 6 (.t 5),.g 6 true 7 (.nop),.g 6 true 8 (.sub 8 1 1 1),.g 6 true 9 (.call 9 cX cA [(.t 8),(.c (.int .i64 1)),(.c (.int .i64 5))] []),.pick 10 (.t 6) (.t 9) (.c (.bool false)),.mv 11 (.t 10),.g 11 true 12 (.nop),.g 11 true 13 (.sub 13 1 2 1),.g 11 true 14 (.call 14 rM iS [(.t 13)] []),.pick 15 (.t 11) (.t 14) (.c (.bool false)),.mv 16 (.t 15),.g 16 true 17 (.nop),.g 16 true 18 (.sub 18 1 0 1),.g 16 true 19 (.nop),.g 16 true 20 (.sub 20 1 3 1),.g 16 true 21 (.call 21 tY jZ [(.t 18),(.t 20)] []),.pick 22 (.t 16) (.t 21) (.c (.bool false)),.mv 2 (.t 22)]) (.ret [2]))
def Dc:Cfg:={tt:=tt,sigs:=sigs,mv:=false,bm:=[],eqt:=fH,keep:=[true,true,true,false,false,false,false,false,false,false,false,false,false,false,false,false,false,false,false,false,false,false,false],n:=23,pin:=[],fail:=[],fz:=[] }
theorem Ki:bP Dc Tryz.f84 jV=some p_s_PkgOk:=by kernel_rfl
theorem Kj {W:Wld}{ins outs:List (List D)}(h:pwp (FunOk PP W) p_s_PkgOk (aR outs) (envL ins)):FunOk PP W sH jV ins outs:=aQ (C:=Dc) (aP rfl) (bB rfl rfl) mixed Tryz.func84 (by kernel_rfl) (by kernel_rfl) Ki h

def p_s_l3Less:PC:= .seq (.ss [.mv 8 (.c (.bool false))]) (.seq (.ss [.mv 9 (.t 0),.mv 10 (.t 2),.bin 11 .lss (.t 9) (.t 10),.mv 12 (.t 11),.g 12 false 13 (.mv 13 (.t 0)),.g 12 false 14 (.mv 14 (.t 2)),.g 12 false 15 (.bin 15 .eql (.t 13) (.t 14)),.g 12 false 16 (.mv 16 (.t 15)),.g 16 true 17 (.mv 17 (.t 1)),.g 16 true 18 (.mv 18 (.t 3)),.g 16 true 19 (.bin 19 .lss (.t 17) (.t 18)),.g 12 false 20 (.pick 20 (.t 16) (.t 19) (.c (.bool false))),.pick 21 (.t 12) (.c (.bool true)) (.t 20),.mv 8 (.t 21)]) (.ret [8]))
def CB:Cfg:={tt:=tt,sigs:=sigs,mv:=false,bm:=[],eqt:=fH,keep:=[true,true,true,true,false,false,false,false,true,false,false,false,false,false,false,false,false,false,false,false,false,false],n:=22,pin:=[],fail:=[],fz:=[] }
theorem IR:bP CB Tryz.f85 eM=some p_s_l3Less:=by kernel_rfl
theorem IS {W:Wld}{ins outs:List (List D)}(h:pwp (FunOk PP W) p_s_l3Less (aR outs) (envL ins)):FunOk PP W jN eM ins outs:=aQ (C:=CB) (aP rfl) (bB rfl rfl) mixed Tryz.func85 (by kernel_rfl) (by kernel_rfl) IR h

def p_i_Index_same:PC:= .seq (.ss [.mv 2 (.t 0),.mv 3 (.t 1),.mv 4 (.c (.bool false))]) (.seq (.ss [.nop,.sub 6 2 0 1,.nop,.sub 8 3 0 1,.bin 9 .eql (.t 6) (.t 8),.mv 10 (.t 9),.g 10 true 11 (.nop),.g 10 true 12 (.sub 12 2 1 1),.g 10 true 13 (.nop),.g 10 true 14 (.sub 14 3 1 1),.g 10 true 15 (.bin 15 .eql (.t 12) (.t 14)),.pick 16 (.t 10) (.t 15) (.c (.bool false)),.mv 17 (.t 16),.g 17 true 18 (.nop),.g 17 true 19 (.sub 19 2 2 1),.g 17 true 20 (.nop),.g 17 true 21 (.sub 21 3 2 1),.g 17 true 22 (.call 22 lE dN [(.t 19),(.t 21)] []),.pick 23 (.t 17) (.t 22) (.c (.bool false)),.mv 4 (.t 23)]) (.ret [4]))
def rQ:Cfg:={tt:=tt,sigs:=sigs,mv:=false,bm:=[],eqt:=fH,keep:=[true,true,true,true,true,false,false,false,false,false,false,false,false,false,false,false,false,false,false,false,false,false,false,false],n:=24,pin:=[],fail:=[],fz:=[] }
theorem CC:bP rQ Tryz.f86 eB=some p_i_Index_same:=by kernel_rfl
theorem CD {W:Wld}{ins outs:List (List D)}(h:pwp (FunOk PP W) p_i_Index_same (aR outs) (envL ins)):FunOk PP W mM eB ins outs:=aQ (C:=rQ) (aP rfl) (bB rfl rfl) mixed Tryz.func86 (by kernel_rfl) (by kernel_rfl) CC h

def p_sl_Index_Meta:PC:= .seq (.ss [.mv 3 (.t 1),.mv 4 (.c (.int .i64 0))]) (.seq (.seq (.ss [.mv 6 (.t 0),.len 7 (.t 6),.mv 8 (.c (.int .i64 0))]) (.block 0 (.loop (.seq (.ss [.bin 9 .lss (.t 8) (.t 7)]) (.seq (.cond (.t 9) (.skip) (.exit 0)) (.seq (.block 1 (.seq (.ss [.mv 10 (.t 8),.mv 5 (.t 10)]) (.seq (.ss [.sub 11 3 0 3,.mv 12 (.t 0),.mv 13 (.t 5),.elp 14 (.t 12) (.t 13) 3,.eld 15 14 0 [.int .i64 0,.int .i64 0,.int .i64 0],.eqs 16 false [.int .i64 0,.int .i64 0,.int .i64 0] (.t 11) (.t 15)]) (.cond (.t 16) (.seq (.ss [.mv 17 (.t 5),.mv 4 (.t 17)]) (.ret [4])) (.skip))))) (.ss [.bin 18 .add (.t 8) (.c (.int .i64 1)),.mv 8 (.t 18)]))))))) (.seq (.ss [.mv 4 (.c (.int .i64 (-1)))]) (.ret [4])))
def qD:Cfg:={tt:=tt,sigs:=sigs,mv:=false,bm:=[],eqt:=fH,keep:=[true,true,false,true,true,true,false,true,true,true,false,false,false,false,false,false,true,false,false],n:=19,pin:=[],fail:=[],fz:=[] }
theorem AC:bP qD Tryz.f87 dM=some p_sl_Index_Meta:=by kernel_rfl
theorem AD {W:Wld}{ins outs:List (List D)}(h:pwp (FunOk PP W) p_sl_Index_Meta (aR outs) (envL ins)):FunOk PP W lC dM ins outs:=aQ (C:=qD) (aP rfl) (bB rfl rfl) mixed Tryz.func87 (by kernel_rfl) (by kernel_rfl) AC h

def p_i_SumOf:PC:= .seq (.ss [.mv 2 (.c (.int .i64 0))]) (.seq (.ss [.mv 3 (.c (.int .i64 7))]) (.seq (.seq (.ss [.mv 6 (.t 0),.s2b 7 (.t 6),.len 8 (.t 7),.mv 9 (.c (.int .i64 0))]) (.block 0 (.loop (.seq (.ss [.bin 10 .lss (.t 9) (.t 8)]) (.seq (.cond (.t 10) (.skip) (.exit 0)) (.seq (.block 1 (.seq (.ss [.elp 11 (.t 7) (.t 9) 1,.eld 12 11 0 [.int .u8 0],.mv 5 (.t 12)]) (.ss [.mv 13 (.t 3),.bin 14 .mul (.c (.int .i64 31)) (.t 13),.mv 15 (.t 5),.cvt 16 .i64 (.t 15),.bin 17 .add (.t 14) (.t 16),.bin 18 .add (.t 17) (.c (.int .i64 1)),.bin 19 .rem (.t 18) (.c (.int .i64 9973)),.mv 3 (.t 19)]))) (.ss [.bin 20 .add (.t 9) (.c (.int .i64 1)),.mv 9 (.t 20)]))))))) (.seq (.ss [.mv 21 (.t 3),.mv 2 (.t 21)]) (.ret [2]))))
def Dd:Cfg:={tt:=tt,sigs:=sigs,mv:=false,bm:=[],eqt:=fH,keep:=[true,false,true,true,false,true,false,true,true,true,true,false,false,false,false,false,false,false,false,false,false,false],n:=22,pin:=[],fail:=[],fz:=[] }
theorem Kk:bP Dd Tryz.f88 lZ=some p_i_SumOf:=by kernel_rfl
theorem Kl {W:Wld}{ins outs:List (List D)}(h:pwp (FunOk PP W) p_i_SumOf (aR outs) (envL ins)):FunOk PP W xI lZ ins outs:=aQ (C:=Dd) (aP rfl) (bB rfl rfl) mixed Tryz.func88 (by kernel_rfl) (by kernel_rfl) Kk h

def p_s_l6In:PC:= .seq (.ss [.mv 6 (.c (.bool false))]) (.seq (.ss [.mv 7 (.t 0),.mv 8 (.t 1),.bin 9 .geq (.t 7) (.t 8),.mv 10 (.t 9),.g 10 true 11 (.mv 11 (.t 0)),.g 10 true 12 (.mv 12 (.t 2)),.g 10 true 13 (.bin 13 .leq (.t 11) (.t 12)),.pick 14 (.t 10) (.t 13) (.c (.bool false)),.mv 6 (.t 14)]) (.ret [6]))
def Gq:Cfg:={tt:=tt,sigs:=sigs,mv:=false,bm:=[],eqt:=fH,keep:=[true,true,true,false,false,false,true,false,false,false,false,false,false,false,false],n:=15,pin:=[],fail:=[],fz:=[] }
theorem NB:bP Gq Tryz.f93 cA=some p_s_l6In:=by kernel_rfl
theorem NC {W:Wld}{ins outs:List (List D)}(h:pwp (FunOk PP W) p_s_l6In (aR outs) (envL ins)):FunOk PP W cX cA ins outs:=aQ (C:=Gq) (aP rfl) (bB rfl rfl) mixed Tryz.func93 (by kernel_rfl) (by kernel_rfl) NB h

def p_s_KeysOk:PC:= .seq (.ss [.mv 2 (.c (.bool false))]) (.seq (.seq (.ss [.mv 3 (.c (.int .i64 0))]) (.block 0 (.loop (.seq (.seq (.ss [.mv 4 (.t 3),.mv 5 (.t 0),.len 6 (.t 5),.bin 7 .lss (.t 4) (.t 6)]) (.cond (.t 7) (.skip) (.exit 0))) (.seq (.block 1 (.seq (.ss [.mv 10 (.t 0),.mv 11 (.t 3),.elp 12 (.t 10) (.t 11) 1,.eld 13 12 0 [.int .i64 0],.call 14 cX cA [(.t 13),(.c (.int .i64 1)),(.c (.int .i64 6))] [],.un 15 .not (.t 14),.mv 16 (.t 15),.g 16 false 17 (.mv 17 (.t 3)),.g 16 false 18 (.bin 18 .gtr (.t 17) (.c (.int .i64 0))),.g 16 false 19 (.mv 19 (.t 18)),.g 19 true 20 (.mv 20 (.t 0)),.g 19 true 21 (.mv 21 (.t 3)),.g 19 true 22 (.bin 22 .sub (.t 21) (.c (.int .i64 1))),.g 19 true 23 (.elp 23 (.t 20) (.t 22) 1),.g 19 true 24 (.eld 24 23 0 [.int .i64 0]),.g 19 true 25 (.mv 25 (.t 0)),.g 19 true 26 (.mv 26 (.t 3)),.g 19 true 27 (.elp 27 (.t 25) (.t 26) 1),.g 19 true 28 (.eld 28 27 0 [.int .i64 0]),.g 19 true 29 (.bin 29 .geq (.t 24) (.t 28)),.g 16 false 30 (.pick 30 (.t 19) (.t 29) (.c (.bool false))),.pick 31 (.t 16) (.c (.bool true)) (.t 30)]) (.cond (.t 31) (.seq (.ss [.mv 2 (.c (.bool false))]) (.ret [2])) (.skip)))) (.ss [.mv 8 (.t 3),.bin 9 .add (.t 8) (.c (.int .i64 1)),.mv 3 (.t 9)])))))) (.seq (.ss [.mv 2 (.c (.bool true))]) (.ret [2])))
def CE:Cfg:={tt:=tt,sigs:=sigs,mv:=false,bm:=[],eqt:=fH,keep:=[true,false,true,true,false,false,false,true,false,false,false,false,false,false,false,false,false,false,false,false,false,false,false,false,false,false,false,false,false,false,false,true],n:=32,pin:=[],fail:=[],fz:=[] }
theorem IT:bP CE Tryz.f94 jW=some p_s_KeysOk:=by kernel_rfl
theorem IU {W:Wld}{ins outs:List (List D)}(h:pwp (FunOk PP W) p_s_KeysOk (aR outs) (envL ins)):FunOk PP W tW jW ins outs:=aQ (C:=CE) (aP rfl) (bB rfl rfl) mixed Tryz.func94 (by kernel_rfl) (by kernel_rfl) IT h

def p_i_nameRead:PC:= .seq (.ss [.mv 2 (.c (.int .i64 0)),.mv 3 (.c (.int .i64 0))]) (.seq (.seq (.ss [.mv 6 (.t 0),.bin 7 .eql (.t 6) (.c (.str ⟨#[]⟩))]) (.cond (.t 7) (.seq (.ss [.mv 2 (.c (.int .i64 0)),.mv 3 (.c (.int .i64 0))]) (.ret [2,3])) (.skip))) (.seq (.ss [.mv 9 (.t 0),.ssl 10 (.t 9) (some (.c (.int .i64 1))) none,.call 11 jE dF [(.t 10)] [],.mv 8 (.t 11),.ext 12 8 0 1,.ext 13 8 1 1,.mv 4 (.t 12),.mv 5 (.t 13)]) (.seq (.ss [.mv 14 (.t 0),.sidx 15 (.t 14) (.c (.int .i64 0)),.cvt 16 .i64 (.t 15),.bin 17 .sub (.t 16) (.c (.int .i64 97)),.bin 18 .add (.t 17) (.c (.int .i64 1)),.mv 19 (.t 4),.mv 2 (.t 18),.mv 3 (.t 19)]) (.ret [2,3]))))
def vO:Cfg:={tt:=tt,sigs:=sigs,mv:=false,bm:=[],eqt:=fH,keep:=[true,false,true,true,true,false,false,true,false,false,false,false,false,false,false,false,false,false,false,false],n:=20,pin:=[],fail:=[],fz:=[] }
theorem Eo:bP vO Tryz.f96 eN=some p_i_nameRead:=by kernel_rfl
theorem Ep {W:Wld}{ins outs:List (List D)}(h:pwp (FunOk PP W) p_i_nameRead (aR outs) (envL ins)):FunOk PP W lP eN ins outs:=aQ (C:=vO) (aP rfl) (bB rfl rfl) mixed Tryz.func96 (by kernel_rfl) (by kernel_rfl) Eo h

def p_i_isName:PC:= .seq (.ss [.mv 2 (.c (.bool false))]) (.seq (.ss [.mv 3 (.t 0),.call 4 lD iA [(.t 3),(.c (.int .i64 1)),(.c (.int .i64 4))] [],.mv 2 (.t 4)]) (.ret [2]))
def CF:Cfg:={tt:=tt,sigs:=sigs,mv:=false,bm:=[],eqt:=fH,keep:=[true,false,true,false,false],n:=5,pin:=[],fail:=[],fz:=[] }
theorem IV:bP CF Tryz.f99 fV=some p_i_isName:=by kernel_rfl
theorem IW {W:Wld}{ins outs:List (List D)}(h:pwp (FunOk PP W) p_i_isName (aR outs) (envL ins)):FunOk PP W mO fV ins outs:=aQ (C:=CF) (aP rfl) (bB rfl rfl) mixed Tryz.func99 (by kernel_rfl) (by kernel_rfl) IV h

def p_i_isVer:PC:= .seq (.ss [.mv 2 (.c (.bool false))]) (.seq (.ss [.mv 3 (.t 0),.call 4 lD iA [(.t 3),(.c (.int .i64 1)),(.c (.int .i64 5))] [],.mv 2 (.t 4)]) (.ret [2]))
def De:Cfg:={tt:=tt,sigs:=sigs,mv:=false,bm:=[],eqt:=fH,keep:=[true,false,true,false,false],n:=5,pin:=[],fail:=[],fz:=[] }
theorem Km:bP De Tryz.f100 iR=some p_i_isVer:=by kernel_rfl
theorem Kn {W:Wld}{ins outs:List (List D)}(h:pwp (FunOk PP W) p_i_isVer (aR outs) (envL ins)):FunOk PP W oN iR ins outs:=aQ (C:=De) (aP rfl) (bB rfl rfl) mixed Tryz.func100 (by kernel_rfl) (by kernel_rfl) Km h

def p_i_in:PC:= .seq (.ss [.mv 6 (.c (.bool false))]) (.seq (.ss [.mv 7 (.t 0),.mv 8 (.t 1),.bin 9 .geq (.t 7) (.t 8),.mv 10 (.t 9),.g 10 true 11 (.mv 11 (.t 0)),.g 10 true 12 (.mv 12 (.t 2)),.g 10 true 13 (.bin 13 .leq (.t 11) (.t 12)),.pick 14 (.t 10) (.t 13) (.c (.bool false)),.mv 6 (.t 14)]) (.ret [6]))
def ND:Cfg:={tt:=tt,sigs:=sigs,mv:=false,bm:=[],eqt:=fH,keep:=[true,true,true,false,false,false,true,false,false,false,false,false,false,false,false],n:=15,pin:=[],fail:=[],fz:=[] }
theorem RR:bP ND Tryz.f101 iA=some p_i_in:=by kernel_rfl
theorem RT {W:Wld}{ins outs:List (List D)}(h:pwp (FunOk PP W) p_i_in (aR outs) (envL ins)):FunOk PP W lD iA ins outs:=aQ (C:=ND) (aP rfl) (bB rfl rfl) mixed Tryz.func101 (by kernel_rfl) (by kernel_rfl) RR h

def p_s_l1Name:PC:= .seq (.ss [.mv 4 (.c (.str ⟨#[]⟩))]) (.seq (.ss [.mv 5 (.t 0),.bin 6 .add (.c (.int .i64 97)) (.t 5),.bin 7 .sub (.t 6) (.c (.int .i64 1)),.cvt 8 .u8 (.t 7),.lit 9 1 [.int .u8 0] [(0,(.t 8))],.b2s 10 (.t 9),.mv 11 (.t 1),.call 12 jO eT [(.t 11)] [],.bin 13 .add (.t 10) (.t 12),.mv 4 (.t 13)]) (.ret [4]))
def CG:Cfg:={tt:=tt,sigs:=sigs,mv:=false,bm:=[],eqt:=fH,keep:=[true,true,false,false,true,false,false,false,false,false,false,false,false,false],n:=14,pin:=[],fail:=[],fz:=[] }
theorem IX:bP CG Tryz.f104 iB=some p_s_l1Name:=by kernel_rfl
theorem IY {W:Wld}{ins outs:List (List D)}(h:pwp (FunOk PP W) p_s_l1Name (aR outs) (envL ins)):FunOk PP W pT iB ins outs:=aQ (C:=CG) (aP rfl) (bB rfl rfl) mixed Tryz.func104 (by kernel_rfl) (by kernel_rfl) IX h

def p_s_l6Dec:PC:= .seq (.ss [.mv 2 (.c (.str ⟨#[]⟩))]) (.seq (.seq (.ss [.mv 3 (.t 0),.bin 4 .lss (.t 3) (.c (.int .i64 (-9223372036854775807)))]) (.cond (.t 4) (.seq (.ss [.mv 2 (.c (.str ⟨#[45,57,50,50,51,51,55,50,48,51,54,56,53,52,55,55,53,56,48,56]⟩))]) (.ret [2])) (.skip))) (.seq (.seq (.ss [.mv 5 (.t 0),.bin 6 .lss (.t 5) (.c (.int .i64 0))]) (.cond (.t 6) (.seq (.ss [.mv 7 (.t 0),.un 8 .neg (.t 7),.call 9 jO eT [(.t 8)] [],.bin 10 .add (.c (.str ⟨#[45]⟩)) (.t 9),.mv 2 (.t 10)]) (.ret [2])) (.skip))) (.seq (.seq (.ss [.mv 11 (.t 0),.bin 12 .lss (.t 11) (.c (.int .i64 10))]) (.cond (.t 12) (.seq (.ss [.mv 13 (.t 0),.bin 14 .add (.c (.int .i64 48)) (.t 13),.cvt 15 .u8 (.t 14),.lit 16 1 [.int .u8 0] [(0,(.t 15))],.b2s 17 (.t 16),.mv 2 (.t 17)]) (.ret [2])) (.skip))) (.seq (.ss [.mv 18 (.t 0),.bin 19 .quo (.t 18) (.c (.int .i64 10)),.call 20 jO eT [(.t 19)] [],.mv 21 (.t 0),.bin 22 .rem (.t 21) (.c (.int .i64 10)),.bin 23 .add (.c (.int .i64 48)) (.t 22),.cvt 24 .u8 (.t 23),.lit 25 1 [.int .u8 0] [(0,(.t 24))],.b2s 26 (.t 25),.bin 27 .add (.t 20) (.t 26),.mv 2 (.t 27)]) (.ret [2])))))
def Df:Cfg:={tt:=tt,sigs:=sigs,mv:=false,bm:=[],eqt:=fH,keep:=[true,false,true,false,true,false,true,false,false,false,false,false,true,false,false,false,false,false,false,false,false,false,false,false,false,false,false,false],n:=28,pin:=[],fail:=[],fz:=[] }
theorem Ko:bP Df Tryz.f105 eT=some p_s_l6Dec:=by kernel_rfl
theorem Kp {W:Wld}{ins outs:List (List D)}(h:pwp (FunOk PP W) p_s_l6Dec (aR outs) (envL ins)):FunOk PP W jO eT ins outs:=aQ (C:=Df) (aP rfl) (bB rfl rfl) mixed Tryz.func105 (by kernel_rfl) (by kernel_rfl) Ko h

def p_i_KeysOk:PC:= .seq (.ss [.mv 2 (.c (.bool false))]) (.seq (.seq (.ss [.mv 5 (.t 0),.len 6 (.t 5),.mv 7 (.c (.int .i64 0))]) (.block 0 (.loop (.seq (.ss [.bin 8 .lss (.t 7) (.t 6)]) (.seq (.cond (.t 8) (.skip) (.exit 0)) (.seq (.block 1 (.seq (.ss [.mv 9 (.t 7),.elp 10 (.t 5) (.t 7) 1,.eld 11 10 0 [.int .i64 0],.mv 3 (.t 9),.mv 4 (.t 11)]) (.seq (.ss [.mv 12 (.t 4),.call 13 lD iA [(.t 12),(.c (.int .i64 1)),(.c (.int .i64 6))] [],.un 14 .not (.t 13),.mv 15 (.t 14),.g 15 false 16 (.mv 16 (.t 3)),.g 15 false 17 (.bin 17 .gtr (.t 16) (.c (.int .i64 0))),.g 15 false 18 (.mv 18 (.t 17)),.g 18 true 19 (.mv 19 (.t 4)),.g 18 true 20 (.mv 20 (.t 0)),.g 18 true 21 (.mv 21 (.t 3)),.g 18 true 22 (.bin 22 .sub (.t 21) (.c (.int .i64 1))),.g 18 true 23 (.elp 23 (.t 20) (.t 22) 1),.g 18 true 24 (.eld 24 23 0 [.int .i64 0]),.g 18 true 25 (.bin 25 .leq (.t 19) (.t 24)),.g 15 false 26 (.pick 26 (.t 18) (.t 25) (.c (.bool false))),.pick 27 (.t 15) (.c (.bool true)) (.t 26)]) (.cond (.t 27) (.seq (.ss [.mv 2 (.c (.bool false))]) (.ret [2])) (.skip))))) (.ss [.bin 28 .add (.t 7) (.c (.int .i64 1)),.mv 7 (.t 28)]))))))) (.seq (.ss [.mv 2 (.c (.bool true))]) (.ret [2])))
def CH:Cfg:={tt:=tt,sigs:=sigs,mv:=false,bm:=[],eqt:=fH,keep:=[true,false,true,true,true,true,true,true,true,false,false,false,false,false,false,false,false,false,false,false,false,false,false,false,false,false,false,true,false],n:=29,pin:=[],fail:=[],fz:=[] }
theorem IZ:bP CH Tryz.f108 jX=some p_i_KeysOk:=by kernel_rfl
theorem Ia {W:Wld}{ins outs:List (List D)}(h:pwp (FunOk PP W) p_i_KeysOk (aR outs) (envL ins)):FunOk PP W tX jX ins outs:=aQ (C:=CH) (aP rfl) (bB rfl rfl) mixed Tryz.func108 (by kernel_rfl) (by kernel_rfl) IZ h

def p_cmp_Or_int:PC:= .seq (.ss [.mv 2 (.c (.int .i64 0))]) (.seq (.ss [.mv 3 (.c (.int .i64 0))]) (.seq (.seq (.ss [.mv 6 (.t 0),.len 7 (.t 6),.mv 8 (.c (.int .i64 0))]) (.block 0 (.loop (.seq (.ss [.bin 9 .lss (.t 8) (.t 7)]) (.seq (.cond (.t 9) (.skip) (.exit 0)) (.seq (.block 1 (.seq (.ss [.elp 10 (.t 6) (.t 8) 1,.eld 11 10 0 [.int .i64 0],.mv 5 (.t 11)]) (.seq (.ss [.mv 12 (.t 5),.mv 13 (.t 3),.bin 14 .neq (.t 12) (.t 13)]) (.cond (.t 14) (.seq (.ss [.mv 15 (.t 5),.mv 2 (.t 15)]) (.ret [2])) (.skip))))) (.ss [.bin 16 .add (.t 8) (.c (.int .i64 1)),.mv 8 (.t 16)]))))))) (.seq (.ss [.mv 17 (.t 3),.mv 2 (.t 17)]) (.ret [2]))))
def vP:Cfg:={tt:=tt,sigs:=sigs,mv:=false,bm:=[],eqt:=fH,keep:=[true,false,true,true,false,true,true,true,true,true,false,false,false,false,true,false,false,false],n:=18,pin:=[],fail:=[],fz:=[] }
theorem Er:bP vP Tryz.f110 gL=some p_cmp_Or_int:=by kernel_rfl
theorem Es {W:Wld}{ins outs:List (List D)}(h:pwp (FunOk PP W) p_cmp_Or_int (aR outs) (envL ins)):FunOk PP W pU gL ins outs:=aQ (C:=vP) (aP rfl) (bB rfl rfl) mixed Tryz.func110 (by kernel_rfl) (by kernel_rfl) Er h

def p_cmp_Compare_int:PC:= .seq (.ss [.mv 4 (.c (.int .i64 0))]) (.seq (.ss [.mv 7 (.t 0),.call 8 gZ cR [(.t 7)] [],.mv 5 (.t 8)]) (.seq (.ss [.mv 9 (.t 1),.call 10 gZ cR [(.t 9)] [],.mv 6 (.t 10)]) (.seq (.seq (.ss [.mv 11 (.t 5)]) (.cond (.t 11) (.seq (.seq (.ss [.mv 12 (.t 6)]) (.cond (.t 12) (.seq (.ss [.mv 4 (.c (.int .i64 0))]) (.ret [4])) (.skip))) (.seq (.ss [.mv 4 (.c (.int .i64 (-1)))]) (.ret [4]))) (.skip))) (.seq (.seq (.ss [.mv 13 (.t 6)]) (.cond (.t 13) (.seq (.ss [.mv 4 (.c (.int .i64 1))]) (.ret [4])) (.skip))) (.seq (.seq (.ss [.mv 14 (.t 0),.mv 15 (.t 1),.bin 16 .lss (.t 14) (.t 15)]) (.cond (.t 16) (.seq (.ss [.mv 4 (.c (.int .i64 (-1)))]) (.ret [4])) (.skip))) (.seq (.seq (.ss [.mv 17 (.t 0),.mv 18 (.t 1),.bin 19 .gtr (.t 17) (.t 18)]) (.cond (.t 19) (.seq (.ss [.mv 4 (.c (.int .i64 1))]) (.ret [4])) (.skip))) (.seq (.ss [.mv 4 (.c (.int .i64 0))]) (.ret [4]))))))))
def nL:Cfg:={tt:=tt,sigs:=sigs,mv:=false,bm:=[],eqt:=fH,keep:=[true,true,false,false,true,true,true,false,false,false,false,true,true,true,false,false,true,false,false,true],n:=20,pin:=[],fail:=[],fz:=[] }
theorem vQ:bP nL Tryz.f111 cC=some p_cmp_Compare_int:=by kernel_rfl
theorem vR {W:Wld}{ins outs:List (List D)}(h:pwp (FunOk PP W) p_cmp_Compare_int (aR outs) (envL ins)):FunOk PP W eZ cC ins outs:=aQ (C:=nL) (aP rfl) (bB rfl rfl) mixed Tryz.func111 (by kernel_rfl) (by kernel_rfl) vQ h

def p_s_SumOf:PC:= .seq (.ss [.mv 2 (.c (.int .i64 0))]) (.seq (.ss [.mv 3 (.c (.int .i64 7))]) (.seq (.seq (.ss [.mv 4 (.c (.int .i64 0))]) (.block 0 (.loop (.seq (.seq (.ss [.mv 5 (.t 4),.mv 6 (.t 0),.slen 7 (.t 6),.bin 8 .lss (.t 5) (.t 7)]) (.cond (.t 8) (.skip) (.exit 0))) (.seq (.block 1 (.ss [.mv 11 (.t 3),.bin 12 .mul (.c (.int .i64 31)) (.t 11),.mv 13 (.t 0),.mv 14 (.t 4),.sidx 15 (.t 13) (.t 14),.cvt 16 .i64 (.t 15),.bin 17 .add (.t 12) (.t 16),.bin 18 .add (.t 17) (.c (.int .i64 1)),.bin 19 .rem (.t 18) (.c (.int .i64 9973)),.mv 3 (.t 19)])) (.ss [.mv 9 (.t 4),.bin 10 .add (.t 9) (.c (.int .i64 1)),.mv 4 (.t 10)])))))) (.seq (.ss [.mv 20 (.t 3),.mv 2 (.t 20)]) (.ret [2]))))
def Dg:Cfg:={tt:=tt,sigs:=sigs,mv:=false,bm:=[],eqt:=fH,keep:=[true,false,true,true,true,false,false,false,true,false,false,false,false,false,false,false,false,false,false,false,false],n:=21,pin:=[],fail:=[],fz:=[] }
theorem Kq:bP Dg Tryz.f127 jY=some p_s_SumOf:=by kernel_rfl
theorem Kr {W:Wld}{ins outs:List (List D)}(h:pwp (FunOk PP W) p_s_SumOf (aR outs) (envL ins)):FunOk PP W sI jY ins outs:=aQ (C:=Dg) (aP rfl) (bB rfl rfl) mixed Tryz.func127 (by kernel_rfl) (by kernel_rfl) Kq h

def p_s_l1Files:PC:= .seq (.ss [.mv 2 (.c (.bool false))]) (.seq (.seq (.ss [.mv 3 (.c (.int .i64 0))]) (.block 0 (.loop (.seq (.seq (.ss [.mv 4 (.t 3),.mv 5 (.t 0),.len 6 (.t 5),.bin 7 .lss (.t 4) (.t 6)]) (.cond (.t 7) (.skip) (.exit 0))) (.seq (.block 1 (.seq (.ss [.mv 10 (.t 0),.mv 11 (.t 3),.elp 12 (.t 10) (.t 11) 2,.mv 13 (.t 12),.eld 14 13 0 [.int .i64 0],.call 15 cX cA [(.t 14),(.c (.int .i64 0)),(.c (.int .i64 5))] [],.un 16 .not (.t 15),.mv 17 (.t 16),.g 17 false 18 (.mv 18 (.t 0)),.g 17 false 19 (.mv 19 (.t 3)),.g 17 false 20 (.elp 20 (.t 18) (.t 19) 2),.g 17 false 21 (.mv 21 (.t 20)),.g 17 false 22 (.eld 22 21 1 [.int .i64 0]),.g 17 false 23 (.call 23 cX cA [(.t 22),(.c (.int .i64 0)),(.c (.int .i64 9))] []),.g 17 false 24 (.un 24 .not (.t 23)),.pick 25 (.t 17) (.c (.bool true)) (.t 24),.mv 26 (.t 25),.g 26 false 27 (.mv 27 (.t 3)),.g 26 false 28 (.bin 28 .gtr (.t 27) (.c (.int .i64 0))),.g 26 false 29 (.mv 29 (.t 28)),.g 29 true 30 (.mv 30 (.t 0)),.g 29 true 31 (.mv 31 (.t 3)),.g 29 true 32 (.bin 32 .sub (.t 31) (.c (.int .i64 1))),.g 29 true 33 (.elp 33 (.t 30) (.t 32) 2),.g 29 true 34 (.mv 34 (.t 33)),.g 29 true 35 (.eld 35 34 0 [.int .i64 0]),.g 29 true 36 (.mv 36 (.t 0)),.g 29 true 37 (.mv 37 (.t 3)),.g 29 true 38 (.elp 38 (.t 36) (.t 37) 2),.g 29 true 39 (.mv 39 (.t 38)),.g 29 true 40 (.eld 40 39 0 [.int .i64 0]),.g 29 true 41 (.bin 41 .geq (.t 35) (.t 40)),.g 26 false 42 (.pick 42 (.t 29) (.t 41) (.c (.bool false))),.pick 43 (.t 26) (.c (.bool true)) (.t 42)]) (.cond (.t 43) (.seq (.ss [.mv 2 (.c (.bool false))]) (.ret [2])) (.skip)))) (.ss [.mv 8 (.t 3),.bin 9 .add (.t 8) (.c (.int .i64 1)),.mv 3 (.t 9)])))))) (.seq (.ss [.mv 44 (.t 0),.len 45 (.t 44),.bin 46 .leq (.t 45) (.c (.int .i64 2)),.mv 2 (.t 46)]) (.ret [2])))
def zN:Cfg:={tt:=tt,sigs:=sigs,mv:=false,bm:=[],eqt:=fH,keep:=[true,false,true,true,false,false,false,true,false,false,false,false,false,false,false,false,false,false,false,false,false,false,false,false,false,false,false,false,false,false,false,false,false,false,false,false,false,false,false,false,false,false,false,true,false,false,false],n:=47,pin:=[],fail:=[],fz:=[] }
theorem Gr:bP zN Tryz.f128 iS=some p_s_l1Files:=by kernel_rfl
theorem Gs {W:Wld}{ins outs:List (List D)}(h:pwp (FunOk PP W) p_s_l1Files (aR outs) (envL ins)):FunOk PP W rM iS ins outs:=aQ (C:=zN) (aP rfl) (bB rfl rfl) mixed Tryz.func128 (by kernel_rfl) (by kernel_rfl) Gr h

def p_s_l1Deps:PC:= .seq (.ss [.mv 4 (.c (.bool false))]) (.seq (.seq (.ss [.mv 5 (.c (.int .i64 0))]) (.block 0 (.loop (.seq (.seq (.ss [.mv 7 (.t 5),.mv 8 (.t 1),.len 9 (.t 8),.bin 10 .lss (.t 7) (.t 9)]) (.cond (.t 10) (.skip) (.exit 0))) (.seq (.block 1 (.seq (.ss [.mv 13 (.t 1),.mv 14 (.t 5),.elp 15 (.t 13) (.t 14) 2,.eld 16 15 0 [.int .i64 0,.int .i64 0],.bld 6 [.int .i64 0,.int .i64 0] [],.st 6 0 (.t 16)]) (.seq (.ss [.nop,.sub 18 6 0 1,.call 19 cX cA [(.t 18),(.c (.int .i64 1)),(.c (.int .i64 4))] [],.un 20 .not (.t 19),.mv 21 (.t 20),.g 21 false 22 (.nop),.g 21 false 23 (.sub 23 6 0 1),.g 21 false 24 (.mv 24 (.t 0)),.g 21 false 25 (.bin 25 .eql (.t 23) (.t 24)),.pick 26 (.t 21) (.c (.bool true)) (.t 25),.mv 27 (.t 26),.g 27 false 28 (.nop),.g 27 false 29 (.sub 29 6 1 1),.g 27 false 30 (.call 30 cX cA [(.t 29),(.c (.int .i64 1)),(.c (.int .i64 5))] []),.g 27 false 31 (.un 31 .not (.t 30)),.pick 32 (.t 27) (.c (.bool true)) (.t 31),.mv 33 (.t 32),.g 33 false 34 (.mv 34 (.t 5)),.g 33 false 35 (.bin 35 .gtr (.t 34) (.c (.int .i64 0))),.g 33 false 36 (.mv 36 (.t 35)),.g 36 true 37 (.mv 37 (.t 1)),.g 36 true 38 (.mv 38 (.t 5)),.g 36 true 39 (.bin 39 .sub (.t 38) (.c (.int .i64 1))),.g 36 true 40 (.elp 40 (.t 37) (.t 39) 2),.g 36 true 41 (.mv 41 (.t 40)),.g 36 true 42 (.eld 42 41 0 [.int .i64 0]),.g 36 true 43 (.nop),.g 36 true 44 (.sub 44 6 0 1),.g 36 true 45 (.bin 45 .geq (.t 42) (.t 44)),.g 33 false 46 (.pick 46 (.t 36) (.t 45) (.c (.bool false))),.pick 47 (.t 33) (.c (.bool true)) (.t 46)]) (.cond (.t 47) (.seq (.ss [.mv 4 (.c (.bool false))]) (.ret [4])) (.skip))))) (.ss [.mv 11 (.t 5),.bin 12 .add (.t 11) (.c (.int .i64 1)),.mv 5 (.t 12)])))))) (.seq (.ss [.mv 48 (.t 1),.len 49 (.t 48),.bin 50 .leq (.t 49) (.c (.int .i64 2)),.mv 4 (.t 50)]) (.ret [4])))
def CI:Cfg:={tt:=tt,sigs:=sigs,mv:=false,bm:=[],eqt:=fH,keep:=[true,true,false,false,true,true,true,false,false,false,true,false,false,false,false,false,false,false,false,false,false,false,false,false,false,false,false,false,false,false,false,false,false,false,false,false,false,false,false,false,false,false,false,false,false,false,false,true,false,false,false],n:=51,pin:=[],fail:=[],fz:=[] }
theorem Ib:bP CI Tryz.f129 jZ=some p_s_l1Deps:=by kernel_rfl
theorem Ic {W:Wld}{ins outs:List (List D)}(h:pwp (FunOk PP W) p_s_l1Deps (aR outs) (envL ins)):FunOk PP W tY jZ ins outs:=aQ (C:=CI) (aP rfl) (bB rfl rfl) mixed Tryz.func129 (by kernel_rfl) (by kernel_rfl) Ib h

def p_sl_Equal_Meta:PC:= .seq (.ss [.mv 4 (.c (.bool false))]) (.seq (.seq (.ss [.mv 6 (.t 0),.len 7 (.t 6),.mv 8 (.t 1),.len 9 (.t 8),.bin 10 .neq (.t 7) (.t 9)]) (.cond (.t 10) (.seq (.ss [.mv 4 (.c (.bool false))]) (.ret [4])) (.skip))) (.seq (.seq (.ss [.mv 11 (.t 0),.len 12 (.t 11),.mv 13 (.c (.int .i64 0))]) (.block 0 (.loop (.seq (.ss [.bin 14 .lss (.t 13) (.t 12)]) (.seq (.cond (.t 14) (.skip) (.exit 0)) (.seq (.block 1 (.seq (.ss [.mv 15 (.t 13),.mv 5 (.t 15)]) (.seq (.ss [.mv 16 (.t 0),.mv 17 (.t 5),.elp 18 (.t 16) (.t 17) 3,.eld 19 18 0 [.int .i64 0,.int .i64 0,.int .i64 0],.mv 20 (.t 1),.mv 21 (.t 5),.elp 22 (.t 20) (.t 21) 3,.eld 23 22 0 [.int .i64 0,.int .i64 0,.int .i64 0],.eqs 24 true [.int .i64 0,.int .i64 0,.int .i64 0] (.t 19) (.t 23)]) (.cond (.t 24) (.seq (.ss [.mv 4 (.c (.bool false))]) (.ret [4])) (.skip))))) (.ss [.bin 25 .add (.t 13) (.c (.int .i64 1)),.mv 13 (.t 25)]))))))) (.seq (.ss [.mv 4 (.c (.bool true))]) (.ret [4]))))
def qE:Cfg:={tt:=tt,sigs:=sigs,mv:=false,bm:=[],eqt:=fH,keep:=[true,true,false,false,true,true,false,false,false,false,true,false,true,true,true,false,false,false,false,false,false,false,false,false,true,false],n:=26,pin:=[],fail:=[],fz:=[] }
theorem AE:bP qE Tryz.f130 dN=some p_sl_Equal_Meta:=by kernel_rfl
theorem AF {W:Wld}{ins outs:List (List D)}(h:pwp (FunOk PP W) p_sl_Equal_Meta (aR outs) (envL ins)):FunOk PP W lE dN ins outs:=aQ (C:=qE) (aP rfl) (bB rfl rfl) mixed Tryz.func130 (by kernel_rfl) (by kernel_rfl) AE h

end
section

def p_cmp_isNaN_int:PC:= .seq (.ss [.mv 2 (.c (.bool false))]) (.seq (.ss [.mv 3 (.t 0),.mv 4 (.t 0),.bin 5 .neq (.t 3) (.t 4),.mv 2 (.t 5)]) (.ret [2]))
def qF:Cfg:={tt:=tt,sigs:=sigs,mv:=false,bm:=[],eqt:=fH,keep:=[true,false,true,false,false,false],n:=6,pin:=[],fail:=[],fz:=[] }
theorem AG:bP qF Tryz.f140 cR=some p_cmp_isNaN_int:=by kernel_rfl
theorem AH {W:Wld}{ins outs:List (List D)}(h:pwp (FunOk PP W) p_cmp_isNaN_int (aR outs) (envL ins)):FunOk PP W gZ cR ins outs:=aQ (C:=qF) (aP rfl) (bB rfl rfl) mixed Tryz.func140 (by kernel_rfl) (by kernel_rfl) AG h

end
section

def p_i_put_X:PC:= .seq (.ss [.mv 3 (.t 1),.mv 4 (.c (.sl [])),.mv 5 (.c (.bool false))]) (.seq (.ss [.mv 9 (.t 0),.sub 10 3 0 4,.call 11 dK bL [(.t 9),(.t 10),(.c (.fn 63 [] []))] [],.mv 8 (.t 11),.ext 12 8 0 1,.ext 13 8 1 1,.mv 6 (.t 12),.mv 7 (.t 13)]) (.seq (.seq (.ss [.mv 14 (.t 7)]) (.cond (.t 14) (.seq (.ss [.mv 15 (.t 0),.mv 4 (.t 15),.mv 5 (.c (.bool false))]) (.ret [4,5])) (.skip))) (.seq (.ss [.mv 16 (.t 0),.mv 17 (.t 6),.sub 18 3 0 4,.call 19 fK cM [(.t 18)] [],.lit 20 1 [.int .i64 0,.int .i64 0,.sl [],.sl []] [(0,(.t 19))],.call 21 pZ fE [(.t 16),(.t 17),(.t 20)] [],.mv 4 (.t 21),.mv 5 (.c (.bool true))]) (.ret [4,5]))))
def Dh:Cfg:={tt:=tt,sigs:=yS,mv:=true,bm:=[],eqt:=fH,keep:=[true,true,false,true,true,true,true,true,false,false,false,false,false,false,true,false,false,false,false,false,false,false],n:=22,pin:=[],fz:=[],al:=false }
theorem Ks:bP Dh Tryz.f60 oO=some p_i_put_X:=by kernel_rfl
theorem Kt {W:Wld}{ins outs:List (List D)}(h:pwp (FunOk PP W) p_i_put_X (aR outs) (envL ins)):FunOk PP W Ef oO ins outs:=aQ (C:=Dh) (aP rfl) (bB rfl rfl) mixed Tryz.func60 (by kernel_rfl) (by kernel_rfl) Ks h

def p_i_copies_X:PC:= .seq (.ss [.mv 2 (.c (.sl []))]) (.seq (.ss [.mv 3 (.c (.sl []))]) (.seq (.seq (.ss [.mv 6 (.t 0),.len 7 (.t 6),.mv 8 (.c (.int .i64 0))]) (.block 0 (.loop (.seq (.ss [.bin 9 .lss (.t 8) (.t 7)]) (.seq (.cond (.t 9) (.skip) (.exit 0)) (.seq (.block 1 (.seq (.ss [.elp 10 (.t 6) (.t 8) 4,.eld 11 10 0 [.int .i64 0,.int .i64 0,.sl [],.sl []],.bld 5 [.int .i64 0,.int .i64 0,.sl [],.sl []] [],.st 5 0 (.t 11)]) (.ss [.mv 12 (.t 3),.sub 13 5 0 4,.call 14 fK cM [(.t 13)] [],.lit 15 1 [.int .i64 0,.int .i64 0,.sl [],.sl []] [(0,(.t 14))],.app 16 4 false (.t 12) (.t 15),.mv 3 (.t 16)]))) (.ss [.bin 17 .add (.t 8) (.c (.int .i64 1)),.mv 8 (.t 17)]))))))) (.seq (.ss [.mv 18 (.t 3),.mv 2 (.t 18)]) (.ret [2]))))
def vS:Cfg:={tt:=tt,sigs:=yS,mv:=true,bm:=[],eqt:=fH,keep:=[true,false,true,true,false,true,true,true,true,true,false,false,false,false,false,false,false,false,false],n:=19,pin:=[],fz:=[],al:=false }
theorem Et:bP vS Tryz.f59 jF=some p_i_copies_X:=by kernel_rfl
theorem Eu {W:Wld}{ins outs:List (List D)}(h:pwp (FunOk PP W) p_i_copies_X (aR outs) (envL ins)):FunOk PP W tT jF ins outs:=aQ (C:=vS) (aP rfl) (bB rfl rfl) mixed Tryz.func59 (by kernel_rfl) (by kernel_rfl) Et h

def p_i_Pkg_copied_X:PC:= .seq (.ss [.mv 1 (.t 0),.bld 2 [.int .i64 0,.int .i64 0,.sl [],.sl []] []]) (.seq (.ss [.nop,.sub 4 1 2 1,.call 5 pX fA [(.t 4)] [],.nop,.sub 7 1 3 1,.call 8 rK gM [(.t 7)] [],.nop,.st 1 2 (.t 5),.nop,.st 1 3 (.t 8)]) (.seq (.ss [.sub 11 1 0 4,.st 2 0 (.t 11)]) (.ret [2])))
def oQ:Cfg:={tt:=tt,sigs:=yS,mv:=true,bm:=[],eqt:=fH,keep:=[true,true,true,false,false,false,false,false,false,false,false,false],n:=12,pin:=[],fz:=[],al:=false }
theorem xN:bP oQ Tryz.f44 cM=some p_i_Pkg_copied_X:=by kernel_rfl
theorem xO {W:Wld}{ins outs:List (List D)}(h:pwp (FunOk PP W) p_i_Pkg_copied_X (aR outs) (envL ins)):FunOk PP W fK cM ins outs:=aQ (C:=oQ) (aP rfl) (bB rfl rfl) mixed Tryz.func44 (by kernel_rfl) (by kernel_rfl) xN h

def p_i_StoreTrim_X:PC:= .seq (.ss [.mv 2 (.t 0),.mv 4 (.c (.sl []))]) (.seq (.seq (.ss [.sub 8 2 0 7,.call 9 nH fR [(.t 8)] [],.un 10 .not (.t 9),.mv 11 (.t 10),.g 11 false 12 (.mv 12 (.t 1)),.g 11 false 13 (.call 13 nF fQ [(.t 12)] []),.g 11 false 14 (.un 14 .not (.t 13)),.pick 15 (.t 11) (.c (.bool true)) (.t 14)]) (.cond (.t 15) (.seq (.ss [.mv 4 (.c (.sl []))]) (.ret [4])) (.skip))) (.seq (.ss [.mv 5 (.c (.sl []))]) (.seq (.seq (.ss [.mv 16 (.t 1),.len 17 (.t 16),.mv 18 (.c (.int .i64 0))]) (.block 0 (.loop (.seq (.ss [.bin 19 .lss (.t 18) (.t 17)]) (.seq (.cond (.t 19) (.skip) (.exit 0)) (.seq (.block 1 (.seq (.ss [.elp 20 (.t 16) (.t 18) 4,.eld 21 20 0 [.int .i64 0,.int .i64 0,.sl [],.sl []],.bld 7 [.int .i64 0,.int .i64 0,.sl [],.sl []] [],.st 7 0 (.t 21)]) (.seq (.ss [.nop,.sub 23 2 3 1,.mv 24 (.t 23),.g 24 true 25 (.nop),.g 24 true 26 (.nop),.g 24 true 27 (.sub 27 2 6 1),.g 24 true 28 (.sub 28 7 0 4),.g 24 true 29 (.call 29 pR hZ [(.t 28)] []),.g 24 true 30 (.call 30 eL bW [(.t 27),(.t 29)] []),.pick 31 (.t 24) (.t 30) (.c (.bool false))]) (.cond (.t 31) (.ss [.mv 32 (.t 5),.sub 33 7 0 4,.call 34 fK cM [(.t 33)] [],.lit 35 1 [.int .i64 0,.int .i64 0,.sl [],.sl []] [(0,(.t 34))],.app 36 4 false (.t 32) (.t 35),.mv 5 (.t 36)]) (.skip))))) (.ss [.bin 37 .add (.t 18) (.c (.int .i64 1)),.mv 18 (.t 37)]))))))) (.seq (.ss [.mv 38 (.t 5),.mv 4 (.t 38)]) (.ret [4])))))
def qG:Cfg:={tt:=tt,sigs:=yS,mv:=true,bm:=[],eqt:=fH,keep:=[true,true,true,false,true,true,false,true,false,false,false,false,false,false,false,true,true,true,true,true,false,false,false,false,false,false,false,false,false,false,false,true,false,false,false,false,false,false,false],n:=39,pin:=[],fz:=[],al:=false }
theorem AI:bP qG Tryz.f10 dO=some p_i_StoreTrim_X:=by kernel_rfl
theorem AJ {W:Wld}{ins outs:List (List D)}(h:pwp (FunOk PP W) p_i_StoreTrim_X (aR outs) (envL ins)):FunOk PP W kD dO ins outs:=aQ (C:=qG) (aP rfl) (bB rfl rfl) mixed Tryz.func10 (by kernel_rfl) (by kernel_rfl) AI h

def p_i_StoreAdd_X:PC:= .seq (.ss [.mv 3 (.t 0),.mv 6 (.c (.sl [])),.mv 7 (.c (.bool false))]) (.seq (.seq (.ss [.sub 11 3 0 7,.call 12 nH fR [(.t 11)] [],.un 13 .not (.t 12),.mv 14 (.t 13),.g 14 false 15 (.mv 15 (.t 1)),.g 14 false 16 (.call 16 nF fQ [(.t 15)] []),.g 14 false 17 (.un 17 .not (.t 16)),.pick 18 (.t 14) (.c (.bool true)) (.t 17)]) (.cond (.t 18) (.seq (.ss [.mv 6 (.c (.sl [])),.mv 7 (.c (.bool false))]) (.ret [6,7])) (.skip))) (.seq (.ss [.mv 19 (.t 1),.call 20 tT jF [(.t 19)] [],.mv 8 (.t 20)]) (.seq (.ss [.nop,.sub 23 3 4 3,.mv 24 (.t 2),.call 25 jC dS [(.t 23),(.t 24)] [],.mv 21 (.t 25),.ext 26 21 0 4,.ext 27 21 4 1,.bld 9 [.int .i64 0,.int .i64 0,.sl [],.sl []] [],.st 9 0 (.t 26),.mv 10 (.t 27)]) (.seq (.seq (.ss [.nop,.sub 29 3 3 1,.un 30 .not (.t 29),.mv 31 (.t 30),.g 31 false 32 (.mv 32 (.t 10)),.g 31 false 33 (.un 33 .not (.t 32)),.pick 34 (.t 31) (.c (.bool true)) (.t 33)]) (.cond (.t 34) (.seq (.ss [.mv 35 (.t 8),.mv 6 (.t 35),.mv 7 (.c (.bool false))]) (.ret [6,7])) (.skip))) (.seq (.ss [.mv 36 (.t 8),.sub 37 9 0 4,.call 38 Ef oO [(.t 36),(.t 37)] [],.ext 39 38 0 1,.ext 40 38 1 1,.mv 6 (.t 39),.mv 7 (.t 40)]) (.ret [6,7]))))))
def rR:Cfg:={tt:=tt,sigs:=yS,mv:=true,bm:=[],eqt:=fH,keep:=[true,true,true,true,false,false,true,true,true,true,true,false,false,false,false,false,false,false,true,false,false,false,false,false,false,false,false,false,false,false,false,false,false,false,true,false,false,false,false,false,false],n:=41,pin:=[],fz:=[],al:=false }
theorem CJ:bP rR Tryz.f20 dG=some p_i_StoreAdd_X:=by kernel_rfl
theorem CK {W:Wld}{ins outs:List (List D)}(h:pwp (FunOk PP W) p_i_StoreAdd_X (aR outs) (envL ins)):FunOk PP W jD dG ins outs:=aQ (C:=rR) (aP rfl) (bB rfl rfl) mixed Tryz.func20 (by kernel_rfl) (by kernel_rfl) CJ h

def p_l_FnTrimAdd_X:PC:= .seq (.ss [.mv 2 (.c (.bool false))]) (.seq (.seq (.ss [.mv 12 (.t 0),.len 13 (.t 12),.bin 14 .gtr (.t 13) (.c (.int .i64 1048576))]) (.cond (.t 14) (.seq (.ss [.mv 2 (.c (.bool true))]) (.ret [2])) (.skip))) (.seq (.ss [.mv 16 (.t 0),.call 17 jM dD [(.t 16)] [],.mv 15 (.t 17),.ext 18 15 0 7,.ext 19 15 7 1,.ext 20 15 8 1,.bld 3 [.int .i64 0,.sl [],.int .i64 0,.bool false,.int .i64 0,.int .i64 0,.sl []] [],.st 3 0 (.t 18),.mv 4 (.t 19),.mv 5 (.t 20)]) (.seq (.ss [.sub 22 3 0 7,.mv 23 (.t 4),.mv 24 (.t 5),.call 25 pN gJ [(.t 22),(.t 23),(.t 24)] [],.mv 21 (.t 25),.ext 26 21 0 1,.ext 27 21 1 1,.mv 6 (.t 26),.mv 7 (.t 27)]) (.seq (.ss [.sub 29 3 0 7,.mv 30 (.t 4),.mv 31 (.t 5),.call 32 jD dG [(.t 29),(.t 30),(.t 31)] [],.mv 28 (.t 32),.ext 33 28 0 1,.ext 34 28 1 1,.mv 8 (.t 33),.mv 9 (.t 34)]) (.seq (.seq (.ss [.mv 35 (.t 9),.mv 36 (.t 7),.beq 37 true (.t 35) (.t 36),.mv 38 (.t 37),.g 38 false 39 (.mv 39 (.t 8)),.g 38 false 40 (.mv 40 (.t 6)),.g 38 false 41 (.call 41 mK fP [(.t 39),(.t 40)] []),.g 38 false 42 (.un 42 .not (.t 41)),.pick 43 (.t 38) (.c (.bool true)) (.t 42),.mv 44 (.t 43),.g 44 false 45 (.mv 45 (.t 9)),.g 44 false 46 (.un 46 .not (.t 45)),.pick 47 (.t 44) (.c (.bool true)) (.t 46)]) (.cond (.t 47) (.seq (.ss [.mv 48 (.t 9),.mv 49 (.t 7),.beq 50 false (.t 48) (.t 49),.mv 51 (.t 50),.g 51 true 52 (.mv 52 (.t 8)),.g 51 true 53 (.mv 53 (.t 6)),.g 51 true 54 (.call 54 mK fP [(.t 52),(.t 53)] []),.pick 55 (.t 51) (.t 54) (.c (.bool false)),.mv 2 (.t 55)]) (.ret [2])) (.skip))) (.seq (.ss [.sub 57 3 0 7,.sub 58 3 0 7,.mv 59 (.t 4),.call 60 kD dO [(.t 58),(.t 59)] [],.mv 61 (.t 5),.call 62 jD dG [(.t 57),(.t 60),(.t 61)] [],.mv 56 (.t 62),.ext 63 56 0 1,.ext 64 56 1 1,.mv 10 (.t 63),.mv 11 (.t 64)]) (.seq (.ss [.mv 65 (.t 11),.mv 66 (.t 65),.g 66 true 67 (.mv 67 (.t 10)),.g 66 true 68 (.sub 68 3 0 7),.g 66 true 69 (.mv 69 (.t 8)),.g 66 true 70 (.call 70 kD dO [(.t 68),(.t 69)] []),.g 66 true 71 (.call 71 mK fP [(.t 67),(.t 70)] []),.pick 72 (.t 66) (.t 71) (.c (.bool false)),.mv 2 (.t 72)]) (.ret [2]))))))))
def qH:Cfg:={tt:=tt,sigs:=yS,mv:=false,bm:=[],eqt:=fH,keep:=[true,false,true,true,true,true,true,true,true,true,true,true,false,false,true,false,false,false,false,false,false,false,false,false,false,false,false,false,false,false,false,false,false,false,false,false,false,false,false,false,false,false,false,false,false,false,false,true,false,false,false,false,false,false,false,false,false,false,false,false,false,false,false,false,false,false,false,false,false,false,false,false,false],n:=73,pin:=[],fz:=[],al:=false }
theorem AK:bP qH Tryz.f7 lF=some p_l_FnTrimAdd_X:=by kernel_rfl
theorem AL {W:Wld}{ins outs:List (List D)}(h:pwp (FunOk PP W) p_l_FnTrimAdd_X (aR outs) (envL ins)):FunOk PP W n_l_FnTrimAdd lF ins outs:=aQ (C:=qH) (aP rfl) (bB rfl rfl) mixed Tryz.func7 (by kernel_rfl) (by kernel_rfl) AK h

end
section
open Classical
variable {W:Wld}

theorem pV (n lo hi:Int):FunOk PP W cX cA [i64 n,i64 lo,i64 hi] [bo (decide (lo≤n∧n≤hi))]:=by
 refine NC (lA ?_)
 (repeat' first
  | (refine gX (fun h=>?_) (fun h=>?_)<;>(try simp (disch:=omega) only [zB,eqDs,bM,Nat.reduceAdd,aA] at h)<;>(try (exfalso;omega)))
  | (refine Need.mk (by (try simp (disch:=omega) only [zB,eqDs,bM,Nat.reduceAdd,aA]);first | exact gO (by omega) (by omega) (fun _=>rfl) | exact gP (by omega) (by omega) (fun _=>rfl) | exact oK (by omega) (by omega) (by omega) rfl | exact oL (by omega) (fun _=>rfl) | exact dB (by omega) (fun _=>rfl) (fun _=>rfl) | exact dC (by omega) (fun _=>rfl) rfl rfl | exact gF (by omega) (fun _=>rfl) (fun _=>rfl)) ?_)
  | (refine Need.mk ?_ ?_)
  | refine rb ?_
  | refine ri ?_
  | refine bV ?_ ?_
  | refine cE ?_)
 ·simp_all
 ·exact fD (by omega)

theorem Di (n lo hi:Int):FunOk PP W lD iA [i64 n,i64 lo,i64 hi] [bo (decide (lo≤n∧n≤hi))]:=by
 refine RT (lA ?_)
 (repeat' first
  | (refine gX (fun h=>?_) (fun h=>?_)<;>(try simp (disch:=omega) only [zB,eqDs,bM,Nat.reduceAdd,aA] at h)<;>(try (exfalso;omega)))
  | (refine Need.mk (by (try simp (disch:=omega) only [zB,eqDs,bM,Nat.reduceAdd,aA]);first | exact gO (by omega) (by omega) (fun _=>rfl) | exact gP (by omega) (by omega) (fun _=>rfl) | exact oK (by omega) (by omega) (by omega) rfl | exact oL (by omega) (fun _=>rfl) | exact dB (by omega) (fun _=>rfl) (fun _=>rfl) | exact dC (by omega) (fun _=>rfl) rfl rfl | exact gF (by omega) (fun _=>rfl) (fun _=>rfl)) ?_)
  | (refine Need.mk ?_ ?_)
  | refine rb ?_
  | refine ri ?_
  | refine bV ?_ ?_
  | refine cE ?_)
 ·simp_all
 ·exact fD (by omega)

theorem xP (n:Int):FunOk PP W mO fV [i64 n] [bo (decide (1≤n∧n≤4))]:=by
 refine IW (lA ?_)
 (repeat' first
  | (refine gX (fun h=>?_) (fun h=>?_)<;>(try simp (disch:=omega) only [zB,eqDs,bM,Nat.reduceAdd,aA] at h)<;>(try (exfalso;omega)))
  | (refine Need.mk (by (try simp (disch:=omega) only [zB,eqDs,bM,Nat.reduceAdd,aA]);first | exact gO (by omega) (by omega) (fun _=>rfl) | exact gP (by omega) (by omega) (fun _=>rfl) | exact oK (by omega) (by omega) (by omega) rfl | exact oL (by omega) (fun _=>rfl) | exact dB (by omega) (fun _=>rfl) (fun _=>rfl) | exact dC (by omega) (fun _=>rfl) rfl rfl | exact gF (by omega) (fun _=>rfl) (fun _=>rfl)) ?_)
  | (refine nE (Di ..) rfl ?_)
  | (refine Need.mk ?_ ?_)
  | refine rb ?_
  | refine ri ?_
  | refine bV ?_ ?_
  | refine cE ?_)
 rfl
theorem CL (n:Int):FunOk PP W oN iR [i64 n] [bo (decide (1≤n∧n≤5))]:=by
 refine Kn (lA ?_)
 (repeat' first
  | (refine gX (fun h=>?_) (fun h=>?_)<;>(try simp (disch:=omega) only [zB,eqDs,bM,Nat.reduceAdd,aA] at h)<;>(try (exfalso;omega)))
  | (refine Need.mk (by (try simp (disch:=omega) only [zB,eqDs,bM,Nat.reduceAdd,aA]);first | exact gO (by omega) (by omega) (fun _=>rfl) | exact gP (by omega) (by omega) (fun _=>rfl) | exact oK (by omega) (by omega) (by omega) rfl | exact oL (by omega) (fun _=>rfl) | exact dB (by omega) (fun _=>rfl) (fun _=>rfl) | exact dC (by omega) (fun _=>rfl) rfl rfl | exact gF (by omega) (fun _=>rfl) (fun _=>rfl)) ?_)
  | (refine nE (Di ..) rfl ?_)
  | (refine Need.mk ?_ ?_)
  | refine rb ?_
  | refine ri ?_
  | refine bV ?_ ?_
  | refine cE ?_)
 rfl

def kA (fs:List P2)(i:Int):Prop:=(0≤(ix fs i).a∧(ix fs i).a≤5)∧(0≤(ix fs i).b∧(ix fs i).b≤9)∧(0<i→(ix fs (i - 1)).a<(ix fs i).a)
def vT (fs:List P2):Prop:=vI fs.length (kA fs)∧(fs.length:Int)≤2
def mQ (name:Int)(fs:List P2)(i:Int):Prop:=(1≤(ix fs i).a∧(ix fs i).a≤4)∧(ix fs i).a≠name∧(1≤(ix fs i).b∧(ix fs i).b≤5)∧(0<i→(ix fs (i - 1)).a<(ix fs i).a)
def Ew (name:Int)(fs:List P2):Prop:=vI fs.length (mQ name fs)∧(fs.length:Int)≤2
def PkOk (p:Pk):Prop:=(1≤p.name∧p.name≤4)∧(1≤p.ver∧p.ver≤5)∧vT p.files∧Ew p.name p.deps
def SmP (p:Pk):Prop:=p.files.length≤lim∧p.deps.length≤lim

theorem Id (fs:List P2)(hl:fs.length≤lim):FunOk PP W rM iS [Cf fs] [bo (decide (vT fs))]:=by
 refine Gs (lA ?_)
 unfold lim at hl
 refine AZ (fun i:Int=>0≤i∧i≤fs.length∧vI i (kA fs)) (fun i=>[(3,i64 i),(0,Cf fs)]) (fun i=>(fs.length - i).toNat) 0 ⟨by omega,by omega,cV _⟩ ⟨rfl,rfl,trivial⟩ ?_
 rintro i e ⟨h0,hN,hP⟩
 (repeat' first
  | (refine gX (fun h=>?_) (fun h=>?_)<;>(try simp (disch:=omega) only [zB,eqDs,bM,Nat.reduceAdd,aA] at h)<;>(try (exfalso;omega)))
  | (refine Need.mk (by (try simp (disch:=omega) only [zB,eqDs,bM,Nat.reduceAdd,aA]);first | exact gO (by omega) (by omega) (fun _=>rfl) | exact gP (by omega) (by omega) (fun _=>rfl) | exact oK (by omega) (by omega) (by omega) rfl | exact oL (by omega) (fun _=>rfl) | exact dB (by omega) (fun _=>rfl) (fun _=>rfl) | exact dC (by omega) (fun _=>rfl) rfl rfl | exact gF (by omega) (fun _=>rfl) (fun _=>rfl)) ?_)
  | (refine nE (pV ..) rfl ?_)
  | (refine Exists.intro (i+1) ⟨by omega,⟨by omega,by omega,cW hP ?_⟩,aX (aA _ (by omega)),rfl,trivial⟩)
  | (refine Need.mk ?_ ?_)
  | refine rb ?_
  | refine ri ?_
  | refine bV ?_ ?_
  | refine cE ?_)
 ·exact fD (fun ⟨h,_⟩=>by have:=h i (by omega) (by omega);unfold kA at this;omega)
 ·exact fD (fun ⟨h,_⟩=>by have:=h i (by omega) (by omega);unfold kA at this;omega)
 ·exact fD (fun ⟨h,_⟩=>by have:=h i (by omega) (by omega);unfold kA at this;omega)
 ·unfold kA;omega
 ·unfold kA;omega
 ·simp only [List.length_map]
  congr 1
  simp only [vT,eq_iff_iff]
  exact ⟨fun h1=>⟨gT hP (by omega),h1⟩,fun h=>h.2⟩

theorem Ku (name:Int)(fs:List P2)(hl:fs.length≤lim):FunOk PP W tY jZ [i64 name,Cf fs] [bo (decide (Ew name fs))]:=by
 refine Ic (lA ?_)
 unfold lim at hl
 refine AZ (fun i:Int=>0≤i∧i≤fs.length∧vI i (mQ name fs)) (fun i=>[(5,i64 i),(1,Cf fs),(0,i64 name)]) (fun i=>(fs.length - i).toNat) 0 ⟨by omega,by omega,cV _⟩ ⟨rfl,rfl,rfl,trivial⟩ ?_
 rintro i e ⟨h0,hN,hP⟩
 (repeat' first
  | (refine gX (fun h=>?_) (fun h=>?_)<;>(try simp (disch:=omega) only [zB,eqDs,bM,Nat.reduceAdd,aA] at h)<;>(try (exfalso;omega)))
  | (refine Need.mk (by (try simp (disch:=omega) only [zB,eqDs,bM,Nat.reduceAdd,aA]);first | exact gO (by omega) (by omega) (fun _=>rfl) | exact gP (by omega) (by omega) (fun _=>rfl) | exact oK (by omega) (by omega) (by omega) rfl | exact oL (by omega) (fun _=>rfl) | exact dB (by omega) (fun _=>rfl) (fun _=>rfl) | exact dC (by omega) (fun _=>rfl) rfl rfl | exact gF (by omega) (fun _=>rfl) (fun _=>rfl)) ?_)
  | (refine nE (pV ..) rfl ?_)
  | (refine Exists.intro (i+1) ⟨by omega,⟨by omega,by omega,cW hP ?_⟩,aX (aA _ (by omega)),rfl,rfl,trivial⟩)
  | (refine Need.mk ?_ ?_)
  | refine rb ?_
  | refine ri ?_
  | refine bV ?_ ?_
  | refine cE ?_)
 ·exact fD (fun ⟨h,_⟩=>by have:=h i (by omega) (by omega);unfold mQ at this;omega)
 ·exact fD (fun ⟨h,_⟩=>by have:=h i (by omega) (by omega);unfold mQ at this;omega)
 ·exact fD (fun ⟨h,_⟩=>by have:=h i (by omega) (by omega);unfold mQ at this;omega)
 ·exact fD (fun ⟨h,_⟩=>by have:=h i (by omega) (by omega);unfold mQ at this;omega)
 ·unfold mQ;omega
 ·unfold mQ;omega
 ·simp only [List.length_map]
  congr 1
  simp only [Ew,eq_iff_iff]
  exact ⟨fun h1=>⟨gT hP (by omega),h1⟩,fun h=>h.2⟩

theorem Dj (p:Pk)(hs:SmP p):FunOk PP W sH jV [ePk p] [bo (decide (PkOk p))]:=by
 refine Kj (lA ?_)
 (repeat' first
  | (refine gX (fun h=>?_) (fun h=>?_)<;>(try simp (disch:=omega) only [zB,eqDs,bM,Nat.reduceAdd,aA] at h)<;>(try (exfalso;omega)))
  | (refine Need.mk (by (try simp (disch:=omega) only [zB,eqDs,bM,Nat.reduceAdd,aA]);first | exact gO (by omega) (by omega) (fun _=>rfl) | exact gP (by omega) (by omega) (fun _=>rfl) | exact oK (by omega) (by omega) (by omega) rfl | exact oL (by omega) (fun _=>rfl) | exact dB (by omega) (fun _=>rfl) (fun _=>rfl) | exact dC (by omega) (fun _=>rfl) rfl rfl | exact gF (by omega) (fun _=>rfl) (fun _=>rfl)) ?_)
  | (refine nE (pV ..) rfl ?_)
  | (refine nE (Id p.files hs.1) rfl ?_)
  | (refine nE (Ku p.name p.deps hs.2) rfl ?_)
  | (refine Need.mk ?_ ?_)
  | refine rb ?_
  | refine ri ?_
  | refine bV ?_ ?_
  | refine cE ?_)
 ·congr 1
  simp only [PkOk,eq_iff_iff]
  exact ⟨fun h=>⟨by assumption,by assumption,by assumption,h⟩,fun h=>h.2.2.2⟩
 ·exact fD (fun h=>absurd h.2.2.1 (by assumption))
 ·exact fD (fun h=>absurd h.2.1 (by assumption))
 ·exact fD (fun h=>absurd h.1 (by assumption))

end
section
open Classical
variable {W:Wld}

theorem sJ (n v m w:Int):FunOk PP W jN eM [i64 n,i64 v,i64 m,i64 w] [bo (decide (n<m∨(n=m∧v<w)))]:=by
 refine IS (lA ?_)
 (repeat' first
  | (refine gX (fun h=>?_) (fun h=>?_)<;>(try simp (disch:=omega) only [zB,eqDs,bM,Nat.reduceAdd,aA] at h)<;>(try (exfalso;omega)))
  | (refine Need.mk (by (try simp (disch:=omega) only [zB,eqDs,bM,Nat.reduceAdd,aA]);first | exact gO (by omega) (by omega) (fun _=>rfl) | exact gP (by omega) (by omega) (fun _=>rfl) | exact oK (by omega) (by omega) (by omega) rfl | exact oL (by omega) (fun _=>rfl) | exact dB (by omega) (fun _=>rfl) (fun _=>rfl) | exact dC (by omega) (fun _=>rfl) rfl rfl | exact gF (by omega) (fun _=>rfl) (fun _=>rfl)) ?_)
  | (refine Need.mk ?_ ?_)
  | refine rb ?_
  | refine ri ?_
  | refine bV ?_ ?_
  | refine cE ?_)
 all_goals simp_all

def bH (p q:Pk):Prop:=p.name<q.name∨(p.name=q.name∧p.ver<q.ver)
def RU (ps:List Pk)(i:Int):Prop:=PkOk (ix ps i)∧(0<i→bH (ix ps (i - 1)) (ix ps i))
def jG (ps:List Pk):Prop:=vI ps.length (RU ps)
def jI (ps:List Pk):Prop:=ps.length≤lim∧∀ p∈ps,SmP p
theorem nM {ps:List Pk}(h:jI ps){i:Int}(h0:0≤i)(h1:i<ps.length):SmP (ix ps i):=h.2 _ (mJ h0 h1)

theorem Dl (ps:List Pk)(hs:jI ps):FunOk PP W pQ hY [bN ps] [bo (decide (jG ps))]:=by
 refine IK (lA ?_)
 have hl:=hs.1
 unfold lim at hl
 refine AZ (fun i:Int=>0≤i∧i≤ps.length∧vI i (RU ps)) (fun i=>[(3,i64 i),(0,bN ps)]) (fun i=>(ps.length - i).toNat) 0 ⟨by omega,by omega,cV _⟩ ⟨rfl,rfl,trivial⟩ ?_
 rintro i e ⟨h0,hN,hP⟩
 (repeat' first
  | (refine gX (fun h=>?_) (fun h=>?_)<;>(try simp (disch:=omega) only [zB,eqDs,bM,Nat.reduceAdd,aA] at h)<;>(try (exfalso;omega)))
  | (refine Need.mk (by (try simp (disch:=omega) only [zB,eqDs,bM,Nat.reduceAdd,aA]);first | exact gO (by omega) (by omega) (fun _=>rfl) | exact gP (by omega) (by omega) (fun _=>rfl) | exact oK (by omega) (by omega) (by omega) rfl | exact oL (by omega) (fun _=>rfl) | exact dB (by omega) (fun _=>rfl) (fun _=>rfl) | exact dC (by omega) (fun _=>rfl) rfl rfl | exact gF (by omega) (fun _=>rfl) (fun _=>rfl)) ?_)
  | (refine Bj (Dj (ix ps i) (nM hs (by omega) (by omega))) (by simp (disch:=omega) only [zB,eqDs,bM,Nat.reduceAdd,aA]) rfl ?_)
  | (refine Bj (sJ (ix ps (i - 1)).name (ix ps (i - 1)).ver (ix ps i).name (ix ps i).ver) (by simp (disch:=omega) only [zB,eqDs,bM,Nat.reduceAdd,aA]) rfl ?_)
  | (refine Exists.intro (i+1) ⟨by omega,⟨by omega,by omega,cW hP ?_⟩,aX (aA _ (by omega)),rfl,trivial⟩)
  | (refine Need.mk ?_ ?_)
  | refine rb ?_
  | refine ri ?_
  | refine bV ?_ ?_
  | refine cE ?_)
 ·exact fD (fun h=>absurd (h i (by omega) (by omega)).1 (by assumption))
 ·exact fD (fun h=>absurd ((h i (by omega) (by omega)).2 (by assumption)) (by assumption))
 ·exact ⟨by assumption,fun _=>by assumption⟩
 ·exact ⟨by assumption,fun h=>absurd h (by assumption)⟩
 ·exact tD (gT hP (by omega))

theorem zO (ps:List Pk)(hs:jI ps):FunOk PP W rF iP [bN ps] [bo (decide (jG ps))]:=by
 refine GY (lA ?_)
 (repeat' first
  | (refine gX (fun h=>?_) (fun h=>?_)<;>(try simp (disch:=omega) only [zB,eqDs,bM,Nat.reduceAdd,aA] at h)<;>(try (exfalso;omega)))
  | (refine Need.mk (by (try simp (disch:=omega) only [zB,eqDs,bM,Nat.reduceAdd,aA]);first | exact gO (by omega) (by omega) (fun _=>rfl) | exact gP (by omega) (by omega) (fun _=>rfl) | exact oK (by omega) (by omega) (by omega) rfl | exact oL (by omega) (fun _=>rfl) | exact dB (by omega) (fun _=>rfl) (fun _=>rfl) | exact dC (by omega) (fun _=>rfl) rfl rfl | exact gF (by omega) (fun _=>rfl) (fun _=>rfl)) ?_)
  | (refine nE (Dl ps hs) rfl ?_)
  | (refine Need.mk ?_ ?_)
  | refine rb ?_
  | refine ri ?_
  | refine bV ?_ ?_
  | refine cE ?_)
 rfl
end
section
open Classical
variable {W:Wld}

theorem Ci (p:Pk)(hs:SmP p):FunOk PP W mN eA [ePk p] [ePk p]:=by
 refine Bs (lA ?_)
 obtain ⟨h1,h2⟩:=hs
 unfold lim at h1 h2
 (repeat' first
  | (refine gX (fun h=>?_) (fun h=>?_)<;>(try simp (disch:=omega) only [zB,eqDs,bM,Nat.reduceAdd,aA] at h)<;>(try (exfalso;omega)))
  | (refine Need.mk (by (try simp (disch:=omega) only [zB,eqDs,bM,Nat.reduceAdd,aA]);first | exact gO (by omega) (by omega) (fun _=>rfl) | exact gP (by omega) (by omega) (fun _=>rfl) | exact oK (by omega) (by omega) (by omega) rfl | exact oL (by omega) (fun _=>rfl) | exact dB (by omega) (fun _=>rfl) (fun _=>rfl) | exact dC (by omega) (fun _=>rfl) rfl rfl | exact gF (by omega) (fun _=>rfl) (fun _=>rfl)) ?_)
  | (refine Need.mk ?_ ?_)
  | refine rb ?_
  | refine ri ?_
  | refine bV ?_ ?_
  | refine cE ?_)
 rfl

theorem Ie (ps:List Pk)(hs:jI ps):FunOk PP W rI iL [bN ps] [bN ps]:=by
 refine GM (lA ?_)
 have hl:=hs.1
 unfold lim at hl
 refine AZ (fun i:Int=>0≤i∧i≤ps.length) (fun i=>[(4,i64 i),(0,bN ps),(3,bN (ps.take i.toNat))]) (fun i=>(ps.length - i).toNat) 0 ⟨by omega,by omega⟩ ⟨rfl,rfl,rfl,trivial⟩ ?_
 rintro i e ⟨h0,hN⟩
 have ht:(ps.take i.toNat).length≤i:=by rw [List.length_take];omega
 (repeat' first
  | (refine gX (fun h=>?_) (fun h=>?_)<;>(try simp (disch:=omega) only [zB,eqDs,bM,Nat.reduceAdd,aA] at h)<;>(try (exfalso;omega)))
  | (refine Need.mk (by (try simp (disch:=omega) only [zB,eqDs,bM,Nat.reduceAdd,aA]);first | exact gO (by omega) (by omega) (fun _=>rfl) | exact gP (by omega) (by omega) (fun _=>rfl) | exact oK (by omega) (by omega) (by omega) rfl | exact oL (by omega) (fun _=>rfl) | exact dB (by omega) (fun _=>rfl) (fun _=>rfl) | exact dC (by omega) (fun _=>rfl) rfl rfl | exact gF (by omega) (fun _=>rfl) (fun _=>rfl)) ?_)
  | (refine Bj (Ci (ix ps i) (nM hs (by omega) (by omega))) (by simp (disch:=omega) only [zB,eqDs,bM,Nat.reduceAdd,aA]) rfl ?_)
  | (refine Exists.intro (i+1) ⟨by omega,⟨by omega,by omega⟩,aX (aA _ (by omega)),rfl,?_,trivial⟩)
  | (refine Need.mk ?_ ?_)
  | refine rb ?_
  | refine ri ?_
  | refine bV ?_ ?_
  | refine cE ?_)
 ·refine jA ?_
  rw [gY ps h0 (by omega),List.map_append]
  rfl
 ·refine jA ?_
  rw [List.take_of_length_le (by omega)]

end
section
open Classical
variable {W:Wld}

theorem rS {α:Type}[Inhabited α]{xs:List α}{x:α}(h:x∈xs):∃ i:Int,0≤i∧i<xs.length∧ix xs i=x:=by
 obtain ⟨n,hn,rfl⟩:=List.mem_iff_getElem.1 h
 exact ⟨n,by omega,by omega,by simp [ix,hn]⟩
end
section
variable {W:Wld}

theorem Dm {Φ:Ask}{α:Type}{enc:α→List D}(l:List α)(hl:l.length≤lim)(sz:Nat)(hz:∀ x,(enc x).length=sz)(hs:∀ x,(enc x).all iT=true)(z:List D):
  pwp Φ (.ss [.mv 2 (.c (.sl []))]) (fun x e=>x= .normal∧∃ e1 xs,bJ Φ (.mv 3 (.t 0)) e e1∧e1 3=[.sl xs]∧∀ b,(b=true→xs=[])→
   pwp Φ (.cond (.t 4) (.seq (.ss [.mv 2 (.c (.sl []))]) (.ret [2])) .skip) (PX.then (pwp Φ (.seq (.ss [.lit 5 0 z [],.mv 6 (.t 0),.app 7 sz true (.t 5) (.t 6),.mv 2 (.t 7)]) (.ret [2])) (aR [[.sl (l.map enc)]])) (aR [[.sl (l.map enc)]])) (put e1 4 [.bool b])) (envL [[.sl (l.map enc)]]):=by
 refine ⟨_,⟨_,rfl,rfl⟩,rfl,_,l.map enc,rfl,rfl,fun b hb=>?_⟩
 cases b with
 | true=>
  refine .inl ⟨rfl,_,⟨_,rfl,rfl⟩,?_⟩
  show ([[D.sl []]]:List (List D))=[[.sl (l.map enc)]]
  rw [hb rfl]
 | false=>
  have happ:∀ e:Env,e 5=[.sl []]→e 6=[.sl (l.map enc)]→pstep (.app 7 sz true (.t 5) (.t 6)) e=some (put e 7 [.sl (l.map enc)]):=fun e h5 h6=>by
   have h5':(Opd.t 5).get e=[.sl []]:=h5
   have h6':(Opd.t 6).get e=[.sl (l.map enc)]:=h6
   simp only [pstep,h5',h6',List.nil_append]
   refine if_pos ⟨by simpa using hl,fun x hx=>?_,fun _ y hy=>?_⟩
   ·obtain ⟨w,_,rfl⟩:=List.mem_map.1 hx
    exact hz w
   ·obtain ⟨w,_,rfl⟩:=List.mem_map.1 hy
    exact hs w
  exact .inr ⟨rfl,_,⟨_,rfl,_,rfl,_,happ _ rfl rfl,_,rfl,rfl⟩,rfl⟩

end
section
open Classical
variable {W:Wld}

theorem xQ (p:Pk)(hs:SmP p):FunOk PP W sG jT [ePk p] [bo (decide (PkOk p))]:=by
 refine Kh (aU ?_)
 obtain ⟨hs1,hs2⟩:=hs
 unfold lim at hs1 hs2
 (repeat' first
  | (refine run_ite rfl (fun h=>?_) (fun h=>?_)<;>(try simp (disch:=omega) only [zB,eqDs,bM,Nat.reduceAdd,aA] at h)<;>(try (exfalso;omega)))
  | refine aI rfl ?_
  | refine aJ rfl ?_
  | refine aE rfl (xP ..) rfl ?_
  | refine aE rfl (CL ..) rfl ?_
  | refine aB rfl ?_ ?_
  | (refine aG rfl ?_;first | refine rb ?_ | refine ri ?_ | refine bV ?_ ?_ | refine cE ?_)
  | refine aD rfl ?_)
 ·exact fD (fun h=>by unfold PkOk at h;omega)
 ·exact fD (fun h=>by unfold PkOk at h;omega)
 ·exact fD (fun h=>by unfold PkOk vT at h;omega)
 ·exact fD (fun h=>by unfold PkOk Ew at h;omega)
 rename_i q1 q2 q3
 have q4:=h
 clear h
 refine aY rfl (fun i:Int=>0≤i∧i≤p.files.length∧vI i (kA p.files)) (fun i=>[(32,.val (i64 i)),(30,.val (Cf p.files)),(31,.val (i64 (p.files.map eP2).length)),(1,.val (ePk p))]) (fun i=>(p.files.length - i).toNat) 0 ⟨by omega,by omega,cV _⟩ ⟨rfl,rfl,rfl,rfl,trivial⟩ rfl ?_
 rintro i e ⟨h0,hN,hP⟩
 (repeat' first
  | (refine run_ite rfl (fun h=>?_) (fun h=>?_)<;>(try simp (disch:=omega) only [zB,eqDs,bM,Nat.reduceAdd,aA] at h)<;>(try (exfalso;omega)))
  | refine aI rfl ?_
  | refine aJ rfl ?_
  | refine aE rfl (Di ..) rfl ?_
  | (refine aS rfl (Exists.intro (i+1) ⟨by omega,⟨by omega,by omega,cW hP ?_⟩,aX (aA _ (by omega)),rfl,rfl,rfl,trivial⟩))
  | refine aB rfl ?_ ?_
  | (refine aG rfl ?_;first | refine rb ?_ | refine ri ?_ | refine bV ?_ ?_ | refine cE ?_)
  | refine aD rfl ?_)
 ·exact fD (fun ⟨_,_,⟨h,_⟩,_⟩=>by have:=h i (by omega) (by omega);unfold kA at this;omega)
 ·exact fD (fun ⟨_,_,⟨h,_⟩,_⟩=>by have:=h i (by omega) (by omega);unfold kA at this;omega)
 ·exact fD (fun ⟨_,_,⟨h,_⟩,_⟩=>by have:=h i (by omega) (by omega);unfold kA at this;omega)
 ·unfold kA;omega
 ·unfold kA;omega
 have hF:vT p.files:=⟨gT hP (by omega),by omega⟩
 clear hP h0 hN
 refine aY rfl (fun i:Int=>0≤i∧i≤p.deps.length∧vI i (mQ p.name p.deps)) (fun i=>[(67,.val (i64 i)),(65,.val (Cf p.deps)),(66,.val (i64 (p.deps.map eP2).length)),(1,.val (ePk p))]) (fun i=>(p.deps.length - i).toNat) 0 ⟨by omega,by omega,cV _⟩ ⟨rfl,rfl,rfl,rfl,trivial⟩ rfl ?_
 rintro i e ⟨h0,hN,hP⟩
 (repeat' first
  | (refine run_ite rfl (fun h=>?_) (fun h=>?_)<;>(try simp (disch:=omega) only [zB,eqDs,bM,Nat.reduceAdd,aA] at h)<;>(try (exfalso;omega)))
  | refine aI rfl ?_
  | refine aJ rfl ?_
  | refine aE rfl (xP ..) rfl ?_
  | refine aE rfl (CL ..) rfl ?_
  | (refine aS rfl (Exists.intro (i+1) ⟨by omega,⟨by omega,by omega,cW hP ?_⟩,aX (aA _ (by omega)),rfl,rfl,rfl,trivial⟩))
  | refine aB rfl ?_ ?_
  | (refine aG rfl ?_;first | refine rb ?_ | refine ri ?_ | refine bV ?_ ?_ | refine cE ?_)
  | refine aD rfl ?_)
 ·exact fD (fun ⟨_,_,_,h,_⟩=>by have:=h i (by omega) (by omega);unfold mQ at this;omega)
 ·exact fD (fun ⟨_,_,_,h,_⟩=>by have:=h i (by omega) (by omega);unfold mQ at this;omega)
 ·exact fD (fun ⟨_,_,_,h,_⟩=>by have:=h i (by omega) (by omega);unfold mQ at this;omega)
 ·exact fD (fun ⟨_,_,_,h,_⟩=>by have:=h i (by omega) (by omega);unfold mQ at this;omega)
 ·unfold mQ;omega
 ·unfold mQ;omega
 ·exact tD ⟨q1,q2,hF,gT hP (by omega),by omega⟩

end
section
open Classical
variable {W:Wld}

theorem NE {p q:P2}(h1:p.a=q.a)(h2:p.b=q.b):p=q:=by cases p;cases q;simp_all
theorem RV {p q:Pk}(h1:p.name=q.name)(h2:p.ver=q.ver)(h3:p.files=q.files)(h4:p.deps=q.deps):p=q:=by cases p;cases q;simp_all

theorem NF (p q:Pk)(hs:SmP p):FunOk PP W xH lY [ePk p,ePk q] [bo (decide (p=q))]:=by
 refine Kf (aU ?_)
 obtain ⟨hs1,hs2⟩:=hs
 unfold lim at hs1 hs2
 (repeat' first
  | (refine run_ite rfl (fun h=>?_) (fun h=>?_)<;>(try simp (disch:=omega) only [zB,eqDs,bM,Nat.reduceAdd,aA] at h)<;>(try (exfalso;omega)))
  | refine aI rfl ?_
  | refine aJ rfl ?_
  | refine aB rfl ?_ ?_
  | (refine aG rfl ?_;first | refine rb ?_ | refine ri ?_ | refine bV ?_ ?_ | refine cE ?_)
  | refine aD rfl ?_)
 ·exact fD (fun h'=>by simp_all)
 ·exact fD (fun h'=>by simp_all)
 ·exact fD (fun h'=>by simp_all)
 ·exact fD (fun h'=>by simp_all)
 rename_i q1 q2 q3
 have q4:=h
 clear h
 refine aY rfl (fun i:Int=>0≤i∧i≤p.files.length∧vI i (fun j=>ix p.files j=ix q.files j)) (fun i=>[(5,.val (i64 i)),(2,.val (ePk p)),(3,.val (ePk q))]) (fun i=>(p.files.length - i).toNat) 0 ⟨by omega,by omega,cV _⟩ ⟨rfl,rfl,rfl,trivial⟩ rfl ?_
 rintro i e ⟨h0,hN,hP⟩
 (repeat' first
  | (refine run_ite rfl (fun h=>?_) (fun h=>?_)<;>(try simp (disch:=omega) only [zB,eqDs,bM,Nat.reduceAdd,aA] at h)<;>(try (exfalso;omega)))
  | refine aI rfl ?_
  | refine aJ rfl ?_
  | (refine aS rfl (Exists.intro (i+1) ⟨by omega,⟨by omega,by omega,cW hP ?_⟩,aX (aA _ (by omega)),rfl,rfl,trivial⟩))
  | refine aB rfl ?_ ?_
  | (refine aG rfl ?_;first | refine rb ?_ | refine ri ?_ | refine bV ?_ ?_ | refine cE ?_)
  | refine aD rfl ?_)
 ·exact fD (fun h'=>by subst h';exact h rfl rfl)
 ·exact NE h.1 h.2
 have q5:p.files=q.files:=Ea (by omega) (gT hP (by omega))
 clear hP h0 hN h
 refine aY rfl (fun i:Int=>0≤i∧i≤p.deps.length∧vI i (fun j=>ix p.deps j=ix q.deps j)) (fun i=>[(6,.val (i64 i)),(2,.val (ePk p)),(3,.val (ePk q))]) (fun i=>(p.deps.length - i).toNat) 0 ⟨by omega,by omega,cV _⟩ ⟨rfl,rfl,rfl,trivial⟩ rfl ?_
 rintro i e ⟨h0,hN,hP⟩
 (repeat' first
  | (refine run_ite rfl (fun h=>?_) (fun h=>?_)<;>(try simp (disch:=omega) only [zB,eqDs,bM,Nat.reduceAdd,aA] at h)<;>(try (exfalso;omega)))
  | refine aI rfl ?_
  | refine aJ rfl ?_
  | (refine aS rfl (Exists.intro (i+1) ⟨by omega,⟨by omega,by omega,cW hP ?_⟩,aX (aA _ (by omega)),rfl,rfl,trivial⟩))
  | refine aB rfl ?_ ?_
  | (refine aG rfl ?_;first | refine rb ?_ | refine ri ?_ | refine bV ?_ ?_ | refine cE ?_)
  | refine aD rfl ?_)
 ·exact fD (fun h'=>by subst h';exact h rfl rfl)
 ·exact NE h.1 h.2
 ·exact tD (RV q1 q2 q5 (Ea (by omega) (gT hP (by omega))))

theorem xR (a b:List Pk)(ha:jI a):FunOk PP W mK fP [bN a,bN b] [bo (decide (a=b))]:=by
 refine II (aU ?_)
 have hl:=ha.1
 unfold lim at hl
 (repeat' first
  | (refine run_ite rfl (fun h=>?_) (fun h=>?_)<;>(try simp (disch:=omega) only [zB,eqDs,bM,Nat.reduceAdd,aA] at h)<;>(try (exfalso;omega)))
  | refine aI rfl ?_
  | refine aJ rfl ?_
  | refine aB rfl ?_ ?_
  | (refine aG rfl ?_;first | refine rb ?_ | refine ri ?_ | refine bV ?_ ?_ | refine cE ?_)
  | refine aD rfl ?_)
 ·exact fD (fun h'=>by simp_all)
 have hn:a.length=b.length:=by omega
 clear h
 refine aY rfl (fun i:Int=>0≤i∧i≤a.length∧vI i (fun j=>ix a j=ix b j)) (fun i=>[(5,.val (i64 i)),(0,.val (bN a)),(1,.val (bN b))]) (fun i=>(a.length - i).toNat) 0 ⟨by omega,by omega,cV _⟩ ⟨rfl,rfl,rfl,trivial⟩ rfl ?_
 rintro i e ⟨h0,hN,hP⟩
 (repeat' first
  | (refine run_ite rfl (fun h=>?_) (fun h=>?_)<;>(try simp (disch:=omega) only [zB,eqDs,bM,Nat.reduceAdd,aA] at h)<;>(try (exfalso;omega)))
  | refine aI rfl ?_
  | refine aJ rfl ?_
  | refine lB rfl (NF (ix a i) (ix b i) (nM ha (by omega) (by omega))) rfl ?_
  | (refine aS rfl (Exists.intro (i+1) ⟨by omega,⟨by omega,by omega,cW hP (by assumption)⟩,aX (aA _ (by omega)),rfl,rfl,trivial⟩))
  | refine aB rfl ?_ ?_
  | (refine aG rfl ?_;first | refine rb ?_ | refine ri ?_ | refine bV ?_ ?_ | refine cE ?_)
  | refine aD rfl ?_)
 ·exact fD (fun h'=>by subst h';exact absurd rfl (by assumption))
 ·exact tD (Ea hn (gT hP (by omega)))

end
section
open Classical
variable {W:Wld}

theorem NG (a:Int):FunOk PP W gZ cR [i64 a] [bo false]:=by
 refine AH (aU ?_)
 (repeat' first
  | (refine run_ite rfl (fun h=>?_) (fun h=>?_)<;>(try simp (disch:=omega) only [zB,eqDs,bM,Nat.reduceAdd,aA] at h)<;>(try (exfalso;omega)))
  | refine aI rfl ?_
  | refine aJ rfl ?_
  | refine aB rfl ?_ ?_
  | (refine aG rfl ?_;first | refine rb ?_ | refine ri ?_ | refine bV ?_ ?_ | refine cE ?_)
  | refine aD rfl ?_)
 simp

def oR (a b:Int):Int:=if a<b then -1 else if b<a then 1 else 0
theorem PQ (a b:Int):FunOk PP W eZ cC [i64 a,i64 b] [i64 (oR a b)]:=by
 refine vR (aU ?_)
 (repeat' first
  | (refine run_ite rfl (fun h=>?_) (fun h=>?_)<;>(try simp (disch:=omega) only [zB,eqDs,bM,Nat.reduceAdd,aA] at h)<;>(try (exfalso;omega)))
  | refine aI rfl ?_
  | refine aJ rfl ?_
  | refine aE rfl (NG ..) rfl ?_
  | refine aB rfl ?_ ?_
  | (refine aG rfl ?_;first | refine rb ?_ | refine ri ?_ | refine bV ?_ ?_ | refine cE ?_)
  | refine aD rfl ?_)
 all_goals unfold oR
 all_goals (repeat' split)<;>omega

theorem NH (a b:Int):FunOk PP W pU gL [Mo [a,b]] [i64 (if a=0 then b else a)]:=by
 refine Es (aU ?_)
 (repeat' first
  | (refine run_ite rfl (fun h=>?_) (fun h=>?_)<;>(try simp (disch:=omega) only [zB,eqDs,bM,Nat.reduceAdd,aA] at h)<;>(try (exfalso;omega)))
  | refine aI rfl ?_
  | refine aJ rfl ?_
  | refine aB rfl ?_ ?_
  | (refine aG rfl ?_;first | refine rb ?_ | refine ri ?_ | refine bV ?_ ?_ | refine cE ?_)
  | refine aD rfl ?_)
 refine aY rfl (fun i:Int=>0≤i∧i≤2∧(0<i→a=0)∧(1<i→b=0)) (fun i=>[(8,.val (i64 i)),(6,.val (Mo [a,b])),(7,.val (i64 2)),(3,.val (i64 0))]) (fun i=>(2 - i).toNat) 0 ⟨by omega,by omega,by omega,by omega⟩ ⟨rfl,rfl,rfl,rfl,trivial⟩ rfl ?_
 rintro i e ⟨h0,hN,hP1,hP2⟩
 (repeat' first
  | (refine run_ite rfl (fun h=>?_) (fun h=>?_)<;>(try simp (disch:=omega) only [zB,eqDs,bM,Nat.reduceAdd,aA] at h)<;>(try (exfalso;omega)))
  | refine aI rfl ?_
  | refine aJ rfl ?_
  | (refine aS rfl (Exists.intro (i+1) ⟨by omega,⟨by omega,by omega,?_,?_⟩,aX (aA _ (by omega)),rfl,rfl,rfl,trivial⟩))
  | refine aB rfl ?_ ?_
  | (refine aG rfl ?_;first | refine rb ?_ | refine ri ?_ | refine bV ?_ ?_ | refine cE ?_)
  | refine aD rfl ?_)
 ·rw [SM]
  have hi:i=0∨i=1:=by omega
  rcases hi with rfl | rfl<;>simp_all [ix]
 ·intro _
  have hi:i=0∨i=1:=by omega
  rcases hi with rfl | rfl<;>simp_all [ix]
 ·intro _
  have hi:i=1:=by omega
  subst hi
  simp_all [ix]
 ·rw [if_pos (hP1 (by omega)),hP2 (by omega)]

theorem uB (p q:Pk):FunOk PP W cG cH [ePk p,ePk q] [i64 (if oR p.name q.name=0 then oR p.ver q.ver else oR p.name q.name)]:=by
 refine AB (aU ?_)
 (repeat' first
  | (refine run_ite rfl (fun h=>?_) (fun h=>?_)<;>(try simp (disch:=omega) only [zB,eqDs,bM,Nat.reduceAdd,aA] at h)<;>(try (exfalso;omega)))
  | refine aI rfl ?_
  | refine aJ rfl ?_
  | refine aE rfl (PQ ..) rfl ?_
  | refine aE rfl (NH ..) rfl ?_
  | refine aB rfl ?_ ?_
  | (refine aG rfl ?_;first | refine rb ?_ | refine ri ?_ | refine bV ?_ ?_ | refine cE ?_)
  | refine aD rfl ?_)
 rfl
theorem vU (p q:Pk):¬0≤(if oR p.name q.name=0 then oR p.ver q.ver else oR p.name q.name)↔bH p q:=by
 unfold oR bH
 (repeat' split)<;>omega

theorem kV (ps:List Pk)(hs:jI ps):FunOk PP W nF fQ [bN ps] [bo (decide (jG ps))]:=by
 refine Ga (aU ?_)
 have hl:=hs.1
 unfold lim at hl
 refine aY rfl (fun i:Int=>0≤i∧i≤ps.length∧vI i (RU ps)) (fun i=>[(7,.val (i64 i)),(0,.val (bN ps)),(5,.val (bN ps)),(6,.val (i64 (ps.map ePk).length))]) (fun i=>(ps.length - i).toNat) 0 ⟨by omega,by omega,cV _⟩ ⟨rfl,rfl,rfl,rfl,trivial⟩ rfl ?_
 rintro i e ⟨h0,hN,hP⟩
 (repeat' first
  | (refine run_ite rfl (fun h=>?_) (fun h=>?_)<;>(try simp (disch:=omega) only [zB,eqDs,bM,Nat.reduceAdd,aA] at h)<;>(try (exfalso;omega)))
  | refine aI rfl ?_
  | refine aJ rfl ?_
  | refine lB rfl (xQ (ix ps i) (nM hs (by omega) (by omega))) rfl ?_
  | refine lB rfl (uB (ix ps (i - 1)) (ix ps i)) rfl ?_
  | (refine aS rfl (Exists.intro (i+1) ⟨by omega,⟨by omega,by omega,cW hP ?_⟩,aX (aA _ (by omega)),rfl,rfl,rfl,trivial⟩))
  | refine aB rfl ?_ ?_
  | (refine aG rfl ?_;first | refine rb ?_ | refine ri ?_ | refine bV ?_ ?_ | refine cE ?_)
  | refine aD rfl ?_)
 ·exact fD (fun h'=>absurd (h' i (by omega) (by omega)).1 (by assumption))
 ·exact fD (fun h'=>(vU _ _).2 ((h' i (by omega) (by omega)).2 (by assumption)) h)
 ·exact ⟨by assumption,fun _=>(vU _ _).1 h⟩
 ·exact ⟨by assumption,fun h'=>absurd h' (by assumption)⟩
 ·exact tD (gT hP (by omega))
end
section
open Classical
variable {W:Wld}

noncomputable def oS {α:Type}[Inhabited α](P:α→Prop)(xs:List α):Nat→Int→Int
 | 0,_=> -1
 | n+1,i=>if P (ix xs i) then i else oS P xs n (i+1)

theorem Gt {α:Type}[Inhabited α](P:α→Prop)(xs:List α):∀ (n:Nat) (i:Int),0≤i→(0≤oS P xs n i↔∃ j,i≤j∧j<i+n∧P (ix xs j))
 | 0,i,h0=>by
  unfold oS
  constructor
  ·intro h;omega
  ·rintro ⟨j,h1,h2,_⟩;omega
 | n+1,i,h0=>by
  unfold oS
  by_cases hp:P (ix xs i)
  ·rw [if_pos hp]
   exact ⟨fun _=>⟨i,by omega,by omega,hp⟩,fun _=>h0⟩
  ·rw [if_neg hp,Gt P xs n (i+1) (by omega)]
   constructor
   ·rintro ⟨j,h1,h2,h3⟩;exact ⟨j,by omega,by omega,h3⟩
   ·rintro ⟨j,h1,h2,h3⟩
    by_cases hj:j=i
    ·subst hj;exact absurd h3 hp
    ·exact ⟨j,by omega,by omega,h3⟩
theorem Gu {α:Type}[Inhabited α](P:α→Prop)(xs:List α):0≤oS P xs xs.length 0↔∃ x∈xs,P x:=by
 rw [Gt P xs xs.length 0 (by omega)]
 constructor
 ·rintro ⟨j,h1,h2,h3⟩;exact ⟨_,mJ h1 (by omega),h3⟩
 ·rintro ⟨x,hx,h⟩
  obtain ⟨j,h1,h2,rfl⟩:=rS hx
  exact ⟨j,h1,by omega,h⟩

end
section
open Classical
variable {W:Wld}

theorem dI {p:Prop}[Decidable p]{b:Bool}(h:b=true↔p):b=decide p:=by
 by_cases hp:p<;>simp_all
end
section
open Classical
variable {W:Wld}

abbrev eX (b:List Int)(p:Int):List D:=[.sl (b.map eU),.int .i64 p]
def Kv (b:List Int):Prop:=b.length≤2000∧∀ x∈b,0≤x∧x≤255
theorem RW {b:List Int}(h:Kv b)(i:Int):0≤ix b i∧ix b i≤255:=by
 by_cases hi:i.toNat<b.length
 ·refine h.2 _ ?_
  simp [ix,hi]
 ·rw [dJ hi]
  exact ⟨Int.le_refl _,by decide⟩
theorem If {b:List Int}(h:Kv b)(i:Int):0≤cI (b.map eU) i 0∧cI (b.map eU) i 0≤255:=by rw [SN];exact RW h i

theorem Jk {k l:Int}(hk:0≤k)(hl:1≤l):0≤k.tdiv l∧k.tdiv l≤k:=by
 rw [Int.tdiv_eq_ediv_of_nonneg hk]
 exact ⟨Int.ediv_nonneg hk (by omega),Int.ediv_le_self _ hk⟩
theorem RX {x y k l:Int}(hx:0≤x∧x≤255)(hy:0≤y∧y≤255)(hk:0≤k∧k<1000000000)(hl:1≤l):
  0≤IntKind.i64.wrap (IntKind.i64.wrap (IntKind.i64.wrap (IntKind.i64.wrap (IntKind.i64.wrap x*131)+IntKind.i64.wrap (IntKind.i64.wrap y*1117))+IntKind.i64.wrap (k*29))+IntKind.i64.wrap (IntKind.i64.wrap (k.tdiv l)*53))∧
  IntKind.i64.wrap (IntKind.i64.wrap (IntKind.i64.wrap (IntKind.i64.wrap (IntKind.i64.wrap x*131)+IntKind.i64.wrap (IntKind.i64.wrap y*1117))+IntKind.i64.wrap (k*29))+IntKind.i64.wrap (IntKind.i64.wrap (k.tdiv l)*53))<4611686018427387904:=by
 have hd:=Jk hk.1 hl
 simp (disch:=omega) only [aA]
 omega
theorem PR {x:Int}(h:0≤x∧x<4611686018427387904):0≤IntKind.i64.wrap (x.tdiv 64)∧IntKind.i64.wrap (x.tdiv 64)<4611686018427387904:=by
 have hd:=Jk (l:=64) h.1 (by decide)
 rw [aA _ (by omega)]
 omega
theorem RY {a b:Int}(ha:0≤a∧a<4611686018427387904)(hb:0≤b∧b<4611686018427387904):0≤IntKind.i64.wrap ↑(BitVec.ofInt IntKind.i64.bits a^^^BitVec.ofInt IntKind.i64.bits b).toNat:=by
 have hbits:IntKind.i64.bits=64:=rfl
 have key:∀ c d:Nat,c<2^62→d<2^62→c^^^d<2^62:=fun c d h1 h2=>Nat.xor_lt_two_pow h1 h2
 have e1:(BitVec.ofInt 64 a).toNat=a.toNat:=by rw [BitVec.toNat_ofInt];omega
 have e2:(BitVec.ofInt 64 b).toNat=b.toNat:=by rw [BitVec.toNat_ofInt];omega
 have h:=key a.toNat b.toNat (by omega) (by omega)
 show 0≤IntKind.i64.wrap ↑(BitVec.ofInt 64 a^^^BitVec.ofInt 64 b).toNat
 rw [BitVec.toNat_xor,e1,e2,aA _ (by omega)]
 omega

theorem eO (b:List Int)(hb:Kv b)(p n:Int)(hp:0≤p∧p<1000000000)(hn:0≤n∧n<1000000000):∃ outs,(∃ v:Int,outs=[i64 v,eX b (p+1)]∧0≤v∧(v<n∨v=0))∧FunOk PP W aH aF [eX b p,i64 n] outs:=by
 have hp1:IntKind.i64.wrap (p+1)=p+1:=aA _ (by omega)
 have hp2:IntKind.i64.wrap (IntKind.i64.wrap (p+1) - 1)=p:=by rw [hp1,aA _ (by omega)];omega
 have hr:∀ x:Int,([D.sl (b.map eU),D.int .i64 (IntKind.i64.wrap (p+1))]:List D)=eX b (p+1):=fun _=>by rw [hp1]
 obtain ⟨outs,h1,h2⟩:=dZ (Φ:=FunOk PP W) (p:=p_s_l6Rd_pick) (ins:=[eX b p,i64 n]) (G:=fun outs=>∃ v:Int,outs=[i64 v,eX b (p+1)]∧0≤v∧(v<n∨v=0)) (by
  have hb1:=hb.1
  (repeat' first
  | (refine run_ite rfl (fun h=>?_) (fun h=>?_)<;>(try simp (disch:=omega) only [zB,eqDs,bM,Nat.reduceAdd,aA] at h)<;>(try (exfalso;omega)))
  | refine aI rfl ?_
  | refine aJ rfl ?_
  | (refine aB rfl (by simp (disch:=omega) only [zB,eqDs,bM,Nat.reduceAdd,aA];exact gO (Int.tmod_nonneg _ (by omega)) (Int.tmod_lt_of_pos _ (by omega)) (fun _=>rfl)) ?_)
  | (refine aB rfl (by simp (disch:=omega) only [zB,eqDs,bM,Nat.reduceAdd,aA];exact gP (Int.tmod_nonneg _ (by omega)) (Int.tmod_lt_of_pos _ (by omega)) (fun _=>rfl)) ?_)
  | refine aB rfl ?_ ?_
  | (refine aG rfl ?_;first | refine rb ?_ | refine ri ?_ | refine bV ?_ ?_ | refine cE ?_)
  | refine aD rfl ?_)
  ·exact ⟨0,bV rfl (hr 0),Int.le_refl _,.inr rfl⟩
  ·exact ⟨0,bV rfl (hr 0),Int.le_refl _,.inr rfl⟩
  ·refine ⟨_,bV rfl (hr 0),?_⟩
   have h3:=If hb (IntKind.i64.wrap (IntKind.i64.wrap (p+1) - 1))
   rw [aA _ (by omega)]
   exact ⟨Int.tmod_nonneg _ h3.1,.inl (Int.tmod_lt_of_pos _ (by omega))⟩
  ·refine ⟨_,bV rfl (hr 0),?_⟩
   refine ⟨Int.tmod_nonneg _ ?_,.inl (Int.tmod_lt_of_pos _ (by omega))⟩
   have h3:=RX (l:=((b.map eU).length:Int)) (If hb ((IntKind.i64.wrap (IntKind.i64.wrap (p+1) - 1)).tmod ((b.map eU).length:Int))) (If hb ((IntKind.i64.wrap (IntKind.i64.wrap (IntKind.i64.wrap (IntKind.i64.wrap (p+1) - 1)*7)+3)).tmod ((b.map eU).length:Int))) (k:=IntKind.i64.wrap (IntKind.i64.wrap (p+1) - 1)) (by rw [hp2];exact hp) (by rw [List.length_map];omega)
   exact RY h3 (PR h3))
 exact ⟨outs,h1,Ch h2⟩
end
section
open Classical
variable {W:Wld}

theorem PT (b:List Int)(hb:b.length≤1048576):FunOk PP W tQ jP [Sz b] [eX (b.take 2000) 0]:=by
 refine Hy (aU ?_)
 (repeat' first
  | (refine run_ite rfl (fun h=>?_) (fun h=>?_)<;>(try simp (disch:=omega) only [zB,eqDs,bM,Nat.reduceAdd,aA] at h)<;>(try (exfalso;omega)))
  | refine aI rfl ?_
  | refine aJ rfl ?_
  | refine aB rfl ?_ ?_
  | (refine aG rfl ?_;first | refine rb ?_ | refine ri ?_ | refine bV ?_ ?_ | refine cE ?_)
  | refine aD rfl ?_)
 ·show [D.sl (((b.map eU).take 2000).drop 0),D.int .i64 0]=_
  rw [List.drop_zero,←List.map_take]
 ·rw [List.take_of_length_le (by omega)]

def PU (q:Pk):Prop:=(1≤q.name∧q.name≤4)∧q.files.length≤3∧q.deps.length≤3∧∀ d∈q.deps,1≤d.a∧d.a≤4
theorem NI (b:List Int)(hb:Kv b)(p name ver:Int)(hp:0≤p∧p<900000000)(hn:1≤name∧name≤4):∃ outs,(∃ q p',outs=[ePk q,eX b p']∧PU q∧p≤p'∧p'≤p+30)∧FunOk PP W pP hU [eX b p,i64 name,i64 ver] outs:=by
 obtain ⟨outs,h1,h2⟩:=dZ (Φ:=FunOk PP W) (p:=p_s_l71Pkg) (ins:=[eX b p,i64 name,i64 ver]) (G:=fun outs=>∃ q p',outs=[ePk q,eX b p']∧PU q∧p≤p'∧p'≤p+30) (by
  (repeat' first
  | (refine run_ite rfl (fun h=>?_) (fun h=>?_)<;>(try simp (disch:=omega) only [zB,eqDs,bM,Nat.reduceAdd,aA] at h)<;>(try (exfalso;omega)))
  | refine aI rfl ?_
  | refine aJ rfl ?_
  | (refine aW rfl (eO b hb _ _ (by first | omega | (simp only [List.length_map];omega)) (by first | omega | (simp only [List.length_map];omega) | (simp;done))) rfl (fun outs hG=>?_);obtain ⟨v,rfl,hv0,hv1⟩:=hG;(try simp only [List.length_map] at hv1);refine ⟨[i64 v],[eX b _],rfl,rfl,rfl,?_⟩)
  | refine aB rfl ?_ ?_
  | (refine aG rfl ?_;first | refine rb ?_ | refine ri ?_ | refine bV ?_ ?_ | refine cE ?_)
  | refine aD rfl ?_)
  rename_i a0 ha0 ha1
  refine aY rfl (fun x:Int×Int×Int×List P2=>(0≤x.1∧x.1≤2)∧(0≤x.2.1∧x.2.1≤30 - 8*x.1)∧(p+2≤x.2.2.1∧x.2.2.1≤p+6 - 2*x.1)∧(x.2.2.2.length:Int)≤2 - x.1) (fun x=>[(9,.val (i64 x.1)),(8,.val (i64 x.2.1)),(0,.val (eX b x.2.2.1)),(7,.val (ePk ⟨name,ver,x.2.2.2,[]⟩)),(6,.val (ePk default)),(1,.val (i64 name))]) (fun x=>x.1.toNat) (v,a0,p+1+1,[]) ⟨by dsimp only;omega,by dsimp only;omega,by dsimp only;omega,by simp;omega⟩ ⟨rfl,rfl,rfl,rfl,rfl,rfl,trivial⟩ rfl ?_
  rintro ⟨n,a,q,fs⟩ e ⟨h0,h1,h2,h3⟩
  dsimp only at h0 h1 h2 h3 ⊢
  (repeat' first
  | (refine run_ite rfl (fun h=>?_) (fun h=>?_)<;>(try simp (disch:=omega) only [zB,eqDs,bM,Nat.reduceAdd,aA] at h)<;>(try (exfalso;omega)))
  | refine aI rfl ?_
  | refine aJ rfl ?_
  | (refine aW rfl (eO b hb _ _ (by first | omega | (simp only [List.length_map];omega)) (by first | omega | (simp only [List.length_map];omega) | (simp;done))) rfl (fun outs hG=>?_);obtain ⟨v,rfl,hv0,hv1⟩:=hG;(try simp only [List.length_map] at hv1);refine ⟨[i64 v],[eX b _],rfl,rfl,rfl,?_⟩)
  | refine aB rfl ?_ ?_
  | (refine aG rfl ?_;first | refine rb ?_ | refine ri ?_ | refine bV ?_ ?_ | refine cE ?_)
  | refine aD rfl ?_)
  ·rename_i w0 hw0 hw1
   exact aS rfl (Exists.intro (n - 1,a+1+v,q+1+1,fs++[⟨a,w0⟩]) ⟨by dsimp only;omega,⟨by dsimp only;omega,by dsimp only;omega,by dsimp only;omega,by simp;omega⟩,aX (aA _ (by omega)),aX (by simp (disch:=omega) only [aA]),rfl,by dsimp only [ePk];rw [List.map_append];rfl,rfl,rfl,trivial⟩)
  all_goals (
   refine aY rfl (fun x:Int×Int×List P2=>(1≤x.1∧x.1≤5)∧(p≤x.2.1∧x.2.1≤p+6+2*x.1)∧x.2.2.length≤2∧∀ d∈x.2.2,1≤d.a∧d.a≤4) (fun x=>[(10,.val (i64 x.1)),(0,.val (eX b x.2.1)),(7,.val (ePk ⟨name,ver,fs,x.2.2⟩)),(6,.val (ePk default)),(1,.val (i64 name))]) (fun x=>(6 - x.1).toNat) (1,q,[]) ⟨by dsimp only;omega,by dsimp only;omega,by simp,by simp⟩ ⟨rfl,rfl,rfl,rfl,rfl,trivial⟩ rfl ?_
   rintro ⟨d,r,ds⟩ e ⟨g0,g1,g2,g3⟩
   dsimp only at g0 g1 g2 g3 ⊢
   (repeat' first
  | (refine run_ite rfl (fun h=>?_) (fun h=>?_)<;>(try simp (disch:=omega) only [zB,eqDs,bM,Nat.reduceAdd,aA] at h)<;>(try (exfalso;omega)))
  | refine aI rfl ?_
  | refine aJ rfl ?_
  | (refine aW rfl (eO b hb _ _ (by first | omega | (simp only [List.length_map];omega)) (by first | omega | (simp only [List.length_map];omega) | (simp;done))) rfl (fun outs hG=>?_);obtain ⟨v,rfl,hv0,hv1⟩:=hG;(try simp only [List.length_map] at hv1);refine ⟨[i64 v],[eX b _],rfl,rfl,rfl,?_⟩)
  | (refine aS rfl (Exists.intro (d+1,r,ds) ⟨by dsimp only;omega,⟨by dsimp only;omega,by dsimp only;omega,g2,g3⟩,aX (aA _ (by omega)),rfl,rfl,rfl,rfl,trivial⟩))
  | (refine aS rfl (Exists.intro (d+1,r+1,ds) ⟨by dsimp only;omega,⟨by dsimp only;omega,by dsimp only;omega,g2,g3⟩,aX (aA _ (by omega)),rfl,rfl,rfl,rfl,trivial⟩))
  | (refine aS rfl (Exists.intro (d+1,r+1+1,ds++[⟨d,1+v⟩]) ⟨by dsimp only;omega,⟨by dsimp only;omega,by dsimp only;omega,by simp;omega,?_⟩,aX (aA _ (by omega)),rfl,?_,rfl,rfl,trivial⟩))
  | refine aB rfl ?_ ?_
  | (refine aG rfl ?_;first | refine rb ?_ | refine ri ?_ | refine bV ?_ ?_ | refine cE ?_)
  | refine aD rfl ?_)
   all_goals first
    | exact ⟨⟨name,ver,fs,ds⟩,r,rfl,⟨hn,by dsimp only;omega,by dsimp only;omega,g3⟩,by omega,by omega⟩
    | (intro x hx;rcases List.mem_append.1 hx with h' | h';exact g3 x h';rw [List.mem_singleton.1 h'];dsimp only;omega)
    | (refine Eq.trans (b:=[.int .i64 name,.int .i64 ver,.sl (fs.map eP2),.sl (ds.map eP2++[[.int .i64 d,.int .i64 (IntKind.i64.wrap (1+v))]])]) rfl ?_;rw [aA _ (by omega)];dsimp only [ePk];rw [List.map_append];rfl)))
 exact ⟨outs,h1,IA h2⟩

theorem PV (ps:List Pk)(hl:ps.length≤lim)(n v:Int):∃ outs,(∃ k:Int,outs=[i64 k])∧FunOk PP W kQ eF [bN ps,i64 n,i64 v] outs:=by
 obtain ⟨outs,h1,h2⟩:=dZ (Φ:=FunOk PP W) (p:=p_s_l12Find) (ins:=[bN ps,i64 n,i64 v]) (G:=fun outs=>∃ k:Int,outs=[i64 k]) (by
  unfold lim at hl
  refine aY rfl (fun i:Int=>0≤i∧i≤ps.length) (fun i=>[(7,.val (i64 i)),(0,.val (bN ps)),(1,.val (i64 n)),(2,.val (i64 v))]) (fun i=>(ps.length - i).toNat) 0 ⟨by omega,by omega⟩ ⟨rfl,rfl,rfl,rfl,trivial⟩ rfl ?_
  rintro i e ⟨h0,hN⟩
  (repeat' first
  | (refine run_ite rfl (fun h=>?_) (fun h=>?_)<;>(try simp (disch:=omega) only [zB,eqDs,bM,Nat.reduceAdd,aA] at h)<;>(try (exfalso;omega)))
  | refine aI rfl ?_
  | refine aJ rfl ?_
  | (refine aS rfl (Exists.intro (i+1) ⟨by omega,⟨by omega,by omega⟩,aX (aA _ (by omega)),rfl,rfl,rfl,trivial⟩))
  | refine aB rfl ?_ ?_
  | (refine aG rfl ?_;first | refine rb ?_ | refine ri ?_ | refine bV ?_ ?_ | refine cE ?_)
  | refine aD rfl ?_)
  all_goals exact ⟨_,rfl⟩)
 exact ⟨outs,h1,zH h2⟩

noncomputable def eQ (ps:List Pk)(p:Pk):List Pk:=ps.filter (fun q=>decide (bH q p))++[p]++ps.filter (fun q=>decide (bH p q))
theorem zP {α:Type}[Inhabited α](f:α→Bool)(ps:List α){i:Int}(h0:0≤i)(h1:i<ps.length):(ps.take (i+1).toNat).filter f=(ps.take i.toNat).filter f++if f (ix ps i)=true then [ix ps i] else []:=by
 rw [gY ps h0 h1,List.filter_append]
 congr 1
 by_cases h:f (ix ps i)=true<;>simp [h]
theorem CM (ps:List Pk)(hs:jI ps)(h1:ps.length≤2000000)(p:Pk)(hp:SmP p):FunOk PP W nG fO [bN ps,ePk p] [bN (eQ ps p)]:=by
 refine GU (aU ?_)
 (repeat' first
  | (refine run_ite rfl (fun h=>?_) (fun h=>?_)<;>(try simp (disch:=omega) only [zB,eqDs,bM,Nat.reduceAdd,aA] at h)<;>(try (exfalso;omega)))
  | refine aI rfl ?_
  | refine aJ rfl ?_
  | refine aB rfl ?_ ?_
  | (refine aG rfl ?_;first | refine rb ?_ | refine ri ?_ | refine bV ?_ ?_ | refine cE ?_)
  | refine aD rfl ?_)
 refine aY rfl (fun i:Int=>0≤i∧i≤ps.length) (fun i=>[(6,.val (i64 i)),(0,.val (bN ps)),(5,.val (bN ((ps.take i.toNat).filter (fun q=>decide (bH q p))))),(3,.val (ePk p))]) (fun i=>(ps.length - i).toNat) 0 ⟨by omega,by omega⟩ ⟨rfl,rfl,rfl,rfl,trivial⟩ rfl ?_
 rintro i e ⟨h0,hN⟩
 have hft:=zP (fun q=>decide (bH q p)) ps (i:=i) h0
 have hfl:((ps.take i.toNat).filter (fun q=>decide (bH q p))).length≤ps.length:=Nat.le_trans (List.length_filter_le _ _) (by rw [List.length_take];omega)
 have hfin:¬i<ps.length→(ps.take i.toNat).filter (fun q=>decide (bH q p))=ps.filter (fun q=>decide (bH q p)):=fun h=>by rw [List.take_of_length_le (by omega)]
 generalize (ps.take i.toNat).filter (fun q=>decide (bH q p))=A at hft hfl hfin
 (repeat' first
  | (refine run_ite rfl (fun h=>?_) (fun h=>?_)<;>(try simp (disch:=omega) only [zB,eqDs,bM,Nat.reduceAdd,aA] at h)<;>(try (exfalso;omega)))
  | refine aI rfl ?_
  | refine aJ rfl ?_
  | refine lB rfl (sJ (ix ps i).name (ix ps i).ver p.name p.ver) rfl ?_
  | (refine aS rfl (Exists.intro (i+1) ⟨by omega,⟨by omega,by omega⟩,aX (aA _ (by omega)),rfl,?_,rfl,trivial⟩))
  | refine aB rfl ?_ ?_
  | (refine aG rfl ?_;first | refine rb ?_ | refine ri ?_ | refine bV ?_ ?_ | refine cE ?_)
  | refine aD rfl ?_)
 ·rw [hft (by assumption),if_pos (decide_eq_true (show bH (ix ps i) p from h))]
  refine jA ?_
  simp only [zB,eqDs,bM,Nat.reduceAdd,List.map_append]
  rfl
 ·rw [hft (by assumption),if_neg (by rw [decide_eq_true_eq];exact h),List.append_nil]
  rfl
 have hA:=hfin h
 clear hft hfin h h0 hN
 unfold eQ
 rw [←hA]
 clear hA
 refine aY rfl (fun i:Int=>0≤i∧i≤ps.length) (fun i=>[(7,.val (i64 i)),(0,.val (bN ps)),(5,.val (bN (A++[p]++(ps.take i.toNat).filter (fun q=>decide (bH p q))))),(3,.val (ePk p))]) (fun i=>(ps.length - i).toNat) 0 ⟨by omega,by omega⟩ ⟨rfl,rfl,?_,rfl,trivial⟩ rfl ?_
 ·refine jA ?_
  rw [show (ps.take (0:Int).toNat).filter (fun q=>decide (bH p q))=[] from rfl,List.append_nil,List.map_append]
  rfl
 rintro i e ⟨h0,hN⟩
 have hft:=zP (fun q=>decide (bH p q)) ps (i:=i) h0
 have hfl2:((ps.take i.toNat).filter (fun q=>decide (bH p q))).length≤ps.length:=Nat.le_trans (List.length_filter_le _ _) (by rw [List.length_take];omega)
 have hfin:¬i<ps.length→(ps.take i.toNat).filter (fun q=>decide (bH p q))=ps.filter (fun q=>decide (bH p q)):=fun h=>by rw [List.take_of_length_le (by omega)]
 generalize (ps.take i.toNat).filter (fun q=>decide (bH p q))=B at hft hfl2 hfin
 have hBl:(A++[p]++B).length≤4000001:=by simp;omega
 have hft2:i<ps.length→A++[p]++(ps.take (i+1).toNat).filter (fun q=>decide (bH p q))=(A++[p]++B)++if decide (bH p (ix ps i))=true then [ix ps i] else []:=fun h=>by rw [hft h];simp only [List.append_assoc]
 have hfin2:¬i<ps.length→A++[p]++B=A++[p]++ps.filter (fun q=>decide (bH p q)):=fun h=>by rw [hfin h]
 generalize A++[p]++B=E at hBl hft2 hfin2
 (repeat' first
  | (refine run_ite rfl (fun h=>?_) (fun h=>?_)<;>(try simp (disch:=omega) only [zB,eqDs,bM,Nat.reduceAdd,aA] at h)<;>(try (exfalso;omega)))
  | refine aI rfl ?_
  | refine aJ rfl ?_
  | refine lB rfl (sJ p.name p.ver (ix ps i).name (ix ps i).ver) rfl ?_
  | (refine aS rfl (Exists.intro (i+1) ⟨by omega,⟨by omega,by omega⟩,aX (aA _ (by omega)),rfl,?_,rfl,trivial⟩))
  | refine aB rfl ?_ ?_
  | (refine aG rfl ?_;first | refine rb ?_ | refine ri ?_ | refine bV ?_ ?_ | refine cE ?_)
  | refine aD rfl ?_)
 ·rw [hft2 (by assumption),if_pos (decide_eq_true (show bH p (ix ps i) from h))]
  refine jA ?_
  simp only [zB,eqDs,bM,Nat.reduceAdd,List.map_append]
  rfl
 ·rw [hft2 (by assumption),if_neg (by rw [decide_eq_true_eq];exact h),List.append_nil]
  rfl
 ·rw [hfin2 h]

theorem zQ {α:Type}(f g:α→Bool)(h:∀ x,f x=true→g x=true→False):∀ l:List α,(l.filter f).length+(l.filter g).length≤l.length
 | []=>by simp
 | x::l=>by
  have:=zQ f g h l
  have hx:=h x
  simp only [List.filter_cons,List.length_cons]
  split<;>split<;>simp_all<;>omega
theorem NJ {p q:Pk}(h1:bH p q)(h2:bH q p):False:=by unfold bH at h1 h2;omega
theorem Dn (ps:List Pk)(p:Pk):(eQ ps p).length≤ps.length+1:=by
 have:=zQ (fun q=>decide (bH q p)) (fun q=>decide (bH p q)) (fun x h1 h2=>NJ (of_decide_eq_true h1) (of_decide_eq_true h2)) ps
 unfold eQ
 simp only [List.length_append,List.length_singleton]
 omega
theorem Do {ps:List Pk}{p q:Pk}(h:q∈eQ ps p):q∈ps∨q=p:=by
 unfold eQ at h
 simp only [List.mem_append,List.mem_filter,List.mem_singleton] at h
 rcases h with (⟨h,_⟩ | h) | ⟨h,_⟩
 ·exact .inl h
 ·exact .inr h
 ·exact .inl h
def Dp (ps:List Pk):Prop:=∀ q∈ps,PU q
theorem Ac {q:Pk}(h:PU q):SmP q:=by
 obtain ⟨_,h1,h2,_⟩:=h
 unfold SmP lim
 omega
theorem oT {ps:List Pk}(h:Dp ps)(hl:ps.length≤1000):jI ps:=⟨by unfold lim;omega,fun q hq=>Ac (h q hq)⟩

end
section
open Classical
variable {W:Wld}

theorem Ex (b:List Int)(hb:Kv b)(p:Int)(hp:0≤p∧p<800000000):∃ outs,(∃ ps p',outs=[bN ps,eX b p']∧Dp ps∧ps.length≤7∧p≤p'∧p'≤p+300)∧FunOk PP W kS eE [eX b p] outs:=by
 obtain ⟨outs,h1,h2⟩:=dZ (Φ:=FunOk PP W) (p:=p_s_l71Pkgs) (ins:=[eX b p]) (G:=fun outs=>∃ ps p',outs=[bN ps,eX b p']∧Dp ps∧ps.length≤7∧p≤p'∧p'≤p+300) (by
  (repeat' first
  | (refine run_ite rfl (fun h=>?_) (fun h=>?_)<;>(try simp (disch:=omega) only [zB,eqDs,bM,Nat.reduceAdd,aA] at h)<;>(try (exfalso;omega)))
  | refine aI rfl ?_
  | refine aJ rfl ?_
  | (refine aW rfl (eO b hb _ _ (by first | omega | (simp only [List.length_map];omega)) (by first | omega | (simp only [List.length_map];omega) | (simp;done))) rfl (fun outs hG=>?_);obtain ⟨v,rfl,hv0,hv1⟩:=hG;(try simp only [List.length_map] at hv1);refine ⟨[i64 v],[eX b _],rfl,rfl,rfl,?_⟩)
  | refine aB rfl ?_ ?_
  | (refine aG rfl ?_;first | refine rb ?_ | refine ri ?_ | refine bV ?_ ?_ | refine cE ?_)
  | refine aD rfl ?_)
  refine aY rfl (fun x:Int×Int×List Pk=>(0≤x.1∧x.1≤7)∧(p≤x.2.1∧x.2.1≤p+300 - 35*x.1)∧(x.2.2.length:Int)≤7 - x.1∧Dp x.2.2) (fun x=>[(4,.val (i64 x.1)),(0,.val (eX b x.2.1)),(3,.val (bN x.2.2))]) (fun x=>x.1.toNat) (v,p+1,[]) ⟨by dsimp only;omega,by dsimp only;omega,by simp;omega,by intro q hq;cases hq⟩ ⟨rfl,rfl,rfl,trivial⟩ rfl ?_
  rintro ⟨n,r,ps⟩ e ⟨g0,g1,g2,g3⟩
  dsimp only at g0 g1 g2 g3 ⊢
  (repeat' first
  | (refine run_ite rfl (fun h=>?_) (fun h=>?_)<;>(try simp (disch:=omega) only [zB,eqDs,bM,Nat.reduceAdd,aA] at h)<;>(try (exfalso;omega)))
  | refine aI rfl ?_
  | refine aJ rfl ?_
  | (refine aW rfl (eO b hb _ _ (by first | omega | (simp only [List.length_map];omega)) (by first | omega | (simp only [List.length_map];omega) | (simp;done))) rfl (fun outs hG=>?_);obtain ⟨v,rfl,hv0,hv1⟩:=hG;(try simp only [List.length_map] at hv1);refine ⟨[i64 v],[eX b _],rfl,rfl,rfl,?_⟩)
  | refine aB rfl ?_ ?_
  | (refine aG rfl ?_;first | refine rb ?_ | refine ri ?_ | refine bV ?_ ?_ | refine cE ?_)
  | refine aD rfl ?_)
  ·rename_i w hw0 hw1
   refine aW rfl (NI b hb (r+1+1) (1+w) (1+v) (by omega) (by omega)) (by simp (disch:=omega) only [aA]) (fun outs hG=>?_)
   obtain ⟨q,p',rfl,hq1,hq2,hq3⟩:=hG
   refine ⟨[ePk q],[eX b p'],rfl,rfl,rfl,?_⟩
   have hps:jI ps:=oT g3 (by omega)
   (repeat' first
  | (refine run_ite rfl (fun h=>?_) (fun h=>?_)<;>(try simp (disch:=omega) only [zB,eqDs,bM,Nat.reduceAdd,aA] at h)<;>(try (exfalso;omega)))
  | refine aI rfl ?_
  | refine aJ rfl ?_
  | (refine aW rfl (PV ps hps.1 _ _) rfl (fun outs hG=>?_);obtain ⟨k,rfl⟩:=hG;refine ⟨[i64 k],[],rfl,rfl,rfl,?_⟩)
  | refine aE rfl (CM ps hps (by omega) q (Ac hq1)) rfl ?_
  | (refine aS rfl (Exists.intro (n - 1,p',eQ ps q) ⟨by dsimp only;omega,⟨by dsimp only;omega,by dsimp only;omega,?_,?_⟩,aX (aA _ (by omega)),rfl,rfl,trivial⟩))
  | (refine aS rfl (Exists.intro (n - 1,p',ps) ⟨by dsimp only;omega,⟨by dsimp only;omega,by dsimp only;omega,by dsimp only;omega,g3⟩,aX (aA _ (by omega)),rfl,rfl,trivial⟩))
  | refine aB rfl ?_ ?_
  | (refine aG rfl ?_;first | refine rb ?_ | refine ri ?_ | refine bV ?_ ?_ | refine cE ?_)
  | refine aD rfl ?_)
   ·have:=Dn ps q
    dsimp only
    omega
   ·intro x hx
    rcases Do hx with h' | h'
    ·exact g3 x h'
    ·rw [h'];exact hq1
  ·exact ⟨ps,r,rfl,g3,by omega,by omega,by omega⟩)
 exact ⟨outs,h1,GS h2⟩

theorem NK (b:List Int)(hb:Kv b)(p:Int)(hp:0≤p∧p<800000000):∃ outs,(∃ q p',outs=[ePk q,eX b p']∧SmP q∧p≤p'∧p'≤p+50)∧FunOk PP W mL fM [eX b p] outs:=by
 obtain ⟨outs,h1,h2⟩:=dZ (Φ:=FunOk PP W) (p:=p_s_l71Any) (ins:=[eX b p]) (G:=fun outs=>∃ q p',outs=[ePk q,eX b p']∧SmP q∧p≤p'∧p'≤p+50) (by
  (repeat' first
  | (refine run_ite rfl (fun h=>?_) (fun h=>?_)<;>(try simp (disch:=omega) only [zB,eqDs,bM,Nat.reduceAdd,aA] at h)<;>(try (exfalso;omega)))
  | refine aI rfl ?_
  | refine aJ rfl ?_
  | (refine aW rfl (eO b hb _ _ (by first | omega | (simp only [List.length_map];omega)) (by first | omega | (simp only [List.length_map];omega) | (simp;done))) rfl (fun outs hG=>?_);obtain ⟨v,rfl,hv0,hv1⟩:=hG;(try simp only [List.length_map] at hv1);refine ⟨[i64 v],[eX b _],rfl,rfl,rfl,?_⟩)
  | refine aB rfl ?_ ?_
  | (refine aG rfl ?_;first | refine rb ?_ | refine ri ?_ | refine bV ?_ ?_ | refine cE ?_)
  | refine aD rfl ?_)
  rename_i w hw0 hw1
  refine aW rfl (NI b hb (p+1+1) (1+w) (1+v) (by omega) (by omega)) (by simp (disch:=omega) only [aA]) (fun outs hG=>?_)
  obtain ⟨q,p',rfl,hq1,hq2,hq3⟩:=hG
  refine ⟨[ePk q],[eX b p'],rfl,rfl,rfl,?_⟩
  obtain ⟨_,hf,hd,_⟩:=hq1
  (repeat' first
  | (refine run_ite rfl (fun h=>?_) (fun h=>?_)<;>(try simp (disch:=omega) only [zB,eqDs,bM,Nat.reduceAdd,aA] at h)<;>(try (exfalso;omega)))
  | refine aI rfl ?_
  | refine aJ rfl ?_
  | (refine aW rfl (eO b hb _ _ (by first | omega | (simp only [List.length_map];omega)) (by first | omega | (simp only [List.length_map];omega) | (simp;done))) rfl (fun outs hG=>?_);obtain ⟨v,rfl,hv0,hv1⟩:=hG;(try simp only [List.length_map] at hv1);refine ⟨[i64 v],[eX b _],rfl,rfl,rfl,?_⟩)
  | (refine aB rfl (gO (enc:=i64) (xs:=[0,5]) (by omega) (by simp;omega) (fun _=>rfl)) ?_)
  | (refine aB rfl (gP (enc:=i64) (xs:=[0,5]) (by omega) (by simp;omega) (fun _=>rfl)) ?_)
  | (refine aB rfl (gO (enc:=i64) (xs:=[0,6]) (by omega) (by simp;omega) (fun _=>rfl)) ?_)
  | (refine aB rfl (gP (enc:=i64) (xs:=[0,6]) (by omega) (by simp;omega) (fun _=>rfl)) ?_)
  | refine aB rfl ?_ ?_
  | (refine aG rfl ?_;first | refine rb ?_ | refine ri ?_ | refine bV ?_ ?_ | refine cE ?_)
  | refine aD rfl ?_)
  ·exact ⟨⟨cI [[D.int .i64 0],[D.int .i64 5]] v 0,q.ver,q.files,q.deps⟩,p'+1+1,rfl,⟨by dsimp only;unfold lim;omega,by dsimp only;unfold lim;omega⟩,by omega,by omega⟩
  ·exact ⟨⟨q.name,cI [[D.int .i64 0],[D.int .i64 6]] v 0,q.files,q.deps⟩,p'+1+1,rfl,⟨by dsimp only;unfold lim;omega,by dsimp only;unfold lim;omega⟩,by omega,by omega⟩
  ·rename_i x hx0 hx1
   exact ⟨⟨q.name,q.ver,q.files++[⟨x,v⟩],q.deps⟩,p'+1+1+1,bV (by dsimp only [ePk];rw [List.map_append];rfl) rfl,⟨by simp [lim];omega,by dsimp only;unfold lim;omega⟩,by omega,by omega⟩
  ·rename_i x hx0 hx1
   exact ⟨⟨q.name,q.ver,q.files,q.deps++[⟨x,v⟩]⟩,p'+1+1+1,bV (by dsimp only [ePk];rw [List.map_append];rfl) rfl,⟨by dsimp only;unfold lim;omega,by simp [lim];omega⟩,by omega,by omega⟩
  ·exact ⟨q,p'+1,rfl,⟨by unfold lim;omega,by unfold lim;omega⟩,by omega,by omega⟩)
 exact ⟨outs,h1,IC h2⟩

theorem SW {α:Type}{enc:α→List D}{xs ys:List α}{i:Int}{z:α}{sz:Nat}(h0:0≤i)(h1:i<xs.length)(h2:i<ys.length)(hz:∀ x,(enc x).length=sz):Fv (xs.map enc) (ys.map enc) i 0 (enc z):=by
 have a:i.toNat<xs.length:=by omega
 have b:i.toNat<ys.length:=by omega
 exact ⟨enc xs[i.toNat],enc ys[i.toNat],by simp [a],by simp [b],by rw [hz,hz],by simp [hz]⟩
theorem RZ {α:Type}{enc:α→List D}{ys:List α}{i:Int}{z:α}{sz:Nat}(h0:0≤i)(h2:i<ys.length)(hz:∀ x,(enc x).length=sz):Fw (ys.map enc) i 0 (enc z)=(ys.set i.toNat z).map enc:=by
 have b:i.toNat<ys.length:=by omega
 simp only [Fw,List.getD_eq_getElem?_getD,List.getElem?_map,List.getElem?_eq_getElem b,Option.map_some,Option.getD_some]
 rw [List.map_set]
 congr 1
 simp [bG,hz]

theorem Ra (b:List Int)(hb:Kv b)(p:Int)(hp:0≤p∧p<700000000):∃ outs,(∃ ps p',outs=[bN ps,eX b p']∧jI ps∧ps.length≤8∧p≤p'∧p'≤p+400)∧FunOk PP W tV jR [eX b p] outs:=by
 obtain ⟨outs,h1,h2⟩:=dZ (Φ:=FunOk PP W) (p:=p_s_l71Off) (ins:=[eX b p]) (G:=fun outs=>∃ ps p',outs=[bN ps,eX b p']∧jI ps∧ps.length≤8∧p≤p'∧p'≤p+400) (by
  (repeat' first
  | (refine run_ite rfl (fun h=>?_) (fun h=>?_)<;>(try simp (disch:=omega) only [zB,eqDs,bM,Nat.reduceAdd,aA] at h)<;>(try (exfalso;omega)))
  | refine aI rfl ?_
  | refine aJ rfl ?_
  | (refine aW rfl (eO b hb _ _ (by first | omega | (simp only [List.length_map];omega)) (by first | omega | (simp only [List.length_map];omega) | (simp;done))) rfl (fun outs hG=>?_);obtain ⟨v,rfl,hv0,hv1⟩:=hG;(try simp only [List.length_map] at hv1);refine ⟨[i64 v],[eX b _],rfl,rfl,rfl,?_⟩)
  | (refine aW rfl (Ex b hb p (by omega)) rfl (fun outs hG=>?_);obtain ⟨ps,p',rfl,hq1,hq2,hq3,hq4⟩:=hG;refine ⟨[bN ps],[eX b p'],rfl,rfl,rfl,?_⟩)
  | (refine aW rfl (NK b hb _ (by omega)) rfl (fun outs hG=>?_);obtain ⟨q,p',rfl,hr1,hr2,hr3⟩:=hG;refine ⟨[ePk q],[eX b p'],rfl,rfl,rfl,?_⟩)
  | (refine aB rfl (SW (enc:=ePk) (sz:=4) (xs:=ps) (ys:=ps) (z:=q) (by omega) (by omega) (by omega) (fun _=>rfl)) ?_)
  | refine aB rfl ?_ ?_
  | (refine aG rfl ?_;first | refine rb ?_ | refine ri ?_ | refine bV ?_ ?_ | refine cE ?_)
  | refine aD rfl ?_)
  ·refine ⟨ps++[q],p',bV (jA (by rw [List.map_append];rfl)) rfl,⟨by simp [lim];omega,fun x hx=>?_⟩,by simp;omega,by omega,by omega⟩
   rcases List.mem_append.1 hx with h' | h'
   ·exact Ac (hq1 x h')
   ·rw [List.mem_singleton.1 h'];exact hr1
  ·refine ⟨ps.set v.toNat q,p',bV (jA (RZ (enc:=ePk) (sz:=4) (ys:=ps) (z:=q) (i:=v) (by omega) (by omega) (fun _=>rfl))) rfl,⟨by simp [lim];omega,fun x hx=>?_⟩,by simp;omega,by omega,by omega⟩
   rcases List.mem_or_eq_of_mem_set hx with h' | h'
   ·exact Ac (hq1 x h')
   ·rw [h'];exact hr1
  ·exact ⟨ps,p'+1,rfl,oT hq1 (by omega),by omega,by omega,by omega⟩
  ·exact ⟨ps,p'+1,rfl,oT hq1 (by omega),by omega,by omega,by omega⟩)
 exact ⟨outs,h1,IG h2⟩
end
section
variable {W:Wld}

def oU:Cfg:={tt:=tt,sigs:=yS,mv:=true,bm:=[5],eqt:=fH,keep:=[true,false,true,false,true,false,false,false],n:=8,pin:=[] }
theorem xS:Ee oU Tryz.f89 fA=some (.ss [.mv 2 (.c (.sl []))],.mv 3 (.t 0),3,4,.cond (.t 4) (.seq (.ss [.mv 2 (.c (.sl []))]) (.ret [2])) .skip,.seq (.ss [.lit 5 0 [.int .i64 0,.int .i64 0] [],.mv 6 (.t 0),.app 7 2 true (.t 5) (.t 6),.mv 2 (.t 7)]) (.ret [2])):=by kernel_rfl
theorem NL (l:List P2)(hl:l.length≤lim):FunOk PP W pX fA [Cf l] [Cf l]:=by
 refine DX (C:=oU) (aP rfl) (bB rfl rfl) mixed Tryz.func89 (by kernel_rfl) (by kernel_rfl) xS ?_
 exact Dm (enc:=eP2) l hl 2 (fun _=>rfl) (fun _=>rfl) [.int .i64 0,.int .i64 0]

def qI:Cfg:={tt:=tt,sigs:=yS,mv:=true,bm:=[5],eqt:=fH,keep:=[true,false,true,false,true,false,false,false],n:=8,pin:=[] }
theorem AM:Ee qI Tryz.f90 gM=some (.ss [.mv 2 (.c (.sl []))],.mv 3 (.t 0),3,4,.cond (.t 4) (.seq (.ss [.mv 2 (.c (.sl []))]) (.ret [2])) .skip,.seq (.ss [.lit 5 0 [.int .i64 0,.int .i64 0] [],.mv 6 (.t 0),.app 7 2 true (.t 5) (.t 6),.mv 2 (.t 7)]) (.ret [2])):=by kernel_rfl
theorem NM (l:List P2)(hl:l.length≤lim):FunOk PP W rK gM [Cf l] [Cf l]:=by
 refine DX (C:=qI) (aP rfl) (bB rfl rfl) mixed Tryz.func90 (by kernel_rfl) (by kernel_rfl) AM ?_
 exact Dm (enc:=eP2) l hl 2 (fun _=>rfl) (fun _=>rfl) [.int .i64 0,.int .i64 0]

/-! Writing into lists that are encoded. -/
theorem Rb {α:Type}{enc:α→List D}{xs ys:List α}{i:Int}{off sz:Nat}{c:List D}(h0:0≤i)(h1:i<xs.length)(h2:i<ys.length)(hz:∀ x,(enc x).length=sz)(hc:off+c.length≤sz):Fv (xs.map enc) (ys.map enc) i off c:=by
 have a:i.toNat<xs.length:=by omega
 have b:i.toNat<ys.length:=by omega
 exact ⟨enc xs[i.toNat],enc ys[i.toNat],by simp [a],by simp [b],by rw [hz,hz],by rw [hz];exact hc⟩
theorem PW {α:Type}[Inhabited α]{enc:α→List D}{ys:List α}{i:Int}{off:Nat}{c:List D}{z:α}(h0:0≤i)(h2:i<ys.length)(hz:bG (enc (ix ys i)) off c=enc z):Fw (ys.map enc) i off c=(ys.set i.toNat z).map enc:=by
 have b:i.toNat<ys.length:=by omega
 have e:enc (ix ys i)=enc ys[i.toNat]:=by simp [ix,b]
 rw [e] at hz
 simp only [Fw,List.getD_eq_getElem?_getD,List.getElem?_map,List.getElem?_eq_getElem b,Option.map_some,Option.getD_some,hz]
 rw [List.map_set]
end
section
open Classical
variable {W:Wld}

/-! Sums. -/
/-! How much comes in. -/
def mx:Int:=9223372036854775807
noncomputable def UL (left n:Int):Int:=if left<n then -1 else left - n
end
section
open Classical
variable {W:Wld}

theorem rT (p:Pk)(hs:SmP p):FunOk PP W fK cM [ePk p] [ePk p]:=by
 refine xO (aU ?_)
 (repeat' first
  | (refine run_ite rfl (fun h=>?_) (fun h=>?_)<;>(try simp (disch:=omega) only [zB,eqDs,bM,Nat.reduceAdd,aA] at h)<;>(try (exfalso;omega)))
  | refine aI rfl ?_
  | refine aJ rfl ?_
  | refine aE rfl (NL p.files hs.1) rfl ?_
  | refine aE rfl (NM p.deps hs.2) rfl ?_
  | refine aB rfl ?_ ?_
  | (refine aG rfl ?_;first | refine rb ?_ | refine ri ?_ | refine bV ?_ ?_ | refine cE ?_)
  | refine aD rfl ?_)
 rfl
theorem CN (ps:List Pk)(hs:jI ps):FunOk PP W tT jF [bN ps] [bN ps]:=by
 refine Eu (aU ?_)
 have hl:=hs.1
 unfold lim at hl
 refine aY rfl (fun i:Int=>0≤i∧i≤ps.length) (fun i=>[(8,.val (i64 i)),(6,.val (bN ps)),(3,.val (bN (ps.take i.toNat))),(7,.val (i64 (ps.map ePk).length))]) (fun i=>(ps.length - i).toNat) 0 ⟨by omega,by omega⟩ ⟨rfl,rfl,rfl,rfl,trivial⟩ rfl ?_
 rintro i e ⟨h0,hN⟩
 have ht:(ps.take i.toNat).length≤i:=by rw [List.length_take];omega
 (repeat' first
  | (refine run_ite rfl (fun h=>?_) (fun h=>?_)<;>(try simp (disch:=omega) only [zB,eqDs,bM,Nat.reduceAdd,aA] at h)<;>(try (exfalso;omega)))
  | refine aI rfl ?_
  | refine aJ rfl ?_
  | refine lB rfl (rT (ix ps i) (nM hs (by omega) (by omega))) rfl ?_
  | (refine aS rfl (Exists.intro (i+1) ⟨by omega,⟨by omega,by omega⟩,aX (aA _ (by omega)),rfl,?_,rfl,trivial⟩))
  | refine aB rfl ?_ ?_
  | (refine aG rfl ?_;first | refine rb ?_ | refine ri ?_ | refine bV ?_ ?_ | refine cE ?_)
  | refine aD rfl ?_)
 ·refine jA ?_
  rw [gY ps h0 (by omega),List.map_append]
  rfl
 ·refine jA ?_
  rw [List.take_of_length_le (by omega)]

end
section
open Classical
variable {W:Wld}

/-! Keys. -/
def CO (l:List Int)(i:Int):Prop:=(1≤ix l i∧ix l i≤6)∧(0<i→ix l (i - 1)<ix l i)
def NN (l:List Int):Prop:=vI l.length (CO l)
theorem Ig (l:List Int)(hl:l.length≤lim):FunOk PP W tW jW [Mo l] [bo (decide (NN l))]:=by
 refine IU (aU ?_)
 unfold lim at hl
 (repeat' first
  | (refine run_ite rfl (fun h=>?_) (fun h=>?_)<;>(try simp (disch:=omega) only [zB,eqDs,bM,Nat.reduceAdd,aA] at h)<;>(try (exfalso;omega)))
  | refine aI rfl ?_
  | refine aJ rfl ?_
  | refine aB rfl ?_ ?_
  | (refine aG rfl ?_;first | refine rb ?_ | refine ri ?_ | refine bV ?_ ?_ | refine cE ?_)
  | refine aD rfl ?_)
 refine aY rfl (fun i:Int=>0≤i∧i≤l.length∧vI i (CO l)) (fun i=>[(3,.val (i64 i)),(0,.val (Mo l))]) (fun i=>(l.length - i).toNat) 0 ⟨by omega,by omega,cV _⟩ ⟨rfl,rfl,trivial⟩ rfl ?_
 rintro i e ⟨h0,hN,hP⟩
 (repeat' first
  | (refine run_ite rfl (fun h=>?_) (fun h=>?_)<;>(try simp (disch:=omega) only [zB,eqDs,bM,Nat.reduceAdd,aA] at h)<;>(try (exfalso;omega)))
  | refine aI rfl ?_
  | refine aJ rfl ?_
  | refine aE rfl (pV ..) rfl ?_
  | (refine aS rfl (Exists.intro (i+1) ⟨by omega,⟨by omega,by omega,cW hP (by unfold CO;omega)⟩,aX (aA _ (by omega)),rfl,trivial⟩))
  | refine aB rfl ?_ ?_
  | (refine aG rfl ?_;first | refine rb ?_ | refine ri ?_ | refine bV ?_ ?_ | refine cE ?_)
  | refine aD rfl ?_)
 all_goals first
  | exact tD (gT hP (by omega))
  | exact fD (fun h'=>by have:=h' i (by omega) (by omega);unfold CO at this;omega)
theorem Ih (l:List Int)(hl:l.length≤lim):FunOk PP W tX jX [Mo l] [bo (decide (NN l))]:=by
 refine Ia (aU ?_)
 unfold lim at hl
 (repeat' first
  | (refine run_ite rfl (fun h=>?_) (fun h=>?_)<;>(try simp (disch:=omega) only [zB,eqDs,bM,Nat.reduceAdd,aA] at h)<;>(try (exfalso;omega)))
  | refine aI rfl ?_
  | refine aJ rfl ?_
  | refine aB rfl ?_ ?_
  | (refine aG rfl ?_;first | refine rb ?_ | refine ri ?_ | refine bV ?_ ?_ | refine cE ?_)
  | refine aD rfl ?_)
 refine aY rfl (fun i:Int=>0≤i∧i≤l.length∧vI i (CO l)) (fun i=>[(7,.val (i64 i)),(5,.val (Mo l)),(6,.val (i64 (l.map i64).length)),(0,.val (Mo l))]) (fun i=>(l.length - i).toNat) 0 ⟨by omega,by omega,cV _⟩ ⟨rfl,rfl,rfl,rfl,trivial⟩ rfl ?_
 rintro i e ⟨h0,hN,hP⟩
 (repeat' first
  | (refine run_ite rfl (fun h=>?_) (fun h=>?_)<;>(try simp (disch:=omega) only [zB,eqDs,bM,Nat.reduceAdd,aA] at h)<;>(try (exfalso;omega)))
  | refine aI rfl ?_
  | refine aJ rfl ?_
  | refine aE rfl (Di ..) rfl ?_
  | (refine aS rfl (Exists.intro (i+1) ⟨by omega,⟨by omega,by omega,cW hP (by unfold CO;omega)⟩,aX (aA _ (by omega)),rfl,rfl,rfl,trivial⟩))
  | refine aB rfl ?_ ?_
  | (refine aG rfl ?_;first | refine rb ?_ | refine ri ?_ | refine bV ?_ ?_ | refine cE ?_)
  | refine aD rfl ?_)
 all_goals first
  | exact tD (gT hP (by omega))
  | exact fD (fun h'=>by have:=h' i (by omega) (by omega);unfold CO at this;omega)

/-! How many keys are among both. -/
/-! Roots. -/
structure Rt where
 num:Int
 keys:List Int
 need:Int
deriving DecidableEq,Inhabited
abbrev SX (r:Rt):List D:=[.int .i64 r.num,.sl (r.keys.map i64),.int .i64 r.need]
def Gv (r:Rt):Prop:=(1≤r.num∧r.num≤9)∧NN r.keys∧(1≤r.need∧r.need≤r.keys.length)
theorem Ii (r:Rt)(hl:r.keys.length≤lim):FunOk PP W tR jS [SX r] [bo (decide (Gv r))]:=by
 refine IO (aU ?_)
 (repeat' first
  | (refine run_ite rfl (fun h=>?_) (fun h=>?_)<;>(try simp (disch:=omega) only [zB,eqDs,bM,Nat.reduceAdd,aA] at h)<;>(try (exfalso;omega)))
  | refine aI rfl ?_
  | refine aJ rfl ?_
  | refine aE rfl (Ig r.keys hl) rfl ?_
  | refine aE rfl (pV ..) rfl ?_
  | refine aB rfl ?_ ?_
  | (refine aG rfl ?_;first | refine rb ?_ | refine ri ?_ | refine bV ?_ ?_ | refine cE ?_)
  | refine aD rfl ?_)
 all_goals
  refine dI ?_
  unfold Gv
  try simp only [List.length_map,decide_eq_true_eq]
  grind
theorem Ij (r:Rt)(hl:r.keys.length≤lim):FunOk PP W tU jU [SX r] [bo (decide (Gv r))]:=by
 refine IQ (aU ?_)
 (repeat' first
  | (refine run_ite rfl (fun h=>?_) (fun h=>?_)<;>(try simp (disch:=omega) only [zB,eqDs,bM,Nat.reduceAdd,aA] at h)<;>(try (exfalso;omega)))
  | refine aI rfl ?_
  | refine aJ rfl ?_
  | refine aE rfl (Ih r.keys hl) rfl ?_
  | refine aE rfl (Di ..) rfl ?_
  | refine aB rfl ?_ ?_
  | (refine aG rfl ?_;first | refine rb ?_ | refine ri ?_ | refine bV ?_ ?_ | refine cE ?_)
  | refine aD rfl ?_)
 all_goals
  refine dI ?_
  unfold Gv
  try simp only [List.length_map,decide_eq_true_eq]
  grind
/-! A new world. -/
structure Wn where
 roots:List SR
 bad:List Int
 tr:Rt
 dk:Dk
deriving DecidableEq,Inhabited
end
section
open Classical

def bA (l:List UInt8):ByteArray:=⟨l.toArray⟩
theorem bA_app (a b:List UInt8):bA a++bA b=bA (a++b):=by
 apply ByteArray.ext
 simp [bA,ByteArray.data_append]
theorem bA_size (a:List UInt8):(bA a).size=a.length:=by simp [bA,ByteArray.size]
abbrev sT (l:List UInt8):List D:=[.str (bA l)]
def u8 (n:Int):UInt8:=UInt8.ofNat n.toNat
def nmT (n v:Int):List UInt8:=[u8 (97+n - 1),u8 (48+v)]
def fT (f:P2):List UInt8:=[32,u8 (48+f.a),58,u8 (48+f.b)]
def dT (d:P2):List UInt8:=32::nmT d.a d.b
noncomputable def textM (p:Pk):List UInt8:=if PkOk p then nmT p.name p.ver++p.files.flatMap fT++p.deps.flatMap dT else []
theorem mA (p:Pk):(textM p).length≤30:=by
 unfold textM
 split
 ·rename_i h
  have h1:(p.files.length:Int)≤2:=h.2.2.1.2
  have h2:(p.deps.length:Int)≤2:=h.2.2.2.2
  have e1:(p.files.flatMap fT).length=4*p.files.length:=by
   rw [List.length_flatMap]
   induction p.files with
   | nil=>rfl
   | cons a r ih=>simp [fT,ih] at *;omega
  have e2:(p.deps.flatMap dT).length=3*p.deps.length:=by
   rw [List.length_flatMap]
   induction p.deps with
   | nil=>rfl
   | cons a r ih=>simp [dT,nmT,ih] at *;omega
  simp only [List.length_append,e1,e2]
  simp [nmT]
  omega
 ·simp
def Kw (n:Int)(b:UInt8):Int:=(31*n+b.toNat+1).tmod 9973
def uC (l:List UInt8):Int:=l.foldl Kw 7
theorem CP {n:Int}(b:UInt8)(h:0≤n):0≤Kw n b∧Kw n b<9973:=by
 unfold Kw
 rw [Int.tmod_eq_emod_of_nonneg (by omega)]
 omega
theorem Dq:∀ (l:List UInt8) (n:Int),0≤n→n<9973→0≤l.foldl Kw n∧l.foldl Kw n<9973
 | [],n,h,h'=>⟨h,h'⟩
 | b::r,n,h,_=>Dq r _ (CP b h).1 (CP b h).2
theorem Ik (l:List UInt8):0≤uC l∧uC l<9973:=Dq l 7 (by omega) (by omega)
noncomputable def gN (p:Pk):Mt:=⟨p.name,p.ver,uC (textM p)⟩

structure Ix where
 num:Int
 till:Int
 ms:List Mt
deriving DecidableEq,Inhabited
abbrev AN (x:Ix):List D:=[.int .i64 x.num,.int .i64 x.till,.sl (x.ms.map Ht)]
def NO:Ix:=⟨0,0,[]⟩
structure Tu where
 r:Rt
 has:Bool
 x:Ix
deriving DecidableEq,Inhabited
abbrev Jl (t:Tu):List D:=[.int .i64 t.r.num,.sl (t.r.keys.map i64),.int .i64 t.r.need,.bool t.has,.int .i64 t.x.num,.int .i64 t.x.till,.sl (t.x.ms.map Ht)]
def Il (l:List Mt)(i:Int):Prop:=(1≤(ix l i).name∧(ix l i).name≤4)∧(1≤(ix l i).ver∧(ix l i).ver≤5)∧(0≤(ix l i).sum∧(ix l i).sum≤9972)∧
 (0<i→(ix l (i - 1)).name<(ix l i).name∨((ix l (i - 1)).name=(ix l i).name∧(ix l (i - 1)).ver<(ix l i).ver))
def Im (x:Ix):Prop:=(1≤x.num∧x.num≤30)∧(0≤x.till∧x.till≤60)∧(x.ms.length:Int)≤8∧vI x.ms.length (Il x.ms)
def Ad (t:Tu):Prop:=Gv t.r∧if t.has=true then Im t.x else (t.x.num=0∧t.x.till=0∧t.x.ms=[])
def PY (t:Tu):Prop:=t.r.keys.length≤1000∧t.x.ms.length≤1000
end
end V
end Go.Proofs.YtmgpamcpdblckaaGreatDoor

/-
What strings.Builder's writing does at this seat (after the kit's own walks, Derived/Shelf/Strings/Builder1.lean and BuilderK.lean: the loader's refused row in copyCheck makes the body another one than the shelf's).
-/
namespace Go.Proofs.YtmgpamcpdblckaaGreatDoor
open Go.Shelf Go.RowKit
set_option maxRecDepth 100000
set_option maxHeartbeats 2000000

theorem CQ (b:Nat)(w:World)(h0:w.cell? ⟨b,0,none⟩=some (.pointer (some ⟨b,0,none⟩))):
  Calls Tryz.prog 102 #[.pointer (some ⟨b,0,none⟩)] w fun e w'=>e= .returned (.tuple #[])∧w'=w:=by
 have hs:(Tryz.prog.info? 90).map (·.size)=some 2:=Tryz.Builder_Extra_169.sizeBuilder
 obtain ⟨j,hj,_⟩:=Option.map_eq_some_iff.1 hs
 have mixed:Tryz.prog.follows .mixedOrders=true:=V.mixed
 go_enter Tryz.func102,Tryz.ntmps102
 go_wp2
 rw [Lib.run_neq_ptr_same w _ Tryz.underlying88 hj]
 go_wp2
 go_end0
 exact ⟨rfl,rfl⟩

theorem AO (b:Nat)(w:World)(h0:w.cell? ⟨b,0,none⟩=some (.pointer none))(hsh:w.shape? b=some (90,2))(hfz:w.frozen? ⟨b,0,none⟩=false):
  Calls Tryz.prog 102 #[.pointer (some ⟨b,0,none⟩)] w fun e w'=>e= .returned (.tuple #[])∧w'=w.setCell ⟨b,0,none⟩ (.pointer (some ⟨b,0,none⟩)):=by
 have hs:(Tryz.prog.info? 90).map (·.size)=some 2:=Tryz.Builder_Extra_169.sizeBuilder
 obtain ⟨j,hj,hjs⟩:=Option.map_eq_some_iff.1 hs
 have hlies:liesAt Tryz.prog Tryz.prog.depth 90 (2 / Tryz.prog.cellsOf 90) 0 90 1=true:=Tryz.Builder_Extra_169.liesBuilder
 have mixed:Tryz.prog.follows .mixedOrders=true:=V.mixed
 go_enter Tryz.func102,Tryz.ntmps102
 go_wp2
 rw [Lib.run_to_unsafe w ⟨b,0,none⟩ Tryz.underlying88 Tryz.underlying169 hj (by rw [hjs];decide) hsh (Nat.zero_lt_succ 1)]
 simp only [Result.andThen]
 rw [Oper.upon_value]
 go_wp2
 rw [run_callFunc_extern Tryz.func136 (by kernel_rfl) (by kernel_rfl) (by kernel_rfl) (e:=Extern.AbiNoEscape.same) (by kernel_rfl)]
 rw [Lib.run_noEscape]
 simp only [Result.andThen]
 rw [Oper.upon_value]
 go_wp2
 rw [Lib.run_from_unsafe w ⟨b,0,none⟩ Tryz.underlying169 Tryz.underlying88 hj hsh hlies]
 simp only [Result.andThen]
 rw [Oper.upon_value]
 go_wp2
 go_end0
 exact ⟨rfl,rfl⟩

theorem Gw (B b:Nat)(bs:List Value)(w:World)(h:Lib.IsBuilderF 90 5 B b bs w):
  Calls Tryz.prog 102 #[.pointer (some ⟨b,0,none⟩)] w fun e w'=>e= .returned (.tuple #[])∧(Lib.BuilderAtF 90 5 B b (.pointer (some ⟨b,0,none⟩)) bs w'∧Below B w w'∧Lib.OthersKept 5 (some b) w w'):=by
 rcases h with h | h
 ·refine (AO b w h.cell0 h.shape h.frozen0).mono ?_
  rintro e w' ⟨rfl,rfl⟩
  exact ⟨rfl,h.used _,(Below.refl B w).setCell (p:=⟨b,0,none⟩) h.1 _,(Lib.OthersKept.refl _ _ w).setCell ⟨b,0,none⟩ rfl _⟩
 ·refine (CQ b w h.cell0).mono ?_
  rintro e w' ⟨rfl,rfl⟩
  exact ⟨rfl,h,Below.refl B _,Lib.OthersKept.refl _ _ _⟩

theorem nW (B b:Nat)(bs:List Value)(s:ByteArray)(w:World)(h:Lib.IsBuilderF 90 5 B b bs w)(hlen:bs.length+s.size≤140737488355328)(hBw:B≤w.heap.size):
  Calls Tryz.prog 52 #[.pointer (some ⟨b,0,none⟩),.string s] w fun e w'=>e= .returned (.tuple #[.int .i64 s.size,.nilIface])∧(Lib.BuilderAtF 90 5 B b (.pointer (some ⟨b,0,none⟩)) (bs++Lib.strCells s) w'∧Below B w w'∧Lib.OthersKept 5 (some b) w w'):=by
 have hib:(Tryz.prog.info? 5).map (fun i=>(i.zero,i.size,i.bytes))=some (some (.int .u8 0),1,1):=Tryz.Builder_Extra_169.infoByte
 obtain ⟨i0,hi,hz0,hz1,hz2⟩:=info_parts hib
 have mixed:Tryz.prog.follows .mixedOrders=true:=V.mixed
 go_enter Tryz.func52,Tryz.ntmps52
 go_wp2_with (go_at_call 102;refine (Gw B b bs _ h).mono ?_)
 rintro e w1 ⟨rfl,h1,hb1,hk1⟩
 obtain ⟨hB,v,hbk,hown,hne⟩:=h1
 have c0:w1.cell? ⟨b,0,none⟩=some (.pointer (some ⟨b,0,none⟩)):=by rw [Lib.cell_of_heap hbk];rfl
 have c1:w1.cell? ⟨b,1,none⟩=some v:=by rw [Lib.cell_of_heap hbk];rfl
 go_wp2_with (at_builtin;refine Lib.wpList_append_own_stringF _ rfl _ _ 22 9 rfl B 5 i0 Tryz.underlying22 Tryz.underlying9 hi hz0 hz1 hz2 _ _ _ rfl hown s rfl ?c3 ?c4 ?c5 ?_)
 case c3=>unfold maxLen;omega
 case c4=>omega
 case c5=>have:=hb1.size;omega
 intro v' w2 hown' hgrow _
 have hlt:b<w1.heap.size:=by
  rcases Nat.lt_or_ge b w1.heap.size with h' | h'
  ·exact h'
  ·simp [Array.getElem?_eq_none h'] at hbk
 have hb2:w2.heap[b]? =some (.cells #[.pointer (some ⟨b,0,none⟩),v] 90 (0,0)):=by
  rw [hgrow.block b hlt (fun e=>hne e.symm)]
  exact hbk
 have d0:w2.cell? ⟨b,0,none⟩=some (.pointer (some ⟨b,0,none⟩)):=by rw [Lib.cell_of_heap hb2];rfl
 have d1:w2.cell? ⟨b,1,none⟩=some v:=by rw [Lib.cell_of_heap hb2];rfl
 have f1:w2.frozen? ⟨b,1,none⟩=false:=Lib.frozen_of_heap hb2 1
 obtain ⟨ao,n',cap,rfl⟩:∃ ao n' cap,v'= .slice ao n' cap:=by
  rcases hown'.2 with ⟨hv,_⟩ | ⟨g,cap,cur,fz,hv,_⟩
  ·exact ⟨_,_,_,hv⟩
  ·exact ⟨_,_,_,hv⟩
 go_wp2
 go_ret2
 refine ⟨rfl,?_,?_,(hk1.grown hgrow (Lib.ownsRowF_kind hown)).setCell ⟨b,1,none⟩ rfl _⟩
 ·exact Lib.BuilderAtF.put (T:=90) (e:=5) hB hb2 (bs':=bs++Lib.strCells s) (by simpa [Lib.strCells_length] using hown') Tryz.Builder_Extra_169.neB5
 ·exact (hb1.grown hgrow (by have:=hb1.size;omega) (fun k hk=>(hown.lt k hk).1)).setCell (p:=⟨b,1,none⟩) hB _
end Go.Proofs.YtmgpamcpdblckaaGreatDoor

/-
What the program's named does.
-/
namespace Go.Proofs.YtmgpamcpdblckaaGreatDoor
open Go.Shelf Go.RowKit
set_option maxRecDepth 100000
set_option maxHeartbeats 2000000

theorem TR (n:Int)(hn:1≤n∧n≤4):Utf8.encode (97+n - 1)=V.bA [V.u8 (97+n - 1)]:=by
 have:n=1∨n=2∨n=3∨n=4:=by omega
 rcases this with rfl | rfl | rfl | rfl<;>rfl
theorem Rc (i:Nat)(h:i≤9):Lib.decDigits i=[V.u8 (48+(i:Int))]:=by
 rw [Lib.decDigits_one (by omega)]
 unfold V.u8
 rw [show (48+(i:Int)).toNat=48+i by omega]
theorem CR (n v:Int)(hn:1≤n∧n≤4)(hv:1≤v∧v≤5)(w:World):
  Calls Tryz.prog 53 #[.int .i64 n,.int .i64 v] w fun e w'=>e= .returned (.string (V.bA (V.nmT n v)))∧w'=w:=by
 have mixed:Tryz.prog.follows .mixedOrders=true:=V.mixed
 obtain ⟨i,rfl⟩:∃ i:Nat,v=i:=⟨v.toNat,by omega⟩
 have he:=TR n hn
 have hd:=Rc i (by omega)
 have hs:¬9223372036854775807<(Utf8.encode (97+n - 1)).size+(Lib.decDigits i).length:=by rw [he,hd,V.bA_size];simp
 go_enter Tryz.func53,Tryz.ntmps53
 go_wp2_with (go_at_call 54;refine (Tryz.strconv_Itoa_small i (by omega) _).mono ?_;rintro e w' ⟨rfl,rfl⟩)
 go_ret
 refine ⟨?_,rfl⟩
 show Ending.returned (Value.string (V.bA [V.u8 (97+n - 1)]++V.bA [V.u8 (48+(i:Int))]))=_
 rw [V.bA_app]
 rfl
namespace V
open Classical
def InW (w:World)(g _o:Nat):Prop:=g<w.heap.size
def SY:Own:=fun _=>none
def TS (w:World):Cx:=⟨InW w,InW w,fun g=>w.heap.size≤g⟩
theorem NP (w:World):WOk w SY (TS w) SY w where
 kept:=Kept.refl _ _
 dom:=fun g i h=>by cases h
 n:=fun g=>by
  show w.heap.size≤g↔_
  exact ⟨fun h=> .inl h,fun h=>h.elim id (fun h'=>absurd rfl h')⟩
 s1:=fun g o h=>h
 s2:=fun g o h=>⟨h,aN rfl⟩
 cl:=fun g o _ h=>h
 inj:=fun g g' i j h=>by cases h
theorem NQ {w:World}{cx:Cx}{own:Own}{d:D}{v:Value}(h:Rep w (BS cx own) d v):Rep w (InW w) d v:=
 h.in_ (fun _ _ _ _ h=>h) (fun g cur T h=>⟨cur,h,rfl⟩) (fun g o u _ h=>eJ h)
theorem NR {w:World}{d:D}{v:Value}(h:Rep w (InW w) d v):Rep w (BS (TS w) SY) d v:=
 h.mono (fun _ _ _=>rfl) (fun g cur T h=>⟨cur,h,rfl⟩) (fun g o h=>⟨aN rfl,.inl h⟩)
theorem Kept.below {w w':World}(h:Kept SY w w'):Below w.heap.size w w':=⟨h.os,h.tape,h.output,h.size,fun k hk=>h.block k hk rfl⟩
theorem inW_below {w w':World}{B:Nat}{d:D}{v:Value}(h:Rep w (InW w) d v)(hb:Below B w w')(hB:w.heap.size≤B):Rep w' (InW w) d v:=
 h.mono (fun g o hg=>by
  have hg:g<w.heap.size:=hg
  simp only [World.cell?,hb.block g (by omega)]) (fun g cur T h=>by
   have:=iW h
   exact ⟨cur,by rw [hb.block g (by omega)];exact h,rfl⟩) (fun _ _ h=>h)
theorem rep_row {w:World}{xs:List P2}{v:Value}(h:Rep w (InW w) (.sl (xs.map eP2)) v):∃ A cap,v= .slice A xs.length cap∧xs.length≤cap+xs.length∧
  ∀ i:Nat,i<xs.length→∃ g off,A=some ⟨g,off,none⟩∧xs.length≤cap∧g<w.heap.size∧w.cell? ⟨g,off+i*2,none⟩=some (.int .i64 (ix xs i).a)∧w.cell? ⟨g,off+i*2+1,none⟩=some (.int .i64 (ix xs i).b):=by
 generalize hd:D.sl (xs.map eP2)=d at h
 cases h with
 | scal h=>subst hd;cases h
 | nil A cap=>
  have:xs=[]:=by simpa using hd
  subst this
  exact ⟨A,cap,rfl,by simp,fun i hi=>absurd hi (by simp)⟩
 | sl ys g off sz cap vs q1 q2 q3 q4 q5=>
  have hy:xs.map eP2=ys:=by simpa using hd
  subst hy
  refine ⟨some ⟨g,off,none⟩,cap,by simp,by omega,fun i hi=>?_⟩
  have hx:(xs.map eP2)[i]? =some (eP2 (ix xs i)):=by simp [ix,hi]
  have h2:sz=2:=(q2 _ (List.mem_of_getElem? hx)).symm
  subst h2
  have c0:=q3 i _ 0 _ hx rfl
  have c1:=q3 i _ 1 _ hx rfl
  have r0:=q5 i _ 0 _ hx rfl
  have r1:=q5 i _ 1 _ hx rfl
  have s0:=q4 i _ 0 _ hx rfl
  have key:∀ (n:Int) (u:Value),Rep w (InW w) (.int .i64 n) u→u= .int .i64 n:=fun n u h=>by
   cases h with
   | scal h=>cases h;rfl
  have e0:=key _ _ r0
  have e1:=key _ _ r1
  rw [e0] at c0
  rw [e1] at c1
  exact ⟨g,off,rfl,by simpa using q1,s0,c0,c1⟩
 | fn=>cases hd
theorem pkgOk_call (p:Pk)(hs:SmP p)(v1 v2:Value)(w:World)(h1:Rep w (InW w) (.sl (p.files.map eP2)) v1)(h2:Rep w (InW w) (.sl (p.deps.map eP2)) v2):
  Calls Tryz.prog 51 #[.agg #[.int .i64 p.name,.int .i64 p.ver,v1,v2]] w fun e w'=>e= .returned (.bool (decide (PkOk p)))∧Below w.heap.size w w':=by
 obtain ⟨_,hf⟩:=xQ (W:=RL) p hs
 have s1:∀ {d:D} {v:Value},Rep w (InW w) d v→(∃ xs,d= .sl xs)→Cell1 v:=fun h hd=>by
  obtain ⟨xs,rfl⟩:=hd
  cases h with
  | scal h=>cases h
  | nil A cap=>exact ⟨fun c h=>(by cases h),fun c h=>(by cases h)⟩
  | sl=>exact ⟨fun c h=>(by cases h),fun c h=>(by cases h)⟩
 refine (hf w SY (TS w) [.agg #[.int .i64 p.name,.int .i64 p.ver,v1,v2]] trivial (NP w) (fun g i h=>by cases h) rfl rfl (fun q hq=>?_)).mono ?_
 ·have:q=(0,.v true [.s,.s,.b,.b]):=by simpa [kL,pA,lL] using hq
  subst this
  refine ⟨[.int .i64 p.name,.int .i64 p.ver,v1,v2],rfl,fun h=>(by cases h),rfl,rfl,fun i c d v hc hd hv=>?_⟩
  match i,hc,hd,hv with
  | 0,hc,hd,hv=>cases hc;cases hd;cases hv;exact ⟨⟨fun c h=>(by cases h),fun c h=>(by cases h)⟩,.int _ _⟩
  | 1,hc,hd,hv=>cases hc;cases hd;cases hv;exact ⟨⟨fun c h=>(by cases h),fun c h=>(by cases h)⟩,.int _ _⟩
  | 2,hc,hd,hv=>cases hc;cases hd;cases hv;exact ⟨s1 h1 ⟨_,rfl⟩,NR h1⟩
  | 3,hc,hd,hv=>cases hc;cases hd;cases hv;exact ⟨s1 h2 ⟨_,rfl⟩,NR h2⟩
  | i+4,hc,hd,hv=>simp at hc
 ·rintro e w' ⟨v,own',rfl,hw',hr⟩
  refine ⟨?_,hw'.kept.below⟩
  obtain ⟨rv,hrl,hv,hrs,_⟩:=hr.tv
  match rv,hrl with
  | [r],_=>
   have hv:v=r:=hv
   subst hv
   obtain ⟨vs,e0,l0,a0⟩:=hrs 0 _ rfl
   match vs,l0 rfl with
   | [u],_=>
    have e0:v=u:=e0
    subst e0
    obtain ⟨_,hsc⟩:=a0.2.2 0 .s (.bool (decide (PkOk p))) v rfl rfl rfl
    have hsc:Scal (.bool (decide (PkOk p))) v:=hsc
    cases hsc
    rfl
end V
end Go.Proofs.YtmgpamcpdblckaaGreatDoor

