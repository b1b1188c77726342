/-
Part 4 of the proof of the claimed statement (its last part holds the theorem, and says what is proved). Conditions: none.
-/
import Derived.Test.YtnaldhcdcpdbnaaDoorM3
import Derived.Test.YtnaldhcdcpdbnaaDoorProg
import Derived.KernelRfl
import Derived.Test.YtnaldhcdcpdbnaaDoorChecked
import Derived.Tactics
import Derived.Tactics2
import Derived.WalkKit
import Derived.Below
import Derived.RegionTactic
import Derived.Lib.FrozenHead2
import Derived.Lib.OthersKept
import Derived.LoopTactic
import Derived.StillTailTactics
set_option linter.all false
/-
The seat's own numbers: types, functions, how each is called. Written by a program.
-/
namespace Go.Proofs.YtnaldhcdcpdbnaaDoor
namespace V

noncomputable abbrev PP : Program := Tryd.prog
def tt : TT := .n 66 ⟨1, 8, [.bad], .other⟩ (.n 34 ⟨1, 8, [.bad], .other⟩ (.n 17 ⟨1, 8, [.bad], (.ptr 130)⟩ (.n 9 ⟨1, 16, [.str ⟨#[]⟩], .str⟩ (.n 5 ⟨1, 1, [.int .u8 0], (.int .u8)⟩ (.n 3 ⟨1, 8, [.int .i64 0], (.int .i64)⟩ (.n 2 ⟨1, 8, [.int .i64 0], (.int .i64)⟩ (.n 1 ⟨1, 8, [.bad], .other⟩ (.e) (.e)) (.e)) (.n 4 ⟨1, 1, [.bool false], .bool⟩ (.e) (.e))) (.n 7 ⟨4, 24, [.int .i64 0, .int .i64 0, .bool false, .int .u8 0], (.struct [(0, 2), (1, 3), (2, 4), (3, 6)])⟩ (.n 6 ⟨1, 1, [.int .u8 0], (.int .u8)⟩ (.e) (.e)) (.n 8 ⟨4, 24, [.int .i64 0, .int .i64 0, .bool false, .int .u8 0], (.struct [(0, 2), (1, 3), (2, 4), (3, 6)])⟩ (.e) (.e)))) (.n 13 ⟨2, 24, [.str ⟨#[]⟩, .int .u64 0], (.struct [(0, 9), (1, 12)])⟩ (.n 11 ⟨1, 16, [.str ⟨#[]⟩], .str⟩ (.n 10 ⟨1, 16, [.str ⟨#[]⟩], .str⟩ (.e) (.e)) (.n 12 ⟨1, 8, [.int .u64 0], (.int .u64)⟩ (.e) (.e))) (.n 15 ⟨1, 8, [.bad], (.ptr 119)⟩ (.n 14 ⟨2, 24, [.str ⟨#[]⟩, .int .u64 0], (.struct [(0, 9), (1, 12)])⟩ (.e) (.e)) (.n 16 ⟨1, 8, [.bad], (.ptr 122)⟩ (.e) (.e))))) (.n 25 ⟨3, 40, [.int .i64 0, .sl [], .int .i64 0], (.struct [(0, 3), (1, 23), (2, 3)])⟩ (.n 21 ⟨1, 4, [.int .i32 0], (.int .i32)⟩ (.n 19 ⟨1, 8, [.bad], (.struct [(0, 17)])⟩ (.n 18 ⟨1, 8, [.bad], (.struct [(0, 17)])⟩ (.e) (.e)) (.n 20 ⟨1, 16, [.bad], .other⟩ (.e) (.e))) (.n 23 ⟨1, 24, [.sl []], (.slice 3)⟩ (.n 22 ⟨1, 24, [.sl []], (.slice 5)⟩ (.e) (.e)) (.n 24 ⟨3, 40, [.int .i64 0, .sl [], .int .i64 0], (.struct [(0, 3), (1, 23), (2, 3)])⟩ (.e) (.e)))) (.n 29 ⟨7, 88, [.int .i64 0, .sl [], .int .i64 0, .bool false, .int .i64 0, .int .i64 0, .sl []], (.struct [(0, 25), (3, 4), (4, 28)])⟩ (.n 27 ⟨3, 40, [.int .i64 0, .int .i64 0, .sl []], (.struct [(0, 3), (1, 3), (2, 26)])⟩ (.n 26 ⟨1, 24, [.sl []], (.slice 40)⟩ (.e) (.e)) (.n 28 ⟨3, 40, [.int .i64 0, .int .i64 0, .sl []], (.struct [(0, 3), (1, 3), (2, 26)])⟩ (.e) (.e))) (.n 31 ⟨1, 24, [.sl []], (.slice 44)⟩ (.n 30 ⟨7, 88, [.int .i64 0, .sl [], .int .i64 0, .bool false, .int .i64 0, .int .i64 0, .sl []], (.struct [(0, 25), (3, 4), (4, 28)])⟩ (.e) (.e)) (.n 33 ⟨1, 8, [.bad], .other⟩ (.e) (.e)))))) (.n 50 ⟨1, 8, [.bad], .other⟩ (.n 42 ⟨1, 24, [.sl []], (.slice 70)⟩ (.n 38 ⟨1, 8, [.bad], .other⟩ (.n 36 ⟨1, 8, [.bad], .other⟩ (.n 35 ⟨1, 8, [.bad], .other⟩ (.e) (.e)) (.n 37 ⟨1, 8, [.bad], .other⟩ (.e) (.e))) (.n 40 ⟨3, 24, [.int .i64 0, .int .i64 0, .int .i64 0], (.struct [(0, 3), (1, 3), (2, 3)])⟩ (.n 39 ⟨3, 24, [.int .i64 0, .int .i64 0, .int .i64 0], (.struct [(0, 3), (1, 3), (2, 3)])⟩ (.e) (.e)) (.n 41 ⟨1, 24, [.sl []], (.slice 68)⟩ (.e) (.e)))) (.n 46 ⟨1, 8, [.bad], .other⟩ (.n 44 ⟨4, 64, [.int .i64 0, .int .i64 0, .sl [], .sl []], (.struct [(0, 3), (1, 3), (2, 41), (3, 42)])⟩ (.n 43 ⟨4, 64, [.int .i64 0, .int .i64 0, .sl [], .sl []], (.struct [(0, 3), (1, 3), (2, 41), (3, 42)])⟩ (.e) (.e)) (.n 45 ⟨1, 8, [.bad], .other⟩ (.e) (.e))) (.n 48 ⟨1, 8, [.bad], .other⟩ (.n 47 ⟨1, 8, [.bad], .other⟩ (.e) (.e)) (.n 49 ⟨1, 8, [.bad], .other⟩ (.e) (.e))))) (.n 58 ⟨1, 8, [.bad], .other⟩ (.n 54 ⟨1, 8, [.bad], .other⟩ (.n 52 ⟨1, 8, [.bad], .other⟩ (.n 51 ⟨1, 8, [.bad], .other⟩ (.e) (.e)) (.n 53 ⟨1, 8, [.bad], .other⟩ (.e) (.e))) (.n 56 ⟨1, 8, [.bad], (.ptr 78)⟩ (.n 55 ⟨1, 8, [.bad], .other⟩ (.e) (.e)) (.n 57 ⟨1, 8, [.bad], .other⟩ (.e) (.e)))) (.n 62 ⟨1, 8, [.bad], .other⟩ (.n 60 ⟨1, 8, [.bad], .other⟩ (.n 59 ⟨1, 8, [.bad], .other⟩ (.e) (.e)) (.n 61 ⟨1, 8, [.bad], .other⟩ (.e) (.e))) (.n 64 ⟨1, 8, [.bad], .other⟩ (.n 63 ⟨1, 8, [.bad], .other⟩ (.e) (.e)) (.n 65 ⟨1, 8, [.bad], .other⟩ (.e) (.e))))))) (.n 101 ⟨1, 8, [.bad], .other⟩ (.n 84 ⟨1, 8, [.bad], .other⟩ (.n 75 ⟨1, 8, [.bad], .other⟩ (.n 71 ⟨1, 8, [.bad], .other⟩ (.n 69 ⟨2, 16, [.int .i64 0, .int .i64 0], (.struct [(0, 3), (1, 3)])⟩ (.n 68 ⟨2, 16, [.int .i64 0, .int .i64 0], (.struct [(0, 3), (1, 3)])⟩ (.n 67 ⟨2, 16, [.int .i64 0, .int .i64 0], (.struct [(0, 3), (1, 3)])⟩ (.e) (.e)) (.e)) (.n 70 ⟨2, 16, [.int .i64 0, .int .i64 0], (.struct [(0, 3), (1, 3)])⟩ (.e) (.e))) (.n 73 ⟨1, 8, [.bad], .other⟩ (.n 72 ⟨1, 8, [.bad], .other⟩ (.e) (.e)) (.n 74 ⟨1, 8, [.bad], .other⟩ (.e) (.e)))) (.n 79 ⟨1, 8, [.bad], .other⟩ (.n 77 ⟨2, 32, [.sl [], .int .i64 0], (.struct [(0, 22), (1, 3)])⟩ (.n 76 ⟨1, 8, [.bad], .other⟩ (.e) (.e)) (.n 78 ⟨2, 32, [.sl [], .int .i64 0], (.struct [(0, 22), (1, 3)])⟩ (.e) (.e))) (.n 82 ⟨1, 8, [.bad], .other⟩ (.n 80 ⟨1, 8, [.bad], .other⟩ (.e) (.e)) (.n 83 ⟨1, 8, [.bad], .other⟩ (.e) (.e))))) (.n 93 ⟨1, 8, [.bad], .other⟩ (.n 88 ⟨2, 32, [.bad, .sl []], (.struct [(0, 87), (1, 22)])⟩ (.n 86 ⟨1, 8, [.bad], .other⟩ (.n 85 ⟨1, 8, [.bad], .other⟩ (.e) (.e)) (.n 87 ⟨1, 8, [.bad], (.ptr 89)⟩ (.e) (.e))) (.n 90 ⟨1, 16, [.bad], .other⟩ (.n 89 ⟨2, 32, [.bad, .sl []], (.struct [(0, 87), (1, 22)])⟩ (.e) (.e)) (.n 91 ⟨1, 16, [.bad], .other⟩ (.e) (.e)))) (.n 97 ⟨1, 8, [.bad], .other⟩ (.n 95 ⟨1, 8, [.bad], .other⟩ (.n 94 ⟨1, 8, [.bad], .other⟩ (.e) (.e)) (.n 96 ⟨1, 8, [.bad], .other⟩ (.e) (.e))) (.n 99 ⟨1, 8, [.bad], (.ptr 5)⟩ (.n 98 ⟨1, 8, [.bad], .other⟩ (.e) (.e)) (.n 100 ⟨1, 8, [.bad], .other⟩ (.e) (.e)))))) (.n 118 ⟨4, 40, [.bad, .bad, .bad, .str ⟨#[]⟩], (.struct [(0, 17), (1, 17), (2, 17), (3, 9)])⟩ (.n 110 ⟨20, 160, [.int .u64 0, .int .u64 0, .int .u64 0, .int .u64 0, .int .u64 0, .int .u64 0, .int .u64 0, .int .u64 0, .int .u64 0, .int .u64 0, .int .u64 0, .int .u64 0, .int .u64 0, .int .u64 0, .int .u64 0, .int .u64 0, .int .u64 0, .int .u64 0, .int .u64 0, .int .u64 0], (.array 20 104)⟩ (.n 105 ⟨1, 8, [.bad], .other⟩ (.n 103 ⟨24, 24, [.int .u8 0, .int .u8 0, .int .u8 0, .int .u8 0, .int .u8 0, .int .u8 0, .int .u8 0, .int .u8 0, .int .u8 0, .int .u8 0, .int .u8 0, .int .u8 0, .int .u8 0, .int .u8 0, .int .u8 0, .int .u8 0, .int .u8 0, .int .u8 0, .int .u8 0, .int .u8 0, .int .u8 0, .int .u8 0, .int .u8 0, .int .u8 0], (.array 24 5)⟩ (.n 102 ⟨1, 8, [.bad], .other⟩ (.e) (.e)) (.n 104 ⟨1, 8, [.int .u64 0], (.int .u64)⟩ (.e) (.e))) (.n 108 ⟨1, 8, [.bad], .other⟩ (.n 106 ⟨1, 8, [.bad], .other⟩ (.e) (.e)) (.n 109 ⟨1, 8, [.bad], .other⟩ (.e) (.e)))) (.n 114 ⟨1, 8, [.bad], .other⟩ (.n 112 ⟨65, 65, [.int .u8 0, .int .u8 0, .int .u8 0, .int .u8 0, .int .u8 0, .int .u8 0, .int .u8 0, .int .u8 0, .int .u8 0, .int .u8 0, .int .u8 0, .int .u8 0, .int .u8 0, .int .u8 0, .int .u8 0, .int .u8 0, .int .u8 0, .int .u8 0, .int .u8 0, .int .u8 0, .int .u8 0, .int .u8 0, .int .u8 0, .int .u8 0, .int .u8 0, .int .u8 0, .int .u8 0, .int .u8 0, .int .u8 0, .int .u8 0, .int .u8 0, .int .u8 0, .int .u8 0, .int .u8 0, .int .u8 0, .int .u8 0, .int .u8 0, .int .u8 0, .int .u8 0, .int .u8 0, .int .u8 0, .int .u8 0, .int .u8 0, .int .u8 0, .int .u8 0, .int .u8 0, .int .u8 0, .int .u8 0, .int .u8 0, .int .u8 0, .int .u8 0, .int .u8 0, .int .u8 0, .int .u8 0, .int .u8 0, .int .u8 0, .int .u8 0, .int .u8 0, .int .u8 0, .int .u8 0, .int .u8 0, .int .u8 0, .int .u8 0, .int .u8 0, .int .u8 0], (.array 65 5)⟩ (.n 111 ⟨1, 4, [.int .u32 0], (.int .u32)⟩ (.e) (.e)) (.n 113 ⟨1, 8, [.int .u64 0], (.int .u64)⟩ (.e) (.e))) (.n 116 ⟨32, 32, [.int .u8 0, .int .u8 0, .int .u8 0, .int .u8 0, .int .u8 0, .int .u8 0, .int .u8 0, .int .u8 0, .int .u8 0, .int .u8 0, .int .u8 0, .int .u8 0, .int .u8 0, .int .u8 0, .int .u8 0, .int .u8 0, .int .u8 0, .int .u8 0, .int .u8 0, .int .u8 0, .int .u8 0, .int .u8 0, .int .u8 0, .int .u8 0, .int .u8 0, .int .u8 0, .int .u8 0, .int .u8 0, .int .u8 0, .int .u8 0, .int .u8 0, .int .u8 0], (.array 32 5)⟩ (.n 115 ⟨1, 8, [.bad], .other⟩ (.e) (.e)) (.n 117 ⟨64, 64, [.int .u8 0, .int .u8 0, .int .u8 0, .int .u8 0, .int .u8 0, .int .u8 0, .int .u8 0, .int .u8 0, .int .u8 0, .int .u8 0, .int .u8 0, .int .u8 0, .int .u8 0, .int .u8 0, .int .u8 0, .int .u8 0, .int .u8 0, .int .u8 0, .int .u8 0, .int .u8 0, .int .u8 0, .int .u8 0, .int .u8 0, .int .u8 0, .int .u8 0, .int .u8 0, .int .u8 0, .int .u8 0, .int .u8 0, .int .u8 0, .int .u8 0, .int .u8 0, .int .u8 0, .int .u8 0, .int .u8 0, .int .u8 0, .int .u8 0, .int .u8 0, .int .u8 0, .int .u8 0, .int .u8 0, .int .u8 0, .int .u8 0, .int .u8 0, .int .u8 0, .int .u8 0, .int .u8 0, .int .u8 0, .int .u8 0, .int .u8 0, .int .u8 0, .int .u8 0, .int .u8 0, .int .u8 0, .int .u8 0, .int .u8 0, .int .u8 0, .int .u8 0, .int .u8 0, .int .u8 0, .int .u8 0, .int .u8 0, .int .u8 0, .int .u8 0], (.array 64 5)⟩ (.e) (.e))))) (.n 126 ⟨1, 8, [.bad], .other⟩ (.n 122 ⟨0, 0, [], (.struct [(0, 120)])⟩ (.n 120 ⟨0, 0, [], (.array 0 16)⟩ (.n 119 ⟨4, 40, [.bad, .bad, .bad, .str ⟨#[]⟩], (.struct [(0, 17), (1, 17), (2, 17), (3, 9)])⟩ (.e) (.e)) (.n 121 ⟨0, 0, [], (.struct [(0, 120)])⟩ (.e) (.e))) (.n 124 ⟨1, 1, [.int .u8 0], (.int .u8)⟩ (.n 123 ⟨1, 8, [.bad], .other⟩ (.e) (.e)) (.n 125 ⟨1, 1, [.int .u8 0], (.int .u8)⟩ (.e) (.e)))) (.n 130 ⟨11, 48, [.int .u64 0, .int .u64 0, .int .u32 0, .int .u8 0, .int .u8 0, .int .u8 0, .int .u8 0, .bad, .bad, .int .i32 0, .int .i32 0], (.struct [(0, 12), (1, 12), (2, 111), (3, 124), (4, 5), (5, 5), (6, 125), (7, 126), (8, 99), (9, 127), (10, 128)])⟩ (.n 128 ⟨1, 4, [.int .i32 0], (.int .i32)⟩ (.n 127 ⟨1, 4, [.int .i32 0], (.int .i32)⟩ (.e) (.e)) (.n 129 ⟨11, 48, [.int .u64 0, .int .u64 0, .int .u32 0, .int .u8 0, .int .u8 0, .int .u8 0, .int .u8 0, .bad, .bad, .int .i32 0, .int .i32 0], (.struct [(0, 12), (1, 12), (2, 111), (3, 124), (4, 5), (5, 5), (6, 125), (7, 126), (8, 99), (9, 127), (10, 128)])⟩ (.e) (.e))) (.n 132 ⟨1, 8, [.bad], .other⟩ (.n 131 ⟨1, 8, [.bad], .other⟩ (.e) (.e)) (.n 133 ⟨1, 8, [.bad], .other⟩ (.e) (.e)))))))
abbrev n_l_FnLacks : Nat := 3
abbrev n_s_DrawStoreLacks : Nat := 4
abbrev n_i_StoreLacks : Nat := 5
abbrev n_l_luMetas : Nat := 6
abbrev n_s_StoreLacks : Nat := 7
abbrev n_s_TrustOk : Nat := 8
abbrev n_s_StoreOk : Nat := 9
abbrev n_i_StoreTrim : Nat := 10
abbrev n_s_DrawStoreTrim : Nat := 11
abbrev n_i_TrustOk : Nat := 12
abbrev n_i_StoreOk : Nat := 13
abbrev n_sl_ContainsFunc_Pkg : Nat := 14
abbrev n_i_StoreLacks_1 : Nat := 15
abbrev n_i_metaOf : Nat := 16
abbrev n_s_l12Find : Nat := 17
abbrev n_s_SumOf : Nat := 18
abbrev n_s_PkgText : Nat := 19
abbrev n_s_RootOk : Nat := 20
abbrev n_s_IndexOk : Nat := 21
abbrev n_s_l3Pkgs : Nat := 22
abbrev n_sl_Contains_Meta : Nat := 23
abbrev n_i_Pkg_copied : Nat := 24
abbrev n_s_l6Open : Nat := 25
abbrev n_s_l71Trust : Nat := 26
abbrev n_s_l71Some : Nat := 27
abbrev n_s_l6Rd_pick : Nat := 28
abbrev n_s_l71Pkg : Nat := 29
abbrev n_s_l12With : Nat := 30
abbrev n_i_RootOk : Nat := 31
abbrev n_i_IndexOk : Nat := 32
abbrev n_i_Index_same : Nat := 33
abbrev n_i_PkgOk : Nat := 34
abbrev n_i_Pkg_compare : Nat := 35
abbrev n_sl_IndexFunc_Pkg : Nat := 36
abbrev n_i_SumOf : Nat := 37
abbrev n_i_PkgText : Nat := 38
abbrev n_s_PkgOk : Nat := 39
abbrev n_s_l1Name : Nat := 40
abbrev n_s_l6Dec : Nat := 41
abbrev n_s_l6In : Nat := 42
abbrev n_s_KeysOk : Nat := 43
abbrev n_s_l3Less : Nat := 44
abbrev n_sl_Index_Meta : Nat := 45
abbrev n_sl_Clone_File : Nat := 46
abbrev n_sl_Clone_Dep : Nat := 47
abbrev n_s_l71Root : Nat := 48
abbrev n_s_l71Pkgs : Nat := 49
abbrev n_s_IndexOf : Nat := 50
abbrev n_s_l71Index : Nat := 51
abbrev n_s_l71Off : Nat := 52
abbrev n_i_in : Nat := 53
abbrev n_i_KeysOk : Nat := 54
abbrev n_i_isName : Nat := 55
abbrev n_i_isVer : Nat := 56
abbrev n_sl_Equal_Meta : Nat := 57
abbrev n_cmp_Or_int : Nat := 58
abbrev n_cmp_Compare_int : Nat := 59
abbrev n_s_l1Files : Nat := 64
abbrev n_s_l1Deps : Nat := 65
abbrev n_s_l71Keys : Nat := 66
abbrev n_s_l71Any : Nat := 67
abbrev n_cmp_isNaN_int : Nat := 68
abbrev s_s_l6Open : Sig := ⟨[.v false [.r]], [.nbox [.r, .s]]⟩
abbrev s_s_l71Pkg : Sig := ⟨[.box false [.r, .s], .v false [.s], .v false [.s]], [.v true [.s, .s, .o false ⟨2, false⟩, .o false ⟨2, false⟩]]⟩
abbrev s_s_l71Any : Sig := ⟨[.box false [.r, .s]], [.v true [.s, .s, .o false ⟨2, false⟩, .o false ⟨2, false⟩]]⟩
abbrev s_s_IndexOf : Sig := ⟨[.v false [.s], .v false [.s], .v false [.b]], [.v true [.s, .s, .o false ⟨3, false⟩], .v false [.s]]⟩
abbrev s_s_l71Index : Sig := ⟨[.box false [.r, .s]], [.v true [.s, .s, .o false ⟨3, false⟩]]⟩
abbrev s_s_l71Root : Sig := ⟨[.box false [.r, .s]], [.v true [.s, .r, .s]]⟩
abbrev s_s_l71Keys : Sig := ⟨[.box false [.r, .s]], [.v false [.o false ⟨1, false⟩]]⟩
abbrev s_s_l71Off : Sig := ⟨[.box false [.r, .s]], [.v false [.o true ⟨4, false⟩]]⟩
abbrev s_s_l71Pkgs : Sig := ⟨[.box false [.r, .s]], [.v false [.o true ⟨4, false⟩]]⟩
abbrev s_s_l12With : Sig := ⟨[.v false [.r], .v true [.s, .s, .r, .r]], [.v false [.o true ⟨4, false⟩]]⟩
abbrev s_i_StoreLacks_1 : Sig := ⟨[.v true [.s, .s, .b, .b], .box true [.s, .s, .s]], [.v false [.s]]⟩
abbrev s_sl_ContainsFunc_Pkg : Sig := ⟨[.v false [.b], .clo n_i_StoreLacks_1], [.v false [.s]]⟩
abbrev s_sl_IndexFunc_Pkg : Sig := ⟨[.v false [.b], .clo n_i_StoreLacks_1], [.v false [.s]]⟩
abbrev s_l_FnLacks : Sig := ⟨[.v false [.r]], [.v false [.s]]⟩
abbrev s_s_DrawStoreLacks : Sig := ⟨[.v false [.r]], [.v true [.s, .r, .s, .s, .s, .s, .r], .v false [.r]]⟩
abbrev s_i_StoreLacks : Sig := ⟨[.v true [.s, .b, .s, .s, .s, .s, .b], .v false [.b]], [.v false [.o false ⟨3, false⟩]]⟩
abbrev s_l_luMetas : Sig := ⟨[.v false [.b], .v false [.b]], [.v false [.s]]⟩
abbrev s_s_StoreLacks : Sig := ⟨[.v true [.s, .r, .s, .s, .s, .s, .r], .v false [.r]], [.v false [.r]]⟩
abbrev s_s_TrustOk : Sig := ⟨[.v true [.s, .b, .s, .s, .s, .s, .b]], [.v false [.s]]⟩
abbrev s_s_StoreOk : Sig := ⟨[.v false [.b]], [.v false [.s]]⟩
abbrev s_i_StoreTrim : Sig := ⟨[.v true [.s, .b, .s, .s, .s, .s, .b], .v false [.b]], [.v false [.o false ⟨4, false⟩]]⟩
abbrev s_s_DrawStoreTrim : Sig := ⟨[.v false [.r]], [.v true [.s, .r, .s, .s, .s, .s, .r], .v false [.r]]⟩
abbrev s_i_TrustOk : Sig := ⟨[.v true [.s, .b, .s, .s, .s, .s, .b]], [.v false [.s]]⟩
abbrev s_i_StoreOk : Sig := ⟨[.v false [.b]], [.v false [.s]]⟩
abbrev s_i_metaOf : Sig := ⟨[.v true [.s, .s, .b, .b]], [.v true [.s, .s, .s]]⟩
abbrev s_s_l12Find : Sig := ⟨[.v false [.b], .v false [.s], .v false [.s]], [.v false [.s]]⟩
abbrev s_s_SumOf : Sig := ⟨[.v false [.s]], [.v false [.s]]⟩
abbrev s_s_PkgText : Sig := ⟨[.v true [.s, .s, .b, .b]], [.v false [.s]]⟩
abbrev s_s_RootOk : Sig := ⟨[.v true [.s, .b, .s]], [.v false [.s]]⟩
abbrev s_s_IndexOk : Sig := ⟨[.v true [.s, .s, .b]], [.v false [.s]]⟩
abbrev s_s_l3Pkgs : Sig := ⟨[.v false [.b]], [.v false [.s]]⟩
abbrev s_sl_Contains_Meta : Sig := ⟨[.v false [.b], .v true [.s, .s, .s]], [.v false [.s]]⟩
abbrev s_i_Pkg_copied : Sig := ⟨[.v true [.s, .s, .b, .b]], [.v true [.s, .s, .o false ⟨2, false⟩, .o false ⟨2, false⟩]]⟩
abbrev s_s_l71Trust : Sig := ⟨[.box false [.r, .s]], [.v true [.s, .r, .s, .s, .s, .s, .r], .v false [.r]]⟩
abbrev s_s_l71Some : Sig := ⟨[.box false [.r, .s], .v false [.r]], [.v false [.r]]⟩
abbrev s_s_l6Rd_pick : Sig := ⟨[.box false [.r, .s], .v false [.s]], [.v false [.s]]⟩
abbrev s_i_RootOk : Sig := ⟨[.v true [.s, .b, .s]], [.v false [.s]]⟩
abbrev s_i_IndexOk : Sig := ⟨[.v true [.s, .s, .b]], [.v false [.s]]⟩
abbrev s_i_Index_same : Sig := ⟨[.v true [.s, .s, .b], .v true [.s, .s, .b]], [.v false [.s]]⟩
abbrev s_i_PkgOk : Sig := ⟨[.v true [.s, .s, .b, .b]], [.v false [.s]]⟩
abbrev s_i_Pkg_compare : Sig := ⟨[.v true [.s, .s, .b, .b], .v true [.s, .s, .b, .b]], [.v false [.s]]⟩
abbrev s_i_SumOf : Sig := ⟨[.v false [.s]], [.v false [.s]]⟩
abbrev s_i_PkgText : Sig := ⟨[.v true [.s, .s, .b, .b]], [.v false [.s]]⟩
abbrev s_s_PkgOk : Sig := ⟨[.v true [.s, .s, .b, .b]], [.v false [.s]]⟩
abbrev s_s_l1Name : Sig := ⟨[.v false [.s], .v false [.s]], [.v false [.s]]⟩
abbrev s_s_l6Dec : Sig := ⟨[.v false [.s]], [.v false [.s]]⟩
abbrev s_s_l6In : Sig := ⟨[.v false [.s], .v false [.s], .v false [.s]], [.v false [.s]]⟩
abbrev s_s_KeysOk : Sig := ⟨[.v false [.b]], [.v false [.s]]⟩
abbrev s_s_l3Less : Sig := ⟨[.v false [.s], .v false [.s], .v false [.s], .v false [.s]], [.v false [.s]]⟩
abbrev s_sl_Index_Meta : Sig := ⟨[.v false [.b], .v true [.s, .s, .s]], [.v false [.s]]⟩
abbrev s_sl_Clone_File : Sig := ⟨[.v false [.b]], [.v false [.o true ⟨2, false⟩]]⟩
abbrev s_sl_Clone_Dep : Sig := ⟨[.v false [.b]], [.v false [.o true ⟨2, false⟩]]⟩
abbrev s_i_in : Sig := ⟨[.v false [.s], .v false [.s], .v false [.s]], [.v false [.s]]⟩
abbrev s_i_KeysOk : Sig := ⟨[.v false [.b]], [.v false [.s]]⟩
abbrev s_i_isName : Sig := ⟨[.v false [.s]], [.v false [.s]]⟩
abbrev s_i_isVer : Sig := ⟨[.v false [.s]], [.v false [.s]]⟩
abbrev s_sl_Equal_Meta : Sig := ⟨[.v false [.b], .v false [.b]], [.v false [.s]]⟩
abbrev s_cmp_Or_int : Sig := ⟨[.v false [.b]], [.v false [.s]]⟩
abbrev s_cmp_Compare_int : Sig := ⟨[.v false [.s], .v false [.s]], [.v false [.s]]⟩
abbrev s_s_l1Files : Sig := ⟨[.v false [.b]], [.v false [.s]]⟩
abbrev s_s_l1Deps : Sig := ⟨[.v false [.s], .v false [.b]], [.v false [.s]]⟩
abbrev s_cmp_isNaN_int : Sig := ⟨[.v false [.s]], [.v false [.s]]⟩
def sigs : Tr (List Sig) := .n 34 [s_i_PkgOk] (.n 19 [s_s_PkgText] (.n 11 [s_s_DrawStoreTrim] (.n 7 [s_s_StoreLacks] (.n 5 [s_i_StoreLacks] (.n 4 [s_s_DrawStoreLacks] (.e) (.e)) (.n 6 [s_l_luMetas] (.e) (.e))) (.n 9 [s_s_StoreOk] (.n 8 [s_s_TrustOk] (.e) (.e)) (.n 10 [s_i_StoreTrim] (.e) (.e)))) (.n 15 [s_i_StoreLacks_1] (.n 13 [s_i_StoreOk] (.n 12 [s_i_TrustOk] (.e) (.e)) (.n 14 [s_sl_ContainsFunc_Pkg] (.e) (.e))) (.n 17 [s_s_l12Find] (.n 16 [s_i_metaOf] (.e) (.e)) (.n 18 [s_s_SumOf] (.e) (.e))))) (.n 27 [s_s_l71Some] (.n 23 [s_sl_Contains_Meta] (.n 21 [s_s_IndexOk] (.n 20 [s_s_RootOk] (.e) (.e)) (.n 22 [s_s_l3Pkgs] (.e) (.e))) (.n 25 [s_s_l6Open] (.n 24 [s_i_Pkg_copied] (.e) (.e)) (.n 26 [s_s_l71Trust] (.e) (.e)))) (.n 31 [s_i_RootOk] (.n 29 [s_s_l71Pkg] (.n 28 [s_s_l6Rd_pick] (.e) (.e)) (.n 30 [s_s_l12With] (.e) (.e))) (.n 33 [s_i_Index_same] (.n 32 [s_i_IndexOk] (.e) (.e)) (.e))))) (.n 50 [s_s_IndexOf] (.n 42 [s_s_l6In] (.n 38 [s_i_PkgText] (.n 36 [s_sl_IndexFunc_Pkg] (.n 35 [s_i_Pkg_compare] (.e) (.e)) (.n 37 [s_i_SumOf] (.e) (.e))) (.n 40 [s_s_l1Name] (.n 39 [s_s_PkgOk] (.e) (.e)) (.n 41 [s_s_l6Dec] (.e) (.e)))) (.n 46 [s_sl_Clone_File] (.n 44 [s_s_l3Less] (.n 43 [s_s_KeysOk] (.e) (.e)) (.n 45 [s_sl_Index_Meta] (.e) (.e))) (.n 48 [s_s_l71Root] (.n 47 [s_sl_Clone_Dep] (.e) (.e)) (.n 49 [s_s_l71Pkgs] (.e) (.e))))) (.n 58 [s_cmp_Or_int] (.n 54 [s_i_KeysOk] (.n 52 [s_s_l71Off] (.n 51 [s_s_l71Index] (.e) (.e)) (.n 53 [s_i_in] (.e) (.e))) (.n 56 [s_i_isVer] (.n 55 [s_i_isName] (.e) (.e)) (.n 57 [s_sl_Equal_Meta] (.e) (.e)))) (.n 66 [s_s_l71Keys] (.n 64 [s_s_l1Files] (.n 59 [s_cmp_Compare_int] (.e) (.e)) (.n 65 [s_s_l1Deps] (.e) (.e))) (.n 68 [s_cmp_isNaN_int] (.n 67 [s_s_l71Any] (.e) (.e)) (.e)))))
def eqL : List Nat := [40]
theorem tt_ok : tt.all (tyChk PP) = true := by kernel_rfl
theorem cfg_ok {C : Cfg} (h : C.tt = tt) : CfgOk PP C := fun t ti ht => tyChk_ok (Tr.get_all (p := tyChk PP) tt_ok (by rw [← h]; exact ht))
theorem eq_chk : eqL.all (fun t => match tt.get t with | some ti => chkEq PP t ti.zero | none => true) = true := by kernel_rfl
theorem eq_ok {C : Cfg} (ht : C.tt = tt) (he : C.eqt = eqL) : EqOk PP C := eqOk_of (by unfold Cfg.ty; rw [ht, he]; exact eq_chk)
theorem mixed : PP.follows .mixedOrders = true := by kernel_rfl

end V
end Go.Proofs.YtnaldhcdcpdbnaaDoor

/-
What the seat's functions come to, as statements; that the checker says so. Written by a program.
-/
namespace Go.Proofs.YtnaldhcdcpdbnaaDoor
namespace V

def p_s_l6Open : PC := .seq (.ss [.mv 2 (.c (.bad))]) (.seq (.seq (.ss [.mv 3 (.t 0), .len 4 (.t 3), .bin 5 .gtr (.t 4) (.c (.int .i64 2000))]) (.cond (.t 5) (.ss [.mv 6 (.t 0), .lsl 7 1 (.t 6) none (some (.c (.int .i64 2000))) none, .mv 0 (.t 7)]) (.skip))) (.seq (.ss [.mv 8 (.t 0), .bld 9 [.sl [], .int .i64 0] [(0, (.t 8))], .mv 10 (.t 9), .nop]) (.ret [10])))
def k_s_l6Open : Cfg := { tt := tt, sigs := sigs, mv := false, bm := [], eqt := eqL, keep := [true, false, true, false, false, true, false, false, false, false, true], n := 11, pin := [], fail := [], fz := [] }
theorem c_s_l6Open : cFun k_s_l6Open Tryd.f25 s_s_l6Open = some p_s_l6Open := by kernel_rfl
theorem F_s_l6Open {W : Wld} {ins outs : List (List D)} (h : pwp (FunOk PP W) p_s_l6Open (RetIs outs) (envL ins)) : FunOk PP W n_s_l6Open s_s_l6Open ins outs := fun_ok (C := k_s_l6Open) (cfg_ok rfl) (eq_ok rfl rfl) mixed Tryd.func25 (by kernel_rfl) (by kernel_rfl) c_s_l6Open h

def p_s_l71Pkg : PC := .seq (.ss [.bld 6 [.int .i64 0, .int .i64 0, .sl [], .sl []] []]) (.seq (.ss [.mv 11 (.t 1), .mv 12 (.t 2), .lit 13 0 [.int .i64 0, .int .i64 0] [], .lit 14 0 [.int .i64 0, .int .i64 0] [], .bld 15 [.int .i64 0, .int .i64 0, .sl [], .sl []] [(0, (.t 11)), (1, (.t 12)), (2, (.t 13)), (3, (.t 14))], .bld 7 [.int .i64 0, .int .i64 0, .sl [], .sl []] [], .st 7 0 (.t 15)]) (.seq (.ss [.nop, .call 17 n_s_l6Rd_pick s_s_l6Rd_pick [(.t 0), (.c (.int .i64 4))] [0], .mv 8 (.t 17)]) (.seq (.seq (.ss [.nop, .call 19 n_s_l6Rd_pick s_s_l6Rd_pick [(.t 0), (.c (.int .i64 3))] [0], .mv 9 (.t 19)]) (.block 0 (.loop (.seq (.seq (.ss [.mv 20 (.t 9), .bin 21 .gtr (.t 20) (.c (.int .i64 0)), .mv 22 (.t 21), .g 22 true 23 (.mv 23 (.t 8)), .g 22 true 24 (.bin 24 .lss (.t 23) (.c (.int .i64 6))), .pick 25 (.t 22) (.t 24) (.c (.bool false))]) (.cond (.t 25) (.skip) (.exit 0))) (.seq (.block 1 (.seq (.ss [.nop, .sub 29 7 2 1, .mv 30 (.t 8), .nop, .call 32 n_s_l6Rd_pick s_s_l6Rd_pick [(.t 0), (.c (.int .i64 10))] [0], .bld 33 [.int .i64 0, .int .i64 0] [(0, (.t 30)), (1, (.t 32))], .lit 34 1 [.int .i64 0, .int .i64 0] [(0, (.t 33))], .app 35 2 true (.t 29) (.t 34), .nop, .st 7 2 (.t 35)]) (.ss [.mv 37 (.t 8), .bin 38 .add (.t 37) (.c (.int .i64 1)), .nop, .call 40 n_s_l6Rd_pick s_s_l6Rd_pick [(.t 0), (.c (.int .i64 3))] [0], .bin 41 .add (.t 38) (.t 40), .mv 8 (.t 41)]))) (.ss [.mv 26 (.t 9), .bin 27 .sub (.t 26) (.c (.int .i64 1)), .mv 9 (.t 27)])))))) (.seq (.seq (.ss [.mv 10 (.c (.int .i64 1))]) (.block 2 (.loop (.seq (.seq (.ss [.mv 42 (.t 10), .bin 43 .leq (.t 42) (.c (.int .i64 4)), .mv 44 (.t 43), .g 44 true 45 (.nop), .g 44 true 46 (.sub 46 7 3 1), .g 44 true 47 (.len 47 (.t 46)), .g 44 true 48 (.bin 48 .lss (.t 47) (.c (.int .i64 2))), .pick 49 (.t 44) (.t 48) (.c (.bool false))]) (.cond (.t 49) (.skip) (.exit 2))) (.seq (.block 3 (.seq (.ss [.mv 52 (.t 10), .mv 53 (.t 1), .bin 54 .neq (.t 52) (.t 53), .mv 55 (.t 54), .g 55 true 56 (.nop), .g 55 true 57 (.call 57 n_s_l6Rd_pick s_s_l6Rd_pick [(.t 0), (.c (.int .i64 6))] [0]), .g 55 true 58 (.bin 58 .eql (.t 57) (.c (.int .i64 0))), .pick 59 (.t 55) (.t 58) (.c (.bool false))]) (.cond (.t 59) (.ss [.nop, .sub 61 7 3 1, .mv 62 (.t 10), .nop, .call 64 n_s_l6Rd_pick s_s_l6Rd_pick [(.t 0), (.c (.int .i64 2))] [0], .bin 65 .add (.c (.int .i64 1)) (.t 64), .bld 66 [.int .i64 0, .int .i64 0] [(0, (.t 62)), (1, (.t 65))], .lit 67 1 [.int .i64 0, .int .i64 0] [(0, (.t 66))], .app 68 2 true (.t 61) (.t 67), .nop, .st 7 3 (.t 68)]) (.skip)))) (.ss [.mv 50 (.t 10), .bin 51 .add (.t 50) (.c (.int .i64 1)), .mv 10 (.t 51)])))))) (.seq (.ss [.sub 70 7 0 4, .st 6 0 (.t 70)]) (.ret [6, 0]))))))
def k_s_l71Pkg : Cfg := { tt := tt, sigs := sigs, mv := false, bm := [], eqt := eqL, keep := [true, true, true, false, false, false, true, true, true, true, true, false, false, false, false, false, false, false, false, false, false, false, false, false, false, true, false, false, false, false, false, false, false, false, false, false, false, false, false, false, false, false, false, false, false, false, false, false, false, true, false, false, false, false, false, false, false, false, false, true, false, false, false, false, false, false, false, false, false, false, false], n := 71, pin := [0], fail := [], fz := [] }
theorem c_s_l71Pkg : cFun k_s_l71Pkg Tryd.f29 s_s_l71Pkg = some p_s_l71Pkg := by kernel_rfl
theorem F_s_l71Pkg {W : Wld} {ins outs : List (List D)} (h : pwp (FunOk PP W) p_s_l71Pkg (RetIs outs) (envL ins)) : FunOk PP W n_s_l71Pkg s_s_l71Pkg ins outs := fun_ok (C := k_s_l71Pkg) (cfg_ok rfl) (eq_ok rfl rfl) mixed Tryd.func29 (by kernel_rfl) (by kernel_rfl) c_s_l71Pkg h

def p_s_l71Any : PC := .seq (.ss [.bld 2 [.int .i64 0, .int .i64 0, .sl [], .sl []] []]) (.seq (.ss [.nop, .nop, .call 6 n_s_l6Rd_pick s_s_l6Rd_pick [(.t 0), (.c (.int .i64 4))] [0], .bin 7 .add (.c (.int .i64 1)) (.t 6), .nop, .call 9 n_s_l6Rd_pick s_s_l6Rd_pick [(.t 0), (.c (.int .i64 3))] [0], .bin 10 .add (.c (.int .i64 1)) (.t 9), .call 11 n_s_l71Pkg s_s_l71Pkg [(.t 0), (.t 7), (.t 10)] [0], .bld 3 [.int .i64 0, .int .i64 0, .sl [], .sl []] [], .st 3 0 (.t 11)]) (.seq (.seq (.ss [.nop, .call 13 n_s_l6Rd_pick s_s_l6Rd_pick [(.t 0), (.c (.int .i64 20))] [0]]) (.block 0 (.seq (.ss [.bin 15 .eql (.t 13) (.c (.int .i64 0)), .mv 14 (.t 15)]) (.cond (.t 14) (.ss [.lit 16 2 [.int .i64 0] [(0, (.c (.int .i64 0))), (1, (.c (.int .i64 5)))], .nop, .call 18 n_s_l6Rd_pick s_s_l6Rd_pick [(.t 0), (.c (.int .i64 2))] [0], .elp 19 (.t 16) (.t 18) 1, .eld 20 19 0 [.int .i64 0], .nop, .st 3 0 (.t 20)]) (.seq (.ss [.bin 23 .eql (.t 13) (.c (.int .i64 1)), .mv 22 (.t 23)]) (.cond (.t 22) (.ss [.lit 24 2 [.int .i64 0] [(0, (.c (.int .i64 0))), (1, (.c (.int .i64 6)))], .nop, .call 26 n_s_l6Rd_pick s_s_l6Rd_pick [(.t 0), (.c (.int .i64 2))] [0], .elp 27 (.t 24) (.t 26) 1, .eld 28 27 0 [.int .i64 0], .nop, .st 3 1 (.t 28)]) (.seq (.ss [.bin 31 .eql (.t 13) (.c (.int .i64 2)), .mv 30 (.t 31)]) (.cond (.t 30) (.ss [.nop, .sub 33 3 2 1, .nop, .call 35 n_s_l6Rd_pick s_s_l6Rd_pick [(.t 0), (.c (.int .i64 7))] [0], .nop, .call 37 n_s_l6Rd_pick s_s_l6Rd_pick [(.t 0), (.c (.int .i64 12))] [0], .bld 38 [.int .i64 0, .int .i64 0] [(0, (.t 35)), (1, (.t 37))], .lit 39 1 [.int .i64 0, .int .i64 0] [(0, (.t 38))], .app 40 2 true (.t 33) (.t 39), .nop, .st 3 2 (.t 40)]) (.seq (.ss [.bin 43 .eql (.t 13) (.c (.int .i64 3)), .mv 42 (.t 43)]) (.cond (.t 42) (.ss [.nop, .sub 45 3 3 1, .nop, .call 47 n_s_l6Rd_pick s_s_l6Rd_pick [(.t 0), (.c (.int .i64 6))] [0], .nop, .call 49 n_s_l6Rd_pick s_s_l6Rd_pick [(.t 0), (.c (.int .i64 7))] [0], .bld 50 [.int .i64 0, .int .i64 0] [(0, (.t 47)), (1, (.t 49))], .lit 51 1 [.int .i64 0, .int .i64 0] [(0, (.t 50))], .app 52 2 true (.t 45) (.t 51), .nop, .st 3 3 (.t 52)]) (.skip))))))))))) (.seq (.ss [.sub 54 3 0 4, .st 2 0 (.t 54)]) (.ret [2, 0]))))
def k_s_l71Any : Cfg := { tt := tt, sigs := sigs, mv := false, bm := [], eqt := eqL, keep := [true, false, true, true, false, false, false, false, false, false, false, false, false, true, true, false, false, false, false, false, false, false, true, false, false, false, false, false, false, false, true, false, false, false, false, false, false, false, false, false, false, false, true, false, false, false, false, false, false, false, false, false, false, false, false], n := 55, pin := [0], fail := [], fz := [] }
theorem c_s_l71Any : cFun k_s_l71Any Tryd.f67 s_s_l71Any = some p_s_l71Any := by kernel_rfl
theorem F_s_l71Any {W : Wld} {ins outs : List (List D)} (h : pwp (FunOk PP W) p_s_l71Any (RetIs outs) (envL ins)) : FunOk PP W n_s_l71Any s_s_l71Any ins outs := fun_ok (C := k_s_l71Any) (cfg_ok rfl) (eq_ok rfl rfl) mixed Tryd.func67 (by kernel_rfl) (by kernel_rfl) c_s_l71Any h

def p_s_IndexOf : PC := .seq (.ss [.bld 6 [.int .i64 0, .int .i64 0, .sl []] [], .mv 7 (.c (.bool false))]) (.seq (.ss [.mv 10 (.t 0), .mv 11 (.t 1), .lit 12 0 [.int .i64 0, .int .i64 0, .int .i64 0] [], .bld 13 [.int .i64 0, .int .i64 0, .sl []] [(0, (.t 10)), (1, (.t 11)), (2, (.t 12))], .bld 8 [.int .i64 0, .int .i64 0, .sl []] [], .st 8 0 (.t 13)]) (.seq (.seq (.ss [.mv 14 (.t 2), .call 15 n_s_l3Pkgs s_s_l3Pkgs [(.t 14)] [], .un 16 .not (.t 15)]) (.cond (.t 16) (.seq (.ss [.bld 17 [.int .i64 0, .int .i64 0, .sl []] [], .st 6 0 (.t 17), .mv 7 (.c (.bool false))]) (.ret [6, 7])) (.skip))) (.seq (.seq (.ss [.mv 9 (.c (.int .i64 0))]) (.block 0 (.loop (.seq (.seq (.ss [.mv 18 (.t 9), .mv 19 (.t 2), .len 20 (.t 19), .bin 21 .lss (.t 18) (.t 20)]) (.cond (.t 21) (.skip) (.exit 0))) (.seq (.block 1 (.ss [.nop, .sub 25 8 2 1, .mv 26 (.t 2), .mv 27 (.t 9), .elp 28 (.t 26) (.t 27) 4, .mv 29 (.t 28), .eld 30 29 0 [.int .i64 0], .mv 31 (.t 2), .mv 32 (.t 9), .elp 33 (.t 31) (.t 32) 4, .mv 34 (.t 33), .eld 35 34 1 [.int .i64 0], .mv 36 (.t 2), .mv 37 (.t 9), .elp 38 (.t 36) (.t 37) 4, .eld 39 38 0 [.int .i64 0, .int .i64 0, .sl [], .sl []], .call 40 n_s_PkgText s_s_PkgText [(.t 39)] [], .call 41 n_s_SumOf s_s_SumOf [(.t 40)] [], .bld 42 [.int .i64 0, .int .i64 0, .int .i64 0] [(0, (.t 30)), (1, (.t 35)), (2, (.t 41))], .lit 43 1 [.int .i64 0, .int .i64 0, .int .i64 0] [(0, (.t 42))], .app 44 3 true (.t 25) (.t 43), .nop, .st 8 2 (.t 44)])) (.ss [.mv 22 (.t 9), .bin 23 .add (.t 22) (.c (.int .i64 1)), .mv 9 (.t 23)])))))) (.seq (.seq (.ss [.sub 46 8 0 3, .call 47 n_s_IndexOk s_s_IndexOk [(.t 46)] [], .un 48 .not (.t 47)]) (.cond (.t 48) (.seq (.ss [.bld 49 [.int .i64 0, .int .i64 0, .sl []] [], .st 6 0 (.t 49), .mv 7 (.c (.bool false))]) (.ret [6, 7])) (.skip))) (.seq (.ss [.sub 50 8 0 3, .st 6 0 (.t 50), .mv 7 (.c (.bool true))]) (.ret [6, 7]))))))
def k_s_IndexOf : Cfg := { tt := tt, sigs := sigs, mv := false, bm := [], eqt := eqL, keep := [true, true, true, false, false, false, true, true, true, true, false, false, false, false, false, false, true, false, false, false, false, true, false, false, false, false, false, false, false, false, false, false, false, false, false, false, false, false, false, false, false, false, false, false, false, false, false, false, true, false, false], n := 51, pin := [], fail := [], fz := [] }
theorem c_s_IndexOf : cFun k_s_IndexOf Tryd.f50 s_s_IndexOf = some p_s_IndexOf := by kernel_rfl
theorem F_s_IndexOf {W : Wld} {ins outs : List (List D)} (h : pwp (FunOk PP W) p_s_IndexOf (RetIs outs) (envL ins)) : FunOk PP W n_s_IndexOf s_s_IndexOf ins outs := fun_ok (C := k_s_IndexOf) (cfg_ok rfl) (eq_ok rfl rfl) mixed Tryd.func50 (by kernel_rfl) (by kernel_rfl) c_s_IndexOf h

def p_s_l71Index : PC := .seq (.ss [.bld 2 [.int .i64 0, .int .i64 0, .sl []] []]) (.seq (.ss [.nop, .call 7 n_s_l6Rd_pick s_s_l6Rd_pick [(.t 0), (.c (.int .i64 6))] [0], .bin 8 .add (.c (.int .i64 1)) (.t 7), .nop, .call 10 n_s_l6Rd_pick s_s_l6Rd_pick [(.t 0), (.c (.int .i64 12))] [0], .nop, .call 12 n_s_l71Pkgs s_s_l71Pkgs [(.t 0)] [0], .call 13 n_s_IndexOf s_s_IndexOf [(.t 8), (.t 10), (.t 12)] [], .mv 5 (.t 13), .ext 14 5 0 3, .ext 15 5 3 1, .bld 3 [.int .i64 0, .int .i64 0, .sl []] [], .st 3 0 (.t 14), .mv 4 (.t 15)]) (.seq (.seq (.ss [.nop, .call 17 n_s_l6Rd_pick s_s_l6Rd_pick [(.t 0), (.c (.int .i64 16))] [0]]) (.block 0 (.seq (.ss [.bin 19 .eql (.t 17) (.c (.int .i64 0)), .mv 18 (.t 19)]) (.cond (.t 18) (.ss [.lit 20 3 [.int .i64 0] [(0, (.c (.int .i64 0))), (1, (.c (.int .i64 30))), (2, (.c (.int .i64 31)))], .nop, .call 22 n_s_l6Rd_pick s_s_l6Rd_pick [(.t 0), (.c (.int .i64 3))] [0], .elp 23 (.t 20) (.t 22) 1, .eld 24 23 0 [.int .i64 0], .nop, .st 3 0 (.t 24)]) (.seq (.ss [.bin 27 .eql (.t 17) (.c (.int .i64 1)), .mv 26 (.t 27)]) (.cond (.t 26) (.ss [.lit 28 3 [.int .i64 0] [(0, (.c (.int .i64 (-1)))), (1, (.c (.int .i64 60))), (2, (.c (.int .i64 61)))], .nop, .call 30 n_s_l6Rd_pick s_s_l6Rd_pick [(.t 0), (.c (.int .i64 3))] [0], .elp 31 (.t 28) (.t 30) 1, .eld 32 31 0 [.int .i64 0], .nop, .st 3 1 (.t 32)]) (.seq (.ss [.bin 35 .eql (.t 17) (.c (.int .i64 2)), .mv 34 (.t 35)]) (.cond (.t 34) (.ss [.nop, .sub 37 3 2 1, .nop, .call 39 n_s_l6Rd_pick s_s_l6Rd_pick [(.t 0), (.c (.int .i64 4))] [0], .bin 40 .add (.c (.int .i64 1)) (.t 39), .nop, .call 42 n_s_l6Rd_pick s_s_l6Rd_pick [(.t 0), (.c (.int .i64 4))] [0], .bin 43 .add (.c (.int .i64 1)) (.t 42), .nop, .call 45 n_s_l6Rd_pick s_s_l6Rd_pick [(.t 0), (.c (.int .i64 9973))] [0], .bld 46 [.int .i64 0, .int .i64 0, .int .i64 0] [(0, (.t 40)), (1, (.t 43)), (2, (.t 45))], .lit 47 1 [.int .i64 0, .int .i64 0, .int .i64 0] [(0, (.t 46))], .app 48 3 true (.t 37) (.t 47), .nop, .st 3 2 (.t 48)]) (.skip))))))))) (.seq (.ss [.sub 50 3 0 3, .st 2 0 (.t 50)]) (.ret [2, 0]))))
def k_s_l71Index : Cfg := { tt := tt, sigs := sigs, mv := false, bm := [], eqt := eqL, keep := [true, false, true, true, false, false, false, false, false, false, false, false, false, false, false, false, false, true, true, false, false, false, false, false, false, false, true, false, false, false, false, false, false, false, true, false, false, false, false, false, false, false, false, false, false, false, false, false, false, false, false], n := 51, pin := [0], fail := [], fz := [] }
theorem c_s_l71Index : cFun k_s_l71Index Tryd.f51 s_s_l71Index = some p_s_l71Index := by kernel_rfl
theorem F_s_l71Index {W : Wld} {ins outs : List (List D)} (h : pwp (FunOk PP W) p_s_l71Index (RetIs outs) (envL ins)) : FunOk PP W n_s_l71Index s_s_l71Index ins outs := fun_ok (C := k_s_l71Index) (cfg_ok rfl) (eq_ok rfl rfl) mixed Tryd.func51 (by kernel_rfl) (by kernel_rfl) c_s_l71Index h

def p_s_l71Root : PC := .seq (.ss [.bld 2 [.int .i64 0, .sl [], .int .i64 0] []]) (.seq (.ss [.nop, .call 6 n_s_l71Keys s_s_l71Keys [(.t 0)] [0], .mv 3 (.t 6)]) (.seq (.seq (.ss [.mv 7 (.t 3), .len 8 (.t 7), .bin 9 .eql (.t 8) (.c (.int .i64 0))]) (.cond (.t 9) (.ss [.nop, .call 11 n_s_l6Rd_pick s_s_l6Rd_pick [(.t 0), (.c (.int .i64 6))] [0], .bin 12 .add (.c (.int .i64 1)) (.t 11), .lit 13 1 [.int .i64 0] [(0, (.t 12))], .mv 3 (.t 13)]) (.skip))) (.seq (.ss [.nop, .call 15 n_s_l6Rd_pick s_s_l6Rd_pick [(.t 0), (.c (.int .i64 3))] [0], .bin 16 .add (.c (.int .i64 1)) (.t 15), .mv 17 (.t 3), .nop, .mv 19 (.t 3), .len 20 (.t 19), .call 21 n_s_l6Rd_pick s_s_l6Rd_pick [(.t 0), (.t 20)] [0], .bin 22 .add (.c (.int .i64 1)) (.t 21), .bld 23 [.int .i64 0, .sl [], .int .i64 0] [(0, (.t 16)), (1, (.t 17)), (2, (.t 22))], .bld 4 [.int .i64 0, .sl [], .int .i64 0] [], .st 4 0 (.t 23)]) (.seq (.seq (.ss [.nop, .call 25 n_s_l6Rd_pick s_s_l6Rd_pick [(.t 0), (.c (.int .i64 20))] [0]]) (.block 0 (.seq (.ss [.bin 27 .eql (.t 25) (.c (.int .i64 0)), .mv 26 (.t 27)]) (.cond (.t 26) (.ss [.lit 28 3 [.int .i64 0] [(0, (.c (.int .i64 0))), (1, (.c (.int .i64 9))), (2, (.c (.int .i64 10)))], .nop, .call 30 n_s_l6Rd_pick s_s_l6Rd_pick [(.t 0), (.c (.int .i64 3))] [0], .elp 31 (.t 28) (.t 30) 1, .eld 32 31 0 [.int .i64 0], .nop, .st 4 0 (.t 32)]) (.seq (.ss [.bin 35 .eql (.t 25) (.c (.int .i64 1)), .mv 34 (.t 35)]) (.cond (.t 34) (.ss [.mv 36 (.t 3), .len 37 (.t 36), .bin 38 .add (.t 37) (.c (.int .i64 1)), .lit 39 2 [.int .i64 0] [(0, (.c (.int .i64 0))), (1, (.t 38))], .nop, .call 41 n_s_l6Rd_pick s_s_l6Rd_pick [(.t 0), (.c (.int .i64 2))] [0], .elp 42 (.t 39) (.t 41) 1, .eld 43 42 0 [.int .i64 0], .nop, .st 4 2 (.t 43)]) (.skip))))))) (.seq (.ss [.sub 45 4 0 3, .st 2 0 (.t 45)]) (.ret [2, 0]))))))
def k_s_l71Root : Cfg := { tt := tt, sigs := sigs, mv := false, bm := [], eqt := eqL, keep := [true, false, true, true, true, false, false, false, false, true, false, false, false, false, false, false, false, false, false, false, false, false, false, false, false, true, true, false, false, false, false, false, false, false, true, false, false, false, false, false, false, false, false, false, false, false], n := 46, pin := [0], fail := [], fz := [] }
theorem c_s_l71Root : cFun k_s_l71Root Tryd.f48 s_s_l71Root = some p_s_l71Root := by kernel_rfl
theorem F_s_l71Root {W : Wld} {ins outs : List (List D)} (h : pwp (FunOk PP W) p_s_l71Root (RetIs outs) (envL ins)) : FunOk PP W n_s_l71Root s_s_l71Root ins outs := fun_ok (C := k_s_l71Root) (cfg_ok rfl) (eq_ok rfl rfl) mixed Tryd.func48 (by kernel_rfl) (by kernel_rfl) c_s_l71Root h

def p_s_l71Keys : PC := .seq (.ss [.mv 2 (.c (.sl []))]) (.seq (.ss [.lit 5 0 [.int .i64 0] [], .mv 3 (.t 5)]) (.seq (.seq (.ss [.mv 4 (.c (.int .i64 1))]) (.block 0 (.loop (.seq (.seq (.ss [.mv 6 (.t 4), .bin 7 .leq (.t 6) (.c (.int .i64 6))]) (.cond (.t 7) (.skip) (.exit 0))) (.seq (.block 1 (.seq (.ss [.nop, .call 11 n_s_l6Rd_pick s_s_l6Rd_pick [(.t 0), (.c (.int .i64 2))] [0], .bin 12 .eql (.t 11) (.c (.int .i64 0))]) (.cond (.t 12) (.ss [.mv 13 (.t 3), .mv 14 (.t 4), .lit 15 1 [.int .i64 0] [(0, (.t 14))], .app 16 1 true (.t 13) (.t 15), .mv 3 (.t 16)]) (.skip)))) (.ss [.mv 8 (.t 4), .bin 9 .add (.t 8) (.c (.int .i64 1)), .mv 4 (.t 9)])))))) (.seq (.seq (.ss [.nop, .call 18 n_s_l6Rd_pick s_s_l6Rd_pick [(.t 0), (.c (.int .i64 16))] [0], .bin 19 .eql (.t 18) (.c (.int .i64 0))]) (.cond (.t 19) (.ss [.mv 20 (.t 3), .lit 21 3 [.int .i64 0] [(0, (.c (.int .i64 0))), (1, (.c (.int .i64 7))), (2, (.c (.int .i64 1)))], .nop, .call 23 n_s_l6Rd_pick s_s_l6Rd_pick [(.t 0), (.c (.int .i64 3))] [0], .elp 24 (.t 21) (.t 23) 1, .eld 25 24 0 [.int .i64 0], .lit 26 1 [.int .i64 0] [(0, (.t 25))], .app 27 1 true (.t 20) (.t 26), .mv 3 (.t 27)]) (.skip))) (.seq (.ss [.mv 28 (.t 3), .mv 2 (.t 28)]) (.ret [2, 0])))))
def k_s_l71Keys : Cfg := { tt := tt, sigs := sigs, mv := false, bm := [], eqt := eqL, keep := [true, false, true, true, true, false, false, true, false, false, false, false, true, false, false, false, false, false, false, true, false, false, false, false, false, false, false, false, false], n := 29, pin := [0], fail := [], fz := [] }
theorem c_s_l71Keys : cFun k_s_l71Keys Tryd.f66 s_s_l71Keys = some p_s_l71Keys := by kernel_rfl
theorem F_s_l71Keys {W : Wld} {ins outs : List (List D)} (h : pwp (FunOk PP W) p_s_l71Keys (RetIs outs) (envL ins)) : FunOk PP W n_s_l71Keys s_s_l71Keys ins outs := fun_ok (C := k_s_l71Keys) (cfg_ok rfl) (eq_ok rfl rfl) mixed Tryd.func66 (by kernel_rfl) (by kernel_rfl) c_s_l71Keys h

def p_s_l71Off : PC := .seq (.ss [.mv 2 (.c (.sl []))]) (.seq (.ss [.nop, .call 5 n_s_l71Pkgs s_s_l71Pkgs [(.t 0)] [0], .mv 3 (.t 5)]) (.seq (.seq (.ss [.nop, .call 7 n_s_l6Rd_pick s_s_l6Rd_pick [(.t 0), (.c (.int .i64 20))] [0]]) (.block 0 (.seq (.ss [.bin 9 .eql (.t 7) (.c (.int .i64 0)), .mv 8 (.t 9)]) (.cond (.t 8) (.ss [.mv 10 (.t 3), .nop, .call 12 n_s_l71Any s_s_l71Any [(.t 0)] [0], .lit 13 1 [.int .i64 0, .int .i64 0, .sl [], .sl []] [(0, (.t 12))], .app 14 4 false (.t 10) (.t 13), .mv 3 (.t 14)]) (.seq (.ss [.bin 16 .eql (.t 7) (.c (.int .i64 1)), .mv 15 (.t 16)]) (.cond (.t 15) (.seq (.ss [.mv 17 (.t 3), .len 18 (.t 17), .bin 19 .gtr (.t 18) (.c (.int .i64 0))]) (.cond (.t 19) (.ss [.mv 20 (.t 3), .nop, .mv 22 (.t 3), .len 23 (.t 22), .call 24 n_s_l6Rd_pick s_s_l6Rd_pick [(.t 0), (.t 23)] [0], .nop, .call 26 n_s_l71Any s_s_l71Any [(.t 0)] [0], .elp 27 (.t 20) (.t 24) 4, .els 27 0 3 0 (.t 26)]) (.skip))) (.skip))))))) (.seq (.ss [.mv 28 (.t 3), .mv 2 (.t 28)]) (.ret [2, 0]))))
def k_s_l71Off : Cfg := { tt := tt, sigs := sigs, mv := false, bm := [], eqt := eqL, keep := [true, false, true, true, false, false, false, true, true, false, false, false, false, false, false, true, false, false, false, true, false, false, false, false, false, false, false, false, false], n := 29, pin := [0], fail := [], fz := [] }
theorem c_s_l71Off : cFun k_s_l71Off Tryd.f52 s_s_l71Off = some p_s_l71Off := by kernel_rfl
theorem F_s_l71Off {W : Wld} {ins outs : List (List D)} (h : pwp (FunOk PP W) p_s_l71Off (RetIs outs) (envL ins)) : FunOk PP W n_s_l71Off s_s_l71Off ins outs := fun_ok (C := k_s_l71Off) (cfg_ok rfl) (eq_ok rfl rfl) mixed Tryd.func52 (by kernel_rfl) (by kernel_rfl) c_s_l71Off h

def p_s_l71Pkgs : PC := .seq (.ss [.mv 2 (.c (.sl []))]) (.seq (.ss [.lit 6 0 [.int .i64 0, .int .i64 0, .sl [], .sl []] [], .mv 3 (.t 6)]) (.seq (.seq (.ss [.nop, .call 8 n_s_l6Rd_pick s_s_l6Rd_pick [(.t 0), (.c (.int .i64 8))] [0], .mv 4 (.t 8)]) (.block 0 (.loop (.seq (.seq (.ss [.mv 9 (.t 4), .bin 10 .gtr (.t 9) (.c (.int .i64 0))]) (.cond (.t 10) (.skip) (.exit 0))) (.seq (.block 1 (.seq (.ss [.nop, .nop, .call 15 n_s_l6Rd_pick s_s_l6Rd_pick [(.t 0), (.c (.int .i64 4))] [0], .bin 16 .add (.c (.int .i64 1)) (.t 15), .nop, .call 18 n_s_l6Rd_pick s_s_l6Rd_pick [(.t 0), (.c (.int .i64 3))] [0], .bin 19 .add (.c (.int .i64 1)) (.t 18), .call 20 n_s_l71Pkg s_s_l71Pkg [(.t 0), (.t 16), (.t 19)] [0], .bld 5 [.int .i64 0, .int .i64 0, .sl [], .sl []] [], .st 5 0 (.t 20)]) (.seq (.ss [.mv 21 (.t 3), .nop, .sub 23 5 0 1, .nop, .sub 25 5 1 1, .call 26 n_s_l12Find s_s_l12Find [(.t 21), (.t 23), (.t 25)] [], .bin 27 .lss (.t 26) (.c (.int .i64 0))]) (.cond (.t 27) (.ss [.mv 28 (.t 3), .sub 29 5 0 4, .call 30 n_s_l12With s_s_l12With [(.t 28), (.t 29)] [], .mv 3 (.t 30)]) (.skip))))) (.ss [.mv 11 (.t 4), .bin 12 .sub (.t 11) (.c (.int .i64 1)), .mv 4 (.t 12)])))))) (.seq (.ss [.mv 31 (.t 3), .mv 2 (.t 31)]) (.ret [2, 0]))))
def k_s_l71Pkgs : Cfg := { tt := tt, sigs := sigs, mv := false, bm := [6], eqt := eqL, keep := [true, false, true, true, true, true, false, false, false, false, true, false, false, false, false, false, false, false, false, false, false, false, false, false, false, false, false, true, false, false, false, false], n := 32, pin := [0], fail := [], fz := [] }
theorem c_s_l71Pkgs : cFun k_s_l71Pkgs Tryd.f49 s_s_l71Pkgs = some p_s_l71Pkgs := by kernel_rfl
theorem F_s_l71Pkgs {W : Wld} {ins outs : List (List D)} (h : pwp (FunOk PP W) p_s_l71Pkgs (RetIs outs) (envL ins)) : FunOk PP W n_s_l71Pkgs s_s_l71Pkgs ins outs := fun_ok (C := k_s_l71Pkgs) (cfg_ok rfl) (eq_ok rfl rfl) mixed Tryd.func49 (by kernel_rfl) (by kernel_rfl) c_s_l71Pkgs h

def p_s_l12With : PC := .seq (.ss [.mv 3 (.t 1), .mv 4 (.c (.sl []))]) (.seq (.ss [.lit 8 0 [.int .i64 0, .int .i64 0, .sl [], .sl []] [], .mv 5 (.t 8)]) (.seq (.seq (.ss [.mv 6 (.c (.int .i64 0))]) (.block 0 (.loop (.seq (.seq (.ss [.mv 9 (.t 6), .mv 10 (.t 0), .len 11 (.t 10), .bin 12 .lss (.t 9) (.t 11)]) (.cond (.t 12) (.skip) (.exit 0))) (.seq (.block 1 (.seq (.ss [.mv 15 (.t 0), .mv 16 (.t 6), .elp 17 (.t 15) (.t 16) 4, .mv 18 (.t 17), .eld 19 18 0 [.int .i64 0], .mv 20 (.t 0), .mv 21 (.t 6), .elp 22 (.t 20) (.t 21) 4, .mv 23 (.t 22), .eld 24 23 1 [.int .i64 0], .nop, .sub 26 3 0 1, .nop, .sub 28 3 1 1, .call 29 n_s_l3Less s_s_l3Less [(.t 19), (.t 24), (.t 26), (.t 28)] []]) (.cond (.t 29) (.ss [.mv 30 (.t 5), .mv 31 (.t 0), .mv 32 (.t 6), .elp 33 (.t 31) (.t 32) 4, .eld 34 33 0 [.int .i64 0, .int .i64 0, .sl [], .sl []], .lit 35 1 [.int .i64 0, .int .i64 0, .sl [], .sl []] [(0, (.t 34))], .app 36 4 false (.t 30) (.t 35), .mv 5 (.t 36)]) (.skip)))) (.ss [.mv 13 (.t 6), .bin 14 .add (.t 13) (.c (.int .i64 1)), .mv 6 (.t 14)])))))) (.seq (.ss [.mv 37 (.t 5), .sub 38 3 0 4, .lit 39 1 [.int .i64 0, .int .i64 0, .sl [], .sl []] [(0, (.t 38))], .app 40 4 false (.t 37) (.t 39), .mv 5 (.t 40)]) (.seq (.seq (.ss [.mv 7 (.c (.int .i64 0))]) (.block 2 (.loop (.seq (.seq (.ss [.mv 41 (.t 7), .mv 42 (.t 0), .len 43 (.t 42), .bin 44 .lss (.t 41) (.t 43)]) (.cond (.t 44) (.skip) (.exit 2))) (.seq (.block 3 (.seq (.ss [.nop, .sub 48 3 0 1, .nop, .sub 50 3 1 1, .mv 51 (.t 0), .mv 52 (.t 7), .elp 53 (.t 51) (.t 52) 4, .mv 54 (.t 53), .eld 55 54 0 [.int .i64 0], .mv 56 (.t 0), .mv 57 (.t 7), .elp 58 (.t 56) (.t 57) 4, .mv 59 (.t 58), .eld 60 59 1 [.int .i64 0], .call 61 n_s_l3Less s_s_l3Less [(.t 48), (.t 50), (.t 55), (.t 60)] []]) (.cond (.t 61) (.ss [.mv 62 (.t 5), .mv 63 (.t 0), .mv 64 (.t 7), .elp 65 (.t 63) (.t 64) 4, .eld 66 65 0 [.int .i64 0, .int .i64 0, .sl [], .sl []], .lit 67 1 [.int .i64 0, .int .i64 0, .sl [], .sl []] [(0, (.t 66))], .app 68 4 false (.t 62) (.t 67), .mv 5 (.t 68)]) (.skip)))) (.ss [.mv 45 (.t 7), .bin 46 .add (.t 45) (.c (.int .i64 1)), .mv 7 (.t 46)])))))) (.seq (.ss [.mv 69 (.t 5), .mv 4 (.t 69)]) (.ret [4]))))))
def k_s_l12With : Cfg := { tt := tt, sigs := sigs, mv := false, bm := [8], eqt := eqL, keep := [true, true, false, true, true, true, true, true, false, false, false, false, true, false, false, false, false, false, false, false, false, false, false, false, false, false, false, false, false, true, false, false, false, false, false, false, false, false, false, false, false, false, false, false, true, false, false, false, false, false, false, false, false, false, false, false, false, false, false, false, false, true, false, false, false, false, false, false, false, false], n := 70, pin := [], fail := [], fz := [] }
theorem c_s_l12With : cFun k_s_l12With Tryd.f30 s_s_l12With = some p_s_l12With := by kernel_rfl
theorem F_s_l12With {W : Wld} {ins outs : List (List D)} (h : pwp (FunOk PP W) p_s_l12With (RetIs outs) (envL ins)) : FunOk PP W n_s_l12With s_s_l12With ins outs := fun_ok (C := k_s_l12With) (cfg_ok rfl) (eq_ok rfl rfl) mixed Tryd.func30 (by kernel_rfl) (by kernel_rfl) c_s_l12With h

def p_i_StoreLacks_1 : PC := .seq (.ss [.mv 2 (.t 0), .mv 3 (.c (.bool false))]) (.seq (.ss [.sub 4 2 0 4, .call 5 n_i_metaOf s_i_metaOf [(.t 4)] [], .sub 6 1 0 3, .eqs 7 false [.int .i64 0, .int .i64 0, .int .i64 0] (.t 5) (.t 6), .mv 3 (.t 7)]) (.ret [3]))
def k_i_StoreLacks_1 : Cfg := { tt := tt, sigs := sigs, mv := false, bm := [], eqt := eqL, keep := [true, true, true, true, false, false, false, false], n := 8, pin := [], fail := [], fz := [] }
theorem c_i_StoreLacks_1 : cFun k_i_StoreLacks_1 Tryd.f15 s_i_StoreLacks_1 = some p_i_StoreLacks_1 := by kernel_rfl
theorem F_i_StoreLacks_1 {W : Wld} {ins outs : List (List D)} (h : pwp (FunOk PP W) p_i_StoreLacks_1 (RetIs outs) (envL ins)) : FunOk PP W n_i_StoreLacks_1 s_i_StoreLacks_1 ins outs := fun_ok (C := k_i_StoreLacks_1) (cfg_ok rfl) (eq_ok rfl rfl) mixed Tryd.func15 (by kernel_rfl) (by kernel_rfl) c_i_StoreLacks_1 h

def p_sl_ContainsFunc_Pkg : PC := .seq (.ss [.mv 4 (.c (.bool false))]) (.seq (.ss [.mv 5 (.t 0), .mv 6 (.t 1), .call 7 n_sl_IndexFunc_Pkg s_sl_IndexFunc_Pkg [(.t 5), (.t 6)] [], .bin 8 .geq (.t 7) (.c (.int .i64 0)), .mv 4 (.t 8)]) (.ret [4]))
def k_sl_ContainsFunc_Pkg : Cfg := { tt := tt, sigs := sigs, mv := false, bm := [], eqt := eqL, keep := [true, true, false, false, true, false, false, false, false], n := 9, pin := [], fail := [], fz := [] }
theorem c_sl_ContainsFunc_Pkg : cFun k_sl_ContainsFunc_Pkg Tryd.f14 s_sl_ContainsFunc_Pkg = some p_sl_ContainsFunc_Pkg := by kernel_rfl
theorem F_sl_ContainsFunc_Pkg {W : Wld} {ins outs : List (List D)} (h : pwp (FunOk PP W) p_sl_ContainsFunc_Pkg (RetIs outs) (envL ins)) : FunOk PP W n_sl_ContainsFunc_Pkg s_sl_ContainsFunc_Pkg ins outs := fun_ok (C := k_sl_ContainsFunc_Pkg) (cfg_ok rfl) (eq_ok rfl rfl) mixed Tryd.func14 (by kernel_rfl) (by kernel_rfl) c_sl_ContainsFunc_Pkg h

def p_sl_IndexFunc_Pkg : PC := .seq (.ss [.mv 4 (.c (.int .i64 0))]) (.seq (.seq (.ss [.mv 6 (.t 0), .len 7 (.t 6), .mv 8 (.c (.int .i64 0))]) (.block 0 (.loop (.seq (.ss [.bin 9 .lss (.t 8) (.t 7)]) (.seq (.cond (.t 9) (.skip) (.exit 0)) (.seq (.block 1 (.seq (.ss [.mv 10 (.t 8), .mv 5 (.t 10)]) (.seq (.ss [.mv 11 (.t 1), .mv 12 (.t 0), .mv 13 (.t 5), .elp 14 (.t 12) (.t 13) 4, .eld 15 14 0 [.int .i64 0, .int .i64 0, .sl [], .sl []], .callc 16 11 n_i_StoreLacks_1 s_i_StoreLacks_1 [(.t 15)]]) (.cond (.t 16) (.seq (.ss [.mv 17 (.t 5), .mv 4 (.t 17)]) (.ret [4])) (.skip))))) (.ss [.bin 18 .add (.t 8) (.c (.int .i64 1)), .mv 8 (.t 18)]))))))) (.seq (.ss [.mv 4 (.c (.int .i64 (-1)))]) (.ret [4])))
def k_sl_IndexFunc_Pkg : Cfg := { tt := tt, sigs := sigs, mv := false, bm := [], eqt := eqL, keep := [true, true, false, false, true, true, false, true, true, true, false, false, false, false, false, false, true, false, false], n := 19, pin := [], fail := [], fz := [] }
theorem c_sl_IndexFunc_Pkg : cFun k_sl_IndexFunc_Pkg Tryd.f36 s_sl_IndexFunc_Pkg = some p_sl_IndexFunc_Pkg := by kernel_rfl
theorem F_sl_IndexFunc_Pkg {W : Wld} {ins outs : List (List D)} (h : pwp (FunOk PP W) p_sl_IndexFunc_Pkg (RetIs outs) (envL ins)) : FunOk PP W n_sl_IndexFunc_Pkg s_sl_IndexFunc_Pkg ins outs := fun_ok (C := k_sl_IndexFunc_Pkg) (cfg_ok rfl) (eq_ok rfl rfl) mixed Tryd.func36 (by kernel_rfl) (by kernel_rfl) c_sl_IndexFunc_Pkg h

def p_l_FnLacks : PC := .seq (.ss [.mv 2 (.c (.bool false))]) (.seq (.seq (.ss [.mv 9 (.t 0), .len 10 (.t 9), .bin 11 .gtr (.t 10) (.c (.int .i64 1048576))]) (.cond (.t 11) (.seq (.ss [.mv 2 (.c (.bool true))]) (.ret [2])) (.skip))) (.seq (.ss [.mv 13 (.t 0), .call 14 n_s_DrawStoreLacks s_s_DrawStoreLacks [(.t 13)] [], .mv 12 (.t 14), .ext 15 12 0 7, .ext 16 12 7 1, .bld 3 [.int .i64 0, .sl [], .int .i64 0, .bool false, .int .i64 0, .int .i64 0, .sl []] [], .st 3 0 (.t 15), .mv 4 (.t 16)]) (.seq (.ss [.sub 17 3 0 7, .mv 18 (.t 4), .call 19 n_i_StoreLacks s_i_StoreLacks [(.t 17), (.t 18)] [], .mv 5 (.t 19)]) (.seq (.seq (.ss [.mv 20 (.t 5), .sub 21 3 0 7, .mv 22 (.t 4), .call 23 n_s_StoreLacks s_s_StoreLacks [(.t 21), (.t 22)] [], .call 24 n_l_luMetas s_l_luMetas [(.t 20), (.t 23)] [], .un 25 .not (.t 24), .mv 26 (.t 25), .g 26 false 27 (.sub 27 3 0 7), .g 26 false 28 (.call 28 n_s_TrustOk s_s_TrustOk [(.t 27)] []), .g 26 false 29 (.un 29 .not (.t 28)), .pick 30 (.t 26) (.c (.bool true)) (.t 29), .mv 31 (.t 30), .g 31 false 32 (.mv 32 (.t 4)), .g 31 false 33 (.call 33 n_s_StoreOk s_s_StoreOk [(.t 32)] []), .g 31 false 34 (.un 34 .not (.t 33)), .pick 35 (.t 31) (.c (.bool true)) (.t 34)]) (.cond (.t 35) (.seq (.ss [.mv 36 (.t 5), .sub 37 3 0 7, .mv 38 (.t 4), .call 39 n_s_StoreLacks s_s_StoreLacks [(.t 37), (.t 38)] [], .call 40 n_l_luMetas s_l_luMetas [(.t 36), (.t 39)] [], .mv 2 (.t 40)]) (.ret [2])) (.skip))) (.seq (.ss [.sub 41 3 0 7, .mv 42 (.t 4), .call 43 n_i_StoreTrim s_i_StoreTrim [(.t 41), (.t 42)] [], .mv 6 (.t 43)]) (.seq (.seq (.ss [.mv 7 (.c (.int .i64 0))]) (.block 0 (.loop (.seq (.seq (.ss [.mv 44 (.t 7), .mv 45 (.t 6), .len 46 (.t 45), .bin 47 .lss (.t 44) (.t 46)]) (.cond (.t 47) (.skip) (.exit 0))) (.seq (.block 1 (.seq (.ss [.mv 8 (.c (.int .i64 0))]) (.block 2 (.loop (.seq (.seq (.ss [.mv 50 (.t 8), .mv 51 (.t 5), .len 52 (.t 51), .bin 53 .lss (.t 50) (.t 52)]) (.cond (.t 53) (.skip) (.exit 2))) (.seq (.block 3 (.seq (.ss [.mv 56 (.t 5), .mv 57 (.t 8), .elp 58 (.t 56) (.t 57) 3, .mv 59 (.t 58), .eld 60 59 0 [.int .i64 0], .mv 61 (.t 6), .mv 62 (.t 7), .elp 63 (.t 61) (.t 62) 4, .mv 64 (.t 63), .eld 65 64 0 [.int .i64 0], .bin 66 .eql (.t 60) (.t 65), .mv 67 (.t 66), .g 67 true 68 (.mv 68 (.t 5)), .g 67 true 69 (.mv 69 (.t 8)), .g 67 true 70 (.elp 70 (.t 68) (.t 69) 3), .g 67 true 71 (.mv 71 (.t 70)), .g 67 true 72 (.eld 72 71 1 [.int .i64 0]), .g 67 true 73 (.mv 73 (.t 6)), .g 67 true 74 (.mv 74 (.t 7)), .g 67 true 75 (.elp 75 (.t 73) (.t 74) 4), .g 67 true 76 (.mv 76 (.t 75)), .g 67 true 77 (.eld 77 76 1 [.int .i64 0]), .g 67 true 78 (.bin 78 .eql (.t 72) (.t 77)), .pick 79 (.t 67) (.t 78) (.c (.bool false))]) (.cond (.t 79) (.seq (.ss [.mv 2 (.c (.bool false))]) (.ret [2])) (.skip)))) (.ss [.mv 54 (.t 8), .bin 55 .add (.t 54) (.c (.int .i64 1)), .mv 8 (.t 55)]))))))) (.ss [.mv 48 (.t 7), .bin 49 .add (.t 48) (.c (.int .i64 1)), .mv 7 (.t 49)])))))) (.seq (.ss [.mv 80 (.t 5), .len 81 (.t 80), .mv 82 (.t 6), .len 83 (.t 82), .bin 84 .add (.t 81) (.t 83), .nop, .nop, .sub 87 3 6 1, .len 88 (.t 87), .bin 89 .eql (.t 84) (.t 88), .mv 2 (.t 89)]) (.ret [2]))))))))
def k_l_FnLacks : Cfg := { tt := tt, sigs := sigs, mv := false, bm := [], eqt := eqL, keep := [true, false, true, true, true, true, true, true, true, false, false, true, false, false, false, false, false, false, false, false, false, false, false, false, false, false, false, false, false, false, false, false, false, false, false, true, false, false, false, false, false, false, false, false, false, false, false, true, false, false, false, false, false, true, false, false, false, false, false, false, false, false, false, false, false, false, false, false, false, false, false, false, false, false, false, false, false, false, false, true, false, false, false, false, false, false, false, false, false, false], n := 90, pin := [], fail := [], fz := [] }
theorem c_l_FnLacks : cFun k_l_FnLacks Tryd.f3 s_l_FnLacks = some p_l_FnLacks := by kernel_rfl
theorem F_l_FnLacks {W : Wld} {ins outs : List (List D)} (h : pwp (FunOk PP W) p_l_FnLacks (RetIs outs) (envL ins)) : FunOk PP W n_l_FnLacks s_l_FnLacks ins outs := fun_ok (C := k_l_FnLacks) (cfg_ok rfl) (eq_ok rfl rfl) mixed Tryd.func3 (by kernel_rfl) (by kernel_rfl) c_l_FnLacks h

def p_s_DrawStoreLacks : PC := .seq (.ss [.bld 2 [.int .i64 0, .sl [], .int .i64 0, .bool false, .int .i64 0, .int .i64 0, .sl []] [], .mv 3 (.c (.sl []))]) (.seq (.ss [.mv 4 (.t 0), .call 5 n_s_DrawStoreTrim s_s_DrawStoreTrim [(.t 4)] [], .ext 6 5 0 7, .ext 7 5 7 1, .st 2 0 (.t 6), .mv 3 (.t 7)]) (.ret [2, 3]))
def k_s_DrawStoreLacks : Cfg := { tt := tt, sigs := sigs, mv := false, bm := [], eqt := eqL, keep := [true, false, true, true, false, false, false, false], n := 8, pin := [], fail := [], fz := [] }
theorem c_s_DrawStoreLacks : cFun k_s_DrawStoreLacks Tryd.f4 s_s_DrawStoreLacks = some p_s_DrawStoreLacks := by kernel_rfl
theorem F_s_DrawStoreLacks {W : Wld} {ins outs : List (List D)} (h : pwp (FunOk PP W) p_s_DrawStoreLacks (RetIs outs) (envL ins)) : FunOk PP W n_s_DrawStoreLacks s_s_DrawStoreLacks ins outs := fun_ok (C := k_s_DrawStoreLacks) (cfg_ok rfl) (eq_ok rfl rfl) mixed Tryd.func4 (by kernel_rfl) (by kernel_rfl) c_s_DrawStoreLacks h

def p_i_StoreLacks : PC := .seq (.ss [.mv 2 (.t 0), .mv 4 (.c (.sl []))]) (.seq (.seq (.ss [.sub 8 2 0 7, .call 9 n_i_TrustOk s_i_TrustOk [(.t 8)] [], .un 10 .not (.t 9), .mv 11 (.t 10), .g 11 false 12 (.mv 12 (.t 1)), .g 11 false 13 (.call 13 n_i_StoreOk s_i_StoreOk [(.t 12)] []), .g 11 false 14 (.un 14 .not (.t 13)), .pick 15 (.t 11) (.c (.bool true)) (.t 14)]) (.cond (.t 15) (.seq (.ss [.mv 4 (.c (.sl []))]) (.ret [4])) (.skip))) (.seq (.ss [.mv 5 (.c (.sl []))]) (.seq (.seq (.ss [.nop, .nop, .sub 18 2 6 1, .len 19 (.t 18), .mv 20 (.c (.int .i64 0))]) (.block 0 (.loop (.seq (.ss [.bin 21 .lss (.t 20) (.t 19)]) (.seq (.cond (.t 21) (.skip) (.exit 0)) (.seq (.block 1 (.seq (.ss [.elp 22 (.t 18) (.t 20) 3, .eld 23 22 0 [.int .i64 0, .int .i64 0, .int .i64 0], .bld 7 [.int .i64 0, .int .i64 0, .int .i64 0] [], .st 7 0 (.t 23)]) (.seq (.ss [.mv 24 (.t 1), .fn 25 n_i_StoreLacks_1 [] [7], .call 26 n_sl_ContainsFunc_Pkg s_sl_ContainsFunc_Pkg [(.t 24), (.t 25)] [], .un 27 .not (.t 26)]) (.cond (.t 27) (.ss [.mv 28 (.t 5), .sub 29 7 0 3, .lit 30 1 [.int .i64 0, .int .i64 0, .int .i64 0] [(0, (.t 29))], .app 31 3 true (.t 28) (.t 30), .mv 5 (.t 31)]) (.skip))))) (.ss [.bin 32 .add (.t 20) (.c (.int .i64 1)), .mv 20 (.t 32)]))))))) (.seq (.ss [.mv 33 (.t 5), .mv 4 (.t 33)]) (.ret [4])))))
def k_i_StoreLacks : Cfg := { tt := tt, sigs := sigs, mv := false, bm := [], eqt := eqL, keep := [true, true, true, false, true, true, false, true, false, false, false, false, false, false, false, true, false, false, true, true, true, true, false, false, false, false, false, true, false, false, false, false, false, false], n := 34, pin := [], fail := [], fz := [] }
theorem c_i_StoreLacks : cFun k_i_StoreLacks Tryd.f5 s_i_StoreLacks = some p_i_StoreLacks := by kernel_rfl
theorem F_i_StoreLacks {W : Wld} {ins outs : List (List D)} (h : pwp (FunOk PP W) p_i_StoreLacks (RetIs outs) (envL ins)) : FunOk PP W n_i_StoreLacks s_i_StoreLacks ins outs := fun_ok (C := k_i_StoreLacks) (cfg_ok rfl) (eq_ok rfl rfl) mixed Tryd.func5 (by kernel_rfl) (by kernel_rfl) c_i_StoreLacks h

def p_l_luMetas : PC := .seq (.ss [.mv 4 (.c (.bool false))]) (.seq (.seq (.ss [.mv 6 (.t 0), .len 7 (.t 6), .mv 8 (.t 1), .len 9 (.t 8), .bin 10 .neq (.t 7) (.t 9)]) (.cond (.t 10) (.seq (.ss [.mv 4 (.c (.bool false))]) (.ret [4])) (.skip))) (.seq (.seq (.ss [.mv 5 (.c (.int .i64 0))]) (.block 0 (.loop (.seq (.seq (.ss [.mv 11 (.t 5), .mv 12 (.t 0), .len 13 (.t 12), .bin 14 .lss (.t 11) (.t 13)]) (.cond (.t 14) (.skip) (.exit 0))) (.seq (.block 1 (.seq (.ss [.mv 17 (.t 0), .mv 18 (.t 5), .elp 19 (.t 17) (.t 18) 3, .eld 20 19 0 [.int .i64 0, .int .i64 0, .int .i64 0], .mv 21 (.t 1), .mv 22 (.t 5), .elp 23 (.t 21) (.t 22) 3, .eld 24 23 0 [.int .i64 0, .int .i64 0, .int .i64 0], .eqs 25 true [.int .i64 0, .int .i64 0, .int .i64 0] (.t 20) (.t 24)]) (.cond (.t 25) (.seq (.ss [.mv 4 (.c (.bool false))]) (.ret [4])) (.skip)))) (.ss [.mv 15 (.t 5), .bin 16 .add (.t 15) (.c (.int .i64 1)), .mv 5 (.t 16)])))))) (.seq (.ss [.mv 4 (.c (.bool true))]) (.ret [4]))))
def k_l_luMetas : Cfg := { tt := tt, sigs := sigs, mv := false, bm := [], eqt := eqL, keep := [true, true, false, false, true, true, false, false, false, false, true, false, false, false, true, false, false, false, false, false, false, false, false, false, false, true], n := 26, pin := [], fail := [], fz := [] }
theorem c_l_luMetas : cFun k_l_luMetas Tryd.f6 s_l_luMetas = some p_l_luMetas := by kernel_rfl
theorem F_l_luMetas {W : Wld} {ins outs : List (List D)} (h : pwp (FunOk PP W) p_l_luMetas (RetIs outs) (envL ins)) : FunOk PP W n_l_luMetas s_l_luMetas ins outs := fun_ok (C := k_l_luMetas) (cfg_ok rfl) (eq_ok rfl rfl) mixed Tryd.func6 (by kernel_rfl) (by kernel_rfl) c_l_luMetas h

def p_s_StoreLacks : PC := .seq (.ss [.mv 2 (.t 0), .mv 4 (.c (.sl []))]) (.seq (.ss [.lit 9 0 [.int .i64 0, .int .i64 0, .int .i64 0] [], .mv 5 (.t 9)]) (.seq (.seq (.ss [.sub 10 2 0 7, .call 11 n_s_TrustOk s_s_TrustOk [(.t 10)] [], .un 12 .not (.t 11), .mv 13 (.t 12), .g 13 false 14 (.mv 14 (.t 1)), .g 13 false 15 (.call 15 n_s_StoreOk s_s_StoreOk [(.t 14)] []), .g 13 false 16 (.un 16 .not (.t 15)), .pick 17 (.t 13) (.c (.bool true)) (.t 16)]) (.cond (.t 17) (.seq (.ss [.mv 18 (.t 5), .mv 4 (.t 18)]) (.ret [4])) (.skip))) (.seq (.seq (.ss [.mv 6 (.c (.int .i64 0))]) (.block 0 (.loop (.seq (.seq (.ss [.mv 19 (.t 6), .nop, .nop, .sub 22 2 6 1, .len 23 (.t 22), .bin 24 .lss (.t 19) (.t 23)]) (.cond (.t 24) (.skip) (.exit 0))) (.seq (.block 1 (.seq (.ss [.nop, .nop, .sub 29 2 6 1, .mv 30 (.t 6), .elp 31 (.t 29) (.t 30) 3, .eld 32 31 0 [.int .i64 0, .int .i64 0, .int .i64 0], .bld 7 [.int .i64 0, .int .i64 0, .int .i64 0] [], .st 7 0 (.t 32)]) (.seq (.ss [.mv 33 (.t 1), .nop, .sub 35 7 0 1, .nop, .sub 37 7 1 1, .call 38 n_s_l12Find s_s_l12Find [(.t 33), (.t 35), (.t 37)] [], .mv 8 (.t 38)]) (.seq (.ss [.mv 39 (.t 8), .bin 40 .lss (.t 39) (.c (.int .i64 0)), .mv 41 (.t 40), .g 41 false 42 (.mv 42 (.t 1)), .g 41 false 43 (.mv 43 (.t 8)), .g 41 false 44 (.elp 44 (.t 42) (.t 43) 4), .g 41 false 45 (.eld 45 44 0 [.int .i64 0, .int .i64 0, .sl [], .sl []]), .g 41 false 46 (.call 46 n_s_PkgText s_s_PkgText [(.t 45)] []), .g 41 false 47 (.call 47 n_s_SumOf s_s_SumOf [(.t 46)] []), .g 41 false 48 (.nop), .g 41 false 49 (.sub 49 7 2 1), .g 41 false 50 (.bin 50 .neq (.t 47) (.t 49)), .pick 51 (.t 41) (.c (.bool true)) (.t 50)]) (.cond (.t 51) (.ss [.mv 52 (.t 5), .sub 53 7 0 3, .lit 54 1 [.int .i64 0, .int .i64 0, .int .i64 0] [(0, (.t 53))], .app 55 3 true (.t 52) (.t 54), .mv 5 (.t 55)]) (.skip)))))) (.ss [.mv 25 (.t 6), .bin 26 .add (.t 25) (.c (.int .i64 1)), .mv 6 (.t 26)])))))) (.seq (.ss [.mv 56 (.t 5), .mv 4 (.t 56)]) (.ret [4])))))
def k_s_StoreLacks : Cfg := { tt := tt, sigs := sigs, mv := false, bm := [], eqt := eqL, keep := [true, true, true, false, true, true, true, true, true, false, false, false, false, false, false, false, false, true, false, false, false, false, false, false, true, false, false, false, false, false, false, false, false, false, false, false, false, false, false, false, false, false, false, false, false, false, false, false, false, false, false, true, false, false, false, false, false], n := 57, pin := [], fail := [], fz := [] }
theorem c_s_StoreLacks : cFun k_s_StoreLacks Tryd.f7 s_s_StoreLacks = some p_s_StoreLacks := by kernel_rfl
theorem F_s_StoreLacks {W : Wld} {ins outs : List (List D)} (h : pwp (FunOk PP W) p_s_StoreLacks (RetIs outs) (envL ins)) : FunOk PP W n_s_StoreLacks s_s_StoreLacks ins outs := fun_ok (C := k_s_StoreLacks) (cfg_ok rfl) (eq_ok rfl rfl) mixed Tryd.func7 (by kernel_rfl) (by kernel_rfl) c_s_StoreLacks h

def p_s_TrustOk : PC := .seq (.ss [.mv 1 (.t 0), .mv 2 (.c (.bool false))]) (.seq (.seq (.ss [.nop, .sub 4 1 0 3, .call 5 n_s_RootOk s_s_RootOk [(.t 4)] [], .un 6 .not (.t 5)]) (.cond (.t 6) (.seq (.ss [.mv 2 (.c (.bool false))]) (.ret [2])) (.skip))) (.seq (.seq (.ss [.nop, .sub 8 1 3 1]) (.cond (.t 8) (.seq (.ss [.nop, .sub 10 1 4 3, .call 11 n_s_IndexOk s_s_IndexOk [(.t 10)] [], .mv 2 (.t 11)]) (.ret [2])) (.skip))) (.seq (.ss [.nop, .nop, .sub 14 1 4 1, .bin 15 .eql (.t 14) (.c (.int .i64 0)), .mv 16 (.t 15), .g 16 true 17 (.nop), .g 16 true 18 (.nop), .g 16 true 19 (.sub 19 1 5 1), .g 16 true 20 (.bin 20 .eql (.t 19) (.c (.int .i64 0))), .pick 21 (.t 16) (.t 20) (.c (.bool false)), .mv 22 (.t 21), .g 22 true 23 (.nop), .g 22 true 24 (.nop), .g 22 true 25 (.sub 25 1 6 1), .g 22 true 26 (.len 26 (.t 25)), .g 22 true 27 (.bin 27 .eql (.t 26) (.c (.int .i64 0))), .pick 28 (.t 22) (.t 27) (.c (.bool false)), .mv 2 (.t 28)]) (.ret [2]))))
def k_s_TrustOk : Cfg := { tt := tt, sigs := sigs, mv := false, bm := [], eqt := eqL, keep := [true, true, true, false, false, false, true, false, true, false, false, false, false, false, false, false, false, false, false, false, false, false, false, false, false, false, false, false, false], n := 29, pin := [], fail := [], fz := [] }
theorem c_s_TrustOk : cFun k_s_TrustOk Tryd.f8 s_s_TrustOk = some p_s_TrustOk := by kernel_rfl
theorem F_s_TrustOk {W : Wld} {ins outs : List (List D)} (h : pwp (FunOk PP W) p_s_TrustOk (RetIs outs) (envL ins)) : FunOk PP W n_s_TrustOk s_s_TrustOk ins outs := fun_ok (C := k_s_TrustOk) (cfg_ok rfl) (eq_ok rfl rfl) mixed Tryd.func8 (by kernel_rfl) (by kernel_rfl) c_s_TrustOk h

def p_s_StoreOk : PC := .seq (.ss [.mv 2 (.c (.bool false))]) (.seq (.ss [.mv 3 (.t 0), .call 4 n_s_l3Pkgs s_s_l3Pkgs [(.t 3)] [], .mv 2 (.t 4)]) (.ret [2]))
def k_s_StoreOk : Cfg := { tt := tt, sigs := sigs, mv := false, bm := [], eqt := eqL, keep := [true, false, true, false, false], n := 5, pin := [], fail := [], fz := [] }
theorem c_s_StoreOk : cFun k_s_StoreOk Tryd.f9 s_s_StoreOk = some p_s_StoreOk := by kernel_rfl
theorem F_s_StoreOk {W : Wld} {ins outs : List (List D)} (h : pwp (FunOk PP W) p_s_StoreOk (RetIs outs) (envL ins)) : FunOk PP W n_s_StoreOk s_s_StoreOk ins outs := fun_ok (C := k_s_StoreOk) (cfg_ok rfl) (eq_ok rfl rfl) mixed Tryd.func9 (by kernel_rfl) (by kernel_rfl) c_s_StoreOk h

def p_i_StoreTrim : PC := .seq (.ss [.mv 2 (.t 0), .mv 4 (.c (.sl []))]) (.seq (.seq (.ss [.sub 8 2 0 7, .call 9 n_i_TrustOk s_i_TrustOk [(.t 8)] [], .un 10 .not (.t 9), .mv 11 (.t 10), .g 11 false 12 (.mv 12 (.t 1)), .g 11 false 13 (.call 13 n_i_StoreOk s_i_StoreOk [(.t 12)] []), .g 11 false 14 (.un 14 .not (.t 13)), .pick 15 (.t 11) (.c (.bool true)) (.t 14)]) (.cond (.t 15) (.seq (.ss [.mv 4 (.c (.sl []))]) (.ret [4])) (.skip))) (.seq (.ss [.mv 5 (.c (.sl []))]) (.seq (.seq (.ss [.mv 16 (.t 1), .len 17 (.t 16), .mv 18 (.c (.int .i64 0))]) (.block 0 (.loop (.seq (.ss [.bin 19 .lss (.t 18) (.t 17)]) (.seq (.cond (.t 19) (.skip) (.exit 0)) (.seq (.block 1 (.seq (.ss [.elp 20 (.t 16) (.t 18) 4, .eld 21 20 0 [.int .i64 0, .int .i64 0, .sl [], .sl []], .bld 7 [.int .i64 0, .int .i64 0, .sl [], .sl []] [], .st 7 0 (.t 21)]) (.seq (.ss [.nop, .sub 23 2 3 1, .mv 24 (.t 23), .g 24 true 25 (.nop), .g 24 true 26 (.nop), .g 24 true 27 (.sub 27 2 6 1), .g 24 true 28 (.sub 28 7 0 4), .g 24 true 29 (.call 29 n_i_metaOf s_i_metaOf [(.t 28)] []), .g 24 true 30 (.call 30 n_sl_Contains_Meta s_sl_Contains_Meta [(.t 27), (.t 29)] []), .pick 31 (.t 24) (.t 30) (.c (.bool false))]) (.cond (.t 31) (.ss [.mv 32 (.t 5), .sub 33 7 0 4, .call 34 n_i_Pkg_copied s_i_Pkg_copied [(.t 33)] [], .lit 35 1 [.int .i64 0, .int .i64 0, .sl [], .sl []] [(0, (.t 34))], .app 36 4 false (.t 32) (.t 35), .mv 5 (.t 36)]) (.skip))))) (.ss [.bin 37 .add (.t 18) (.c (.int .i64 1)), .mv 18 (.t 37)]))))))) (.seq (.ss [.mv 38 (.t 5), .mv 4 (.t 38)]) (.ret [4])))))
def k_i_StoreTrim : Cfg := { tt := tt, sigs := sigs, mv := false, bm := [], eqt := eqL, keep := [true, true, true, false, true, true, false, true, false, false, false, false, false, false, false, true, true, true, true, true, false, false, false, false, false, false, false, false, false, false, false, true, false, false, false, false, false, false, false], n := 39, pin := [], fail := [], fz := [] }
theorem c_i_StoreTrim : cFun k_i_StoreTrim Tryd.f10 s_i_StoreTrim = some p_i_StoreTrim := by kernel_rfl
theorem F_i_StoreTrim {W : Wld} {ins outs : List (List D)} (h : pwp (FunOk PP W) p_i_StoreTrim (RetIs outs) (envL ins)) : FunOk PP W n_i_StoreTrim s_i_StoreTrim ins outs := fun_ok (C := k_i_StoreTrim) (cfg_ok rfl) (eq_ok rfl rfl) mixed Tryd.func10 (by kernel_rfl) (by kernel_rfl) c_i_StoreTrim h

def p_s_DrawStoreTrim : PC := .seq (.ss [.bld 2 [.int .i64 0, .sl [], .int .i64 0, .bool false, .int .i64 0, .int .i64 0, .sl []] [], .mv 3 (.c (.sl []))]) (.seq (.ss [.mv 9 (.t 0), .call 10 n_s_l6Open s_s_l6Open [(.t 9)] [], .nop]) (.seq (.ss [.nop, .call 13 n_s_l71Trust s_s_l71Trust [(.t 10)] [10], .mv 11 (.t 13), .ext 14 11 0 7, .ext 15 11 7 1, .bld 5 [.int .i64 0, .sl [], .int .i64 0, .bool false, .int .i64 0, .int .i64 0, .sl []] [], .st 5 0 (.t 14), .mv 6 (.t 15)]) (.seq (.ss [.nop, .mv 17 (.t 6), .call 18 n_s_l71Some s_s_l71Some [(.t 10), (.t 17)] [10], .mv 7 (.t 18)]) (.seq (.seq (.ss [.nop, .call 20 n_s_l6Rd_pick s_s_l6Rd_pick [(.t 10), (.c (.int .i64 2))] [10], .bin 21 .eql (.t 20) (.c (.int .i64 0))]) (.cond (.t 21) (.seq (.ss [.nop, .nop, .call 24 n_s_l6Rd_pick s_s_l6Rd_pick [(.t 10), (.c (.int .i64 4))] [10], .bin 25 .add (.c (.int .i64 1)) (.t 24), .nop, .call 27 n_s_l6Rd_pick s_s_l6Rd_pick [(.t 10), (.c (.int .i64 4))] [10], .bin 28 .add (.c (.int .i64 1)) (.t 27), .call 29 n_s_l71Pkg s_s_l71Pkg [(.t 10), (.t 25), (.t 28)] [10], .bld 8 [.int .i64 0, .int .i64 0, .sl [], .sl []] [], .st 8 0 (.t 29)]) (.seq (.ss [.mv 30 (.t 7), .nop, .sub 32 8 0 1, .nop, .sub 34 8 1 1, .call 35 n_s_l12Find s_s_l12Find [(.t 30), (.t 32), (.t 34)] [], .bin 36 .lss (.t 35) (.c (.int .i64 0)), .mv 37 (.t 36), .g 37 true 38 (.mv 38 (.t 7)), .g 37 true 39 (.call 39 n_s_l3Pkgs s_s_l3Pkgs [(.t 38)] []), .pick 40 (.t 37) (.t 39) (.c (.bool false))]) (.cond (.t 40) (.ss [.mv 41 (.t 7), .sub 42 8 0 4, .call 43 n_s_l12With s_s_l12With [(.t 41), (.t 42)] [], .mv 7 (.t 43)]) (.skip)))) (.skip))) (.seq (.ss [.sub 44 5 0 7, .mv 45 (.t 7), .st 2 0 (.t 44), .mv 3 (.t 45)]) (.ret [2, 3]))))))
def k_s_DrawStoreTrim : Cfg := { tt := tt, sigs := sigs, mv := false, bm := [], eqt := eqL, keep := [true, false, true, true, true, true, true, true, true, false, true, false, false, false, false, false, false, false, false, false, false, true, false, false, false, false, false, false, false, false, false, false, false, false, false, false, false, false, false, false, true, false, false, false, false, false], n := 46, pin := [], fail := [], fz := [] }
theorem c_s_DrawStoreTrim : cFun k_s_DrawStoreTrim Tryd.f11 s_s_DrawStoreTrim = some p_s_DrawStoreTrim := by kernel_rfl
theorem F_s_DrawStoreTrim {W : Wld} {ins outs : List (List D)} (h : pwp (FunOk PP W) p_s_DrawStoreTrim (RetIs outs) (envL ins)) : FunOk PP W n_s_DrawStoreTrim s_s_DrawStoreTrim ins outs := fun_ok (C := k_s_DrawStoreTrim) (cfg_ok rfl) (eq_ok rfl rfl) mixed Tryd.func11 (by kernel_rfl) (by kernel_rfl) c_s_DrawStoreTrim h

def p_i_TrustOk : PC := .seq (.ss [.mv 1 (.t 0), .mv 2 (.c (.bool false))]) (.seq (.seq (.ss [.nop, .sub 4 1 0 3, .call 5 n_i_RootOk s_i_RootOk [(.t 4)] [], .un 6 .not (.t 5)]) (.cond (.t 6) (.seq (.ss [.mv 2 (.c (.bool false))]) (.ret [2])) (.skip))) (.seq (.seq (.ss [.nop, .sub 8 1 3 1]) (.cond (.t 8) (.seq (.ss [.nop, .sub 10 1 4 3, .call 11 n_i_IndexOk s_i_IndexOk [(.t 10)] [], .mv 2 (.t 11)]) (.ret [2])) (.skip))) (.seq (.ss [.nop, .sub 13 1 4 3, .bld 14 [.int .i64 0, .int .i64 0, .sl []] [], .call 15 n_i_Index_same s_i_Index_same [(.t 13), (.t 14)] [], .mv 2 (.t 15)]) (.ret [2]))))
def k_i_TrustOk : Cfg := { tt := tt, sigs := sigs, mv := false, bm := [], eqt := eqL, keep := [true, true, true, false, false, false, true, false, true, false, false, false, false, false, false, false], n := 16, pin := [], fail := [], fz := [] }
theorem c_i_TrustOk : cFun k_i_TrustOk Tryd.f12 s_i_TrustOk = some p_i_TrustOk := by kernel_rfl
theorem F_i_TrustOk {W : Wld} {ins outs : List (List D)} (h : pwp (FunOk PP W) p_i_TrustOk (RetIs outs) (envL ins)) : FunOk PP W n_i_TrustOk s_i_TrustOk ins outs := fun_ok (C := k_i_TrustOk) (cfg_ok rfl) (eq_ok rfl rfl) mixed Tryd.func12 (by kernel_rfl) (by kernel_rfl) c_i_TrustOk h

def p_i_StoreOk : PC := .seq (.ss [.mv 2 (.c (.bool false))]) (.seq (.seq (.ss [.mv 5 (.t 0), .len 6 (.t 5), .mv 7 (.c (.int .i64 0))]) (.block 0 (.loop (.seq (.ss [.bin 8 .lss (.t 7) (.t 6)]) (.seq (.cond (.t 8) (.skip) (.exit 0)) (.seq (.block 1 (.seq (.ss [.mv 9 (.t 7), .elp 10 (.t 5) (.t 7) 4, .eld 11 10 0 [.int .i64 0, .int .i64 0, .sl [], .sl []], .bld 4 [.int .i64 0, .int .i64 0, .sl [], .sl []] [], .mv 3 (.t 9), .st 4 0 (.t 11)]) (.seq (.ss [.sub 12 4 0 4, .call 13 n_i_PkgOk s_i_PkgOk [(.t 12)] [], .un 14 .not (.t 13), .mv 15 (.t 14), .g 15 false 16 (.mv 16 (.t 3)), .g 15 false 17 (.bin 17 .gtr (.t 16) (.c (.int .i64 0))), .g 15 false 18 (.mv 18 (.t 17)), .g 18 true 19 (.mv 19 (.t 0)), .g 18 true 20 (.mv 20 (.t 3)), .g 18 true 21 (.bin 21 .sub (.t 20) (.c (.int .i64 1))), .g 18 true 22 (.elp 22 (.t 19) (.t 21) 4), .g 18 true 23 (.eld 23 22 0 [.int .i64 0, .int .i64 0, .sl [], .sl []]), .g 18 true 24 (.sub 24 4 0 4), .g 18 true 25 (.call 25 n_i_Pkg_compare s_i_Pkg_compare [(.t 23), (.t 24)] []), .g 18 true 26 (.bin 26 .geq (.t 25) (.c (.int .i64 0))), .g 15 false 27 (.pick 27 (.t 18) (.t 26) (.c (.bool false))), .pick 28 (.t 15) (.c (.bool true)) (.t 27)]) (.cond (.t 28) (.seq (.ss [.mv 2 (.c (.bool false))]) (.ret [2])) (.skip))))) (.ss [.bin 29 .add (.t 7) (.c (.int .i64 1)), .mv 7 (.t 29)]))))))) (.seq (.ss [.mv 2 (.c (.bool true))]) (.ret [2])))
def k_i_StoreOk : Cfg := { tt := tt, sigs := sigs, mv := false, bm := [], eqt := eqL, keep := [true, false, true, true, true, true, true, true, true, false, false, false, false, false, false, false, false, false, false, false, false, false, false, false, false, false, false, false, true, false], n := 30, pin := [], fail := [], fz := [] }
theorem c_i_StoreOk : cFun k_i_StoreOk Tryd.f13 s_i_StoreOk = some p_i_StoreOk := by kernel_rfl
theorem F_i_StoreOk {W : Wld} {ins outs : List (List D)} (h : pwp (FunOk PP W) p_i_StoreOk (RetIs outs) (envL ins)) : FunOk PP W n_i_StoreOk s_i_StoreOk ins outs := fun_ok (C := k_i_StoreOk) (cfg_ok rfl) (eq_ok rfl rfl) mixed Tryd.func13 (by kernel_rfl) (by kernel_rfl) c_i_StoreOk h

def p_i_metaOf : PC := .seq (.ss [.mv 1 (.t 0), .bld 2 [.int .i64 0, .int .i64 0, .int .i64 0] []]) (.seq (.ss [.nop, .sub 4 1 0 1, .nop, .sub 6 1 1 1, .sub 7 1 0 4, .call 8 n_i_PkgText s_i_PkgText [(.t 7)] [], .call 9 n_i_SumOf s_i_SumOf [(.t 8)] [], .bld 10 [.int .i64 0, .int .i64 0, .int .i64 0] [(0, (.t 4)), (1, (.t 6)), (2, (.t 9))], .st 2 0 (.t 10)]) (.ret [2]))
def k_i_metaOf : Cfg := { tt := tt, sigs := sigs, mv := false, bm := [], eqt := eqL, keep := [true, true, true, false, false, false, false, false, false, false, false], n := 11, pin := [], fail := [], fz := [] }
theorem c_i_metaOf : cFun k_i_metaOf Tryd.f16 s_i_metaOf = some p_i_metaOf := by kernel_rfl
theorem F_i_metaOf {W : Wld} {ins outs : List (List D)} (h : pwp (FunOk PP W) p_i_metaOf (RetIs outs) (envL ins)) : FunOk PP W n_i_metaOf s_i_metaOf ins outs := fun_ok (C := k_i_metaOf) (cfg_ok rfl) (eq_ok rfl rfl) mixed Tryd.func16 (by kernel_rfl) (by kernel_rfl) c_i_metaOf h

def p_s_l12Find : PC := .seq (.ss [.mv 6 (.c (.int .i64 0))]) (.seq (.seq (.ss [.mv 7 (.c (.int .i64 0))]) (.block 0 (.loop (.seq (.seq (.ss [.mv 8 (.t 7), .mv 9 (.t 0), .len 10 (.t 9), .bin 11 .lss (.t 8) (.t 10)]) (.cond (.t 11) (.skip) (.exit 0))) (.seq (.block 1 (.seq (.ss [.mv 14 (.t 0), .mv 15 (.t 7), .elp 16 (.t 14) (.t 15) 4, .mv 17 (.t 16), .eld 18 17 0 [.int .i64 0], .mv 19 (.t 1), .bin 20 .eql (.t 18) (.t 19), .mv 21 (.t 20), .g 21 true 22 (.mv 22 (.t 0)), .g 21 true 23 (.mv 23 (.t 7)), .g 21 true 24 (.elp 24 (.t 22) (.t 23) 4), .g 21 true 25 (.mv 25 (.t 24)), .g 21 true 26 (.eld 26 25 1 [.int .i64 0]), .g 21 true 27 (.mv 27 (.t 2)), .g 21 true 28 (.bin 28 .eql (.t 26) (.t 27)), .pick 29 (.t 21) (.t 28) (.c (.bool false))]) (.cond (.t 29) (.seq (.ss [.mv 30 (.t 7), .mv 6 (.t 30)]) (.ret [6])) (.skip)))) (.ss [.mv 12 (.t 7), .bin 13 .add (.t 12) (.c (.int .i64 1)), .mv 7 (.t 13)])))))) (.seq (.ss [.mv 6 (.c (.int .i64 (-1)))]) (.ret [6])))
def k_s_l12Find : Cfg := { tt := tt, sigs := sigs, mv := false, bm := [], eqt := eqL, keep := [true, true, true, false, false, false, true, true, false, false, false, true, false, false, false, false, false, false, false, false, false, false, false, false, false, false, false, false, false, true, false], n := 31, pin := [], fail := [], fz := [] }
theorem c_s_l12Find : cFun k_s_l12Find Tryd.f17 s_s_l12Find = some p_s_l12Find := by kernel_rfl
theorem F_s_l12Find {W : Wld} {ins outs : List (List D)} (h : pwp (FunOk PP W) p_s_l12Find (RetIs outs) (envL ins)) : FunOk PP W n_s_l12Find s_s_l12Find ins outs := fun_ok (C := k_s_l12Find) (cfg_ok rfl) (eq_ok rfl rfl) mixed Tryd.func17 (by kernel_rfl) (by kernel_rfl) c_s_l12Find h

def p_s_SumOf : PC := .seq (.ss [.mv 2 (.c (.int .i64 0))]) (.seq (.ss [.mv 3 (.c (.int .i64 7))]) (.seq (.seq (.ss [.mv 4 (.c (.int .i64 0))]) (.block 0 (.loop (.seq (.seq (.ss [.mv 5 (.t 4), .mv 6 (.t 0), .slen 7 (.t 6), .bin 8 .lss (.t 5) (.t 7)]) (.cond (.t 8) (.skip) (.exit 0))) (.seq (.block 1 (.ss [.mv 11 (.t 3), .bin 12 .mul (.c (.int .i64 31)) (.t 11), .mv 13 (.t 0), .mv 14 (.t 4), .sidx 15 (.t 13) (.t 14), .cvt 16 .i64 (.t 15), .bin 17 .add (.t 12) (.t 16), .bin 18 .add (.t 17) (.c (.int .i64 1)), .bin 19 .rem (.t 18) (.c (.int .i64 9973)), .mv 3 (.t 19)])) (.ss [.mv 9 (.t 4), .bin 10 .add (.t 9) (.c (.int .i64 1)), .mv 4 (.t 10)])))))) (.seq (.ss [.mv 20 (.t 3), .mv 2 (.t 20)]) (.ret [2]))))
def k_s_SumOf : Cfg := { tt := tt, sigs := sigs, mv := false, bm := [], eqt := eqL, keep := [true, false, true, true, true, false, false, false, true, false, false, false, false, false, false, false, false, false, false, false, false], n := 21, pin := [], fail := [], fz := [] }
theorem c_s_SumOf : cFun k_s_SumOf Tryd.f18 s_s_SumOf = some p_s_SumOf := by kernel_rfl
theorem F_s_SumOf {W : Wld} {ins outs : List (List D)} (h : pwp (FunOk PP W) p_s_SumOf (RetIs outs) (envL ins)) : FunOk PP W n_s_SumOf s_s_SumOf ins outs := fun_ok (C := k_s_SumOf) (cfg_ok rfl) (eq_ok rfl rfl) mixed Tryd.func18 (by kernel_rfl) (by kernel_rfl) c_s_SumOf h

def p_s_PkgText : PC := .seq (.ss [.mv 1 (.t 0), .mv 2 (.c (.str ⟨#[]⟩))]) (.seq (.seq (.ss [.sub 6 1 0 4, .call 7 n_s_PkgOk s_s_PkgOk [(.t 6)] [], .un 8 .not (.t 7)]) (.cond (.t 8) (.seq (.ss [.mv 2 (.c (.str ⟨#[]⟩))]) (.ret [2])) (.skip))) (.seq (.ss [.nop, .sub 10 1 0 1, .nop, .sub 12 1 1 1, .call 13 n_s_l1Name s_s_l1Name [(.t 10), (.t 12)] [], .mv 3 (.t 13)]) (.seq (.seq (.ss [.mv 4 (.c (.int .i64 0))]) (.block 0 (.loop (.seq (.seq (.ss [.mv 14 (.t 4), .nop, .sub 16 1 2 1, .len 17 (.t 16), .bin 18 .lss (.t 14) (.t 17)]) (.cond (.t 18) (.skip) (.exit 0))) (.seq (.block 1 (.ss [.mv 21 (.t 3), .bin 22 .add (.t 21) (.c (.str ⟨#[32]⟩)), .nop, .sub 24 1 2 1, .mv 25 (.t 4), .elp 26 (.t 24) (.t 25) 2, .mv 27 (.t 26), .eld 28 27 0 [.int .i64 0], .call 29 n_s_l6Dec s_s_l6Dec [(.t 28)] [], .bin 30 .add (.t 22) (.t 29), .bin 31 .add (.t 30) (.c (.str ⟨#[58]⟩)), .nop, .sub 33 1 2 1, .mv 34 (.t 4), .elp 35 (.t 33) (.t 34) 2, .mv 36 (.t 35), .eld 37 36 1 [.int .i64 0], .call 38 n_s_l6Dec s_s_l6Dec [(.t 37)] [], .bin 39 .add (.t 31) (.t 38), .mv 3 (.t 39)])) (.ss [.mv 19 (.t 4), .bin 20 .add (.t 19) (.c (.int .i64 1)), .mv 4 (.t 20)])))))) (.seq (.seq (.ss [.mv 5 (.c (.int .i64 0))]) (.block 2 (.loop (.seq (.seq (.ss [.mv 40 (.t 5), .nop, .sub 42 1 3 1, .len 43 (.t 42), .bin 44 .lss (.t 40) (.t 43)]) (.cond (.t 44) (.skip) (.exit 2))) (.seq (.block 3 (.ss [.mv 47 (.t 3), .bin 48 .add (.t 47) (.c (.str ⟨#[32]⟩)), .nop, .sub 50 1 3 1, .mv 51 (.t 5), .elp 52 (.t 50) (.t 51) 2, .mv 53 (.t 52), .eld 54 53 0 [.int .i64 0], .nop, .sub 56 1 3 1, .mv 57 (.t 5), .elp 58 (.t 56) (.t 57) 2, .mv 59 (.t 58), .eld 60 59 1 [.int .i64 0], .call 61 n_s_l1Name s_s_l1Name [(.t 54), (.t 60)] [], .bin 62 .add (.t 48) (.t 61), .mv 3 (.t 62)])) (.ss [.mv 45 (.t 5), .bin 46 .add (.t 45) (.c (.int .i64 1)), .mv 5 (.t 46)])))))) (.seq (.ss [.mv 63 (.t 3), .mv 2 (.t 63)]) (.ret [2]))))))
def k_s_PkgText : Cfg := { tt := tt, sigs := sigs, mv := false, bm := [], eqt := eqL, keep := [true, true, true, true, true, true, false, false, true, false, false, false, false, false, false, false, false, false, true, false, false, false, false, false, false, false, false, false, false, false, false, false, false, false, false, false, false, false, false, false, false, false, false, false, true, false, false, false, false, false, false, false, false, false, false, false, false, false, false, false, false, false, false, false], n := 64, pin := [], fail := [], fz := [] }
theorem c_s_PkgText : cFun k_s_PkgText Tryd.f19 s_s_PkgText = some p_s_PkgText := by kernel_rfl
theorem F_s_PkgText {W : Wld} {ins outs : List (List D)} (h : pwp (FunOk PP W) p_s_PkgText (RetIs outs) (envL ins)) : FunOk PP W n_s_PkgText s_s_PkgText ins outs := fun_ok (C := k_s_PkgText) (cfg_ok rfl) (eq_ok rfl rfl) mixed Tryd.func19 (by kernel_rfl) (by kernel_rfl) c_s_PkgText h

def p_s_RootOk : PC := .seq (.ss [.mv 1 (.t 0), .mv 2 (.c (.bool false))]) (.seq (.ss [.nop, .sub 4 1 0 1, .call 5 n_s_l6In s_s_l6In [(.t 4), (.c (.int .i64 1)), (.c (.int .i64 9))] [], .mv 6 (.t 5), .g 6 true 7 (.nop), .g 6 true 8 (.sub 8 1 1 1), .g 6 true 9 (.call 9 n_s_KeysOk s_s_KeysOk [(.t 8)] []), .pick 10 (.t 6) (.t 9) (.c (.bool false)), .mv 11 (.t 10), .g 11 true 12 (.nop), .g 11 true 13 (.sub 13 1 2 1), .g 11 true 14 (.nop), .g 11 true 15 (.sub 15 1 1 1), .g 11 true 16 (.len 16 (.t 15)), .g 11 true 17 (.call 17 n_s_l6In s_s_l6In [(.t 13), (.c (.int .i64 1)), (.t 16)] []), .pick 18 (.t 11) (.t 17) (.c (.bool false)), .mv 2 (.t 18)]) (.ret [2]))
def k_s_RootOk : Cfg := { tt := tt, sigs := sigs, mv := false, bm := [], eqt := eqL, keep := [true, true, true, false, false, false, false, false, false, false, false, false, false, false, false, false, false, false, false], n := 19, pin := [], fail := [], fz := [] }
theorem c_s_RootOk : cFun k_s_RootOk Tryd.f20 s_s_RootOk = some p_s_RootOk := by kernel_rfl
theorem F_s_RootOk {W : Wld} {ins outs : List (List D)} (h : pwp (FunOk PP W) p_s_RootOk (RetIs outs) (envL ins)) : FunOk PP W n_s_RootOk s_s_RootOk ins outs := fun_ok (C := k_s_RootOk) (cfg_ok rfl) (eq_ok rfl rfl) mixed Tryd.func20 (by kernel_rfl) (by kernel_rfl) c_s_RootOk h

def p_s_IndexOk : PC := .seq (.ss [.mv 1 (.t 0), .mv 2 (.c (.bool false))]) (.seq (.seq (.ss [.nop, .sub 6 1 0 1, .call 7 n_s_l6In s_s_l6In [(.t 6), (.c (.int .i64 1)), (.c (.int .i64 30))] [], .un 8 .not (.t 7), .mv 9 (.t 8), .g 9 false 10 (.nop), .g 9 false 11 (.sub 11 1 1 1), .g 9 false 12 (.call 12 n_s_l6In s_s_l6In [(.t 11), (.c (.int .i64 0)), (.c (.int .i64 60))] []), .g 9 false 13 (.un 13 .not (.t 12)), .pick 14 (.t 9) (.c (.bool true)) (.t 13), .mv 15 (.t 14), .g 15 false 16 (.nop), .g 15 false 17 (.sub 17 1 2 1), .g 15 false 18 (.len 18 (.t 17)), .g 15 false 19 (.bin 19 .gtr (.t 18) (.c (.int .i64 8))), .pick 20 (.t 15) (.c (.bool true)) (.t 19)]) (.cond (.t 20) (.seq (.ss [.mv 2 (.c (.bool false))]) (.ret [2])) (.skip))) (.seq (.seq (.ss [.mv 3 (.c (.int .i64 0))]) (.block 0 (.loop (.seq (.seq (.ss [.mv 21 (.t 3), .nop, .sub 23 1 2 1, .len 24 (.t 23), .bin 25 .lss (.t 21) (.t 24)]) (.cond (.t 25) (.skip) (.exit 0))) (.seq (.block 1 (.seq (.ss [.nop, .sub 29 1 2 1, .mv 30 (.t 3), .elp 31 (.t 29) (.t 30) 3, .eld 32 31 0 [.int .i64 0, .int .i64 0, .int .i64 0], .bld 4 [.int .i64 0, .int .i64 0, .int .i64 0] [], .st 4 0 (.t 32)]) (.seq (.seq (.ss [.nop, .sub 34 4 0 1, .call 35 n_s_l6In s_s_l6In [(.t 34), (.c (.int .i64 1)), (.c (.int .i64 4))] [], .un 36 .not (.t 35), .mv 37 (.t 36), .g 37 false 38 (.nop), .g 37 false 39 (.sub 39 4 1 1), .g 37 false 40 (.call 40 n_s_l6In s_s_l6In [(.t 39), (.c (.int .i64 1)), (.c (.int .i64 5))] []), .g 37 false 41 (.un 41 .not (.t 40)), .pick 42 (.t 37) (.c (.bool true)) (.t 41), .mv 43 (.t 42), .g 43 false 44 (.nop), .g 43 false 45 (.sub 45 4 2 1), .g 43 false 46 (.call 46 n_s_l6In s_s_l6In [(.t 45), (.c (.int .i64 0)), (.c (.int .i64 9972))] []), .g 43 false 47 (.un 47 .not (.t 46)), .pick 48 (.t 43) (.c (.bool true)) (.t 47)]) (.cond (.t 48) (.seq (.ss [.mv 2 (.c (.bool false))]) (.ret [2])) (.skip))) (.seq (.ss [.mv 49 (.t 3), .bin 50 .gtr (.t 49) (.c (.int .i64 0)), .mv 51 (.t 50), .g 51 true 52 (.nop), .g 51 true 53 (.sub 53 1 2 1), .g 51 true 54 (.mv 54 (.t 3)), .g 51 true 55 (.bin 55 .sub (.t 54) (.c (.int .i64 1))), .g 51 true 56 (.elp 56 (.t 53) (.t 55) 3), .g 51 true 57 (.mv 57 (.t 56)), .g 51 true 58 (.eld 58 57 0 [.int .i64 0]), .g 51 true 59 (.nop), .g 51 true 60 (.sub 60 1 2 1), .g 51 true 61 (.mv 61 (.t 3)), .g 51 true 62 (.bin 62 .sub (.t 61) (.c (.int .i64 1))), .g 51 true 63 (.elp 63 (.t 60) (.t 62) 3), .g 51 true 64 (.mv 64 (.t 63)), .g 51 true 65 (.eld 65 64 1 [.int .i64 0]), .g 51 true 66 (.nop), .g 51 true 67 (.sub 67 4 0 1), .g 51 true 68 (.nop), .g 51 true 69 (.sub 69 4 1 1), .g 51 true 70 (.call 70 n_s_l3Less s_s_l3Less [(.t 58), (.t 65), (.t 67), (.t 69)] []), .g 51 true 71 (.un 71 .not (.t 70)), .pick 72 (.t 51) (.t 71) (.c (.bool false))]) (.cond (.t 72) (.seq (.ss [.mv 2 (.c (.bool false))]) (.ret [2])) (.skip)))))) (.ss [.mv 26 (.t 3), .bin 27 .add (.t 26) (.c (.int .i64 1)), .mv 3 (.t 27)])))))) (.seq (.ss [.mv 2 (.c (.bool true))]) (.ret [2]))))
def k_s_IndexOk : Cfg := { tt := tt, sigs := sigs, mv := false, bm := [], eqt := eqL, keep := [true, true, true, true, true, false, false, false, false, false, false, false, false, false, false, false, false, false, false, false, true, false, false, false, false, true, false, false, false, false, false, false, false, false, false, false, false, false, false, false, false, false, false, false, false, false, false, false, true, false, false, false, false, false, false, false, false, false, false, false, false, false, false, false, false, false, false, false, false, false, false, false, true], n := 73, pin := [], fail := [], fz := [] }
theorem c_s_IndexOk : cFun k_s_IndexOk Tryd.f21 s_s_IndexOk = some p_s_IndexOk := by kernel_rfl
theorem F_s_IndexOk {W : Wld} {ins outs : List (List D)} (h : pwp (FunOk PP W) p_s_IndexOk (RetIs outs) (envL ins)) : FunOk PP W n_s_IndexOk s_s_IndexOk ins outs := fun_ok (C := k_s_IndexOk) (cfg_ok rfl) (eq_ok rfl rfl) mixed Tryd.func21 (by kernel_rfl) (by kernel_rfl) c_s_IndexOk h

def p_s_l3Pkgs : PC := .seq (.ss [.mv 2 (.c (.bool false))]) (.seq (.seq (.ss [.mv 3 (.c (.int .i64 0))]) (.block 0 (.loop (.seq (.seq (.ss [.mv 4 (.t 3), .mv 5 (.t 0), .len 6 (.t 5), .bin 7 .lss (.t 4) (.t 6)]) (.cond (.t 7) (.skip) (.exit 0))) (.seq (.block 1 (.seq (.ss [.mv 10 (.t 0), .mv 11 (.t 3), .elp 12 (.t 10) (.t 11) 4, .eld 13 12 0 [.int .i64 0, .int .i64 0, .sl [], .sl []], .call 14 n_s_PkgOk s_s_PkgOk [(.t 13)] [], .un 15 .not (.t 14), .mv 16 (.t 15), .g 16 false 17 (.mv 17 (.t 3)), .g 16 false 18 (.bin 18 .gtr (.t 17) (.c (.int .i64 0))), .g 16 false 19 (.mv 19 (.t 18)), .g 19 true 20 (.mv 20 (.t 0)), .g 19 true 21 (.mv 21 (.t 3)), .g 19 true 22 (.bin 22 .sub (.t 21) (.c (.int .i64 1))), .g 19 true 23 (.elp 23 (.t 20) (.t 22) 4), .g 19 true 24 (.mv 24 (.t 23)), .g 19 true 25 (.eld 25 24 0 [.int .i64 0]), .g 19 true 26 (.mv 26 (.t 0)), .g 19 true 27 (.mv 27 (.t 3)), .g 19 true 28 (.bin 28 .sub (.t 27) (.c (.int .i64 1))), .g 19 true 29 (.elp 29 (.t 26) (.t 28) 4), .g 19 true 30 (.mv 30 (.t 29)), .g 19 true 31 (.eld 31 30 1 [.int .i64 0]), .g 19 true 32 (.mv 32 (.t 0)), .g 19 true 33 (.mv 33 (.t 3)), .g 19 true 34 (.elp 34 (.t 32) (.t 33) 4), .g 19 true 35 (.mv 35 (.t 34)), .g 19 true 36 (.eld 36 35 0 [.int .i64 0]), .g 19 true 37 (.mv 37 (.t 0)), .g 19 true 38 (.mv 38 (.t 3)), .g 19 true 39 (.elp 39 (.t 37) (.t 38) 4), .g 19 true 40 (.mv 40 (.t 39)), .g 19 true 41 (.eld 41 40 1 [.int .i64 0]), .g 19 true 42 (.call 42 n_s_l3Less s_s_l3Less [(.t 25), (.t 31), (.t 36), (.t 41)] []), .g 19 true 43 (.un 43 .not (.t 42)), .g 16 false 44 (.pick 44 (.t 19) (.t 43) (.c (.bool false))), .pick 45 (.t 16) (.c (.bool true)) (.t 44)]) (.cond (.t 45) (.seq (.ss [.mv 2 (.c (.bool false))]) (.ret [2])) (.skip)))) (.ss [.mv 8 (.t 3), .bin 9 .add (.t 8) (.c (.int .i64 1)), .mv 3 (.t 9)])))))) (.seq (.ss [.mv 2 (.c (.bool true))]) (.ret [2])))
def k_s_l3Pkgs : Cfg := { tt := tt, sigs := sigs, mv := false, bm := [], eqt := eqL, keep := [true, false, true, true, false, false, false, true, false, false, false, false, false, false, false, false, false, false, false, false, false, false, false, false, false, false, false, false, false, false, false, false, false, false, false, false, false, false, false, false, false, false, false, false, false, true], n := 46, pin := [], fail := [], fz := [] }
theorem c_s_l3Pkgs : cFun k_s_l3Pkgs Tryd.f22 s_s_l3Pkgs = some p_s_l3Pkgs := by kernel_rfl
theorem F_s_l3Pkgs {W : Wld} {ins outs : List (List D)} (h : pwp (FunOk PP W) p_s_l3Pkgs (RetIs outs) (envL ins)) : FunOk PP W n_s_l3Pkgs s_s_l3Pkgs ins outs := fun_ok (C := k_s_l3Pkgs) (cfg_ok rfl) (eq_ok rfl rfl) mixed Tryd.func22 (by kernel_rfl) (by kernel_rfl) c_s_l3Pkgs h

def p_sl_Contains_Meta : PC := .seq (.ss [.mv 3 (.t 1), .mv 4 (.c (.bool false))]) (.seq (.ss [.mv 5 (.t 0), .sub 6 3 0 3, .call 7 n_sl_Index_Meta s_sl_Index_Meta [(.t 5), (.t 6)] [], .bin 8 .geq (.t 7) (.c (.int .i64 0)), .mv 4 (.t 8)]) (.ret [4]))
def k_sl_Contains_Meta : Cfg := { tt := tt, sigs := sigs, mv := false, bm := [], eqt := eqL, keep := [true, true, false, true, true, false, false, false, false], n := 9, pin := [], fail := [], fz := [] }
theorem c_sl_Contains_Meta : cFun k_sl_Contains_Meta Tryd.f23 s_sl_Contains_Meta = some p_sl_Contains_Meta := by kernel_rfl
theorem F_sl_Contains_Meta {W : Wld} {ins outs : List (List D)} (h : pwp (FunOk PP W) p_sl_Contains_Meta (RetIs outs) (envL ins)) : FunOk PP W n_sl_Contains_Meta s_sl_Contains_Meta ins outs := fun_ok (C := k_sl_Contains_Meta) (cfg_ok rfl) (eq_ok rfl rfl) mixed Tryd.func23 (by kernel_rfl) (by kernel_rfl) c_sl_Contains_Meta h

def p_i_Pkg_copied : PC := .seq (.ss [.mv 1 (.t 0), .bld 2 [.int .i64 0, .int .i64 0, .sl [], .sl []] []]) (.seq (.ss [.nop, .sub 4 1 2 1, .call 5 n_sl_Clone_File s_sl_Clone_File [(.t 4)] [], .nop, .sub 7 1 3 1, .call 8 n_sl_Clone_Dep s_sl_Clone_Dep [(.t 7)] [], .nop, .st 1 2 (.t 5), .nop, .st 1 3 (.t 8)]) (.seq (.ss [.sub 11 1 0 4, .st 2 0 (.t 11)]) (.ret [2])))
def k_i_Pkg_copied : Cfg := { tt := tt, sigs := sigs, mv := false, bm := [], eqt := eqL, keep := [true, true, true, false, false, false, false, false, false, false, false, false], n := 12, pin := [], fail := [], fz := [] }
theorem c_i_Pkg_copied : cFun k_i_Pkg_copied Tryd.f24 s_i_Pkg_copied = some p_i_Pkg_copied := by kernel_rfl
theorem F_i_Pkg_copied {W : Wld} {ins outs : List (List D)} (h : pwp (FunOk PP W) p_i_Pkg_copied (RetIs outs) (envL ins)) : FunOk PP W n_i_Pkg_copied s_i_Pkg_copied ins outs := fun_ok (C := k_i_Pkg_copied) (cfg_ok rfl) (eq_ok rfl rfl) mixed Tryd.func24 (by kernel_rfl) (by kernel_rfl) c_i_Pkg_copied h

def p_s_l71Trust : PC := .seq (.ss [.bld 2 [.int .i64 0, .sl [], .int .i64 0, .bool false, .int .i64 0, .int .i64 0, .sl []] [], .mv 3 (.c (.sl []))]) (.seq (.ss [.nop, .call 7 n_s_l71Root s_s_l71Root [(.t 0)] [0], .bld 8 [.int .i64 0, .sl [], .int .i64 0, .bool false, .int .i64 0, .int .i64 0, .sl []] [(0, (.t 7))], .bld 4 [.int .i64 0, .sl [], .int .i64 0, .bool false, .int .i64 0, .int .i64 0, .sl []] [], .st 4 0 (.t 8)]) (.seq (.ss [.nop, .call 10 n_s_l71Pkgs s_s_l71Pkgs [(.t 0)] [0], .mv 5 (.t 10)]) (.seq (.seq (.ss [.nop, .call 12 n_s_l6Rd_pick s_s_l6Rd_pick [(.t 0), (.c (.int .i64 5))] [0], .bin 13 .gtr (.t 12) (.c (.int .i64 0))]) (.cond (.t 13) (.seq (.ss [.nop, .st 4 3 (.c (.bool true))]) (.ss [.nop, .call 17 n_s_l6Rd_pick s_s_l6Rd_pick [(.t 0), (.c (.int .i64 4))] [0], .bin 18 .add (.c (.int .i64 1)) (.t 17), .nop, .call 20 n_s_l6Rd_pick s_s_l6Rd_pick [(.t 0), (.c (.int .i64 12))] [0], .mv 21 (.t 5), .call 22 n_s_IndexOf s_s_IndexOf [(.t 18), (.t 20), (.t 21)] [], .mv 15 (.t 22), .ext 23 15 0 3, .ext 24 15 3 1, .nop, .st 4 4 (.t 23)])) (.skip))) (.seq (.seq (.ss [.nop, .call 27 n_s_l6Rd_pick s_s_l6Rd_pick [(.t 0), (.c (.int .i64 24))] [0]]) (.block 0 (.seq (.ss [.bin 29 .eql (.t 27) (.c (.int .i64 0)), .mv 28 (.t 29)]) (.cond (.t 28) (.ss [.nop, .sub 31 4 3 1, .un 32 .not (.t 31), .nop, .st 4 3 (.t 32)]) (.seq (.ss [.bin 35 .eql (.t 27) (.c (.int .i64 1)), .mv 34 (.t 35)]) (.cond (.t 34) (.ss [.nop, .call 37 n_s_l71Index s_s_l71Index [(.t 0)] [0], .nop, .st 4 4 (.t 37)]) (.skip))))))) (.seq (.ss [.sub 39 4 0 7, .mv 40 (.t 5), .st 2 0 (.t 39), .mv 3 (.t 40)]) (.ret [2, 3, 0]))))))
def k_s_l71Trust : Cfg := { tt := tt, sigs := sigs, mv := false, bm := [], eqt := eqL, keep := [true, false, true, true, true, true, false, false, false, false, false, false, false, true, false, false, false, false, false, false, false, false, false, false, false, false, false, true, true, false, false, false, false, false, true, false, false, false, false, false, false], n := 41, pin := [0], fail := [], fz := [] }
theorem c_s_l71Trust : cFun k_s_l71Trust Tryd.f26 s_s_l71Trust = some p_s_l71Trust := by kernel_rfl
theorem F_s_l71Trust {W : Wld} {ins outs : List (List D)} (h : pwp (FunOk PP W) p_s_l71Trust (RetIs outs) (envL ins)) : FunOk PP W n_s_l71Trust s_s_l71Trust ins outs := fun_ok (C := k_s_l71Trust) (cfg_ok rfl) (eq_ok rfl rfl) mixed Tryd.func26 (by kernel_rfl) (by kernel_rfl) c_s_l71Trust h

def p_s_l71Some : PC := .seq (.ss [.mv 4 (.c (.sl []))]) (.seq (.ss [.lit 7 0 [.int .i64 0, .int .i64 0, .sl [], .sl []] [], .mv 5 (.t 7)]) (.seq (.seq (.ss [.mv 6 (.c (.int .i64 0))]) (.block 0 (.loop (.seq (.seq (.ss [.mv 8 (.t 6), .mv 9 (.t 1), .len 10 (.t 9), .bin 11 .lss (.t 8) (.t 10)]) (.cond (.t 11) (.skip) (.exit 0))) (.seq (.block 1 (.seq (.ss [.nop, .call 15 n_s_l6Rd_pick s_s_l6Rd_pick [(.t 0), (.c (.int .i64 3))] [0], .bin 16 .gtr (.t 15) (.c (.int .i64 0))]) (.cond (.t 16) (.ss [.mv 17 (.t 5), .mv 18 (.t 1), .mv 19 (.t 6), .elp 20 (.t 18) (.t 19) 4, .eld 21 20 0 [.int .i64 0, .int .i64 0, .sl [], .sl []], .lit 22 1 [.int .i64 0, .int .i64 0, .sl [], .sl []] [(0, (.t 21))], .app 23 4 false (.t 17) (.t 22), .mv 5 (.t 23)]) (.skip)))) (.ss [.mv 12 (.t 6), .bin 13 .add (.t 12) (.c (.int .i64 1)), .mv 6 (.t 13)])))))) (.seq (.seq (.ss [.nop, .call 25 n_s_l6Rd_pick s_s_l6Rd_pick [(.t 0), (.c (.int .i64 12))] [0], .bin 26 .eql (.t 25) (.c (.int .i64 0))]) (.cond (.t 26) (.seq (.ss [.nop, .call 28 n_s_l71Off s_s_l71Off [(.t 0)] [0], .mv 4 (.t 28)]) (.ret [4, 0])) (.skip))) (.seq (.ss [.mv 29 (.t 5), .mv 4 (.t 29)]) (.ret [4, 0])))))
def k_s_l71Some : Cfg := { tt := tt, sigs := sigs, mv := false, bm := [], eqt := eqL, keep := [true, true, false, false, true, true, true, false, false, false, false, true, false, false, false, false, true, false, false, false, false, false, false, false, false, false, true, false, false, false], n := 30, pin := [0], fail := [], fz := [] }
theorem c_s_l71Some : cFun k_s_l71Some Tryd.f27 s_s_l71Some = some p_s_l71Some := by kernel_rfl
theorem F_s_l71Some {W : Wld} {ins outs : List (List D)} (h : pwp (FunOk PP W) p_s_l71Some (RetIs outs) (envL ins)) : FunOk PP W n_s_l71Some s_s_l71Some ins outs := fun_ok (C := k_s_l71Some) (cfg_ok rfl) (eq_ok rfl rfl) mixed Tryd.func27 (by kernel_rfl) (by kernel_rfl) c_s_l71Some h

def p_s_l6Rd_pick : PC := .seq (.ss [.mv 4 (.c (.int .i64 0))]) (.seq (.ss [.nop, .nop, .nop, .nop, .sub 11 0 1 1, .bin 12 .add (.t 11) (.c (.int .i64 1)), .nop, .nop, .st 0 1 (.t 12)]) (.seq (.seq (.ss [.mv 15 (.t 1), .bin 16 .lss (.t 15) (.c (.int .i64 1)), .mv 17 (.t 16), .g 17 false 18 (.nop), .g 17 false 19 (.nop), .g 17 false 20 (.nop), .g 17 false 21 (.sub 21 0 0 1), .g 17 false 22 (.len 22 (.t 21)), .g 17 false 23 (.bin 23 .eql (.t 22) (.c (.int .i64 0))), .pick 24 (.t 17) (.c (.bool true)) (.t 23)]) (.cond (.t 24) (.seq (.ss [.mv 4 (.c (.int .i64 0))]) (.ret [4, 0])) (.skip))) (.seq (.ss [.nop, .nop, .nop, .sub 28 0 1 1, .bin 29 .sub (.t 28) (.c (.int .i64 1)), .mv 5 (.t 29)]) (.seq (.seq (.ss [.mv 30 (.t 5), .nop, .nop, .nop, .sub 34 0 0 1, .len 35 (.t 34), .bin 36 .lss (.t 30) (.t 35)]) (.cond (.t 36) (.seq (.ss [.nop, .nop, .nop, .sub 40 0 0 1, .mv 41 (.t 5), .elp 42 (.t 40) (.t 41) 1, .eld 43 42 0 [.int .u8 0], .cvt 44 .i64 (.t 43), .mv 45 (.t 1), .bin 46 .rem (.t 44) (.t 45), .mv 4 (.t 46)]) (.ret [4, 0])) (.skip))) (.seq (.ss [.nop, .nop, .nop, .sub 50 0 0 1, .mv 51 (.t 5), .nop, .nop, .nop, .sub 55 0 0 1, .len 56 (.t 55), .bin 57 .rem (.t 51) (.t 56), .elp 58 (.t 50) (.t 57) 1, .eld 59 58 0 [.int .u8 0], .cvt 60 .i64 (.t 59), .bin 61 .mul (.t 60) (.c (.int .i64 131)), .nop, .nop, .nop, .sub 65 0 0 1, .mv 66 (.t 5), .bin 67 .mul (.t 66) (.c (.int .i64 7)), .bin 68 .add (.t 67) (.c (.int .i64 3)), .nop, .nop, .nop, .sub 72 0 0 1, .len 73 (.t 72), .bin 74 .rem (.t 68) (.t 73), .elp 75 (.t 65) (.t 74) 1, .eld 76 75 0 [.int .u8 0], .cvt 77 .i64 (.t 76), .bin 78 .mul (.t 77) (.c (.int .i64 1117)), .bin 79 .add (.t 61) (.t 78), .mv 80 (.t 5), .bin 81 .mul (.t 80) (.c (.int .i64 29)), .bin 82 .add (.t 79) (.t 81), .mv 83 (.t 5), .nop, .nop, .nop, .sub 87 0 0 1, .len 88 (.t 87), .bin 89 .quo (.t 83) (.t 88), .bin 90 .mul (.t 89) (.c (.int .i64 53)), .bin 91 .add (.t 82) (.t 90), .mv 6 (.t 91)]) (.seq (.ss [.mv 92 (.t 6), .mv 93 (.t 6), .bin 94 .quo (.t 93) (.c (.int .i64 64)), .bin 95 .xor (.t 92) (.t 94), .mv 6 (.t 95)]) (.seq (.ss [.mv 96 (.t 6), .mv 97 (.t 1), .bin 98 .rem (.t 96) (.t 97), .mv 4 (.t 98)]) (.ret [4, 0]))))))))
def k_s_l6Rd_pick : Cfg := { tt := tt, sigs := sigs, mv := false, bm := [], eqt := eqL, keep := [true, true, false, false, true, true, true, false, false, false, false, false, false, false, false, false, false, false, false, false, false, false, false, false, true, false, false, false, false, false, false, false, false, false, false, false, true, false, false, false, false, false, false, false, false, false, false, false, false, false, false, false, false, false, false, false, false, false, false, false, false, false, false, false, false, false, false, false, false, false, false, false, false, false, false, false, false, false, false, false, false, false, false, false, false, false, false, false, false, false, false, false, false, false, false, false, false, false, false], n := 99, pin := [0], fail := [], fz := [] }
theorem c_s_l6Rd_pick : cFun k_s_l6Rd_pick Tryd.f28 s_s_l6Rd_pick = some p_s_l6Rd_pick := by kernel_rfl
theorem F_s_l6Rd_pick {W : Wld} {ins outs : List (List D)} (h : pwp (FunOk PP W) p_s_l6Rd_pick (RetIs outs) (envL ins)) : FunOk PP W n_s_l6Rd_pick s_s_l6Rd_pick ins outs := fun_ok (C := k_s_l6Rd_pick) (cfg_ok rfl) (eq_ok rfl rfl) mixed Tryd.func28 (by kernel_rfl) (by kernel_rfl) c_s_l6Rd_pick h

def p_i_RootOk : PC := .seq (.ss [.mv 1 (.t 0), .mv 2 (.c (.bool false))]) (.seq (.ss [.nop, .sub 4 1 0 1, .call 5 n_i_in s_i_in [(.t 4), (.c (.int .i64 1)), (.c (.int .i64 9))] [], .mv 6 (.t 5), .g 6 true 7 (.nop), .g 6 true 8 (.sub 8 1 1 1), .g 6 true 9 (.call 9 n_i_KeysOk s_i_KeysOk [(.t 8)] []), .pick 10 (.t 6) (.t 9) (.c (.bool false)), .mv 11 (.t 10), .g 11 true 12 (.nop), .g 11 true 13 (.sub 13 1 2 1), .g 11 true 14 (.nop), .g 11 true 15 (.sub 15 1 1 1), .g 11 true 16 (.len 16 (.t 15)), .g 11 true 17 (.call 17 n_i_in s_i_in [(.t 13), (.c (.int .i64 1)), (.t 16)] []), .pick 18 (.t 11) (.t 17) (.c (.bool false)), .mv 2 (.t 18)]) (.ret [2]))
def k_i_RootOk : Cfg := { tt := tt, sigs := sigs, mv := false, bm := [], eqt := eqL, keep := [true, true, true, false, false, false, false, false, false, false, false, false, false, false, false, false, false, false, false], n := 19, pin := [], fail := [], fz := [] }
theorem c_i_RootOk : cFun k_i_RootOk Tryd.f31 s_i_RootOk = some p_i_RootOk := by kernel_rfl
theorem F_i_RootOk {W : Wld} {ins outs : List (List D)} (h : pwp (FunOk PP W) p_i_RootOk (RetIs outs) (envL ins)) : FunOk PP W n_i_RootOk s_i_RootOk ins outs := fun_ok (C := k_i_RootOk) (cfg_ok rfl) (eq_ok rfl rfl) mixed Tryd.func31 (by kernel_rfl) (by kernel_rfl) c_i_RootOk h

def p_i_IndexOk : PC := .seq (.ss [.mv 1 (.t 0), .mv 2 (.c (.bool false))]) (.seq (.seq (.ss [.nop, .sub 6 1 2 1, .len 7 (.t 6), .mv 8 (.c (.int .i64 0))]) (.block 0 (.loop (.seq (.ss [.bin 9 .lss (.t 8) (.t 7)]) (.seq (.cond (.t 9) (.skip) (.exit 0)) (.seq (.block 1 (.seq (.ss [.mv 10 (.t 8), .elp 11 (.t 6) (.t 8) 3, .eld 12 11 0 [.int .i64 0, .int .i64 0, .int .i64 0], .bld 4 [.int .i64 0, .int .i64 0, .int .i64 0] [], .mv 3 (.t 10), .st 4 0 (.t 12)]) (.seq (.seq (.ss [.nop, .sub 14 4 0 1, .call 15 n_i_isName s_i_isName [(.t 14)] [], .un 16 .not (.t 15), .mv 17 (.t 16), .g 17 false 18 (.nop), .g 17 false 19 (.sub 19 4 1 1), .g 17 false 20 (.call 20 n_i_isVer s_i_isVer [(.t 19)] []), .g 17 false 21 (.un 21 .not (.t 20)), .pick 22 (.t 17) (.c (.bool true)) (.t 21), .mv 23 (.t 22), .g 23 false 24 (.nop), .g 23 false 25 (.sub 25 4 2 1), .g 23 false 26 (.call 26 n_i_in s_i_in [(.t 25), (.c (.int .i64 0)), (.c (.int .i64 9972))] []), .g 23 false 27 (.un 27 .not (.t 26)), .pick 28 (.t 23) (.c (.bool true)) (.t 27)]) (.cond (.t 28) (.seq (.ss [.mv 2 (.c (.bool false))]) (.ret [2])) (.skip))) (.seq (.ss [.mv 29 (.t 3), .bin 30 .gtr (.t 29) (.c (.int .i64 0)), .mv 31 (.t 30), .g 31 true 32 (.nop), .g 31 true 33 (.sub 33 4 0 1), .g 31 true 34 (.nop), .g 31 true 35 (.sub 35 1 2 1), .g 31 true 36 (.mv 36 (.t 3)), .g 31 true 37 (.bin 37 .sub (.t 36) (.c (.int .i64 1))), .g 31 true 38 (.elp 38 (.t 35) (.t 37) 3), .g 31 true 39 (.mv 39 (.t 38)), .g 31 true 40 (.eld 40 39 0 [.int .i64 0]), .g 31 true 41 (.bin 41 .lss (.t 33) (.t 40)), .g 31 true 42 (.mv 42 (.t 41)), .g 42 false 43 (.nop), .g 42 false 44 (.sub 44 4 0 1), .g 42 false 45 (.nop), .g 42 false 46 (.sub 46 1 2 1), .g 42 false 47 (.mv 47 (.t 3)), .g 42 false 48 (.bin 48 .sub (.t 47) (.c (.int .i64 1))), .g 42 false 49 (.elp 49 (.t 46) (.t 48) 3), .g 42 false 50 (.mv 50 (.t 49)), .g 42 false 51 (.eld 51 50 0 [.int .i64 0]), .g 42 false 52 (.bin 52 .eql (.t 44) (.t 51)), .g 42 false 53 (.mv 53 (.t 52)), .g 53 true 54 (.nop), .g 53 true 55 (.sub 55 4 1 1), .g 53 true 56 (.nop), .g 53 true 57 (.sub 57 1 2 1), .g 53 true 58 (.mv 58 (.t 3)), .g 53 true 59 (.bin 59 .sub (.t 58) (.c (.int .i64 1))), .g 53 true 60 (.elp 60 (.t 57) (.t 59) 3), .g 53 true 61 (.mv 61 (.t 60)), .g 53 true 62 (.eld 62 61 1 [.int .i64 0]), .g 53 true 63 (.bin 63 .leq (.t 55) (.t 62)), .g 42 false 64 (.pick 64 (.t 53) (.t 63) (.c (.bool false))), .g 31 true 65 (.pick 65 (.t 42) (.c (.bool true)) (.t 64)), .pick 66 (.t 31) (.t 65) (.c (.bool false))]) (.cond (.t 66) (.seq (.ss [.mv 2 (.c (.bool false))]) (.ret [2])) (.skip)))))) (.ss [.bin 67 .add (.t 8) (.c (.int .i64 1)), .mv 8 (.t 67)]))))))) (.seq (.ss [.nop, .sub 69 1 0 1, .call 70 n_i_in s_i_in [(.t 69), (.c (.int .i64 1)), (.c (.int .i64 30))] [], .mv 71 (.t 70), .g 71 true 72 (.nop), .g 71 true 73 (.sub 73 1 1 1), .g 71 true 74 (.call 74 n_i_in s_i_in [(.t 73), (.c (.int .i64 0)), (.c (.int .i64 60))] []), .pick 75 (.t 71) (.t 74) (.c (.bool false)), .mv 76 (.t 75), .g 76 true 77 (.nop), .g 76 true 78 (.sub 78 1 2 1), .g 76 true 79 (.len 79 (.t 78)), .g 76 true 80 (.bin 80 .leq (.t 79) (.c (.int .i64 8))), .pick 81 (.t 76) (.t 80) (.c (.bool false)), .mv 2 (.t 81)]) (.ret [2])))
def k_i_IndexOk : Cfg := { tt := tt, sigs := sigs, mv := false, bm := [], eqt := eqL, keep := [true, true, true, true, true, false, true, true, true, true, false, false, false, false, false, false, false, false, false, false, false, false, false, false, false, false, false, false, true, false, false, false, false, false, false, false, false, false, false, false, false, false, false, false, false, false, false, false, false, false, false, false, false, false, false, false, false, false, false, false, false, false, false, false, false, false, true, false, false, false, false, false, false, false, false, false, false, false, false, false, false, false], n := 82, pin := [], fail := [], fz := [] }
theorem c_i_IndexOk : cFun k_i_IndexOk Tryd.f32 s_i_IndexOk = some p_i_IndexOk := by kernel_rfl
theorem F_i_IndexOk {W : Wld} {ins outs : List (List D)} (h : pwp (FunOk PP W) p_i_IndexOk (RetIs outs) (envL ins)) : FunOk PP W n_i_IndexOk s_i_IndexOk ins outs := fun_ok (C := k_i_IndexOk) (cfg_ok rfl) (eq_ok rfl rfl) mixed Tryd.func32 (by kernel_rfl) (by kernel_rfl) c_i_IndexOk h

def p_i_Index_same : PC := .seq (.ss [.mv 2 (.t 0), .mv 3 (.t 1), .mv 4 (.c (.bool false))]) (.seq (.ss [.nop, .sub 6 2 0 1, .nop, .sub 8 3 0 1, .bin 9 .eql (.t 6) (.t 8), .mv 10 (.t 9), .g 10 true 11 (.nop), .g 10 true 12 (.sub 12 2 1 1), .g 10 true 13 (.nop), .g 10 true 14 (.sub 14 3 1 1), .g 10 true 15 (.bin 15 .eql (.t 12) (.t 14)), .pick 16 (.t 10) (.t 15) (.c (.bool false)), .mv 17 (.t 16), .g 17 true 18 (.nop), .g 17 true 19 (.sub 19 2 2 1), .g 17 true 20 (.nop), .g 17 true 21 (.sub 21 3 2 1), .g 17 true 22 (.call 22 n_sl_Equal_Meta s_sl_Equal_Meta [(.t 19), (.t 21)] []), .pick 23 (.t 17) (.t 22) (.c (.bool false)), .mv 4 (.t 23)]) (.ret [4]))
def k_i_Index_same : Cfg := { tt := tt, sigs := sigs, mv := false, bm := [], eqt := eqL, keep := [true, true, true, true, true, false, false, false, false, false, false, false, false, false, false, false, false, false, false, false, false, false, false, false], n := 24, pin := [], fail := [], fz := [] }
theorem c_i_Index_same : cFun k_i_Index_same Tryd.f33 s_i_Index_same = some p_i_Index_same := by kernel_rfl
theorem F_i_Index_same {W : Wld} {ins outs : List (List D)} (h : pwp (FunOk PP W) p_i_Index_same (RetIs outs) (envL ins)) : FunOk PP W n_i_Index_same s_i_Index_same ins outs := fun_ok (C := k_i_Index_same) (cfg_ok rfl) (eq_ok rfl rfl) mixed Tryd.func33 (by kernel_rfl) (by kernel_rfl) c_i_Index_same h

def p_i_PkgOk : PC := .seq (.ss [.mv 1 (.t 0), .mv 2 (.c (.bool false))]) (.seq (.seq (.ss [.nop, .sub 8 1 0 1, .call 9 n_i_isName s_i_isName [(.t 8)] [], .un 10 .not (.t 9), .mv 11 (.t 10), .g 11 false 12 (.nop), .g 11 false 13 (.sub 13 1 1 1), .g 11 false 14 (.call 14 n_i_isVer s_i_isVer [(.t 13)] []), .g 11 false 15 (.un 15 .not (.t 14)), .pick 16 (.t 11) (.c (.bool true)) (.t 15), .mv 17 (.t 16), .g 17 false 18 (.nop), .g 17 false 19 (.sub 19 1 2 1), .g 17 false 20 (.len 20 (.t 19)), .g 17 false 21 (.bin 21 .gtr (.t 20) (.c (.int .i64 2))), .pick 22 (.t 17) (.c (.bool true)) (.t 21), .mv 23 (.t 22), .g 23 false 24 (.nop), .g 23 false 25 (.sub 25 1 3 1), .g 23 false 26 (.len 26 (.t 25)), .g 23 false 27 (.bin 27 .gtr (.t 26) (.c (.int .i64 2))), .pick 28 (.t 23) (.c (.bool true)) (.t 27)]) (.cond (.t 28) (.seq (.ss [.mv 2 (.c (.bool false))]) (.ret [2])) (.skip))) (.seq (.seq (.ss [.nop, .sub 30 1 2 1, .len 31 (.t 30), .mv 32 (.c (.int .i64 0))]) (.block 0 (.loop (.seq (.ss [.bin 33 .lss (.t 32) (.t 31)]) (.seq (.cond (.t 33) (.skip) (.exit 0)) (.seq (.block 1 (.seq (.ss [.mv 34 (.t 32), .elp 35 (.t 30) (.t 32) 2, .eld 36 35 0 [.int .i64 0, .int .i64 0], .bld 4 [.int .i64 0, .int .i64 0] [], .mv 3 (.t 34), .st 4 0 (.t 36)]) (.seq (.ss [.nop, .sub 38 4 0 1, .call 39 n_i_in s_i_in [(.t 38), (.c (.int .i64 0)), (.c (.int .i64 5))] [], .un 40 .not (.t 39), .mv 41 (.t 40), .g 41 false 42 (.nop), .g 41 false 43 (.sub 43 4 1 1), .g 41 false 44 (.call 44 n_i_in s_i_in [(.t 43), (.c (.int .i64 0)), (.c (.int .i64 9))] []), .g 41 false 45 (.un 45 .not (.t 44)), .pick 46 (.t 41) (.c (.bool true)) (.t 45), .mv 47 (.t 46), .g 47 false 48 (.mv 48 (.t 3)), .g 47 false 49 (.bin 49 .gtr (.t 48) (.c (.int .i64 0))), .g 47 false 50 (.mv 50 (.t 49)), .g 50 true 51 (.nop), .g 50 true 52 (.sub 52 4 0 1), .g 50 true 53 (.nop), .g 50 true 54 (.sub 54 1 2 1), .g 50 true 55 (.mv 55 (.t 3)), .g 50 true 56 (.bin 56 .sub (.t 55) (.c (.int .i64 1))), .g 50 true 57 (.elp 57 (.t 54) (.t 56) 2), .g 50 true 58 (.mv 58 (.t 57)), .g 50 true 59 (.eld 59 58 0 [.int .i64 0]), .g 50 true 60 (.bin 60 .leq (.t 52) (.t 59)), .g 47 false 61 (.pick 61 (.t 50) (.t 60) (.c (.bool false))), .pick 62 (.t 47) (.c (.bool true)) (.t 61)]) (.cond (.t 62) (.seq (.ss [.mv 2 (.c (.bool false))]) (.ret [2])) (.skip))))) (.ss [.bin 63 .add (.t 32) (.c (.int .i64 1)), .mv 32 (.t 63)]))))))) (.seq (.seq (.ss [.nop, .sub 65 1 3 1, .len 66 (.t 65), .mv 67 (.c (.int .i64 0))]) (.block 2 (.loop (.seq (.ss [.bin 68 .lss (.t 67) (.t 66)]) (.seq (.cond (.t 68) (.skip) (.exit 2)) (.seq (.block 3 (.seq (.ss [.mv 69 (.t 67), .elp 70 (.t 65) (.t 67) 2, .eld 71 70 0 [.int .i64 0, .int .i64 0], .bld 6 [.int .i64 0, .int .i64 0] [], .mv 5 (.t 69), .st 6 0 (.t 71)]) (.seq (.ss [.nop, .sub 73 6 0 1, .call 74 n_i_isName s_i_isName [(.t 73)] [], .un 75 .not (.t 74), .mv 76 (.t 75), .g 76 false 77 (.nop), .g 76 false 78 (.sub 78 6 0 1), .g 76 false 79 (.nop), .g 76 false 80 (.sub 80 1 0 1), .g 76 false 81 (.bin 81 .eql (.t 78) (.t 80)), .pick 82 (.t 76) (.c (.bool true)) (.t 81), .mv 83 (.t 82), .g 83 false 84 (.nop), .g 83 false 85 (.sub 85 6 1 1), .g 83 false 86 (.call 86 n_i_isVer s_i_isVer [(.t 85)] []), .g 83 false 87 (.un 87 .not (.t 86)), .pick 88 (.t 83) (.c (.bool true)) (.t 87), .mv 89 (.t 88), .g 89 false 90 (.mv 90 (.t 5)), .g 89 false 91 (.bin 91 .gtr (.t 90) (.c (.int .i64 0))), .g 89 false 92 (.mv 92 (.t 91)), .g 92 true 93 (.nop), .g 92 true 94 (.sub 94 6 0 1), .g 92 true 95 (.nop), .g 92 true 96 (.sub 96 1 3 1), .g 92 true 97 (.mv 97 (.t 5)), .g 92 true 98 (.bin 98 .sub (.t 97) (.c (.int .i64 1))), .g 92 true 99 (.elp 99 (.t 96) (.t 98) 2), .g 92 true 100 (.mv 100 (.t 99)), .g 92 true 101 (.eld 101 100 0 [.int .i64 0]), .g 92 true 102 (.bin 102 .leq (.t 94) (.t 101)), .g 89 false 103 (.pick 103 (.t 92) (.t 102) (.c (.bool false))), .pick 104 (.t 89) (.c (.bool true)) (.t 103)]) (.cond (.t 104) (.seq (.ss [.mv 2 (.c (.bool false))]) (.ret [2])) (.skip))))) (.ss [.bin 105 .add (.t 67) (.c (.int .i64 1)), .mv 67 (.t 105)]))))))) (.seq (.ss [.mv 2 (.c (.bool true))]) (.ret [2])))))
def k_i_PkgOk : Cfg := { tt := tt, sigs := sigs, mv := false, bm := [], eqt := eqL, keep := [true, true, true, true, true, true, true, false, false, false, false, false, false, false, false, false, false, false, false, false, false, false, false, false, false, false, false, false, true, false, true, true, true, true, false, false, false, false, false, false, false, false, false, false, false, false, false, false, false, false, false, false, false, false, false, false, false, false, false, false, false, false, true, false, false, true, true, true, true, false, false, false, false, false, false, false, false, false, false, false, false, false, false, false, false, false, false, false, false, false, false, false, false, false, false, false, false, false, false, false, false, false, false, false, true, false], n := 106, pin := [], fail := [], fz := [] }
theorem c_i_PkgOk : cFun k_i_PkgOk Tryd.f34 s_i_PkgOk = some p_i_PkgOk := by kernel_rfl
theorem F_i_PkgOk {W : Wld} {ins outs : List (List D)} (h : pwp (FunOk PP W) p_i_PkgOk (RetIs outs) (envL ins)) : FunOk PP W n_i_PkgOk s_i_PkgOk ins outs := fun_ok (C := k_i_PkgOk) (cfg_ok rfl) (eq_ok rfl rfl) mixed Tryd.func34 (by kernel_rfl) (by kernel_rfl) c_i_PkgOk h

def p_i_Pkg_compare : PC := .seq (.ss [.mv 2 (.t 0), .mv 3 (.t 1), .mv 4 (.c (.int .i64 0))]) (.seq (.ss [.nop, .sub 6 2 0 1, .nop, .sub 8 3 0 1, .call 9 n_cmp_Compare_int s_cmp_Compare_int [(.t 6), (.t 8)] [], .nop, .sub 11 2 1 1, .nop, .sub 13 3 1 1, .call 14 n_cmp_Compare_int s_cmp_Compare_int [(.t 11), (.t 13)] [], .lit 15 2 [.int .i64 0] [(0, (.t 9)), (1, (.t 14))], .call 16 n_cmp_Or_int s_cmp_Or_int [(.t 15)] [], .mv 4 (.t 16)]) (.ret [4]))
def k_i_Pkg_compare : Cfg := { tt := tt, sigs := sigs, mv := false, bm := [], eqt := eqL, keep := [true, true, true, true, true, false, false, false, false, false, false, false, false, false, false, false, false], n := 17, pin := [], fail := [], fz := [] }
theorem c_i_Pkg_compare : cFun k_i_Pkg_compare Tryd.f35 s_i_Pkg_compare = some p_i_Pkg_compare := by kernel_rfl
theorem F_i_Pkg_compare {W : Wld} {ins outs : List (List D)} (h : pwp (FunOk PP W) p_i_Pkg_compare (RetIs outs) (envL ins)) : FunOk PP W n_i_Pkg_compare s_i_Pkg_compare ins outs := fun_ok (C := k_i_Pkg_compare) (cfg_ok rfl) (eq_ok rfl rfl) mixed Tryd.func35 (by kernel_rfl) (by kernel_rfl) c_i_Pkg_compare h

def p_i_SumOf : PC := .seq (.ss [.mv 2 (.c (.int .i64 0))]) (.seq (.ss [.mv 3 (.c (.int .i64 7))]) (.seq (.seq (.ss [.mv 6 (.t 0), .s2b 7 (.t 6), .len 8 (.t 7), .mv 9 (.c (.int .i64 0))]) (.block 0 (.loop (.seq (.ss [.bin 10 .lss (.t 9) (.t 8)]) (.seq (.cond (.t 10) (.skip) (.exit 0)) (.seq (.block 1 (.seq (.ss [.elp 11 (.t 7) (.t 9) 1, .eld 12 11 0 [.int .u8 0], .mv 5 (.t 12)]) (.ss [.mv 13 (.t 3), .bin 14 .mul (.c (.int .i64 31)) (.t 13), .mv 15 (.t 5), .cvt 16 .i64 (.t 15), .bin 17 .add (.t 14) (.t 16), .bin 18 .add (.t 17) (.c (.int .i64 1)), .bin 19 .rem (.t 18) (.c (.int .i64 9973)), .mv 3 (.t 19)]))) (.ss [.bin 20 .add (.t 9) (.c (.int .i64 1)), .mv 9 (.t 20)]))))))) (.seq (.ss [.mv 21 (.t 3), .mv 2 (.t 21)]) (.ret [2]))))
def k_i_SumOf : Cfg := { tt := tt, sigs := sigs, mv := false, bm := [], eqt := eqL, keep := [true, false, true, true, false, true, false, true, true, true, true, false, false, false, false, false, false, false, false, false, false, false], n := 22, pin := [], fail := [], fz := [] }
theorem c_i_SumOf : cFun k_i_SumOf Tryd.f37 s_i_SumOf = some p_i_SumOf := by kernel_rfl
theorem F_i_SumOf {W : Wld} {ins outs : List (List D)} (h : pwp (FunOk PP W) p_i_SumOf (RetIs outs) (envL ins)) : FunOk PP W n_i_SumOf s_i_SumOf ins outs := fun_ok (C := k_i_SumOf) (cfg_ok rfl) (eq_ok rfl rfl) mixed Tryd.func37 (by kernel_rfl) (by kernel_rfl) c_i_SumOf h

def p_s_PkgOk : PC := .seq (.ss [.mv 1 (.t 0), .mv 2 (.c (.bool false))]) (.seq (.ss [.nop, .sub 4 1 0 1, .call 5 n_s_l6In s_s_l6In [(.t 4), (.c (.int .i64 1)), (.c (.int .i64 4))] [], .mv 6 (.t 5), .g 6 true 7 (.nop), .g 6 true 8 (.sub 8 1 1 1), .g 6 true 9 (.call 9 n_s_l6In s_s_l6In [(.t 8), (.c (.int .i64 1)), (.c (.int .i64 5))] []), .pick 10 (.t 6) (.t 9) (.c (.bool false)), .mv 11 (.t 10), .g 11 true 12 (.nop), .g 11 true 13 (.sub 13 1 2 1), .g 11 true 14 (.call 14 n_s_l1Files s_s_l1Files [(.t 13)] []), .pick 15 (.t 11) (.t 14) (.c (.bool false)), .mv 16 (.t 15), .g 16 true 17 (.nop), .g 16 true 18 (.sub 18 1 0 1), .g 16 true 19 (.nop), .g 16 true 20 (.sub 20 1 3 1), .g 16 true 21 (.call 21 n_s_l1Deps s_s_l1Deps [(.t 18), (.t 20)] []), .pick 22 (.t 16) (.t 21) (.c (.bool false)), .mv 2 (.t 22)]) (.ret [2]))
def k_s_PkgOk : Cfg := { tt := tt, sigs := sigs, mv := false, bm := [], eqt := eqL, keep := [true, true, true, false, false, false, false, false, false, false, false, false, false, false, false, false, false, false, false, false, false, false, false], n := 23, pin := [], fail := [], fz := [] }
theorem c_s_PkgOk : cFun k_s_PkgOk Tryd.f39 s_s_PkgOk = some p_s_PkgOk := by kernel_rfl
theorem F_s_PkgOk {W : Wld} {ins outs : List (List D)} (h : pwp (FunOk PP W) p_s_PkgOk (RetIs outs) (envL ins)) : FunOk PP W n_s_PkgOk s_s_PkgOk ins outs := fun_ok (C := k_s_PkgOk) (cfg_ok rfl) (eq_ok rfl rfl) mixed Tryd.func39 (by kernel_rfl) (by kernel_rfl) c_s_PkgOk h

def p_s_l1Name : PC := .seq (.ss [.mv 4 (.c (.str ⟨#[]⟩))]) (.seq (.ss [.mv 5 (.t 0), .bin 6 .add (.c (.int .i64 97)) (.t 5), .bin 7 .sub (.t 6) (.c (.int .i64 1)), .cvt 8 .u8 (.t 7), .lit 9 1 [.int .u8 0] [(0, (.t 8))], .b2s 10 (.t 9), .mv 11 (.t 1), .call 12 n_s_l6Dec s_s_l6Dec [(.t 11)] [], .bin 13 .add (.t 10) (.t 12), .mv 4 (.t 13)]) (.ret [4]))
def k_s_l1Name : Cfg := { tt := tt, sigs := sigs, mv := false, bm := [], eqt := eqL, keep := [true, true, false, false, true, false, false, false, false, false, false, false, false, false], n := 14, pin := [], fail := [], fz := [] }
theorem c_s_l1Name : cFun k_s_l1Name Tryd.f40 s_s_l1Name = some p_s_l1Name := by kernel_rfl
theorem F_s_l1Name {W : Wld} {ins outs : List (List D)} (h : pwp (FunOk PP W) p_s_l1Name (RetIs outs) (envL ins)) : FunOk PP W n_s_l1Name s_s_l1Name ins outs := fun_ok (C := k_s_l1Name) (cfg_ok rfl) (eq_ok rfl rfl) mixed Tryd.func40 (by kernel_rfl) (by kernel_rfl) c_s_l1Name h

def p_s_l6Dec : PC := .seq (.ss [.mv 2 (.c (.str ⟨#[]⟩))]) (.seq (.seq (.ss [.mv 3 (.t 0), .bin 4 .lss (.t 3) (.c (.int .i64 (-9223372036854775807)))]) (.cond (.t 4) (.seq (.ss [.mv 2 (.c (.str ⟨#[45, 57, 50, 50, 51, 51, 55, 50, 48, 51, 54, 56, 53, 52, 55, 55, 53, 56, 48, 56]⟩))]) (.ret [2])) (.skip))) (.seq (.seq (.ss [.mv 5 (.t 0), .bin 6 .lss (.t 5) (.c (.int .i64 0))]) (.cond (.t 6) (.seq (.ss [.mv 7 (.t 0), .un 8 .neg (.t 7), .call 9 n_s_l6Dec s_s_l6Dec [(.t 8)] [], .bin 10 .add (.c (.str ⟨#[45]⟩)) (.t 9), .mv 2 (.t 10)]) (.ret [2])) (.skip))) (.seq (.seq (.ss [.mv 11 (.t 0), .bin 12 .lss (.t 11) (.c (.int .i64 10))]) (.cond (.t 12) (.seq (.ss [.mv 13 (.t 0), .bin 14 .add (.c (.int .i64 48)) (.t 13), .cvt 15 .u8 (.t 14), .lit 16 1 [.int .u8 0] [(0, (.t 15))], .b2s 17 (.t 16), .mv 2 (.t 17)]) (.ret [2])) (.skip))) (.seq (.ss [.mv 18 (.t 0), .bin 19 .quo (.t 18) (.c (.int .i64 10)), .call 20 n_s_l6Dec s_s_l6Dec [(.t 19)] [], .mv 21 (.t 0), .bin 22 .rem (.t 21) (.c (.int .i64 10)), .bin 23 .add (.c (.int .i64 48)) (.t 22), .cvt 24 .u8 (.t 23), .lit 25 1 [.int .u8 0] [(0, (.t 24))], .b2s 26 (.t 25), .bin 27 .add (.t 20) (.t 26), .mv 2 (.t 27)]) (.ret [2])))))
def k_s_l6Dec : Cfg := { tt := tt, sigs := sigs, mv := false, bm := [], eqt := eqL, keep := [true, false, true, false, true, false, true, false, false, false, false, false, true, false, false, false, false, false, false, false, false, false, false, false, false, false, false, false], n := 28, pin := [], fail := [], fz := [] }
theorem c_s_l6Dec : cFun k_s_l6Dec Tryd.f41 s_s_l6Dec = some p_s_l6Dec := by kernel_rfl
theorem F_s_l6Dec {W : Wld} {ins outs : List (List D)} (h : pwp (FunOk PP W) p_s_l6Dec (RetIs outs) (envL ins)) : FunOk PP W n_s_l6Dec s_s_l6Dec ins outs := fun_ok (C := k_s_l6Dec) (cfg_ok rfl) (eq_ok rfl rfl) mixed Tryd.func41 (by kernel_rfl) (by kernel_rfl) c_s_l6Dec h

def p_s_l6In : PC := .seq (.ss [.mv 6 (.c (.bool false))]) (.seq (.ss [.mv 7 (.t 0), .mv 8 (.t 1), .bin 9 .geq (.t 7) (.t 8), .mv 10 (.t 9), .g 10 true 11 (.mv 11 (.t 0)), .g 10 true 12 (.mv 12 (.t 2)), .g 10 true 13 (.bin 13 .leq (.t 11) (.t 12)), .pick 14 (.t 10) (.t 13) (.c (.bool false)), .mv 6 (.t 14)]) (.ret [6]))
def k_s_l6In : Cfg := { tt := tt, sigs := sigs, mv := false, bm := [], eqt := eqL, keep := [true, true, true, false, false, false, true, false, false, false, false, false, false, false, false], n := 15, pin := [], fail := [], fz := [] }
theorem c_s_l6In : cFun k_s_l6In Tryd.f42 s_s_l6In = some p_s_l6In := by kernel_rfl
theorem F_s_l6In {W : Wld} {ins outs : List (List D)} (h : pwp (FunOk PP W) p_s_l6In (RetIs outs) (envL ins)) : FunOk PP W n_s_l6In s_s_l6In ins outs := fun_ok (C := k_s_l6In) (cfg_ok rfl) (eq_ok rfl rfl) mixed Tryd.func42 (by kernel_rfl) (by kernel_rfl) c_s_l6In h

def p_s_KeysOk : PC := .seq (.ss [.mv 2 (.c (.bool false))]) (.seq (.seq (.ss [.mv 3 (.c (.int .i64 0))]) (.block 0 (.loop (.seq (.seq (.ss [.mv 4 (.t 3), .mv 5 (.t 0), .len 6 (.t 5), .bin 7 .lss (.t 4) (.t 6)]) (.cond (.t 7) (.skip) (.exit 0))) (.seq (.block 1 (.seq (.ss [.mv 10 (.t 0), .mv 11 (.t 3), .elp 12 (.t 10) (.t 11) 1, .eld 13 12 0 [.int .i64 0], .call 14 n_s_l6In s_s_l6In [(.t 13), (.c (.int .i64 1)), (.c (.int .i64 6))] [], .un 15 .not (.t 14), .mv 16 (.t 15), .g 16 false 17 (.mv 17 (.t 3)), .g 16 false 18 (.bin 18 .gtr (.t 17) (.c (.int .i64 0))), .g 16 false 19 (.mv 19 (.t 18)), .g 19 true 20 (.mv 20 (.t 0)), .g 19 true 21 (.mv 21 (.t 3)), .g 19 true 22 (.bin 22 .sub (.t 21) (.c (.int .i64 1))), .g 19 true 23 (.elp 23 (.t 20) (.t 22) 1), .g 19 true 24 (.eld 24 23 0 [.int .i64 0]), .g 19 true 25 (.mv 25 (.t 0)), .g 19 true 26 (.mv 26 (.t 3)), .g 19 true 27 (.elp 27 (.t 25) (.t 26) 1), .g 19 true 28 (.eld 28 27 0 [.int .i64 0]), .g 19 true 29 (.bin 29 .geq (.t 24) (.t 28)), .g 16 false 30 (.pick 30 (.t 19) (.t 29) (.c (.bool false))), .pick 31 (.t 16) (.c (.bool true)) (.t 30)]) (.cond (.t 31) (.seq (.ss [.mv 2 (.c (.bool false))]) (.ret [2])) (.skip)))) (.ss [.mv 8 (.t 3), .bin 9 .add (.t 8) (.c (.int .i64 1)), .mv 3 (.t 9)])))))) (.seq (.ss [.mv 2 (.c (.bool true))]) (.ret [2])))
def k_s_KeysOk : Cfg := { tt := tt, sigs := sigs, mv := false, bm := [], eqt := eqL, keep := [true, false, true, true, false, false, false, true, false, false, false, false, false, false, false, false, false, false, false, false, false, false, false, false, false, false, false, false, false, false, false, true], n := 32, pin := [], fail := [], fz := [] }
theorem c_s_KeysOk : cFun k_s_KeysOk Tryd.f43 s_s_KeysOk = some p_s_KeysOk := by kernel_rfl
theorem F_s_KeysOk {W : Wld} {ins outs : List (List D)} (h : pwp (FunOk PP W) p_s_KeysOk (RetIs outs) (envL ins)) : FunOk PP W n_s_KeysOk s_s_KeysOk ins outs := fun_ok (C := k_s_KeysOk) (cfg_ok rfl) (eq_ok rfl rfl) mixed Tryd.func43 (by kernel_rfl) (by kernel_rfl) c_s_KeysOk h

end V
end Go.Proofs.YtnaldhcdcpdbnaaDoor

/-
What the seat's functions come to, as statements; that the checker says so. Written by a program.
-/
namespace Go.Proofs.YtnaldhcdcpdbnaaDoor
namespace V

def p_s_l3Less : PC := .seq (.ss [.mv 8 (.c (.bool false))]) (.seq (.ss [.mv 9 (.t 0), .mv 10 (.t 2), .bin 11 .lss (.t 9) (.t 10), .mv 12 (.t 11), .g 12 false 13 (.mv 13 (.t 0)), .g 12 false 14 (.mv 14 (.t 2)), .g 12 false 15 (.bin 15 .eql (.t 13) (.t 14)), .g 12 false 16 (.mv 16 (.t 15)), .g 16 true 17 (.mv 17 (.t 1)), .g 16 true 18 (.mv 18 (.t 3)), .g 16 true 19 (.bin 19 .lss (.t 17) (.t 18)), .g 12 false 20 (.pick 20 (.t 16) (.t 19) (.c (.bool false))), .pick 21 (.t 12) (.c (.bool true)) (.t 20), .mv 8 (.t 21)]) (.ret [8]))
def k_s_l3Less : Cfg := { tt := tt, sigs := sigs, mv := false, bm := [], eqt := eqL, keep := [true, true, true, true, false, false, false, false, true, false, false, false, false, false, false, false, false, false, false, false, false, false], n := 22, pin := [], fail := [], fz := [] }
theorem c_s_l3Less : cFun k_s_l3Less Tryd.f44 s_s_l3Less = some p_s_l3Less := by kernel_rfl
theorem F_s_l3Less {W : Wld} {ins outs : List (List D)} (h : pwp (FunOk PP W) p_s_l3Less (RetIs outs) (envL ins)) : FunOk PP W n_s_l3Less s_s_l3Less ins outs := fun_ok (C := k_s_l3Less) (cfg_ok rfl) (eq_ok rfl rfl) mixed Tryd.func44 (by kernel_rfl) (by kernel_rfl) c_s_l3Less h

def p_sl_Index_Meta : PC := .seq (.ss [.mv 3 (.t 1), .mv 4 (.c (.int .i64 0))]) (.seq (.seq (.ss [.mv 6 (.t 0), .len 7 (.t 6), .mv 8 (.c (.int .i64 0))]) (.block 0 (.loop (.seq (.ss [.bin 9 .lss (.t 8) (.t 7)]) (.seq (.cond (.t 9) (.skip) (.exit 0)) (.seq (.block 1 (.seq (.ss [.mv 10 (.t 8), .mv 5 (.t 10)]) (.seq (.ss [.sub 11 3 0 3, .mv 12 (.t 0), .mv 13 (.t 5), .elp 14 (.t 12) (.t 13) 3, .eld 15 14 0 [.int .i64 0, .int .i64 0, .int .i64 0], .eqs 16 false [.int .i64 0, .int .i64 0, .int .i64 0] (.t 11) (.t 15)]) (.cond (.t 16) (.seq (.ss [.mv 17 (.t 5), .mv 4 (.t 17)]) (.ret [4])) (.skip))))) (.ss [.bin 18 .add (.t 8) (.c (.int .i64 1)), .mv 8 (.t 18)]))))))) (.seq (.ss [.mv 4 (.c (.int .i64 (-1)))]) (.ret [4])))
def k_sl_Index_Meta : Cfg := { tt := tt, sigs := sigs, mv := false, bm := [], eqt := eqL, keep := [true, true, false, true, true, true, false, true, true, true, false, false, false, false, false, false, true, false, false], n := 19, pin := [], fail := [], fz := [] }
theorem c_sl_Index_Meta : cFun k_sl_Index_Meta Tryd.f45 s_sl_Index_Meta = some p_sl_Index_Meta := by kernel_rfl
theorem F_sl_Index_Meta {W : Wld} {ins outs : List (List D)} (h : pwp (FunOk PP W) p_sl_Index_Meta (RetIs outs) (envL ins)) : FunOk PP W n_sl_Index_Meta s_sl_Index_Meta ins outs := fun_ok (C := k_sl_Index_Meta) (cfg_ok rfl) (eq_ok rfl rfl) mixed Tryd.func45 (by kernel_rfl) (by kernel_rfl) c_sl_Index_Meta h

def p_i_in : PC := .seq (.ss [.mv 6 (.c (.bool false))]) (.seq (.ss [.mv 7 (.t 0), .mv 8 (.t 1), .bin 9 .geq (.t 7) (.t 8), .mv 10 (.t 9), .g 10 true 11 (.mv 11 (.t 0)), .g 10 true 12 (.mv 12 (.t 2)), .g 10 true 13 (.bin 13 .leq (.t 11) (.t 12)), .pick 14 (.t 10) (.t 13) (.c (.bool false)), .mv 6 (.t 14)]) (.ret [6]))
def k_i_in : Cfg := { tt := tt, sigs := sigs, mv := false, bm := [], eqt := eqL, keep := [true, true, true, false, false, false, true, false, false, false, false, false, false, false, false], n := 15, pin := [], fail := [], fz := [] }
theorem c_i_in : cFun k_i_in Tryd.f53 s_i_in = some p_i_in := by kernel_rfl
theorem F_i_in {W : Wld} {ins outs : List (List D)} (h : pwp (FunOk PP W) p_i_in (RetIs outs) (envL ins)) : FunOk PP W n_i_in s_i_in ins outs := fun_ok (C := k_i_in) (cfg_ok rfl) (eq_ok rfl rfl) mixed Tryd.func53 (by kernel_rfl) (by kernel_rfl) c_i_in h

def p_i_KeysOk : PC := .seq (.ss [.mv 2 (.c (.bool false))]) (.seq (.seq (.ss [.mv 5 (.t 0), .len 6 (.t 5), .mv 7 (.c (.int .i64 0))]) (.block 0 (.loop (.seq (.ss [.bin 8 .lss (.t 7) (.t 6)]) (.seq (.cond (.t 8) (.skip) (.exit 0)) (.seq (.block 1 (.seq (.ss [.mv 9 (.t 7), .elp 10 (.t 5) (.t 7) 1, .eld 11 10 0 [.int .i64 0], .mv 3 (.t 9), .mv 4 (.t 11)]) (.seq (.ss [.mv 12 (.t 4), .call 13 n_i_in s_i_in [(.t 12), (.c (.int .i64 1)), (.c (.int .i64 6))] [], .un 14 .not (.t 13), .mv 15 (.t 14), .g 15 false 16 (.mv 16 (.t 3)), .g 15 false 17 (.bin 17 .gtr (.t 16) (.c (.int .i64 0))), .g 15 false 18 (.mv 18 (.t 17)), .g 18 true 19 (.mv 19 (.t 4)), .g 18 true 20 (.mv 20 (.t 0)), .g 18 true 21 (.mv 21 (.t 3)), .g 18 true 22 (.bin 22 .sub (.t 21) (.c (.int .i64 1))), .g 18 true 23 (.elp 23 (.t 20) (.t 22) 1), .g 18 true 24 (.eld 24 23 0 [.int .i64 0]), .g 18 true 25 (.bin 25 .leq (.t 19) (.t 24)), .g 15 false 26 (.pick 26 (.t 18) (.t 25) (.c (.bool false))), .pick 27 (.t 15) (.c (.bool true)) (.t 26)]) (.cond (.t 27) (.seq (.ss [.mv 2 (.c (.bool false))]) (.ret [2])) (.skip))))) (.ss [.bin 28 .add (.t 7) (.c (.int .i64 1)), .mv 7 (.t 28)]))))))) (.seq (.ss [.mv 2 (.c (.bool true))]) (.ret [2])))
def k_i_KeysOk : Cfg := { tt := tt, sigs := sigs, mv := false, bm := [], eqt := eqL, keep := [true, false, true, true, true, true, true, true, true, false, false, false, false, false, false, false, false, false, false, false, false, false, false, false, false, false, false, true, false], n := 29, pin := [], fail := [], fz := [] }
theorem c_i_KeysOk : cFun k_i_KeysOk Tryd.f54 s_i_KeysOk = some p_i_KeysOk := by kernel_rfl
theorem F_i_KeysOk {W : Wld} {ins outs : List (List D)} (h : pwp (FunOk PP W) p_i_KeysOk (RetIs outs) (envL ins)) : FunOk PP W n_i_KeysOk s_i_KeysOk ins outs := fun_ok (C := k_i_KeysOk) (cfg_ok rfl) (eq_ok rfl rfl) mixed Tryd.func54 (by kernel_rfl) (by kernel_rfl) c_i_KeysOk h

def p_i_isName : PC := .seq (.ss [.mv 2 (.c (.bool false))]) (.seq (.ss [.mv 3 (.t 0), .call 4 n_i_in s_i_in [(.t 3), (.c (.int .i64 1)), (.c (.int .i64 4))] [], .mv 2 (.t 4)]) (.ret [2]))
def k_i_isName : Cfg := { tt := tt, sigs := sigs, mv := false, bm := [], eqt := eqL, keep := [true, false, true, false, false], n := 5, pin := [], fail := [], fz := [] }
theorem c_i_isName : cFun k_i_isName Tryd.f55 s_i_isName = some p_i_isName := by kernel_rfl
theorem F_i_isName {W : Wld} {ins outs : List (List D)} (h : pwp (FunOk PP W) p_i_isName (RetIs outs) (envL ins)) : FunOk PP W n_i_isName s_i_isName ins outs := fun_ok (C := k_i_isName) (cfg_ok rfl) (eq_ok rfl rfl) mixed Tryd.func55 (by kernel_rfl) (by kernel_rfl) c_i_isName h

def p_i_isVer : PC := .seq (.ss [.mv 2 (.c (.bool false))]) (.seq (.ss [.mv 3 (.t 0), .call 4 n_i_in s_i_in [(.t 3), (.c (.int .i64 1)), (.c (.int .i64 5))] [], .mv 2 (.t 4)]) (.ret [2]))
def k_i_isVer : Cfg := { tt := tt, sigs := sigs, mv := false, bm := [], eqt := eqL, keep := [true, false, true, false, false], n := 5, pin := [], fail := [], fz := [] }
theorem c_i_isVer : cFun k_i_isVer Tryd.f56 s_i_isVer = some p_i_isVer := by kernel_rfl
theorem F_i_isVer {W : Wld} {ins outs : List (List D)} (h : pwp (FunOk PP W) p_i_isVer (RetIs outs) (envL ins)) : FunOk PP W n_i_isVer s_i_isVer ins outs := fun_ok (C := k_i_isVer) (cfg_ok rfl) (eq_ok rfl rfl) mixed Tryd.func56 (by kernel_rfl) (by kernel_rfl) c_i_isVer h

def p_sl_Equal_Meta : PC := .seq (.ss [.mv 4 (.c (.bool false))]) (.seq (.seq (.ss [.mv 6 (.t 0), .len 7 (.t 6), .mv 8 (.t 1), .len 9 (.t 8), .bin 10 .neq (.t 7) (.t 9)]) (.cond (.t 10) (.seq (.ss [.mv 4 (.c (.bool false))]) (.ret [4])) (.skip))) (.seq (.seq (.ss [.mv 11 (.t 0), .len 12 (.t 11), .mv 13 (.c (.int .i64 0))]) (.block 0 (.loop (.seq (.ss [.bin 14 .lss (.t 13) (.t 12)]) (.seq (.cond (.t 14) (.skip) (.exit 0)) (.seq (.block 1 (.seq (.ss [.mv 15 (.t 13), .mv 5 (.t 15)]) (.seq (.ss [.mv 16 (.t 0), .mv 17 (.t 5), .elp 18 (.t 16) (.t 17) 3, .eld 19 18 0 [.int .i64 0, .int .i64 0, .int .i64 0], .mv 20 (.t 1), .mv 21 (.t 5), .elp 22 (.t 20) (.t 21) 3, .eld 23 22 0 [.int .i64 0, .int .i64 0, .int .i64 0], .eqs 24 true [.int .i64 0, .int .i64 0, .int .i64 0] (.t 19) (.t 23)]) (.cond (.t 24) (.seq (.ss [.mv 4 (.c (.bool false))]) (.ret [4])) (.skip))))) (.ss [.bin 25 .add (.t 13) (.c (.int .i64 1)), .mv 13 (.t 25)]))))))) (.seq (.ss [.mv 4 (.c (.bool true))]) (.ret [4]))))
def k_sl_Equal_Meta : Cfg := { tt := tt, sigs := sigs, mv := false, bm := [], eqt := eqL, keep := [true, true, false, false, true, true, false, false, false, false, true, false, true, true, true, false, false, false, false, false, false, false, false, false, true, false], n := 26, pin := [], fail := [], fz := [] }
theorem c_sl_Equal_Meta : cFun k_sl_Equal_Meta Tryd.f57 s_sl_Equal_Meta = some p_sl_Equal_Meta := by kernel_rfl
theorem F_sl_Equal_Meta {W : Wld} {ins outs : List (List D)} (h : pwp (FunOk PP W) p_sl_Equal_Meta (RetIs outs) (envL ins)) : FunOk PP W n_sl_Equal_Meta s_sl_Equal_Meta ins outs := fun_ok (C := k_sl_Equal_Meta) (cfg_ok rfl) (eq_ok rfl rfl) mixed Tryd.func57 (by kernel_rfl) (by kernel_rfl) c_sl_Equal_Meta h

def p_cmp_Or_int : PC := .seq (.ss [.mv 2 (.c (.int .i64 0))]) (.seq (.ss [.mv 3 (.c (.int .i64 0))]) (.seq (.seq (.ss [.mv 6 (.t 0), .len 7 (.t 6), .mv 8 (.c (.int .i64 0))]) (.block 0 (.loop (.seq (.ss [.bin 9 .lss (.t 8) (.t 7)]) (.seq (.cond (.t 9) (.skip) (.exit 0)) (.seq (.block 1 (.seq (.ss [.elp 10 (.t 6) (.t 8) 1, .eld 11 10 0 [.int .i64 0], .mv 5 (.t 11)]) (.seq (.ss [.mv 12 (.t 5), .mv 13 (.t 3), .bin 14 .neq (.t 12) (.t 13)]) (.cond (.t 14) (.seq (.ss [.mv 15 (.t 5), .mv 2 (.t 15)]) (.ret [2])) (.skip))))) (.ss [.bin 16 .add (.t 8) (.c (.int .i64 1)), .mv 8 (.t 16)]))))))) (.seq (.ss [.mv 17 (.t 3), .mv 2 (.t 17)]) (.ret [2]))))
def k_cmp_Or_int : Cfg := { tt := tt, sigs := sigs, mv := false, bm := [], eqt := eqL, keep := [true, false, true, true, false, true, true, true, true, true, false, false, false, false, true, false, false, false], n := 18, pin := [], fail := [], fz := [] }
theorem c_cmp_Or_int : cFun k_cmp_Or_int Tryd.f58 s_cmp_Or_int = some p_cmp_Or_int := by kernel_rfl
theorem F_cmp_Or_int {W : Wld} {ins outs : List (List D)} (h : pwp (FunOk PP W) p_cmp_Or_int (RetIs outs) (envL ins)) : FunOk PP W n_cmp_Or_int s_cmp_Or_int ins outs := fun_ok (C := k_cmp_Or_int) (cfg_ok rfl) (eq_ok rfl rfl) mixed Tryd.func58 (by kernel_rfl) (by kernel_rfl) c_cmp_Or_int h

def p_cmp_Compare_int : PC := .seq (.ss [.mv 4 (.c (.int .i64 0))]) (.seq (.ss [.mv 7 (.t 0), .call 8 n_cmp_isNaN_int s_cmp_isNaN_int [(.t 7)] [], .mv 5 (.t 8)]) (.seq (.ss [.mv 9 (.t 1), .call 10 n_cmp_isNaN_int s_cmp_isNaN_int [(.t 9)] [], .mv 6 (.t 10)]) (.seq (.seq (.ss [.mv 11 (.t 5)]) (.cond (.t 11) (.seq (.seq (.ss [.mv 12 (.t 6)]) (.cond (.t 12) (.seq (.ss [.mv 4 (.c (.int .i64 0))]) (.ret [4])) (.skip))) (.seq (.ss [.mv 4 (.c (.int .i64 (-1)))]) (.ret [4]))) (.skip))) (.seq (.seq (.ss [.mv 13 (.t 6)]) (.cond (.t 13) (.seq (.ss [.mv 4 (.c (.int .i64 1))]) (.ret [4])) (.skip))) (.seq (.seq (.ss [.mv 14 (.t 0), .mv 15 (.t 1), .bin 16 .lss (.t 14) (.t 15)]) (.cond (.t 16) (.seq (.ss [.mv 4 (.c (.int .i64 (-1)))]) (.ret [4])) (.skip))) (.seq (.seq (.ss [.mv 17 (.t 0), .mv 18 (.t 1), .bin 19 .gtr (.t 17) (.t 18)]) (.cond (.t 19) (.seq (.ss [.mv 4 (.c (.int .i64 1))]) (.ret [4])) (.skip))) (.seq (.ss [.mv 4 (.c (.int .i64 0))]) (.ret [4]))))))))
def k_cmp_Compare_int : Cfg := { tt := tt, sigs := sigs, mv := false, bm := [], eqt := eqL, keep := [true, true, false, false, true, true, true, false, false, false, false, true, true, true, false, false, true, false, false, true], n := 20, pin := [], fail := [], fz := [] }
theorem c_cmp_Compare_int : cFun k_cmp_Compare_int Tryd.f59 s_cmp_Compare_int = some p_cmp_Compare_int := by kernel_rfl
theorem F_cmp_Compare_int {W : Wld} {ins outs : List (List D)} (h : pwp (FunOk PP W) p_cmp_Compare_int (RetIs outs) (envL ins)) : FunOk PP W n_cmp_Compare_int s_cmp_Compare_int ins outs := fun_ok (C := k_cmp_Compare_int) (cfg_ok rfl) (eq_ok rfl rfl) mixed Tryd.func59 (by kernel_rfl) (by kernel_rfl) c_cmp_Compare_int h

def p_s_l1Files : PC := .seq (.ss [.mv 2 (.c (.bool false))]) (.seq (.seq (.ss [.mv 3 (.c (.int .i64 0))]) (.block 0 (.loop (.seq (.seq (.ss [.mv 4 (.t 3), .mv 5 (.t 0), .len 6 (.t 5), .bin 7 .lss (.t 4) (.t 6)]) (.cond (.t 7) (.skip) (.exit 0))) (.seq (.block 1 (.seq (.ss [.mv 10 (.t 0), .mv 11 (.t 3), .elp 12 (.t 10) (.t 11) 2, .mv 13 (.t 12), .eld 14 13 0 [.int .i64 0], .call 15 n_s_l6In s_s_l6In [(.t 14), (.c (.int .i64 0)), (.c (.int .i64 5))] [], .un 16 .not (.t 15), .mv 17 (.t 16), .g 17 false 18 (.mv 18 (.t 0)), .g 17 false 19 (.mv 19 (.t 3)), .g 17 false 20 (.elp 20 (.t 18) (.t 19) 2), .g 17 false 21 (.mv 21 (.t 20)), .g 17 false 22 (.eld 22 21 1 [.int .i64 0]), .g 17 false 23 (.call 23 n_s_l6In s_s_l6In [(.t 22), (.c (.int .i64 0)), (.c (.int .i64 9))] []), .g 17 false 24 (.un 24 .not (.t 23)), .pick 25 (.t 17) (.c (.bool true)) (.t 24), .mv 26 (.t 25), .g 26 false 27 (.mv 27 (.t 3)), .g 26 false 28 (.bin 28 .gtr (.t 27) (.c (.int .i64 0))), .g 26 false 29 (.mv 29 (.t 28)), .g 29 true 30 (.mv 30 (.t 0)), .g 29 true 31 (.mv 31 (.t 3)), .g 29 true 32 (.bin 32 .sub (.t 31) (.c (.int .i64 1))), .g 29 true 33 (.elp 33 (.t 30) (.t 32) 2), .g 29 true 34 (.mv 34 (.t 33)), .g 29 true 35 (.eld 35 34 0 [.int .i64 0]), .g 29 true 36 (.mv 36 (.t 0)), .g 29 true 37 (.mv 37 (.t 3)), .g 29 true 38 (.elp 38 (.t 36) (.t 37) 2), .g 29 true 39 (.mv 39 (.t 38)), .g 29 true 40 (.eld 40 39 0 [.int .i64 0]), .g 29 true 41 (.bin 41 .geq (.t 35) (.t 40)), .g 26 false 42 (.pick 42 (.t 29) (.t 41) (.c (.bool false))), .pick 43 (.t 26) (.c (.bool true)) (.t 42)]) (.cond (.t 43) (.seq (.ss [.mv 2 (.c (.bool false))]) (.ret [2])) (.skip)))) (.ss [.mv 8 (.t 3), .bin 9 .add (.t 8) (.c (.int .i64 1)), .mv 3 (.t 9)])))))) (.seq (.ss [.mv 44 (.t 0), .len 45 (.t 44), .bin 46 .leq (.t 45) (.c (.int .i64 2)), .mv 2 (.t 46)]) (.ret [2])))
def k_s_l1Files : Cfg := { tt := tt, sigs := sigs, mv := false, bm := [], eqt := eqL, keep := [true, false, true, true, false, false, false, true, false, false, false, false, false, false, false, false, false, false, false, false, false, false, false, false, false, false, false, false, false, false, false, false, false, false, false, false, false, false, false, false, false, false, false, true, false, false, false], n := 47, pin := [], fail := [], fz := [] }
theorem c_s_l1Files : cFun k_s_l1Files Tryd.f64 s_s_l1Files = some p_s_l1Files := by kernel_rfl
theorem F_s_l1Files {W : Wld} {ins outs : List (List D)} (h : pwp (FunOk PP W) p_s_l1Files (RetIs outs) (envL ins)) : FunOk PP W n_s_l1Files s_s_l1Files ins outs := fun_ok (C := k_s_l1Files) (cfg_ok rfl) (eq_ok rfl rfl) mixed Tryd.func64 (by kernel_rfl) (by kernel_rfl) c_s_l1Files h

def p_s_l1Deps : PC := .seq (.ss [.mv 4 (.c (.bool false))]) (.seq (.seq (.ss [.mv 5 (.c (.int .i64 0))]) (.block 0 (.loop (.seq (.seq (.ss [.mv 7 (.t 5), .mv 8 (.t 1), .len 9 (.t 8), .bin 10 .lss (.t 7) (.t 9)]) (.cond (.t 10) (.skip) (.exit 0))) (.seq (.block 1 (.seq (.ss [.mv 13 (.t 1), .mv 14 (.t 5), .elp 15 (.t 13) (.t 14) 2, .eld 16 15 0 [.int .i64 0, .int .i64 0], .bld 6 [.int .i64 0, .int .i64 0] [], .st 6 0 (.t 16)]) (.seq (.ss [.nop, .sub 18 6 0 1, .call 19 n_s_l6In s_s_l6In [(.t 18), (.c (.int .i64 1)), (.c (.int .i64 4))] [], .un 20 .not (.t 19), .mv 21 (.t 20), .g 21 false 22 (.nop), .g 21 false 23 (.sub 23 6 0 1), .g 21 false 24 (.mv 24 (.t 0)), .g 21 false 25 (.bin 25 .eql (.t 23) (.t 24)), .pick 26 (.t 21) (.c (.bool true)) (.t 25), .mv 27 (.t 26), .g 27 false 28 (.nop), .g 27 false 29 (.sub 29 6 1 1), .g 27 false 30 (.call 30 n_s_l6In s_s_l6In [(.t 29), (.c (.int .i64 1)), (.c (.int .i64 5))] []), .g 27 false 31 (.un 31 .not (.t 30)), .pick 32 (.t 27) (.c (.bool true)) (.t 31), .mv 33 (.t 32), .g 33 false 34 (.mv 34 (.t 5)), .g 33 false 35 (.bin 35 .gtr (.t 34) (.c (.int .i64 0))), .g 33 false 36 (.mv 36 (.t 35)), .g 36 true 37 (.mv 37 (.t 1)), .g 36 true 38 (.mv 38 (.t 5)), .g 36 true 39 (.bin 39 .sub (.t 38) (.c (.int .i64 1))), .g 36 true 40 (.elp 40 (.t 37) (.t 39) 2), .g 36 true 41 (.mv 41 (.t 40)), .g 36 true 42 (.eld 42 41 0 [.int .i64 0]), .g 36 true 43 (.nop), .g 36 true 44 (.sub 44 6 0 1), .g 36 true 45 (.bin 45 .geq (.t 42) (.t 44)), .g 33 false 46 (.pick 46 (.t 36) (.t 45) (.c (.bool false))), .pick 47 (.t 33) (.c (.bool true)) (.t 46)]) (.cond (.t 47) (.seq (.ss [.mv 4 (.c (.bool false))]) (.ret [4])) (.skip))))) (.ss [.mv 11 (.t 5), .bin 12 .add (.t 11) (.c (.int .i64 1)), .mv 5 (.t 12)])))))) (.seq (.ss [.mv 48 (.t 1), .len 49 (.t 48), .bin 50 .leq (.t 49) (.c (.int .i64 2)), .mv 4 (.t 50)]) (.ret [4])))
def k_s_l1Deps : Cfg := { tt := tt, sigs := sigs, mv := false, bm := [], eqt := eqL, keep := [true, true, false, false, true, true, true, false, false, false, true, false, false, false, false, false, false, false, false, false, false, false, false, false, false, false, false, false, false, false, false, false, false, false, false, false, false, false, false, false, false, false, false, false, false, false, false, true, false, false, false], n := 51, pin := [], fail := [], fz := [] }
theorem c_s_l1Deps : cFun k_s_l1Deps Tryd.f65 s_s_l1Deps = some p_s_l1Deps := by kernel_rfl
theorem F_s_l1Deps {W : Wld} {ins outs : List (List D)} (h : pwp (FunOk PP W) p_s_l1Deps (RetIs outs) (envL ins)) : FunOk PP W n_s_l1Deps s_s_l1Deps ins outs := fun_ok (C := k_s_l1Deps) (cfg_ok rfl) (eq_ok rfl rfl) mixed Tryd.func65 (by kernel_rfl) (by kernel_rfl) c_s_l1Deps h

def p_cmp_isNaN_int : PC := .seq (.ss [.mv 2 (.c (.bool false))]) (.seq (.ss [.mv 3 (.t 0), .mv 4 (.t 0), .bin 5 .neq (.t 3) (.t 4), .mv 2 (.t 5)]) (.ret [2]))
def k_cmp_isNaN_int : Cfg := { tt := tt, sigs := sigs, mv := false, bm := [], eqt := eqL, keep := [true, false, true, false, false, false], n := 6, pin := [], fail := [], fz := [] }
theorem c_cmp_isNaN_int : cFun k_cmp_isNaN_int Tryd.f68 s_cmp_isNaN_int = some p_cmp_isNaN_int := by kernel_rfl
theorem F_cmp_isNaN_int {W : Wld} {ins outs : List (List D)} (h : pwp (FunOk PP W) p_cmp_isNaN_int (RetIs outs) (envL ins)) : FunOk PP W n_cmp_isNaN_int s_cmp_isNaN_int ins outs := fun_ok (C := k_cmp_isNaN_int) (cfg_ok rfl) (eq_ok rfl rfl) mixed Tryd.func68 (by kernel_rfl) (by kernel_rfl) c_cmp_isNaN_int h

end V
end Go.Proofs.YtnaldhcdcpdbnaaDoor

/-
Plain proofs, first part: ranges, files, dependencies, packages.
-/
namespace Go.Proofs.YtnaldhcdcpdbnaaDoor
namespace V
open Classical
set_option maxRecDepth 100000
variable {W : Wld}

theorem l6In_ok (n lo hi : Int) : FunOk PP W n_s_l6In s_s_l6In [i64 n, i64 lo, i64 hi] [bo (decide (lo ≤ n ∧ n ≤ hi))] := by
 refine F_s_l6In (wq_fun ?_)
 (repeat' first
  | (refine iteB_mk (fun h => ?_) (fun h => ?_) <;> (try simp (disch := omega) only [zA, z13, z19, z20, z21, z22, z23, z24, z25, z31, eqDs, eqD, Nat.reduceAdd, wrap64] at h) <;> (try (exfalso; omega)))
  | (refine Need.mk (by (try simp (disch := omega) only [zA, z13, z19, z20, z21, z22, z23, z24, z25, z31, eqDs, eqD, Nat.reduceAdd, wrap64]); first | exact elp_m (by omega) (by omega) (fun _ => rfl) | exact eld_m (by omega) (by omega) (fun _ => rfl) | exact els_m (by omega) (by omega) (by omega) rfl | exact lsl_m (by omega) (fun _ => rfl) | exact app_nil_m (by omega) (fun _ => rfl) (fun _ => rfl) | exact app_m_one (by omega) (fun _ => rfl) rfl rfl | exact app_m_m (by omega) (fun _ => rfl) (fun _ => rfl)) ?_)
  | (refine Need.mk ?_ ?_)
  | refine rb ?_
  | refine ri ?_
  | refine rs2 ?_ ?_
  | refine rs1 ?_)
 ·simp_all
 ·exact fD (by omega)

theorem in_ok (n lo hi : Int) : FunOk PP W n_i_in s_i_in [i64 n, i64 lo, i64 hi] [bo (decide (lo ≤ n ∧ n ≤ hi))] := by
 refine F_i_in (wq_fun ?_)
 (repeat' first
  | (refine iteB_mk (fun h => ?_) (fun h => ?_) <;> (try simp (disch := omega) only [zA, z13, z19, z20, z21, z22, z23, z24, z25, z31, eqDs, eqD, Nat.reduceAdd, wrap64] at h) <;> (try (exfalso; omega)))
  | (refine Need.mk (by (try simp (disch := omega) only [zA, z13, z19, z20, z21, z22, z23, z24, z25, z31, eqDs, eqD, Nat.reduceAdd, wrap64]); first | exact elp_m (by omega) (by omega) (fun _ => rfl) | exact eld_m (by omega) (by omega) (fun _ => rfl) | exact els_m (by omega) (by omega) (by omega) rfl | exact lsl_m (by omega) (fun _ => rfl) | exact app_nil_m (by omega) (fun _ => rfl) (fun _ => rfl) | exact app_m_one (by omega) (fun _ => rfl) rfl rfl | exact app_m_m (by omega) (fun _ => rfl) (fun _ => rfl)) ?_)
  | (refine Need.mk ?_ ?_)
  | refine rb ?_
  | refine ri ?_
  | refine rs2 ?_ ?_
  | refine rs1 ?_)
 ·simp_all
 ·exact fD (by omega)

theorem isName_ok (n : Int) : FunOk PP W n_i_isName s_i_isName [i64 n] [bo (decide (1 ≤ n ∧ n ≤ 4))] := by
 refine F_i_isName (wq_fun ?_)
 (repeat' first
  | (refine iteB_mk (fun h => ?_) (fun h => ?_) <;> (try simp (disch := omega) only [zA, z13, z19, z20, z21, z22, z23, z24, z25, z31, eqDs, eqD, Nat.reduceAdd, wrap64] at h) <;> (try (exfalso; omega)))
  | (refine Need.mk (by (try simp (disch := omega) only [zA, z13, z19, z20, z21, z22, z23, z24, z25, z31, eqDs, eqD, Nat.reduceAdd, wrap64]); first | exact elp_m (by omega) (by omega) (fun _ => rfl) | exact eld_m (by omega) (by omega) (fun _ => rfl) | exact els_m (by omega) (by omega) (by omega) rfl | exact lsl_m (by omega) (fun _ => rfl) | exact app_nil_m (by omega) (fun _ => rfl) (fun _ => rfl) | exact app_m_one (by omega) (fun _ => rfl) rfl rfl | exact app_m_m (by omega) (fun _ => rfl) (fun _ => rfl)) ?_)
  | (refine call_mk (in_ok ..) rfl ?_)
  | (refine Need.mk ?_ ?_)
  | refine rb ?_
  | refine ri ?_
  | refine rs2 ?_ ?_
  | refine rs1 ?_)
 rfl
theorem isVer_ok (n : Int) : FunOk PP W n_i_isVer s_i_isVer [i64 n] [bo (decide (1 ≤ n ∧ n ≤ 5))] := by
 refine F_i_isVer (wq_fun ?_)
 (repeat' first
  | (refine iteB_mk (fun h => ?_) (fun h => ?_) <;> (try simp (disch := omega) only [zA, z13, z19, z20, z21, z22, z23, z24, z25, z31, eqDs, eqD, Nat.reduceAdd, wrap64] at h) <;> (try (exfalso; omega)))
  | (refine Need.mk (by (try simp (disch := omega) only [zA, z13, z19, z20, z21, z22, z23, z24, z25, z31, eqDs, eqD, Nat.reduceAdd, wrap64]); first | exact elp_m (by omega) (by omega) (fun _ => rfl) | exact eld_m (by omega) (by omega) (fun _ => rfl) | exact els_m (by omega) (by omega) (by omega) rfl | exact lsl_m (by omega) (fun _ => rfl) | exact app_nil_m (by omega) (fun _ => rfl) (fun _ => rfl) | exact app_m_one (by omega) (fun _ => rfl) rfl rfl | exact app_m_m (by omega) (fun _ => rfl) (fun _ => rfl)) ?_)
  | (refine call_mk (in_ok ..) rfl ?_)
  | (refine Need.mk ?_ ?_)
  | refine rb ?_
  | refine ri ?_
  | refine rs2 ?_ ?_
  | refine rs1 ?_)
 rfl

def FileAt (fs : List P2) (i : Int) : Prop := (0 ≤ (ix fs i).a ∧ (ix fs i).a ≤ 5) ∧ (0 ≤ (ix fs i).b ∧ (ix fs i).b ≤ 9) ∧ (0 < i → (ix fs (i - 1)).a < (ix fs i).a)
def FilesOk (fs : List P2) : Prop := Blw fs.length (FileAt fs) ∧ (fs.length : Int) ≤ 2
def DepAt (name : Int) (fs : List P2) (i : Int) : Prop := (1 ≤ (ix fs i).a ∧ (ix fs i).a ≤ 4) ∧ (ix fs i).a ≠ name ∧ (1 ≤ (ix fs i).b ∧ (ix fs i).b ≤ 5) ∧ (0 < i → (ix fs (i - 1)).a < (ix fs i).a)
def DepsOk (name : Int) (fs : List P2) : Prop := Blw fs.length (DepAt name fs) ∧ (fs.length : Int) ≤ 2
def PkOk (p : Pk) : Prop := (1 ≤ p.name ∧ p.name ≤ 4) ∧ (1 ≤ p.ver ∧ p.ver ≤ 5) ∧ FilesOk p.files ∧ DepsOk p.name p.deps
def SmP (p : Pk) : Prop := p.files.length ≤ lim ∧ p.deps.length ≤ lim

theorem l1Files_ok (fs : List P2) (hl : fs.length ≤ lim) : FunOk PP W n_s_l1Files s_s_l1Files [eP2s fs] [bo (decide (FilesOk fs))] := by
 refine F_s_l1Files (wq_fun ?_)
 unfold lim at hl
 refine loop_mk (fun i : Int => 0 ≤ i ∧ i ≤ fs.length ∧ Blw i (FileAt fs)) (fun i => [(3, i64 i), (0, eP2s fs)]) (fun i => (fs.length - i).toNat) 0 ⟨by omega, by omega, blw_zero _⟩ ⟨rfl, rfl, trivial⟩ ?_
 rintro i e ⟨h0, hN, hP⟩
 (repeat' first
  | (refine iteB_mk (fun h => ?_) (fun h => ?_) <;> (try simp (disch := omega) only [zA, z13, z19, z20, z21, z22, z23, z24, z25, z31, eqDs, eqD, Nat.reduceAdd, wrap64] at h) <;> (try (exfalso; omega)))
  | (refine Need.mk (by (try simp (disch := omega) only [zA, z13, z19, z20, z21, z22, z23, z24, z25, z31, eqDs, eqD, Nat.reduceAdd, wrap64]); first | exact elp_m (by omega) (by omega) (fun _ => rfl) | exact eld_m (by omega) (by omega) (fun _ => rfl) | exact els_m (by omega) (by omega) (by omega) rfl | exact lsl_m (by omega) (fun _ => rfl) | exact app_nil_m (by omega) (fun _ => rfl) (fun _ => rfl) | exact app_m_one (by omega) (fun _ => rfl) rfl rfl | exact app_m_m (by omega) (fun _ => rfl) (fun _ => rfl)) ?_)
  | (refine call_mk (l6In_ok ..) rfl ?_)
  | (refine Exists.intro (i + 1) ⟨by omega, ⟨by omega, by omega, blw_succ hP ?_⟩, i64_eq (wrap64 _ (by omega)), rfl, trivial⟩)
  | (refine Need.mk ?_ ?_)
  | refine rb ?_
  | refine ri ?_
  | refine rs2 ?_ ?_
  | refine rs1 ?_)
 ·exact fD (fun ⟨h, _⟩ => by have := h i (by omega) (by omega); unfold FileAt at this; omega)
 ·exact fD (fun ⟨h, _⟩ => by have := h i (by omega) (by omega); unfold FileAt at this; omega)
 ·exact fD (fun ⟨h, _⟩ => by have := h i (by omega) (by omega); unfold FileAt at this; omega)
 ·unfold FileAt; omega
 ·unfold FileAt; omega
 ·simp only [List.length_map]
  congr 1
  simp only [FilesOk, eq_iff_iff]
  exact ⟨fun h1 => ⟨blw_to hP (by omega), h1⟩, fun h => h.2⟩

theorem l1Deps_ok (name : Int) (fs : List P2) (hl : fs.length ≤ lim) : FunOk PP W n_s_l1Deps s_s_l1Deps [i64 name, eP2s fs] [bo (decide (DepsOk name fs))] := by
 refine F_s_l1Deps (wq_fun ?_)
 unfold lim at hl
 refine loop_mk (fun i : Int => 0 ≤ i ∧ i ≤ fs.length ∧ Blw i (DepAt name fs)) (fun i => [(5, i64 i), (1, eP2s fs), (0, i64 name)]) (fun i => (fs.length - i).toNat) 0 ⟨by omega, by omega, blw_zero _⟩ ⟨rfl, rfl, rfl, trivial⟩ ?_
 rintro i e ⟨h0, hN, hP⟩
 (repeat' first
  | (refine iteB_mk (fun h => ?_) (fun h => ?_) <;> (try simp (disch := omega) only [zA, z13, z19, z20, z21, z22, z23, z24, z25, z31, eqDs, eqD, Nat.reduceAdd, wrap64] at h) <;> (try (exfalso; omega)))
  | (refine Need.mk (by (try simp (disch := omega) only [zA, z13, z19, z20, z21, z22, z23, z24, z25, z31, eqDs, eqD, Nat.reduceAdd, wrap64]); first | exact elp_m (by omega) (by omega) (fun _ => rfl) | exact eld_m (by omega) (by omega) (fun _ => rfl) | exact els_m (by omega) (by omega) (by omega) rfl | exact lsl_m (by omega) (fun _ => rfl) | exact app_nil_m (by omega) (fun _ => rfl) (fun _ => rfl) | exact app_m_one (by omega) (fun _ => rfl) rfl rfl | exact app_m_m (by omega) (fun _ => rfl) (fun _ => rfl)) ?_)
  | (refine call_mk (l6In_ok ..) rfl ?_)
  | (refine Exists.intro (i + 1) ⟨by omega, ⟨by omega, by omega, blw_succ hP ?_⟩, i64_eq (wrap64 _ (by omega)), rfl, rfl, trivial⟩)
  | (refine Need.mk ?_ ?_)
  | refine rb ?_
  | refine ri ?_
  | refine rs2 ?_ ?_
  | refine rs1 ?_)
 ·exact fD (fun ⟨h, _⟩ => by have := h i (by omega) (by omega); unfold DepAt at this; omega)
 ·exact fD (fun ⟨h, _⟩ => by have := h i (by omega) (by omega); unfold DepAt at this; omega)
 ·exact fD (fun ⟨h, _⟩ => by have := h i (by omega) (by omega); unfold DepAt at this; omega)
 ·exact fD (fun ⟨h, _⟩ => by have := h i (by omega) (by omega); unfold DepAt at this; omega)
 ·unfold DepAt; omega
 ·unfold DepAt; omega
 ·simp only [List.length_map]
  congr 1
  simp only [DepsOk, eq_iff_iff]
  exact ⟨fun h1 => ⟨blw_to hP (by omega), h1⟩, fun h => h.2⟩

theorem sPkgOk_ok (p : Pk) (hs : SmP p) : FunOk PP W n_s_PkgOk s_s_PkgOk [ePk p] [bo (decide (PkOk p))] := by
 refine F_s_PkgOk (wq_fun ?_)
 (repeat' first
  | (refine iteB_mk (fun h => ?_) (fun h => ?_) <;> (try simp (disch := omega) only [zA, z13, z19, z20, z21, z22, z23, z24, z25, z31, eqDs, eqD, Nat.reduceAdd, wrap64] at h) <;> (try (exfalso; omega)))
  | (refine Need.mk (by (try simp (disch := omega) only [zA, z13, z19, z20, z21, z22, z23, z24, z25, z31, eqDs, eqD, Nat.reduceAdd, wrap64]); first | exact elp_m (by omega) (by omega) (fun _ => rfl) | exact eld_m (by omega) (by omega) (fun _ => rfl) | exact els_m (by omega) (by omega) (by omega) rfl | exact lsl_m (by omega) (fun _ => rfl) | exact app_nil_m (by omega) (fun _ => rfl) (fun _ => rfl) | exact app_m_one (by omega) (fun _ => rfl) rfl rfl | exact app_m_m (by omega) (fun _ => rfl) (fun _ => rfl)) ?_)
  | (refine call_mk (l6In_ok ..) rfl ?_)
  | (refine call_mk (l1Files_ok p.files hs.1) rfl ?_)
  | (refine call_mk (l1Deps_ok p.name p.deps hs.2) rfl ?_)
  | (refine Need.mk ?_ ?_)
  | refine rb ?_
  | refine ri ?_
  | refine rs2 ?_ ?_
  | refine rs1 ?_)
 ·congr 1
  simp only [PkOk, eq_iff_iff]
  exact ⟨fun h => ⟨by assumption, by assumption, by assumption, h⟩, fun h => h.2.2.2⟩
 ·exact fD (fun h => absurd h.2.2.1 (by assumption))
 ·exact fD (fun h => absurd h.2.1 (by assumption))
 ·exact fD (fun h => absurd h.1 (by assumption))

end V
end Go.Proofs.YtnaldhcdcpdbnaaDoor

/-
Plain proofs, first part: ranges, files, dependencies, packages.
-/
namespace Go.Proofs.YtnaldhcdcpdbnaaDoor
namespace V
open Classical
set_option maxRecDepth 100000
variable {W : Wld}

theorem l3Less_ok (n v m w : Int) : FunOk PP W n_s_l3Less s_s_l3Less [i64 n, i64 v, i64 m, i64 w] [bo (decide (n < m ∨ (n = m ∧ v < w)))] := by
 refine F_s_l3Less (wq_fun ?_)
 (repeat' first
  | (refine iteB_mk (fun h => ?_) (fun h => ?_) <;> (try simp (disch := omega) only [zA, z13, z19, z20, z21, z22, z23, z24, z25, z31, eqDs, eqD, Nat.reduceAdd, wrap64] at h) <;> (try (exfalso; omega)))
  | (refine Need.mk (by (try simp (disch := omega) only [zA, z13, z19, z20, z21, z22, z23, z24, z25, z31, eqDs, eqD, Nat.reduceAdd, wrap64]); first | exact elp_m (by omega) (by omega) (fun _ => rfl) | exact eld_m (by omega) (by omega) (fun _ => rfl) | exact els_m (by omega) (by omega) (by omega) rfl | exact lsl_m (by omega) (fun _ => rfl) | exact app_nil_m (by omega) (fun _ => rfl) (fun _ => rfl) | exact app_m_one (by omega) (fun _ => rfl) rfl rfl | exact app_m_m (by omega) (fun _ => rfl) (fun _ => rfl)) ?_)
  | (refine Need.mk ?_ ?_)
  | refine rb ?_
  | refine ri ?_
  | refine rs2 ?_ ?_
  | refine rs1 ?_)
 all_goals simp_all

def lessM (p q : Pk) : Prop := p.name < q.name ∨ (p.name = q.name ∧ p.ver < q.ver)
def PkAt (ps : List Pk) (i : Int) : Prop := PkOk (ix ps i) ∧ (0 < i → lessM (ix ps (i - 1)) (ix ps i))
def PksOk (ps : List Pk) : Prop := Blw ps.length (PkAt ps)
def SmPs (ps : List Pk) : Prop := ps.length ≤ lim ∧ ∀ p ∈ ps, SmP p
theorem smPs_ix {ps : List Pk} (h : SmPs ps) {i : Int} (h0 : 0 ≤ i) (h1 : i < ps.length) : SmP (ix ps i) := h.2 _ (ix_mem h0 h1)

theorem l3Pkgs_ok (ps : List Pk) (hs : SmPs ps) : FunOk PP W n_s_l3Pkgs s_s_l3Pkgs [ePks ps] [bo (decide (PksOk ps))] := by
 refine F_s_l3Pkgs (wq_fun ?_)
 have hl := hs.1
 unfold lim at hl
 refine loop_mk (fun i : Int => 0 ≤ i ∧ i ≤ ps.length ∧ Blw i (PkAt ps)) (fun i => [(3, i64 i), (0, ePks ps)]) (fun i => (ps.length - i).toNat) 0 ⟨by omega, by omega, blw_zero _⟩ ⟨rfl, rfl, trivial⟩ ?_
 rintro i e ⟨h0, hN, hP⟩
 (repeat' first
  | (refine iteB_mk (fun h => ?_) (fun h => ?_) <;> (try simp (disch := omega) only [zA, z13, z19, z20, z21, z22, z23, z24, z25, z31, eqDs, eqD, Nat.reduceAdd, wrap64] at h) <;> (try (exfalso; omega)))
  | (refine Need.mk (by (try simp (disch := omega) only [zA, z13, z19, z20, z21, z22, z23, z24, z25, z31, eqDs, eqD, Nat.reduceAdd, wrap64]); first | exact elp_m (by omega) (by omega) (fun _ => rfl) | exact eld_m (by omega) (by omega) (fun _ => rfl) | exact els_m (by omega) (by omega) (by omega) rfl | exact lsl_m (by omega) (fun _ => rfl) | exact app_nil_m (by omega) (fun _ => rfl) (fun _ => rfl) | exact app_m_one (by omega) (fun _ => rfl) rfl rfl | exact app_m_m (by omega) (fun _ => rfl) (fun _ => rfl)) ?_)
  | (refine call_mk2 (sPkgOk_ok (ix ps i) (smPs_ix hs (by omega) (by omega))) (by simp (disch := omega) only [zA, z13, z19, z20, z21, z22, z23, z24, z25, z31, eqDs, eqD, Nat.reduceAdd, wrap64]) rfl ?_)
  | (refine call_mk2 (l3Less_ok (ix ps (i - 1)).name (ix ps (i - 1)).ver (ix ps i).name (ix ps i).ver) (by simp (disch := omega) only [zA, z13, z19, z20, z21, z22, z23, z24, z25, z31, eqDs, eqD, Nat.reduceAdd, wrap64]) rfl ?_)
  | (refine Exists.intro (i + 1) ⟨by omega, ⟨by omega, by omega, blw_succ hP ?_⟩, i64_eq (wrap64 _ (by omega)), rfl, trivial⟩)
  | (refine Need.mk ?_ ?_)
  | refine rb ?_
  | refine ri ?_
  | refine rs2 ?_ ?_
  | refine rs1 ?_)
 ·exact fD (fun h => absurd (h i (by omega) (by omega)).1 (by assumption))
 ·exact fD (fun h => absurd ((h i (by omega) (by omega)).2 (by assumption)) (by assumption))
 ·exact ⟨by assumption, fun _ => by assumption⟩
 ·exact ⟨by assumption, fun h => absurd h (by assumption)⟩
 ·exact tD (blw_to hP (by omega))

theorem sStoreOk_ok (ps : List Pk) (hs : SmPs ps) : FunOk PP W n_s_StoreOk s_s_StoreOk [ePks ps] [bo (decide (PksOk ps))] := by
 refine F_s_StoreOk (wq_fun ?_)
 (repeat' first
  | (refine iteB_mk (fun h => ?_) (fun h => ?_) <;> (try simp (disch := omega) only [zA, z13, z19, z20, z21, z22, z23, z24, z25, z31, eqDs, eqD, Nat.reduceAdd, wrap64] at h) <;> (try (exfalso; omega)))
  | (refine Need.mk (by (try simp (disch := omega) only [zA, z13, z19, z20, z21, z22, z23, z24, z25, z31, eqDs, eqD, Nat.reduceAdd, wrap64]); first | exact elp_m (by omega) (by omega) (fun _ => rfl) | exact eld_m (by omega) (by omega) (fun _ => rfl) | exact els_m (by omega) (by omega) (by omega) rfl | exact lsl_m (by omega) (fun _ => rfl) | exact app_nil_m (by omega) (fun _ => rfl) (fun _ => rfl) | exact app_m_one (by omega) (fun _ => rfl) rfl rfl | exact app_m_m (by omega) (fun _ => rfl) (fun _ => rfl)) ?_)
  | (refine call_mk (l3Pkgs_ok ps hs) rfl ?_)
  | (refine Need.mk ?_ ?_)
  | refine rb ?_
  | refine ri ?_
  | refine rs2 ?_ ?_
  | refine rs1 ?_)
 rfl
end V
end Go.Proofs.YtnaldhcdcpdbnaaDoor

/-
Plain proofs: what steps do to a disk, and which steps the reference takes.
-/
namespace Go.Proofs.YtnaldhcdcpdbnaaDoor
namespace V
open Classical
set_option maxRecDepth 100000
variable {W : Wld}

theorem mem_ix {α : Type} [Inhabited α] {xs : List α} {x : α} (h : x ∈ xs) : ∃ i : Int, 0 ≤ i ∧ i < xs.length ∧ ix xs i = x := by
 obtain ⟨n, hn, rfl⟩ := List.mem_iff_getElem.1 h
 exact ⟨n, by omega, by omega, by simp [ix, hn]⟩
end V
end Go.Proofs.YtnaldhcdcpdbnaaDoor

/-
Plain proofs: what functions of the library do.
-/
namespace Go.Proofs.YtnaldhcdcpdbnaaDoor
namespace V
set_option maxRecDepth 100000
variable {W : Wld}

theorem clone_pwp {Φ : Ask} {α : Type} {enc : α → List D} (l : List α) (hl : l.length ≤ lim) (sz : Nat) (hz : ∀ x, (enc x).length = sz) (hs : ∀ x, (enc x).all isScal = true) (z : List D) :
  pwp Φ (.ss [.mv 2 (.c (.sl []))]) (fun x e => x = .normal ∧ ∃ e1 xs, PRel Φ (.mv 3 (.t 0)) e e1 ∧ e1 3 = [.sl xs] ∧ ∀ b, (b = true → xs = []) →
   pwp Φ (.cond (.t 4) (.seq (.ss [.mv 2 (.c (.sl []))]) (.ret [2])) .skip) (PX.then (pwp Φ (.seq (.ss [.lit 5 0 z [], .mv 6 (.t 0), .app 7 sz true (.t 5) (.t 6), .mv 2 (.t 7)]) (.ret [2])) (RetIs [[.sl (l.map enc)]])) (RetIs [[.sl (l.map enc)]])) (put e1 4 [.bool b])) (envL [[.sl (l.map enc)]]) := by
 refine ⟨_, ⟨_, rfl, rfl⟩, rfl, _, l.map enc, rfl, rfl, fun b hb => ?_⟩
 cases b with
 | true =>
  refine .inl ⟨rfl, _, ⟨_, rfl, rfl⟩, ?_⟩
  show ([[D.sl []]] : List (List D)) = [[.sl (l.map enc)]]
  rw [hb rfl]
 | false =>
  have happ : ∀ e : Env, e 5 = [.sl []] → e 6 = [.sl (l.map enc)] → pstep (.app 7 sz true (.t 5) (.t 6)) e = some (put e 7 [.sl (l.map enc)]) := fun e h5 h6 => by
   have h5' : (Opd.t 5).get e = [.sl []] := h5
   have h6' : (Opd.t 6).get e = [.sl (l.map enc)] := h6
   simp only [pstep, h5', h6', List.nil_append]
   refine if_pos ⟨by simpa using hl, fun x hx => ?_, fun _ y hy => ?_⟩
   ·obtain ⟨w, _, rfl⟩ := List.mem_map.1 hx
    exact hz w
   ·obtain ⟨w, _, rfl⟩ := List.mem_map.1 hy
    exact hs w
  exact .inr ⟨rfl, _, ⟨_, rfl, _, rfl, _, happ _ rfl rfl, _, rfl, rfl⟩, rfl⟩

def k_sl_Clone_File : Cfg := { tt := tt, sigs := sigs, mv := false, bm := [5], eqt := eqL, keep := [true, false, true, false, true, false, false, false], n := 8, pin := [] }
theorem c_sl_Clone_File : cIsNil k_sl_Clone_File Tryd.f46 s_sl_Clone_File = some (.ss [.mv 2 (.c (.sl []))], .mv 3 (.t 0), 3, 4, .cond (.t 4) (.seq (.ss [.mv 2 (.c (.sl []))]) (.ret [2])) .skip, .seq (.ss [.lit 5 0 [.int .i64 0, .int .i64 0] [], .mv 6 (.t 0), .app 7 2 true (.t 5) (.t 6), .mv 2 (.t 7)]) (.ret [2])) := by kernel_rfl
theorem cloneF_ok (l : List P2) (hl : l.length ≤ lim) : FunOk PP W n_sl_Clone_File s_sl_Clone_File [eP2s l] [eP2s l] := by
 refine cIsNil_ok (C := k_sl_Clone_File) (cfg_ok rfl) (eq_ok rfl rfl) mixed Tryd.func46 (by kernel_rfl) (by kernel_rfl) c_sl_Clone_File ?_
 exact clone_pwp (enc := eP2) l hl 2 (fun _ => rfl) (fun _ => rfl) [.int .i64 0, .int .i64 0]

def k_sl_Clone_Dep : Cfg := { tt := tt, sigs := sigs, mv := false, bm := [5], eqt := eqL, keep := [true, false, true, false, true, false, false, false], n := 8, pin := [] }
theorem c_sl_Clone_Dep : cIsNil k_sl_Clone_Dep Tryd.f47 s_sl_Clone_Dep = some (.ss [.mv 2 (.c (.sl []))], .mv 3 (.t 0), 3, 4, .cond (.t 4) (.seq (.ss [.mv 2 (.c (.sl []))]) (.ret [2])) .skip, .seq (.ss [.lit 5 0 [.int .i64 0, .int .i64 0] [], .mv 6 (.t 0), .app 7 2 true (.t 5) (.t 6), .mv 2 (.t 7)]) (.ret [2])) := by kernel_rfl
theorem cloneD_ok (l : List P2) (hl : l.length ≤ lim) : FunOk PP W n_sl_Clone_Dep s_sl_Clone_Dep [eP2s l] [eP2s l] := by
 refine cIsNil_ok (C := k_sl_Clone_Dep) (cfg_ok rfl) (eq_ok rfl rfl) mixed Tryd.func47 (by kernel_rfl) (by kernel_rfl) c_sl_Clone_Dep ?_
 exact clone_pwp (enc := eP2) l hl 2 (fun _ => rfl) (fun _ => rfl) [.int .i64 0, .int .i64 0]

end V
end Go.Proofs.YtnaldhcdcpdbnaaDoor

/-
Plain proofs, the program's packages.
-/
namespace Go.Proofs.YtnaldhcdcpdbnaaDoor
namespace V
open Classical
set_option maxRecDepth 100000
variable {W : Wld}

theorem iPkgOk_ok (p : Pk) (hs : SmP p) : FunOk PP W n_i_PkgOk s_i_PkgOk [ePk p] [bo (decide (PkOk p))] := by
 refine F_i_PkgOk (run_fun ?_)
 obtain ⟨hs1, hs2⟩ := hs
 unfold lim at hs1 hs2
 (repeat' first
  | (refine run_ite rfl (fun h => ?_) (fun h => ?_) <;> (try simp (disch := omega) only [zA, z13, z19, z20, z21, z22, z23, z24, z25, z31, eqDs, eqD, Nat.reduceAdd, wrap64] at h) <;> (try (exfalso; omega)))
  | (refine run_need rfl (by (try simp (disch := omega) only [zA, z13, z19, z20, z21, z22, z23, z24, z25, z31, eqDs, eqD, Nat.reduceAdd, wrap64]); first | exact elp_m (by omega) (by first | omega | (simp only [List.length_set]; omega)) (fun _ => rfl) | exact eld_m (by omega) (by first | omega | (simp only [List.length_set]; omega)) (fun _ => rfl) | exact els_m (by omega) (by omega) (by omega) rfl | exact lsl_m (by omega) (fun _ => rfl) | exact app_nil_m (by omega) (fun _ => rfl) (fun _ => rfl) | exact app_m_one (by omega) (fun _ => rfl) rfl rfl | exact app_m_m (by omega) (fun _ => rfl) (fun _ => rfl)) ?_)
  | (refine run_need rfl (by first | decide | omega | (simp only [List.length_map]; omega)) ?_)
  | (refine run_call1 rfl (isName_ok ..) rfl ?_)
  | (refine run_call1 rfl (isVer_ok ..) rfl ?_)
  | (refine run_need rfl ?_ ?_)
  | (refine run_ret rfl ?_ ; first | refine rb ?_ | refine ri ?_ | refine rs2 ?_ ?_ | refine rs1 ?_)
  | (refine run_retx rfl ?_))
 ·exact fD (fun h => by unfold PkOk at h; omega)
 ·exact fD (fun h => by unfold PkOk at h; omega)
 ·exact fD (fun h => by unfold PkOk FilesOk at h; omega)
 ·exact fD (fun h => by unfold PkOk DepsOk at h; omega)
 rename_i q1 q2 q3
 have q4 := h
 clear h
 refine run_loop rfl (fun i : Int => 0 ≤ i ∧ i ≤ p.files.length ∧ Blw i (FileAt p.files)) (fun i => [(32, .val (i64 i)), (30, .val (eP2s p.files)), (31, .val (i64 (p.files.map eP2).length)), (1, .val (ePk p))]) (fun i => (p.files.length - i).toNat) 0 ⟨by omega, by omega, blw_zero _⟩ ⟨rfl, rfl, rfl, rfl, trivial⟩ rfl ?_
 rintro i e ⟨h0, hN, hP⟩
 (repeat' first
  | (refine run_ite rfl (fun h => ?_) (fun h => ?_) <;> (try simp (disch := omega) only [zA, z13, z19, z20, z21, z22, z23, z24, z25, z31, eqDs, eqD, Nat.reduceAdd, wrap64] at h) <;> (try (exfalso; omega)))
  | (refine run_need rfl (by (try simp (disch := omega) only [zA, z13, z19, z20, z21, z22, z23, z24, z25, z31, eqDs, eqD, Nat.reduceAdd, wrap64]); first | exact elp_m (by omega) (by first | omega | (simp only [List.length_set]; omega)) (fun _ => rfl) | exact eld_m (by omega) (by first | omega | (simp only [List.length_set]; omega)) (fun _ => rfl) | exact els_m (by omega) (by omega) (by omega) rfl | exact lsl_m (by omega) (fun _ => rfl) | exact app_nil_m (by omega) (fun _ => rfl) (fun _ => rfl) | exact app_m_one (by omega) (fun _ => rfl) rfl rfl | exact app_m_m (by omega) (fun _ => rfl) (fun _ => rfl)) ?_)
  | (refine run_need rfl (by first | decide | omega | (simp only [List.length_map]; omega)) ?_)
  | (refine run_call1 rfl (in_ok ..) rfl ?_)
  | (refine run_next rfl (Exists.intro (i + 1) ⟨by omega, ⟨by omega, by omega, blw_succ hP ?_⟩, i64_eq (wrap64 _ (by omega)), rfl, rfl, rfl, trivial⟩))
  | (refine run_need rfl ?_ ?_)
  | (refine run_ret rfl ?_ ; first | refine rb ?_ | refine ri ?_ | refine rs2 ?_ ?_ | refine rs1 ?_)
  | (refine run_retx rfl ?_))
 ·exact fD (fun ⟨_, _, ⟨h, _⟩, _⟩ => by have := h i (by omega) (by omega); unfold FileAt at this; omega)
 ·exact fD (fun ⟨_, _, ⟨h, _⟩, _⟩ => by have := h i (by omega) (by omega); unfold FileAt at this; omega)
 ·exact fD (fun ⟨_, _, ⟨h, _⟩, _⟩ => by have := h i (by omega) (by omega); unfold FileAt at this; omega)
 ·unfold FileAt; omega
 ·unfold FileAt; omega
 have hF : FilesOk p.files := ⟨blw_to hP (by omega), by omega⟩
 clear hP h0 hN
 refine run_loop rfl (fun i : Int => 0 ≤ i ∧ i ≤ p.deps.length ∧ Blw i (DepAt p.name p.deps)) (fun i => [(67, .val (i64 i)), (65, .val (eP2s p.deps)), (66, .val (i64 (p.deps.map eP2).length)), (1, .val (ePk p))]) (fun i => (p.deps.length - i).toNat) 0 ⟨by omega, by omega, blw_zero _⟩ ⟨rfl, rfl, rfl, rfl, trivial⟩ rfl ?_
 rintro i e ⟨h0, hN, hP⟩
 (repeat' first
  | (refine run_ite rfl (fun h => ?_) (fun h => ?_) <;> (try simp (disch := omega) only [zA, z13, z19, z20, z21, z22, z23, z24, z25, z31, eqDs, eqD, Nat.reduceAdd, wrap64] at h) <;> (try (exfalso; omega)))
  | (refine run_need rfl (by (try simp (disch := omega) only [zA, z13, z19, z20, z21, z22, z23, z24, z25, z31, eqDs, eqD, Nat.reduceAdd, wrap64]); first | exact elp_m (by omega) (by first | omega | (simp only [List.length_set]; omega)) (fun _ => rfl) | exact eld_m (by omega) (by first | omega | (simp only [List.length_set]; omega)) (fun _ => rfl) | exact els_m (by omega) (by omega) (by omega) rfl | exact lsl_m (by omega) (fun _ => rfl) | exact app_nil_m (by omega) (fun _ => rfl) (fun _ => rfl) | exact app_m_one (by omega) (fun _ => rfl) rfl rfl | exact app_m_m (by omega) (fun _ => rfl) (fun _ => rfl)) ?_)
  | (refine run_need rfl (by first | decide | omega | (simp only [List.length_map]; omega)) ?_)
  | (refine run_call1 rfl (isName_ok ..) rfl ?_)
  | (refine run_call1 rfl (isVer_ok ..) rfl ?_)
  | (refine run_next rfl (Exists.intro (i + 1) ⟨by omega, ⟨by omega, by omega, blw_succ hP ?_⟩, i64_eq (wrap64 _ (by omega)), rfl, rfl, rfl, trivial⟩))
  | (refine run_need rfl ?_ ?_)
  | (refine run_ret rfl ?_ ; first | refine rb ?_ | refine ri ?_ | refine rs2 ?_ ?_ | refine rs1 ?_)
  | (refine run_retx rfl ?_))
 ·exact fD (fun ⟨_, _, _, h, _⟩ => by have := h i (by omega) (by omega); unfold DepAt at this; omega)
 ·exact fD (fun ⟨_, _, _, h, _⟩ => by have := h i (by omega) (by omega); unfold DepAt at this; omega)
 ·exact fD (fun ⟨_, _, _, h, _⟩ => by have := h i (by omega) (by omega); unfold DepAt at this; omega)
 ·exact fD (fun ⟨_, _, _, h, _⟩ => by have := h i (by omega) (by omega); unfold DepAt at this; omega)
 ·unfold DepAt; omega
 ·unfold DepAt; omega
 ·exact tD ⟨q1, q2, hF, blw_to hP (by omega), by omega⟩

end V
end Go.Proofs.YtnaldhcdcpdbnaaDoor

/-
Plain proofs: the program's stores.
-/
namespace Go.Proofs.YtnaldhcdcpdbnaaDoor
namespace V
open Classical
set_option maxRecDepth 100000
variable {W : Wld}

theorem isNaN_ok (a : Int) : FunOk PP W n_cmp_isNaN_int s_cmp_isNaN_int [i64 a] [bo false] := by
 refine F_cmp_isNaN_int (run_fun ?_)
 (repeat' first
  | (refine run_ite rfl (fun h => ?_) (fun h => ?_) <;> (try simp (disch := omega) only [zA, z13, z19, z20, z21, z22, z23, z24, z25, z31, eqDs, eqD, Nat.reduceAdd, wrap64] at h) <;> (try (exfalso; omega)))
  | (refine run_need rfl (by (try simp (disch := omega) only [zA, z13, z19, z20, z21, z22, z23, z24, z25, z31, eqDs, eqD, Nat.reduceAdd, wrap64]); first | exact elp_m (by omega) (by first | omega | (simp only [List.length_set]; omega)) (fun _ => rfl) | exact eld_m (by omega) (by first | omega | (simp only [List.length_set]; omega)) (fun _ => rfl) | exact els_m (by omega) (by omega) (by omega) rfl | exact lsl_m (by omega) (fun _ => rfl) | exact app_nil_m (by omega) (fun _ => rfl) (fun _ => rfl) | exact app_m_one (by omega) (fun _ => rfl) rfl rfl | exact app_m_m (by omega) (fun _ => rfl) (fun _ => rfl)) ?_)
  | (refine run_need rfl (by first | decide | omega | (simp only [List.length_map]; omega)) ?_)
  | (refine run_need rfl ?_ ?_)
  | (refine run_ret rfl ?_ ; first | refine rb ?_ | refine ri ?_ | refine rs2 ?_ ?_ | refine rs1 ?_)
  | (refine run_retx rfl ?_))
 simp

def cmpM (a b : Int) : Int := if a < b then -1 else if b < a then 1 else 0
theorem cmpI_ok (a b : Int) : FunOk PP W n_cmp_Compare_int s_cmp_Compare_int [i64 a, i64 b] [i64 (cmpM a b)] := by
 refine F_cmp_Compare_int (run_fun ?_)
 (repeat' first
  | (refine run_ite rfl (fun h => ?_) (fun h => ?_) <;> (try simp (disch := omega) only [zA, z13, z19, z20, z21, z22, z23, z24, z25, z31, eqDs, eqD, Nat.reduceAdd, wrap64] at h) <;> (try (exfalso; omega)))
  | (refine run_need rfl (by (try simp (disch := omega) only [zA, z13, z19, z20, z21, z22, z23, z24, z25, z31, eqDs, eqD, Nat.reduceAdd, wrap64]); first | exact elp_m (by omega) (by first | omega | (simp only [List.length_set]; omega)) (fun _ => rfl) | exact eld_m (by omega) (by first | omega | (simp only [List.length_set]; omega)) (fun _ => rfl) | exact els_m (by omega) (by omega) (by omega) rfl | exact lsl_m (by omega) (fun _ => rfl) | exact app_nil_m (by omega) (fun _ => rfl) (fun _ => rfl) | exact app_m_one (by omega) (fun _ => rfl) rfl rfl | exact app_m_m (by omega) (fun _ => rfl) (fun _ => rfl)) ?_)
  | (refine run_need rfl (by first | decide | omega | (simp only [List.length_map]; omega)) ?_)
  | (refine run_call1 rfl (isNaN_ok ..) rfl ?_)
  | (refine run_need rfl ?_ ?_)
  | (refine run_ret rfl ?_ ; first | refine rb ?_ | refine ri ?_ | refine rs2 ?_ ?_ | refine rs1 ?_)
  | (refine run_retx rfl ?_))
 all_goals unfold cmpM
 all_goals (repeat' split) <;> omega

theorem cmpOr_ok (a b : Int) : FunOk PP W n_cmp_Or_int s_cmp_Or_int [eIs [a, b]] [i64 (if a = 0 then b else a)] := by
 refine F_cmp_Or_int (run_fun ?_)
 (repeat' first
  | (refine run_ite rfl (fun h => ?_) (fun h => ?_) <;> (try simp (disch := omega) only [zA, z13, z19, z20, z21, z22, z23, z24, z25, z31, eqDs, eqD, Nat.reduceAdd, wrap64] at h) <;> (try (exfalso; omega)))
  | (refine run_need rfl (by (try simp (disch := omega) only [zA, z13, z19, z20, z21, z22, z23, z24, z25, z31, eqDs, eqD, Nat.reduceAdd, wrap64]); first | exact elp_m (by omega) (by first | omega | (simp only [List.length_set]; omega)) (fun _ => rfl) | exact eld_m (by omega) (by first | omega | (simp only [List.length_set]; omega)) (fun _ => rfl) | exact els_m (by omega) (by omega) (by omega) rfl | exact lsl_m (by omega) (fun _ => rfl) | exact app_nil_m (by omega) (fun _ => rfl) (fun _ => rfl) | exact app_m_one (by omega) (fun _ => rfl) rfl rfl | exact app_m_m (by omega) (fun _ => rfl) (fun _ => rfl)) ?_)
  | (refine run_need rfl (by first | decide | omega | (simp only [List.length_map]; omega)) ?_)
  | (refine run_need rfl ?_ ?_)
  | (refine run_ret rfl ?_ ; first | refine rb ?_ | refine ri ?_ | refine rs2 ?_ ?_ | refine rs1 ?_)
  | (refine run_retx rfl ?_))
 refine run_loop rfl (fun i : Int => 0 ≤ i ∧ i ≤ 2 ∧ (0 < i → a = 0) ∧ (1 < i → b = 0)) (fun i => [(8, .val (i64 i)), (6, .val (eIs [a, b])), (7, .val (i64 2)), (3, .val (i64 0))]) (fun i => (2 - i).toNat) 0 ⟨by omega, by omega, by omega, by omega⟩ ⟨rfl, rfl, rfl, rfl, trivial⟩ rfl ?_
 rintro i e ⟨h0, hN, hP1, hP2⟩
 (repeat' first
  | (refine run_ite rfl (fun h => ?_) (fun h => ?_) <;> (try simp (disch := omega) only [zA, z13, z19, z20, z21, z22, z23, z24, z25, z31, eqDs, eqD, Nat.reduceAdd, wrap64] at h) <;> (try (exfalso; omega)))
  | (refine run_need rfl (by (try simp (disch := omega) only [zA, z13, z19, z20, z21, z22, z23, z24, z25, z31, eqDs, eqD, Nat.reduceAdd, wrap64]); first | exact elp_m (by omega) (by first | omega | (simp only [List.length_set]; omega)) (fun _ => rfl) | exact eld_m (by omega) (by first | omega | (simp only [List.length_set]; omega)) (fun _ => rfl) | exact els_m (by omega) (by omega) (by omega) rfl | exact lsl_m (by omega) (fun _ => rfl) | exact app_nil_m (by omega) (fun _ => rfl) (fun _ => rfl) | exact app_m_one (by omega) (fun _ => rfl) rfl rfl | exact app_m_m (by omega) (fun _ => rfl) (fun _ => rfl)) ?_)
  | (refine run_need rfl (by first | decide | omega | (simp only [List.length_map]; omega)) ?_)
  | (refine run_next rfl (Exists.intro (i + 1) ⟨by omega, ⟨by omega, by omega, ?_, ?_⟩, i64_eq (wrap64 _ (by omega)), rfl, rfl, rfl, trivial⟩))
  | (refine run_need rfl ?_ ?_)
  | (refine run_ret rfl ?_ ; first | refine rb ?_ | refine ri ?_ | refine rs2 ?_ ?_ | refine rs1 ?_)
  | (refine run_retx rfl ?_))
 ·rw [cI_I]
  have hi : i = 0 ∨ i = 1 := by omega
  rcases hi with rfl | rfl <;> simp_all [ix]
 ·intro _
  have hi : i = 0 ∨ i = 1 := by omega
  rcases hi with rfl | rfl <;> simp_all [ix]
 ·intro _
  have hi : i = 1 := by omega
  subst hi
  simp_all [ix]
 ·rw [if_pos (hP1 (by omega)), hP2 (by omega)]

theorem compare_ok (p q : Pk) : FunOk PP W n_i_Pkg_compare s_i_Pkg_compare [ePk p, ePk q] [i64 (if cmpM p.name q.name = 0 then cmpM p.ver q.ver else cmpM p.name q.name)] := by
 refine F_i_Pkg_compare (run_fun ?_)
 (repeat' first
  | (refine run_ite rfl (fun h => ?_) (fun h => ?_) <;> (try simp (disch := omega) only [zA, z13, z19, z20, z21, z22, z23, z24, z25, z31, eqDs, eqD, Nat.reduceAdd, wrap64] at h) <;> (try (exfalso; omega)))
  | (refine run_need rfl (by (try simp (disch := omega) only [zA, z13, z19, z20, z21, z22, z23, z24, z25, z31, eqDs, eqD, Nat.reduceAdd, wrap64]); first | exact elp_m (by omega) (by first | omega | (simp only [List.length_set]; omega)) (fun _ => rfl) | exact eld_m (by omega) (by first | omega | (simp only [List.length_set]; omega)) (fun _ => rfl) | exact els_m (by omega) (by omega) (by omega) rfl | exact lsl_m (by omega) (fun _ => rfl) | exact app_nil_m (by omega) (fun _ => rfl) (fun _ => rfl) | exact app_m_one (by omega) (fun _ => rfl) rfl rfl | exact app_m_m (by omega) (fun _ => rfl) (fun _ => rfl)) ?_)
  | (refine run_need rfl (by first | decide | omega | (simp only [List.length_map]; omega)) ?_)
  | (refine run_call1 rfl (cmpI_ok ..) rfl ?_)
  | (refine run_call1 rfl (cmpOr_ok ..) rfl ?_)
  | (refine run_need rfl ?_ ?_)
  | (refine run_ret rfl ?_ ; first | refine rb ?_ | refine ri ?_ | refine rs2 ?_ ?_ | refine rs1 ?_)
  | (refine run_retx rfl ?_))
 rfl
theorem compare_less (p q : Pk) : ¬ 0 ≤ (if cmpM p.name q.name = 0 then cmpM p.ver q.ver else cmpM p.name q.name) ↔ lessM p q := by
 unfold cmpM lessM
 (repeat' split) <;> omega

theorem iStoreOk_ok (ps : List Pk) (hs : SmPs ps) : FunOk PP W n_i_StoreOk s_i_StoreOk [ePks ps] [bo (decide (PksOk ps))] := by
 refine F_i_StoreOk (run_fun ?_)
 have hl := hs.1
 unfold lim at hl
 refine run_loop rfl (fun i : Int => 0 ≤ i ∧ i ≤ ps.length ∧ Blw i (PkAt ps)) (fun i => [(7, .val (i64 i)), (0, .val (ePks ps)), (5, .val (ePks ps)), (6, .val (i64 (ps.map ePk).length))]) (fun i => (ps.length - i).toNat) 0 ⟨by omega, by omega, blw_zero _⟩ ⟨rfl, rfl, rfl, rfl, trivial⟩ rfl ?_
 rintro i e ⟨h0, hN, hP⟩
 (repeat' first
  | (refine run_ite rfl (fun h => ?_) (fun h => ?_) <;> (try simp (disch := omega) only [zA, z13, z19, z20, z21, z22, z23, z24, z25, z31, eqDs, eqD, Nat.reduceAdd, wrap64] at h) <;> (try (exfalso; omega)))
  | (refine run_need rfl (by (try simp (disch := omega) only [zA, z13, z19, z20, z21, z22, z23, z24, z25, z31, eqDs, eqD, Nat.reduceAdd, wrap64]); first | exact elp_m (by omega) (by first | omega | (simp only [List.length_set]; omega)) (fun _ => rfl) | exact eld_m (by omega) (by first | omega | (simp only [List.length_set]; omega)) (fun _ => rfl) | exact els_m (by omega) (by omega) (by omega) rfl | exact lsl_m (by omega) (fun _ => rfl) | exact app_nil_m (by omega) (fun _ => rfl) (fun _ => rfl) | exact app_m_one (by omega) (fun _ => rfl) rfl rfl | exact app_m_m (by omega) (fun _ => rfl) (fun _ => rfl)) ?_)
  | (refine run_need rfl (by first | decide | omega | (simp only [List.length_map]; omega)) ?_)
  | (refine run_calleq rfl (iPkgOk_ok (ix ps i) (smPs_ix hs (by omega) (by omega))) (by simp (disch := omega) only [zA, z13, z19, z20, z21, z22, z23, z24, z25, z31, eqDs, eqD, Nat.reduceAdd, wrap64]) rfl ?_)
  | (refine run_calleq rfl (compare_ok (ix ps (i - 1)) (ix ps i)) (by simp (disch := omega) only [zA, z13, z19, z20, z21, z22, z23, z24, z25, z31, eqDs, eqD, Nat.reduceAdd, wrap64]) rfl ?_)
  | (refine run_next rfl (Exists.intro (i + 1) ⟨by omega, ⟨by omega, by omega, blw_succ hP ?_⟩, i64_eq (wrap64 _ (by omega)), rfl, rfl, rfl, trivial⟩))
  | (refine run_need rfl ?_ ?_)
  | (refine run_ret rfl ?_ ; first | refine rb ?_ | refine ri ?_ | refine rs2 ?_ ?_ | refine rs1 ?_)
  | (refine run_retx rfl ?_))
 ·exact fD (fun h' => absurd (h' i (by omega) (by omega)).1 (by assumption))
 ·exact fD (fun h' => (compare_less _ _).2 ((h' i (by omega) (by omega)).2 (by assumption)) h)
 ·exact ⟨by assumption, fun _ => (compare_less _ _).1 h⟩
 ·exact ⟨by assumption, fun h' => absurd h' (by assumption)⟩
 ·exact tD (blw_to hP (by omega))
end V
end Go.Proofs.YtnaldhcdcpdbnaaDoor

/-
Plain proofs: the program's plans.
-/
namespace Go.Proofs.YtnaldhcdcpdbnaaDoor
namespace V
open Classical
set_option maxRecDepth 100000
variable {W : Wld}

noncomputable def idxF {α : Type} [Inhabited α] (P : α → Prop) (xs : List α) : Nat → Int → Int
 | 0, _ => -1
 | n + 1, i => if P (ix xs i) then i else idxF P xs n (i + 1)

theorem idxF_pos {α : Type} [Inhabited α] (P : α → Prop) (xs : List α) : ∀ (n : Nat) (i : Int), 0 ≤ i → (0 ≤ idxF P xs n i ↔ ∃ j, i ≤ j ∧ j < i + n ∧ P (ix xs j))
 | 0, i, h0 => by
  unfold idxF
  constructor
  ·intro h; omega
  ·rintro ⟨j, h1, h2, _⟩; omega
 | n + 1, i, h0 => by
  unfold idxF
  by_cases hp : P (ix xs i)
  ·rw [if_pos hp]
   exact ⟨fun _ => ⟨i, by omega, by omega, hp⟩, fun _ => h0⟩
  ·rw [if_neg hp, idxF_pos P xs n (i + 1) (by omega)]
   constructor
   ·rintro ⟨j, h1, h2, h3⟩; exact ⟨j, by omega, by omega, h3⟩
   ·rintro ⟨j, h1, h2, h3⟩
    by_cases hj : j = i
    ·subst hj; exact absurd h3 hp
    ·exact ⟨j, by omega, by omega, h3⟩
theorem idxF_mem {α : Type} [Inhabited α] (P : α → Prop) (xs : List α) : 0 ≤ idxF P xs xs.length 0 ↔ ∃ x ∈ xs, P x := by
 rw [idxF_pos P xs xs.length 0 (by omega)]
 constructor
 ·rintro ⟨j, h1, h2, h3⟩; exact ⟨_, ix_mem h1 (by omega), h3⟩
 ·rintro ⟨x, hx, h⟩
  obtain ⟨j, h1, h2, rfl⟩ := mem_ix hx
  exact ⟨j, h1, by omega, h⟩

end V
end Go.Proofs.YtnaldhcdcpdbnaaDoor

/-
Plain proofs: the program's disks and steps.
-/
namespace Go.Proofs.YtnaldhcdcpdbnaaDoor
namespace V
open Classical
set_option maxRecDepth 100000
variable {W : Wld}

theorem dI {p : Prop} [Decidable p] {b : Bool} (h : b = true ↔ p) : b = decide p := by
 by_cases hp : p <;> simp_all
theorem pkgCopied_ok (p : Pk) (hs : SmP p) : FunOk PP W n_i_Pkg_copied s_i_Pkg_copied [ePk p] [ePk p] := by
 refine F_i_Pkg_copied (run_fun ?_)
 (repeat' first
  | (refine run_ite rfl (fun h => ?_) (fun h => ?_) <;> (try simp (disch := omega) only [zA, z13, z19, z20, z21, z22, z23, z24, z25, z31, eqDs, eqD, Nat.reduceAdd, wrap64] at h) <;> (try (exfalso; omega)))
  | (refine run_need rfl (by (try simp (disch := omega) only [zA, z13, z19, z20, z21, z22, z23, z24, z25, z31, eqDs, eqD, Nat.reduceAdd, wrap64]); first | exact elp_m (by omega) (by first | omega | (simp only [List.length_set]; omega)) (fun _ => rfl) | exact eld_m (by omega) (by first | omega | (simp only [List.length_set]; omega)) (fun _ => rfl) | exact els_m (by omega) (by omega) (by omega) rfl | exact lsl_m (by omega) (fun _ => rfl) | exact app_nil_m (by omega) (fun _ => rfl) (fun _ => rfl) | exact app_m_one (by omega) (fun _ => rfl) rfl rfl | exact app_m_m (by omega) (fun _ => rfl) (fun _ => rfl)) ?_)
  | (refine run_need rfl (by first | decide | omega | (simp only [List.length_map]; omega)) ?_)
  | (refine run_call1 rfl (cloneF_ok p.files hs.1) rfl ?_)
  | (refine run_call1 rfl (cloneD_ok p.deps hs.2) rfl ?_)
  | (refine run_need rfl ?_ ?_)
  | (refine run_ret rfl ?_ ; first | refine rb ?_ | refine ri ?_ | refine rs2 ?_ ?_ | refine rs1 ?_)
  | (refine run_retx rfl ?_))
 rfl
end V
end Go.Proofs.YtnaldhcdcpdbnaaDoor

/-
Plain proofs: what is drawn.
-/
namespace Go.Proofs.YtnaldhcdcpdbnaaDoor
namespace V
open Classical
set_option maxRecDepth 100000
variable {W : Wld}

abbrev eRd (b : List Int) (p : Int) : List D := [.sl (b.map eU), .int .i64 p]
def Byt (b : List Int) : Prop := b.length ≤ 2000 ∧ ∀ x ∈ b, 0 ≤ x ∧ x ≤ 255
theorem byt_ix {b : List Int} (h : Byt b) (i : Int) : 0 ≤ ix b i ∧ ix b i ≤ 255 := by
 by_cases hi : i.toNat < b.length
 ·refine h.2 _ ?_
  simp [ix, hi]
 ·rw [ix_out hi]
  exact ⟨Int.le_refl _, by decide⟩
theorem byt_cI {b : List Int} (h : Byt b) (i : Int) : 0 ≤ cI (b.map eU) i 0 ∧ cI (b.map eU) i 0 ≤ 255 := by rw [cI_U]; exact byt_ix h i

theorem tdiv_bd {k l : Int} (hk : 0 ≤ k) (hl : 1 ≤ l) : 0 ≤ k.tdiv l ∧ k.tdiv l ≤ k := by
 rw [Int.tdiv_eq_ediv_of_nonneg hk]
 exact ⟨Int.ediv_nonneg hk (by omega), Int.ediv_le_self _ hk⟩
theorem mix_bd {x y k l : Int} (hx : 0 ≤ x ∧ x ≤ 255) (hy : 0 ≤ y ∧ y ≤ 255) (hk : 0 ≤ k ∧ k < 1000000000) (hl : 1 ≤ l) :
  0 ≤ IntKind.i64.wrap (IntKind.i64.wrap (IntKind.i64.wrap (IntKind.i64.wrap (IntKind.i64.wrap x * 131) + IntKind.i64.wrap (IntKind.i64.wrap y * 1117)) + IntKind.i64.wrap (k * 29)) + IntKind.i64.wrap (IntKind.i64.wrap (k.tdiv l) * 53)) ∧
  IntKind.i64.wrap (IntKind.i64.wrap (IntKind.i64.wrap (IntKind.i64.wrap (IntKind.i64.wrap x * 131) + IntKind.i64.wrap (IntKind.i64.wrap y * 1117)) + IntKind.i64.wrap (k * 29)) + IntKind.i64.wrap (IntKind.i64.wrap (k.tdiv l) * 53)) < 4611686018427387904 := by
 have hd := tdiv_bd hk.1 hl
 simp (disch := omega) only [wrap64]
 omega
theorem half_bd {x : Int} (h : 0 ≤ x ∧ x < 4611686018427387904) : 0 ≤ IntKind.i64.wrap (x.tdiv 64) ∧ IntKind.i64.wrap (x.tdiv 64) < 4611686018427387904 := by
 have hd := tdiv_bd (l := 64) h.1 (by decide)
 rw [wrap64 _ (by omega)]
 omega
theorem xor_bd {a b : Int} (ha : 0 ≤ a ∧ a < 4611686018427387904) (hb : 0 ≤ b ∧ b < 4611686018427387904) : 0 ≤ IntKind.i64.wrap ↑(BitVec.ofInt IntKind.i64.bits a ^^^ BitVec.ofInt IntKind.i64.bits b).toNat := by
 have hbits : IntKind.i64.bits = 64 := rfl
 have key : ∀ c d : Nat, c < 2 ^ 62 → d < 2 ^ 62 → c ^^^ d < 2 ^ 62 := fun c d h1 h2 => Nat.xor_lt_two_pow h1 h2
 have e1 : (BitVec.ofInt 64 a).toNat = a.toNat := by rw [BitVec.toNat_ofInt]; omega
 have e2 : (BitVec.ofInt 64 b).toNat = b.toNat := by rw [BitVec.toNat_ofInt]; omega
 have h := key a.toNat b.toNat (by omega) (by omega)
 show 0 ≤ IntKind.i64.wrap ↑(BitVec.ofInt 64 a ^^^ BitVec.ofInt 64 b).toNat
 rw [BitVec.toNat_xor, e1, e2, wrap64 _ (by omega)]
 omega

theorem pick_ex (b : List Int) (hb : Byt b) (p n : Int) (hp : 0 ≤ p ∧ p < 1000000000) (hn : 0 ≤ n ∧ n < 1000000000) : ∃ outs, (∃ v : Int, outs = [i64 v, eRd b (p + 1)] ∧ 0 ≤ v ∧ (v < n ∨ v = 0)) ∧ FunOk PP W n_s_l6Rd_pick s_s_l6Rd_pick [eRd b p, i64 n] outs := by
 have hp1 : IntKind.i64.wrap (p + 1) = p + 1 := wrap64 _ (by omega)
 have hp2 : IntKind.i64.wrap (IntKind.i64.wrap (p + 1) - 1) = p := by rw [hp1, wrap64 _ (by omega)]; omega
 have hr : ∀ x : Int, ([D.sl (b.map eU), D.int .i64 (IntKind.i64.wrap (p + 1))] : List D) = eRd b (p + 1) := fun _ => by rw [hp1]
 obtain ⟨outs, h1, h2⟩ := run_funx (Φ := FunOk PP W) (p := p_s_l6Rd_pick) (ins := [eRd b p, i64 n]) (G := fun outs => ∃ v : Int, outs = [i64 v, eRd b (p + 1)] ∧ 0 ≤ v ∧ (v < n ∨ v = 0)) (by
  have hb1 := hb.1
  (repeat' first
  | (refine run_ite rfl (fun h => ?_) (fun h => ?_) <;> (try simp (disch := omega) only [zA, z13, z19, z20, z21, z22, z23, z24, z25, z31, eqDs, eqD, Nat.reduceAdd, wrap64] at h) <;> (try (exfalso; omega)))
  | (refine run_need rfl (by (try simp (disch := omega) only [zA, z13, z19, z20, z21, z22, z23, z24, z25, z31, eqDs, eqD, Nat.reduceAdd, wrap64]); first | exact elp_m (by omega) (by first | omega | (simp only [List.length_set]; omega)) (fun _ => rfl) | exact eld_m (by omega) (by first | omega | (simp only [List.length_set]; omega)) (fun _ => rfl) | exact els_m (by omega) (by omega) (by omega) rfl | exact lsl_m (by omega) (fun _ => rfl) | exact app_nil_m (by omega) (fun _ => rfl) (fun _ => rfl) | exact app_m_one (by omega) (fun _ => rfl) rfl rfl | exact app_m_m (by omega) (fun _ => rfl) (fun _ => rfl)) ?_)
  | (refine run_need rfl (by first | decide | omega | (simp only [List.length_map]; omega)) ?_)
  | (refine run_need rfl (by simp (disch := omega) only [zA, z13, z19, z20, z21, z22, z23, z24, z25, z31, eqDs, eqD, Nat.reduceAdd, wrap64]; exact elp_m (Int.tmod_nonneg _ (by omega)) (Int.tmod_lt_of_pos _ (by omega)) (fun _ => rfl)) ?_)
  | (refine run_need rfl (by simp (disch := omega) only [zA, z13, z19, z20, z21, z22, z23, z24, z25, z31, eqDs, eqD, Nat.reduceAdd, wrap64]; exact eld_m (Int.tmod_nonneg _ (by omega)) (Int.tmod_lt_of_pos _ (by omega)) (fun _ => rfl)) ?_)
  | (refine run_need rfl ?_ ?_)
  | (refine run_ret rfl ?_ ; first | refine rb ?_ | refine ri ?_ | refine rs2 ?_ ?_ | refine rs1 ?_)
  | (refine run_retx rfl ?_))
  ·exact ⟨0, rs2 rfl (hr 0), Int.le_refl _, .inr rfl⟩
  ·exact ⟨0, rs2 rfl (hr 0), Int.le_refl _, .inr rfl⟩
  ·refine ⟨_, rs2 rfl (hr 0), ?_⟩
   have h3 := byt_cI hb (IntKind.i64.wrap (IntKind.i64.wrap (p + 1) - 1))
   rw [wrap64 _ (by omega)]
   exact ⟨Int.tmod_nonneg _ h3.1, .inl (Int.tmod_lt_of_pos _ (by omega))⟩
  ·refine ⟨_, rs2 rfl (hr 0), ?_⟩
   refine ⟨Int.tmod_nonneg _ ?_, .inl (Int.tmod_lt_of_pos _ (by omega))⟩
   have h3 := mix_bd (l := ((b.map eU).length : Int)) (byt_cI hb ((IntKind.i64.wrap (IntKind.i64.wrap (p + 1) - 1)).tmod ((b.map eU).length : Int))) (byt_cI hb ((IntKind.i64.wrap (IntKind.i64.wrap (IntKind.i64.wrap (IntKind.i64.wrap (p + 1) - 1) * 7) + 3)).tmod ((b.map eU).length : Int))) (k := IntKind.i64.wrap (IntKind.i64.wrap (p + 1) - 1)) (by rw [hp2]; exact hp) (by rw [List.length_map]; omega)
   exact xor_bd h3 (half_bd h3))
 exact ⟨outs, h1, F_s_l6Rd_pick h2⟩
end V
end Go.Proofs.YtnaldhcdcpdbnaaDoor

/-
Plain proofs: drawn packages.
-/
namespace Go.Proofs.YtnaldhcdcpdbnaaDoor
namespace V
open Classical
set_option maxRecDepth 100000
variable {W : Wld}

theorem open_ok (b : List Int) (hb : b.length ≤ 1048576) : FunOk PP W n_s_l6Open s_s_l6Open [eBs b] [eRd (b.take 2000) 0] := by
 refine F_s_l6Open (run_fun ?_)
 (repeat' first
  | (refine run_ite rfl (fun h => ?_) (fun h => ?_) <;> (try simp (disch := omega) only [zA, z13, z19, z20, z21, z22, z23, z24, z25, z31, eqDs, eqD, Nat.reduceAdd, wrap64] at h) <;> (try (exfalso; omega)))
  | (refine run_need rfl (by (try simp (disch := omega) only [zA, z13, z19, z20, z21, z22, z23, z24, z25, z31, eqDs, eqD, Nat.reduceAdd, wrap64]); first | exact elp_m (by omega) (by first | omega | (simp only [List.length_set]; omega)) (fun _ => rfl) | exact eld_m (by omega) (by first | omega | (simp only [List.length_set]; omega)) (fun _ => rfl) | exact els_m (by omega) (by omega) (by omega) rfl | exact lsl_m (by omega) (fun _ => rfl) | exact app_nil_m (by omega) (fun _ => rfl) (fun _ => rfl) | exact app_m_one (by omega) (fun _ => rfl) rfl rfl | exact app_m_m (by omega) (fun _ => rfl) (fun _ => rfl)) ?_)
  | (refine run_need rfl (by first | decide | omega | (simp only [List.length_map]; omega)) ?_)
  | (refine run_need rfl ?_ ?_)
  | (refine run_ret rfl ?_ ; first | refine rb ?_ | refine ri ?_ | refine rs2 ?_ ?_ | refine rs1 ?_)
  | (refine run_retx rfl ?_))
 ·show [D.sl (((b.map eU).take 2000).drop 0), D.int .i64 0] = _
  rw [List.drop_zero, ← List.map_take]
 ·rw [List.take_of_length_le (by omega)]

def DrPk (q : Pk) : Prop := (1 ≤ q.name ∧ q.name ≤ 4) ∧ q.files.length ≤ 3 ∧ q.deps.length ≤ 3 ∧ ∀ d ∈ q.deps, 1 ≤ d.a ∧ d.a ≤ 4
theorem pkg_ex (b : List Int) (hb : Byt b) (p name ver : Int) (hp : 0 ≤ p ∧ p < 900000000) (hn : 1 ≤ name ∧ name ≤ 4) : ∃ outs, (∃ q p', outs = [ePk q, eRd b p'] ∧ DrPk q ∧ p ≤ p' ∧ p' ≤ p + 30) ∧ FunOk PP W n_s_l71Pkg s_s_l71Pkg [eRd b p, i64 name, i64 ver] outs := by
 obtain ⟨outs, h1, h2⟩ := run_funx (Φ := FunOk PP W) (p := p_s_l71Pkg) (ins := [eRd b p, i64 name, i64 ver]) (G := fun outs => ∃ q p', outs = [ePk q, eRd b p'] ∧ DrPk q ∧ p ≤ p' ∧ p' ≤ p + 30) (by
  (repeat' first
  | (refine run_ite rfl (fun h => ?_) (fun h => ?_) <;> (try simp (disch := omega) only [zA, z13, z19, z20, z21, z22, z23, z24, z25, z31, eqDs, eqD, Nat.reduceAdd, wrap64] at h) <;> (try (exfalso; omega)))
  | (refine run_need rfl (by (try simp (disch := omega) only [zA, z13, z19, z20, z21, z22, z23, z24, z25, z31, eqDs, eqD, Nat.reduceAdd, wrap64]); first | exact elp_m (by omega) (by first | omega | (simp only [List.length_set]; omega)) (fun _ => rfl) | exact eld_m (by omega) (by first | omega | (simp only [List.length_set]; omega)) (fun _ => rfl) | exact els_m (by omega) (by omega) (by omega) rfl | exact lsl_m (by omega) (fun _ => rfl) | exact app_nil_m (by omega) (fun _ => rfl) (fun _ => rfl) | exact app_m_one (by omega) (fun _ => rfl) rfl rfl | exact app_m_m (by omega) (fun _ => rfl) (fun _ => rfl)) ?_)
  | (refine run_need rfl (by first | decide | omega | (simp only [List.length_map]; omega)) ?_)
  | (refine run_callx rfl (pick_ex b hb _ _ (by first | omega | (simp only [List.length_map]; omega)) (by first | omega | (simp only [List.length_map]; omega))) rfl (fun outs hG => ?_); obtain ⟨v, rfl, hv0, hv1⟩ := hG; (try simp only [List.length_map] at hv1); refine ⟨[i64 v], [eRd b _], rfl, rfl, rfl, ?_⟩)
  | (refine run_need rfl ?_ ?_)
  | (refine run_ret rfl ?_ ; first | refine rb ?_ | refine ri ?_ | refine rs2 ?_ ?_ | refine rs1 ?_)
  | (refine run_retx rfl ?_))
  rename_i a0 ha0 ha1
  refine run_loop rfl (fun x : Int × Int × Int × List P2 => (0 ≤ x.1 ∧ x.1 ≤ 2) ∧ (0 ≤ x.2.1 ∧ x.2.1 ≤ 30 - 8 * x.1) ∧ (p + 2 ≤ x.2.2.1 ∧ x.2.2.1 ≤ p + 6 - 2 * x.1) ∧ (x.2.2.2.length : Int) ≤ 2 - x.1) (fun x => [(9, .val (i64 x.1)), (8, .val (i64 x.2.1)), (0, .val (eRd b x.2.2.1)), (7, .val (ePk ⟨name, ver, x.2.2.2, []⟩)), (6, .val (ePk default)), (1, .val (i64 name))]) (fun x => x.1.toNat) (v, a0, p + 1 + 1, []) ⟨by dsimp only; omega, by dsimp only; omega, by dsimp only; omega, by simp; omega⟩ ⟨rfl, rfl, rfl, rfl, rfl, rfl, trivial⟩ rfl ?_
  rintro ⟨n, a, q, fs⟩ e ⟨h0, h1, h2, h3⟩
  dsimp only at h0 h1 h2 h3 ⊢
  (repeat' first
  | (refine run_ite rfl (fun h => ?_) (fun h => ?_) <;> (try simp (disch := omega) only [zA, z13, z19, z20, z21, z22, z23, z24, z25, z31, eqDs, eqD, Nat.reduceAdd, wrap64] at h) <;> (try (exfalso; omega)))
  | (refine run_need rfl (by (try simp (disch := omega) only [zA, z13, z19, z20, z21, z22, z23, z24, z25, z31, eqDs, eqD, Nat.reduceAdd, wrap64]); first | exact elp_m (by omega) (by first | omega | (simp only [List.length_set]; omega)) (fun _ => rfl) | exact eld_m (by omega) (by first | omega | (simp only [List.length_set]; omega)) (fun _ => rfl) | exact els_m (by omega) (by omega) (by omega) rfl | exact lsl_m (by omega) (fun _ => rfl) | exact app_nil_m (by omega) (fun _ => rfl) (fun _ => rfl) | exact app_m_one (by omega) (fun _ => rfl) rfl rfl | exact app_m_m (by omega) (fun _ => rfl) (fun _ => rfl)) ?_)
  | (refine run_need rfl (by first | decide | omega | (simp only [List.length_map]; omega)) ?_)
  | (refine run_callx rfl (pick_ex b hb _ _ (by first | omega | (simp only [List.length_map]; omega)) (by first | omega | (simp only [List.length_map]; omega))) rfl (fun outs hG => ?_); obtain ⟨v, rfl, hv0, hv1⟩ := hG; (try simp only [List.length_map] at hv1); refine ⟨[i64 v], [eRd b _], rfl, rfl, rfl, ?_⟩)
  | (refine run_need rfl ?_ ?_)
  | (refine run_ret rfl ?_ ; first | refine rb ?_ | refine ri ?_ | refine rs2 ?_ ?_ | refine rs1 ?_)
  | (refine run_retx rfl ?_))
  ·rename_i w0 hw0 hw1
   exact run_next rfl (Exists.intro (n - 1, a + 1 + v, q + 1 + 1, fs ++ [⟨a, w0⟩]) ⟨by dsimp only; omega, ⟨by dsimp only; omega, by dsimp only; omega, by dsimp only; omega, by simp; omega⟩, i64_eq (wrap64 _ (by omega)), i64_eq (by simp (disch := omega) only [wrap64]), rfl, by dsimp only [ePk]; rw [List.map_append]; rfl, rfl, rfl, trivial⟩)
  all_goals (
   refine run_loop rfl (fun x : Int × Int × List P2 => (1 ≤ x.1 ∧ x.1 ≤ 5) ∧ (p ≤ x.2.1 ∧ x.2.1 ≤ p + 6 + 2 * x.1) ∧ x.2.2.length ≤ 2 ∧ ∀ d ∈ x.2.2, 1 ≤ d.a ∧ d.a ≤ 4) (fun x => [(10, .val (i64 x.1)), (0, .val (eRd b x.2.1)), (7, .val (ePk ⟨name, ver, fs, x.2.2⟩)), (6, .val (ePk default)), (1, .val (i64 name))]) (fun x => (6 - x.1).toNat) (1, q, []) ⟨by dsimp only; omega, by dsimp only; omega, by simp, by simp⟩ ⟨rfl, rfl, rfl, rfl, rfl, trivial⟩ rfl ?_
   rintro ⟨d, r, ds⟩ e ⟨g0, g1, g2, g3⟩
   dsimp only at g0 g1 g2 g3 ⊢
   (repeat' first
  | (refine run_ite rfl (fun h => ?_) (fun h => ?_) <;> (try simp (disch := omega) only [zA, z13, z19, z20, z21, z22, z23, z24, z25, z31, eqDs, eqD, Nat.reduceAdd, wrap64] at h) <;> (try (exfalso; omega)))
  | (refine run_need rfl (by (try simp (disch := omega) only [zA, z13, z19, z20, z21, z22, z23, z24, z25, z31, eqDs, eqD, Nat.reduceAdd, wrap64]); first | exact elp_m (by omega) (by first | omega | (simp only [List.length_set]; omega)) (fun _ => rfl) | exact eld_m (by omega) (by first | omega | (simp only [List.length_set]; omega)) (fun _ => rfl) | exact els_m (by omega) (by omega) (by omega) rfl | exact lsl_m (by omega) (fun _ => rfl) | exact app_nil_m (by omega) (fun _ => rfl) (fun _ => rfl) | exact app_m_one (by omega) (fun _ => rfl) rfl rfl | exact app_m_m (by omega) (fun _ => rfl) (fun _ => rfl)) ?_)
  | (refine run_need rfl (by first | decide | omega | (simp only [List.length_map]; omega)) ?_)
  | (refine run_callx rfl (pick_ex b hb _ _ (by first | omega | (simp only [List.length_map]; omega)) (by first | omega | (simp only [List.length_map]; omega))) rfl (fun outs hG => ?_); obtain ⟨v, rfl, hv0, hv1⟩ := hG; (try simp only [List.length_map] at hv1); refine ⟨[i64 v], [eRd b _], rfl, rfl, rfl, ?_⟩)
  | (refine run_next rfl (Exists.intro (d + 1, r, ds) ⟨by dsimp only; omega, ⟨by dsimp only; omega, by dsimp only; omega, g2, g3⟩, i64_eq (wrap64 _ (by omega)), rfl, rfl, rfl, rfl, trivial⟩))
  | (refine run_next rfl (Exists.intro (d + 1, r + 1, ds) ⟨by dsimp only; omega, ⟨by dsimp only; omega, by dsimp only; omega, g2, g3⟩, i64_eq (wrap64 _ (by omega)), rfl, rfl, rfl, rfl, trivial⟩))
  | (refine run_next rfl (Exists.intro (d + 1, r + 1 + 1, ds ++ [⟨d, 1 + v⟩]) ⟨by dsimp only; omega, ⟨by dsimp only; omega, by dsimp only; omega, by simp; omega, ?_⟩, i64_eq (wrap64 _ (by omega)), rfl, ?_, rfl, rfl, trivial⟩))
  | (refine run_need rfl ?_ ?_)
  | (refine run_ret rfl ?_ ; first | refine rb ?_ | refine ri ?_ | refine rs2 ?_ ?_ | refine rs1 ?_)
  | (refine run_retx rfl ?_))
   all_goals first
    | exact ⟨⟨name, ver, fs, ds⟩, r, rfl, ⟨hn, by dsimp only; omega, by dsimp only; omega, g3⟩, by omega, by omega⟩
    | (intro x hx; rcases List.mem_append.1 hx with h' | h'; exact g3 x h'; rw [List.mem_singleton.1 h']; dsimp only; omega)
    | (refine Eq.trans (b := [.int .i64 name, .int .i64 ver, .sl (fs.map eP2), .sl (ds.map eP2 ++ [[.int .i64 d, .int .i64 (IntKind.i64.wrap (1 + v))]])]) rfl ?_; rw [wrap64 _ (by omega)]; dsimp only [ePk]; rw [List.map_append]; rfl)))
 exact ⟨outs, h1, F_s_l71Pkg h2⟩

theorem find_ex (ps : List Pk) (hl : ps.length ≤ lim) (n v : Int) : ∃ outs, (∃ k : Int, outs = [i64 k]) ∧ FunOk PP W n_s_l12Find s_s_l12Find [ePks ps, i64 n, i64 v] outs := by
 obtain ⟨outs, h1, h2⟩ := run_funx (Φ := FunOk PP W) (p := p_s_l12Find) (ins := [ePks ps, i64 n, i64 v]) (G := fun outs => ∃ k : Int, outs = [i64 k]) (by
  unfold lim at hl
  refine run_loop rfl (fun i : Int => 0 ≤ i ∧ i ≤ ps.length) (fun i => [(7, .val (i64 i)), (0, .val (ePks ps)), (1, .val (i64 n)), (2, .val (i64 v))]) (fun i => (ps.length - i).toNat) 0 ⟨by omega, by omega⟩ ⟨rfl, rfl, rfl, rfl, trivial⟩ rfl ?_
  rintro i e ⟨h0, hN⟩
  (repeat' first
  | (refine run_ite rfl (fun h => ?_) (fun h => ?_) <;> (try simp (disch := omega) only [zA, z13, z19, z20, z21, z22, z23, z24, z25, z31, eqDs, eqD, Nat.reduceAdd, wrap64] at h) <;> (try (exfalso; omega)))
  | (refine run_need rfl (by (try simp (disch := omega) only [zA, z13, z19, z20, z21, z22, z23, z24, z25, z31, eqDs, eqD, Nat.reduceAdd, wrap64]); first | exact elp_m (by omega) (by first | omega | (simp only [List.length_set]; omega)) (fun _ => rfl) | exact eld_m (by omega) (by first | omega | (simp only [List.length_set]; omega)) (fun _ => rfl) | exact els_m (by omega) (by omega) (by omega) rfl | exact lsl_m (by omega) (fun _ => rfl) | exact app_nil_m (by omega) (fun _ => rfl) (fun _ => rfl) | exact app_m_one (by omega) (fun _ => rfl) rfl rfl | exact app_m_m (by omega) (fun _ => rfl) (fun _ => rfl)) ?_)
  | (refine run_need rfl (by first | decide | omega | (simp only [List.length_map]; omega)) ?_)
  | (refine run_next rfl (Exists.intro (i + 1) ⟨by omega, ⟨by omega, by omega⟩, i64_eq (wrap64 _ (by omega)), rfl, rfl, rfl, trivial⟩))
  | (refine run_need rfl ?_ ?_)
  | (refine run_ret rfl ?_ ; first | refine rb ?_ | refine ri ?_ | refine rs2 ?_ ?_ | refine rs1 ?_)
  | (refine run_retx rfl ?_))
  all_goals exact ⟨_, rfl⟩)
 exact ⟨outs, h1, F_s_l12Find h2⟩

noncomputable def withM (ps : List Pk) (p : Pk) : List Pk := ps.filter (fun q => decide (lessM q p)) ++ [p] ++ ps.filter (fun q => decide (lessM p q))
theorem filter_take {α : Type} [Inhabited α] (f : α → Bool) (ps : List α) {i : Int} (h0 : 0 ≤ i) (h1 : i < ps.length) : (ps.take (i + 1).toNat).filter f = (ps.take i.toNat).filter f ++ if f (ix ps i) = true then [ix ps i] else [] := by
 rw [take_ix ps h0 h1, List.filter_append]
 congr 1
 by_cases h : f (ix ps i) = true <;> simp [h]
theorem l12With_ok (ps : List Pk) (hs : SmPs ps) (h1 : ps.length ≤ 1000000) (p : Pk) (hp : SmP p) : FunOk PP W n_s_l12With s_s_l12With [ePks ps, ePk p] [ePks (withM ps p)] := by
 refine F_s_l12With (run_fun ?_)
 (repeat' first
  | (refine run_ite rfl (fun h => ?_) (fun h => ?_) <;> (try simp (disch := omega) only [zA, z13, z19, z20, z21, z22, z23, z24, z25, z31, eqDs, eqD, Nat.reduceAdd, wrap64] at h) <;> (try (exfalso; omega)))
  | (refine run_need rfl (by (try simp (disch := omega) only [zA, z13, z19, z20, z21, z22, z23, z24, z25, z31, eqDs, eqD, Nat.reduceAdd, wrap64]); first | exact elp_m (by omega) (by first | omega | (simp only [List.length_set]; omega)) (fun _ => rfl) | exact eld_m (by omega) (by first | omega | (simp only [List.length_set]; omega)) (fun _ => rfl) | exact els_m (by omega) (by omega) (by omega) rfl | exact lsl_m (by omega) (fun _ => rfl) | exact app_nil_m (by omega) (fun _ => rfl) (fun _ => rfl) | exact app_m_one (by omega) (fun _ => rfl) rfl rfl | exact app_m_m (by omega) (fun _ => rfl) (fun _ => rfl)) ?_)
  | (refine run_need rfl (by first | decide | omega | (simp only [List.length_map]; omega)) ?_)
  | (refine run_need rfl ?_ ?_)
  | (refine run_ret rfl ?_ ; first | refine rb ?_ | refine ri ?_ | refine rs2 ?_ ?_ | refine rs1 ?_)
  | (refine run_retx rfl ?_))
 refine run_loop rfl (fun i : Int => 0 ≤ i ∧ i ≤ ps.length) (fun i => [(6, .val (i64 i)), (0, .val (ePks ps)), (5, .val (ePks ((ps.take i.toNat).filter (fun q => decide (lessM q p))))), (3, .val (ePk p))]) (fun i => (ps.length - i).toNat) 0 ⟨by omega, by omega⟩ ⟨rfl, rfl, rfl, rfl, trivial⟩ rfl ?_
 rintro i e ⟨h0, hN⟩
 have hft := filter_take (fun q => decide (lessM q p)) ps (i := i) h0
 have hfl : ((ps.take i.toNat).filter (fun q => decide (lessM q p))).length ≤ ps.length := Nat.le_trans (List.length_filter_le _ _) (by rw [List.length_take]; omega)
 have hfin : ¬ i < ps.length → (ps.take i.toNat).filter (fun q => decide (lessM q p)) = ps.filter (fun q => decide (lessM q p)) := fun h => by rw [List.take_of_length_le (by omega)]
 generalize (ps.take i.toNat).filter (fun q => decide (lessM q p)) = A at hft hfl hfin
 (repeat' first
  | (refine run_ite rfl (fun h => ?_) (fun h => ?_) <;> (try simp (disch := omega) only [zA, z13, z19, z20, z21, z22, z23, z24, z25, z31, eqDs, eqD, Nat.reduceAdd, wrap64] at h) <;> (try (exfalso; omega)))
  | (refine run_need rfl (by (try simp (disch := omega) only [zA, z13, z19, z20, z21, z22, z23, z24, z25, z31, eqDs, eqD, Nat.reduceAdd, wrap64]); first | exact elp_m (by omega) (by first | omega | (simp only [List.length_set]; omega)) (fun _ => rfl) | exact eld_m (by omega) (by first | omega | (simp only [List.length_set]; omega)) (fun _ => rfl) | exact els_m (by omega) (by omega) (by omega) rfl | exact lsl_m (by omega) (fun _ => rfl) | exact app_nil_m (by omega) (fun _ => rfl) (fun _ => rfl) | exact app_m_one (by omega) (fun _ => rfl) rfl rfl | exact app_m_m (by omega) (fun _ => rfl) (fun _ => rfl)) ?_)
  | (refine run_need rfl (by first | decide | omega | (simp only [List.length_map]; omega)) ?_)
  | (refine run_calleq rfl (l3Less_ok (ix ps i).name (ix ps i).ver p.name p.ver) (by simp (disch := omega) only [zA, z13, z19, z20, z21, z22, z23, z24, z25, z31, eqDs, eqD, Nat.reduceAdd, wrap64]) rfl ?_)
  | (refine run_next rfl (Exists.intro (i + 1) ⟨by omega, ⟨by omega, by omega⟩, i64_eq (wrap64 _ (by omega)), rfl, ?_, rfl, trivial⟩))
  | (refine run_need rfl ?_ ?_)
  | (refine run_ret rfl ?_ ; first | refine rb ?_ | refine ri ?_ | refine rs2 ?_ ?_ | refine rs1 ?_)
  | (refine run_retx rfl ?_))
 ·rw [hft (by assumption), if_pos (decide_eq_true (show lessM (ix ps i) p from h))]
  refine sl_eq ?_
  simp only [zA, z13, z19, z20, z21, z22, z23, z24, z25, z31, eqDs, eqD, Nat.reduceAdd, List.map_append]
  rfl
 ·rw [hft (by assumption), if_neg (by rw [decide_eq_true_eq]; exact h), List.append_nil]
  rfl
 have hA := hfin h
 clear hft hfin h h0 hN
 unfold withM
 rw [← hA]
 clear hA
 refine run_loop rfl (fun i : Int => 0 ≤ i ∧ i ≤ ps.length) (fun i => [(7, .val (i64 i)), (0, .val (ePks ps)), (5, .val (ePks (A ++ [p] ++ (ps.take i.toNat).filter (fun q => decide (lessM p q))))), (3, .val (ePk p))]) (fun i => (ps.length - i).toNat) 0 ⟨by omega, by omega⟩ ⟨rfl, rfl, ?_, rfl, trivial⟩ rfl ?_
 ·refine sl_eq ?_
  rw [show (ps.take (0 : Int).toNat).filter (fun q => decide (lessM p q)) = [] from rfl, List.append_nil, List.map_append]
  rfl
 rintro i e ⟨h0, hN⟩
 have hft := filter_take (fun q => decide (lessM p q)) ps (i := i) h0
 have hfl2 : ((ps.take i.toNat).filter (fun q => decide (lessM p q))).length ≤ ps.length := Nat.le_trans (List.length_filter_le _ _) (by rw [List.length_take]; omega)
 have hfin : ¬ i < ps.length → (ps.take i.toNat).filter (fun q => decide (lessM p q)) = ps.filter (fun q => decide (lessM p q)) := fun h => by rw [List.take_of_length_le (by omega)]
 generalize (ps.take i.toNat).filter (fun q => decide (lessM p q)) = B at hft hfl2 hfin
 have hBl : (A ++ [p] ++ B).length ≤ 2000001 := by simp; omega
 have hft2 : i < ps.length → A ++ [p] ++ (ps.take (i + 1).toNat).filter (fun q => decide (lessM p q)) = (A ++ [p] ++ B) ++ if decide (lessM p (ix ps i)) = true then [ix ps i] else [] := fun h => by rw [hft h]; simp only [List.append_assoc]
 have hfin2 : ¬ i < ps.length → A ++ [p] ++ B = A ++ [p] ++ ps.filter (fun q => decide (lessM p q)) := fun h => by rw [hfin h]
 generalize A ++ [p] ++ B = E at hBl hft2 hfin2
 (repeat' first
  | (refine run_ite rfl (fun h => ?_) (fun h => ?_) <;> (try simp (disch := omega) only [zA, z13, z19, z20, z21, z22, z23, z24, z25, z31, eqDs, eqD, Nat.reduceAdd, wrap64] at h) <;> (try (exfalso; omega)))
  | (refine run_need rfl (by (try simp (disch := omega) only [zA, z13, z19, z20, z21, z22, z23, z24, z25, z31, eqDs, eqD, Nat.reduceAdd, wrap64]); first | exact elp_m (by omega) (by first | omega | (simp only [List.length_set]; omega)) (fun _ => rfl) | exact eld_m (by omega) (by first | omega | (simp only [List.length_set]; omega)) (fun _ => rfl) | exact els_m (by omega) (by omega) (by omega) rfl | exact lsl_m (by omega) (fun _ => rfl) | exact app_nil_m (by omega) (fun _ => rfl) (fun _ => rfl) | exact app_m_one (by omega) (fun _ => rfl) rfl rfl | exact app_m_m (by omega) (fun _ => rfl) (fun _ => rfl)) ?_)
  | (refine run_need rfl (by first | decide | omega | (simp only [List.length_map]; omega)) ?_)
  | (refine run_calleq rfl (l3Less_ok p.name p.ver (ix ps i).name (ix ps i).ver) (by simp (disch := omega) only [zA, z13, z19, z20, z21, z22, z23, z24, z25, z31, eqDs, eqD, Nat.reduceAdd, wrap64]) rfl ?_)
  | (refine run_next rfl (Exists.intro (i + 1) ⟨by omega, ⟨by omega, by omega⟩, i64_eq (wrap64 _ (by omega)), rfl, ?_, rfl, trivial⟩))
  | (refine run_need rfl ?_ ?_)
  | (refine run_ret rfl ?_ ; first | refine rb ?_ | refine ri ?_ | refine rs2 ?_ ?_ | refine rs1 ?_)
  | (refine run_retx rfl ?_))
 ·rw [hft2 (by assumption), if_pos (decide_eq_true (show lessM p (ix ps i) from h))]
  refine sl_eq ?_
  simp only [zA, z13, z19, z20, z21, z22, z23, z24, z25, z31, eqDs, eqD, Nat.reduceAdd, List.map_append]
  rfl
 ·rw [hft2 (by assumption), if_neg (by rw [decide_eq_true_eq]; exact h), List.append_nil]
  rfl
 ·rw [hfin2 h]

theorem filter2_len {α : Type} (f g : α → Bool) (h : ∀ x, f x = true → g x = true → False) : ∀ l : List α, (l.filter f).length + (l.filter g).length ≤ l.length
 | [] => by simp
 | x :: l => by
  have := filter2_len f g h l
  have hx := h x
  simp only [List.filter_cons, List.length_cons]
  split <;> split <;> simp_all <;> omega
theorem less_not {p q : Pk} (h1 : lessM p q) (h2 : lessM q p) : False := by unfold lessM at h1 h2; omega
theorem withM_len (ps : List Pk) (p : Pk) : (withM ps p).length ≤ ps.length + 1 := by
 have := filter2_len (fun q => decide (lessM q p)) (fun q => decide (lessM p q)) (fun x h1 h2 => less_not (of_decide_eq_true h1) (of_decide_eq_true h2)) ps
 unfold withM
 simp only [List.length_append, List.length_singleton]
 omega
theorem withM_mem {ps : List Pk} {p q : Pk} (h : q ∈ withM ps p) : q ∈ ps ∨ q = p := by
 unfold withM at h
 simp only [List.mem_append, List.mem_filter, List.mem_singleton] at h
 rcases h with (⟨h, _⟩ | h) | ⟨h, _⟩
 ·exact .inl h
 ·exact .inr h
 ·exact .inl h
def DrPks (ps : List Pk) : Prop := ∀ q ∈ ps, DrPk q
theorem drPk_sm {q : Pk} (h : DrPk q) : SmP q := by
 obtain ⟨_, h1, h2, _⟩ := h
 unfold SmP lim
 omega
theorem drPks_sm {ps : List Pk} (h : DrPks ps) (hl : ps.length ≤ 1000) : SmPs ps := ⟨by unfold lim; omega, fun q hq => drPk_sm (h q hq)⟩

end V
end Go.Proofs.YtnaldhcdcpdbnaaDoor

/-
Plain proofs: drawn lists of packages.
-/
namespace Go.Proofs.YtnaldhcdcpdbnaaDoor
namespace V
open Classical
set_option maxRecDepth 100000
variable {W : Wld}

theorem pkgs_ex (b : List Int) (hb : Byt b) (p : Int) (hp : 0 ≤ p ∧ p < 800000000) : ∃ outs, (∃ ps p', outs = [ePks ps, eRd b p'] ∧ DrPks ps ∧ ps.length ≤ 7 ∧ p ≤ p' ∧ p' ≤ p + 300) ∧ FunOk PP W n_s_l71Pkgs s_s_l71Pkgs [eRd b p] outs := by
 obtain ⟨outs, h1, h2⟩ := run_funx (Φ := FunOk PP W) (p := p_s_l71Pkgs) (ins := [eRd b p]) (G := fun outs => ∃ ps p', outs = [ePks ps, eRd b p'] ∧ DrPks ps ∧ ps.length ≤ 7 ∧ p ≤ p' ∧ p' ≤ p + 300) (by
  (repeat' first
  | (refine run_ite rfl (fun h => ?_) (fun h => ?_) <;> (try simp (disch := omega) only [zA, z13, z19, z20, z21, z22, z23, z24, z25, z31, eqDs, eqD, Nat.reduceAdd, wrap64] at h) <;> (try (exfalso; omega)))
  | (refine run_need rfl (by (try simp (disch := omega) only [zA, z13, z19, z20, z21, z22, z23, z24, z25, z31, eqDs, eqD, Nat.reduceAdd, wrap64]); first | exact elp_m (by omega) (by first | omega | (simp only [List.length_set]; omega)) (fun _ => rfl) | exact eld_m (by omega) (by first | omega | (simp only [List.length_set]; omega)) (fun _ => rfl) | exact els_m (by omega) (by omega) (by omega) rfl | exact lsl_m (by omega) (fun _ => rfl) | exact app_nil_m (by omega) (fun _ => rfl) (fun _ => rfl) | exact app_m_one (by omega) (fun _ => rfl) rfl rfl | exact app_m_m (by omega) (fun _ => rfl) (fun _ => rfl)) ?_)
  | (refine run_need rfl (by first | decide | omega | (simp only [List.length_map]; omega)) ?_)
  | (refine run_callx rfl (pick_ex b hb _ _ (by first | omega | (simp only [List.length_map]; omega)) (by first | omega | (simp only [List.length_map]; omega))) rfl (fun outs hG => ?_); obtain ⟨v, rfl, hv0, hv1⟩ := hG; (try simp only [List.length_map] at hv1); refine ⟨[i64 v], [eRd b _], rfl, rfl, rfl, ?_⟩)
  | (refine run_need rfl ?_ ?_)
  | (refine run_ret rfl ?_ ; first | refine rb ?_ | refine ri ?_ | refine rs2 ?_ ?_ | refine rs1 ?_)
  | (refine run_retx rfl ?_))
  refine run_loop rfl (fun x : Int × Int × List Pk => (0 ≤ x.1 ∧ x.1 ≤ 7) ∧ (p ≤ x.2.1 ∧ x.2.1 ≤ p + 300 - 35 * x.1) ∧ (x.2.2.length : Int) ≤ 7 - x.1 ∧ DrPks x.2.2) (fun x => [(4, .val (i64 x.1)), (0, .val (eRd b x.2.1)), (3, .val (ePks x.2.2))]) (fun x => x.1.toNat) (v, p + 1, []) ⟨by dsimp only; omega, by dsimp only; omega, by simp; omega, by intro q hq; cases hq⟩ ⟨rfl, rfl, rfl, trivial⟩ rfl ?_
  rintro ⟨n, r, ps⟩ e ⟨g0, g1, g2, g3⟩
  dsimp only at g0 g1 g2 g3 ⊢
  (repeat' first
  | (refine run_ite rfl (fun h => ?_) (fun h => ?_) <;> (try simp (disch := omega) only [zA, z13, z19, z20, z21, z22, z23, z24, z25, z31, eqDs, eqD, Nat.reduceAdd, wrap64] at h) <;> (try (exfalso; omega)))
  | (refine run_need rfl (by (try simp (disch := omega) only [zA, z13, z19, z20, z21, z22, z23, z24, z25, z31, eqDs, eqD, Nat.reduceAdd, wrap64]); first | exact elp_m (by omega) (by first | omega | (simp only [List.length_set]; omega)) (fun _ => rfl) | exact eld_m (by omega) (by first | omega | (simp only [List.length_set]; omega)) (fun _ => rfl) | exact els_m (by omega) (by omega) (by omega) rfl | exact lsl_m (by omega) (fun _ => rfl) | exact app_nil_m (by omega) (fun _ => rfl) (fun _ => rfl) | exact app_m_one (by omega) (fun _ => rfl) rfl rfl | exact app_m_m (by omega) (fun _ => rfl) (fun _ => rfl)) ?_)
  | (refine run_need rfl (by first | decide | omega | (simp only [List.length_map]; omega)) ?_)
  | (refine run_callx rfl (pick_ex b hb _ _ (by first | omega | (simp only [List.length_map]; omega)) (by first | omega | (simp only [List.length_map]; omega))) rfl (fun outs hG => ?_); obtain ⟨v, rfl, hv0, hv1⟩ := hG; (try simp only [List.length_map] at hv1); refine ⟨[i64 v], [eRd b _], rfl, rfl, rfl, ?_⟩)
  | (refine run_need rfl ?_ ?_)
  | (refine run_ret rfl ?_ ; first | refine rb ?_ | refine ri ?_ | refine rs2 ?_ ?_ | refine rs1 ?_)
  | (refine run_retx rfl ?_))
  ·rename_i w hw0 hw1
   refine run_callx rfl (pkg_ex b hb (r + 1 + 1) (1 + w) (1 + v) (by omega) (by omega)) (by simp (disch := omega) only [wrap64]) (fun outs hG => ?_)
   obtain ⟨q, p', rfl, hq1, hq2, hq3⟩ := hG
   refine ⟨[ePk q], [eRd b p'], rfl, rfl, rfl, ?_⟩
   have hps : SmPs ps := drPks_sm g3 (by omega)
   (repeat' first
  | (refine run_ite rfl (fun h => ?_) (fun h => ?_) <;> (try simp (disch := omega) only [zA, z13, z19, z20, z21, z22, z23, z24, z25, z31, eqDs, eqD, Nat.reduceAdd, wrap64] at h) <;> (try (exfalso; omega)))
  | (refine run_need rfl (by (try simp (disch := omega) only [zA, z13, z19, z20, z21, z22, z23, z24, z25, z31, eqDs, eqD, Nat.reduceAdd, wrap64]); first | exact elp_m (by omega) (by first | omega | (simp only [List.length_set]; omega)) (fun _ => rfl) | exact eld_m (by omega) (by first | omega | (simp only [List.length_set]; omega)) (fun _ => rfl) | exact els_m (by omega) (by omega) (by omega) rfl | exact lsl_m (by omega) (fun _ => rfl) | exact app_nil_m (by omega) (fun _ => rfl) (fun _ => rfl) | exact app_m_one (by omega) (fun _ => rfl) rfl rfl | exact app_m_m (by omega) (fun _ => rfl) (fun _ => rfl)) ?_)
  | (refine run_need rfl (by first | decide | omega | (simp only [List.length_map]; omega)) ?_)
  | (refine run_callx rfl (find_ex ps hps.1 _ _) rfl (fun outs hG => ?_); obtain ⟨k, rfl⟩ := hG; refine ⟨[i64 k], [], rfl, rfl, rfl, ?_⟩)
  | (refine run_call1 rfl (l12With_ok ps hps (by omega) q (drPk_sm hq1)) rfl ?_)
  | (refine run_next rfl (Exists.intro (n - 1, p', withM ps q) ⟨by dsimp only; omega, ⟨by dsimp only; omega, by dsimp only; omega, ?_, ?_⟩, i64_eq (wrap64 _ (by omega)), rfl, rfl, trivial⟩))
  | (refine run_next rfl (Exists.intro (n - 1, p', ps) ⟨by dsimp only; omega, ⟨by dsimp only; omega, by dsimp only; omega, by dsimp only; omega, g3⟩, i64_eq (wrap64 _ (by omega)), rfl, rfl, trivial⟩))
  | (refine run_need rfl ?_ ?_)
  | (refine run_ret rfl ?_ ; first | refine rb ?_ | refine ri ?_ | refine rs2 ?_ ?_ | refine rs1 ?_)
  | (refine run_retx rfl ?_))
   ·have := withM_len ps q
    dsimp only
    omega
   ·intro x hx
    rcases withM_mem hx with h' | h'
    ·exact g3 x h'
    ·rw [h']; exact hq1
  ·exact ⟨ps, r, rfl, g3, by omega, by omega, by omega⟩)
 exact ⟨outs, h1, F_s_l71Pkgs h2⟩

theorem any_ex (b : List Int) (hb : Byt b) (p : Int) (hp : 0 ≤ p ∧ p < 800000000) : ∃ outs, (∃ q p', outs = [ePk q, eRd b p'] ∧ SmP q ∧ p ≤ p' ∧ p' ≤ p + 50) ∧ FunOk PP W n_s_l71Any s_s_l71Any [eRd b p] outs := by
 obtain ⟨outs, h1, h2⟩ := run_funx (Φ := FunOk PP W) (p := p_s_l71Any) (ins := [eRd b p]) (G := fun outs => ∃ q p', outs = [ePk q, eRd b p'] ∧ SmP q ∧ p ≤ p' ∧ p' ≤ p + 50) (by
  (repeat' first
  | (refine run_ite rfl (fun h => ?_) (fun h => ?_) <;> (try simp (disch := omega) only [zA, z13, z19, z20, z21, z22, z23, z24, z25, z31, eqDs, eqD, Nat.reduceAdd, wrap64] at h) <;> (try (exfalso; omega)))
  | (refine run_need rfl (by (try simp (disch := omega) only [zA, z13, z19, z20, z21, z22, z23, z24, z25, z31, eqDs, eqD, Nat.reduceAdd, wrap64]); first | exact elp_m (by omega) (by first | omega | (simp only [List.length_set]; omega)) (fun _ => rfl) | exact eld_m (by omega) (by first | omega | (simp only [List.length_set]; omega)) (fun _ => rfl) | exact els_m (by omega) (by omega) (by omega) rfl | exact lsl_m (by omega) (fun _ => rfl) | exact app_nil_m (by omega) (fun _ => rfl) (fun _ => rfl) | exact app_m_one (by omega) (fun _ => rfl) rfl rfl | exact app_m_m (by omega) (fun _ => rfl) (fun _ => rfl)) ?_)
  | (refine run_need rfl (by first | decide | omega | (simp only [List.length_map]; omega)) ?_)
  | (refine run_callx rfl (pick_ex b hb _ _ (by first | omega | (simp only [List.length_map]; omega)) (by first | omega | (simp only [List.length_map]; omega))) rfl (fun outs hG => ?_); obtain ⟨v, rfl, hv0, hv1⟩ := hG; (try simp only [List.length_map] at hv1); refine ⟨[i64 v], [eRd b _], rfl, rfl, rfl, ?_⟩)
  | (refine run_need rfl ?_ ?_)
  | (refine run_ret rfl ?_ ; first | refine rb ?_ | refine ri ?_ | refine rs2 ?_ ?_ | refine rs1 ?_)
  | (refine run_retx rfl ?_))
  rename_i w hw0 hw1
  refine run_callx rfl (pkg_ex b hb (p + 1 + 1) (1 + w) (1 + v) (by omega) (by omega)) (by simp (disch := omega) only [wrap64]) (fun outs hG => ?_)
  obtain ⟨q, p', rfl, hq1, hq2, hq3⟩ := hG
  refine ⟨[ePk q], [eRd b p'], rfl, rfl, rfl, ?_⟩
  obtain ⟨_, hf, hd, _⟩ := hq1
  (repeat' first
  | (refine run_ite rfl (fun h => ?_) (fun h => ?_) <;> (try simp (disch := omega) only [zA, z13, z19, z20, z21, z22, z23, z24, z25, z31, eqDs, eqD, Nat.reduceAdd, wrap64] at h) <;> (try (exfalso; omega)))
  | (refine run_need rfl (by (try simp (disch := omega) only [zA, z13, z19, z20, z21, z22, z23, z24, z25, z31, eqDs, eqD, Nat.reduceAdd, wrap64]); first | exact elp_m (by omega) (by first | omega | (simp only [List.length_set]; omega)) (fun _ => rfl) | exact eld_m (by omega) (by first | omega | (simp only [List.length_set]; omega)) (fun _ => rfl) | exact els_m (by omega) (by omega) (by omega) rfl | exact lsl_m (by omega) (fun _ => rfl) | exact app_nil_m (by omega) (fun _ => rfl) (fun _ => rfl) | exact app_m_one (by omega) (fun _ => rfl) rfl rfl | exact app_m_m (by omega) (fun _ => rfl) (fun _ => rfl)) ?_)
  | (refine run_need rfl (by first | decide | omega | (simp only [List.length_map]; omega)) ?_)
  | (refine run_callx rfl (pick_ex b hb _ _ (by first | omega | (simp only [List.length_map]; omega)) (by first | omega | (simp only [List.length_map]; omega))) rfl (fun outs hG => ?_); obtain ⟨v, rfl, hv0, hv1⟩ := hG; (try simp only [List.length_map] at hv1); refine ⟨[i64 v], [eRd b _], rfl, rfl, rfl, ?_⟩)
  | (refine run_need rfl (elp_m (enc := i64) (xs := [0, 5]) (by omega) (by simp; omega) (fun _ => rfl)) ?_)
  | (refine run_need rfl (eld_m (enc := i64) (xs := [0, 5]) (by omega) (by simp; omega) (fun _ => rfl)) ?_)
  | (refine run_need rfl (elp_m (enc := i64) (xs := [0, 6]) (by omega) (by simp; omega) (fun _ => rfl)) ?_)
  | (refine run_need rfl (eld_m (enc := i64) (xs := [0, 6]) (by omega) (by simp; omega) (fun _ => rfl)) ?_)
  | (refine run_need rfl ?_ ?_)
  | (refine run_ret rfl ?_ ; first | refine rb ?_ | refine ri ?_ | refine rs2 ?_ ?_ | refine rs1 ?_)
  | (refine run_retx rfl ?_))
  ·exact ⟨⟨cI [[D.int .i64 0], [D.int .i64 5]] v 0, q.ver, q.files, q.deps⟩, p' + 1 + 1, rfl, ⟨by dsimp only; unfold lim; omega, by dsimp only; unfold lim; omega⟩, by omega, by omega⟩
  ·exact ⟨⟨q.name, cI [[D.int .i64 0], [D.int .i64 6]] v 0, q.files, q.deps⟩, p' + 1 + 1, rfl, ⟨by dsimp only; unfold lim; omega, by dsimp only; unfold lim; omega⟩, by omega, by omega⟩
  ·rename_i x hx0 hx1
   exact ⟨⟨q.name, q.ver, q.files ++ [⟨x, v⟩], q.deps⟩, p' + 1 + 1 + 1, rs2 (by dsimp only [ePk]; rw [List.map_append]; rfl) rfl, ⟨by simp [lim]; omega, by dsimp only; unfold lim; omega⟩, by omega, by omega⟩
  ·rename_i x hx0 hx1
   exact ⟨⟨q.name, q.ver, q.files, q.deps ++ [⟨x, v⟩]⟩, p' + 1 + 1 + 1, rs2 (by dsimp only [ePk]; rw [List.map_append]; rfl) rfl, ⟨by dsimp only; unfold lim; omega, by simp [lim]; omega⟩, by omega, by omega⟩
  ·exact ⟨q, p' + 1, rfl, ⟨by unfold lim; omega, by unfold lim; omega⟩, by omega, by omega⟩)
 exact ⟨outs, h1, F_s_l71Any h2⟩

theorem els_g {α : Type} {enc : α → List D} {xs ys : List α} {i : Int} {z : α} {sz : Nat} (h0 : 0 ≤ i) (h1 : i < xs.length) (h2 : i < ys.length) (hz : ∀ x, (enc x).length = sz) : ElsOk (xs.map enc) (ys.map enc) i 0 (enc z) := by
 have a : i.toNat < xs.length := by omega
 have b : i.toNat < ys.length := by omega
 exact ⟨enc xs[i.toNat], enc ys[i.toNat], by simp [a], by simp [b], by rw [hz, hz], by simp [hz]⟩
theorem els_gv {α : Type} {enc : α → List D} {ys : List α} {i : Int} {z : α} {sz : Nat} (h0 : 0 ≤ i) (h2 : i < ys.length) (hz : ∀ x, (enc x).length = sz) : elsV (ys.map enc) i 0 (enc z) = (ys.set i.toNat z).map enc := by
 have b : i.toNat < ys.length := by omega
 simp only [elsV, List.getD_eq_getElem?_getD, List.getElem?_map, List.getElem?_eq_getElem b, Option.map_some, Option.getD_some]
 rw [List.map_set]
 congr 1
 simp [splice, hz]

theorem off_ex (b : List Int) (hb : Byt b) (p : Int) (hp : 0 ≤ p ∧ p < 700000000) : ∃ outs, (∃ ps p', outs = [ePks ps, eRd b p'] ∧ SmPs ps ∧ ps.length ≤ 8 ∧ p ≤ p' ∧ p' ≤ p + 400) ∧ FunOk PP W n_s_l71Off s_s_l71Off [eRd b p] outs := by
 obtain ⟨outs, h1, h2⟩ := run_funx (Φ := FunOk PP W) (p := p_s_l71Off) (ins := [eRd b p]) (G := fun outs => ∃ ps p', outs = [ePks ps, eRd b p'] ∧ SmPs ps ∧ ps.length ≤ 8 ∧ p ≤ p' ∧ p' ≤ p + 400) (by
  (repeat' first
  | (refine run_ite rfl (fun h => ?_) (fun h => ?_) <;> (try simp (disch := omega) only [zA, z13, z19, z20, z21, z22, z23, z24, z25, z31, eqDs, eqD, Nat.reduceAdd, wrap64] at h) <;> (try (exfalso; omega)))
  | (refine run_need rfl (by (try simp (disch := omega) only [zA, z13, z19, z20, z21, z22, z23, z24, z25, z31, eqDs, eqD, Nat.reduceAdd, wrap64]); first | exact elp_m (by omega) (by first | omega | (simp only [List.length_set]; omega)) (fun _ => rfl) | exact eld_m (by omega) (by first | omega | (simp only [List.length_set]; omega)) (fun _ => rfl) | exact els_m (by omega) (by omega) (by omega) rfl | exact lsl_m (by omega) (fun _ => rfl) | exact app_nil_m (by omega) (fun _ => rfl) (fun _ => rfl) | exact app_m_one (by omega) (fun _ => rfl) rfl rfl | exact app_m_m (by omega) (fun _ => rfl) (fun _ => rfl)) ?_)
  | (refine run_need rfl (by first | decide | omega | (simp only [List.length_map]; omega)) ?_)
  | (refine run_callx rfl (pick_ex b hb _ _ (by first | omega | (simp only [List.length_map]; omega)) (by first | omega | (simp only [List.length_map]; omega))) rfl (fun outs hG => ?_); obtain ⟨v, rfl, hv0, hv1⟩ := hG; (try simp only [List.length_map] at hv1); refine ⟨[i64 v], [eRd b _], rfl, rfl, rfl, ?_⟩)
  | (refine run_callx rfl (pkgs_ex b hb p (by omega)) rfl (fun outs hG => ?_); obtain ⟨ps, p', rfl, hq1, hq2, hq3, hq4⟩ := hG; refine ⟨[ePks ps], [eRd b p'], rfl, rfl, rfl, ?_⟩)
  | (refine run_callx rfl (any_ex b hb _ (by omega)) rfl (fun outs hG => ?_); obtain ⟨q, p', rfl, hr1, hr2, hr3⟩ := hG; refine ⟨[ePk q], [eRd b p'], rfl, rfl, rfl, ?_⟩)
  | (refine run_need rfl (els_g (enc := ePk) (sz := 4) (xs := ps) (ys := ps) (z := q) (by omega) (by omega) (by omega) (fun _ => rfl)) ?_)
  | (refine run_need rfl ?_ ?_)
  | (refine run_ret rfl ?_ ; first | refine rb ?_ | refine ri ?_ | refine rs2 ?_ ?_ | refine rs1 ?_)
  | (refine run_retx rfl ?_))
  ·refine ⟨ps ++ [q], p', rs2 (sl_eq (by rw [List.map_append]; rfl)) rfl, ⟨by simp [lim]; omega, fun x hx => ?_⟩, by simp; omega, by omega, by omega⟩
   rcases List.mem_append.1 hx with h' | h'
   ·exact drPk_sm (hq1 x h')
   ·rw [List.mem_singleton.1 h']; exact hr1
  ·refine ⟨ps.set v.toNat q, p', rs2 (sl_eq (els_gv (enc := ePk) (sz := 4) (ys := ps) (z := q) (i := v) (by omega) (by omega) (fun _ => rfl))) rfl, ⟨by simp [lim]; omega, fun x hx => ?_⟩, by simp; omega, by omega, by omega⟩
   rcases List.mem_or_eq_of_mem_set hx with h' | h'
   ·exact drPk_sm (hq1 x h')
   ·rw [h']; exact hr1
  ·exact ⟨ps, p' + 1, rfl, drPks_sm hq1 (by omega), by omega, by omega, by omega⟩
  ·exact ⟨ps, p' + 1, rfl, drPks_sm hq1 (by omega), by omega, by omega, by omega⟩)
 exact ⟨outs, h1, F_s_l71Off h2⟩
end V
end Go.Proofs.YtnaldhcdcpdbnaaDoor

/-
Plain proofs: what the laws measure, compare, mark and find marked: lists of numbers, files, packages.
-/
namespace Go.Proofs.YtnaldhcdcpdbnaaDoor
namespace V
open Classical
set_option maxRecDepth 100000
variable {W : Wld}

/-! Sums. -/
/-! How much comes in. -/
def mx : Int := 9223372036854775807
noncomputable def less (left n : Int) : Int := if left < n then -1 else left - n
end V
end Go.Proofs.YtnaldhcdcpdbnaaDoor

/-
Plain proofs: keys and roots; a world in which one root was published.
-/
namespace Go.Proofs.YtnaldhcdcpdbnaaDoor
namespace V
open Classical
set_option maxRecDepth 100000
variable {W : Wld}

/-! Keys. -/
def KeyAt (l : List Int) (i : Int) : Prop := (1 ≤ ix l i ∧ ix l i ≤ 6) ∧ (0 < i → ix l (i - 1) < ix l i)
def KeysM (l : List Int) : Prop := Blw l.length (KeyAt l)
theorem sKeysOk_ok (l : List Int) (hl : l.length ≤ lim) : FunOk PP W n_s_KeysOk s_s_KeysOk [eIs l] [bo (decide (KeysM l))] := by
 refine F_s_KeysOk (run_fun ?_)
 unfold lim at hl
 (repeat' first
  | (refine run_ite rfl (fun h => ?_) (fun h => ?_) <;> (try simp (disch := omega) only [zA, z13, z19, z20, z21, z22, z23, z24, z25, z31, eqDs, eqD, Nat.reduceAdd, wrap64] at h) <;> (try (exfalso; omega)))
  | (refine run_need rfl (by (try simp (disch := omega) only [zA, z13, z19, z20, z21, z22, z23, z24, z25, z31, eqDs, eqD, Nat.reduceAdd, wrap64]); first | exact elp_m (by omega) (by first | omega | (simp only [List.length_set]; omega)) (fun _ => rfl) | exact eld_m (by omega) (by first | omega | (simp only [List.length_set]; omega)) (fun _ => rfl) | exact els_m (by omega) (by omega) (by omega) rfl | exact lsl_m (by omega) (fun _ => rfl) | exact app_nil_m (by omega) (fun _ => rfl) (fun _ => rfl) | exact app_m_one (by omega) (fun _ => rfl) rfl rfl | exact app_m_m (by omega) (fun _ => rfl) (fun _ => rfl)) ?_)
  | (refine run_need rfl (by first | decide | omega | (simp only [List.length_map]; omega)) ?_)
  | (refine run_need rfl ?_ ?_)
  | (refine run_ret rfl ?_ ; first | refine rb ?_ | refine ri ?_ | refine rs2 ?_ ?_ | refine rs1 ?_)
  | (refine run_retx rfl ?_))
 refine run_loop rfl (fun i : Int => 0 ≤ i ∧ i ≤ l.length ∧ Blw i (KeyAt l)) (fun i => [(3, .val (i64 i)), (0, .val (eIs l))]) (fun i => (l.length - i).toNat) 0 ⟨by omega, by omega, blw_zero _⟩ ⟨rfl, rfl, trivial⟩ rfl ?_
 rintro i e ⟨h0, hN, hP⟩
 (repeat' first
  | (refine run_ite rfl (fun h => ?_) (fun h => ?_) <;> (try simp (disch := omega) only [zA, z13, z19, z20, z21, z22, z23, z24, z25, z31, eqDs, eqD, Nat.reduceAdd, wrap64] at h) <;> (try (exfalso; omega)))
  | (refine run_need rfl (by (try simp (disch := omega) only [zA, z13, z19, z20, z21, z22, z23, z24, z25, z31, eqDs, eqD, Nat.reduceAdd, wrap64]); first | exact elp_m (by omega) (by first | omega | (simp only [List.length_set]; omega)) (fun _ => rfl) | exact eld_m (by omega) (by first | omega | (simp only [List.length_set]; omega)) (fun _ => rfl) | exact els_m (by omega) (by omega) (by omega) rfl | exact lsl_m (by omega) (fun _ => rfl) | exact app_nil_m (by omega) (fun _ => rfl) (fun _ => rfl) | exact app_m_one (by omega) (fun _ => rfl) rfl rfl | exact app_m_m (by omega) (fun _ => rfl) (fun _ => rfl)) ?_)
  | (refine run_need rfl (by first | decide | omega | (simp only [List.length_map]; omega)) ?_)
  | (refine run_call1 rfl (l6In_ok ..) rfl ?_)
  | (refine run_next rfl (Exists.intro (i + 1) ⟨by omega, ⟨by omega, by omega, blw_succ hP (by unfold KeyAt; omega)⟩, i64_eq (wrap64 _ (by omega)), rfl, trivial⟩))
  | (refine run_need rfl ?_ ?_)
  | (refine run_ret rfl ?_ ; first | refine rb ?_ | refine ri ?_ | refine rs2 ?_ ?_ | refine rs1 ?_)
  | (refine run_retx rfl ?_))
 all_goals first
  | exact tD (blw_to hP (by omega))
  | exact fD (fun h' => by have := h' i (by omega) (by omega); unfold KeyAt at this; omega)
theorem iKeysOk_ok (l : List Int) (hl : l.length ≤ lim) : FunOk PP W n_i_KeysOk s_i_KeysOk [eIs l] [bo (decide (KeysM l))] := by
 refine F_i_KeysOk (run_fun ?_)
 unfold lim at hl
 (repeat' first
  | (refine run_ite rfl (fun h => ?_) (fun h => ?_) <;> (try simp (disch := omega) only [zA, z13, z19, z20, z21, z22, z23, z24, z25, z31, eqDs, eqD, Nat.reduceAdd, wrap64] at h) <;> (try (exfalso; omega)))
  | (refine run_need rfl (by (try simp (disch := omega) only [zA, z13, z19, z20, z21, z22, z23, z24, z25, z31, eqDs, eqD, Nat.reduceAdd, wrap64]); first | exact elp_m (by omega) (by first | omega | (simp only [List.length_set]; omega)) (fun _ => rfl) | exact eld_m (by omega) (by first | omega | (simp only [List.length_set]; omega)) (fun _ => rfl) | exact els_m (by omega) (by omega) (by omega) rfl | exact lsl_m (by omega) (fun _ => rfl) | exact app_nil_m (by omega) (fun _ => rfl) (fun _ => rfl) | exact app_m_one (by omega) (fun _ => rfl) rfl rfl | exact app_m_m (by omega) (fun _ => rfl) (fun _ => rfl)) ?_)
  | (refine run_need rfl (by first | decide | omega | (simp only [List.length_map]; omega)) ?_)
  | (refine run_need rfl ?_ ?_)
  | (refine run_ret rfl ?_ ; first | refine rb ?_ | refine ri ?_ | refine rs2 ?_ ?_ | refine rs1 ?_)
  | (refine run_retx rfl ?_))
 refine run_loop rfl (fun i : Int => 0 ≤ i ∧ i ≤ l.length ∧ Blw i (KeyAt l)) (fun i => [(7, .val (i64 i)), (5, .val (eIs l)), (6, .val (i64 (l.map i64).length)), (0, .val (eIs l))]) (fun i => (l.length - i).toNat) 0 ⟨by omega, by omega, blw_zero _⟩ ⟨rfl, rfl, rfl, rfl, trivial⟩ rfl ?_
 rintro i e ⟨h0, hN, hP⟩
 (repeat' first
  | (refine run_ite rfl (fun h => ?_) (fun h => ?_) <;> (try simp (disch := omega) only [zA, z13, z19, z20, z21, z22, z23, z24, z25, z31, eqDs, eqD, Nat.reduceAdd, wrap64] at h) <;> (try (exfalso; omega)))
  | (refine run_need rfl (by (try simp (disch := omega) only [zA, z13, z19, z20, z21, z22, z23, z24, z25, z31, eqDs, eqD, Nat.reduceAdd, wrap64]); first | exact elp_m (by omega) (by first | omega | (simp only [List.length_set]; omega)) (fun _ => rfl) | exact eld_m (by omega) (by first | omega | (simp only [List.length_set]; omega)) (fun _ => rfl) | exact els_m (by omega) (by omega) (by omega) rfl | exact lsl_m (by omega) (fun _ => rfl) | exact app_nil_m (by omega) (fun _ => rfl) (fun _ => rfl) | exact app_m_one (by omega) (fun _ => rfl) rfl rfl | exact app_m_m (by omega) (fun _ => rfl) (fun _ => rfl)) ?_)
  | (refine run_need rfl (by first | decide | omega | (simp only [List.length_map]; omega)) ?_)
  | (refine run_call1 rfl (in_ok ..) rfl ?_)
  | (refine run_next rfl (Exists.intro (i + 1) ⟨by omega, ⟨by omega, by omega, blw_succ hP (by unfold KeyAt; omega)⟩, i64_eq (wrap64 _ (by omega)), rfl, rfl, rfl, trivial⟩))
  | (refine run_need rfl ?_ ?_)
  | (refine run_ret rfl ?_ ; first | refine rb ?_ | refine ri ?_ | refine rs2 ?_ ?_ | refine rs1 ?_)
  | (refine run_retx rfl ?_))
 all_goals first
  | exact tD (blw_to hP (by omega))
  | exact fD (fun h' => by have := h' i (by omega) (by omega); unfold KeyAt at this; omega)

/-! How many keys are among both. -/
/-! Roots. -/
structure Rt where
 num : Int
 keys : List Int
 need : Int
deriving DecidableEq, Inhabited
abbrev eRt (r : Rt) : List D := [.int .i64 r.num, .sl (r.keys.map i64), .int .i64 r.need]
def RootM (r : Rt) : Prop := (1 ≤ r.num ∧ r.num ≤ 9) ∧ KeysM r.keys ∧ (1 ≤ r.need ∧ r.need ≤ r.keys.length)
theorem sRootOk_ok (r : Rt) (hl : r.keys.length ≤ lim) : FunOk PP W n_s_RootOk s_s_RootOk [eRt r] [bo (decide (RootM r))] := by
 refine F_s_RootOk (run_fun ?_)
 (repeat' first
  | (refine run_ite rfl (fun h => ?_) (fun h => ?_) <;> (try simp (disch := omega) only [zA, z13, z19, z20, z21, z22, z23, z24, z25, z31, eqDs, eqD, Nat.reduceAdd, wrap64] at h) <;> (try (exfalso; omega)))
  | (refine run_need rfl (by (try simp (disch := omega) only [zA, z13, z19, z20, z21, z22, z23, z24, z25, z31, eqDs, eqD, Nat.reduceAdd, wrap64]); first | exact elp_m (by omega) (by first | omega | (simp only [List.length_set]; omega)) (fun _ => rfl) | exact eld_m (by omega) (by first | omega | (simp only [List.length_set]; omega)) (fun _ => rfl) | exact els_m (by omega) (by omega) (by omega) rfl | exact lsl_m (by omega) (fun _ => rfl) | exact app_nil_m (by omega) (fun _ => rfl) (fun _ => rfl) | exact app_m_one (by omega) (fun _ => rfl) rfl rfl | exact app_m_m (by omega) (fun _ => rfl) (fun _ => rfl)) ?_)
  | (refine run_need rfl (by first | decide | omega | (simp only [List.length_map]; omega)) ?_)
  | (refine run_call1 rfl (sKeysOk_ok r.keys hl) rfl ?_)
  | (refine run_call1 rfl (l6In_ok ..) rfl ?_)
  | (refine run_need rfl ?_ ?_)
  | (refine run_ret rfl ?_ ; first | refine rb ?_ | refine ri ?_ | refine rs2 ?_ ?_ | refine rs1 ?_)
  | (refine run_retx rfl ?_))
 all_goals
  refine dI ?_
  unfold RootM
  try simp only [List.length_map, decide_eq_true_eq]
  grind
theorem iRootOk_ok (r : Rt) (hl : r.keys.length ≤ lim) : FunOk PP W n_i_RootOk s_i_RootOk [eRt r] [bo (decide (RootM r))] := by
 refine F_i_RootOk (run_fun ?_)
 (repeat' first
  | (refine run_ite rfl (fun h => ?_) (fun h => ?_) <;> (try simp (disch := omega) only [zA, z13, z19, z20, z21, z22, z23, z24, z25, z31, eqDs, eqD, Nat.reduceAdd, wrap64] at h) <;> (try (exfalso; omega)))
  | (refine run_need rfl (by (try simp (disch := omega) only [zA, z13, z19, z20, z21, z22, z23, z24, z25, z31, eqDs, eqD, Nat.reduceAdd, wrap64]); first | exact elp_m (by omega) (by first | omega | (simp only [List.length_set]; omega)) (fun _ => rfl) | exact eld_m (by omega) (by first | omega | (simp only [List.length_set]; omega)) (fun _ => rfl) | exact els_m (by omega) (by omega) (by omega) rfl | exact lsl_m (by omega) (fun _ => rfl) | exact app_nil_m (by omega) (fun _ => rfl) (fun _ => rfl) | exact app_m_one (by omega) (fun _ => rfl) rfl rfl | exact app_m_m (by omega) (fun _ => rfl) (fun _ => rfl)) ?_)
  | (refine run_need rfl (by first | decide | omega | (simp only [List.length_map]; omega)) ?_)
  | (refine run_call1 rfl (iKeysOk_ok r.keys hl) rfl ?_)
  | (refine run_call1 rfl (in_ok ..) rfl ?_)
  | (refine run_need rfl ?_ ?_)
  | (refine run_ret rfl ?_ ; first | refine rb ?_ | refine ri ?_ | refine rs2 ?_ ?_ | refine rs1 ?_)
  | (refine run_retx rfl ?_))
 all_goals
  refine dI ?_
  unfold RootM
  try simp only [List.length_map, decide_eq_true_eq]
  grind
/-! A new world. -/
structure Wn where
 roots : List SR
 bad : List Int
 tr : Rt
 dk : Dk
deriving DecidableEq, Inhabited
end V
end Go.Proofs.YtnaldhcdcpdbnaaDoor

/-
Texts of packages, their sums, and what an index tells, in plain terms.
-/
namespace Go.Proofs.YtnaldhcdcpdbnaaDoor
namespace V
open Classical
set_option maxRecDepth 100000

def bA (l : List UInt8) : ByteArray := ⟨l.toArray⟩
theorem bA_app (a b : List UInt8) : bA a ++ bA b = bA (a ++ b) := by
 apply ByteArray.ext
 simp [bA, ByteArray.data_append]
theorem bA_size (a : List UInt8) : (bA a).size = a.length := by simp [bA, ByteArray.size]
abbrev sT (l : List UInt8) : List D := [.str (bA l)]
def u8 (n : Int) : UInt8 := UInt8.ofNat n.toNat
def nmT (n v : Int) : List UInt8 := [u8 (97 + n - 1), u8 (48 + v)]
def fT (f : P2) : List UInt8 := [32, u8 (48 + f.a), 58, u8 (48 + f.b)]
def dT (d : P2) : List UInt8 := 32 :: nmT d.a d.b
noncomputable def textM (p : Pk) : List UInt8 := if PkOk p then nmT p.name p.ver ++ p.files.flatMap fT ++ p.deps.flatMap dT else []
theorem textM_len (p : Pk) : (textM p).length ≤ 30 := by
 unfold textM
 split
 ·rename_i h
  have h1 : (p.files.length : Int) ≤ 2 := h.2.2.1.2
  have h2 : (p.deps.length : Int) ≤ 2 := h.2.2.2.2
  have e1 : (p.files.flatMap fT).length = 4 * p.files.length := by
   rw [List.length_flatMap]
   induction p.files with
   | nil => rfl
   | cons a r ih => simp [fT, ih] at *; omega
  have e2 : (p.deps.flatMap dT).length = 3 * p.deps.length := by
   rw [List.length_flatMap]
   induction p.deps with
   | nil => rfl
   | cons a r ih => simp [dT, nmT, ih] at *; omega
  simp only [List.length_append, e1, e2]
  simp [nmT]
  omega
 ·simp
def sumS (n : Int) (b : UInt8) : Int := (31 * n + b.toNat + 1).tmod 9973
def sumM (l : List UInt8) : Int := l.foldl sumS 7
theorem sumS_range {n : Int} (b : UInt8) (h : 0 ≤ n) : 0 ≤ sumS n b ∧ sumS n b < 9973 := by
 unfold sumS
 rw [Int.tmod_eq_emod_of_nonneg (by omega)]
 omega
theorem sumM_from : ∀ (l : List UInt8) (n : Int), 0 ≤ n → n < 9973 → 0 ≤ l.foldl sumS n ∧ l.foldl sumS n < 9973
 | [], n, h, h' => ⟨h, h'⟩
 | b :: r, n, h, _ => sumM_from r _ (sumS_range b h).1 (sumS_range b h).2
theorem sumM_range (l : List UInt8) : 0 ≤ sumM l ∧ sumM l < 9973 := sumM_from l 7 (by omega) (by omega)
noncomputable def mtOf (p : Pk) : Mt := ⟨p.name, p.ver, sumM (textM p)⟩

structure Ix where
 num : Int
 till : Int
 ms : List Mt
deriving DecidableEq, Inhabited
abbrev eIx (x : Ix) : List D := [.int .i64 x.num, .int .i64 x.till, .sl (x.ms.map eMt)]
def ixZ : Ix := ⟨0, 0, []⟩
structure Tu where
 r : Rt
 has : Bool
 x : Ix
deriving DecidableEq, Inhabited
abbrev eTu (t : Tu) : List D := [.int .i64 t.r.num, .sl (t.r.keys.map i64), .int .i64 t.r.need, .bool t.has, .int .i64 t.x.num, .int .i64 t.x.till, .sl (t.x.ms.map eMt)]
def MtAt (l : List Mt) (i : Int) : Prop := (1 ≤ (ix l i).name ∧ (ix l i).name ≤ 4) ∧ (1 ≤ (ix l i).ver ∧ (ix l i).ver ≤ 5) ∧ (0 ≤ (ix l i).sum ∧ (ix l i).sum ≤ 9972) ∧
 (0 < i → (ix l (i - 1)).name < (ix l i).name ∨ ((ix l (i - 1)).name = (ix l i).name ∧ (ix l (i - 1)).ver < (ix l i).ver))
def IxM (x : Ix) : Prop := (1 ≤ x.num ∧ x.num ≤ 30) ∧ (0 ≤ x.till ∧ x.till ≤ 60) ∧ (x.ms.length : Int) ≤ 8 ∧ Blw x.ms.length (MtAt x.ms)
def TuM (t : Tu) : Prop := RootM t.r ∧ if t.has = true then IxM t.x else (t.x.num = 0 ∧ t.x.till = 0 ∧ t.x.ms = [])
def SmTu (t : Tu) : Prop := t.r.keys.length ≤ 1000 ∧ t.x.ms.length ≤ 1000
end V
end Go.Proofs.YtnaldhcdcpdbnaaDoor

/-
What strings.Builder's writing does at this seat (after the kit's own walks, Derived/Shelf/Strings/Builder1.lean and BuilderK.lean: the loader's refused row in copyCheck makes the body another one than the shelf's).
-/
namespace Go.Proofs.YtnaldhcdcpdbnaaDoor
open Go.Shelf Go.RowKit
set_option maxRecDepth 100000
set_option maxHeartbeats 2000000

theorem copyCheck_used (b : Nat) (w : World) (h0 : w.cell? ⟨b, 0, none⟩ = some (.pointer (some ⟨b, 0, none⟩))) :
  Calls Tryd.prog 69 #[.pointer (some ⟨b, 0, none⟩)] w fun e w' => e = .returned (.tuple #[]) ∧ w' = w := by
 have hs : (Tryd.prog.info? 89).map (·.size) = some 2 := Tryd.Builder_Extra_169.sizeBuilder
 obtain ⟨j, hj, _⟩ := Option.map_eq_some_iff.1 hs
 have mixed : Tryd.prog.follows .mixedOrders = true := V.mixed
 go_enter Tryd.func69, Tryd.ntmps69
 go_wp2
 rw [Lib.run_neq_ptr_same w _ Tryd.underlying87 hj]
 go_wp2
 go_end0
 exact ⟨rfl, rfl⟩

theorem copyCheck_fresh (b : Nat) (w : World) (h0 : w.cell? ⟨b, 0, none⟩ = some (.pointer none)) (hsh : w.shape? b = some (89, 2)) (hfz : w.frozen? ⟨b, 0, none⟩ = false) :
  Calls Tryd.prog 69 #[.pointer (some ⟨b, 0, none⟩)] w fun e w' => e = .returned (.tuple #[]) ∧ w' = w.setCell ⟨b, 0, none⟩ (.pointer (some ⟨b, 0, none⟩)) := by
 have hs : (Tryd.prog.info? 89).map (·.size) = some 2 := Tryd.Builder_Extra_169.sizeBuilder
 obtain ⟨j, hj, hjs⟩ := Option.map_eq_some_iff.1 hs
 have hlies : liesAt Tryd.prog Tryd.prog.depth 89 (2 / Tryd.prog.cellsOf 89) 0 89 1 = true := Tryd.Builder_Extra_169.liesBuilder
 have mixed : Tryd.prog.follows .mixedOrders = true := V.mixed
 go_enter Tryd.func69, Tryd.ntmps69
 go_wp2
 rw [Lib.run_to_unsafe w ⟨b, 0, none⟩ Tryd.underlying87 Tryd.underlying100 hj (by rw [hjs]; decide) hsh (Nat.zero_lt_succ 1)]
 simp only [Result.andThen]
 rw [Oper.upon_value]
 go_wp2
 rw [run_callFunc_extern Tryd.func71 (by kernel_rfl) (by kernel_rfl) (by kernel_rfl) (e := Extern.AbiNoEscape.same) (by kernel_rfl)]
 rw [Lib.run_noEscape]
 simp only [Result.andThen]
 rw [Oper.upon_value]
 go_wp2
 rw [Lib.run_from_unsafe w ⟨b, 0, none⟩ Tryd.underlying100 Tryd.underlying87 hj hsh hlies]
 simp only [Result.andThen]
 rw [Oper.upon_value]
 go_wp2
 go_end0
 exact ⟨rfl, rfl⟩

theorem copyCheck_k (B b : Nat) (bs : List Value) (w : World) (h : Lib.IsBuilderF 89 5 B b bs w) :
  Calls Tryd.prog 69 #[.pointer (some ⟨b, 0, none⟩)] w fun e w' => e = .returned (.tuple #[]) ∧ (Lib.BuilderAtF 89 5 B b (.pointer (some ⟨b, 0, none⟩)) bs w' ∧ Below B w w' ∧ Lib.OthersKept 5 (some b) w w') := by
 rcases h with h | h
 ·refine (copyCheck_fresh b w h.cell0 h.shape h.frozen0).mono ?_
  rintro e w' ⟨rfl, rfl⟩
  exact ⟨rfl, h.used _, (Below.refl B w).setCell (p := ⟨b, 0, none⟩) h.1 _, (Lib.OthersKept.refl _ _ w).setCell ⟨b, 0, none⟩ rfl _⟩
 ·refine (copyCheck_used b w h.cell0).mono ?_
  rintro e w' ⟨rfl, rfl⟩
  exact ⟨rfl, h, Below.refl B _, Lib.OthersKept.refl _ _ _⟩

theorem WriteString_k (B b : Nat) (bs : List Value) (s : ByteArray) (w : World) (h : Lib.IsBuilderF 89 5 B b bs w) (hlen : bs.length + s.size ≤ 140737488355328) (hBw : B ≤ w.heap.size) :
  Calls Tryd.prog 60 #[.pointer (some ⟨b, 0, none⟩), .string s] w fun e w' => e = .returned (.tuple #[.int .i64 s.size, .nilIface]) ∧ (Lib.BuilderAtF 89 5 B b (.pointer (some ⟨b, 0, none⟩)) (bs ++ Lib.strCells s) w' ∧ Below B w w' ∧ Lib.OthersKept 5 (some b) w w') := by
 have hib : (Tryd.prog.info? 5).map (fun i => (i.zero, i.size, i.bytes)) = some (some (.int .u8 0), 1, 1) := Tryd.Builder_Extra_169.infoByte
 obtain ⟨i0, hi, hz0, hz1, hz2⟩ := info_parts hib
 have mixed : Tryd.prog.follows .mixedOrders = true := V.mixed
 go_enter Tryd.func60, Tryd.ntmps60
 go_wp2_with (go_at_call 69; refine (copyCheck_k B b bs _ h).mono ?_)
 rintro e w1 ⟨rfl, h1, hb1, hk1⟩
 obtain ⟨hB, v, hbk, hown, hne⟩ := h1
 have c0 : w1.cell? ⟨b, 0, none⟩ = some (.pointer (some ⟨b, 0, none⟩)) := by rw [Lib.cell_of_heap hbk]; rfl
 have c1 : w1.cell? ⟨b, 1, none⟩ = some v := by rw [Lib.cell_of_heap hbk]; rfl
 go_wp2_with (at_builtin; refine Lib.wpList_append_own_stringF _ rfl _ _ 22 9 rfl B 5 i0 Tryd.underlying22 Tryd.underlying9 hi hz0 hz1 hz2 _ _ _ rfl hown s rfl ?c3 ?c4 ?c5 ?_)
 case c3 => unfold maxLen; omega
 case c4 => omega
 case c5 => have := hb1.size; omega
 intro v' w2 hown' hgrow _
 have hlt : b < w1.heap.size := by
  rcases Nat.lt_or_ge b w1.heap.size with h' | h'
  ·exact h'
  ·simp [Array.getElem?_eq_none h'] at hbk
 have hb2 : w2.heap[b]? = some (.cells #[.pointer (some ⟨b, 0, none⟩), v] 89 (0, 0)) := by
  rw [hgrow.block b hlt (fun e => hne e.symm)]
  exact hbk
 have d0 : w2.cell? ⟨b, 0, none⟩ = some (.pointer (some ⟨b, 0, none⟩)) := by rw [Lib.cell_of_heap hb2]; rfl
 have d1 : w2.cell? ⟨b, 1, none⟩ = some v := by rw [Lib.cell_of_heap hb2]; rfl
 have f1 : w2.frozen? ⟨b, 1, none⟩ = false := Lib.frozen_of_heap hb2 1
 obtain ⟨ao, n', cap, rfl⟩ : ∃ ao n' cap, v' = .slice ao n' cap := by
  rcases hown'.2 with ⟨hv, _⟩ | ⟨g, cap, cur, fz, hv, _⟩
  ·exact ⟨_, _, _, hv⟩
  ·exact ⟨_, _, _, hv⟩
 go_wp2
 go_ret2
 refine ⟨rfl, ?_, ?_, (hk1.grown hgrow (Lib.ownsRowF_kind hown)).setCell ⟨b, 1, none⟩ rfl _⟩
 ·exact Lib.BuilderAtF.put (T := 89) (e := 5) hB hb2 (bs' := bs ++ Lib.strCells s) (by simpa [Lib.strCells_length] using hown') Tryd.Builder_Extra_169.neB5
 ·exact (hb1.grown hgrow (by have := hb1.size; omega) (fun k hk => (hown.lt k hk).1)).setCell (p := ⟨b, 1, none⟩) hB _
end Go.Proofs.YtnaldhcdcpdbnaaDoor

/-
What the program's named does.
-/
namespace Go.Proofs.YtnaldhcdcpdbnaaDoor
open Go.Shelf Go.RowKit
set_option maxRecDepth 100000
set_option maxHeartbeats 2000000

theorem enc1 (n : Int) (hn : 1 ≤ n ∧ n ≤ 4) : Utf8.encode (97 + n - 1) = V.bA [V.u8 (97 + n - 1)] := by
 have : n = 1 ∨ n = 2 ∨ n = 3 ∨ n = 4 := by omega
 rcases this with rfl | rfl | rfl | rfl <;> rfl
theorem dig1 (i : Nat) (h : i ≤ 9) : Lib.decDigits i = [V.u8 (48 + (i : Int))] := by
 rw [Lib.decDigits_one (by omega)]
 unfold V.u8
 rw [show (48 + (i : Int)).toNat = 48 + i by omega]
theorem named_walk (n v : Int) (hn : 1 ≤ n ∧ n ≤ 4) (hv : 1 ≤ v ∧ v ≤ 5) (w : World) :
  Calls Tryd.prog 61 #[.int .i64 n, .int .i64 v] w fun e w' => e = .returned (.string (V.bA (V.nmT n v))) ∧ w' = w := by
 have mixed : Tryd.prog.follows .mixedOrders = true := V.mixed
 obtain ⟨i, rfl⟩ : ∃ i : Nat, v = i := ⟨v.toNat, by omega⟩
 have he := enc1 n hn
 have hd := dig1 i (by omega)
 have hs : ¬9223372036854775807 < (Utf8.encode (97 + n - 1)).size + (Lib.decDigits i).length := by rw [he, hd, V.bA_size]; simp
 go_enter Tryd.func61, Tryd.ntmps61
 go_wp2_with (go_at_call 62; refine (Tryd.strconv_Itoa_small i (by omega) _).mono ?_; rintro e w' ⟨rfl, rfl⟩)
 go_ret
 refine ⟨?_, rfl⟩
 show Ending.returned (Value.string (V.bA [V.u8 (97 + n - 1)] ++ V.bA [V.u8 (48 + (i : Int))])) = _
 rw [V.bA_app]
 rfl
namespace V
open Classical
def InW (w : World) (g _o : Nat) : Prop := g < w.heap.size
def ow0 : Own := fun _ => none
def cxW (w : World) : Cx := ⟨InW w, InW w, fun g => w.heap.size ≤ g⟩
theorem wok_refl (w : World) : WOk w ow0 (cxW w) ow0 w where
 kept := Kept.refl _ _
 dom := fun g i h => by cases h
 n := fun g => by
  show w.heap.size ≤ g ↔ _
  exact ⟨fun h => .inl h, fun h => h.elim id (fun h' => absurd rfl h')⟩
 s1 := fun g o h => h
 s2 := fun g o h => ⟨h, not_claimed_of_none rfl⟩
 cl := fun g o _ h => h
 inj := fun g g' i j h => by cases h
theorem bs_inW {w : World} {cx : Cx} {own : Own} {d : D} {v : Value} (h : Rep w (BS cx own) d v) : Rep w (InW w) d v :=
 h.in_ (fun _ _ _ _ h => h) (fun g cur T h => ⟨cur, h, rfl⟩) (fun g o u _ h => cell_lt h)
theorem inW_bs {w : World} {d : D} {v : Value} (h : Rep w (InW w) d v) : Rep w (BS (cxW w) ow0) d v :=
 h.mono (fun _ _ _ => rfl) (fun g cur T h => ⟨cur, h, rfl⟩) (fun g o h => ⟨not_claimed_of_none rfl, .inl h⟩)
theorem Kept.below {w w' : World} (h : Kept ow0 w w') : Below w.heap.size w w' := ⟨h.os, h.tape, h.output, h.size, fun k hk => h.block k hk rfl⟩
theorem inW_below {w w' : World} {B : Nat} {d : D} {v : Value} (h : Rep w (InW w) d v) (hb : Below B w w') (hB : w.heap.size ≤ B) : Rep w' (InW w) d v :=
 h.mono (fun g o hg => by
  have hg : g < w.heap.size := hg
  simp only [World.cell?, hb.block g (by omega)]) (fun g cur T h => by
   have := heap_lt h
   exact ⟨cur, by rw [hb.block g (by omega)]; exact h, rfl⟩) (fun _ _ h => h)
theorem rep_row {w : World} {xs : List P2} {v : Value} (h : Rep w (InW w) (.sl (xs.map eP2)) v) : ∃ A cap, v = .slice A xs.length cap ∧ xs.length ≤ cap + xs.length ∧
  ∀ i : Nat, i < xs.length → ∃ g off, A = some ⟨g, off, none⟩ ∧ xs.length ≤ cap ∧ g < w.heap.size ∧ w.cell? ⟨g, off + i * 2, none⟩ = some (.int .i64 (ix xs i).a) ∧ w.cell? ⟨g, off + i * 2 + 1, none⟩ = some (.int .i64 (ix xs i).b) := by
 generalize hd : D.sl (xs.map eP2) = d at h
 cases h with
 | scal h => subst hd; cases h
 | nil A cap =>
  have : xs = [] := by simpa using hd
  subst this
  exact ⟨A, cap, rfl, by simp, fun i hi => absurd hi (by simp)⟩
 | sl ys g off sz cap vs q1 q2 q3 q4 q5 =>
  have hy : xs.map eP2 = ys := by simpa using hd
  subst hy
  refine ⟨some ⟨g, off, none⟩, cap, by simp, by omega, fun i hi => ?_⟩
  have hx : (xs.map eP2)[i]? = some (eP2 (ix xs i)) := by simp [ix, hi]
  have h2 : sz = 2 := (q2 _ (List.mem_of_getElem? hx)).symm
  subst h2
  have c0 := q3 i _ 0 _ hx rfl
  have c1 := q3 i _ 1 _ hx rfl
  have r0 := q5 i _ 0 _ hx rfl
  have r1 := q5 i _ 1 _ hx rfl
  have s0 := q4 i _ 0 _ hx rfl
  have key : ∀ (n : Int) (u : Value), Rep w (InW w) (.int .i64 n) u → u = .int .i64 n := fun n u h => by
   cases h with
   | scal h => cases h; rfl
  have e0 := key _ _ r0
  have e1 := key _ _ r1
  rw [e0] at c0
  rw [e1] at c1
  exact ⟨g, off, rfl, by simpa using q1, s0, c0, c1⟩
 | fn => cases hd
theorem pkgOk_call (p : Pk) (hs : SmP p) (v1 v2 : Value) (w : World) (h1 : Rep w (InW w) (.sl (p.files.map eP2)) v1) (h2 : Rep w (InW w) (.sl (p.deps.map eP2)) v2) :
  Calls Tryd.prog 34 #[.agg #[.int .i64 p.name, .int .i64 p.ver, v1, v2]] w fun e w' => e = .returned (.bool (decide (PkOk p))) ∧ Below w.heap.size w w' := by
 obtain ⟨_, hf⟩ := iPkgOk_ok (W := topWld) p hs
 have s1 : ∀ {d : D} {v : Value}, Rep w (InW w) d v → (∃ xs, d = .sl xs) → Cell1 v := fun h hd => by
  obtain ⟨xs, rfl⟩ := hd
  cases h with
  | scal h => cases h
  | nil A cap => exact ⟨fun c h => (by cases h), fun c h => (by cases h)⟩
  | sl => exact ⟨fun c h => (by cases h), fun c h => (by cases h)⟩
 refine (hf w ow0 (cxW w) [.agg #[.int .i64 p.name, .int .i64 p.ver, v1, v2]] trivial (wok_refl w) (fun g i h => by cases h) rfl rfl (fun q hq => ?_)).mono ?_
 ·have : q = (0, .v true [.s, .s, .b, .b]) := by simpa [start, starts, startSh] using hq
  subst this
  refine ⟨[.int .i64 p.name, .int .i64 p.ver, v1, v2], rfl, fun h => (by cases h), rfl, rfl, fun i c d v hc hd hv => ?_⟩
  match i, hc, hd, hv with
  | 0, hc, hd, hv => cases hc; cases hd; cases hv; exact ⟨⟨fun c h => (by cases h), fun c h => (by cases h)⟩, .int _ _⟩
  | 1, hc, hd, hv => cases hc; cases hd; cases hv; exact ⟨⟨fun c h => (by cases h), fun c h => (by cases h)⟩, .int _ _⟩
  | 2, hc, hd, hv => cases hc; cases hd; cases hv; exact ⟨s1 h1 ⟨_, rfl⟩, inW_bs h1⟩
  | 3, hc, hd, hv => cases hc; cases hd; cases hv; exact ⟨s1 h2 ⟨_, rfl⟩, inW_bs h2⟩
  | i + 4, hc, hd, hv => simp at hc
 ·rintro e w' ⟨v, own', rfl, hw', hr⟩
  refine ⟨?_, hw'.kept.below⟩
  obtain ⟨rv, hrl, hv, hrs, _⟩ := hr.tv
  match rv, hrl with
  | [r], _ =>
   have hv : v = r := hv
   subst hv
   obtain ⟨vs, e0, l0, a0⟩ := hrs 0 _ rfl
   match vs, l0 rfl with
   | [u], _ =>
    have e0 : v = u := e0
    subst e0
    obtain ⟨_, hsc⟩ := a0.2.2 0 .s (.bool (decide (PkOk p))) v rfl rfl rfl
    have hsc : Scal (.bool (decide (PkOk p))) v := hsc
    cases hsc
    rfl
end V
end Go.Proofs.YtnaldhcdcpdbnaaDoor

/-
The text of a package, as the program writes it.
-/
namespace Go.Proofs.YtnaldhcdcpdbnaaDoor
open Go.Shelf Go.RowKit
open Classical
set_option maxRecDepth 100000
set_option maxHeartbeats 4000000

theorem inW_mono {w w1 : World} {d : V.D} {v : Value} (h : V.Rep w (V.InW w) d v) (hb : Below w.heap.size w w1) : V.Rep w1 (V.InW w1) d v :=
 (V.inW_below h hb (Nat.le_refl _)).mono (fun _ _ _ => rfl) (fun g cur T h => ⟨cur, h, rfl⟩) (fun g o h => Nat.lt_of_lt_of_le h hb.size)
theorem below_alloc (w : World) (o : Obj) : Below w.heap.size w (w.alloc o) := (Below.refl _ w).alloc (Nat.le_refl _) o
theorem below_cell {B : Nat} {w w' : World} (h : Below B w w') (g o : Nat) (hg : g < B) : w'.cell? ⟨g, o, none⟩ = w.cell? ⟨g, o, none⟩ := by
 simp only [World.cell?, h.block g hg]
theorem alloc_cell (w : World) (x : Obj) (g o : Nat) (hg : g < w.heap.size) : (w.alloc x).cell? ⟨g, o, none⟩ = w.cell? ⟨g, o, none⟩ := below_cell (below_alloc w x) g o hg
abbrev Bld (b : Nat) (l : List UInt8) (w : World) : Prop := Lib.IsBuilderF 89 5 b b (Lib.byteCells l) w
theorem strCells_bA (l : List UInt8) : Lib.strCells (V.bA l) = Lib.byteCells l := by
 simp [Lib.strCells, Lib.byteCells, V.bA]
theorem cell_new (w : World) (cs : Array Value) (T : TypeId) (j : Nat) : (w.alloc (.cells cs T)).drew.cell? ⟨w.heap.size, j, none⟩ = cs[j]? := by
 have : (w.alloc (.cells cs T)).drew.heap[w.heap.size]? = some (.cells cs T (0, 0)) := heap_alloc_new w _
 simp only [World.cell?, this]
 rfl
theorem still_tail {P : Program} {id : Nat} {Q : Exit → Act → World → Prop} {a : Act} {w : World} {l : List Oper} (n : Nat) (hm : P.follows .mixedOrders = true) (hB : Region.lexTailB .any l.toArray n = true) (w5 : World) (h5 : w5 = w.drew)
  (h : wpStill P l.toArray w5 (fun a' => wpList P l.toArray Q (l.drop n) a' w5) (l.take n) a) : (Code.region id l.toArray true).wp P Q a w := by
 subst h5
 exact wp_region_still_tail n hm hB h
theorem below_drew {B : Nat} {w w' : World} (h : Below B w w') : Below B w w'.drew := ⟨h.os, h.tape, h.output, h.size, h.block⟩
theorem flat_len {α : Type} (f : α → List UInt8) (n : Nat) (hf : ∀ x, (f x).length = n) : ∀ xs : List α, (xs.flatMap f).length = n * xs.length
 | [] => by simp
 | x :: r => by
  have := flat_len f n hf r
  simp [hf, this, Nat.mul_add, Nat.add_comm]
theorem pieces_len {p : V.Pk} (hP : V.PkOk p) (k : Nat) (hk : k ≤ p.files.length) : (V.nmT p.name p.ver ++ (p.files.take k).flatMap V.fT).length ≤ 10 := by
 have h1 : (p.files.length : Int) ≤ 2 := hP.2.2.1.2
 rw [List.length_append, flat_len V.fT 4 (fun _ => rfl), List.length_take]
 simp only [V.nmT, List.length_cons, List.length_nil]
 omega
theorem pieces_len2 {p : V.Pk} (hP : V.PkOk p) (k : Nat) (hk : k ≤ p.deps.length) : (V.nmT p.name p.ver ++ p.files.flatMap V.fT ++ (p.deps.take k).flatMap V.dT).length ≤ 16 := by
 have h1 : (p.files.length : Int) ≤ 2 := hP.2.2.1.2
 have h2 : (p.deps.length : Int) ≤ 2 := hP.2.2.2.2
 rw [List.length_append, List.length_append, flat_len V.fT 4 (fun _ => rfl), flat_len V.dT 3 (fun _ => rfl), List.length_take]
 simp only [V.nmT, List.length_cons, List.length_nil]
 omega
theorem take_flat {α : Type} [Inhabited α] (f : α → List UInt8) (xs : List α) (k : Nat) (hk : k < xs.length) : (xs.take (k + 1)).flatMap f = (xs.take k).flatMap f ++ f (V.ix xs k) := by
 have : xs.take (k + 1) = xs.take k ++ [V.ix xs k] := by
  rw [List.take_add_one]
  simp [V.ix, hk]
 rw [this]
 simp
theorem pkgText_walk (p : V.Pk) (hs : V.SmP p) (v1 v2 : Value) (w : World) (h1 : V.Rep w (V.InW w) (.sl (p.files.map V.eP2)) v1) (h2 : V.Rep w (V.InW w) (.sl (p.deps.map V.eP2)) v2) :
  Calls Tryd.prog 38 #[.agg #[.int .i64 p.name, .int .i64 p.ver, v1, v2]] w fun e w' => e = .returned (.string (V.bA (V.textM p))) ∧ Below w.heap.size w w' := by
 have mixed : Tryd.prog.follows .mixedOrders = true := V.mixed
 go_enter Tryd.func38, Tryd.ntmps38
 go_wp2_with (go_at_call 34; refine (V.pkgOk_call p hs v1 v2 _ (inW_mono h1 (below_alloc w _)) (inW_mono h2 (below_alloc w _))).mono ?_)
 rintro e w2 ⟨rfl, hb2⟩
 have hsz2 : w.heap.size < w2.heap.size := by
  have := hb2.size
  simp at this
  omega
 have hb0 : Below w.heap.size w w2 := (below_alloc w _).trans (hb2.mono (by simp))
 have hbx : w2.heap[w.heap.size]? = some (.cells #[.int .i64 p.name, .int .i64 p.ver, v1, v2] 44 (0, 0)) := by
  rw [hb2.block _ (by simp)]
  exact heap_alloc_new w _
 have r1 := inW_mono h1 hb0
 have r2 := inW_mono h2 hb0
 by_cases hP : V.PkOk p
 ·have hd : decide (V.PkOk p) = true := decide_eq_true hP
  rw [hd]
  obtain ⟨A1, cap1, rfl, _, row1⟩ := V.rep_row r1
  obtain ⟨A2, cap2, rfl, _, row2⟩ := V.rep_row r2
  clear hb2 h1 h2 r1 r2
  have c0 : ∀ x, (w2.alloc x).cell? ⟨w.heap.size, 0, none⟩ = some (.int .i64 p.name) := fun x => by rw [alloc_cell w2 x _ _ hsz2]; simp only [World.cell?, hbx]; rfl
  have c1 : ∀ x, (w2.alloc x).cell? ⟨w.heap.size, 1, none⟩ = some (.int .i64 p.ver) := fun x => by rw [alloc_cell w2 x _ _ hsz2]; simp only [World.cell?, hbx]; rfl
  go_wp2_with (go_at_call 61; refine (named_walk p.name p.ver hP.1 hP.2.1 _).mono ?_; rintro e w' ⟨rfl, rfl⟩)
  refine (WriteString_k w2.heap.size w2.heap.size [] (V.bA (V.nmT p.name p.ver)) _ (Lib.IsBuilderF.of (Lib.fresh_isBuilder 89 5 w2)) (by rw [V.bA_size]; simp [V.nmT]) (by simp)).mono ?_
  rintro e w3 ⟨rfl, hB3, hbl3, _⟩
  have hI3 : Bld w2.heap.size (V.nmT p.name p.ver) w3 := .inr (by rw [← strCells_bA]; simpa using hB3)
  have hb3 : Below w2.heap.size w2 w3 := (below_alloc w2 _).trans hbl3
  clear c0 c1 hB3 hbl3
  have c2 : w3.cell? ⟨w.heap.size, 2, none⟩ = some (.slice A1 p.files.length cap1) := by rw [below_cell hb3 _ _ hsz2]; simp only [World.cell?, hbx]; rfl
  go_wp2
  go_loopw [20] (fun i wr => ∃ k : Nat, i = .int .i64 k ∧ k ≤ p.files.length ∧ Bld w2.heap.size (V.nmT p.name p.ver ++ (p.files.take k).flatMap V.fT) wr ∧ Below w2.heap.size w2 wr) (fun i wr => p.files.length - (intOf i).toNat)
  case atStart => exact ⟨0, rfl, by omega, by simpa using hI3, hb3⟩
  case round =>
   obtain ⟨k, rfl, hk, hI, hbw⟩ := hrel
   clear c2
   by_cases hlt : k < p.files.length
   ·obtain ⟨g, off, rfl, hcap, hg, x0, x1⟩ := row1 k hlt
    have y0 := (below_cell hbw g (off + k * 2) (by omega)).trans x0
    have y1 := (below_cell hbw g (off + k * 2 + 1) (by omega)).trans x1
    have hfl : (p.files.length : Int) ≤ 2 := hP.2.2.1.2
    obtain ⟨fa, fb, _⟩ := hP.2.2.1.1 k (by omega) (by omega)
    obtain ⟨a, ha⟩ : ∃ a : Nat, (V.ix p.files k).a = a := ⟨(V.ix p.files k).a.toNat, by omega⟩
    obtain ⟨b, hb⟩ : ∃ b : Nat, (V.ix p.files k).b = b := ⟨(V.ix p.files k).b.toNat, by omega⟩
    rw [ha] at y0
    rw [hb] at y1
    have da := dig1 a (by omega)
    have db := dig1 b (by omega)
    go_wp2
    obtain ⟨W5, hW5⟩ : ∃ W5 : World, W5 = (wr.alloc (Obj.cells #[.int .i64 a, .int .i64 b] 68)).drew := ⟨_, rfl⟩
    have z0 : W5.cell? ⟨wr.heap.size, 0, none⟩ = some (.int .i64 a) := by rw [hW5]; exact cell_new wr _ _ 0
    have z1 : W5.cell? ⟨wr.heap.size, 1, none⟩ = some (.int .i64 b) := by rw [hW5]; exact cell_new wr _ _ 1
    refine still_tail 9 mixed (by kernel_rfl) W5 hW5 ?_
    simp only [List.take_succ_cons, List.take_zero, List.drop_succ_cons, List.drop_zero]
    repeat still_step
    still_call (Tryd.strconv_Itoa_small a (by omega) _)
    repeat still_step
    still_call (Tryd.strconv_Itoa_small b (by omega) _)
    repeat still_step
    refine wpStill_nil ?_
    have hstr : ((⟨#[32]⟩ : ByteArray) ++ ⟨#[V.u8 (48 + (a : Int))]⟩ ++ ⟨#[58]⟩ ++ ⟨#[V.u8 (48 + (b : Int))]⟩) = V.bA (V.fT (V.ix p.files k)) := by
     show V.bA [32] ++ V.bA [V.u8 (48 + (a : Int))] ++ V.bA [58] ++ V.bA [V.u8 (48 + (b : Int))] = _
     rw [V.bA_app, V.bA_app, V.bA_app]
     simp [V.fT, ha, hb]
    have hI5 : Bld w2.heap.size (V.nmT p.name p.ver ++ (p.files.take k).flatMap V.fT) W5 := by rw [hW5]; exact hI.alloc _
    have hb5 : Below w2.heap.size w2 W5 := hbw.trans (by rw [hW5]; exact below_drew ((below_alloc wr _).mono hbw.size))
    clear hW5 z0 z1 y0 y1
    go_wp2_with (go_at_call 60; refine (WriteString_k w2.heap.size w2.heap.size _ _ W5 hI5 ?hq1 hb5.size).mono ?_)
    case hq1 =>
     have hl := pieces_len hP k hk
     rw [V.bA_size, Lib.byteCells_length]
     rw [show (V.fT (V.ix p.files k)).length = 4 from rfl]
     omega
    rintro e w6 ⟨rfl, hB6, hbl6, _⟩
    go_wp2
    go_roundw
    case rel =>
     refine ⟨k + 1, rfl, by omega, .inr ?_, hb5.trans hbl6⟩
     rw [strCells_bA, ← Lib.byteCells_append] at hB6
     rw [take_flat V.fT p.files k hlt, ← List.append_assoc]
     exact hB6
    case measure => simp only [intOf]; omega
   ·have hk' : k = p.files.length := by omega
    subst hk'
    rw [List.take_length] at hI
    have c3 : wr.cell? ⟨w.heap.size, 3, none⟩ = some (.slice A2 p.deps.length cap2) := by rw [below_cell hbw _ _ hsz2]; simp only [World.cell?, hbx]; rfl
    clear row1
    go_wp2
    go_loopw [38] (fun i wr => ∃ k : Nat, i = .int .i64 k ∧ k ≤ p.deps.length ∧ Bld w2.heap.size (V.nmT p.name p.ver ++ p.files.flatMap V.fT ++ (p.deps.take k).flatMap V.dT) wr ∧ Below w2.heap.size w2 wr) (fun i wr => p.deps.length - (intOf i).toNat)
    case atStart => exact ⟨0, rfl, by omega, by simpa using hI, hbw⟩
    case round =>
     clear hI hbw c3
     obtain ⟨k, rfl, hk, hI, hbw⟩ := hrel
     have hdl : (p.deps.length : Int) ≤ 2 := hP.2.2.2.2
     by_cases hlt : k < p.deps.length
     ·obtain ⟨g, off, rfl, hcap, hg, x0, x1⟩ := row2 k hlt
      have y0 := (below_cell hbw g (off + k * 2) (by omega)).trans x0
      have y1 := (below_cell hbw g (off + k * 2 + 1) (by omega)).trans x1
      obtain ⟨fa, _, fb, _⟩ := hP.2.2.2.1 k (by omega) (by omega)
      have hz : ¬ 9223372036854775807 < 1 + (V.bA (V.nmT (V.ix p.deps k).a (V.ix p.deps k).b)).size := by rw [V.bA_size]; simp [V.nmT]
      go_wp2_with (go_at_call 61; refine (named_walk _ _ fa fb _).mono ?_; rintro e w' ⟨rfl, rfl⟩)
      have hstr : ((⟨#[32]⟩ : ByteArray) ++ V.bA (V.nmT (V.ix p.deps k).a (V.ix p.deps k).b)) = V.bA (V.dT (V.ix p.deps k)) := by
       show V.bA [32] ++ V.bA _ = _
       rw [V.bA_app]
       rfl
      have hI5 : Bld w2.heap.size (V.nmT p.name p.ver ++ p.files.flatMap V.fT ++ (p.deps.take k).flatMap V.dT) (wr.alloc (Obj.cells #[.int .i64 (V.ix p.deps k).a, .int .i64 (V.ix p.deps k).b] 70)) := hI.alloc _
      have hb5 : Below w2.heap.size w2 (wr.alloc (Obj.cells #[.int .i64 (V.ix p.deps k).a, .int .i64 (V.ix p.deps k).b] 70)) := hbw.trans ((below_alloc wr _).mono hbw.size)
      refine (WriteString_k w2.heap.size w2.heap.size _ _ _ hI5 ?hq2 hb5.size).mono ?_
      case hq2 =>
       have hl := pieces_len2 hP k hk
       rw [hstr, V.bA_size, Lib.byteCells_length]
       rw [show (V.dT (V.ix p.deps k)).length = 3 from rfl]
       omega
      rintro e w6 ⟨rfl, hB6, hbl6, _⟩
      rw [hstr, strCells_bA, ← Lib.byteCells_append] at hB6
      clear hstr
      go_wp2
      go_roundw
      case rel =>
       refine ⟨k + 1, rfl, by omega, .inr ?_, hb5.trans hbl6⟩
       rw [take_flat V.dT p.deps k hlt, ← List.append_assoc]
       exact hB6
      case measure => simp only [intOf]; omega
     ·have hk' : k = p.deps.length := by omega
      subst hk'
      rw [List.take_length] at hI
      clear row2
      go_wp2_with (go_at_call 63; refine (Tryd.Builder_String_any_k w2.heap.size w2.heap.size _ _ hI hbw.size).mono ?_)
      rintro e w7 ⟨rfl, _, hb7, _⟩
      go_wp2
      go_ret
      refine ⟨?_, (hb0.trans (hbw.mono (Nat.le_of_lt hsz2))).trans (hb7.mono (Nat.le_of_lt hsz2))⟩
      show Ending.returned (Value.string (V.bA _)) = _
      rw [V.textM, if_pos hP, List.append_assoc]
 ·have hd : decide (V.PkOk p) = false := decide_eq_false hP
  rw [hd]
  go_wp2
  go_ret
  refine ⟨?_, hb0⟩
  rw [V.textM, if_neg hP]
  rfl
namespace V
variable {W : Wld}
theorem scal_done {w w' : World} {own : Own} {cx : Cx} {sig : Sig} {vals : List Value} {d : D} {v : Value} (hw : WOk w own cx own w) (hlow : ∀ g i, own g = some i → i.leaf.1 < sig.ps.length) (hb : Below w.heap.size w w')
  (hrs : sig.rs = [.v false [.s]]) (hbx : boxPs sig.ps 0 = []) (hio : ioOf sig = none) (hs : Scal d v) : ∃ u own', Ending.returned v = .returned u ∧ WOk w own cx own' w' ∧ ResOk w' cx own' sig [[d]] vals u := by
 refine ⟨v, fun _ => none, rfl, ⟨⟨hb.os, hb.tape, hb.output, hb.size, fun g hg _ => hb.block g hg, fun g o hg _ => by simp only [World.cell?, hb.block g hg], fun g cur T h => ⟨cur, by rw [hb.block g (heap_lt h)]; exact h, rfl⟩⟩, fun g i h => (by cases h), hw.n, hw.s1, hw.s2, fun g o _ hc => ?_, fun g g' i j h => (by cases h)⟩, ?_⟩
 ·obtain ⟨i, b, h1, _⟩ := hc
  cases h1
 ·unfold ResOk
  rw [hio]
  have c1 : Cell1 v := by cases hs <;> exact ⟨fun c h => (by cases h), fun c h => (by cases h)⟩
  refine ⟨by rw [hrs, hbx]; rfl, [v], by rw [hrs]; rfl, rfl, fun k p hp => ?_, fun i b hb => by rw [hbx] at hb; simp at hb⟩
  rw [hrs] at hp
  cases k with
  | succ k => simp at hp
  | zero =>
   have hp : PSh.v false [.s] = p := by simpa using hp
   subst hp
   refine ⟨[v], rfl, fun _ => rfl, rfl, rfl, fun i c dd u hc hd hv => ?_⟩
   cases i with
   | succ i => simp at hc
   | zero =>
    simp only [List.getElem?_cons_zero, Option.some.injEq] at hc hv
    subst hc; subst hv
    have hd : some d = some dd := hd
    simp only [Option.some.injEq] at hd
    subst hd
    exact ⟨c1, hs⟩
theorem iPkgText_ok (p : Pk) (hs : SmP p) : FunOk PP W n_i_PkgText s_i_PkgText [ePk p] [sT (textM p)] := by
 refine ⟨⟨Tryd.f38, Tryd.func38, by kernel_rfl, by kernel_rfl⟩, fun w own cx vals hP hw hlow hvl hil hinv => ?_⟩
 match vals, hvl with
 | [v0], _ =>
  obtain ⟨vs, e0, _, l0, l1, a0⟩ := hinv (0, .v true [.s, .s, .b, .b]) (List.mem_cons_self ..)
  have l1 : vs.length = 4 := l1
  match vs, l1 with
  | [u0, u1, u2, u3], _ =>
   have e0 : v0 = .agg #[u0, u1, u2, u3] := e0
   obtain ⟨_, h0⟩ := a0 0 .s (.int .i64 p.name) u0 rfl rfl rfl
   obtain ⟨_, h1⟩ := a0 1 .s (.int .i64 p.ver) u1 rfl rfl rfl
   obtain ⟨_, h2⟩ := a0 2 .b (.sl (p.files.map eP2)) u2 rfl rfl rfl
   obtain ⟨_, h3⟩ := a0 3 .b (.sl (p.deps.map eP2)) u3 rfl rfl rfl
   have h0 : Scal (.int .i64 p.name) u0 := h0
   have h1 : Scal (.int .i64 p.ver) u1 := h1
   cases h0
   cases h1
   subst e0
   refine (pkgText_walk p hs u2 u3 w (bs_inW h2) (bs_inW h3)).mono ?_
   rintro e w' ⟨rfl, hb⟩
   exact scal_done hw (fun g i h => (hlow g i h).2) hb rfl rfl rfl (.str _)
end V
end Go.Proofs.YtnaldhcdcpdbnaaDoor

