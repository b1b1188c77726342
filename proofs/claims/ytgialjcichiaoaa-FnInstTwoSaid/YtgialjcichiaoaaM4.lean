/-
Part 4 of the proof of the claimed statement (its last part holds the theorem, and says what is proved). Conditions: none.
-/
import Derived.Test.YtgialjcichiaoaaM3
set_option linter.all false
/-
What the seat's functions come to, as statements; that the checker says so. Written by a program.
-/
namespace Go.Proofs.Ytgialjcichiaoaa
namespace V

def p_s_l6Open : PC := .seq (.ss [.mv 2 (.c (.bad))]) (.seq (.seq (.ss [.mv 3 (.t 0), .len 4 (.t 3), .bin 5 .gtr (.t 4) (.c (.int .i64 2000))]) (.cond (.t 5) (.ss [.mv 6 (.t 0), .lsl 7 1 (.t 6) none (some (.c (.int .i64 2000))) none, .mv 0 (.t 7)]) (.skip))) (.seq (.ss [.mv 8 (.t 0), .bld 9 [.sl [], .int .i64 0] [(0, (.t 8))], .mv 10 (.t 9), .nop]) (.ret [10])))
def k_s_l6Open : Cfg := { tt := tt, sigs := sigs, mv := false, bm := [], eqt := eqL, keep := [true, false, true, false, false, true, false, false, false, false, true], n := 11, pin := [], fail := [], fz := [] }
theorem c_s_l6Open : cFun k_s_l6Open Try.f81 s_s_l6Open = some p_s_l6Open := by kernel_rfl
theorem F_s_l6Open {W : Wld} {ins outs : List (List D)} (h : pwp (FunOk PP W) p_s_l6Open (RetIs outs) (envL ins)) : FunOk PP W n_s_l6Open s_s_l6Open ins outs := fun_ok (C := k_s_l6Open) (cfg_ok rfl) (eq_ok rfl rfl) mixed Try.func81 (by kernel_rfl) (by kernel_rfl) c_s_l6Open h

def p_s_l71Pkg : PC := .seq (.ss [.bld 6 [.int .i64 0, .int .i64 0, .sl [], .sl []] []]) (.seq (.ss [.mv 11 (.t 1), .mv 12 (.t 2), .lit 13 0 [.int .i64 0, .int .i64 0] [], .lit 14 0 [.int .i64 0, .int .i64 0] [], .bld 15 [.int .i64 0, .int .i64 0, .sl [], .sl []] [(0, (.t 11)), (1, (.t 12)), (2, (.t 13)), (3, (.t 14))], .bld 7 [.int .i64 0, .int .i64 0, .sl [], .sl []] [], .st 7 0 (.t 15)]) (.seq (.ss [.nop, .call 17 n_s_l6Rd_pick s_s_l6Rd_pick [(.t 0), (.c (.int .i64 4))] [0], .mv 8 (.t 17)]) (.seq (.seq (.ss [.nop, .call 19 n_s_l6Rd_pick s_s_l6Rd_pick [(.t 0), (.c (.int .i64 3))] [0], .mv 9 (.t 19)]) (.block 0 (.loop (.seq (.seq (.ss [.mv 20 (.t 9), .bin 21 .gtr (.t 20) (.c (.int .i64 0)), .mv 22 (.t 21), .g 22 true 23 (.mv 23 (.t 8)), .g 22 true 24 (.bin 24 .lss (.t 23) (.c (.int .i64 6))), .pick 25 (.t 22) (.t 24) (.c (.bool false))]) (.cond (.t 25) (.skip) (.exit 0))) (.seq (.block 1 (.seq (.ss [.nop, .sub 29 7 2 1, .mv 30 (.t 8), .nop, .call 32 n_s_l6Rd_pick s_s_l6Rd_pick [(.t 0), (.c (.int .i64 10))] [0], .bld 33 [.int .i64 0, .int .i64 0] [(0, (.t 30)), (1, (.t 32))], .lit 34 1 [.int .i64 0, .int .i64 0] [(0, (.t 33))], .app 35 2 true (.t 29) (.t 34), .nop, .st 7 2 (.t 35)]) (.ss [.mv 37 (.t 8), .bin 38 .add (.t 37) (.c (.int .i64 1)), .nop, .call 40 n_s_l6Rd_pick s_s_l6Rd_pick [(.t 0), (.c (.int .i64 3))] [0], .bin 41 .add (.t 38) (.t 40), .mv 8 (.t 41)]))) (.ss [.mv 26 (.t 9), .bin 27 .sub (.t 26) (.c (.int .i64 1)), .mv 9 (.t 27)])))))) (.seq (.seq (.ss [.mv 10 (.c (.int .i64 1))]) (.block 2 (.loop (.seq (.seq (.ss [.mv 42 (.t 10), .bin 43 .leq (.t 42) (.c (.int .i64 4)), .mv 44 (.t 43), .g 44 true 45 (.nop), .g 44 true 46 (.sub 46 7 3 1), .g 44 true 47 (.len 47 (.t 46)), .g 44 true 48 (.bin 48 .lss (.t 47) (.c (.int .i64 2))), .pick 49 (.t 44) (.t 48) (.c (.bool false))]) (.cond (.t 49) (.skip) (.exit 2))) (.seq (.block 3 (.seq (.ss [.mv 52 (.t 10), .mv 53 (.t 1), .bin 54 .neq (.t 52) (.t 53), .mv 55 (.t 54), .g 55 true 56 (.nop), .g 55 true 57 (.call 57 n_s_l6Rd_pick s_s_l6Rd_pick [(.t 0), (.c (.int .i64 6))] [0]), .g 55 true 58 (.bin 58 .eql (.t 57) (.c (.int .i64 0))), .pick 59 (.t 55) (.t 58) (.c (.bool false))]) (.cond (.t 59) (.ss [.nop, .sub 61 7 3 1, .mv 62 (.t 10), .nop, .call 64 n_s_l6Rd_pick s_s_l6Rd_pick [(.t 0), (.c (.int .i64 2))] [0], .bin 65 .add (.c (.int .i64 1)) (.t 64), .bld 66 [.int .i64 0, .int .i64 0] [(0, (.t 62)), (1, (.t 65))], .lit 67 1 [.int .i64 0, .int .i64 0] [(0, (.t 66))], .app 68 2 true (.t 61) (.t 67), .nop, .st 7 3 (.t 68)]) (.skip)))) (.ss [.mv 50 (.t 10), .bin 51 .add (.t 50) (.c (.int .i64 1)), .mv 10 (.t 51)])))))) (.seq (.ss [.sub 70 7 0 4, .st 6 0 (.t 70)]) (.ret [6, 0]))))))
def k_s_l71Pkg : Cfg := { tt := tt, sigs := sigs, mv := false, bm := [], eqt := eqL, keep := [true, true, true, false, false, false, true, true, true, true, true, false, false, false, false, false, false, false, false, false, false, false, false, false, false, true, false, false, false, false, false, false, false, false, false, false, false, false, false, false, false, false, false, false, false, false, false, false, false, true, false, false, false, false, false, false, false, false, false, true, false, false, false, false, false, false, false, false, false, false, false], n := 71, pin := [0], fail := [], fz := [] }
theorem c_s_l71Pkg : cFun k_s_l71Pkg Try.f141 s_s_l71Pkg = some p_s_l71Pkg := by kernel_rfl
theorem F_s_l71Pkg {W : Wld} {ins outs : List (List D)} (h : pwp (FunOk PP W) p_s_l71Pkg (RetIs outs) (envL ins)) : FunOk PP W n_s_l71Pkg s_s_l71Pkg ins outs := fun_ok (C := k_s_l71Pkg) (cfg_ok rfl) (eq_ok rfl rfl) mixed Try.func141 (by kernel_rfl) (by kernel_rfl) c_s_l71Pkg h

def p_s_l71Any : PC := .seq (.ss [.bld 2 [.int .i64 0, .int .i64 0, .sl [], .sl []] []]) (.seq (.ss [.nop, .nop, .call 6 n_s_l6Rd_pick s_s_l6Rd_pick [(.t 0), (.c (.int .i64 4))] [0], .bin 7 .add (.c (.int .i64 1)) (.t 6), .nop, .call 9 n_s_l6Rd_pick s_s_l6Rd_pick [(.t 0), (.c (.int .i64 3))] [0], .bin 10 .add (.c (.int .i64 1)) (.t 9), .call 11 n_s_l71Pkg s_s_l71Pkg [(.t 0), (.t 7), (.t 10)] [0], .bld 3 [.int .i64 0, .int .i64 0, .sl [], .sl []] [], .st 3 0 (.t 11)]) (.seq (.seq (.ss [.nop, .call 13 n_s_l6Rd_pick s_s_l6Rd_pick [(.t 0), (.c (.int .i64 20))] [0]]) (.block 0 (.seq (.ss [.bin 15 .eql (.t 13) (.c (.int .i64 0)), .mv 14 (.t 15)]) (.cond (.t 14) (.ss [.lit 16 2 [.int .i64 0] [(0, (.c (.int .i64 0))), (1, (.c (.int .i64 5)))], .nop, .call 18 n_s_l6Rd_pick s_s_l6Rd_pick [(.t 0), (.c (.int .i64 2))] [0], .elp 19 (.t 16) (.t 18) 1, .eld 20 19 0 [.int .i64 0], .nop, .st 3 0 (.t 20)]) (.seq (.ss [.bin 23 .eql (.t 13) (.c (.int .i64 1)), .mv 22 (.t 23)]) (.cond (.t 22) (.ss [.lit 24 2 [.int .i64 0] [(0, (.c (.int .i64 0))), (1, (.c (.int .i64 6)))], .nop, .call 26 n_s_l6Rd_pick s_s_l6Rd_pick [(.t 0), (.c (.int .i64 2))] [0], .elp 27 (.t 24) (.t 26) 1, .eld 28 27 0 [.int .i64 0], .nop, .st 3 1 (.t 28)]) (.seq (.ss [.bin 31 .eql (.t 13) (.c (.int .i64 2)), .mv 30 (.t 31)]) (.cond (.t 30) (.ss [.nop, .sub 33 3 2 1, .nop, .call 35 n_s_l6Rd_pick s_s_l6Rd_pick [(.t 0), (.c (.int .i64 7))] [0], .nop, .call 37 n_s_l6Rd_pick s_s_l6Rd_pick [(.t 0), (.c (.int .i64 12))] [0], .bld 38 [.int .i64 0, .int .i64 0] [(0, (.t 35)), (1, (.t 37))], .lit 39 1 [.int .i64 0, .int .i64 0] [(0, (.t 38))], .app 40 2 true (.t 33) (.t 39), .nop, .st 3 2 (.t 40)]) (.seq (.ss [.bin 43 .eql (.t 13) (.c (.int .i64 3)), .mv 42 (.t 43)]) (.cond (.t 42) (.ss [.nop, .sub 45 3 3 1, .nop, .call 47 n_s_l6Rd_pick s_s_l6Rd_pick [(.t 0), (.c (.int .i64 6))] [0], .nop, .call 49 n_s_l6Rd_pick s_s_l6Rd_pick [(.t 0), (.c (.int .i64 7))] [0], .bld 50 [.int .i64 0, .int .i64 0] [(0, (.t 47)), (1, (.t 49))], .lit 51 1 [.int .i64 0, .int .i64 0] [(0, (.t 50))], .app 52 2 true (.t 45) (.t 51), .nop, .st 3 3 (.t 52)]) (.skip))))))))))) (.seq (.ss [.sub 54 3 0 4, .st 2 0 (.t 54)]) (.ret [2, 0]))))
def k_s_l71Any : Cfg := { tt := tt, sigs := sigs, mv := false, bm := [], eqt := eqL, keep := [true, false, true, true, false, false, false, false, false, false, false, false, false, true, true, false, false, false, false, false, false, false, true, false, false, false, false, false, false, false, true, false, false, false, false, false, false, false, false, false, false, false, true, false, false, false, false, false, false, false, false, false, false, false, false], n := 55, pin := [0], fail := [], fz := [] }
theorem c_s_l71Any : cFun k_s_l71Any Try.f179 s_s_l71Any = some p_s_l71Any := by kernel_rfl
theorem F_s_l71Any {W : Wld} {ins outs : List (List D)} (h : pwp (FunOk PP W) p_s_l71Any (RetIs outs) (envL ins)) : FunOk PP W n_s_l71Any s_s_l71Any ins outs := fun_ok (C := k_s_l71Any) (cfg_ok rfl) (eq_ok rfl rfl) mixed Try.func179 (by kernel_rfl) (by kernel_rfl) c_s_l71Any h

def p_s_l12Newest : PC := .seq (.ss [.bld 4 [.int .i64 0, .int .i64 0, .sl [], .sl []] [], .mv 5 (.c (.bool false))]) (.seq (.seq (.ss [.mv 7 (.t 0), .len 8 (.t 7), .bin 9 .sub (.t 8) (.c (.int .i64 1)), .mv 6 (.t 9)]) (.block 0 (.loop (.seq (.seq (.ss [.mv 10 (.t 6), .bin 11 .geq (.t 10) (.c (.int .i64 0))]) (.cond (.t 11) (.skip) (.exit 0))) (.seq (.block 1 (.seq (.ss [.mv 14 (.t 0), .mv 15 (.t 6), .elp 16 (.t 14) (.t 15) 4, .mv 17 (.t 16), .eld 18 17 0 [.int .i64 0], .mv 19 (.t 1), .bin 20 .eql (.t 18) (.t 19)]) (.cond (.t 20) (.seq (.ss [.mv 21 (.t 0), .mv 22 (.t 6), .elp 23 (.t 21) (.t 22) 4, .eld 24 23 0 [.int .i64 0, .int .i64 0, .sl [], .sl []], .call 25 n_s_l12PkgCopy s_s_l12PkgCopy [(.t 24)] [], .st 4 0 (.t 25), .mv 5 (.c (.bool true))]) (.ret [4, 5])) (.skip)))) (.ss [.mv 12 (.t 6), .bin 13 .sub (.t 12) (.c (.int .i64 1)), .mv 6 (.t 13)])))))) (.seq (.ss [.bld 26 [.int .i64 0, .int .i64 0, .sl [], .sl []] [], .st 4 0 (.t 26), .mv 5 (.c (.bool false))]) (.ret [4, 5])))
def k_s_l12Newest : Cfg := { tt := tt, sigs := sigs, mv := false, bm := [], eqt := eqL, keep := [true, true, false, false, true, true, true, false, false, false, false, true, false, false, false, false, false, false, false, false, true, false, false, false, false, false, false], n := 27, pin := [], fail := [], fz := [] }
theorem c_s_l12Newest : cFun k_s_l12Newest Try.f151 s_s_l12Newest = some p_s_l12Newest := by kernel_rfl
theorem F_s_l12Newest {W : Wld} {ins outs : List (List D)} (h : pwp (FunOk PP W) p_s_l12Newest (RetIs outs) (envL ins)) : FunOk PP W n_s_l12Newest s_s_l12Newest ins outs := fun_ok (C := k_s_l12Newest) (cfg_ok rfl) (eq_ok rfl rfl) mixed Try.func151 (by kernel_rfl) (by kernel_rfl) c_s_l12Newest h

def p_s_l13Pick : PC := .seq (.ss [.bld 6 [.int .i64 0, .int .i64 0, .sl [], .sl []] [], .mv 7 (.c (.bool false))]) (.seq (.ss [.mv 13 (.t 0), .mv 14 (.t 2), .call 15 n_s_l12Newest s_s_l12Newest [(.t 13), (.t 14)] [], .mv 12 (.t 15), .ext 16 12 0 4, .ext 17 12 4 1, .bld 8 [.int .i64 0, .int .i64 0, .sl [], .sl []] [], .st 8 0 (.t 16), .mv 9 (.t 17)]) (.seq (.ss [.mv 19 (.t 1), .mv 20 (.t 2), .call 21 n_s_l12Newest s_s_l12Newest [(.t 19), (.t 20)] [], .mv 18 (.t 21), .ext 22 18 0 4, .ext 23 18 4 1, .bld 10 [.int .i64 0, .int .i64 0, .sl [], .sl []] [], .st 10 0 (.t 22), .mv 11 (.t 23)]) (.seq (.seq (.ss [.mv 24 (.t 9), .mv 25 (.t 24), .g 25 true 26 (.mv 26 (.t 11)), .g 25 true 27 (.un 27 .not (.t 26)), .g 25 true 28 (.mv 28 (.t 27)), .g 28 false 29 (.nop), .g 28 false 30 (.sub 30 8 1 1), .g 28 false 31 (.nop), .g 28 false 32 (.sub 32 10 1 1), .g 28 false 33 (.bin 33 .gtr (.t 30) (.t 32)), .g 25 true 34 (.pick 34 (.t 28) (.c (.bool true)) (.t 33)), .pick 35 (.t 25) (.t 34) (.c (.bool false))]) (.cond (.t 35) (.seq (.ss [.sub 36 8 0 4, .st 6 0 (.t 36), .mv 7 (.c (.bool true))]) (.ret [6, 7])) (.skip))) (.seq (.ss [.sub 37 10 0 4, .mv 38 (.t 11), .st 6 0 (.t 37), .mv 7 (.t 38)]) (.ret [6, 7])))))
def k_s_l13Pick : Cfg := { tt := tt, sigs := sigs, mv := false, bm := [], eqt := eqL, keep := [true, true, true, false, false, false, true, true, true, true, true, true, false, false, false, false, false, false, false, false, false, false, false, false, false, false, false, false, false, false, false, false, false, false, false, true, false, false, false], n := 39, pin := [], fail := [], fz := [] }
theorem c_s_l13Pick : cFun k_s_l13Pick Try.f157 s_s_l13Pick = some p_s_l13Pick := by kernel_rfl
theorem F_s_l13Pick {W : Wld} {ins outs : List (List D)} (h : pwp (FunOk PP W) p_s_l13Pick (RetIs outs) (envL ins)) : FunOk PP W n_s_l13Pick s_s_l13Pick ins outs := fun_ok (C := k_s_l13Pick) (cfg_ok rfl) (eq_ok rfl rfl) mixed Try.func157 (by kernel_rfl) (by kernel_rfl) c_s_l13Pick h

def p_s_l21Do : PC := .seq (.ss [.mv 2 (.t 0), .mv 3 (.t 1), .bld 4 [.sl [], .sl [], .bool false, .sl []] []]) (.seq (.seq (.ss [.nop, .sub 6 3 0 1]) (.block 0 (.seq (.ss [.bin 8 .eql (.t 6) (.c (.int .i64 1)), .mv 7 (.t 8)]) (.cond (.t 7) (.seq (.ss [.nop, .st 2 2 (.c (.bool true))]) (.ss [.nop, .sub 11 3 3 1, .call 12 n_s_l12Copy s_s_l12Copy [(.t 11)] [], .nop, .st 2 3 (.t 12)])) (.seq (.ss [.bin 15 .eql (.t 6) (.c (.int .i64 2)), .mv 14 (.t 15)]) (.cond (.t 14) (.ss [.nop, .sub 17 2 1 1, .nop, .sub 19 3 1 1, .nop, .sub 21 3 2 1, .elp 22 (.t 17) (.t 19) 1, .els 22 0 2 1 (.t 21)]) (.seq (.ss [.bin 24 .eql (.t 6) (.c (.int .i64 3)), .mv 23 (.t 24)]) (.cond (.t 23) (.ss [.nop, .sub 26 3 3 1, .call 27 n_s_l12Copy s_s_l12Copy [(.t 26)] [], .nop, .st 2 0 (.t 27)]) (.seq (.ss [.bin 30 .eql (.t 6) (.c (.int .i64 4)), .mv 29 (.t 30)]) (.cond (.t 29) (.seq (.ss [.nop, .st 2 2 (.c (.bool false))]) (.ss [.lit 32 0 [.int .i64 0, .int .i64 0, .sl [], .sl []] [], .nop, .st 2 3 (.t 32)])) (.skip))))))))))) (.seq (.ss [.sub 34 2 0 4, .st 4 0 (.t 34)]) (.ret [4])))
def k_s_l21Do : Cfg := { tt := tt, sigs := sigs, mv := false, bm := [], eqt := eqL, keep := [true, true, true, true, true, false, true, true, false, false, false, false, false, false, true, false, false, false, false, false, false, false, false, true, false, false, false, false, false, true, false, false, false, false, false], n := 35, pin := [], fail := [], fz := [] }
theorem c_s_l21Do : cFun k_s_l21Do Try.f76 s_s_l21Do = some p_s_l21Do := by kernel_rfl
theorem F_s_l21Do {W : Wld} {ins outs : List (List D)} (h : pwp (FunOk PP W) p_s_l21Do (RetIs outs) (envL ins)) : FunOk PP W n_s_l21Do s_s_l21Do ins outs := fun_ok (C := k_s_l21Do) (cfg_ok rfl) (eq_ok rfl rfl) mixed Try.func76 (by kernel_rfl) (by kernel_rfl) c_s_l21Do h

def p_s_l21Tear : PC := .seq (.ss [.mv 2 (.t 0), .mv 3 (.t 1), .bld 4 [.sl [], .sl [], .bool false, .sl []] []]) (.seq (.seq (.ss [.nop, .sub 6 3 0 1]) (.block 0 (.seq (.ss [.bin 8 .eql (.t 6) (.c (.int .i64 2)), .mv 7 (.t 8)]) (.cond (.t 7) (.ss [.nop, .sub 10 2 1 1, .nop, .sub 12 3 1 1, .elp 13 (.t 10) (.t 12) 1, .els 13 0 2 1 (.c (.int .i64 (-2)))]) (.seq (.ss [.bin 15 .eql (.t 6) (.c (.int .i64 3)), .mv 14 (.t 15)]) (.cond (.t 14) (.ss [.lit 16 0 [.int .i64 0, .int .i64 0, .sl [], .sl []] [], .nop, .st 2 0 (.t 16)]) (.skip))))))) (.seq (.ss [.sub 18 2 0 4, .st 4 0 (.t 18)]) (.ret [4])))
def k_s_l21Tear : Cfg := { tt := tt, sigs := sigs, mv := false, bm := [], eqt := eqL, keep := [true, true, true, true, true, false, true, true, false, false, false, false, false, false, true, false, false, false, false], n := 19, pin := [], fail := [], fz := [] }
theorem c_s_l21Tear : cFun k_s_l21Tear Try.f135 s_s_l21Tear = some p_s_l21Tear := by kernel_rfl
theorem F_s_l21Tear {W : Wld} {ins outs : List (List D)} (h : pwp (FunOk PP W) p_s_l21Tear (RetIs outs) (envL ins)) : FunOk PP W n_s_l21Tear s_s_l21Tear ins outs := fun_ok (C := k_s_l21Tear) (cfg_ok rfl) (eq_ok rfl rfl) mixed Try.func135 (by kernel_rfl) (by kernel_rfl) c_s_l21Tear h

def p_s_l22To : PC := .seq (.ss [.mv 4 (.t 0), .bld 8 [.sl [], .sl [], .bool false, .sl []] []]) (.seq (.seq (.ss [.mv 9 (.c (.int .i64 0))]) (.block 0 (.loop (.seq (.seq (.ss [.mv 10 (.t 9), .mv 11 (.t 1), .len 12 (.t 11), .bin 13 .lss (.t 10) (.t 12), .mv 14 (.t 13), .g 14 true 15 (.mv 15 (.t 9)), .g 14 true 16 (.mv 16 (.t 2)), .g 14 true 17 (.bin 17 .lss (.t 15) (.t 16)), .pick 18 (.t 14) (.t 17) (.c (.bool false))]) (.cond (.t 18) (.skip) (.exit 0))) (.seq (.block 1 (.ss [.sub 21 4 0 4, .mv 22 (.t 1), .mv 23 (.t 9), .elp 24 (.t 22) (.t 23) 4, .eld 25 24 0 [.int .i64 0, .int .i64 0, .int .i64 0, .sl []], .call 26 n_s_l21Do s_s_l21Do [(.t 21), (.t 25)] [], .st 4 0 (.t 26)])) (.ss [.mv 19 (.t 9), .bin 20 .add (.t 19) (.c (.int .i64 1)), .mv 9 (.t 20)])))))) (.seq (.seq (.ss [.mv 27 (.t 3), .mv 28 (.t 27), .g 28 true 29 (.mv 29 (.t 2)), .g 28 true 30 (.mv 30 (.t 1)), .g 28 true 31 (.len 31 (.t 30)), .g 28 true 32 (.bin 32 .sub (.t 31) (.c (.int .i64 1))), .g 28 true 33 (.call 33 n_s_l6In s_s_l6In [(.t 29), (.c (.int .i64 0)), (.t 32)] []), .pick 34 (.t 28) (.t 33) (.c (.bool false))]) (.cond (.t 34) (.ss [.sub 35 4 0 4, .mv 36 (.t 1), .mv 37 (.t 2), .elp 38 (.t 36) (.t 37) 4, .eld 39 38 0 [.int .i64 0, .int .i64 0, .int .i64 0, .sl []], .call 40 n_s_l21Tear s_s_l21Tear [(.t 35), (.t 39)] [], .st 4 0 (.t 40)]) (.skip))) (.seq (.ss [.sub 41 4 0 4, .st 8 0 (.t 41)]) (.ret [8]))))
def k_s_l22To : Cfg := { tt := tt, sigs := sigs, mv := false, bm := [], eqt := eqL, keep := [true, true, true, true, true, false, false, false, true, true, false, false, false, false, false, false, false, false, true, false, false, false, false, false, false, false, false, false, false, false, false, false, false, false, true, false, false, false, false, false, false, false], n := 42, pin := [], fail := [], fz := [] }
theorem c_s_l22To : cFun k_s_l22To Try.f67 s_s_l22To = some p_s_l22To := by kernel_rfl
theorem F_s_l22To {W : Wld} {ins outs : List (List D)} (h : pwp (FunOk PP W) p_s_l22To (RetIs outs) (envL ins)) : FunOk PP W n_s_l22To s_s_l22To ins outs := fun_ok (C := k_s_l22To) (cfg_ok rfl) (eq_ok rfl rfl) mixed Try.func67 (by kernel_rfl) (by kernel_rfl) c_s_l22To h

def p_s_l21Copy : PC := .seq (.ss [.mv 1 (.t 0), .bld 2 [.sl [], .sl [], .bool false, .sl []] []]) (.seq (.ss [.nop, .sub 4 1 0 1, .call 5 n_s_l12Copy s_s_l12Copy [(.t 4)] [], .lit 6 0 [.int .i64 0] [], .nop, .sub 8 1 1 1, .app 9 1 true (.t 6) (.t 8), .nop, .sub 11 1 2 1, .nop, .sub 13 1 3 1, .call 14 n_s_l12Copy s_s_l12Copy [(.t 13)] [], .bld 15 [.sl [], .sl [], .bool false, .sl []] [(0, (.t 5)), (1, (.t 9)), (2, (.t 11)), (3, (.t 14))], .st 2 0 (.t 15)]) (.ret [2]))
def k_s_l21Copy : Cfg := { tt := tt, sigs := sigs, mv := false, bm := [6], eqt := eqL, keep := [true, true, true, false, false, false, false, false, false, false, false, false, false, false, false, false], n := 16, pin := [], fail := [], fz := [] }
theorem c_s_l21Copy : cFun k_s_l21Copy Try.f68 s_s_l21Copy = some p_s_l21Copy := by kernel_rfl
theorem F_s_l21Copy {W : Wld} {ins outs : List (List D)} (h : pwp (FunOk PP W) p_s_l21Copy (RetIs outs) (envL ins)) : FunOk PP W n_s_l21Copy s_s_l21Copy ins outs := fun_ok (C := k_s_l21Copy) (cfg_ok rfl) (eq_ok rfl rfl) mixed Try.func68 (by kernel_rfl) (by kernel_rfl) c_s_l21Copy h

def p_s_l22Steps : PC := .seq (.ss [.mv 2 (.t 0), .mv 4 (.c (.sl []))]) (.seq (.ss [.mv 8 (.t 1), .call 9 n_s_l12Copy s_s_l12Copy [(.t 8)] [], .bld 10 [.int .i64 0, .int .i64 0, .int .i64 0, .sl []] [(0, (.c (.int .i64 1))), (3, (.t 9))], .lit 11 1 [.int .i64 0, .int .i64 0, .int .i64 0, .sl []] [(0, (.t 10))], .mv 5 (.t 11)]) (.seq (.ss [.mv 12 (.t 1), .call 13 n_s_l13Files s_s_l13Files [(.t 12)] [], .mv 6 (.t 13)]) (.seq (.seq (.ss [.mv 7 (.c (.int .i64 0))]) (.block 0 (.loop (.seq (.seq (.ss [.mv 14 (.t 7), .mv 15 (.t 6), .len 16 (.t 15), .bin 17 .lss (.t 14) (.t 16)]) (.cond (.t 17) (.skip) (.exit 0))) (.seq (.block 1 (.seq (.ss [.mv 20 (.t 6), .mv 21 (.t 7), .elp 22 (.t 20) (.t 21) 1, .eld 23 22 0 [.int .i64 0], .nop, .sub 25 2 1 1, .mv 26 (.t 7), .elp 27 (.t 25) (.t 26) 1, .eld 28 27 0 [.int .i64 0], .bin 29 .neq (.t 23) (.t 28)]) (.cond (.t 29) (.ss [.mv 30 (.t 5), .mv 31 (.t 7), .mv 32 (.t 6), .mv 33 (.t 7), .elp 34 (.t 32) (.t 33) 1, .eld 35 34 0 [.int .i64 0], .bld 36 [.int .i64 0, .int .i64 0, .int .i64 0, .sl []] [(0, (.c (.int .i64 2))), (1, (.t 31)), (2, (.t 35))], .lit 37 1 [.int .i64 0, .int .i64 0, .int .i64 0, .sl []] [(0, (.t 36))], .app 38 4 false (.t 30) (.t 37), .mv 5 (.t 38)]) (.skip)))) (.ss [.mv 18 (.t 7), .bin 19 .add (.t 18) (.c (.int .i64 1)), .mv 7 (.t 19)])))))) (.seq (.ss [.mv 39 (.t 5), .mv 40 (.t 1), .call 41 n_s_l12Copy s_s_l12Copy [(.t 40)] [], .bld 42 [.int .i64 0, .int .i64 0, .int .i64 0, .sl []] [(0, (.c (.int .i64 3))), (3, (.t 41))], .bld 43 [.int .i64 0, .int .i64 0, .int .i64 0, .sl []] [(0, (.c (.int .i64 4)))], .lit 44 2 [.int .i64 0, .int .i64 0, .int .i64 0, .sl []] [(0, (.t 42)), (1, (.t 43))], .app 45 4 false (.t 39) (.t 44), .mv 4 (.t 45)]) (.ret [4])))))
def k_s_l22Steps : Cfg := { tt := tt, sigs := sigs, mv := false, bm := [], eqt := eqL, keep := [true, true, true, false, true, true, true, true, false, false, false, false, false, false, false, false, false, true, false, false, false, false, false, false, false, false, false, false, false, true, false, false, false, false, false, false, false, false, false, false, false, false, false, false, false, false], n := 46, pin := [], fail := [], fz := [] }
theorem c_s_l22Steps : cFun k_s_l22Steps Try.f90 s_s_l22Steps = some p_s_l22Steps := by kernel_rfl
theorem F_s_l22Steps {W : Wld} {ins outs : List (List D)} (h : pwp (FunOk PP W) p_s_l22Steps (RetIs outs) (envL ins)) : FunOk PP W n_s_l22Steps s_s_l22Steps ins outs := fun_ok (C := k_s_l22Steps) (cfg_ok rfl) (eq_ok rfl rfl) mixed Try.func90 (by kernel_rfl) (by kernel_rfl) c_s_l22Steps h

def p_s_l22Mends : PC := .seq (.ss [.mv 1 (.t 0), .mv 2 (.c (.sl []))]) (.seq (.seq (.ss [.nop, .sub 4 1 2 1, .un 5 .not (.t 4)]) (.cond (.t 5) (.seq (.ss [.lit 6 0 [.int .i64 0, .int .i64 0, .int .i64 0, .sl []] [], .mv 2 (.t 6)]) (.ret [2])) (.skip))) (.seq (.ss [.sub 7 1 0 4, .nop, .sub 9 1 3 1, .call 10 n_s_l22Steps s_s_l22Steps [(.t 7), (.t 9)] [], .lsl 11 4 (.t 10) (some (.c (.int .i64 1))) none none, .mv 2 (.t 11)]) (.ret [2])))
def k_s_l22Mends : Cfg := { tt := tt, sigs := sigs, mv := false, bm := [], eqt := eqL, keep := [true, true, true, false, false, true, false, false, false, false, false, false], n := 12, pin := [], fail := [], fz := [] }
theorem c_s_l22Mends : cFun k_s_l22Mends Try.f66 s_s_l22Mends = some p_s_l22Mends := by kernel_rfl
theorem F_s_l22Mends {W : Wld} {ins outs : List (List D)} (h : pwp (FunOk PP W) p_s_l22Mends (RetIs outs) (envL ins)) : FunOk PP W n_s_l22Mends s_s_l22Mends ins outs := fun_ok (C := k_s_l22Mends) (cfg_ok rfl) (eq_ok rfl rfl) mixed Try.func66 (by kernel_rfl) (by kernel_rfl) c_s_l22Mends h

def p_s_DiskNew : PC := .seq (.ss [.bld 0 [.sl [], .sl [], .bool false, .sl []] []]) (.seq (.ss [.lit 1 0 [.int .i64 0, .int .i64 0, .sl [], .sl []] [], .call 2 n_s_l13Files s_s_l13Files [(.c (.sl []))] [], .lit 3 0 [.int .i64 0, .int .i64 0, .sl [], .sl []] [], .bld 4 [.sl [], .sl [], .bool false, .sl []] [(0, (.t 1)), (1, (.t 2)), (3, (.t 3))], .st 0 0 (.t 4)]) (.ret [0]))
def k_s_DiskNew : Cfg := { tt := tt, sigs := sigs, mv := false, bm := [], eqt := eqL, keep := [true, false, false, false, false], n := 5, pin := [], fail := [], fz := [] }
theorem c_s_DiskNew : cFun k_s_DiskNew Try.f119 s_s_DiskNew = some p_s_DiskNew := by kernel_rfl
theorem F_s_DiskNew {W : Wld} {ins outs : List (List D)} (h : pwp (FunOk PP W) p_s_DiskNew (RetIs outs) (envL ins)) : FunOk PP W n_s_DiskNew s_s_DiskNew ins outs := fun_ok (C := k_s_DiskNew) (cfg_ok rfl) (eq_ok rfl rfl) mixed Try.func119 (by kernel_rfl) (by kernel_rfl) c_s_DiskNew h

def p_s_l13Files : PC := .seq (.ss [.mv 2 (.c (.sl []))]) (.seq (.ss [.mk 7 [.int .i64 0] (.c (.int .i64 6)) (.c (.int .i64 6)), .mv 3 (.t 7)]) (.seq (.seq (.ss [.mv 4 (.c (.int .i64 0))]) (.block 0 (.loop (.seq (.seq (.ss [.mv 8 (.t 4), .mv 9 (.t 3), .len 10 (.t 9), .bin 11 .lss (.t 8) (.t 10)]) (.cond (.t 11) (.skip) (.exit 0))) (.seq (.block 1 (.ss [.mv 14 (.t 3), .mv 15 (.t 4), .elp 16 (.t 14) (.t 15) 1, .els 16 0 3 0 (.c (.int .i64 (-1)))])) (.ss [.mv 12 (.t 4), .bin 13 .add (.t 12) (.c (.int .i64 1)), .mv 4 (.t 13)])))))) (.seq (.seq (.ss [.mv 5 (.c (.int .i64 0))]) (.block 2 (.loop (.seq (.seq (.ss [.mv 17 (.t 5), .mv 18 (.t 0), .len 19 (.t 18), .bin 20 .lss (.t 17) (.t 19)]) (.cond (.t 20) (.skip) (.exit 2))) (.seq (.block 3 (.seq (.ss [.mv 6 (.c (.int .i64 0))]) (.block 4 (.loop (.seq (.seq (.ss [.mv 23 (.t 6), .mv 24 (.t 0), .mv 25 (.t 5), .elp 26 (.t 24) (.t 25) 4, .mv 27 (.t 26), .eld 28 27 2 [.sl []], .len 29 (.t 28), .bin 30 .lss (.t 23) (.t 29)]) (.cond (.t 30) (.skip) (.exit 4))) (.seq (.block 5 (.ss [.mv 33 (.t 3), .mv 34 (.t 0), .mv 35 (.t 5), .elp 36 (.t 34) (.t 35) 4, .mv 37 (.t 36), .eld 38 37 2 [.sl []], .mv 39 (.t 6), .elp 40 (.t 38) (.t 39) 2, .mv 41 (.t 40), .eld 42 41 0 [.int .i64 0], .mv 43 (.t 0), .mv 44 (.t 5), .elp 45 (.t 43) (.t 44) 4, .mv 46 (.t 45), .eld 47 46 2 [.sl []], .mv 48 (.t 6), .elp 49 (.t 47) (.t 48) 2, .mv 50 (.t 49), .eld 51 50 1 [.int .i64 0], .elp 52 (.t 33) (.t 42) 1, .els 52 0 3 0 (.t 51)])) (.ss [.mv 31 (.t 6), .bin 32 .add (.t 31) (.c (.int .i64 1)), .mv 6 (.t 32)]))))))) (.ss [.mv 21 (.t 5), .bin 22 .add (.t 21) (.c (.int .i64 1)), .mv 5 (.t 22)])))))) (.seq (.ss [.mv 53 (.t 3), .mv 2 (.t 53)]) (.ret [2])))))
def k_s_l13Files : Cfg := { tt := tt, sigs := sigs, mv := false, bm := [], eqt := eqL, keep := [true, false, true, true, true, true, true, false, false, false, false, true, false, false, false, false, false, false, false, false, true, false, false, false, false, false, false, false, false, false, true, false, false, false, false, false, false, false, false, false, false, false, false, false, false, false, false, false, false, false, false, false, false, false], n := 54, pin := [], fail := [], fz := [] }
theorem c_s_l13Files : cFun k_s_l13Files Try.f149 s_s_l13Files = some p_s_l13Files := by kernel_rfl
theorem F_s_l13Files {W : Wld} {ins outs : List (List D)} (h : pwp (FunOk PP W) p_s_l13Files (RetIs outs) (envL ins)) : FunOk PP W n_s_l13Files s_s_l13Files ins outs := fun_ok (C := k_s_l13Files) (cfg_ok rfl) (eq_ok rfl rfl) mixed Try.func149 (by kernel_rfl) (by kernel_rfl) c_s_l13Files h

def p_s_l12Copy : PC := .seq (.ss [.mv 2 (.c (.sl []))]) (.seq (.ss [.lit 5 0 [.int .i64 0, .int .i64 0, .sl [], .sl []] [], .mv 3 (.t 5)]) (.seq (.seq (.ss [.mv 4 (.c (.int .i64 0))]) (.block 0 (.loop (.seq (.seq (.ss [.mv 6 (.t 4), .mv 7 (.t 0), .len 8 (.t 7), .bin 9 .lss (.t 6) (.t 8)]) (.cond (.t 9) (.skip) (.exit 0))) (.seq (.block 1 (.ss [.mv 12 (.t 3), .mv 13 (.t 0), .mv 14 (.t 4), .elp 15 (.t 13) (.t 14) 4, .eld 16 15 0 [.int .i64 0, .int .i64 0, .sl [], .sl []], .call 17 n_s_l12PkgCopy s_s_l12PkgCopy [(.t 16)] [], .lit 18 1 [.int .i64 0, .int .i64 0, .sl [], .sl []] [(0, (.t 17))], .app 19 4 false (.t 12) (.t 18), .mv 3 (.t 19)])) (.ss [.mv 10 (.t 4), .bin 11 .add (.t 10) (.c (.int .i64 1)), .mv 4 (.t 11)])))))) (.seq (.ss [.mv 20 (.t 3), .mv 2 (.t 20)]) (.ret [2]))))
def k_s_l12Copy : Cfg := { tt := tt, sigs := sigs, mv := false, bm := [], eqt := eqL, keep := [true, false, true, true, true, false, false, false, false, true, false, false, false, false, false, false, false, false, false, false, false], n := 21, pin := [], fail := [], fz := [] }
theorem c_s_l12Copy : cFun k_s_l12Copy Try.f136 s_s_l12Copy = some p_s_l12Copy := by kernel_rfl
theorem F_s_l12Copy {W : Wld} {ins outs : List (List D)} (h : pwp (FunOk PP W) p_s_l12Copy (RetIs outs) (envL ins)) : FunOk PP W n_s_l12Copy s_s_l12Copy ins outs := fun_ok (C := k_s_l12Copy) (cfg_ok rfl) (eq_ok rfl rfl) mixed Try.func136 (by kernel_rfl) (by kernel_rfl) c_s_l12Copy h

def p_s_l12PkgCopy : PC := .seq (.ss [.mv 1 (.t 0), .bld 2 [.int .i64 0, .int .i64 0, .sl [], .sl []] []]) (.seq (.ss [.lit 3 0 [.int .i64 0, .int .i64 0] [], .nop, .sub 5 1 2 1, .app 6 2 true (.t 3) (.t 5), .nop, .st 1 2 (.t 6)]) (.seq (.ss [.lit 8 0 [.int .i64 0, .int .i64 0] [], .nop, .sub 10 1 3 1, .app 11 2 true (.t 8) (.t 10), .nop, .st 1 3 (.t 11)]) (.seq (.ss [.sub 13 1 0 4, .st 2 0 (.t 13)]) (.ret [2]))))
def k_s_l12PkgCopy : Cfg := { tt := tt, sigs := sigs, mv := false, bm := [], eqt := eqL, keep := [true, true, true, false, false, false, false, false, false, false, false, false, false, false], n := 14, pin := [], fail := [], fz := [] }
theorem c_s_l12PkgCopy : cFun k_s_l12PkgCopy Try.f177 s_s_l12PkgCopy = some p_s_l12PkgCopy := by kernel_rfl
theorem F_s_l12PkgCopy {W : Wld} {ins outs : List (List D)} (h : pwp (FunOk PP W) p_s_l12PkgCopy (RetIs outs) (envL ins)) : FunOk PP W n_s_l12PkgCopy s_s_l12PkgCopy ins outs := fun_ok (C := k_s_l12PkgCopy) (cfg_ok rfl) (eq_ok rfl rfl) mixed Try.func177 (by kernel_rfl) (by kernel_rfl) c_s_l12PkgCopy h

def p_s_l13For : PC := .seq (.ss [.mv 6 (.c (.sl [])), .mv 7 (.c (.bool false))]) (.seq (.ss [.mk 15 [.bool false] (.c (.int .i64 5)) (.c (.int .i64 5)), .mv 8 (.t 15)]) (.seq (.ss [.mv 16 (.t 8), .mv 17 (.t 2), .elp 18 (.t 16) (.t 17) 1, .els 18 0 8 0 (.c (.bool true))]) (.seq (.seq (.ss [.mv 9 (.c (.int .i64 0))]) (.block 0 (.loop (.seq (.seq (.ss [.mv 19 (.t 9), .mv 20 (.t 1), .len 21 (.t 20), .bin 22 .lss (.t 19) (.t 21)]) (.cond (.t 22) (.skip) (.exit 0))) (.seq (.block 1 (.ss [.mv 25 (.t 8), .mv 26 (.t 1), .mv 27 (.t 9), .elp 28 (.t 26) (.t 27) 4, .mv 29 (.t 28), .eld 30 29 0 [.int .i64 0], .elp 31 (.t 25) (.t 30) 1, .els 31 0 8 0 (.c (.bool true))])) (.ss [.mv 23 (.t 9), .bin 24 .add (.t 23) (.c (.int .i64 1)), .mv 9 (.t 24)])))))) (.seq (.ss [.lit 32 0 [.int .i64 0, .int .i64 0, .sl [], .sl []] [], .mv 10 (.t 32)]) (.seq (.seq (.ss [.mv 11 (.c (.int .i64 1))]) (.block 2 (.loop (.seq (.seq (.ss [.mv 33 (.t 11), .bin 34 .leq (.t 33) (.c (.int .i64 4))]) (.cond (.t 34) (.skip) (.exit 2))) (.seq (.block 3 (.seq (.seq (.ss [.mv 37 (.t 8), .mv 38 (.t 11), .elp 39 (.t 37) (.t 38) 1, .eld 40 39 0 [.bool false], .un 41 .not (.t 40), .mv 42 (.t 41), .g 42 false 43 (.mv 43 (.t 10)), .g 42 false 44 (.mv 44 (.t 11)), .g 42 false 45 (.call 45 n_s_l13Is s_s_l13Is [(.t 43), (.t 44)] []), .pick 46 (.t 42) (.c (.bool true)) (.t 45)]) (.cond (.t 46) (.exit 3) (.skip))) (.seq (.ss [.mv 48 (.t 0), .mv 49 (.t 1), .mv 50 (.t 11), .call 51 n_s_l13Pick s_s_l13Pick [(.t 48), (.t 49), (.t 50)] [], .mv 47 (.t 51), .ext 52 47 0 4, .ext 53 47 4 1, .bld 12 [.int .i64 0, .int .i64 0, .sl [], .sl []] [], .st 12 0 (.t 52), .mv 13 (.t 53)]) (.seq (.seq (.ss [.mv 54 (.t 13), .un 55 .not (.t 54)]) (.cond (.t 55) (.seq (.ss [.lit 56 0 [.int .i64 0, .int .i64 0, .sl [], .sl []] [], .mv 6 (.t 56), .mv 7 (.c (.bool false))]) (.ret [6, 7])) (.skip))) (.seq (.ss [.mv 57 (.t 10), .sub 58 12 0 4, .call 59 n_s_l12With s_s_l12With [(.t 57), (.t 58)] [], .mv 10 (.t 59)]) (.seq (.seq (.ss [.mv 14 (.c (.int .i64 0))]) (.block 4 (.loop (.seq (.seq (.ss [.mv 60 (.t 14), .nop, .sub 62 12 3 1, .len 63 (.t 62), .bin 64 .lss (.t 60) (.t 63)]) (.cond (.t 64) (.skip) (.exit 4))) (.seq (.block 5 (.ss [.mv 67 (.t 8), .nop, .sub 69 12 3 1, .mv 70 (.t 14), .elp 71 (.t 69) (.t 70) 2, .mv 72 (.t 71), .eld 73 72 0 [.int .i64 0], .elp 74 (.t 67) (.t 73) 1, .els 74 0 8 0 (.c (.bool true))])) (.ss [.mv 65 (.t 14), .bin 66 .add (.t 65) (.c (.int .i64 1)), .mv 14 (.t 66)])))))) (.ss [.mv 11 (.c (.int .i64 0))]))))))) (.ss [.mv 35 (.t 11), .bin 36 .add (.t 35) (.c (.int .i64 1)), .mv 11 (.t 36)])))))) (.seq (.seq (.ss [.mv 75 (.t 10), .call 76 n_s_PlanOk s_s_PlanOk [(.t 75)] [], .un 77 .not (.t 76)]) (.cond (.t 77) (.seq (.ss [.lit 78 0 [.int .i64 0, .int .i64 0, .sl [], .sl []] [], .mv 6 (.t 78), .mv 7 (.c (.bool false))]) (.ret [6, 7])) (.skip))) (.seq (.ss [.mv 79 (.t 10), .mv 6 (.t 79), .mv 7 (.c (.bool true))]) (.ret [6, 7]))))))))
def k_s_l13For : Cfg := { tt := tt, sigs := sigs, mv := false, bm := [], eqt := eqL, keep := [true, true, true, false, false, false, true, true, true, true, true, true, true, true, true, false, false, false, false, false, false, false, true, false, false, false, false, false, false, false, false, false, false, false, true, false, false, false, false, false, false, false, false, false, false, false, true, false, false, false, false, false, false, false, false, true, false, false, false, false, false, false, false, false, true, false, false, false, false, false, false, false, false, false, false, false, false, true, false, false], n := 80, pin := [], fail := [], fz := [] }
theorem c_s_l13For : cFun k_s_l13For Try.f101 s_s_l13For = some p_s_l13For := by kernel_rfl
theorem F_s_l13For {W : Wld} {ins outs : List (List D)} (h : pwp (FunOk PP W) p_s_l13For (RetIs outs) (envL ins)) : FunOk PP W n_s_l13For s_s_l13For ins outs := fun_ok (C := k_s_l13For) (cfg_ok rfl) (eq_ok rfl rfl) mixed Try.func101 (by kernel_rfl) (by kernel_rfl) c_s_l13For h

def p_s_l71Plan : PC := .seq (.ss [.mv 4 (.c (.sl []))]) (.seq (.ss [.lit 9 0 [.int .i64 0, .int .i64 0, .sl [], .sl []] [], .mv 5 (.t 9)]) (.seq (.seq (.ss [.nop, .call 11 n_s_l6Rd_pick s_s_l6Rd_pick [(.t 0), (.c (.int .i64 3))] [0], .mv 6 (.t 11)]) (.block 0 (.loop (.seq (.seq (.ss [.mv 12 (.t 6), .bin 13 .gtr (.t 12) (.c (.int .i64 0))]) (.cond (.t 13) (.skip) (.exit 0))) (.seq (.block 1 (.seq (.ss [.mv 17 (.t 1), .mv 18 (.t 5), .nop, .call 20 n_s_l6Rd_pick s_s_l6Rd_pick [(.t 0), (.c (.int .i64 4))] [0], .bin 21 .add (.c (.int .i64 1)) (.t 20), .call 22 n_s_l13For s_s_l13For [(.t 17), (.t 18), (.t 21)] [], .mv 16 (.t 22), .ext 23 16 0 1, .ext 24 16 1 1, .mv 7 (.t 23), .mv 8 (.t 24)]) (.seq (.ss [.mv 25 (.t 8)]) (.cond (.t 25) (.ss [.mv 26 (.t 7), .mv 5 (.t 26)]) (.skip))))) (.ss [.mv 14 (.t 6), .bin 15 .sub (.t 14) (.c (.int .i64 1)), .mv 6 (.t 15)])))))) (.seq (.ss [.mv 27 (.t 5), .mv 4 (.t 27)]) (.ret [4, 0]))))
def k_s_l71Plan : Cfg := { tt := tt, sigs := sigs, mv := false, bm := [], eqt := eqL, keep := [true, true, false, false, true, true, true, true, true, false, false, false, false, true, false, false, false, false, false, false, false, false, false, false, false, true, false, false], n := 28, pin := [0], fail := [], fz := [] }
theorem c_s_l71Plan : cFun k_s_l71Plan Try.f84 s_s_l71Plan = some p_s_l71Plan := by kernel_rfl
theorem F_s_l71Plan {W : Wld} {ins outs : List (List D)} (h : pwp (FunOk PP W) p_s_l71Plan (RetIs outs) (envL ins)) : FunOk PP W n_s_l71Plan s_s_l71Plan ins outs := fun_ok (C := k_s_l71Plan) (cfg_ok rfl) (eq_ok rfl rfl) mixed Try.func84 (by kernel_rfl) (by kernel_rfl) c_s_l71Plan h

def p_i_Disk_do : PC := .seq (.seq (.ss [.mv 3 (.t 1)]) (.seq (.ss [.nop, .sub 5 3 0 1]) (.block 0 (.seq (.ss [.bin 7 .eql (.t 5) (.c (.int .i64 1)), .mv 6 (.t 7)]) (.cond (.t 6) (.ss [.nop, .nop, .nop, .sub 11 3 3 1, .call 12 n_i_copies s_i_copies [(.t 11)] [], .nop, .nop, .st 0 2 (.c (.bool true)), .nop, .nop, .st 0 3 (.t 12)]) (.seq (.ss [.bin 18 .eql (.t 5) (.c (.int .i64 2)), .mv 17 (.t 18)]) (.cond (.t 17) (.ss [.nop, .nop, .nop, .sub 22 0 1 1, .nop, .sub 24 3 1 1, .nop, .sub 26 3 2 1, .elp 27 (.t 22) (.t 24) 1, .els 27 0 0 1 (.t 26)]) (.seq (.ss [.bin 29 .eql (.t 5) (.c (.int .i64 3)), .mv 28 (.t 29)]) (.cond (.t 28) (.ss [.nop, .nop, .sub 32 3 3 1, .call 33 n_i_copies s_i_copies [(.t 32)] [], .nop, .nop, .st 0 0 (.t 33)]) (.seq (.ss [.bin 37 .eql (.t 5) (.c (.int .i64 4)), .mv 36 (.t 37)]) (.cond (.t 36) (.ss [.nop, .nop, .nop, .nop, .st 0 2 (.c (.bool false)), .nop, .nop, .st 0 3 (.c (.sl []))]) (.skip)))))))))))) (.ret [0])
def k_i_Disk_do : Cfg := { tt := tt, sigs := sigs, mv := false, bm := [], eqt := eqL, keep := [true, true, false, true, false, true, true, false, false, false, false, false, false, false, false, false, false, true, false, false, false, false, false, false, false, false, false, false, true, false, false, false, false, false, false, false, true, false, false, false, false, false, false, false], n := 44, pin := [0], fail := [], fz := [] }
theorem c_i_Disk_do : cFun k_i_Disk_do Try.f79 s_i_Disk_do = some p_i_Disk_do := by kernel_rfl
theorem F_i_Disk_do {W : Wld} {ins outs : List (List D)} (h : pwp (FunOk PP W) p_i_Disk_do (RetIs outs) (envL ins)) : FunOk PP W n_i_Disk_do s_i_Disk_do ins outs := fun_ok (C := k_i_Disk_do) (cfg_ok rfl) (eq_ok rfl rfl) mixed Try.func79 (by kernel_rfl) (by kernel_rfl) c_i_Disk_do h

def p_i_Disk_tear : PC := .seq (.seq (.ss [.mv 3 (.t 1)]) (.seq (.ss [.nop, .sub 5 3 0 1]) (.block 0 (.seq (.ss [.bin 7 .eql (.t 5) (.c (.int .i64 2)), .mv 6 (.t 7)]) (.cond (.t 6) (.ss [.nop, .nop, .nop, .sub 11 0 1 1, .nop, .sub 13 3 1 1, .elp 14 (.t 11) (.t 13) 1, .els 14 0 0 1 (.c (.int .i64 (-2)))]) (.seq (.ss [.bin 16 .eql (.t 5) (.c (.int .i64 3)), .mv 15 (.t 16)]) (.cond (.t 15) (.ss [.nop, .nop, .nop, .st 0 0 (.c (.sl []))]) (.skip)))))))) (.ret [0])
def k_i_Disk_tear : Cfg := { tt := tt, sigs := sigs, mv := false, bm := [], eqt := eqL, keep := [true, true, false, true, false, true, true, false, false, false, false, false, false, false, false, true, false, false, false, false], n := 20, pin := [0], fail := [], fz := [] }
theorem c_i_Disk_tear : cFun k_i_Disk_tear Try.f97 s_i_Disk_tear = some p_i_Disk_tear := by kernel_rfl
theorem F_i_Disk_tear {W : Wld} {ins outs : List (List D)} (h : pwp (FunOk PP W) p_i_Disk_tear (RetIs outs) (envL ins)) : FunOk PP W n_i_Disk_tear s_i_Disk_tear ins outs := fun_ok (C := k_i_Disk_tear) (cfg_ok rfl) (eq_ok rfl rfl) mixed Try.func97 (by kernel_rfl) (by kernel_rfl) c_i_Disk_tear h

def p_i_Disk_copied : PC := .seq (.ss [.mv 1 (.t 0), .bld 2 [.sl [], .sl [], .bool false, .sl []] []]) (.seq (.ss [.nop, .sub 4 1 0 1, .call 5 n_i_copies s_i_copies [(.t 4)] [], .nop, .sub 7 1 1 1, .call 8 n_sl_Clone_int s_sl_Clone_int [(.t 7)] [], .nop, .sub 10 1 2 1, .nop, .sub 12 1 3 1, .call 13 n_i_copies s_i_copies [(.t 12)] [], .bld 14 [.sl [], .sl [], .bool false, .sl []] [(0, (.t 5)), (1, (.t 8)), (2, (.t 10)), (3, (.t 13))], .st 2 0 (.t 14)]) (.ret [2]))
def k_i_Disk_copied : Cfg := { tt := tt, sigs := sigs, mv := false, bm := [], eqt := eqL, keep := [true, true, true, false, false, false, false, false, false, false, false, false, false, false, false], n := 15, pin := [], fail := [], fz := [] }
theorem c_i_Disk_copied : cFun k_i_Disk_copied Try.f78 s_i_Disk_copied = some p_i_Disk_copied := by kernel_rfl
theorem F_i_Disk_copied {W : Wld} {ins outs : List (List D)} (h : pwp (FunOk PP W) p_i_Disk_copied (RetIs outs) (envL ins)) : FunOk PP W n_i_Disk_copied s_i_Disk_copied ins outs := fun_ok (C := k_i_Disk_copied) (cfg_ok rfl) (eq_ok rfl rfl) mixed Try.func78 (by kernel_rfl) (by kernel_rfl) c_i_Disk_copied h

def p_i_DiskNew : PC := .seq (.ss [.bld 0 [.sl [], .sl [], .bool false, .sl []] []]) (.seq (.ss [.lit 1 1 [.int .i64 0] [(0, (.c (.int .i64 (-1))))], .call 2 n_sl_Repeat_int s_sl_Repeat_int [(.t 1), (.c (.int .i64 6))] [], .bld 3 [.sl [], .sl [], .bool false, .sl []] [(1, (.t 2))], .st 0 0 (.t 3)]) (.ret [0]))
def k_i_DiskNew : Cfg := { tt := tt, sigs := sigs, mv := false, bm := [], eqt := eqL, keep := [true, false, false, false], n := 4, pin := [], fail := [], fz := [] }
theorem c_i_DiskNew : cFun k_i_DiskNew Try.f36 s_i_DiskNew = some p_i_DiskNew := by kernel_rfl
theorem F_i_DiskNew {W : Wld} {ins outs : List (List D)} (h : pwp (FunOk PP W) p_i_DiskNew (RetIs outs) (envL ins)) : FunOk PP W n_i_DiskNew s_i_DiskNew ins outs := fun_ok (C := k_i_DiskNew) (cfg_ok rfl) (eq_ok rfl rfl) mixed Try.func36 (by kernel_rfl) (by kernel_rfl) c_i_DiskNew h

def p_i_InstTo : PC := .seq (.ss [.mv 4 (.t 0), .bld 8 [.sl [], .sl [], .bool false, .sl []] [], .mv 9 (.c (.bool false))]) (.seq (.seq (.ss [.sub 13 4 0 4, .call 14 n_i_DiskOk s_i_DiskOk [(.t 13)] [], .un 15 .not (.t 14), .mv 16 (.t 15), .g 16 false 17 (.mv 17 (.t 2)), .g 16 false 18 (.bin 18 .lss (.t 17) (.c (.int .i64 0))), .pick 19 (.t 16) (.c (.bool true)) (.t 18), .mv 20 (.t 19), .g 20 false 21 (.mv 21 (.t 1)), .g 20 false 22 (.call 22 n_sl_ContainsFunc_Step s_sl_ContainsFunc_Step [(.t 21), (.c (.fn 96 [] []))] []), .pick 23 (.t 20) (.c (.bool true)) (.t 22)]) (.cond (.t 23) (.seq (.ss [.bld 24 [.sl [], .sl [], .bool false, .sl []] [], .st 8 0 (.t 24), .mv 9 (.c (.bool false))]) (.ret [8, 9])) (.skip))) (.seq (.ss [.sub 25 4 0 4, .call 26 n_i_Disk_copied s_i_Disk_copied [(.t 25)] [], .bld 10 [.sl [], .sl [], .bool false, .sl []] [], .st 10 0 (.t 26)]) (.seq (.ss [.mv 27 (.t 2), .mv 28 (.t 1), .len 29 (.t 28), .min 30 (.t 27) (.t 29), .mv 2 (.t 30)]) (.seq (.seq (.ss [.mv 31 (.t 1), .mv 32 (.t 2), .lsl 33 4 (.t 31) none (some (.t 32)) none, .len 34 (.t 33), .mv 35 (.c (.int .i64 0))]) (.block 0 (.loop (.seq (.ss [.bin 36 .lss (.t 35) (.t 34)]) (.seq (.cond (.t 36) (.skip) (.exit 0)) (.seq (.block 1 (.seq (.ss [.elp 37 (.t 33) (.t 35) 4, .eld 38 37 0 [.int .i64 0, .int .i64 0, .int .i64 0, .sl []], .bld 12 [.int .i64 0, .int .i64 0, .int .i64 0, .sl []] [], .st 12 0 (.t 38)]) (.ss [.sub 39 12 0 4, .call 40 n_i_Disk_do s_i_Disk_do [(.t 10), (.t 39)] [10]]))) (.ss [.bin 41 .add (.t 35) (.c (.int .i64 1)), .mv 35 (.t 41)]))))))) (.seq (.seq (.ss [.mv 42 (.t 3), .mv 43 (.t 42), .g 43 true 44 (.mv 44 (.t 2)), .g 43 true 45 (.mv 45 (.t 1)), .g 43 true 46 (.len 46 (.t 45)), .g 43 true 47 (.bin 47 .lss (.t 44) (.t 46)), .pick 48 (.t 43) (.t 47) (.c (.bool false))]) (.cond (.t 48) (.ss [.mv 49 (.t 1), .mv 50 (.t 2), .elp 51 (.t 49) (.t 50) 4, .eld 52 51 0 [.int .i64 0, .int .i64 0, .int .i64 0, .sl []], .call 53 n_i_Disk_tear s_i_Disk_tear [(.t 10), (.t 52)] [10]]) (.skip))) (.seq (.ss [.sub 54 10 0 4, .st 8 0 (.t 54), .mv 9 (.c (.bool true))]) (.ret [8, 9])))))))
def k_i_InstTo : Cfg := { tt := tt, sigs := sigs, mv := false, bm := [], eqt := eqL, keep := [true, true, true, true, true, false, false, false, true, true, true, false, true, false, false, false, false, false, false, false, false, false, false, true, false, false, false, false, false, false, false, false, false, true, true, true, true, false, false, false, false, false, false, false, false, false, false, false, true, false, false, false, false, false, false], n := 55, pin := [], fail := [], fz := [] }
theorem c_i_InstTo : cFun k_i_InstTo Try.f35 s_i_InstTo = some p_i_InstTo := by kernel_rfl
theorem F_i_InstTo {W : Wld} {ins outs : List (List D)} (h : pwp (FunOk PP W) p_i_InstTo (RetIs outs) (envL ins)) : FunOk PP W n_i_InstTo s_i_InstTo ins outs := fun_ok (C := k_i_InstTo) (cfg_ok rfl) (eq_ok rfl rfl) mixed Try.func35 (by kernel_rfl) (by kernel_rfl) c_i_InstTo h

def p_i_InstMend : PC := .seq (.ss [.mv 1 (.t 0), .bld 2 [.sl [], .sl [], .bool false, .sl []] [], .mv 3 (.c (.bool false))]) (.seq (.ss [.sub 5 1 0 4, .call 6 n_i_InstMends s_i_InstMends [(.t 5)] [], .mv 4 (.t 6)]) (.seq (.ss [.sub 7 1 0 4, .mv 8 (.t 4), .mv 9 (.t 4), .len 10 (.t 9), .call 11 n_i_InstTo s_i_InstTo [(.t 7), (.t 8), (.t 10), (.c (.bool false))] [], .ext 12 11 0 4, .ext 13 11 4 1, .st 2 0 (.t 12), .mv 3 (.t 13)]) (.ret [2, 3])))
def k_i_InstMend : Cfg := { tt := tt, sigs := sigs, mv := false, bm := [], eqt := eqL, keep := [true, true, true, true, true, false, false, false, false, false, false, false, false, false], n := 14, pin := [], fail := [], fz := [] }
theorem c_i_InstMend : cFun k_i_InstMend Try.f16 s_i_InstMend = some p_i_InstMend := by kernel_rfl
theorem F_i_InstMend {W : Wld} {ins outs : List (List D)} (h : pwp (FunOk PP W) p_i_InstMend (RetIs outs) (envL ins)) : FunOk PP W n_i_InstMend s_i_InstMend ins outs := fun_ok (C := k_i_InstMend) (cfg_ok rfl) (eq_ok rfl rfl) mixed Try.func16 (by kernel_rfl) (by kernel_rfl) c_i_InstMend h

def p_i_PlanOk_1 : PC := .seq (.ss [.mv 2 (.t 0), .mv 3 (.c (.bool false))]) (.seq (.ss [.sub 4 1 0 1, .sub 5 2 0 2, .call 6 n_i_bears s_i_bears [(.t 4), (.t 5)] [], .un 7 .not (.t 6), .mv 3 (.t 7)]) (.ret [3]))
def k_i_PlanOk_1 : Cfg := { tt := tt, sigs := sigs, mv := false, bm := [], eqt := eqL, keep := [true, true, true, true, false, false, false, false], n := 8, pin := [], fail := [], fz := [] }
theorem c_i_PlanOk_1 : cFun k_i_PlanOk_1 Try.f145 s_i_PlanOk_1 = some p_i_PlanOk_1 := by kernel_rfl
theorem F_i_PlanOk_1 {W : Wld} {ins outs : List (List D)} (h : pwp (FunOk PP W) p_i_PlanOk_1 (RetIs outs) (envL ins)) : FunOk PP W n_i_PlanOk_1 s_i_PlanOk_1 ins outs := fun_ok (C := k_i_PlanOk_1) (cfg_ok rfl) (eq_ok rfl rfl) mixed Try.func145 (by kernel_rfl) (by kernel_rfl) c_i_PlanOk_1 h

def p_i_bears_1 : PC := .seq (.ss [.mv 2 (.t 0), .mv 3 (.c (.bool false))]) (.seq (.ss [.nop, .sub 5 2 0 1, .nop, .sub 7 1 0 1, .bin 8 .eql (.t 5) (.t 7), .mv 9 (.t 8), .g 9 true 10 (.nop), .g 9 true 11 (.sub 11 2 1 1), .g 9 true 12 (.nop), .g 9 true 13 (.sub 13 1 1 1), .g 9 true 14 (.bin 14 .geq (.t 11) (.t 13)), .pick 15 (.t 9) (.t 14) (.c (.bool false)), .mv 3 (.t 15)]) (.ret [3]))
def k_i_bears_1 : Cfg := { tt := tt, sigs := sigs, mv := false, bm := [], eqt := eqL, keep := [true, true, true, true, false, false, false, false, false, false, false, false, false, false, false, false], n := 16, pin := [], fail := [], fz := [] }
theorem c_i_bears_1 : cFun k_i_bears_1 Try.f183 s_i_bears_1 = some p_i_bears_1 := by kernel_rfl
theorem F_i_bears_1 {W : Wld} {ins outs : List (List D)} (h : pwp (FunOk PP W) p_i_bears_1 (RetIs outs) (envL ins)) : FunOk PP W n_i_bears_1 s_i_bears_1 ins outs := fun_ok (C := k_i_bears_1) (cfg_ok rfl) (eq_ok rfl rfl) mixed Try.func183 (by kernel_rfl) (by kernel_rfl) c_i_bears_1 h

def p_sl_ContainsFunc_Dep : PC := .seq (.ss [.mv 4 (.c (.bool false))]) (.seq (.ss [.mv 5 (.t 0), .mv 6 (.t 1), .call 7 n_sl_IndexFunc_Dep s_sl_IndexFunc_Dep [(.t 5), (.t 6)] [], .bin 8 .geq (.t 7) (.c (.int .i64 0)), .mv 4 (.t 8)]) (.ret [4]))
def k_sl_ContainsFunc_Dep : Cfg := { tt := tt, sigs := sigs, mv := false, bm := [], eqt := eqL, keep := [true, true, false, false, true, false, false, false, false], n := 9, pin := [], fail := [], fz := [] }
theorem c_sl_ContainsFunc_Dep : cFun k_sl_ContainsFunc_Dep Try.f144 s_sl_ContainsFunc_Dep = some p_sl_ContainsFunc_Dep := by kernel_rfl
theorem F_sl_ContainsFunc_Dep {W : Wld} {ins outs : List (List D)} (h : pwp (FunOk PP W) p_sl_ContainsFunc_Dep (RetIs outs) (envL ins)) : FunOk PP W n_sl_ContainsFunc_Dep s_sl_ContainsFunc_Dep ins outs := fun_ok (C := k_sl_ContainsFunc_Dep) (cfg_ok rfl) (eq_ok rfl rfl) mixed Try.func144 (by kernel_rfl) (by kernel_rfl) c_sl_ContainsFunc_Dep h

def p_sl_IndexFunc_Dep : PC := .seq (.ss [.mv 4 (.c (.int .i64 0))]) (.seq (.seq (.ss [.mv 6 (.t 0), .len 7 (.t 6), .mv 8 (.c (.int .i64 0))]) (.block 0 (.loop (.seq (.ss [.bin 9 .lss (.t 8) (.t 7)]) (.seq (.cond (.t 9) (.skip) (.exit 0)) (.seq (.block 1 (.seq (.ss [.mv 10 (.t 8), .mv 5 (.t 10)]) (.seq (.ss [.mv 11 (.t 1), .mv 12 (.t 0), .mv 13 (.t 5), .elp 14 (.t 12) (.t 13) 2, .eld 15 14 0 [.int .i64 0, .int .i64 0], .callc 16 11 n_i_PlanOk_1 s_i_PlanOk_1 [(.t 15)]]) (.cond (.t 16) (.seq (.ss [.mv 17 (.t 5), .mv 4 (.t 17)]) (.ret [4])) (.skip))))) (.ss [.bin 18 .add (.t 8) (.c (.int .i64 1)), .mv 8 (.t 18)]))))))) (.seq (.ss [.mv 4 (.c (.int .i64 (-1)))]) (.ret [4])))
def k_sl_IndexFunc_Dep : Cfg := { tt := tt, sigs := sigs, mv := false, bm := [], eqt := eqL, keep := [true, true, false, false, true, true, false, true, true, true, false, false, false, false, false, false, true, false, false], n := 19, pin := [], fail := [], fz := [] }
theorem c_sl_IndexFunc_Dep : cFun k_sl_IndexFunc_Dep Try.f181 s_sl_IndexFunc_Dep = some p_sl_IndexFunc_Dep := by kernel_rfl
theorem F_sl_IndexFunc_Dep {W : Wld} {ins outs : List (List D)} (h : pwp (FunOk PP W) p_sl_IndexFunc_Dep (RetIs outs) (envL ins)) : FunOk PP W n_sl_IndexFunc_Dep s_sl_IndexFunc_Dep ins outs := fun_ok (C := k_sl_IndexFunc_Dep) (cfg_ok rfl) (eq_ok rfl rfl) mixed Try.func181 (by kernel_rfl) (by kernel_rfl) c_sl_IndexFunc_Dep h

def p_sl_ContainsFunc_Pkg : PC := .seq (.ss [.mv 4 (.c (.bool false))]) (.seq (.ss [.mv 5 (.t 0), .mv 6 (.t 1), .call 7 n_sl_IndexFunc_Pkg s_sl_IndexFunc_Pkg [(.t 5), (.t 6)] [], .bin 8 .geq (.t 7) (.c (.int .i64 0)), .mv 4 (.t 8)]) (.ret [4]))
def k_sl_ContainsFunc_Pkg : Cfg := { tt := tt, sigs := sigs, mv := false, bm := [], eqt := eqL, keep := [true, true, false, false, true, false, false, false, false], n := 9, pin := [], fail := [], fz := [] }
theorem c_sl_ContainsFunc_Pkg : cFun k_sl_ContainsFunc_Pkg Try.f182 s_sl_ContainsFunc_Pkg = some p_sl_ContainsFunc_Pkg := by kernel_rfl
theorem F_sl_ContainsFunc_Pkg {W : Wld} {ins outs : List (List D)} (h : pwp (FunOk PP W) p_sl_ContainsFunc_Pkg (RetIs outs) (envL ins)) : FunOk PP W n_sl_ContainsFunc_Pkg s_sl_ContainsFunc_Pkg ins outs := fun_ok (C := k_sl_ContainsFunc_Pkg) (cfg_ok rfl) (eq_ok rfl rfl) mixed Try.func182 (by kernel_rfl) (by kernel_rfl) c_sl_ContainsFunc_Pkg h

def p_sl_IndexFunc_Pkg : PC := .seq (.ss [.mv 4 (.c (.int .i64 0))]) (.seq (.seq (.ss [.mv 6 (.t 0), .len 7 (.t 6), .mv 8 (.c (.int .i64 0))]) (.block 0 (.loop (.seq (.ss [.bin 9 .lss (.t 8) (.t 7)]) (.seq (.cond (.t 9) (.skip) (.exit 0)) (.seq (.block 1 (.seq (.ss [.mv 10 (.t 8), .mv 5 (.t 10)]) (.seq (.ss [.mv 11 (.t 1), .mv 12 (.t 0), .mv 13 (.t 5), .elp 14 (.t 12) (.t 13) 4, .eld 15 14 0 [.int .i64 0, .int .i64 0, .sl [], .sl []], .callc 16 11 n_i_bears_1 s_i_bears_1 [(.t 15)]]) (.cond (.t 16) (.seq (.ss [.mv 17 (.t 5), .mv 4 (.t 17)]) (.ret [4])) (.skip))))) (.ss [.bin 18 .add (.t 8) (.c (.int .i64 1)), .mv 8 (.t 18)]))))))) (.seq (.ss [.mv 4 (.c (.int .i64 (-1)))]) (.ret [4])))
def k_sl_IndexFunc_Pkg : Cfg := { tt := tt, sigs := sigs, mv := false, bm := [], eqt := eqL, keep := [true, true, false, false, true, true, false, true, true, true, false, false, false, false, false, false, true, false, false], n := 19, pin := [], fail := [], fz := [] }
theorem c_sl_IndexFunc_Pkg : cFun k_sl_IndexFunc_Pkg Try.f199 s_sl_IndexFunc_Pkg = some p_sl_IndexFunc_Pkg := by kernel_rfl
theorem F_sl_IndexFunc_Pkg {W : Wld} {ins outs : List (List D)} (h : pwp (FunOk PP W) p_sl_IndexFunc_Pkg (RetIs outs) (envL ins)) : FunOk PP W n_sl_IndexFunc_Pkg s_sl_IndexFunc_Pkg ins outs := fun_ok (C := k_sl_IndexFunc_Pkg) (cfg_ok rfl) (eq_ok rfl rfl) mixed Try.func199 (by kernel_rfl) (by kernel_rfl) c_sl_IndexFunc_Pkg h

def p_sl_ContainsFunc_int : PC := .seq (.ss [.mv 4 (.c (.bool false))]) (.seq (.ss [.mv 5 (.t 0), .mv 6 (.t 1), .call 7 n_sl_IndexFunc_int s_sl_IndexFunc_int [(.t 5), (.t 6)] [], .bin 8 .geq (.t 7) (.c (.int .i64 0)), .mv 4 (.t 8)]) (.ret [4]))
def k_sl_ContainsFunc_int : Cfg := { tt := tt, sigs := sigs, mv := false, bm := [], eqt := eqL, keep := [true, true, false, false, true, false, false, false, false], n := 9, pin := [], fail := [], fz := [] }
theorem c_sl_ContainsFunc_int : cFun k_sl_ContainsFunc_int Try.f139 s_sl_ContainsFunc_int = some p_sl_ContainsFunc_int := by kernel_rfl
theorem F_sl_ContainsFunc_int {W : Wld} {ins outs : List (List D)} (h : pwp (FunOk PP W) p_sl_ContainsFunc_int (RetIs outs) (envL ins)) : FunOk PP W n_sl_ContainsFunc_int s_sl_ContainsFunc_int ins outs := fun_ok (C := k_sl_ContainsFunc_int) (cfg_ok rfl) (eq_ok rfl rfl) mixed Try.func139 (by kernel_rfl) (by kernel_rfl) c_sl_ContainsFunc_int h

def p_sl_IndexFunc_int : PC := .seq (.ss [.mv 4 (.c (.int .i64 0))]) (.seq (.seq (.ss [.mv 6 (.t 0), .len 7 (.t 6), .mv 8 (.c (.int .i64 0))]) (.block 0 (.loop (.seq (.ss [.bin 9 .lss (.t 8) (.t 7)]) (.seq (.cond (.t 9) (.skip) (.exit 0)) (.seq (.block 1 (.seq (.ss [.mv 10 (.t 8), .mv 5 (.t 10)]) (.seq (.ss [.mv 11 (.t 1), .mv 12 (.t 0), .mv 13 (.t 5), .elp 14 (.t 12) (.t 13) 1, .eld 15 14 0 [.int .i64 0], .callc 16 11 n_i_DiskOk_1 s_i_DiskOk_1 [(.t 15)]]) (.cond (.t 16) (.seq (.ss [.mv 17 (.t 5), .mv 4 (.t 17)]) (.ret [4])) (.skip))))) (.ss [.bin 18 .add (.t 8) (.c (.int .i64 1)), .mv 8 (.t 18)]))))))) (.seq (.ss [.mv 4 (.c (.int .i64 (-1)))]) (.ret [4])))
def k_sl_IndexFunc_int : Cfg := { tt := tt, sigs := sigs, mv := false, bm := [], eqt := eqL, keep := [true, true, false, false, true, true, false, true, true, true, false, false, false, false, false, false, true, false, false], n := 19, pin := [], fail := [], fz := [] }
theorem c_sl_IndexFunc_int : cFun k_sl_IndexFunc_int Try.f178 s_sl_IndexFunc_int = some p_sl_IndexFunc_int := by kernel_rfl
theorem F_sl_IndexFunc_int {W : Wld} {ins outs : List (List D)} (h : pwp (FunOk PP W) p_sl_IndexFunc_int (RetIs outs) (envL ins)) : FunOk PP W n_sl_IndexFunc_int s_sl_IndexFunc_int ins outs := fun_ok (C := k_sl_IndexFunc_int) (cfg_ok rfl) (eq_ok rfl rfl) mixed Try.func178 (by kernel_rfl) (by kernel_rfl) c_sl_IndexFunc_int h

def p_sl_ContainsFunc_Step : PC := .seq (.ss [.mv 4 (.c (.bool false))]) (.seq (.ss [.mv 5 (.t 0), .mv 6 (.t 1), .call 7 n_sl_IndexFunc_Step s_sl_IndexFunc_Step [(.t 5), (.t 6)] [], .bin 8 .geq (.t 7) (.c (.int .i64 0)), .mv 4 (.t 8)]) (.ret [4]))
def k_sl_ContainsFunc_Step : Cfg := { tt := tt, sigs := sigs, mv := false, bm := [], eqt := eqL, keep := [true, true, false, false, true, false, false, false, false], n := 9, pin := [], fail := [], fz := [] }
theorem c_sl_ContainsFunc_Step : cFun k_sl_ContainsFunc_Step Try.f95 s_sl_ContainsFunc_Step = some p_sl_ContainsFunc_Step := by kernel_rfl
theorem F_sl_ContainsFunc_Step {W : Wld} {ins outs : List (List D)} (h : pwp (FunOk PP W) p_sl_ContainsFunc_Step (RetIs outs) (envL ins)) : FunOk PP W n_sl_ContainsFunc_Step s_sl_ContainsFunc_Step ins outs := fun_ok (C := k_sl_ContainsFunc_Step) (cfg_ok rfl) (eq_ok rfl rfl) mixed Try.func95 (by kernel_rfl) (by kernel_rfl) c_sl_ContainsFunc_Step h

def p_sl_IndexFunc_Step : PC := .seq (.ss [.mv 4 (.c (.int .i64 0))]) (.seq (.seq (.ss [.mv 6 (.t 0), .len 7 (.t 6), .mv 8 (.c (.int .i64 0))]) (.block 0 (.loop (.seq (.ss [.bin 9 .lss (.t 8) (.t 7)]) (.seq (.cond (.t 9) (.skip) (.exit 0)) (.seq (.block 1 (.seq (.ss [.mv 10 (.t 8), .mv 5 (.t 10)]) (.seq (.ss [.mv 11 (.t 1), .mv 12 (.t 0), .mv 13 (.t 5), .elp 14 (.t 12) (.t 13) 4, .eld 15 14 0 [.int .i64 0, .int .i64 0, .int .i64 0, .sl []], .callc 16 11 n_i_InstTo_1 s_i_InstTo_1 [(.t 15)]]) (.cond (.t 16) (.seq (.ss [.mv 17 (.t 5), .mv 4 (.t 17)]) (.ret [4])) (.skip))))) (.ss [.bin 18 .add (.t 8) (.c (.int .i64 1)), .mv 8 (.t 18)]))))))) (.seq (.ss [.mv 4 (.c (.int .i64 (-1)))]) (.ret [4])))
def k_sl_IndexFunc_Step : Cfg := { tt := tt, sigs := sigs, mv := false, bm := [], eqt := eqL, keep := [true, true, false, false, true, true, false, true, true, true, false, false, false, false, false, false, true, false, false], n := 19, pin := [], fail := [], fz := [] }
theorem c_sl_IndexFunc_Step : cFun k_sl_IndexFunc_Step Try.f152 s_sl_IndexFunc_Step = some p_sl_IndexFunc_Step := by kernel_rfl
theorem F_sl_IndexFunc_Step {W : Wld} {ins outs : List (List D)} (h : pwp (FunOk PP W) p_sl_IndexFunc_Step (RetIs outs) (envL ins)) : FunOk PP W n_sl_IndexFunc_Step s_sl_IndexFunc_Step ins outs := fun_ok (C := k_sl_IndexFunc_Step) (cfg_ok rfl) (eq_ok rfl rfl) mixed Try.func152 (by kernel_rfl) (by kernel_rfl) c_sl_IndexFunc_Step h

def p_s_l71Off : PC := .seq (.ss [.mv 2 (.c (.sl []))]) (.seq (.ss [.nop, .call 5 n_s_l71Pkgs s_s_l71Pkgs [(.t 0)] [0], .mv 3 (.t 5)]) (.seq (.seq (.ss [.nop, .call 7 n_s_l6Rd_pick s_s_l6Rd_pick [(.t 0), (.c (.int .i64 20))] [0]]) (.block 0 (.seq (.ss [.bin 9 .eql (.t 7) (.c (.int .i64 0)), .mv 8 (.t 9)]) (.cond (.t 8) (.ss [.mv 10 (.t 3), .nop, .call 12 n_s_l71Any s_s_l71Any [(.t 0)] [0], .lit 13 1 [.int .i64 0, .int .i64 0, .sl [], .sl []] [(0, (.t 12))], .app 14 4 false (.t 10) (.t 13), .mv 3 (.t 14)]) (.seq (.ss [.bin 16 .eql (.t 7) (.c (.int .i64 1)), .mv 15 (.t 16)]) (.cond (.t 15) (.seq (.ss [.mv 17 (.t 3), .len 18 (.t 17), .bin 19 .gtr (.t 18) (.c (.int .i64 0))]) (.cond (.t 19) (.ss [.mv 20 (.t 3), .nop, .mv 22 (.t 3), .len 23 (.t 22), .call 24 n_s_l6Rd_pick s_s_l6Rd_pick [(.t 0), (.t 23)] [0], .nop, .call 26 n_s_l71Any s_s_l71Any [(.t 0)] [0], .elp 27 (.t 20) (.t 24) 4, .els 27 0 3 0 (.t 26)]) (.skip))) (.skip))))))) (.seq (.ss [.mv 28 (.t 3), .mv 2 (.t 28)]) (.ret [2, 0]))))
def k_s_l71Off : Cfg := { tt := tt, sigs := sigs, mv := false, bm := [], eqt := eqL, keep := [true, false, true, true, false, false, false, true, true, false, false, false, false, false, false, true, false, false, false, true, false, false, false, false, false, false, false, false, false], n := 29, pin := [0], fail := [], fz := [] }
theorem c_s_l71Off : cFun k_s_l71Off Try.f140 s_s_l71Off = some p_s_l71Off := by kernel_rfl
theorem F_s_l71Off {W : Wld} {ins outs : List (List D)} (h : pwp (FunOk PP W) p_s_l71Off (RetIs outs) (envL ins)) : FunOk PP W n_s_l71Off s_s_l71Off ins outs := fun_ok (C := k_s_l71Off) (cfg_ok rfl) (eq_ok rfl rfl) mixed Try.func140 (by kernel_rfl) (by kernel_rfl) c_s_l71Off h

def p_s_l71Pkgs : PC := .seq (.ss [.mv 2 (.c (.sl []))]) (.seq (.ss [.lit 6 0 [.int .i64 0, .int .i64 0, .sl [], .sl []] [], .mv 3 (.t 6)]) (.seq (.seq (.ss [.nop, .call 8 n_s_l6Rd_pick s_s_l6Rd_pick [(.t 0), (.c (.int .i64 8))] [0], .mv 4 (.t 8)]) (.block 0 (.loop (.seq (.seq (.ss [.mv 9 (.t 4), .bin 10 .gtr (.t 9) (.c (.int .i64 0))]) (.cond (.t 10) (.skip) (.exit 0))) (.seq (.block 1 (.seq (.ss [.nop, .nop, .call 15 n_s_l6Rd_pick s_s_l6Rd_pick [(.t 0), (.c (.int .i64 4))] [0], .bin 16 .add (.c (.int .i64 1)) (.t 15), .nop, .call 18 n_s_l6Rd_pick s_s_l6Rd_pick [(.t 0), (.c (.int .i64 3))] [0], .bin 19 .add (.c (.int .i64 1)) (.t 18), .call 20 n_s_l71Pkg s_s_l71Pkg [(.t 0), (.t 16), (.t 19)] [0], .bld 5 [.int .i64 0, .int .i64 0, .sl [], .sl []] [], .st 5 0 (.t 20)]) (.seq (.ss [.mv 21 (.t 3), .nop, .sub 23 5 0 1, .nop, .sub 25 5 1 1, .call 26 n_s_l12Find s_s_l12Find [(.t 21), (.t 23), (.t 25)] [], .bin 27 .lss (.t 26) (.c (.int .i64 0))]) (.cond (.t 27) (.ss [.mv 28 (.t 3), .sub 29 5 0 4, .call 30 n_s_l12With s_s_l12With [(.t 28), (.t 29)] [], .mv 3 (.t 30)]) (.skip))))) (.ss [.mv 11 (.t 4), .bin 12 .sub (.t 11) (.c (.int .i64 1)), .mv 4 (.t 12)])))))) (.seq (.ss [.mv 31 (.t 3), .mv 2 (.t 31)]) (.ret [2, 0]))))
def k_s_l71Pkgs : Cfg := { tt := tt, sigs := sigs, mv := false, bm := [6], eqt := eqL, keep := [true, false, true, true, true, true, false, false, false, false, true, false, false, false, false, false, false, false, false, false, false, false, false, false, false, false, false, true, false, false, false, false], n := 32, pin := [0], fail := [], fz := [] }
theorem c_s_l71Pkgs : cFun k_s_l71Pkgs Try.f85 s_s_l71Pkgs = some p_s_l71Pkgs := by kernel_rfl
theorem F_s_l71Pkgs {W : Wld} {ins outs : List (List D)} (h : pwp (FunOk PP W) p_s_l71Pkgs (RetIs outs) (envL ins)) : FunOk PP W n_s_l71Pkgs s_s_l71Pkgs ins outs := fun_ok (C := k_s_l71Pkgs) (cfg_ok rfl) (eq_ok rfl rfl) mixed Try.func85 (by kernel_rfl) (by kernel_rfl) c_s_l71Pkgs h

def p_s_l12With : PC := .seq (.ss [.mv 3 (.t 1), .mv 4 (.c (.sl []))]) (.seq (.ss [.lit 8 0 [.int .i64 0, .int .i64 0, .sl [], .sl []] [], .mv 5 (.t 8)]) (.seq (.seq (.ss [.mv 6 (.c (.int .i64 0))]) (.block 0 (.loop (.seq (.seq (.ss [.mv 9 (.t 6), .mv 10 (.t 0), .len 11 (.t 10), .bin 12 .lss (.t 9) (.t 11)]) (.cond (.t 12) (.skip) (.exit 0))) (.seq (.block 1 (.seq (.ss [.mv 15 (.t 0), .mv 16 (.t 6), .elp 17 (.t 15) (.t 16) 4, .mv 18 (.t 17), .eld 19 18 0 [.int .i64 0], .mv 20 (.t 0), .mv 21 (.t 6), .elp 22 (.t 20) (.t 21) 4, .mv 23 (.t 22), .eld 24 23 1 [.int .i64 0], .nop, .sub 26 3 0 1, .nop, .sub 28 3 1 1, .call 29 n_s_l3Less s_s_l3Less [(.t 19), (.t 24), (.t 26), (.t 28)] []]) (.cond (.t 29) (.ss [.mv 30 (.t 5), .mv 31 (.t 0), .mv 32 (.t 6), .elp 33 (.t 31) (.t 32) 4, .eld 34 33 0 [.int .i64 0, .int .i64 0, .sl [], .sl []], .lit 35 1 [.int .i64 0, .int .i64 0, .sl [], .sl []] [(0, (.t 34))], .app 36 4 false (.t 30) (.t 35), .mv 5 (.t 36)]) (.skip)))) (.ss [.mv 13 (.t 6), .bin 14 .add (.t 13) (.c (.int .i64 1)), .mv 6 (.t 14)])))))) (.seq (.ss [.mv 37 (.t 5), .sub 38 3 0 4, .lit 39 1 [.int .i64 0, .int .i64 0, .sl [], .sl []] [(0, (.t 38))], .app 40 4 false (.t 37) (.t 39), .mv 5 (.t 40)]) (.seq (.seq (.ss [.mv 7 (.c (.int .i64 0))]) (.block 2 (.loop (.seq (.seq (.ss [.mv 41 (.t 7), .mv 42 (.t 0), .len 43 (.t 42), .bin 44 .lss (.t 41) (.t 43)]) (.cond (.t 44) (.skip) (.exit 2))) (.seq (.block 3 (.seq (.ss [.nop, .sub 48 3 0 1, .nop, .sub 50 3 1 1, .mv 51 (.t 0), .mv 52 (.t 7), .elp 53 (.t 51) (.t 52) 4, .mv 54 (.t 53), .eld 55 54 0 [.int .i64 0], .mv 56 (.t 0), .mv 57 (.t 7), .elp 58 (.t 56) (.t 57) 4, .mv 59 (.t 58), .eld 60 59 1 [.int .i64 0], .call 61 n_s_l3Less s_s_l3Less [(.t 48), (.t 50), (.t 55), (.t 60)] []]) (.cond (.t 61) (.ss [.mv 62 (.t 5), .mv 63 (.t 0), .mv 64 (.t 7), .elp 65 (.t 63) (.t 64) 4, .eld 66 65 0 [.int .i64 0, .int .i64 0, .sl [], .sl []], .lit 67 1 [.int .i64 0, .int .i64 0, .sl [], .sl []] [(0, (.t 66))], .app 68 4 false (.t 62) (.t 67), .mv 5 (.t 68)]) (.skip)))) (.ss [.mv 45 (.t 7), .bin 46 .add (.t 45) (.c (.int .i64 1)), .mv 7 (.t 46)])))))) (.seq (.ss [.mv 69 (.t 5), .mv 4 (.t 69)]) (.ret [4]))))))
def k_s_l12With : Cfg := { tt := tt, sigs := sigs, mv := false, bm := [8], eqt := eqL, keep := [true, true, false, true, true, true, true, true, false, false, false, false, true, false, false, false, false, false, false, false, false, false, false, false, false, false, false, false, false, true, false, false, false, false, false, false, false, false, false, false, false, false, false, false, true, false, false, false, false, false, false, false, false, false, false, false, false, false, false, false, false, true, false, false, false, false, false, false, false, false], n := 70, pin := [], fail := [], fz := [] }
theorem c_s_l12With : cFun k_s_l12With Try.f143 s_s_l12With = some p_s_l12With := by kernel_rfl
theorem F_s_l12With {W : Wld} {ins outs : List (List D)} (h : pwp (FunOk PP W) p_s_l12With (RetIs outs) (envL ins)) : FunOk PP W n_s_l12With s_s_l12With ins outs := fun_ok (C := k_s_l12With) (cfg_ok rfl) (eq_ok rfl rfl) mixed Try.func143 (by kernel_rfl) (by kernel_rfl) c_s_l12With h

def p_l_FnMendTrue : PC := .seq (.ss [.mv 2 (.c (.bool false))]) (.seq (.seq (.ss [.mv 10 (.t 0), .len 11 (.t 10), .bin 12 .gtr (.t 11) (.c (.int .i64 1048576))]) (.cond (.t 12) (.seq (.ss [.mv 2 (.c (.bool true))]) (.ret [2])) (.skip))) (.seq (.ss [.mv 13 (.t 0), .call 14 n_s_DrawInstMend s_s_DrawInstMend [(.t 13)] [], .bld 3 [.sl [], .sl [], .bool false, .sl []] [], .st 3 0 (.t 14)]) (.seq (.ss [.sub 16 3 0 4, .call 17 n_s_InstMend s_s_InstMend [(.t 16)] [], .mv 15 (.t 17), .ext 18 15 0 4, .ext 19 15 4 1, .bld 4 [.sl [], .sl [], .bool false, .sl []] [], .st 4 0 (.t 18), .mv 5 (.t 19)]) (.seq (.ss [.sub 21 3 0 4, .call 22 n_i_InstMend s_i_InstMend [(.t 21)] [], .mv 20 (.t 22), .ext 23 20 0 4, .ext 24 20 4 1, .bld 6 [.sl [], .sl [], .bool false, .sl []] [], .st 6 0 (.t 23), .mv 7 (.t 24)]) (.seq (.seq (.ss [.mv 25 (.t 7), .mv 26 (.t 5), .beq 27 true (.t 25) (.t 26), .mv 28 (.t 27), .g 28 false 29 (.sub 29 6 0 4), .g 28 false 30 (.sub 30 4 0 4), .g 28 false 31 (.call 31 n_l_luDisk s_l_luDisk [(.t 29), (.t 30)] []), .g 28 false 32 (.un 32 .not (.t 31)), .pick 33 (.t 28) (.c (.bool true)) (.t 32), .mv 34 (.t 33), .g 34 false 35 (.mv 35 (.t 7)), .g 34 false 36 (.un 36 .not (.t 35)), .pick 37 (.t 34) (.c (.bool true)) (.t 36)]) (.cond (.t 37) (.seq (.ss [.mv 38 (.t 7), .mv 39 (.t 5), .beq 40 false (.t 38) (.t 39), .mv 41 (.t 40), .g 41 true 42 (.sub 42 6 0 4), .g 41 true 43 (.sub 43 4 0 4), .g 41 true 44 (.call 44 n_l_luDisk s_l_luDisk [(.t 42), (.t 43)] []), .pick 45 (.t 41) (.t 44) (.c (.bool false)), .mv 2 (.t 45)]) (.ret [2])) (.skip))) (.seq (.ss [.sub 47 6 0 4, .call 48 n_i_InstMend s_i_InstMend [(.t 47)] [], .mv 46 (.t 48), .ext 49 46 0 4, .ext 50 46 4 1, .bld 8 [.sl [], .sl [], .bool false, .sl []] [], .st 8 0 (.t 49), .mv 9 (.t 50)]) (.seq (.seq (.ss [.mv 51 (.t 9), .un 52 .not (.t 51), .mv 53 (.t 52), .g 53 false 54 (.sub 54 8 0 4), .g 53 false 55 (.sub 55 6 0 4), .g 53 false 56 (.call 56 n_l_luDisk s_l_luDisk [(.t 54), (.t 55)] []), .g 53 false 57 (.un 57 .not (.t 56)), .pick 58 (.t 53) (.c (.bool true)) (.t 57)]) (.cond (.t 58) (.seq (.ss [.mv 2 (.c (.bool false))]) (.ret [2])) (.skip))) (.seq (.seq (.ss [.nop, .sub 60 3 2 1]) (.cond (.t 60) (.seq (.ss [.sub 61 6 0 4, .call 62 n_i_DiskTrue s_i_DiskTrue [(.t 61)] [], .mv 63 (.t 62), .g 63 true 64 (.nop), .g 63 true 65 (.sub 65 6 0 1), .g 63 true 66 (.nop), .g 63 true 67 (.sub 67 3 3 1), .g 63 true 68 (.call 68 n_l_luPkgs s_l_luPkgs [(.t 65), (.t 67)] []), .pick 69 (.t 63) (.t 68) (.c (.bool false)), .mv 2 (.t 69)]) (.ret [2])) (.skip))) (.seq (.ss [.sub 70 6 0 4, .sub 71 3 0 4, .call 72 n_l_luDisk s_l_luDisk [(.t 70), (.t 71)] [], .mv 2 (.t 72)]) (.ret [2]))))))))))
def k_l_FnMendTrue : Cfg := { tt := tt, sigs := sigs, mv := false, bm := [], eqt := eqL, keep := [true, false, true, true, true, true, true, true, true, true, false, false, true, false, false, false, false, false, false, false, false, false, false, false, false, false, false, false, false, false, false, false, false, false, false, false, false, true, false, false, false, false, false, false, false, false, false, false, false, false, false, false, false, false, false, false, false, false, true, false, true, false, false, false, false, false, false, false, false, false, false, false, false], n := 73, pin := [], fail := [], fz := [] }
theorem c_l_FnMendTrue : cFun k_l_FnMendTrue Try.f3 s_l_FnMendTrue = some p_l_FnMendTrue := by kernel_rfl
theorem F_l_FnMendTrue {W : Wld} {ins outs : List (List D)} (h : pwp (FunOk PP W) p_l_FnMendTrue (RetIs outs) (envL ins)) : FunOk PP W n_l_FnMendTrue s_l_FnMendTrue ins outs := fun_ok (C := k_l_FnMendTrue) (cfg_ok rfl) (eq_ok rfl rfl) mixed Try.func3 (by kernel_rfl) (by kernel_rfl) c_l_FnMendTrue h

def p_l_FnStepsNone : PC := .seq (.ss [.mv 2 (.c (.bool false))]) (.seq (.seq (.ss [.mv 11 (.t 0), .len 12 (.t 11), .bin 13 .gtr (.t 12) (.c (.int .i64 1048576))]) (.cond (.t 13) (.seq (.ss [.mv 2 (.c (.bool true))]) (.ret [2])) (.skip))) (.seq (.ss [.mv 15 (.t 0), .call 16 n_s_DrawInstSteps s_s_DrawInstSteps [(.t 15)] [], .mv 14 (.t 16), .ext 17 14 0 4, .ext 18 14 4 1, .bld 3 [.sl [], .sl [], .bool false, .sl []] [], .st 3 0 (.t 17), .mv 4 (.t 18)]) (.seq (.ss [.sub 19 3 0 4, .mv 20 (.t 4), .call 21 n_i_InstSteps s_i_InstSteps [(.t 19), (.t 20)] [], .mv 5 (.t 21)]) (.seq (.ss [.sub 22 3 0 4, .mv 23 (.t 4), .call 24 n_s_InstSteps s_s_InstSteps [(.t 22), (.t 23)] [], .mv 6 (.t 24)]) (.seq (.seq (.ss [.mv 25 (.t 5), .len 26 (.t 25), .mv 27 (.t 6), .len 28 (.t 27), .bin 29 .neq (.t 26) (.t 28), .mv 30 (.t 29), .g 30 false 31 (.mv 31 (.t 5)), .g 30 false 32 (.len 32 (.t 31)), .g 30 false 33 (.bin 33 .eql (.t 32) (.c (.int .i64 0))), .pick 34 (.t 30) (.c (.bool true)) (.t 33)]) (.cond (.t 34) (.seq (.ss [.mv 35 (.t 5), .len 36 (.t 35), .mv 37 (.t 6), .len 38 (.t 37), .bin 39 .eql (.t 36) (.t 38), .mv 2 (.t 39)]) (.ret [2])) (.skip))) (.seq (.ss [.sub 40 3 0 4, .nop, .sub 42 3 0 1, .call 43 n_i_InstSteps s_i_InstSteps [(.t 40), (.t 42)] [], .mv 7 (.t 43)]) (.seq (.ss [.sub 44 3 0 4, .call 45 n_i_InstSteps s_i_InstSteps [(.t 44), (.c (.sl []))] [], .mv 8 (.t 45)]) (.seq (.ss [.sub 47 3 0 4, .mv 48 (.t 8), .mv 49 (.t 8), .len 50 (.t 49), .call 51 n_i_InstTo s_i_InstTo [(.t 47), (.t 48), (.t 50), (.c (.bool false))] [], .mv 46 (.t 51), .ext 52 46 0 4, .ext 53 46 4 1, .bld 9 [.sl [], .sl [], .bool false, .sl []] [], .st 9 0 (.t 52), .mv 10 (.t 53)]) (.seq (.ss [.mv 54 (.t 7), .len 55 (.t 54), .bin 56 .eql (.t 55) (.c (.int .i64 3)), .mv 57 (.t 56), .g 57 true 58 (.mv 58 (.t 10)), .pick 59 (.t 57) (.t 58) (.c (.bool false)), .mv 60 (.t 59), .g 60 true 61 (.sub 61 9 0 4), .g 60 true 62 (.call 62 n_i_DiskNew s_i_DiskNew [] []), .g 60 true 63 (.call 63 n_l_luDisk s_l_luDisk [(.t 61), (.t 62)] []), .pick 64 (.t 60) (.t 63) (.c (.bool false)), .mv 2 (.t 64)]) (.ret [2]))))))))))
def k_l_FnStepsNone : Cfg := { tt := tt, sigs := sigs, mv := false, bm := [], eqt := eqL, keep := [true, false, true, true, true, true, true, true, true, true, true, false, false, true, false, false, false, false, false, false, false, false, false, false, false, false, false, false, false, false, false, false, false, false, true, false, false, false, false, false, false, false, false, false, false, false, false, false, false, false, false, false, false, false, false, false, false, false, false, false, false, false, false, false, false], n := 65, pin := [], fail := [], fz := [] }
theorem c_l_FnStepsNone : cFun k_l_FnStepsNone Try.f6 s_l_FnStepsNone = some p_l_FnStepsNone := by kernel_rfl
theorem F_l_FnStepsNone {W : Wld} {ins outs : List (List D)} (h : pwp (FunOk PP W) p_l_FnStepsNone (RetIs outs) (envL ins)) : FunOk PP W n_l_FnStepsNone s_l_FnStepsNone ins outs := fun_ok (C := k_l_FnStepsNone) (cfg_ok rfl) (eq_ok rfl rfl) mixed Try.func6 (by kernel_rfl) (by kernel_rfl) c_l_FnStepsNone h

def p_l_FnInstTwo : PC := .seq (.ss [.mv 4 (.c (.bool false))]) (.seq (.seq (.ss [.mv 22 (.t 0), .len 23 (.t 22), .bin 24 .gtr (.t 23) (.c (.int .i64 1048576)), .mv 25 (.t 24), .g 25 false 26 (.mv 26 (.t 1)), .g 25 false 27 (.len 27 (.t 26)), .g 25 false 28 (.bin 28 .gtr (.t 27) (.c (.int .i64 1048576))), .pick 29 (.t 25) (.c (.bool true)) (.t 28)]) (.cond (.t 29) (.seq (.ss [.mv 4 (.c (.bool true))]) (.ret [4])) (.skip))) (.seq (.ss [.mv 31 (.t 0), .call 32 n_s_DrawInstSteps s_s_DrawInstSteps [(.t 31)] [], .mv 30 (.t 32), .ext 33 30 0 4, .ext 34 30 4 1, .bld 5 [.sl [], .sl [], .bool false, .sl []] [], .st 5 0 (.t 33), .mv 6 (.t 34)]) (.seq (.ss [.mv 36 (.t 1), .call 37 n_s_DrawInstSteps s_s_DrawInstSteps [(.t 36)] [], .mv 35 (.t 37), .ext 38 35 0 4, .ext 39 35 4 1, .bld 7 [.sl [], .sl [], .bool false, .sl []] [], .st 7 0 (.t 38), .mv 8 (.t 39)]) (.seq (.ss [.sub 40 5 0 4, .mv 41 (.t 6), .call 42 n_i_InstSteps s_i_InstSteps [(.t 40), (.t 41)] [], .mv 9 (.t 42)]) (.seq (.ss [.sub 43 5 0 4, .mv 44 (.t 6), .call 45 n_s_InstSteps s_s_InstSteps [(.t 43), (.t 44)] [], .mv 10 (.t 45)]) (.seq (.seq (.ss [.mv 46 (.t 9), .len 47 (.t 46), .mv 48 (.t 10), .len 49 (.t 48), .bin 50 .neq (.t 47) (.t 49), .mv 51 (.t 50), .g 51 false 52 (.mv 52 (.t 9)), .g 51 false 53 (.len 53 (.t 52)), .g 51 false 54 (.bin 54 .eql (.t 53) (.c (.int .i64 0))), .pick 55 (.t 51) (.c (.bool true)) (.t 54), .mv 56 (.t 55), .g 56 false 57 (.mv 57 (.t 8)), .g 56 false 58 (.call 58 n_s_PlanOk s_s_PlanOk [(.t 57)] []), .g 56 false 59 (.un 59 .not (.t 58)), .pick 60 (.t 56) (.c (.bool true)) (.t 59)]) (.cond (.t 60) (.seq (.ss [.mv 61 (.t 9), .len 62 (.t 61), .mv 63 (.t 10), .len 64 (.t 63), .bin 65 .eql (.t 62) (.t 64), .mv 4 (.t 65)]) (.ret [4])) (.skip))) (.seq (.ss [.sub 67 5 0 4, .mv 68 (.t 9), .mv 69 (.t 9), .len 70 (.t 69), .call 71 n_i_InstTo s_i_InstTo [(.t 67), (.t 68), (.t 70), (.c (.bool false))] [], .mv 66 (.t 71), .ext 72 66 0 4, .ext 73 66 4 1, .bld 11 [.sl [], .sl [], .bool false, .sl []] [], .st 11 0 (.t 72), .mv 12 (.t 73)]) (.seq (.ss [.sub 74 11 0 4, .mv 75 (.t 8), .call 76 n_i_InstSteps s_i_InstSteps [(.t 74), (.t 75)] [], .mv 13 (.t 76)]) (.seq (.ss [.sub 78 11 0 4, .mv 79 (.t 13), .mv 80 (.t 13), .len 81 (.t 80), .call 82 n_i_InstTo s_i_InstTo [(.t 78), (.t 79), (.t 81), (.c (.bool false))] [], .mv 77 (.t 82), .ext 83 77 0 4, .ext 84 77 4 1, .bld 14 [.sl [], .sl [], .bool false, .sl []] [], .st 14 0 (.t 83), .mv 15 (.t 84)]) (.seq (.ss [.sub 85 5 0 4, .mv 86 (.t 8), .call 87 n_i_InstSteps s_i_InstSteps [(.t 85), (.t 86)] [], .mv 16 (.t 87)]) (.seq (.ss [.sub 89 5 0 4, .mv 90 (.t 16), .mv 91 (.t 16), .len 92 (.t 91), .call 93 n_i_InstTo s_i_InstTo [(.t 89), (.t 90), (.t 92), (.c (.bool false))] [], .mv 88 (.t 93), .ext 94 88 0 4, .ext 95 88 4 1, .bld 17 [.sl [], .sl [], .bool false, .sl []] [], .st 17 0 (.t 94), .mv 18 (.t 95)]) (.seq (.ss [.sub 96 11 0 4, .nop, .sub 98 5 0 1, .call 99 n_i_InstSteps s_i_InstSteps [(.t 96), (.t 98)] [], .mv 19 (.t 99)]) (.seq (.ss [.sub 101 11 0 4, .mv 102 (.t 19), .mv 103 (.t 19), .len 104 (.t 103), .call 105 n_i_InstTo s_i_InstTo [(.t 101), (.t 102), (.t 104), (.c (.bool false))] [], .mv 100 (.t 105), .ext 106 100 0 4, .ext 107 100 4 1, .bld 20 [.sl [], .sl [], .bool false, .sl []] [], .st 20 0 (.t 106), .mv 21 (.t 107)]) (.seq (.ss [.mv 108 (.t 15), .mv 109 (.t 108), .g 109 true 110 (.mv 110 (.t 18)), .pick 111 (.t 109) (.t 110) (.c (.bool false)), .mv 112 (.t 111), .g 112 true 113 (.mv 113 (.t 21)), .pick 114 (.t 112) (.t 113) (.c (.bool false)), .mv 115 (.t 114), .g 115 true 116 (.sub 116 14 0 4), .g 115 true 117 (.sub 117 17 0 4), .g 115 true 118 (.call 118 n_l_luDisk s_l_luDisk [(.t 116), (.t 117)] []), .pick 119 (.t 115) (.t 118) (.c (.bool false)), .mv 120 (.t 119), .g 120 true 121 (.sub 121 20 0 4), .g 120 true 122 (.sub 122 5 0 4), .g 120 true 123 (.call 123 n_l_luDisk s_l_luDisk [(.t 121), (.t 122)] []), .pick 124 (.t 120) (.t 123) (.c (.bool false)), .mv 4 (.t 124)]) (.ret [4])))))))))))))))
def k_l_FnInstTwo : Cfg := { tt := tt, sigs := sigs, mv := false, bm := [], eqt := eqL, keep := [true, true, false, false, true, true, true, true, true, true, true, true, false, true, true, true, true, true, true, true, true, true, false, false, false, false, false, false, false, true, false, false, false, false, false, false, false, false, false, false, false, false, false, false, false, false, false, false, false, false, false, false, false, false, false, false, false, false, false, false, true, false, false, false, false, false, false, false, false, false, false, false, false, false, false, false, false, false, false, false, false, false, false, false, false, false, false, false, false, false, false, false, false, false, false, false, false, false, false, false, false, false, false, false, false, false, false, false, false, false, false, false, false, false, false, false, false, false, false, false, false, false, false, false, false], n := 125, pin := [], fail := [], fz := [] }
theorem c_l_FnInstTwo : cFun k_l_FnInstTwo Try.f5 s_l_FnInstTwo = some p_l_FnInstTwo := by kernel_rfl
theorem F_l_FnInstTwo {W : Wld} {ins outs : List (List D)} (h : pwp (FunOk PP W) p_l_FnInstTwo (RetIs outs) (envL ins)) : FunOk PP W n_l_FnInstTwo s_l_FnInstTwo ins outs := fun_ok (C := k_l_FnInstTwo) (cfg_ok rfl) (eq_ok rfl rfl) mixed Try.func5 (by kernel_rfl) (by kernel_rfl) c_l_FnInstTwo h

def p_l_FnCutMend : PC := .seq (.ss [.mv 4 (.c (.bool false))]) (.seq (.seq (.ss [.mv 14 (.t 0), .len 15 (.t 14), .bin 16 .gtr (.t 15) (.c (.int .i64 1048576)), .mv 17 (.t 16), .g 17 false 18 (.mv 18 (.t 1)), .g 17 false 19 (.len 19 (.t 18)), .g 17 false 20 (.bin 20 .gtr (.t 19) (.c (.int .i64 1048576))), .pick 21 (.t 17) (.c (.bool true)) (.t 20)]) (.cond (.t 21) (.seq (.ss [.mv 4 (.c (.bool true))]) (.ret [4])) (.skip))) (.seq (.ss [.mv 23 (.t 0), .call 24 n_s_DrawInstSteps s_s_DrawInstSteps [(.t 23)] [], .mv 22 (.t 24), .ext 25 22 0 4, .ext 26 22 4 1, .bld 5 [.sl [], .sl [], .bool false, .sl []] [], .st 5 0 (.t 25), .mv 6 (.t 26)]) (.seq (.ss [.sub 27 5 0 4, .mv 28 (.t 6), .call 29 n_i_InstSteps s_i_InstSteps [(.t 27), (.t 28)] [], .mv 7 (.t 29)]) (.seq (.ss [.sub 30 5 0 4, .mv 31 (.t 6), .call 32 n_s_InstSteps s_s_InstSteps [(.t 30), (.t 31)] [], .mv 8 (.t 32)]) (.seq (.seq (.ss [.mv 33 (.t 7), .len 34 (.t 33), .mv 35 (.t 8), .len 36 (.t 35), .bin 37 .neq (.t 34) (.t 36), .mv 38 (.t 37), .g 38 false 39 (.mv 39 (.t 7)), .g 38 false 40 (.len 40 (.t 39)), .g 38 false 41 (.bin 41 .eql (.t 40) (.c (.int .i64 0))), .pick 42 (.t 38) (.c (.bool true)) (.t 41)]) (.cond (.t 42) (.seq (.ss [.mv 43 (.t 7), .len 44 (.t 43), .mv 45 (.t 8), .len 46 (.t 45), .bin 47 .eql (.t 44) (.t 46), .mv 4 (.t 47)]) (.ret [4])) (.skip))) (.seq (.ss [.mv 48 (.t 1), .len 49 (.t 48), .mv 50 (.t 7), .len 51 (.t 50), .bin 52 .add (.t 51) (.c (.int .i64 1)), .bin 53 .rem (.t 49) (.t 52), .mv 9 (.t 53)]) (.seq (.ss [.sub 55 5 0 4, .mv 56 (.t 7), .mv 57 (.t 9), .mv 58 (.t 1), .len 59 (.t 58), .bin 60 .rem (.t 59) (.c (.int .i64 2)), .bin 61 .eql (.t 60) (.c (.int .i64 0)), .call 62 n_i_InstTo s_i_InstTo [(.t 55), (.t 56), (.t 57), (.t 61)] [], .mv 54 (.t 62), .ext 63 54 0 4, .ext 64 54 4 1, .bld 10 [.sl [], .sl [], .bool false, .sl []] [], .st 10 0 (.t 63), .mv 11 (.t 64)]) (.seq (.ss [.sub 66 10 0 4, .call 67 n_i_InstMend s_i_InstMend [(.t 66)] [], .mv 65 (.t 67), .ext 68 65 0 4, .ext 69 65 4 1, .bld 12 [.sl [], .sl [], .bool false, .sl []] [], .st 12 0 (.t 68), .mv 13 (.t 69)]) (.seq (.seq (.ss [.mv 70 (.t 11), .un 71 .not (.t 70), .mv 72 (.t 71), .g 72 false 73 (.mv 73 (.t 13)), .g 72 false 74 (.un 74 .not (.t 73)), .pick 75 (.t 72) (.c (.bool true)) (.t 74), .mv 76 (.t 75), .g 76 false 77 (.sub 77 12 0 4), .g 76 false 78 (.call 78 n_i_DiskTrue s_i_DiskTrue [(.t 77)] []), .g 76 false 79 (.un 79 .not (.t 78)), .pick 80 (.t 76) (.c (.bool true)) (.t 79)]) (.cond (.t 80) (.seq (.ss [.mv 4 (.c (.bool false))]) (.ret [4])) (.skip))) (.seq (.seq (.ss [.mv 81 (.t 9), .bin 82 .eql (.t 81) (.c (.int .i64 0))]) (.cond (.t 82) (.seq (.ss [.sub 83 12 0 4, .sub 84 5 0 4, .call 85 n_l_luDisk s_l_luDisk [(.t 83), (.t 84)] [], .mv 4 (.t 85)]) (.ret [4])) (.skip))) (.seq (.ss [.nop, .sub 87 12 0 1, .mv 88 (.t 6), .call 89 n_l_luPkgs s_l_luPkgs [(.t 87), (.t 88)] [], .mv 4 (.t 89)]) (.ret [4]))))))))))))
def k_l_FnCutMend : Cfg := { tt := tt, sigs := sigs, mv := false, bm := [], eqt := eqL, keep := [true, true, false, false, true, true, true, true, true, true, true, true, true, true, false, false, false, false, false, false, false, true, false, false, false, false, false, false, false, false, false, false, false, false, false, false, false, false, false, false, false, false, true, false, false, false, false, false, false, false, false, false, false, false, false, false, false, false, false, false, false, false, false, false, false, false, false, false, false, false, false, false, false, false, false, false, false, false, false, false, true, false, true, false, false, false, false, false, false, false], n := 90, pin := [], fail := [], fz := [] }
theorem c_l_FnCutMend : cFun k_l_FnCutMend Try.f8 s_l_FnCutMend = some p_l_FnCutMend := by kernel_rfl
theorem F_l_FnCutMend {W : Wld} {ins outs : List (List D)} (h : pwp (FunOk PP W) p_l_FnCutMend (RetIs outs) (envL ins)) : FunOk PP W n_l_FnCutMend s_l_FnCutMend ins outs := fun_ok (C := k_l_FnCutMend) (cfg_ok rfl) (eq_ok rfl rfl) mixed Try.func8 (by kernel_rfl) (by kernel_rfl) c_l_FnCutMend h

def p_s_l71Disk : PC := .seq (.ss [.bld 2 [.sl [], .sl [], .bool false, .sl []] [], .mv 3 (.c (.sl []))]) (.seq (.ss [.nop, .call 8 n_s_l71Pkgs s_s_l71Pkgs [(.t 0)] [0], .mv 4 (.t 8)]) (.seq (.ss [.call 9 n_s_DiskNew s_s_DiskNew [] [], .bld 5 [.sl [], .sl [], .bool false, .sl []] [], .st 5 0 (.t 9)]) (.seq (.ss [.sub 10 5 0 4, .sub 11 5 0 4, .nop, .mv 13 (.t 4), .call 14 n_s_l71Plan s_s_l71Plan [(.t 0), (.t 13)] [0], .call 15 n_s_l22Steps s_s_l22Steps [(.t 11), (.t 14)] [], .call 16 n_s_l22To s_s_l22To [(.t 10), (.t 15), (.c (.int .i64 20)), (.c (.bool false))] [], .st 5 0 (.t 16)]) (.seq (.ss [.nop, .nop, .call 19 n_s_l71Pkgs s_s_l71Pkgs [(.t 0)] [0], .call 20 n_s_l71Plan s_s_l71Plan [(.t 0), (.t 19)] [0], .mv 6 (.t 20)]) (.seq (.seq (.ss [.nop, .call 22 n_s_l6Rd_pick s_s_l6Rd_pick [(.t 0), (.c (.int .i64 3))] [0], .bin 23 .gtr (.t 22) (.c (.int .i64 0))]) (.cond (.t 23) (.ss [.sub 24 5 0 4, .sub 25 5 0 4, .mv 26 (.t 6), .call 27 n_s_l22Steps s_s_l22Steps [(.t 25), (.t 26)] [], .nop, .call 29 n_s_l6Rd_pick s_s_l6Rd_pick [(.t 0), (.c (.int .i64 8))] [0], .nop, .call 31 n_s_l6Rd_pick s_s_l6Rd_pick [(.t 0), (.c (.int .i64 2))] [0], .bin 32 .eql (.t 31) (.c (.int .i64 0)), .call 33 n_s_l22To s_s_l22To [(.t 24), (.t 27), (.t 29), (.t 32)] [], .st 5 0 (.t 33)]) (.skip))) (.seq (.seq (.ss [.nop, .call 35 n_s_l6Rd_pick s_s_l6Rd_pick [(.t 0), (.c (.int .i64 24))] [0]]) (.block 0 (.seq (.ss [.bin 37 .eql (.t 35) (.c (.int .i64 0)), .mv 36 (.t 37)]) (.cond (.t 36) (.ss [.nop, .sub 39 5 1 1, .nop, .nop, .sub 42 5 1 1, .len 43 (.t 42), .call 44 n_s_l6Rd_pick s_s_l6Rd_pick [(.t 0), (.t 43)] [0], .lit 45 4 [.int .i64 0] [(0, (.c (.int .i64 (-3)))), (1, (.c (.int .i64 0))), (2, (.c (.int .i64 5))), (3, (.c (.int .i64 10)))], .nop, .call 47 n_s_l6Rd_pick s_s_l6Rd_pick [(.t 0), (.c (.int .i64 4))] [0], .elp 48 (.t 45) (.t 47) 1, .eld 49 48 0 [.int .i64 0], .elp 50 (.t 39) (.t 44) 1, .els 50 0 5 1 (.t 49)]) (.seq (.ss [.bin 52 .eql (.t 35) (.c (.int .i64 1)), .mv 51 (.t 52)]) (.cond (.t 51) (.ss [.nop, .sub 54 5 2 1, .un 55 .not (.t 54), .nop, .st 5 2 (.t 55)]) (.seq (.ss [.bin 58 .eql (.t 35) (.c (.int .i64 2)), .mv 57 (.t 58)]) (.cond (.t 57) (.ss [.nop, .sub 60 5 1 1, .lsl 61 1 (.t 60) (some (.c (.int .i64 1))) none none, .nop, .st 5 1 (.t 61)]) (.seq (.ss [.bin 64 .eql (.t 35) (.c (.int .i64 3)), .mv 63 (.t 64)]) (.cond (.t 63) (.ss [.nop, .call 66 n_s_l71Off s_s_l71Off [(.t 0)] [0], .nop, .st 5 0 (.t 66)]) (.skip))))))))))) (.seq (.ss [.sub 68 5 0 4, .mv 69 (.t 6), .st 2 0 (.t 68), .mv 3 (.t 69)]) (.ret [2, 3, 0]))))))))
def k_s_l71Disk : Cfg := { tt := tt, sigs := sigs, mv := false, bm := [], eqt := eqL, keep := [true, false, true, true, true, true, true, false, false, false, false, false, false, false, false, false, false, false, false, false, false, false, false, true, false, false, false, false, false, false, false, false, false, false, false, true, true, false, false, false, false, false, false, false, false, false, false, false, false, false, false, true, false, false, false, false, false, true, false, false, false, false, false, true, false, false, false, false, false, false], n := 70, pin := [0], fail := [], fz := [13] }
theorem c_s_l71Disk : cFun k_s_l71Disk Try.f82 s_s_l71Disk = some p_s_l71Disk := by kernel_rfl
theorem F_s_l71Disk {W : Wld} {ins outs : List (List D)} (h : pwp (FunOk PP W) p_s_l71Disk (RetIs outs) (envL ins)) : FunOk PP W n_s_l71Disk s_s_l71Disk ins outs := fun_ok (C := k_s_l71Disk) (cfg_ok rfl) (eq_ok rfl rfl) mixed Try.func82 (by kernel_rfl) (by kernel_rfl) c_s_l71Disk h

def p_s_DrawDiskOk : PC := .seq (.ss [.bld 2 [.sl [], .sl [], .bool false, .sl []] []]) (.seq (.ss [.mv 6 (.t 0), .call 7 n_s_l6Open s_s_l6Open [(.t 6)] [], .call 8 n_s_l71Disk s_s_l71Disk [(.t 7)] [7], .mv 5 (.t 8), .ext 9 5 0 4, .ext 10 5 4 1, .bld 3 [.sl [], .sl [], .bool false, .sl []] [], .st 3 0 (.t 9), .mv 4 (.t 10)]) (.seq (.ss [.sub 11 3 0 4, .st 2 0 (.t 11)]) (.ret [2])))
def k_s_DrawDiskOk : Cfg := { tt := tt, sigs := sigs, mv := false, bm := [], eqt := eqL, keep := [true, false, true, true, false, false, false, true, false, false, false, false], n := 12, pin := [], fail := [], fz := [] }
theorem c_s_DrawDiskOk : cFun k_s_DrawDiskOk Try.f64 s_s_DrawDiskOk = some p_s_DrawDiskOk := by kernel_rfl
theorem F_s_DrawDiskOk {W : Wld} {ins outs : List (List D)} (h : pwp (FunOk PP W) p_s_DrawDiskOk (RetIs outs) (envL ins)) : FunOk PP W n_s_DrawDiskOk s_s_DrawDiskOk ins outs := fun_ok (C := k_s_DrawDiskOk) (cfg_ok rfl) (eq_ok rfl rfl) mixed Try.func64 (by kernel_rfl) (by kernel_rfl) c_s_DrawDiskOk h

def p_s_DrawInstMend : PC := .seq (.ss [.bld 2 [.sl [], .sl [], .bool false, .sl []] []]) (.seq (.ss [.mv 3 (.t 0), .call 4 n_s_DrawDiskOk s_s_DrawDiskOk [(.t 3)] [], .st 2 0 (.t 4)]) (.ret [2]))
def k_s_DrawInstMend : Cfg := { tt := tt, sigs := sigs, mv := false, bm := [], eqt := eqL, keep := [true, false, true, false, false], n := 5, pin := [], fail := [], fz := [] }
theorem c_s_DrawInstMend : cFun k_s_DrawInstMend Try.f14 s_s_DrawInstMend = some p_s_DrawInstMend := by kernel_rfl
theorem F_s_DrawInstMend {W : Wld} {ins outs : List (List D)} (h : pwp (FunOk PP W) p_s_DrawInstMend (RetIs outs) (envL ins)) : FunOk PP W n_s_DrawInstMend s_s_DrawInstMend ins outs := fun_ok (C := k_s_DrawInstMend) (cfg_ok rfl) (eq_ok rfl rfl) mixed Try.func14 (by kernel_rfl) (by kernel_rfl) c_s_DrawInstMend h

def p_s_InstMend : PC := .seq (.ss [.mv 1 (.t 0), .bld 2 [.sl [], .sl [], .bool false, .sl []] [], .mv 3 (.c (.bool false))]) (.seq (.seq (.ss [.sub 5 1 0 4, .call 6 n_s_DiskOk s_s_DiskOk [(.t 5)] [], .un 7 .not (.t 6)]) (.cond (.t 7) (.seq (.ss [.bld 8 [.sl [], .sl [], .bool false, .sl []] [], .st 2 0 (.t 8), .mv 3 (.c (.bool false))]) (.ret [2, 3])) (.skip))) (.seq (.ss [.sub 9 1 0 4, .call 10 n_s_l22Mends s_s_l22Mends [(.t 9)] [], .mv 4 (.t 10)]) (.seq (.ss [.sub 11 1 0 4, .call 12 n_s_l21Copy s_s_l21Copy [(.t 11)] [], .mv 13 (.t 4), .mv 14 (.t 4), .len 15 (.t 14), .call 16 n_s_l22To s_s_l22To [(.t 12), (.t 13), (.t 15), (.c (.bool false))] [], .st 2 0 (.t 16), .mv 3 (.c (.bool true))]) (.ret [2, 3]))))
def k_s_InstMend : Cfg := { tt := tt, sigs := sigs, mv := false, bm := [], eqt := eqL, keep := [true, true, true, true, true, false, false, true, false, false, false, false, false, false, false, false, false], n := 17, pin := [], fail := [], fz := [] }
theorem c_s_InstMend : cFun k_s_InstMend Try.f15 s_s_InstMend = some p_s_InstMend := by kernel_rfl
theorem F_s_InstMend {W : Wld} {ins outs : List (List D)} (h : pwp (FunOk PP W) p_s_InstMend (RetIs outs) (envL ins)) : FunOk PP W n_s_InstMend s_s_InstMend ins outs := fun_ok (C := k_s_InstMend) (cfg_ok rfl) (eq_ok rfl rfl) mixed Try.func15 (by kernel_rfl) (by kernel_rfl) c_s_InstMend h

def p_l_luDisk : PC := .seq (.ss [.mv 2 (.t 0), .mv 3 (.t 1), .mv 4 (.c (.bool false))]) (.seq (.ss [.nop, .sub 6 2 0 1, .nop, .sub 8 3 0 1, .call 9 n_l_luPkgs s_l_luPkgs [(.t 6), (.t 8)] [], .mv 10 (.t 9), .g 10 true 11 (.nop), .g 10 true 12 (.sub 12 2 1 1), .g 10 true 13 (.nop), .g 10 true 14 (.sub 14 3 1 1), .g 10 true 15 (.call 15 n_l_luInts s_l_luInts [(.t 12), (.t 14)] []), .pick 16 (.t 10) (.t 15) (.c (.bool false)), .mv 17 (.t 16), .g 17 true 18 (.nop), .g 17 true 19 (.sub 19 2 2 1), .g 17 true 20 (.nop), .g 17 true 21 (.sub 21 3 2 1), .g 17 true 22 (.beq 22 false (.t 19) (.t 21)), .pick 23 (.t 17) (.t 22) (.c (.bool false)), .mv 24 (.t 23), .g 24 true 25 (.nop), .g 24 true 26 (.sub 26 2 3 1), .g 24 true 27 (.nop), .g 24 true 28 (.sub 28 3 3 1), .g 24 true 29 (.call 29 n_l_luPkgs s_l_luPkgs [(.t 26), (.t 28)] []), .pick 30 (.t 24) (.t 29) (.c (.bool false)), .mv 4 (.t 30)]) (.ret [4]))
def k_l_luDisk : Cfg := { tt := tt, sigs := sigs, mv := false, bm := [], eqt := eqL, keep := [true, true, true, true, true, false, false, false, false, false, false, false, false, false, false, false, false, false, false, false, false, false, false, false, false, false, false, false, false, false, false], n := 31, pin := [], fail := [], fz := [] }
theorem c_l_luDisk : cFun k_l_luDisk Try.f17 s_l_luDisk = some p_l_luDisk := by kernel_rfl
theorem F_l_luDisk {W : Wld} {ins outs : List (List D)} (h : pwp (FunOk PP W) p_l_luDisk (RetIs outs) (envL ins)) : FunOk PP W n_l_luDisk s_l_luDisk ins outs := fun_ok (C := k_l_luDisk) (cfg_ok rfl) (eq_ok rfl rfl) mixed Try.func17 (by kernel_rfl) (by kernel_rfl) c_l_luDisk h

def p_i_DiskTrue : PC := .seq (.ss [.mv 1 (.t 0), .mv 2 (.c (.bool false))]) (.seq (.ss [.sub 3 1 0 4, .call 4 n_i_DiskOk s_i_DiskOk [(.t 3)] [], .mv 5 (.t 4), .g 5 true 6 (.nop), .g 5 true 7 (.sub 7 1 2 1), .g 5 true 8 (.un 8 .not (.t 7)), .pick 9 (.t 5) (.t 8) (.c (.bool false)), .mv 10 (.t 9), .g 10 true 11 (.nop), .g 10 true 12 (.sub 12 1 1 1), .g 10 true 13 (.nop), .g 10 true 14 (.sub 14 1 0 1), .g 10 true 15 (.call 15 n_i_PlanFiles s_i_PlanFiles [(.t 14)] []), .g 10 true 16 (.call 16 n_sl_Equal_int s_sl_Equal_int [(.t 12), (.t 15)] []), .pick 17 (.t 10) (.t 16) (.c (.bool false)), .mv 2 (.t 17)]) (.ret [2]))
def k_i_DiskTrue : Cfg := { tt := tt, sigs := sigs, mv := false, bm := [], eqt := eqL, keep := [true, true, true, false, false, false, false, false, false, false, false, false, false, false, false, false, false, false], n := 18, pin := [], fail := [], fz := [] }
theorem c_i_DiskTrue : cFun k_i_DiskTrue Try.f18 s_i_DiskTrue = some p_i_DiskTrue := by kernel_rfl
theorem F_i_DiskTrue {W : Wld} {ins outs : List (List D)} (h : pwp (FunOk PP W) p_i_DiskTrue (RetIs outs) (envL ins)) : FunOk PP W n_i_DiskTrue s_i_DiskTrue ins outs := fun_ok (C := k_i_DiskTrue) (cfg_ok rfl) (eq_ok rfl rfl) mixed Try.func18 (by kernel_rfl) (by kernel_rfl) c_i_DiskTrue h

def p_l_luPkgs : PC := .seq (.ss [.mv 4 (.c (.bool false))]) (.seq (.seq (.ss [.mv 6 (.t 0), .len 7 (.t 6), .mv 8 (.t 1), .len 9 (.t 8), .bin 10 .neq (.t 7) (.t 9)]) (.cond (.t 10) (.seq (.ss [.mv 4 (.c (.bool false))]) (.ret [4])) (.skip))) (.seq (.seq (.ss [.mv 5 (.c (.int .i64 0))]) (.block 0 (.loop (.seq (.seq (.ss [.mv 11 (.t 5), .mv 12 (.t 0), .len 13 (.t 12), .bin 14 .lss (.t 11) (.t 13)]) (.cond (.t 14) (.skip) (.exit 0))) (.seq (.block 1 (.seq (.ss [.mv 17 (.t 0), .mv 18 (.t 5), .elp 19 (.t 17) (.t 18) 4, .eld 20 19 0 [.int .i64 0, .int .i64 0, .sl [], .sl []], .mv 21 (.t 1), .mv 22 (.t 5), .elp 23 (.t 21) (.t 22) 4, .eld 24 23 0 [.int .i64 0, .int .i64 0, .sl [], .sl []], .call 25 n_l_luPkg s_l_luPkg [(.t 20), (.t 24)] [], .un 26 .not (.t 25)]) (.cond (.t 26) (.seq (.ss [.mv 4 (.c (.bool false))]) (.ret [4])) (.skip)))) (.ss [.mv 15 (.t 5), .bin 16 .add (.t 15) (.c (.int .i64 1)), .mv 5 (.t 16)])))))) (.seq (.ss [.mv 4 (.c (.bool true))]) (.ret [4]))))
def k_l_luPkgs : Cfg := { tt := tt, sigs := sigs, mv := false, bm := [], eqt := eqL, keep := [true, true, false, false, true, true, false, false, false, false, true, false, false, false, true, false, false, false, false, false, false, false, false, false, false, false, true], n := 27, pin := [], fail := [], fz := [] }
theorem c_l_luPkgs : cFun k_l_luPkgs Try.f19 s_l_luPkgs = some p_l_luPkgs := by kernel_rfl
theorem F_l_luPkgs {W : Wld} {ins outs : List (List D)} (h : pwp (FunOk PP W) p_l_luPkgs (RetIs outs) (envL ins)) : FunOk PP W n_l_luPkgs s_l_luPkgs ins outs := fun_ok (C := k_l_luPkgs) (cfg_ok rfl) (eq_ok rfl rfl) mixed Try.func19 (by kernel_rfl) (by kernel_rfl) c_l_luPkgs h

def p_i_InstSteps : PC := .seq (.ss [.mv 2 (.t 0), .mv 4 (.c (.sl []))]) (.seq (.seq (.ss [.sub 5 2 0 4, .call 6 n_i_DiskTrue s_i_DiskTrue [(.t 5)] [], .un 7 .not (.t 6), .mv 8 (.t 7), .g 8 false 9 (.mv 9 (.t 1)), .g 8 false 10 (.call 10 n_i_PlanOk s_i_PlanOk [(.t 9)] []), .g 8 false 11 (.un 11 .not (.t 10)), .pick 12 (.t 8) (.c (.bool true)) (.t 11)]) (.cond (.t 12) (.seq (.ss [.mv 4 (.c (.sl []))]) (.ret [4])) (.skip))) (.seq (.ss [.mv 13 (.t 1), .call 14 n_i_copies s_i_copies [(.t 13)] [], .bld 15 [.int .i64 0, .int .i64 0, .int .i64 0, .sl []] [(0, (.c (.int .i64 1))), (3, (.t 14))], .lit 16 1 [.int .i64 0, .int .i64 0, .int .i64 0, .sl []] [(0, (.t 15))], .sub 17 2 0 4, .mv 18 (.t 1), .call 19 n_i_stepsFor s_i_stepsFor [(.t 17), (.t 18)] [], .app 20 4 false (.t 16) (.t 19), .mv 4 (.t 20)]) (.ret [4])))
def k_i_InstSteps : Cfg := { tt := tt, sigs := sigs, mv := false, bm := [], eqt := eqL, keep := [true, true, true, false, true, false, false, false, false, false, false, false, true, false, false, false, false, false, false, false, false], n := 21, pin := [], fail := [], fz := [] }
theorem c_i_InstSteps : cFun k_i_InstSteps Try.f32 s_i_InstSteps = some p_i_InstSteps := by kernel_rfl
theorem F_i_InstSteps {W : Wld} {ins outs : List (List D)} (h : pwp (FunOk PP W) p_i_InstSteps (RetIs outs) (envL ins)) : FunOk PP W n_i_InstSteps s_i_InstSteps ins outs := fun_ok (C := k_i_InstSteps) (cfg_ok rfl) (eq_ok rfl rfl) mixed Try.func32 (by kernel_rfl) (by kernel_rfl) c_i_InstSteps h

def p_s_InstSteps : PC := .seq (.ss [.mv 2 (.t 0), .mv 4 (.c (.sl []))]) (.seq (.seq (.ss [.sub 5 2 0 4, .call 6 n_s_DiskTrue s_s_DiskTrue [(.t 5)] [], .un 7 .not (.t 6), .mv 8 (.t 7), .g 8 false 9 (.mv 9 (.t 1)), .g 8 false 10 (.call 10 n_s_PlanOk s_s_PlanOk [(.t 9)] []), .g 8 false 11 (.un 11 .not (.t 10)), .pick 12 (.t 8) (.c (.bool true)) (.t 11)]) (.cond (.t 12) (.seq (.ss [.lit 13 0 [.int .i64 0, .int .i64 0, .int .i64 0, .sl []] [], .mv 4 (.t 13)]) (.ret [4])) (.skip))) (.seq (.ss [.sub 14 2 0 4, .mv 15 (.t 1), .call 16 n_s_l22Steps s_s_l22Steps [(.t 14), (.t 15)] [], .mv 4 (.t 16)]) (.ret [4])))
def k_s_InstSteps : Cfg := { tt := tt, sigs := sigs, mv := false, bm := [], eqt := eqL, keep := [true, true, true, false, true, false, false, false, false, false, false, false, true, false, false, false, false], n := 17, pin := [], fail := [], fz := [] }
theorem c_s_InstSteps : cFun k_s_InstSteps Try.f33 s_s_InstSteps = some p_s_InstSteps := by kernel_rfl
theorem F_s_InstSteps {W : Wld} {ins outs : List (List D)} (h : pwp (FunOk PP W) p_s_InstSteps (RetIs outs) (envL ins)) : FunOk PP W n_s_InstSteps s_s_InstSteps ins outs := fun_ok (C := k_s_InstSteps) (cfg_ok rfl) (eq_ok rfl rfl) mixed Try.func33 (by kernel_rfl) (by kernel_rfl) c_s_InstSteps h

def p_s_PlanOk : PC := .seq (.ss [.mv 2 (.c (.bool false))]) (.seq (.seq (.ss [.mv 6 (.t 0), .call 7 n_s_StoreOk s_s_StoreOk [(.t 6)] [], .un 8 .not (.t 7), .mv 9 (.t 8), .g 9 false 10 (.mv 10 (.t 0)), .g 9 false 11 (.call 11 n_s_l13One s_s_l13One [(.t 10)] []), .g 9 false 12 (.un 12 .not (.t 11)), .pick 13 (.t 9) (.c (.bool true)) (.t 12)]) (.cond (.t 13) (.seq (.ss [.mv 2 (.c (.bool false))]) (.ret [2])) (.skip))) (.seq (.seq (.ss [.mv 3 (.c (.int .i64 0))]) (.block 0 (.loop (.seq (.seq (.ss [.mv 14 (.t 3), .mv 15 (.t 0), .len 16 (.t 15), .bin 17 .lss (.t 14) (.t 16)]) (.cond (.t 17) (.skip) (.exit 0))) (.seq (.block 1 (.seq (.seq (.ss [.mv 4 (.c (.int .i64 0))]) (.block 2 (.loop (.seq (.seq (.ss [.mv 20 (.t 4), .mv 21 (.t 0), .mv 22 (.t 3), .elp 23 (.t 21) (.t 22) 4, .mv 24 (.t 23), .eld 25 24 3 [.sl []], .len 26 (.t 25), .bin 27 .lss (.t 20) (.t 26)]) (.cond (.t 27) (.skip) (.exit 2))) (.seq (.block 3 (.seq (.ss [.mv 30 (.t 0), .mv 31 (.t 0), .mv 32 (.t 3), .elp 33 (.t 31) (.t 32) 4, .mv 34 (.t 33), .eld 35 34 3 [.sl []], .mv 36 (.t 4), .elp 37 (.t 35) (.t 36) 2, .eld 38 37 0 [.int .i64 0, .int .i64 0], .call 39 n_s_l13Meets s_s_l13Meets [(.t 30), (.t 38)] [], .un 40 .not (.t 39)]) (.cond (.t 40) (.seq (.ss [.mv 2 (.c (.bool false))]) (.ret [2])) (.skip)))) (.ss [.mv 28 (.t 4), .bin 29 .add (.t 28) (.c (.int .i64 1)), .mv 4 (.t 29)])))))) (.seq (.ss [.mv 5 (.c (.int .i64 0))]) (.block 4 (.loop (.seq (.seq (.ss [.mv 41 (.t 5), .mv 42 (.t 0), .mv 43 (.t 3), .elp 44 (.t 42) (.t 43) 4, .mv 45 (.t 44), .eld 46 45 2 [.sl []], .len 47 (.t 46), .bin 48 .lss (.t 41) (.t 47)]) (.cond (.t 48) (.skip) (.exit 4))) (.seq (.block 5 (.seq (.ss [.mv 51 (.t 0), .mv 52 (.t 3), .mv 53 (.t 0), .mv 54 (.t 3), .elp 55 (.t 53) (.t 54) 4, .mv 56 (.t 55), .eld 57 56 2 [.sl []], .mv 58 (.t 5), .elp 59 (.t 57) (.t 58) 2, .mv 60 (.t 59), .eld 61 60 0 [.int .i64 0], .call 62 n_s_l13Owner s_s_l13Owner [(.t 51), (.t 52), (.t 61)] [], .bin 63 .geq (.t 62) (.c (.int .i64 0))]) (.cond (.t 63) (.seq (.ss [.mv 2 (.c (.bool false))]) (.ret [2])) (.skip)))) (.ss [.mv 49 (.t 5), .bin 50 .add (.t 49) (.c (.int .i64 1)), .mv 5 (.t 50)])))))))) (.ss [.mv 18 (.t 3), .bin 19 .add (.t 18) (.c (.int .i64 1)), .mv 3 (.t 19)])))))) (.seq (.ss [.mv 2 (.c (.bool true))]) (.ret [2]))))
def k_s_PlanOk : Cfg := { tt := tt, sigs := sigs, mv := false, bm := [], eqt := eqL, keep := [true, false, true, true, true, true, false, false, false, false, false, false, false, true, false, false, false, true, false, false, false, false, false, false, false, false, false, true, false, false, false, false, false, false, false, false, false, false, false, false, true, false, false, false, false, false, false, false, true, false, false, false, false, false, false, false, false, false, false, false, false, false, false, true], n := 64, pin := [], fail := [], fz := [] }
theorem c_s_PlanOk : cFun k_s_PlanOk Try.f34 s_s_PlanOk = some p_s_PlanOk := by kernel_rfl
theorem F_s_PlanOk {W : Wld} {ins outs : List (List D)} (h : pwp (FunOk PP W) p_s_PlanOk (RetIs outs) (envL ins)) : FunOk PP W n_s_PlanOk s_s_PlanOk ins outs := fun_ok (C := k_s_PlanOk) (cfg_ok rfl) (eq_ok rfl rfl) mixed Try.func34 (by kernel_rfl) (by kernel_rfl) c_s_PlanOk h

def p_i_InstMends : PC := .seq (.ss [.mv 1 (.t 0), .mv 2 (.c (.sl []))]) (.seq (.seq (.ss [.sub 3 1 0 4, .call 4 n_i_DiskOk s_i_DiskOk [(.t 3)] [], .un 5 .not (.t 4), .mv 6 (.t 5), .g 6 false 7 (.nop), .g 6 false 8 (.sub 8 1 2 1), .g 6 false 9 (.un 9 .not (.t 8)), .pick 10 (.t 6) (.c (.bool true)) (.t 9)]) (.cond (.t 10) (.seq (.ss [.mv 2 (.c (.sl []))]) (.ret [2])) (.skip))) (.seq (.ss [.sub 11 1 0 4, .nop, .sub 13 1 3 1, .call 14 n_i_stepsFor s_i_stepsFor [(.t 11), (.t 13)] [], .call 15 n_sl_Clip_Step s_sl_Clip_Step [(.t 14)] [], .mv 2 (.t 15)]) (.ret [2])))
def k_i_InstMends : Cfg := { tt := tt, sigs := sigs, mv := false, bm := [], eqt := eqL, keep := [true, true, true, false, false, false, false, false, false, false, true, false, false, false, false, false], n := 16, pin := [], fail := [], fz := [] }
theorem c_i_InstMends : cFun k_i_InstMends Try.f45 s_i_InstMends = some p_i_InstMends := by kernel_rfl
theorem F_i_InstMends {W : Wld} {ins outs : List (List D)} (h : pwp (FunOk PP W) p_i_InstMends (RetIs outs) (envL ins)) : FunOk PP W n_i_InstMends s_i_InstMends ins outs := fun_ok (C := k_i_InstMends) (cfg_ok rfl) (eq_ok rfl rfl) mixed Try.func45 (by kernel_rfl) (by kernel_rfl) c_i_InstMends h

def p_s_DiskOk : PC := .seq (.ss [.mv 1 (.t 0), .mv 2 (.c (.bool false))]) (.seq (.seq (.ss [.mv 3 (.c (.int .i64 0))]) (.block 0 (.loop (.seq (.seq (.ss [.mv 4 (.t 3), .nop, .sub 6 1 1 1, .len 7 (.t 6), .bin 8 .lss (.t 4) (.t 7)]) (.cond (.t 8) (.skip) (.exit 0))) (.seq (.block 1 (.seq (.ss [.nop, .sub 12 1 1 1, .mv 13 (.t 3), .elp 14 (.t 12) (.t 13) 1, .eld 15 14 0 [.int .i64 0], .call 16 n_s_l6In s_s_l6In [(.t 15), (.c (.int .i64 (-2))), (.c (.int .i64 9))] [], .un 17 .not (.t 16)]) (.cond (.t 17) (.seq (.ss [.mv 2 (.c (.bool false))]) (.ret [2])) (.skip)))) (.ss [.mv 9 (.t 3), .bin 10 .add (.t 9) (.c (.int .i64 1)), .mv 3 (.t 10)])))))) (.seq (.ss [.nop, .sub 19 1 1 1, .len 20 (.t 19), .bin 21 .eql (.t 20) (.c (.int .i64 6)), .mv 22 (.t 21), .g 22 true 23 (.nop), .g 22 true 24 (.sub 24 1 0 1), .g 22 true 25 (.call 25 n_s_PlanOk s_s_PlanOk [(.t 24)] []), .pick 26 (.t 22) (.t 25) (.c (.bool false)), .mv 27 (.t 26), .g 27 true 28 (.nop), .g 27 true 29 (.sub 29 1 3 1), .g 27 true 30 (.call 30 n_s_PlanOk s_s_PlanOk [(.t 29)] []), .pick 31 (.t 27) (.t 30) (.c (.bool false)), .mv 32 (.t 31), .g 32 true 33 (.nop), .g 32 true 34 (.sub 34 1 2 1), .g 32 true 35 (.mv 35 (.t 34)), .g 35 false 36 (.nop), .g 35 false 37 (.sub 37 1 3 1), .g 35 false 38 (.len 38 (.t 37)), .g 35 false 39 (.bin 39 .eql (.t 38) (.c (.int .i64 0))), .g 32 true 40 (.pick 40 (.t 35) (.c (.bool true)) (.t 39)), .pick 41 (.t 32) (.t 40) (.c (.bool false)), .mv 2 (.t 41)]) (.ret [2])))
def k_s_DiskOk : Cfg := { tt := tt, sigs := sigs, mv := false, bm := [], eqt := eqL, keep := [true, true, true, true, false, false, false, false, true, false, false, false, false, false, false, false, false, true, false, false, false, false, false, false, false, false, false, false, false, false, false, false, false, false, false, false, false, false, false, false, false, false], n := 42, pin := [], fail := [], fz := [] }
theorem c_s_DiskOk : cFun k_s_DiskOk Try.f65 s_s_DiskOk = some p_s_DiskOk := by kernel_rfl
theorem F_s_DiskOk {W : Wld} {ins outs : List (List D)} (h : pwp (FunOk PP W) p_s_DiskOk (RetIs outs) (envL ins)) : FunOk PP W n_s_DiskOk s_s_DiskOk ins outs := fun_ok (C := k_s_DiskOk) (cfg_ok rfl) (eq_ok rfl rfl) mixed Try.func65 (by kernel_rfl) (by kernel_rfl) c_s_DiskOk h

def p_l_luInts : PC := .seq (.ss [.mv 4 (.c (.bool false))]) (.seq (.seq (.ss [.mv 6 (.t 0), .len 7 (.t 6), .mv 8 (.t 1), .len 9 (.t 8), .bin 10 .neq (.t 7) (.t 9)]) (.cond (.t 10) (.seq (.ss [.mv 4 (.c (.bool false))]) (.ret [4])) (.skip))) (.seq (.seq (.ss [.mv 5 (.c (.int .i64 0))]) (.block 0 (.loop (.seq (.seq (.ss [.mv 11 (.t 5), .mv 12 (.t 0), .len 13 (.t 12), .bin 14 .lss (.t 11) (.t 13)]) (.cond (.t 14) (.skip) (.exit 0))) (.seq (.block 1 (.seq (.ss [.mv 17 (.t 0), .mv 18 (.t 5), .elp 19 (.t 17) (.t 18) 1, .eld 20 19 0 [.int .i64 0], .mv 21 (.t 1), .mv 22 (.t 5), .elp 23 (.t 21) (.t 22) 1, .eld 24 23 0 [.int .i64 0], .bin 25 .neq (.t 20) (.t 24)]) (.cond (.t 25) (.seq (.ss [.mv 4 (.c (.bool false))]) (.ret [4])) (.skip)))) (.ss [.mv 15 (.t 5), .bin 16 .add (.t 15) (.c (.int .i64 1)), .mv 5 (.t 16)])))))) (.seq (.ss [.mv 4 (.c (.bool true))]) (.ret [4]))))
def k_l_luInts : Cfg := { tt := tt, sigs := sigs, mv := false, bm := [], eqt := eqL, keep := [true, true, false, false, true, true, false, false, false, false, true, false, false, false, true, false, false, false, false, false, false, false, false, false, false, true], n := 26, pin := [], fail := [], fz := [] }
theorem c_l_luInts : cFun k_l_luInts Try.f69 s_l_luInts = some p_l_luInts := by kernel_rfl
theorem F_l_luInts {W : Wld} {ins outs : List (List D)} (h : pwp (FunOk PP W) p_l_luInts (RetIs outs) (envL ins)) : FunOk PP W n_l_luInts s_l_luInts ins outs := fun_ok (C := k_l_luInts) (cfg_ok rfl) (eq_ok rfl rfl) mixed Try.func69 (by kernel_rfl) (by kernel_rfl) c_l_luInts h

def p_i_DiskOk : PC := .seq (.ss [.mv 1 (.t 0), .mv 2 (.c (.bool false))]) (.seq (.ss [.fn 3 n_i_DiskOk_1 [] []]) (.seq (.seq (.ss [.nop, .sub 5 1 1 1, .len 6 (.t 5), .bin 7 .neq (.t 6) (.c (.int .i64 6)), .mv 8 (.t 7), .g 8 false 9 (.nop), .g 8 false 10 (.sub 10 1 1 1), .g 8 false 11 (.mv 11 (.t 3)), .g 8 false 12 (.call 12 n_sl_ContainsFunc_int s_sl_ContainsFunc_int [(.t 10), (.t 11)] []), .pick 13 (.t 8) (.c (.bool true)) (.t 12)]) (.cond (.t 13) (.seq (.ss [.mv 2 (.c (.bool false))]) (.ret [2])) (.skip))) (.seq (.ss [.nop, .sub 15 1 0 1, .call 16 n_i_PlanOk s_i_PlanOk [(.t 15)] [], .mv 17 (.t 16), .g 17 true 18 (.nop), .g 17 true 19 (.sub 19 1 3 1), .g 17 true 20 (.call 20 n_i_PlanOk s_i_PlanOk [(.t 19)] []), .pick 21 (.t 17) (.t 20) (.c (.bool false)), .mv 22 (.t 21), .g 22 true 23 (.nop), .g 22 true 24 (.sub 24 1 2 1), .g 22 true 25 (.mv 25 (.t 24)), .g 25 false 26 (.nop), .g 25 false 27 (.sub 27 1 3 1), .g 25 false 28 (.len 28 (.t 27)), .g 25 false 29 (.bin 29 .eql (.t 28) (.c (.int .i64 0))), .g 22 true 30 (.pick 30 (.t 25) (.c (.bool true)) (.t 29)), .pick 31 (.t 22) (.t 30) (.c (.bool false)), .mv 2 (.t 31)]) (.ret [2]))))
def k_i_DiskOk : Cfg := { tt := tt, sigs := sigs, mv := false, bm := [], eqt := eqL, keep := [true, true, true, true, false, false, false, false, false, false, false, false, false, true, false, false, false, false, false, false, false, false, false, false, false, false, false, false, false, false, false, false], n := 32, pin := [], fail := [], fz := [] }
theorem c_i_DiskOk : cFun k_i_DiskOk Try.f70 s_i_DiskOk = some p_i_DiskOk := by kernel_rfl
theorem F_i_DiskOk {W : Wld} {ins outs : List (List D)} (h : pwp (FunOk PP W) p_i_DiskOk (RetIs outs) (envL ins)) : FunOk PP W n_i_DiskOk s_i_DiskOk ins outs := fun_ok (C := k_i_DiskOk) (cfg_ok rfl) (eq_ok rfl rfl) mixed Try.func70 (by kernel_rfl) (by kernel_rfl) c_i_DiskOk h

def p_sl_Equal_int : PC := .seq (.ss [.mv 4 (.c (.bool false))]) (.seq (.seq (.ss [.mv 6 (.t 0), .len 7 (.t 6), .mv 8 (.t 1), .len 9 (.t 8), .bin 10 .neq (.t 7) (.t 9)]) (.cond (.t 10) (.seq (.ss [.mv 4 (.c (.bool false))]) (.ret [4])) (.skip))) (.seq (.seq (.ss [.mv 11 (.t 0), .len 12 (.t 11), .mv 13 (.c (.int .i64 0))]) (.block 0 (.loop (.seq (.ss [.bin 14 .lss (.t 13) (.t 12)]) (.seq (.cond (.t 14) (.skip) (.exit 0)) (.seq (.block 1 (.seq (.ss [.mv 15 (.t 13), .mv 5 (.t 15)]) (.seq (.ss [.mv 16 (.t 0), .mv 17 (.t 5), .elp 18 (.t 16) (.t 17) 1, .eld 19 18 0 [.int .i64 0], .mv 20 (.t 1), .mv 21 (.t 5), .elp 22 (.t 20) (.t 21) 1, .eld 23 22 0 [.int .i64 0], .bin 24 .neq (.t 19) (.t 23)]) (.cond (.t 24) (.seq (.ss [.mv 4 (.c (.bool false))]) (.ret [4])) (.skip))))) (.ss [.bin 25 .add (.t 13) (.c (.int .i64 1)), .mv 13 (.t 25)]))))))) (.seq (.ss [.mv 4 (.c (.bool true))]) (.ret [4]))))
def k_sl_Equal_int : Cfg := { tt := tt, sigs := sigs, mv := false, bm := [], eqt := eqL, keep := [true, true, false, false, true, true, false, false, false, false, true, false, true, true, true, false, false, false, false, false, false, false, false, false, true, false], n := 26, pin := [], fail := [], fz := [] }
theorem c_sl_Equal_int : cFun k_sl_Equal_int Try.f71 s_sl_Equal_int = some p_sl_Equal_int := by kernel_rfl
theorem F_sl_Equal_int {W : Wld} {ins outs : List (List D)} (h : pwp (FunOk PP W) p_sl_Equal_int (RetIs outs) (envL ins)) : FunOk PP W n_sl_Equal_int s_sl_Equal_int ins outs := fun_ok (C := k_sl_Equal_int) (cfg_ok rfl) (eq_ok rfl rfl) mixed Try.func71 (by kernel_rfl) (by kernel_rfl) c_sl_Equal_int h

def p_i_PlanFiles : PC := .seq (.ss [.mv 2 (.c (.sl []))]) (.seq (.seq (.ss [.mv 8 (.t 0), .call 9 n_i_PlanOk s_i_PlanOk [(.t 8)] [], .un 10 .not (.t 9)]) (.cond (.t 10) (.seq (.ss [.mv 2 (.c (.sl []))]) (.ret [2])) (.skip))) (.seq (.ss [.lit 11 1 [.int .i64 0] [(0, (.c (.int .i64 (-1))))], .call 12 n_sl_Repeat_int s_sl_Repeat_int [(.t 11), (.c (.int .i64 6))] [], .mv 3 (.t 12)]) (.seq (.seq (.ss [.mv 13 (.t 0), .len 14 (.t 13), .mv 15 (.c (.int .i64 0))]) (.block 0 (.loop (.seq (.ss [.bin 16 .lss (.t 15) (.t 14)]) (.seq (.cond (.t 16) (.skip) (.exit 0)) (.seq (.block 1 (.seq (.ss [.elp 17 (.t 13) (.t 15) 4, .eld 18 17 0 [.int .i64 0, .int .i64 0, .sl [], .sl []], .bld 5 [.int .i64 0, .int .i64 0, .sl [], .sl []] [], .st 5 0 (.t 18)]) (.seq (.ss [.nop, .sub 20 5 2 1, .len 21 (.t 20), .mv 22 (.c (.int .i64 0))]) (.block 2 (.loop (.seq (.ss [.bin 23 .lss (.t 22) (.t 21)]) (.seq (.cond (.t 23) (.skip) (.exit 2)) (.seq (.block 3 (.seq (.ss [.elp 24 (.t 20) (.t 22) 2, .eld 25 24 0 [.int .i64 0, .int .i64 0], .bld 7 [.int .i64 0, .int .i64 0] [], .st 7 0 (.t 25)]) (.ss [.mv 26 (.t 3), .nop, .sub 28 7 0 1, .nop, .sub 30 7 1 1, .elp 31 (.t 26) (.t 28) 1, .els 31 0 3 0 (.t 30)]))) (.ss [.bin 32 .add (.t 22) (.c (.int .i64 1)), .mv 22 (.t 32)]))))))))) (.ss [.bin 33 .add (.t 15) (.c (.int .i64 1)), .mv 15 (.t 33)]))))))) (.seq (.ss [.mv 34 (.t 3), .mv 2 (.t 34)]) (.ret [2])))))
def k_i_PlanFiles : Cfg := { tt := tt, sigs := sigs, mv := false, bm := [], eqt := eqL, keep := [true, false, true, true, false, true, false, true, false, false, true, false, false, true, true, true, true, false, false, false, true, true, true, true, false, false, false, false, false, false, false, false, false, false, false], n := 35, pin := [], fail := [], fz := [] }
theorem c_i_PlanFiles : cFun k_i_PlanFiles Try.f72 s_i_PlanFiles = some p_i_PlanFiles := by kernel_rfl
theorem F_i_PlanFiles {W : Wld} {ins outs : List (List D)} (h : pwp (FunOk PP W) p_i_PlanFiles (RetIs outs) (envL ins)) : FunOk PP W n_i_PlanFiles s_i_PlanFiles ins outs := fun_ok (C := k_i_PlanFiles) (cfg_ok rfl) (eq_ok rfl rfl) mixed Try.func72 (by kernel_rfl) (by kernel_rfl) c_i_PlanFiles h

def p_l_luPkg : PC := .seq (.ss [.mv 2 (.t 0), .mv 3 (.t 1), .mv 4 (.c (.bool false))]) (.seq (.seq (.ss [.nop, .sub 8 2 0 1, .nop, .sub 10 3 0 1, .bin 11 .neq (.t 8) (.t 10), .mv 12 (.t 11), .g 12 false 13 (.nop), .g 12 false 14 (.sub 14 2 1 1), .g 12 false 15 (.nop), .g 12 false 16 (.sub 16 3 1 1), .g 12 false 17 (.bin 17 .neq (.t 14) (.t 16)), .pick 18 (.t 12) (.c (.bool true)) (.t 17), .mv 19 (.t 18), .g 19 false 20 (.nop), .g 19 false 21 (.sub 21 2 2 1), .g 19 false 22 (.len 22 (.t 21)), .g 19 false 23 (.nop), .g 19 false 24 (.sub 24 3 2 1), .g 19 false 25 (.len 25 (.t 24)), .g 19 false 26 (.bin 26 .neq (.t 22) (.t 25)), .pick 27 (.t 19) (.c (.bool true)) (.t 26), .mv 28 (.t 27), .g 28 false 29 (.nop), .g 28 false 30 (.sub 30 2 3 1), .g 28 false 31 (.len 31 (.t 30)), .g 28 false 32 (.nop), .g 28 false 33 (.sub 33 3 3 1), .g 28 false 34 (.len 34 (.t 33)), .g 28 false 35 (.bin 35 .neq (.t 31) (.t 34)), .pick 36 (.t 28) (.c (.bool true)) (.t 35)]) (.cond (.t 36) (.seq (.ss [.mv 4 (.c (.bool false))]) (.ret [4])) (.skip))) (.seq (.seq (.ss [.mv 5 (.c (.int .i64 0))]) (.block 0 (.loop (.seq (.seq (.ss [.mv 37 (.t 5), .nop, .sub 39 2 2 1, .len 40 (.t 39), .bin 41 .lss (.t 37) (.t 40)]) (.cond (.t 41) (.skip) (.exit 0))) (.seq (.block 1 (.seq (.ss [.nop, .sub 45 2 2 1, .mv 46 (.t 5), .elp 47 (.t 45) (.t 46) 2, .eld 48 47 0 [.int .i64 0, .int .i64 0], .nop, .sub 50 3 2 1, .mv 51 (.t 5), .elp 52 (.t 50) (.t 51) 2, .eld 53 52 0 [.int .i64 0, .int .i64 0], .eqs 54 true [.int .i64 0, .int .i64 0] (.t 48) (.t 53)]) (.cond (.t 54) (.seq (.ss [.mv 4 (.c (.bool false))]) (.ret [4])) (.skip)))) (.ss [.mv 42 (.t 5), .bin 43 .add (.t 42) (.c (.int .i64 1)), .mv 5 (.t 43)])))))) (.seq (.seq (.ss [.mv 6 (.c (.int .i64 0))]) (.block 2 (.loop (.seq (.seq (.ss [.mv 55 (.t 6), .nop, .sub 57 2 3 1, .len 58 (.t 57), .bin 59 .lss (.t 55) (.t 58)]) (.cond (.t 59) (.skip) (.exit 2))) (.seq (.block 3 (.seq (.ss [.nop, .sub 63 2 3 1, .mv 64 (.t 6), .elp 65 (.t 63) (.t 64) 2, .eld 66 65 0 [.int .i64 0, .int .i64 0], .nop, .sub 68 3 3 1, .mv 69 (.t 6), .elp 70 (.t 68) (.t 69) 2, .eld 71 70 0 [.int .i64 0, .int .i64 0], .eqs 72 true [.int .i64 0, .int .i64 0] (.t 66) (.t 71)]) (.cond (.t 72) (.seq (.ss [.mv 4 (.c (.bool false))]) (.ret [4])) (.skip)))) (.ss [.mv 60 (.t 6), .bin 61 .add (.t 60) (.c (.int .i64 1)), .mv 6 (.t 61)])))))) (.seq (.ss [.mv 4 (.c (.bool true))]) (.ret [4])))))
def k_l_luPkg : Cfg := { tt := tt, sigs := sigs, mv := false, bm := [], eqt := eqL, keep := [true, true, true, true, true, true, true, false, false, false, false, false, false, false, false, false, false, false, false, false, false, false, false, false, false, false, false, false, false, false, false, false, false, false, false, false, true, false, false, false, false, true, false, false, false, false, false, false, false, false, false, false, false, false, true, false, false, false, false, true, false, false, false, false, false, false, false, false, false, false, false, false, true], n := 73, pin := [], fail := [], fz := [] }
theorem c_l_luPkg : cFun k_l_luPkg Try.f73 s_l_luPkg = some p_l_luPkg := by kernel_rfl
theorem F_l_luPkg {W : Wld} {ins outs : List (List D)} (h : pwp (FunOk PP W) p_l_luPkg (RetIs outs) (envL ins)) : FunOk PP W n_l_luPkg s_l_luPkg ins outs := fun_ok (C := k_l_luPkg) (cfg_ok rfl) (eq_ok rfl rfl) mixed Try.func73 (by kernel_rfl) (by kernel_rfl) c_l_luPkg h

def p_i_Step_ok : PC := .seq (.ss [.mv 1 (.t 0), .mv 2 (.c (.bool false))]) (.seq (.ss [.nop, .sub 6 1 1 1, .bin 7 .eql (.t 6) (.c (.int .i64 0)), .mv 8 (.t 7), .g 8 true 9 (.nop), .g 8 true 10 (.sub 10 1 2 1), .g 8 true 11 (.bin 11 .eql (.t 10) (.c (.int .i64 0))), .pick 12 (.t 8) (.t 11) (.c (.bool false)), .mv 3 (.t 12)]) (.seq (.ss [.nop, .sub 14 1 3 1, .len 15 (.t 14), .bin 16 .eql (.t 15) (.c (.int .i64 0)), .mv 4 (.t 16)]) (.seq (.seq (.ss [.nop, .sub 18 1 0 1]) (.block 0 (.seq (.seq (.ss [.bin 20 .eql (.t 18) (.c (.int .i64 1)), .mv 19 (.t 20)]) (.cond (.t 19) (.skip) (.ss [.bin 21 .eql (.t 18) (.c (.int .i64 3)), .mv 19 (.t 21)]))) (.cond (.t 19) (.ss [.nop, .sub 23 1 3 1, .call 24 n_i_PlanOk s_i_PlanOk [(.t 23)] [], .mv 4 (.t 24)]) (.seq (.ss [.bin 26 .eql (.t 18) (.c (.int .i64 2)), .mv 25 (.t 26)]) (.cond (.t 25) (.ss [.nop, .sub 28 1 1 1, .call 29 n_i_in s_i_in [(.t 28), (.c (.int .i64 0)), (.c (.int .i64 5))] [], .mv 30 (.t 29), .g 30 true 31 (.nop), .g 30 true 32 (.sub 32 1 2 1), .g 30 true 33 (.call 33 n_i_in s_i_in [(.t 32), (.c (.int .i64 (-1))), (.c (.int .i64 9))] []), .pick 34 (.t 30) (.t 33) (.c (.bool false)), .mv 3 (.t 34)]) (.seq (.ss [.bin 36 .eql (.t 18) (.c (.int .i64 4)), .mv 35 (.t 36)]) (.cond (.t 35) (.skip) (.seq (.ss [.mv 2 (.c (.bool false))]) (.ret [2])))))))))) (.seq (.ss [.mv 37 (.t 3), .mv 38 (.t 37), .g 38 true 39 (.mv 39 (.t 4)), .pick 40 (.t 38) (.t 39) (.c (.bool false)), .mv 2 (.t 40)]) (.ret [2])))))
def k_i_Step_ok : Cfg := { tt := tt, sigs := sigs, mv := false, bm := [], eqt := eqL, keep := [true, true, true, true, true, false, false, false, false, false, false, false, false, false, false, false, false, false, true, true, false, false, false, false, false, true, false, false, false, false, false, false, false, false, false, true, false, false, false, false, false], n := 41, pin := [], fail := [], fz := [] }
theorem c_i_Step_ok : cFun k_i_Step_ok Try.f77 s_i_Step_ok = some p_i_Step_ok := by kernel_rfl
theorem F_i_Step_ok {W : Wld} {ins outs : List (List D)} (h : pwp (FunOk PP W) p_i_Step_ok (RetIs outs) (envL ins)) : FunOk PP W n_i_Step_ok s_i_Step_ok ins outs := fun_ok (C := k_i_Step_ok) (cfg_ok rfl) (eq_ok rfl rfl) mixed Try.func77 (by kernel_rfl) (by kernel_rfl) c_i_Step_ok h

def p_s_l6Rd_pick : PC := .seq (.ss [.mv 4 (.c (.int .i64 0))]) (.seq (.ss [.nop, .nop, .nop, .nop, .sub 11 0 1 1, .bin 12 .add (.t 11) (.c (.int .i64 1)), .nop, .nop, .st 0 1 (.t 12)]) (.seq (.seq (.ss [.mv 15 (.t 1), .bin 16 .lss (.t 15) (.c (.int .i64 1)), .mv 17 (.t 16), .g 17 false 18 (.nop), .g 17 false 19 (.nop), .g 17 false 20 (.nop), .g 17 false 21 (.sub 21 0 0 1), .g 17 false 22 (.len 22 (.t 21)), .g 17 false 23 (.bin 23 .eql (.t 22) (.c (.int .i64 0))), .pick 24 (.t 17) (.c (.bool true)) (.t 23)]) (.cond (.t 24) (.seq (.ss [.mv 4 (.c (.int .i64 0))]) (.ret [4, 0])) (.skip))) (.seq (.ss [.nop, .nop, .nop, .sub 28 0 1 1, .bin 29 .sub (.t 28) (.c (.int .i64 1)), .mv 5 (.t 29)]) (.seq (.seq (.ss [.mv 30 (.t 5), .nop, .nop, .nop, .sub 34 0 0 1, .len 35 (.t 34), .bin 36 .lss (.t 30) (.t 35)]) (.cond (.t 36) (.seq (.ss [.nop, .nop, .nop, .sub 40 0 0 1, .mv 41 (.t 5), .elp 42 (.t 40) (.t 41) 1, .eld 43 42 0 [.int .u8 0], .cvt 44 .i64 (.t 43), .mv 45 (.t 1), .bin 46 .rem (.t 44) (.t 45), .mv 4 (.t 46)]) (.ret [4, 0])) (.skip))) (.seq (.ss [.nop, .nop, .nop, .sub 50 0 0 1, .mv 51 (.t 5), .nop, .nop, .nop, .sub 55 0 0 1, .len 56 (.t 55), .bin 57 .rem (.t 51) (.t 56), .elp 58 (.t 50) (.t 57) 1, .eld 59 58 0 [.int .u8 0], .cvt 60 .i64 (.t 59), .bin 61 .mul (.t 60) (.c (.int .i64 131)), .nop, .nop, .nop, .sub 65 0 0 1, .mv 66 (.t 5), .bin 67 .mul (.t 66) (.c (.int .i64 7)), .bin 68 .add (.t 67) (.c (.int .i64 3)), .nop, .nop, .nop, .sub 72 0 0 1, .len 73 (.t 72), .bin 74 .rem (.t 68) (.t 73), .elp 75 (.t 65) (.t 74) 1, .eld 76 75 0 [.int .u8 0], .cvt 77 .i64 (.t 76), .bin 78 .mul (.t 77) (.c (.int .i64 1117)), .bin 79 .add (.t 61) (.t 78), .mv 80 (.t 5), .bin 81 .mul (.t 80) (.c (.int .i64 29)), .bin 82 .add (.t 79) (.t 81), .mv 83 (.t 5), .nop, .nop, .nop, .sub 87 0 0 1, .len 88 (.t 87), .bin 89 .quo (.t 83) (.t 88), .bin 90 .mul (.t 89) (.c (.int .i64 53)), .bin 91 .add (.t 82) (.t 90), .mv 6 (.t 91)]) (.seq (.ss [.mv 92 (.t 6), .mv 93 (.t 6), .bin 94 .quo (.t 93) (.c (.int .i64 64)), .bin 95 .xor (.t 92) (.t 94), .mv 6 (.t 95)]) (.seq (.ss [.mv 96 (.t 6), .mv 97 (.t 1), .bin 98 .rem (.t 96) (.t 97), .mv 4 (.t 98)]) (.ret [4, 0]))))))))
def k_s_l6Rd_pick : Cfg := { tt := tt, sigs := sigs, mv := false, bm := [], eqt := eqL, keep := [true, true, false, false, true, true, true, false, false, false, false, false, false, false, false, false, false, false, false, false, false, false, false, false, true, false, false, false, false, false, false, false, false, false, false, false, true, false, false, false, false, false, false, false, false, false, false, false, false, false, false, false, false, false, false, false, false, false, false, false, false, false, false, false, false, false, false, false, false, false, false, false, false, false, false, false, false, false, false, false, false, false, false, false, false, false, false, false, false, false, false, false, false, false, false, false, false, false, false], n := 99, pin := [0], fail := [], fz := [] }
theorem c_s_l6Rd_pick : cFun k_s_l6Rd_pick Try.f83 s_s_l6Rd_pick = some p_s_l6Rd_pick := by kernel_rfl
theorem F_s_l6Rd_pick {W : Wld} {ins outs : List (List D)} (h : pwp (FunOk PP W) p_s_l6Rd_pick (RetIs outs) (envL ins)) : FunOk PP W n_s_l6Rd_pick s_s_l6Rd_pick ins outs := fun_ok (C := k_s_l6Rd_pick) (cfg_ok rfl) (eq_ok rfl rfl) mixed Try.func83 (by kernel_rfl) (by kernel_rfl) c_s_l6Rd_pick h

def p_i_PlanOk : PC := .seq (.ss [.mv 1 (.t 0), .mv 2 (.c (.bool false))]) (.seq (.seq (.ss [.sub 8 1 0 1, .call 9 n_i_StoreOk s_i_StoreOk [(.t 8)] [], .un 10 .not (.t 9)]) (.cond (.t 10) (.seq (.ss [.mv 2 (.c (.bool false))]) (.ret [2])) (.skip))) (.seq (.ss [.bld 3 [.bool false, .bool false, .bool false, .bool false, .bool false, .bool false] []]) (.seq (.seq (.ss [.sub 11 1 0 1, .len 12 (.t 11), .mv 13 (.c (.int .i64 0))]) (.block 0 (.loop (.seq (.ss [.bin 14 .lss (.t 13) (.t 12)]) (.seq (.cond (.t 14) (.skip) (.exit 0)) (.seq (.block 1 (.seq (.ss [.mv 15 (.t 13), .elp 16 (.t 11) (.t 13) 4, .eld 17 16 0 [.int .i64 0, .int .i64 0, .sl [], .sl []], .bld 5 [.int .i64 0, .int .i64 0, .sl [], .sl []] [], .mv 4 (.t 15), .st 5 0 (.t 17)]) (.seq (.seq (.ss [.mv 18 (.t 4), .bin 19 .gtr (.t 18) (.c (.int .i64 0)), .mv 20 (.t 19), .g 20 true 21 (.sub 21 1 0 1), .g 20 true 22 (.mv 22 (.t 4)), .g 20 true 23 (.bin 23 .sub (.t 22) (.c (.int .i64 1))), .g 20 true 24 (.elp 24 (.t 21) (.t 23) 4), .g 20 true 25 (.mv 25 (.t 24)), .g 20 true 26 (.eld 26 25 0 [.int .i64 0]), .g 20 true 27 (.nop), .g 20 true 28 (.sub 28 5 0 1), .g 20 true 29 (.bin 29 .eql (.t 26) (.t 28)), .pick 30 (.t 20) (.t 29) (.c (.bool false)), .mv 31 (.t 30), .g 31 false 32 (.nop), .g 31 false 33 (.sub 33 5 3 1), .g 31 false 34 (.fn 34 n_i_PlanOk_1 [] [1]), .g 31 false 35 (.call 35 n_sl_ContainsFunc_Dep s_sl_ContainsFunc_Dep [(.t 33), (.t 34)] []), .pick 36 (.t 31) (.c (.bool true)) (.t 35)]) (.cond (.t 36) (.seq (.ss [.mv 2 (.c (.bool false))]) (.ret [2])) (.skip))) (.seq (.ss [.nop, .sub 38 5 2 1, .len 39 (.t 38), .mv 40 (.c (.int .i64 0))]) (.block 2 (.loop (.seq (.ss [.bin 41 .lss (.t 40) (.t 39)]) (.seq (.cond (.t 41) (.skip) (.exit 2)) (.seq (.block 3 (.seq (.ss [.elp 42 (.t 38) (.t 40) 2, .eld 43 42 0 [.int .i64 0, .int .i64 0], .bld 7 [.int .i64 0, .int .i64 0] [], .st 7 0 (.t 43)]) (.seq (.seq (.ss [.nop, .sub 45 7 0 1, .bxp 46 (.t 45) 6, .bxl 47 46 3 1 0 1]) (.cond (.t 47) (.seq (.ss [.mv 2 (.c (.bool false))]) (.ret [2])) (.skip))) (.ss [.nop, .sub 49 7 0 1, .bxp 50 (.t 49) 6, .bxs 50 3 1 0 (.c (.bool true))])))) (.ss [.bin 51 .add (.t 40) (.c (.int .i64 1)), .mv 40 (.t 51)])))))))))) (.ss [.bin 52 .add (.t 13) (.c (.int .i64 1)), .mv 13 (.t 52)]))))))) (.seq (.ss [.mv 2 (.c (.bool true))]) (.ret [2])))))
def k_i_PlanOk : Cfg := { tt := tt, sigs := sigs, mv := false, bm := [], eqt := eqL, keep := [true, true, true, true, true, true, false, true, false, false, true, true, true, true, true, false, false, false, false, false, false, false, false, false, false, false, false, false, false, false, false, false, false, false, false, false, true, false, true, true, true, true, false, false, false, false, false, true, false, false, false, false, false], n := 53, pin := [], fail := [], fz := [] }
theorem c_i_PlanOk : cFun k_i_PlanOk Try.f86 s_i_PlanOk = some p_i_PlanOk := by kernel_rfl
theorem F_i_PlanOk {W : Wld} {ins outs : List (List D)} (h : pwp (FunOk PP W) p_i_PlanOk (RetIs outs) (envL ins)) : FunOk PP W n_i_PlanOk s_i_PlanOk ins outs := fun_ok (C := k_i_PlanOk) (cfg_ok rfl) (eq_ok rfl rfl) mixed Try.func86 (by kernel_rfl) (by kernel_rfl) c_i_PlanOk h

def p_i_copies : PC := .seq (.ss [.mv 2 (.c (.sl []))]) (.seq (.ss [.mv 3 (.c (.sl []))]) (.seq (.seq (.ss [.mv 6 (.t 0), .len 7 (.t 6), .mv 8 (.c (.int .i64 0))]) (.block 0 (.loop (.seq (.ss [.bin 9 .lss (.t 8) (.t 7)]) (.seq (.cond (.t 9) (.skip) (.exit 0)) (.seq (.block 1 (.seq (.ss [.elp 10 (.t 6) (.t 8) 4, .eld 11 10 0 [.int .i64 0, .int .i64 0, .sl [], .sl []], .bld 5 [.int .i64 0, .int .i64 0, .sl [], .sl []] [], .st 5 0 (.t 11)]) (.ss [.mv 12 (.t 3), .sub 13 5 0 4, .call 14 n_i_Pkg_copied s_i_Pkg_copied [(.t 13)] [], .lit 15 1 [.int .i64 0, .int .i64 0, .sl [], .sl []] [(0, (.t 14))], .app 16 4 false (.t 12) (.t 15), .mv 3 (.t 16)]))) (.ss [.bin 17 .add (.t 8) (.c (.int .i64 1)), .mv 8 (.t 17)]))))))) (.seq (.ss [.mv 18 (.t 3), .mv 2 (.t 18)]) (.ret [2]))))
def k_i_copies : Cfg := { tt := tt, sigs := sigs, mv := false, bm := [], eqt := eqL, keep := [true, false, true, true, false, true, true, true, true, true, false, false, false, false, false, false, false, false, false], n := 19, pin := [], fail := [], fz := [] }
theorem c_i_copies : cFun k_i_copies Try.f87 s_i_copies = some p_i_copies := by kernel_rfl
theorem F_i_copies {W : Wld} {ins outs : List (List D)} (h : pwp (FunOk PP W) p_i_copies (RetIs outs) (envL ins)) : FunOk PP W n_i_copies s_i_copies ins outs := fun_ok (C := k_i_copies) (cfg_ok rfl) (eq_ok rfl rfl) mixed Try.func87 (by kernel_rfl) (by kernel_rfl) c_i_copies h

def p_i_stepsFor : PC := .seq (.ss [.mv 2 (.t 0), .mv 4 (.c (.sl []))]) (.seq (.ss [.mv 5 (.c (.sl []))]) (.seq (.seq (.ss [.mv 8 (.t 1), .call 9 n_i_PlanFiles s_i_PlanFiles [(.t 8)] [], .len 10 (.t 9), .mv 11 (.c (.int .i64 0))]) (.block 0 (.loop (.seq (.ss [.bin 12 .lss (.t 11) (.t 10)]) (.seq (.cond (.t 12) (.skip) (.exit 0)) (.seq (.block 1 (.seq (.ss [.mv 13 (.t 11), .elp 14 (.t 9) (.t 11) 1, .eld 15 14 0 [.int .i64 0], .mv 6 (.t 13), .mv 7 (.t 15)]) (.seq (.ss [.nop, .sub 17 2 1 1, .mv 18 (.t 6), .elp 19 (.t 17) (.t 18) 1, .eld 20 19 0 [.int .i64 0], .mv 21 (.t 7), .bin 22 .neq (.t 20) (.t 21)]) (.cond (.t 22) (.ss [.mv 23 (.t 5), .mv 24 (.t 6), .mv 25 (.t 7), .bld 26 [.int .i64 0, .int .i64 0, .int .i64 0, .sl []] [(0, (.c (.int .i64 2))), (1, (.t 24)), (2, (.t 25))], .lit 27 1 [.int .i64 0, .int .i64 0, .int .i64 0, .sl []] [(0, (.t 26))], .app 28 4 false (.t 23) (.t 27), .mv 5 (.t 28)]) (.skip))))) (.ss [.bin 29 .add (.t 11) (.c (.int .i64 1)), .mv 11 (.t 29)]))))))) (.seq (.ss [.mv 30 (.t 5), .mv 31 (.t 1), .call 32 n_i_copies s_i_copies [(.t 31)] [], .bld 33 [.int .i64 0, .int .i64 0, .int .i64 0, .sl []] [(0, (.c (.int .i64 3))), (3, (.t 32))], .bld 34 [.int .i64 0, .int .i64 0, .int .i64 0, .sl []] [(0, (.c (.int .i64 4)))], .lit 35 2 [.int .i64 0, .int .i64 0, .int .i64 0, .sl []] [(0, (.t 33)), (1, (.t 34))], .app 36 4 false (.t 30) (.t 35), .mv 4 (.t 36)]) (.ret [4]))))
def k_i_stepsFor : Cfg := { tt := tt, sigs := sigs, mv := false, bm := [], eqt := eqL, keep := [true, true, true, false, true, true, true, true, false, true, true, true, true, false, false, false, false, false, false, false, false, false, true, false, false, false, false, false, false, false, false, false, false, false, false, false, false], n := 37, pin := [], fail := [], fz := [] }
theorem c_i_stepsFor : cFun k_i_stepsFor Try.f88 s_i_stepsFor = some p_i_stepsFor := by kernel_rfl
theorem F_i_stepsFor {W : Wld} {ins outs : List (List D)} (h : pwp (FunOk PP W) p_i_stepsFor (RetIs outs) (envL ins)) : FunOk PP W n_i_stepsFor s_i_stepsFor ins outs := fun_ok (C := k_i_stepsFor) (cfg_ok rfl) (eq_ok rfl rfl) mixed Try.func88 (by kernel_rfl) (by kernel_rfl) c_i_stepsFor h

def p_s_DiskTrue : PC := .seq (.ss [.mv 1 (.t 0), .mv 2 (.c (.bool false))]) (.seq (.ss [.sub 3 1 0 4, .call 4 n_s_DiskOk s_s_DiskOk [(.t 3)] [], .mv 5 (.t 4), .g 5 true 6 (.nop), .g 5 true 7 (.sub 7 1 2 1), .g 5 true 8 (.un 8 .not (.t 7)), .pick 9 (.t 5) (.t 8) (.c (.bool false)), .mv 10 (.t 9), .g 10 true 11 (.nop), .g 10 true 12 (.sub 12 1 1 1), .g 10 true 13 (.nop), .g 10 true 14 (.sub 14 1 0 1), .g 10 true 15 (.call 15 n_s_l13Files s_s_l13Files [(.t 14)] []), .g 10 true 16 (.call 16 n_s_l21Same s_s_l21Same [(.t 12), (.t 15)] []), .pick 17 (.t 10) (.t 16) (.c (.bool false)), .mv 2 (.t 17)]) (.ret [2]))
def k_s_DiskTrue : Cfg := { tt := tt, sigs := sigs, mv := false, bm := [], eqt := eqL, keep := [true, true, true, false, false, false, false, false, false, false, false, false, false, false, false, false, false, false], n := 18, pin := [], fail := [], fz := [] }
theorem c_s_DiskTrue : cFun k_s_DiskTrue Try.f89 s_s_DiskTrue = some p_s_DiskTrue := by kernel_rfl
theorem F_s_DiskTrue {W : Wld} {ins outs : List (List D)} (h : pwp (FunOk PP W) p_s_DiskTrue (RetIs outs) (envL ins)) : FunOk PP W n_s_DiskTrue s_s_DiskTrue ins outs := fun_ok (C := k_s_DiskTrue) (cfg_ok rfl) (eq_ok rfl rfl) mixed Try.func89 (by kernel_rfl) (by kernel_rfl) c_s_DiskTrue h

def p_s_StoreOk : PC := .seq (.ss [.mv 2 (.c (.bool false))]) (.seq (.ss [.mv 3 (.t 0), .call 4 n_s_l3Pkgs s_s_l3Pkgs [(.t 3)] [], .mv 2 (.t 4)]) (.ret [2]))
def k_s_StoreOk : Cfg := { tt := tt, sigs := sigs, mv := false, bm := [], eqt := eqL, keep := [true, false, true, false, false], n := 5, pin := [], fail := [], fz := [] }
theorem c_s_StoreOk : cFun k_s_StoreOk Try.f91 s_s_StoreOk = some p_s_StoreOk := by kernel_rfl
theorem F_s_StoreOk {W : Wld} {ins outs : List (List D)} (h : pwp (FunOk PP W) p_s_StoreOk (RetIs outs) (envL ins)) : FunOk PP W n_s_StoreOk s_s_StoreOk ins outs := fun_ok (C := k_s_StoreOk) (cfg_ok rfl) (eq_ok rfl rfl) mixed Try.func91 (by kernel_rfl) (by kernel_rfl) c_s_StoreOk h

def p_s_l13One : PC := .seq (.ss [.mv 2 (.c (.bool false))]) (.seq (.seq (.ss [.mv 3 (.c (.int .i64 1))]) (.block 0 (.loop (.seq (.seq (.ss [.mv 4 (.t 3), .mv 5 (.t 0), .len 6 (.t 5), .bin 7 .lss (.t 4) (.t 6)]) (.cond (.t 7) (.skip) (.exit 0))) (.seq (.block 1 (.seq (.ss [.mv 10 (.t 0), .mv 11 (.t 3), .bin 12 .sub (.t 11) (.c (.int .i64 1)), .elp 13 (.t 10) (.t 12) 4, .mv 14 (.t 13), .eld 15 14 0 [.int .i64 0], .mv 16 (.t 0), .mv 17 (.t 3), .elp 18 (.t 16) (.t 17) 4, .mv 19 (.t 18), .eld 20 19 0 [.int .i64 0], .bin 21 .geq (.t 15) (.t 20)]) (.cond (.t 21) (.seq (.ss [.mv 2 (.c (.bool false))]) (.ret [2])) (.skip)))) (.ss [.mv 8 (.t 3), .bin 9 .add (.t 8) (.c (.int .i64 1)), .mv 3 (.t 9)])))))) (.seq (.ss [.mv 2 (.c (.bool true))]) (.ret [2])))
def k_s_l13One : Cfg := { tt := tt, sigs := sigs, mv := false, bm := [], eqt := eqL, keep := [true, false, true, true, false, false, false, true, false, false, false, false, false, false, false, false, false, false, false, false, false, true], n := 22, pin := [], fail := [], fz := [] }
theorem c_s_l13One : cFun k_s_l13One Try.f92 s_s_l13One = some p_s_l13One := by kernel_rfl
theorem F_s_l13One {W : Wld} {ins outs : List (List D)} (h : pwp (FunOk PP W) p_s_l13One (RetIs outs) (envL ins)) : FunOk PP W n_s_l13One s_s_l13One ins outs := fun_ok (C := k_s_l13One) (cfg_ok rfl) (eq_ok rfl rfl) mixed Try.func92 (by kernel_rfl) (by kernel_rfl) c_s_l13One h

def p_s_l13Meets : PC := .seq (.ss [.mv 3 (.t 1), .mv 4 (.c (.bool false))]) (.seq (.ss [.mv 8 (.t 0), .nop, .sub 10 3 0 1, .call 11 n_s_l12Newest s_s_l12Newest [(.t 8), (.t 10)] [], .mv 7 (.t 11), .ext 12 7 0 4, .ext 13 7 4 1, .bld 5 [.int .i64 0, .int .i64 0, .sl [], .sl []] [], .st 5 0 (.t 12), .mv 6 (.t 13)]) (.seq (.ss [.mv 14 (.t 6), .mv 15 (.t 14), .g 15 true 16 (.nop), .g 15 true 17 (.sub 17 5 1 1), .g 15 true 18 (.nop), .g 15 true 19 (.sub 19 3 1 1), .g 15 true 20 (.bin 20 .geq (.t 17) (.t 19)), .pick 21 (.t 15) (.t 20) (.c (.bool false)), .mv 4 (.t 21)]) (.ret [4])))
def k_s_l13Meets : Cfg := { tt := tt, sigs := sigs, mv := false, bm := [], eqt := eqL, keep := [true, true, false, true, true, true, true, false, false, false, false, false, false, false, false, false, false, false, false, false, false, false], n := 22, pin := [], fail := [], fz := [] }
theorem c_s_l13Meets : cFun k_s_l13Meets Try.f93 s_s_l13Meets = some p_s_l13Meets := by kernel_rfl
theorem F_s_l13Meets {W : Wld} {ins outs : List (List D)} (h : pwp (FunOk PP W) p_s_l13Meets (RetIs outs) (envL ins)) : FunOk PP W n_s_l13Meets s_s_l13Meets ins outs := fun_ok (C := k_s_l13Meets) (cfg_ok rfl) (eq_ok rfl rfl) mixed Try.func93 (by kernel_rfl) (by kernel_rfl) c_s_l13Meets h

def p_s_l13Owner : PC := .seq (.ss [.mv 6 (.c (.int .i64 0))]) (.seq (.seq (.ss [.mv 7 (.c (.int .i64 0))]) (.block 0 (.loop (.seq (.seq (.ss [.mv 9 (.t 7), .mv 10 (.t 1), .bin 11 .lss (.t 9) (.t 10)]) (.cond (.t 11) (.skip) (.exit 0))) (.seq (.block 1 (.seq (.ss [.mv 8 (.c (.int .i64 0))]) (.block 2 (.loop (.seq (.seq (.ss [.mv 14 (.t 8), .mv 15 (.t 0), .mv 16 (.t 7), .elp 17 (.t 15) (.t 16) 4, .mv 18 (.t 17), .eld 19 18 2 [.sl []], .len 20 (.t 19), .bin 21 .lss (.t 14) (.t 20)]) (.cond (.t 21) (.skip) (.exit 2))) (.seq (.block 3 (.seq (.ss [.mv 24 (.t 0), .mv 25 (.t 7), .elp 26 (.t 24) (.t 25) 4, .mv 27 (.t 26), .eld 28 27 2 [.sl []], .mv 29 (.t 8), .elp 30 (.t 28) (.t 29) 2, .mv 31 (.t 30), .eld 32 31 0 [.int .i64 0], .mv 33 (.t 2), .bin 34 .eql (.t 32) (.t 33)]) (.cond (.t 34) (.seq (.ss [.mv 35 (.t 7), .mv 6 (.t 35)]) (.ret [6])) (.skip)))) (.ss [.mv 22 (.t 8), .bin 23 .add (.t 22) (.c (.int .i64 1)), .mv 8 (.t 23)]))))))) (.ss [.mv 12 (.t 7), .bin 13 .add (.t 12) (.c (.int .i64 1)), .mv 7 (.t 13)])))))) (.seq (.ss [.mv 6 (.c (.int .i64 (-1)))]) (.ret [6])))
def k_s_l13Owner : Cfg := { tt := tt, sigs := sigs, mv := false, bm := [], eqt := eqL, keep := [true, true, true, false, false, false, true, true, true, false, false, true, false, false, false, false, false, false, false, false, false, true, false, false, false, false, false, false, false, false, false, false, false, false, true, false], n := 36, pin := [], fail := [], fz := [] }
theorem c_s_l13Owner : cFun k_s_l13Owner Try.f94 s_s_l13Owner = some p_s_l13Owner := by kernel_rfl
theorem F_s_l13Owner {W : Wld} {ins outs : List (List D)} (h : pwp (FunOk PP W) p_s_l13Owner (RetIs outs) (envL ins)) : FunOk PP W n_s_l13Owner s_s_l13Owner ins outs := fun_ok (C := k_s_l13Owner) (cfg_ok rfl) (eq_ok rfl rfl) mixed Try.func94 (by kernel_rfl) (by kernel_rfl) c_s_l13Owner h

def p_i_InstTo_1 : PC := .seq (.ss [.mv 1 (.t 0), .mv 2 (.c (.bool false))]) (.seq (.ss [.sub 3 1 0 4, .call 4 n_i_Step_ok s_i_Step_ok [(.t 3)] [], .un 5 .not (.t 4), .mv 2 (.t 5)]) (.ret [2]))
def k_i_InstTo_1 : Cfg := { tt := tt, sigs := sigs, mv := false, bm := [], eqt := eqL, keep := [true, true, true, false, false, false], n := 6, pin := [], fail := [], fz := [] }
theorem c_i_InstTo_1 : cFun k_i_InstTo_1 Try.f96 s_i_InstTo_1 = some p_i_InstTo_1 := by kernel_rfl
theorem F_i_InstTo_1 {W : Wld} {ins outs : List (List D)} (h : pwp (FunOk PP W) p_i_InstTo_1 (RetIs outs) (envL ins)) : FunOk PP W n_i_InstTo_1 s_i_InstTo_1 ins outs := fun_ok (C := k_i_InstTo_1) (cfg_ok rfl) (eq_ok rfl rfl) mixed Try.func96 (by kernel_rfl) (by kernel_rfl) c_i_InstTo_1 h

def p_s_l6In : PC := .seq (.ss [.mv 6 (.c (.bool false))]) (.seq (.ss [.mv 7 (.t 0), .mv 8 (.t 1), .bin 9 .geq (.t 7) (.t 8), .mv 10 (.t 9), .g 10 true 11 (.mv 11 (.t 0)), .g 10 true 12 (.mv 12 (.t 2)), .g 10 true 13 (.bin 13 .leq (.t 11) (.t 12)), .pick 14 (.t 10) (.t 13) (.c (.bool false)), .mv 6 (.t 14)]) (.ret [6]))
def k_s_l6In : Cfg := { tt := tt, sigs := sigs, mv := false, bm := [], eqt := eqL, keep := [true, true, true, false, false, false, true, false, false, false, false, false, false, false, false], n := 15, pin := [], fail := [], fz := [] }
theorem c_s_l6In : cFun k_s_l6In Try.f100 s_s_l6In = some p_s_l6In := by kernel_rfl
theorem F_s_l6In {W : Wld} {ins outs : List (List D)} (h : pwp (FunOk PP W) p_s_l6In (RetIs outs) (envL ins)) : FunOk PP W n_s_l6In s_s_l6In ins outs := fun_ok (C := k_s_l6In) (cfg_ok rfl) (eq_ok rfl rfl) mixed Try.func100 (by kernel_rfl) (by kernel_rfl) c_s_l6In h

def p_i_StoreOk : PC := .seq (.ss [.mv 2 (.c (.bool false))]) (.seq (.seq (.ss [.mv 5 (.t 0), .len 6 (.t 5), .mv 7 (.c (.int .i64 0))]) (.block 0 (.loop (.seq (.ss [.bin 8 .lss (.t 7) (.t 6)]) (.seq (.cond (.t 8) (.skip) (.exit 0)) (.seq (.block 1 (.seq (.ss [.mv 9 (.t 7), .elp 10 (.t 5) (.t 7) 4, .eld 11 10 0 [.int .i64 0, .int .i64 0, .sl [], .sl []], .bld 4 [.int .i64 0, .int .i64 0, .sl [], .sl []] [], .mv 3 (.t 9), .st 4 0 (.t 11)]) (.seq (.ss [.sub 12 4 0 4, .call 13 n_i_PkgOk s_i_PkgOk [(.t 12)] [], .un 14 .not (.t 13), .mv 15 (.t 14), .g 15 false 16 (.mv 16 (.t 3)), .g 15 false 17 (.bin 17 .gtr (.t 16) (.c (.int .i64 0))), .g 15 false 18 (.mv 18 (.t 17)), .g 18 true 19 (.mv 19 (.t 0)), .g 18 true 20 (.mv 20 (.t 3)), .g 18 true 21 (.bin 21 .sub (.t 20) (.c (.int .i64 1))), .g 18 true 22 (.elp 22 (.t 19) (.t 21) 4), .g 18 true 23 (.eld 23 22 0 [.int .i64 0, .int .i64 0, .sl [], .sl []]), .g 18 true 24 (.sub 24 4 0 4), .g 18 true 25 (.call 25 n_i_Pkg_compare s_i_Pkg_compare [(.t 23), (.t 24)] []), .g 18 true 26 (.bin 26 .geq (.t 25) (.c (.int .i64 0))), .g 15 false 27 (.pick 27 (.t 18) (.t 26) (.c (.bool false))), .pick 28 (.t 15) (.c (.bool true)) (.t 27)]) (.cond (.t 28) (.seq (.ss [.mv 2 (.c (.bool false))]) (.ret [2])) (.skip))))) (.ss [.bin 29 .add (.t 7) (.c (.int .i64 1)), .mv 7 (.t 29)]))))))) (.seq (.ss [.mv 2 (.c (.bool true))]) (.ret [2])))
def k_i_StoreOk : Cfg := { tt := tt, sigs := sigs, mv := false, bm := [], eqt := eqL, keep := [true, false, true, true, true, true, true, true, true, false, false, false, false, false, false, false, false, false, false, false, false, false, false, false, false, false, false, false, true, false], n := 30, pin := [], fail := [], fz := [] }
theorem c_i_StoreOk : cFun k_i_StoreOk Try.f103 s_i_StoreOk = some p_i_StoreOk := by kernel_rfl
theorem F_i_StoreOk {W : Wld} {ins outs : List (List D)} (h : pwp (FunOk PP W) p_i_StoreOk (RetIs outs) (envL ins)) : FunOk PP W n_i_StoreOk s_i_StoreOk ins outs := fun_ok (C := k_i_StoreOk) (cfg_ok rfl) (eq_ok rfl rfl) mixed Try.func103 (by kernel_rfl) (by kernel_rfl) c_i_StoreOk h

def p_i_isName : PC := .seq (.ss [.mv 2 (.c (.bool false))]) (.seq (.ss [.mv 3 (.t 0), .call 4 n_i_in s_i_in [(.t 3), (.c (.int .i64 1)), (.c (.int .i64 4))] [], .mv 2 (.t 4)]) (.ret [2]))
def k_i_isName : Cfg := { tt := tt, sigs := sigs, mv := false, bm := [], eqt := eqL, keep := [true, false, true, false, false], n := 5, pin := [], fail := [], fz := [] }
theorem c_i_isName : cFun k_i_isName Try.f104 s_i_isName = some p_i_isName := by kernel_rfl
theorem F_i_isName {W : Wld} {ins outs : List (List D)} (h : pwp (FunOk PP W) p_i_isName (RetIs outs) (envL ins)) : FunOk PP W n_i_isName s_i_isName ins outs := fun_ok (C := k_i_isName) (cfg_ok rfl) (eq_ok rfl rfl) mixed Try.func104 (by kernel_rfl) (by kernel_rfl) c_i_isName h

def p_i_DiskOk_1 : PC := .seq (.ss [.mv 2 (.c (.bool false))]) (.seq (.ss [.mv 3 (.t 0), .call 4 n_i_in s_i_in [(.t 3), (.c (.int .i64 (-2))), (.c (.int .i64 9))] [], .un 5 .not (.t 4), .mv 2 (.t 5)]) (.ret [2]))
def k_i_DiskOk_1 : Cfg := { tt := tt, sigs := sigs, mv := false, bm := [], eqt := eqL, keep := [true, false, true, false, false, false], n := 6, pin := [], fail := [], fz := [] }
theorem c_i_DiskOk_1 : cFun k_i_DiskOk_1 Try.f137 s_i_DiskOk_1 = some p_i_DiskOk_1 := by kernel_rfl
theorem F_i_DiskOk_1 {W : Wld} {ins outs : List (List D)} (h : pwp (FunOk PP W) p_i_DiskOk_1 (RetIs outs) (envL ins)) : FunOk PP W n_i_DiskOk_1 s_i_DiskOk_1 ins outs := fun_ok (C := k_i_DiskOk_1) (cfg_ok rfl) (eq_ok rfl rfl) mixed Try.func137 (by kernel_rfl) (by kernel_rfl) c_i_DiskOk_1 h

def p_i_in : PC := .seq (.ss [.mv 6 (.c (.bool false))]) (.seq (.ss [.mv 7 (.t 0), .mv 8 (.t 1), .bin 9 .geq (.t 7) (.t 8), .mv 10 (.t 9), .g 10 true 11 (.mv 11 (.t 0)), .g 10 true 12 (.mv 12 (.t 2)), .g 10 true 13 (.bin 13 .leq (.t 11) (.t 12)), .pick 14 (.t 10) (.t 13) (.c (.bool false)), .mv 6 (.t 14)]) (.ret [6]))
def k_i_in : Cfg := { tt := tt, sigs := sigs, mv := false, bm := [], eqt := eqL, keep := [true, true, true, false, false, false, true, false, false, false, false, false, false, false, false], n := 15, pin := [], fail := [], fz := [] }
theorem c_i_in : cFun k_i_in Try.f138 s_i_in = some p_i_in := by kernel_rfl
theorem F_i_in {W : Wld} {ins outs : List (List D)} (h : pwp (FunOk PP W) p_i_in (RetIs outs) (envL ins)) : FunOk PP W n_i_in s_i_in ins outs := fun_ok (C := k_i_in) (cfg_ok rfl) (eq_ok rfl rfl) mixed Try.func138 (by kernel_rfl) (by kernel_rfl) c_i_in h

def p_s_l12Find : PC := .seq (.ss [.mv 6 (.c (.int .i64 0))]) (.seq (.seq (.ss [.mv 7 (.c (.int .i64 0))]) (.block 0 (.loop (.seq (.seq (.ss [.mv 8 (.t 7), .mv 9 (.t 0), .len 10 (.t 9), .bin 11 .lss (.t 8) (.t 10)]) (.cond (.t 11) (.skip) (.exit 0))) (.seq (.block 1 (.seq (.ss [.mv 14 (.t 0), .mv 15 (.t 7), .elp 16 (.t 14) (.t 15) 4, .mv 17 (.t 16), .eld 18 17 0 [.int .i64 0], .mv 19 (.t 1), .bin 20 .eql (.t 18) (.t 19), .mv 21 (.t 20), .g 21 true 22 (.mv 22 (.t 0)), .g 21 true 23 (.mv 23 (.t 7)), .g 21 true 24 (.elp 24 (.t 22) (.t 23) 4), .g 21 true 25 (.mv 25 (.t 24)), .g 21 true 26 (.eld 26 25 1 [.int .i64 0]), .g 21 true 27 (.mv 27 (.t 2)), .g 21 true 28 (.bin 28 .eql (.t 26) (.t 27)), .pick 29 (.t 21) (.t 28) (.c (.bool false))]) (.cond (.t 29) (.seq (.ss [.mv 30 (.t 7), .mv 6 (.t 30)]) (.ret [6])) (.skip)))) (.ss [.mv 12 (.t 7), .bin 13 .add (.t 12) (.c (.int .i64 1)), .mv 7 (.t 13)])))))) (.seq (.ss [.mv 6 (.c (.int .i64 (-1)))]) (.ret [6])))
def k_s_l12Find : Cfg := { tt := tt, sigs := sigs, mv := false, bm := [], eqt := eqL, keep := [true, true, true, false, false, false, true, true, false, false, false, true, false, false, false, false, false, false, false, false, false, false, false, false, false, false, false, false, false, true, false], n := 31, pin := [], fail := [], fz := [] }
theorem c_s_l12Find : cFun k_s_l12Find Try.f142 s_s_l12Find = some p_s_l12Find := by kernel_rfl
theorem F_s_l12Find {W : Wld} {ins outs : List (List D)} (h : pwp (FunOk PP W) p_s_l12Find (RetIs outs) (envL ins)) : FunOk PP W n_s_l12Find s_s_l12Find ins outs := fun_ok (C := k_s_l12Find) (cfg_ok rfl) (eq_ok rfl rfl) mixed Try.func142 (by kernel_rfl) (by kernel_rfl) c_s_l12Find h

def p_i_bears : PC := .seq (.ss [.mv 3 (.t 1), .mv 4 (.c (.bool false))]) (.seq (.ss [.mv 5 (.t 0), .fn 6 n_i_bears_1 [] [3], .call 7 n_sl_ContainsFunc_Pkg s_sl_ContainsFunc_Pkg [(.t 5), (.t 6)] [], .mv 4 (.t 7)]) (.ret [4]))
def k_i_bears : Cfg := { tt := tt, sigs := sigs, mv := false, bm := [], eqt := eqL, keep := [true, true, false, true, true, false, false, false], n := 8, pin := [], fail := [], fz := [] }
theorem c_i_bears : cFun k_i_bears Try.f146 s_i_bears = some p_i_bears := by kernel_rfl
theorem F_i_bears {W : Wld} {ins outs : List (List D)} (h : pwp (FunOk PP W) p_i_bears (RetIs outs) (envL ins)) : FunOk PP W n_i_bears s_i_bears ins outs := fun_ok (C := k_i_bears) (cfg_ok rfl) (eq_ok rfl rfl) mixed Try.func146 (by kernel_rfl) (by kernel_rfl) c_i_bears h

def p_i_Pkg_copied : PC := .seq (.ss [.mv 1 (.t 0), .bld 2 [.int .i64 0, .int .i64 0, .sl [], .sl []] []]) (.seq (.ss [.nop, .sub 4 1 2 1, .call 5 n_sl_Clone_File s_sl_Clone_File [(.t 4)] [], .nop, .sub 7 1 3 1, .call 8 n_sl_Clone_Dep s_sl_Clone_Dep [(.t 7)] [], .nop, .st 1 2 (.t 5), .nop, .st 1 3 (.t 8)]) (.seq (.ss [.sub 11 1 0 4, .st 2 0 (.t 11)]) (.ret [2])))
def k_i_Pkg_copied : Cfg := { tt := tt, sigs := sigs, mv := false, bm := [], eqt := eqL, keep := [true, true, true, false, false, false, false, false, false, false, false, false], n := 12, pin := [], fail := [], fz := [] }
theorem c_i_Pkg_copied : cFun k_i_Pkg_copied Try.f147 s_i_Pkg_copied = some p_i_Pkg_copied := by kernel_rfl
theorem F_i_Pkg_copied {W : Wld} {ins outs : List (List D)} (h : pwp (FunOk PP W) p_i_Pkg_copied (RetIs outs) (envL ins)) : FunOk PP W n_i_Pkg_copied s_i_Pkg_copied ins outs := fun_ok (C := k_i_Pkg_copied) (cfg_ok rfl) (eq_ok rfl rfl) mixed Try.func147 (by kernel_rfl) (by kernel_rfl) c_i_Pkg_copied h

def p_s_l21Same : PC := .seq (.ss [.mv 4 (.c (.bool false))]) (.seq (.seq (.ss [.mv 5 (.c (.int .i64 0))]) (.block 0 (.loop (.seq (.seq (.ss [.mv 6 (.t 5), .mv 7 (.t 0), .len 8 (.t 7), .bin 9 .lss (.t 6) (.t 8)]) (.cond (.t 9) (.skip) (.exit 0))) (.seq (.block 1 (.seq (.ss [.mv 12 (.t 0), .mv 13 (.t 5), .elp 14 (.t 12) (.t 13) 1, .eld 15 14 0 [.int .i64 0], .mv 16 (.t 1), .mv 17 (.t 5), .elp 18 (.t 16) (.t 17) 1, .eld 19 18 0 [.int .i64 0], .bin 20 .neq (.t 15) (.t 19)]) (.cond (.t 20) (.seq (.ss [.mv 4 (.c (.bool false))]) (.ret [4])) (.skip)))) (.ss [.mv 10 (.t 5), .bin 11 .add (.t 10) (.c (.int .i64 1)), .mv 5 (.t 11)])))))) (.seq (.ss [.mv 4 (.c (.bool true))]) (.ret [4])))
def k_s_l21Same : Cfg := { tt := tt, sigs := sigs, mv := false, bm := [], eqt := eqL, keep := [true, true, false, false, true, true, false, false, false, true, false, false, false, false, false, false, false, false, false, false, true], n := 21, pin := [], fail := [], fz := [] }
theorem c_s_l21Same : cFun k_s_l21Same Try.f148 s_s_l21Same = some p_s_l21Same := by kernel_rfl
theorem F_s_l21Same {W : Wld} {ins outs : List (List D)} (h : pwp (FunOk PP W) p_s_l21Same (RetIs outs) (envL ins)) : FunOk PP W n_s_l21Same s_s_l21Same ins outs := fun_ok (C := k_s_l21Same) (cfg_ok rfl) (eq_ok rfl rfl) mixed Try.func148 (by kernel_rfl) (by kernel_rfl) c_s_l21Same h

def p_s_l3Pkgs : PC := .seq (.ss [.mv 2 (.c (.bool false))]) (.seq (.seq (.ss [.mv 3 (.c (.int .i64 0))]) (.block 0 (.loop (.seq (.seq (.ss [.mv 4 (.t 3), .mv 5 (.t 0), .len 6 (.t 5), .bin 7 .lss (.t 4) (.t 6)]) (.cond (.t 7) (.skip) (.exit 0))) (.seq (.block 1 (.seq (.ss [.mv 10 (.t 0), .mv 11 (.t 3), .elp 12 (.t 10) (.t 11) 4, .eld 13 12 0 [.int .i64 0, .int .i64 0, .sl [], .sl []], .call 14 n_s_PkgOk s_s_PkgOk [(.t 13)] [], .un 15 .not (.t 14), .mv 16 (.t 15), .g 16 false 17 (.mv 17 (.t 3)), .g 16 false 18 (.bin 18 .gtr (.t 17) (.c (.int .i64 0))), .g 16 false 19 (.mv 19 (.t 18)), .g 19 true 20 (.mv 20 (.t 0)), .g 19 true 21 (.mv 21 (.t 3)), .g 19 true 22 (.bin 22 .sub (.t 21) (.c (.int .i64 1))), .g 19 true 23 (.elp 23 (.t 20) (.t 22) 4), .g 19 true 24 (.mv 24 (.t 23)), .g 19 true 25 (.eld 25 24 0 [.int .i64 0]), .g 19 true 26 (.mv 26 (.t 0)), .g 19 true 27 (.mv 27 (.t 3)), .g 19 true 28 (.bin 28 .sub (.t 27) (.c (.int .i64 1))), .g 19 true 29 (.elp 29 (.t 26) (.t 28) 4), .g 19 true 30 (.mv 30 (.t 29)), .g 19 true 31 (.eld 31 30 1 [.int .i64 0]), .g 19 true 32 (.mv 32 (.t 0)), .g 19 true 33 (.mv 33 (.t 3)), .g 19 true 34 (.elp 34 (.t 32) (.t 33) 4), .g 19 true 35 (.mv 35 (.t 34)), .g 19 true 36 (.eld 36 35 0 [.int .i64 0]), .g 19 true 37 (.mv 37 (.t 0)), .g 19 true 38 (.mv 38 (.t 3)), .g 19 true 39 (.elp 39 (.t 37) (.t 38) 4), .g 19 true 40 (.mv 40 (.t 39)), .g 19 true 41 (.eld 41 40 1 [.int .i64 0]), .g 19 true 42 (.call 42 n_s_l3Less s_s_l3Less [(.t 25), (.t 31), (.t 36), (.t 41)] []), .g 19 true 43 (.un 43 .not (.t 42)), .g 16 false 44 (.pick 44 (.t 19) (.t 43) (.c (.bool false))), .pick 45 (.t 16) (.c (.bool true)) (.t 44)]) (.cond (.t 45) (.seq (.ss [.mv 2 (.c (.bool false))]) (.ret [2])) (.skip)))) (.ss [.mv 8 (.t 3), .bin 9 .add (.t 8) (.c (.int .i64 1)), .mv 3 (.t 9)])))))) (.seq (.ss [.mv 2 (.c (.bool true))]) (.ret [2])))
def k_s_l3Pkgs : Cfg := { tt := tt, sigs := sigs, mv := false, bm := [], eqt := eqL, keep := [true, false, true, true, false, false, false, true, false, false, false, false, false, false, false, false, false, false, false, false, false, false, false, false, false, false, false, false, false, false, false, false, false, false, false, false, false, false, false, false, false, false, false, false, false, true], n := 46, pin := [], fail := [], fz := [] }
theorem c_s_l3Pkgs : cFun k_s_l3Pkgs Try.f150 s_s_l3Pkgs = some p_s_l3Pkgs := by kernel_rfl
theorem F_s_l3Pkgs {W : Wld} {ins outs : List (List D)} (h : pwp (FunOk PP W) p_s_l3Pkgs (RetIs outs) (envL ins)) : FunOk PP W n_s_l3Pkgs s_s_l3Pkgs ins outs := fun_ok (C := k_s_l3Pkgs) (cfg_ok rfl) (eq_ok rfl rfl) mixed Try.func150 (by kernel_rfl) (by kernel_rfl) c_s_l3Pkgs h

def p_s_l13Is : PC := .seq (.ss [.mv 4 (.c (.bool false))]) (.seq (.ss [.mv 8 (.t 0), .mv 9 (.t 1), .call 10 n_s_l12Newest s_s_l12Newest [(.t 8), (.t 9)] [], .mv 7 (.t 10), .ext 11 7 0 4, .ext 12 7 4 1, .bld 5 [.int .i64 0, .int .i64 0, .sl [], .sl []] [], .st 5 0 (.t 11), .mv 6 (.t 12)]) (.seq (.ss [.mv 13 (.t 6), .mv 4 (.t 13)]) (.ret [4])))
def k_s_l13Is : Cfg := { tt := tt, sigs := sigs, mv := false, bm := [], eqt := eqL, keep := [true, true, false, false, true, true, true, false, false, false, false, false, false, false], n := 14, pin := [], fail := [], fz := [] }
theorem c_s_l13Is : cFun k_s_l13Is Try.f156 s_s_l13Is = some p_s_l13Is := by kernel_rfl
theorem F_s_l13Is {W : Wld} {ins outs : List (List D)} (h : pwp (FunOk PP W) p_s_l13Is (RetIs outs) (envL ins)) : FunOk PP W n_s_l13Is s_s_l13Is ins outs := fun_ok (C := k_s_l13Is) (cfg_ok rfl) (eq_ok rfl rfl) mixed Try.func156 (by kernel_rfl) (by kernel_rfl) c_s_l13Is h

def p_i_PkgOk : PC := .seq (.ss [.mv 1 (.t 0), .mv 2 (.c (.bool false))]) (.seq (.seq (.ss [.nop, .sub 8 1 0 1, .call 9 n_i_isName s_i_isName [(.t 8)] [], .un 10 .not (.t 9), .mv 11 (.t 10), .g 11 false 12 (.nop), .g 11 false 13 (.sub 13 1 1 1), .g 11 false 14 (.call 14 n_i_isVer s_i_isVer [(.t 13)] []), .g 11 false 15 (.un 15 .not (.t 14)), .pick 16 (.t 11) (.c (.bool true)) (.t 15), .mv 17 (.t 16), .g 17 false 18 (.nop), .g 17 false 19 (.sub 19 1 2 1), .g 17 false 20 (.len 20 (.t 19)), .g 17 false 21 (.bin 21 .gtr (.t 20) (.c (.int .i64 2))), .pick 22 (.t 17) (.c (.bool true)) (.t 21), .mv 23 (.t 22), .g 23 false 24 (.nop), .g 23 false 25 (.sub 25 1 3 1), .g 23 false 26 (.len 26 (.t 25)), .g 23 false 27 (.bin 27 .gtr (.t 26) (.c (.int .i64 2))), .pick 28 (.t 23) (.c (.bool true)) (.t 27)]) (.cond (.t 28) (.seq (.ss [.mv 2 (.c (.bool false))]) (.ret [2])) (.skip))) (.seq (.seq (.ss [.nop, .sub 30 1 2 1, .len 31 (.t 30), .mv 32 (.c (.int .i64 0))]) (.block 0 (.loop (.seq (.ss [.bin 33 .lss (.t 32) (.t 31)]) (.seq (.cond (.t 33) (.skip) (.exit 0)) (.seq (.block 1 (.seq (.ss [.mv 34 (.t 32), .elp 35 (.t 30) (.t 32) 2, .eld 36 35 0 [.int .i64 0, .int .i64 0], .bld 4 [.int .i64 0, .int .i64 0] [], .mv 3 (.t 34), .st 4 0 (.t 36)]) (.seq (.ss [.nop, .sub 38 4 0 1, .call 39 n_i_in s_i_in [(.t 38), (.c (.int .i64 0)), (.c (.int .i64 5))] [], .un 40 .not (.t 39), .mv 41 (.t 40), .g 41 false 42 (.nop), .g 41 false 43 (.sub 43 4 1 1), .g 41 false 44 (.call 44 n_i_in s_i_in [(.t 43), (.c (.int .i64 0)), (.c (.int .i64 9))] []), .g 41 false 45 (.un 45 .not (.t 44)), .pick 46 (.t 41) (.c (.bool true)) (.t 45), .mv 47 (.t 46), .g 47 false 48 (.mv 48 (.t 3)), .g 47 false 49 (.bin 49 .gtr (.t 48) (.c (.int .i64 0))), .g 47 false 50 (.mv 50 (.t 49)), .g 50 true 51 (.nop), .g 50 true 52 (.sub 52 4 0 1), .g 50 true 53 (.nop), .g 50 true 54 (.sub 54 1 2 1), .g 50 true 55 (.mv 55 (.t 3)), .g 50 true 56 (.bin 56 .sub (.t 55) (.c (.int .i64 1))), .g 50 true 57 (.elp 57 (.t 54) (.t 56) 2), .g 50 true 58 (.mv 58 (.t 57)), .g 50 true 59 (.eld 59 58 0 [.int .i64 0]), .g 50 true 60 (.bin 60 .leq (.t 52) (.t 59)), .g 47 false 61 (.pick 61 (.t 50) (.t 60) (.c (.bool false))), .pick 62 (.t 47) (.c (.bool true)) (.t 61)]) (.cond (.t 62) (.seq (.ss [.mv 2 (.c (.bool false))]) (.ret [2])) (.skip))))) (.ss [.bin 63 .add (.t 32) (.c (.int .i64 1)), .mv 32 (.t 63)]))))))) (.seq (.seq (.ss [.nop, .sub 65 1 3 1, .len 66 (.t 65), .mv 67 (.c (.int .i64 0))]) (.block 2 (.loop (.seq (.ss [.bin 68 .lss (.t 67) (.t 66)]) (.seq (.cond (.t 68) (.skip) (.exit 2)) (.seq (.block 3 (.seq (.ss [.mv 69 (.t 67), .elp 70 (.t 65) (.t 67) 2, .eld 71 70 0 [.int .i64 0, .int .i64 0], .bld 6 [.int .i64 0, .int .i64 0] [], .mv 5 (.t 69), .st 6 0 (.t 71)]) (.seq (.ss [.nop, .sub 73 6 0 1, .call 74 n_i_isName s_i_isName [(.t 73)] [], .un 75 .not (.t 74), .mv 76 (.t 75), .g 76 false 77 (.nop), .g 76 false 78 (.sub 78 6 0 1), .g 76 false 79 (.nop), .g 76 false 80 (.sub 80 1 0 1), .g 76 false 81 (.bin 81 .eql (.t 78) (.t 80)), .pick 82 (.t 76) (.c (.bool true)) (.t 81), .mv 83 (.t 82), .g 83 false 84 (.nop), .g 83 false 85 (.sub 85 6 1 1), .g 83 false 86 (.call 86 n_i_isVer s_i_isVer [(.t 85)] []), .g 83 false 87 (.un 87 .not (.t 86)), .pick 88 (.t 83) (.c (.bool true)) (.t 87), .mv 89 (.t 88), .g 89 false 90 (.mv 90 (.t 5)), .g 89 false 91 (.bin 91 .gtr (.t 90) (.c (.int .i64 0))), .g 89 false 92 (.mv 92 (.t 91)), .g 92 true 93 (.nop), .g 92 true 94 (.sub 94 6 0 1), .g 92 true 95 (.nop), .g 92 true 96 (.sub 96 1 3 1), .g 92 true 97 (.mv 97 (.t 5)), .g 92 true 98 (.bin 98 .sub (.t 97) (.c (.int .i64 1))), .g 92 true 99 (.elp 99 (.t 96) (.t 98) 2), .g 92 true 100 (.mv 100 (.t 99)), .g 92 true 101 (.eld 101 100 0 [.int .i64 0]), .g 92 true 102 (.bin 102 .leq (.t 94) (.t 101)), .g 89 false 103 (.pick 103 (.t 92) (.t 102) (.c (.bool false))), .pick 104 (.t 89) (.c (.bool true)) (.t 103)]) (.cond (.t 104) (.seq (.ss [.mv 2 (.c (.bool false))]) (.ret [2])) (.skip))))) (.ss [.bin 105 .add (.t 67) (.c (.int .i64 1)), .mv 67 (.t 105)]))))))) (.seq (.ss [.mv 2 (.c (.bool true))]) (.ret [2])))))
def k_i_PkgOk : Cfg := { tt := tt, sigs := sigs, mv := false, bm := [], eqt := eqL, keep := [true, true, true, true, true, true, true, false, false, false, false, false, false, false, false, false, false, false, false, false, false, false, false, false, false, false, false, false, true, false, true, true, true, true, false, false, false, false, false, false, false, false, false, false, false, false, false, false, false, false, false, false, false, false, false, false, false, false, false, false, false, false, true, false, false, true, true, true, true, false, false, false, false, false, false, false, false, false, false, false, false, false, false, false, false, false, false, false, false, false, false, false, false, false, false, false, false, false, false, false, false, false, false, false, true, false], n := 106, pin := [], fail := [], fz := [] }
theorem c_i_PkgOk : cFun k_i_PkgOk Try.f160 s_i_PkgOk = some p_i_PkgOk := by kernel_rfl
theorem F_i_PkgOk {W : Wld} {ins outs : List (List D)} (h : pwp (FunOk PP W) p_i_PkgOk (RetIs outs) (envL ins)) : FunOk PP W n_i_PkgOk s_i_PkgOk ins outs := fun_ok (C := k_i_PkgOk) (cfg_ok rfl) (eq_ok rfl rfl) mixed Try.func160 (by kernel_rfl) (by kernel_rfl) c_i_PkgOk h

def p_i_Pkg_compare : PC := .seq (.ss [.mv 2 (.t 0), .mv 3 (.t 1), .mv 4 (.c (.int .i64 0))]) (.seq (.ss [.nop, .sub 6 2 0 1, .nop, .sub 8 3 0 1, .call 9 n_cmp_Compare_int s_cmp_Compare_int [(.t 6), (.t 8)] [], .nop, .sub 11 2 1 1, .nop, .sub 13 3 1 1, .call 14 n_cmp_Compare_int s_cmp_Compare_int [(.t 11), (.t 13)] [], .lit 15 2 [.int .i64 0] [(0, (.t 9)), (1, (.t 14))], .call 16 n_cmp_Or_int s_cmp_Or_int [(.t 15)] [], .mv 4 (.t 16)]) (.ret [4]))
def k_i_Pkg_compare : Cfg := { tt := tt, sigs := sigs, mv := false, bm := [], eqt := eqL, keep := [true, true, true, true, true, false, false, false, false, false, false, false, false, false, false, false, false], n := 17, pin := [], fail := [], fz := [] }
theorem c_i_Pkg_compare : cFun k_i_Pkg_compare Try.f161 s_i_Pkg_compare = some p_i_Pkg_compare := by kernel_rfl
theorem F_i_Pkg_compare {W : Wld} {ins outs : List (List D)} (h : pwp (FunOk PP W) p_i_Pkg_compare (RetIs outs) (envL ins)) : FunOk PP W n_i_Pkg_compare s_i_Pkg_compare ins outs := fun_ok (C := k_i_Pkg_compare) (cfg_ok rfl) (eq_ok rfl rfl) mixed Try.func161 (by kernel_rfl) (by kernel_rfl) c_i_Pkg_compare h

def p_s_l3Less : PC := .seq (.ss [.mv 8 (.c (.bool false))]) (.seq (.ss [.mv 9 (.t 0), .mv 10 (.t 2), .bin 11 .lss (.t 9) (.t 10), .mv 12 (.t 11), .g 12 false 13 (.mv 13 (.t 0)), .g 12 false 14 (.mv 14 (.t 2)), .g 12 false 15 (.bin 15 .eql (.t 13) (.t 14)), .g 12 false 16 (.mv 16 (.t 15)), .g 16 true 17 (.mv 17 (.t 1)), .g 16 true 18 (.mv 18 (.t 3)), .g 16 true 19 (.bin 19 .lss (.t 17) (.t 18)), .g 12 false 20 (.pick 20 (.t 16) (.t 19) (.c (.bool false))), .pick 21 (.t 12) (.c (.bool true)) (.t 20), .mv 8 (.t 21)]) (.ret [8]))
def k_s_l3Less : Cfg := { tt := tt, sigs := sigs, mv := false, bm := [], eqt := eqL, keep := [true, true, true, true, false, false, false, false, true, false, false, false, false, false, false, false, false, false, false, false, false, false], n := 22, pin := [], fail := [], fz := [] }
theorem c_s_l3Less : cFun k_s_l3Less Try.f180 s_s_l3Less = some p_s_l3Less := by kernel_rfl
theorem F_s_l3Less {W : Wld} {ins outs : List (List D)} (h : pwp (FunOk PP W) p_s_l3Less (RetIs outs) (envL ins)) : FunOk PP W n_s_l3Less s_s_l3Less ins outs := fun_ok (C := k_s_l3Less) (cfg_ok rfl) (eq_ok rfl rfl) mixed Try.func180 (by kernel_rfl) (by kernel_rfl) c_s_l3Less h

def p_s_PkgOk : PC := .seq (.ss [.mv 1 (.t 0), .mv 2 (.c (.bool false))]) (.seq (.ss [.nop, .sub 4 1 0 1, .call 5 n_s_l6In s_s_l6In [(.t 4), (.c (.int .i64 1)), (.c (.int .i64 4))] [], .mv 6 (.t 5), .g 6 true 7 (.nop), .g 6 true 8 (.sub 8 1 1 1), .g 6 true 9 (.call 9 n_s_l6In s_s_l6In [(.t 8), (.c (.int .i64 1)), (.c (.int .i64 5))] []), .pick 10 (.t 6) (.t 9) (.c (.bool false)), .mv 11 (.t 10), .g 11 true 12 (.nop), .g 11 true 13 (.sub 13 1 2 1), .g 11 true 14 (.call 14 n_s_l1Files s_s_l1Files [(.t 13)] []), .pick 15 (.t 11) (.t 14) (.c (.bool false)), .mv 16 (.t 15), .g 16 true 17 (.nop), .g 16 true 18 (.sub 18 1 0 1), .g 16 true 19 (.nop), .g 16 true 20 (.sub 20 1 3 1), .g 16 true 21 (.call 21 n_s_l1Deps s_s_l1Deps [(.t 18), (.t 20)] []), .pick 22 (.t 16) (.t 21) (.c (.bool false)), .mv 2 (.t 22)]) (.ret [2]))
def k_s_PkgOk : Cfg := { tt := tt, sigs := sigs, mv := false, bm := [], eqt := eqL, keep := [true, true, true, false, false, false, false, false, false, false, false, false, false, false, false, false, false, false, false, false, false, false, false], n := 23, pin := [], fail := [], fz := [] }
theorem c_s_PkgOk : cFun k_s_PkgOk Try.f186 s_s_PkgOk = some p_s_PkgOk := by kernel_rfl
theorem F_s_PkgOk {W : Wld} {ins outs : List (List D)} (h : pwp (FunOk PP W) p_s_PkgOk (RetIs outs) (envL ins)) : FunOk PP W n_s_PkgOk s_s_PkgOk ins outs := fun_ok (C := k_s_PkgOk) (cfg_ok rfl) (eq_ok rfl rfl) mixed Try.func186 (by kernel_rfl) (by kernel_rfl) c_s_PkgOk h

def p_i_isVer : PC := .seq (.ss [.mv 2 (.c (.bool false))]) (.seq (.ss [.mv 3 (.t 0), .call 4 n_i_in s_i_in [(.t 3), (.c (.int .i64 1)), (.c (.int .i64 5))] [], .mv 2 (.t 4)]) (.ret [2]))
def k_i_isVer : Cfg := { tt := tt, sigs := sigs, mv := false, bm := [], eqt := eqL, keep := [true, false, true, false, false], n := 5, pin := [], fail := [], fz := [] }
theorem c_i_isVer : cFun k_i_isVer Try.f191 s_i_isVer = some p_i_isVer := by kernel_rfl
theorem F_i_isVer {W : Wld} {ins outs : List (List D)} (h : pwp (FunOk PP W) p_i_isVer (RetIs outs) (envL ins)) : FunOk PP W n_i_isVer s_i_isVer ins outs := fun_ok (C := k_i_isVer) (cfg_ok rfl) (eq_ok rfl rfl) mixed Try.func191 (by kernel_rfl) (by kernel_rfl) c_i_isVer h

def p_cmp_Or_int : PC := .seq (.ss [.mv 2 (.c (.int .i64 0))]) (.seq (.ss [.mv 3 (.c (.int .i64 0))]) (.seq (.seq (.ss [.mv 6 (.t 0), .len 7 (.t 6), .mv 8 (.c (.int .i64 0))]) (.block 0 (.loop (.seq (.ss [.bin 9 .lss (.t 8) (.t 7)]) (.seq (.cond (.t 9) (.skip) (.exit 0)) (.seq (.block 1 (.seq (.ss [.elp 10 (.t 6) (.t 8) 1, .eld 11 10 0 [.int .i64 0], .mv 5 (.t 11)]) (.seq (.ss [.mv 12 (.t 5), .mv 13 (.t 3), .bin 14 .neq (.t 12) (.t 13)]) (.cond (.t 14) (.seq (.ss [.mv 15 (.t 5), .mv 2 (.t 15)]) (.ret [2])) (.skip))))) (.ss [.bin 16 .add (.t 8) (.c (.int .i64 1)), .mv 8 (.t 16)]))))))) (.seq (.ss [.mv 17 (.t 3), .mv 2 (.t 17)]) (.ret [2]))))
def k_cmp_Or_int : Cfg := { tt := tt, sigs := sigs, mv := false, bm := [], eqt := eqL, keep := [true, false, true, true, false, true, true, true, true, true, false, false, false, false, true, false, false, false], n := 18, pin := [], fail := [], fz := [] }
theorem c_cmp_Or_int : cFun k_cmp_Or_int Try.f192 s_cmp_Or_int = some p_cmp_Or_int := by kernel_rfl
theorem F_cmp_Or_int {W : Wld} {ins outs : List (List D)} (h : pwp (FunOk PP W) p_cmp_Or_int (RetIs outs) (envL ins)) : FunOk PP W n_cmp_Or_int s_cmp_Or_int ins outs := fun_ok (C := k_cmp_Or_int) (cfg_ok rfl) (eq_ok rfl rfl) mixed Try.func192 (by kernel_rfl) (by kernel_rfl) c_cmp_Or_int h

def p_cmp_Compare_int : PC := .seq (.ss [.mv 4 (.c (.int .i64 0))]) (.seq (.ss [.mv 7 (.t 0), .call 8 n_cmp_isNaN_int s_cmp_isNaN_int [(.t 7)] [], .mv 5 (.t 8)]) (.seq (.ss [.mv 9 (.t 1), .call 10 n_cmp_isNaN_int s_cmp_isNaN_int [(.t 9)] [], .mv 6 (.t 10)]) (.seq (.seq (.ss [.mv 11 (.t 5)]) (.cond (.t 11) (.seq (.seq (.ss [.mv 12 (.t 6)]) (.cond (.t 12) (.seq (.ss [.mv 4 (.c (.int .i64 0))]) (.ret [4])) (.skip))) (.seq (.ss [.mv 4 (.c (.int .i64 (-1)))]) (.ret [4]))) (.skip))) (.seq (.seq (.ss [.mv 13 (.t 6)]) (.cond (.t 13) (.seq (.ss [.mv 4 (.c (.int .i64 1))]) (.ret [4])) (.skip))) (.seq (.seq (.ss [.mv 14 (.t 0), .mv 15 (.t 1), .bin 16 .lss (.t 14) (.t 15)]) (.cond (.t 16) (.seq (.ss [.mv 4 (.c (.int .i64 (-1)))]) (.ret [4])) (.skip))) (.seq (.seq (.ss [.mv 17 (.t 0), .mv 18 (.t 1), .bin 19 .gtr (.t 17) (.t 18)]) (.cond (.t 19) (.seq (.ss [.mv 4 (.c (.int .i64 1))]) (.ret [4])) (.skip))) (.seq (.ss [.mv 4 (.c (.int .i64 0))]) (.ret [4]))))))))
def k_cmp_Compare_int : Cfg := { tt := tt, sigs := sigs, mv := false, bm := [], eqt := eqL, keep := [true, true, false, false, true, true, true, false, false, false, false, true, true, true, false, false, true, false, false, true], n := 20, pin := [], fail := [], fz := [] }
theorem c_cmp_Compare_int : cFun k_cmp_Compare_int Try.f193 s_cmp_Compare_int = some p_cmp_Compare_int := by kernel_rfl
theorem F_cmp_Compare_int {W : Wld} {ins outs : List (List D)} (h : pwp (FunOk PP W) p_cmp_Compare_int (RetIs outs) (envL ins)) : FunOk PP W n_cmp_Compare_int s_cmp_Compare_int ins outs := fun_ok (C := k_cmp_Compare_int) (cfg_ok rfl) (eq_ok rfl rfl) mixed Try.func193 (by kernel_rfl) (by kernel_rfl) c_cmp_Compare_int h

def p_s_l1Files : PC := .seq (.ss [.mv 2 (.c (.bool false))]) (.seq (.seq (.ss [.mv 3 (.c (.int .i64 0))]) (.block 0 (.loop (.seq (.seq (.ss [.mv 4 (.t 3), .mv 5 (.t 0), .len 6 (.t 5), .bin 7 .lss (.t 4) (.t 6)]) (.cond (.t 7) (.skip) (.exit 0))) (.seq (.block 1 (.seq (.ss [.mv 10 (.t 0), .mv 11 (.t 3), .elp 12 (.t 10) (.t 11) 2, .mv 13 (.t 12), .eld 14 13 0 [.int .i64 0], .call 15 n_s_l6In s_s_l6In [(.t 14), (.c (.int .i64 0)), (.c (.int .i64 5))] [], .un 16 .not (.t 15), .mv 17 (.t 16), .g 17 false 18 (.mv 18 (.t 0)), .g 17 false 19 (.mv 19 (.t 3)), .g 17 false 20 (.elp 20 (.t 18) (.t 19) 2), .g 17 false 21 (.mv 21 (.t 20)), .g 17 false 22 (.eld 22 21 1 [.int .i64 0]), .g 17 false 23 (.call 23 n_s_l6In s_s_l6In [(.t 22), (.c (.int .i64 0)), (.c (.int .i64 9))] []), .g 17 false 24 (.un 24 .not (.t 23)), .pick 25 (.t 17) (.c (.bool true)) (.t 24), .mv 26 (.t 25), .g 26 false 27 (.mv 27 (.t 3)), .g 26 false 28 (.bin 28 .gtr (.t 27) (.c (.int .i64 0))), .g 26 false 29 (.mv 29 (.t 28)), .g 29 true 30 (.mv 30 (.t 0)), .g 29 true 31 (.mv 31 (.t 3)), .g 29 true 32 (.bin 32 .sub (.t 31) (.c (.int .i64 1))), .g 29 true 33 (.elp 33 (.t 30) (.t 32) 2), .g 29 true 34 (.mv 34 (.t 33)), .g 29 true 35 (.eld 35 34 0 [.int .i64 0]), .g 29 true 36 (.mv 36 (.t 0)), .g 29 true 37 (.mv 37 (.t 3)), .g 29 true 38 (.elp 38 (.t 36) (.t 37) 2), .g 29 true 39 (.mv 39 (.t 38)), .g 29 true 40 (.eld 40 39 0 [.int .i64 0]), .g 29 true 41 (.bin 41 .geq (.t 35) (.t 40)), .g 26 false 42 (.pick 42 (.t 29) (.t 41) (.c (.bool false))), .pick 43 (.t 26) (.c (.bool true)) (.t 42)]) (.cond (.t 43) (.seq (.ss [.mv 2 (.c (.bool false))]) (.ret [2])) (.skip)))) (.ss [.mv 8 (.t 3), .bin 9 .add (.t 8) (.c (.int .i64 1)), .mv 3 (.t 9)])))))) (.seq (.ss [.mv 44 (.t 0), .len 45 (.t 44), .bin 46 .leq (.t 45) (.c (.int .i64 2)), .mv 2 (.t 46)]) (.ret [2])))
def k_s_l1Files : Cfg := { tt := tt, sigs := sigs, mv := false, bm := [], eqt := eqL, keep := [true, false, true, true, false, false, false, true, false, false, false, false, false, false, false, false, false, false, false, false, false, false, false, false, false, false, false, false, false, false, false, false, false, false, false, false, false, false, false, false, false, false, false, true, false, false, false], n := 47, pin := [], fail := [], fz := [] }
theorem c_s_l1Files : cFun k_s_l1Files Try.f200 s_s_l1Files = some p_s_l1Files := by kernel_rfl
theorem F_s_l1Files {W : Wld} {ins outs : List (List D)} (h : pwp (FunOk PP W) p_s_l1Files (RetIs outs) (envL ins)) : FunOk PP W n_s_l1Files s_s_l1Files ins outs := fun_ok (C := k_s_l1Files) (cfg_ok rfl) (eq_ok rfl rfl) mixed Try.func200 (by kernel_rfl) (by kernel_rfl) c_s_l1Files h

def p_s_l1Deps : PC := .seq (.ss [.mv 4 (.c (.bool false))]) (.seq (.seq (.ss [.mv 5 (.c (.int .i64 0))]) (.block 0 (.loop (.seq (.seq (.ss [.mv 7 (.t 5), .mv 8 (.t 1), .len 9 (.t 8), .bin 10 .lss (.t 7) (.t 9)]) (.cond (.t 10) (.skip) (.exit 0))) (.seq (.block 1 (.seq (.ss [.mv 13 (.t 1), .mv 14 (.t 5), .elp 15 (.t 13) (.t 14) 2, .eld 16 15 0 [.int .i64 0, .int .i64 0], .bld 6 [.int .i64 0, .int .i64 0] [], .st 6 0 (.t 16)]) (.seq (.ss [.nop, .sub 18 6 0 1, .call 19 n_s_l6In s_s_l6In [(.t 18), (.c (.int .i64 1)), (.c (.int .i64 4))] [], .un 20 .not (.t 19), .mv 21 (.t 20), .g 21 false 22 (.nop), .g 21 false 23 (.sub 23 6 0 1), .g 21 false 24 (.mv 24 (.t 0)), .g 21 false 25 (.bin 25 .eql (.t 23) (.t 24)), .pick 26 (.t 21) (.c (.bool true)) (.t 25), .mv 27 (.t 26), .g 27 false 28 (.nop), .g 27 false 29 (.sub 29 6 1 1), .g 27 false 30 (.call 30 n_s_l6In s_s_l6In [(.t 29), (.c (.int .i64 1)), (.c (.int .i64 5))] []), .g 27 false 31 (.un 31 .not (.t 30)), .pick 32 (.t 27) (.c (.bool true)) (.t 31), .mv 33 (.t 32), .g 33 false 34 (.mv 34 (.t 5)), .g 33 false 35 (.bin 35 .gtr (.t 34) (.c (.int .i64 0))), .g 33 false 36 (.mv 36 (.t 35)), .g 36 true 37 (.mv 37 (.t 1)), .g 36 true 38 (.mv 38 (.t 5)), .g 36 true 39 (.bin 39 .sub (.t 38) (.c (.int .i64 1))), .g 36 true 40 (.elp 40 (.t 37) (.t 39) 2), .g 36 true 41 (.mv 41 (.t 40)), .g 36 true 42 (.eld 42 41 0 [.int .i64 0]), .g 36 true 43 (.nop), .g 36 true 44 (.sub 44 6 0 1), .g 36 true 45 (.bin 45 .geq (.t 42) (.t 44)), .g 33 false 46 (.pick 46 (.t 36) (.t 45) (.c (.bool false))), .pick 47 (.t 33) (.c (.bool true)) (.t 46)]) (.cond (.t 47) (.seq (.ss [.mv 4 (.c (.bool false))]) (.ret [4])) (.skip))))) (.ss [.mv 11 (.t 5), .bin 12 .add (.t 11) (.c (.int .i64 1)), .mv 5 (.t 12)])))))) (.seq (.ss [.mv 48 (.t 1), .len 49 (.t 48), .bin 50 .leq (.t 49) (.c (.int .i64 2)), .mv 4 (.t 50)]) (.ret [4])))
def k_s_l1Deps : Cfg := { tt := tt, sigs := sigs, mv := false, bm := [], eqt := eqL, keep := [true, true, false, false, true, true, true, false, false, false, true, false, false, false, false, false, false, false, false, false, false, false, false, false, false, false, false, false, false, false, false, false, false, false, false, false, false, false, false, false, false, false, false, false, false, false, false, true, false, false, false], n := 51, pin := [], fail := [], fz := [] }
theorem c_s_l1Deps : cFun k_s_l1Deps Try.f201 s_s_l1Deps = some p_s_l1Deps := by kernel_rfl
theorem F_s_l1Deps {W : Wld} {ins outs : List (List D)} (h : pwp (FunOk PP W) p_s_l1Deps (RetIs outs) (envL ins)) : FunOk PP W n_s_l1Deps s_s_l1Deps ins outs := fun_ok (C := k_s_l1Deps) (cfg_ok rfl) (eq_ok rfl rfl) mixed Try.func201 (by kernel_rfl) (by kernel_rfl) c_s_l1Deps h

def p_cmp_isNaN_int : PC := .seq (.ss [.mv 2 (.c (.bool false))]) (.seq (.ss [.mv 3 (.t 0), .mv 4 (.t 0), .bin 5 .neq (.t 3) (.t 4), .mv 2 (.t 5)]) (.ret [2]))
def k_cmp_isNaN_int : Cfg := { tt := tt, sigs := sigs, mv := false, bm := [], eqt := eqL, keep := [true, false, true, false, false, false], n := 6, pin := [], fail := [], fz := [] }
theorem c_cmp_isNaN_int : cFun k_cmp_isNaN_int Try.f202 s_cmp_isNaN_int = some p_cmp_isNaN_int := by kernel_rfl
theorem F_cmp_isNaN_int {W : Wld} {ins outs : List (List D)} (h : pwp (FunOk PP W) p_cmp_isNaN_int (RetIs outs) (envL ins)) : FunOk PP W n_cmp_isNaN_int s_cmp_isNaN_int ins outs := fun_ok (C := k_cmp_isNaN_int) (cfg_ok rfl) (eq_ok rfl rfl) mixed Try.func202 (by kernel_rfl) (by kernel_rfl) c_cmp_isNaN_int h

end V
end Go.Proofs.Ytgialjcichiaoaa

/-
Plain proofs, first part: ranges, files, dependencies, packages.
-/
namespace Go.Proofs.Ytgialjcichiaoaa
namespace V
open Classical
set_option maxRecDepth 100000
variable {W : Wld}

theorem l6In_ok (n lo hi : Int) : FunOk PP W n_s_l6In s_s_l6In [i64 n, i64 lo, i64 hi] [bo (decide (lo ≤ n ∧ n ≤ hi))] := by
  refine F_s_l6In (wq_fun ?_)
  (repeat' first
    | (refine iteB_mk (fun h => ?_) (fun h => ?_) <;> (try simp (disch := omega) only [z0, z1, z2, z3, z4, z5, z6, z7, z8, z9, z10, z11, z12, z13, z14, z15, z16, z17, z18, z19, z20, z21, z22, z23, z24, z25, eqDs, eqD, z28, z29, z30, z31, z32, z33, z34, z35, z36, z37, Nat.reduceAdd, z39, z40, z41, wrap64] at h) <;> (try (exfalso; omega)))
    | (refine Need.mk (by (try simp (disch := omega) only [z0, z1, z2, z3, z4, z5, z6, z7, z8, z9, z10, z11, z12, z13, z14, z15, z16, z17, z18, z19, z20, z21, z22, z23, z24, z25, eqDs, eqD, z28, z29, z30, z31, z32, z33, z34, z35, z36, z37, Nat.reduceAdd, z39, z40, z41, wrap64]); first | exact elp_m (by omega) (by omega) (fun _ => rfl) | exact eld_m (by omega) (by omega) (fun _ => rfl) | exact els_m (by omega) (by omega) (by omega) rfl | exact lsl_m (by omega) (fun _ => rfl) | exact app_nil_m (by omega) (fun _ => rfl) (fun _ => rfl) | exact app_m_one (by omega) (fun _ => rfl) rfl rfl | exact app_m_m (by omega) (fun _ => rfl) (fun _ => rfl)) ?_)
    | (refine Need.mk ?_ ?_)
    | refine rb ?_
    | refine ri ?_
    | refine rs2 ?_ ?_
    | refine rs1 ?_)
  · simp_all
  · exact fD (by omega)

theorem in_ok (n lo hi : Int) : FunOk PP W n_i_in s_i_in [i64 n, i64 lo, i64 hi] [bo (decide (lo ≤ n ∧ n ≤ hi))] := by
  refine F_i_in (wq_fun ?_)
  (repeat' first
    | (refine iteB_mk (fun h => ?_) (fun h => ?_) <;> (try simp (disch := omega) only [z0, z1, z2, z3, z4, z5, z6, z7, z8, z9, z10, z11, z12, z13, z14, z15, z16, z17, z18, z19, z20, z21, z22, z23, z24, z25, eqDs, eqD, z28, z29, z30, z31, z32, z33, z34, z35, z36, z37, Nat.reduceAdd, z39, z40, z41, wrap64] at h) <;> (try (exfalso; omega)))
    | (refine Need.mk (by (try simp (disch := omega) only [z0, z1, z2, z3, z4, z5, z6, z7, z8, z9, z10, z11, z12, z13, z14, z15, z16, z17, z18, z19, z20, z21, z22, z23, z24, z25, eqDs, eqD, z28, z29, z30, z31, z32, z33, z34, z35, z36, z37, Nat.reduceAdd, z39, z40, z41, wrap64]); first | exact elp_m (by omega) (by omega) (fun _ => rfl) | exact eld_m (by omega) (by omega) (fun _ => rfl) | exact els_m (by omega) (by omega) (by omega) rfl | exact lsl_m (by omega) (fun _ => rfl) | exact app_nil_m (by omega) (fun _ => rfl) (fun _ => rfl) | exact app_m_one (by omega) (fun _ => rfl) rfl rfl | exact app_m_m (by omega) (fun _ => rfl) (fun _ => rfl)) ?_)
    | (refine Need.mk ?_ ?_)
    | refine rb ?_
    | refine ri ?_
    | refine rs2 ?_ ?_
    | refine rs1 ?_)
  · simp_all
  · exact fD (by omega)

theorem isName_ok (n : Int) : FunOk PP W n_i_isName s_i_isName [i64 n] [bo (decide (1 ≤ n ∧ n ≤ 4))] := by
  refine F_i_isName (wq_fun ?_)
  (repeat' first
    | (refine iteB_mk (fun h => ?_) (fun h => ?_) <;> (try simp (disch := omega) only [z0, z1, z2, z3, z4, z5, z6, z7, z8, z9, z10, z11, z12, z13, z14, z15, z16, z17, z18, z19, z20, z21, z22, z23, z24, z25, eqDs, eqD, z28, z29, z30, z31, z32, z33, z34, z35, z36, z37, Nat.reduceAdd, z39, z40, z41, wrap64] at h) <;> (try (exfalso; omega)))
    | (refine Need.mk (by (try simp (disch := omega) only [z0, z1, z2, z3, z4, z5, z6, z7, z8, z9, z10, z11, z12, z13, z14, z15, z16, z17, z18, z19, z20, z21, z22, z23, z24, z25, eqDs, eqD, z28, z29, z30, z31, z32, z33, z34, z35, z36, z37, Nat.reduceAdd, z39, z40, z41, wrap64]); first | exact elp_m (by omega) (by omega) (fun _ => rfl) | exact eld_m (by omega) (by omega) (fun _ => rfl) | exact els_m (by omega) (by omega) (by omega) rfl | exact lsl_m (by omega) (fun _ => rfl) | exact app_nil_m (by omega) (fun _ => rfl) (fun _ => rfl) | exact app_m_one (by omega) (fun _ => rfl) rfl rfl | exact app_m_m (by omega) (fun _ => rfl) (fun _ => rfl)) ?_)
    | (refine call_mk (in_ok ..) rfl ?_)
    | (refine Need.mk ?_ ?_)
    | refine rb ?_
    | refine ri ?_
    | refine rs2 ?_ ?_
    | refine rs1 ?_)
  rfl
theorem isVer_ok (n : Int) : FunOk PP W n_i_isVer s_i_isVer [i64 n] [bo (decide (1 ≤ n ∧ n ≤ 5))] := by
  refine F_i_isVer (wq_fun ?_)
  (repeat' first
    | (refine iteB_mk (fun h => ?_) (fun h => ?_) <;> (try simp (disch := omega) only [z0, z1, z2, z3, z4, z5, z6, z7, z8, z9, z10, z11, z12, z13, z14, z15, z16, z17, z18, z19, z20, z21, z22, z23, z24, z25, eqDs, eqD, z28, z29, z30, z31, z32, z33, z34, z35, z36, z37, Nat.reduceAdd, z39, z40, z41, wrap64] at h) <;> (try (exfalso; omega)))
    | (refine Need.mk (by (try simp (disch := omega) only [z0, z1, z2, z3, z4, z5, z6, z7, z8, z9, z10, z11, z12, z13, z14, z15, z16, z17, z18, z19, z20, z21, z22, z23, z24, z25, eqDs, eqD, z28, z29, z30, z31, z32, z33, z34, z35, z36, z37, Nat.reduceAdd, z39, z40, z41, wrap64]); first | exact elp_m (by omega) (by omega) (fun _ => rfl) | exact eld_m (by omega) (by omega) (fun _ => rfl) | exact els_m (by omega) (by omega) (by omega) rfl | exact lsl_m (by omega) (fun _ => rfl) | exact app_nil_m (by omega) (fun _ => rfl) (fun _ => rfl) | exact app_m_one (by omega) (fun _ => rfl) rfl rfl | exact app_m_m (by omega) (fun _ => rfl) (fun _ => rfl)) ?_)
    | (refine call_mk (in_ok ..) rfl ?_)
    | (refine Need.mk ?_ ?_)
    | refine rb ?_
    | refine ri ?_
    | refine rs2 ?_ ?_
    | refine rs1 ?_)
  rfl

def FileAt (fs : List P2) (i : Int) : Prop := (0 ≤ (ix fs i).a ∧ (ix fs i).a ≤ 5) ∧ (0 ≤ (ix fs i).b ∧ (ix fs i).b ≤ 9) ∧ (0 < i → (ix fs (i - 1)).a < (ix fs i).a)
def FilesOk (fs : List P2) : Prop := Blw fs.length (FileAt fs) ∧ (fs.length : Int) ≤ 2
def DepAt (name : Int) (fs : List P2) (i : Int) : Prop := (1 ≤ (ix fs i).a ∧ (ix fs i).a ≤ 4) ∧ (ix fs i).a ≠ name ∧ (1 ≤ (ix fs i).b ∧ (ix fs i).b ≤ 5) ∧ (0 < i → (ix fs (i - 1)).a < (ix fs i).a)
def DepsOk (name : Int) (fs : List P2) : Prop := Blw fs.length (DepAt name fs) ∧ (fs.length : Int) ≤ 2
def PkOk (p : Pk) : Prop := (1 ≤ p.name ∧ p.name ≤ 4) ∧ (1 ≤ p.ver ∧ p.ver ≤ 5) ∧ FilesOk p.files ∧ DepsOk p.name p.deps
def SmP (p : Pk) : Prop := p.files.length ≤ lim ∧ p.deps.length ≤ lim

theorem l1Files_ok (fs : List P2) (hl : fs.length ≤ lim) : FunOk PP W n_s_l1Files s_s_l1Files [eP2s fs] [bo (decide (FilesOk fs))] := by
  refine F_s_l1Files (wq_fun ?_)
  unfold lim at hl
  refine loop_mk (fun i : Int => 0 ≤ i ∧ i ≤ fs.length ∧ Blw i (FileAt fs)) (fun i => [(3, i64 i), (0, eP2s fs)]) (fun i => (fs.length - i).toNat) 0 ⟨by omega, by omega, blw_zero _⟩ ⟨rfl, rfl, trivial⟩ ?_
  rintro i e ⟨h0, hN, hP⟩
  (repeat' first
    | (refine iteB_mk (fun h => ?_) (fun h => ?_) <;> (try simp (disch := omega) only [z0, z1, z2, z3, z4, z5, z6, z7, z8, z9, z10, z11, z12, z13, z14, z15, z16, z17, z18, z19, z20, z21, z22, z23, z24, z25, eqDs, eqD, z28, z29, z30, z31, z32, z33, z34, z35, z36, z37, Nat.reduceAdd, z39, z40, z41, wrap64] at h) <;> (try (exfalso; omega)))
    | (refine Need.mk (by (try simp (disch := omega) only [z0, z1, z2, z3, z4, z5, z6, z7, z8, z9, z10, z11, z12, z13, z14, z15, z16, z17, z18, z19, z20, z21, z22, z23, z24, z25, eqDs, eqD, z28, z29, z30, z31, z32, z33, z34, z35, z36, z37, Nat.reduceAdd, z39, z40, z41, wrap64]); first | exact elp_m (by omega) (by omega) (fun _ => rfl) | exact eld_m (by omega) (by omega) (fun _ => rfl) | exact els_m (by omega) (by omega) (by omega) rfl | exact lsl_m (by omega) (fun _ => rfl) | exact app_nil_m (by omega) (fun _ => rfl) (fun _ => rfl) | exact app_m_one (by omega) (fun _ => rfl) rfl rfl | exact app_m_m (by omega) (fun _ => rfl) (fun _ => rfl)) ?_)
    | (refine call_mk (l6In_ok ..) rfl ?_)
    | (refine Exists.intro (i + 1) ⟨by omega, ⟨by omega, by omega, blw_succ hP ?_⟩, i64_eq (wrap64 _ (by omega)), rfl, trivial⟩)
    | (refine Need.mk ?_ ?_)
    | refine rb ?_
    | refine ri ?_
    | refine rs2 ?_ ?_
    | refine rs1 ?_)
  · exact fD (fun ⟨h, _⟩ => by have := h i (by omega) (by omega); unfold FileAt at this; omega)
  · exact fD (fun ⟨h, _⟩ => by have := h i (by omega) (by omega); unfold FileAt at this; omega)
  · exact fD (fun ⟨h, _⟩ => by have := h i (by omega) (by omega); unfold FileAt at this; omega)
  · unfold FileAt; omega
  · unfold FileAt; omega
  · simp only [List.length_map]
    congr 1
    simp only [FilesOk, eq_iff_iff]
    exact ⟨fun h1 => ⟨blw_to hP (by omega), h1⟩, fun h => h.2⟩

theorem l1Deps_ok (name : Int) (fs : List P2) (hl : fs.length ≤ lim) : FunOk PP W n_s_l1Deps s_s_l1Deps [i64 name, eP2s fs] [bo (decide (DepsOk name fs))] := by
  refine F_s_l1Deps (wq_fun ?_)
  unfold lim at hl
  refine loop_mk (fun i : Int => 0 ≤ i ∧ i ≤ fs.length ∧ Blw i (DepAt name fs)) (fun i => [(5, i64 i), (1, eP2s fs), (0, i64 name)]) (fun i => (fs.length - i).toNat) 0 ⟨by omega, by omega, blw_zero _⟩ ⟨rfl, rfl, rfl, trivial⟩ ?_
  rintro i e ⟨h0, hN, hP⟩
  (repeat' first
    | (refine iteB_mk (fun h => ?_) (fun h => ?_) <;> (try simp (disch := omega) only [z0, z1, z2, z3, z4, z5, z6, z7, z8, z9, z10, z11, z12, z13, z14, z15, z16, z17, z18, z19, z20, z21, z22, z23, z24, z25, eqDs, eqD, z28, z29, z30, z31, z32, z33, z34, z35, z36, z37, Nat.reduceAdd, z39, z40, z41, wrap64] at h) <;> (try (exfalso; omega)))
    | (refine Need.mk (by (try simp (disch := omega) only [z0, z1, z2, z3, z4, z5, z6, z7, z8, z9, z10, z11, z12, z13, z14, z15, z16, z17, z18, z19, z20, z21, z22, z23, z24, z25, eqDs, eqD, z28, z29, z30, z31, z32, z33, z34, z35, z36, z37, Nat.reduceAdd, z39, z40, z41, wrap64]); first | exact elp_m (by omega) (by omega) (fun _ => rfl) | exact eld_m (by omega) (by omega) (fun _ => rfl) | exact els_m (by omega) (by omega) (by omega) rfl | exact lsl_m (by omega) (fun _ => rfl) | exact app_nil_m (by omega) (fun _ => rfl) (fun _ => rfl) | exact app_m_one (by omega) (fun _ => rfl) rfl rfl | exact app_m_m (by omega) (fun _ => rfl) (fun _ => rfl)) ?_)
    | (refine call_mk (l6In_ok ..) rfl ?_)
    | (refine Exists.intro (i + 1) ⟨by omega, ⟨by omega, by omega, blw_succ hP ?_⟩, i64_eq (wrap64 _ (by omega)), rfl, rfl, trivial⟩)
    | (refine Need.mk ?_ ?_)
    | refine rb ?_
    | refine ri ?_
    | refine rs2 ?_ ?_
    | refine rs1 ?_)
  · exact fD (fun ⟨h, _⟩ => by have := h i (by omega) (by omega); unfold DepAt at this; omega)
  · exact fD (fun ⟨h, _⟩ => by have := h i (by omega) (by omega); unfold DepAt at this; omega)
  · exact fD (fun ⟨h, _⟩ => by have := h i (by omega) (by omega); unfold DepAt at this; omega)
  · exact fD (fun ⟨h, _⟩ => by have := h i (by omega) (by omega); unfold DepAt at this; omega)
  · unfold DepAt; omega
  · unfold DepAt; omega
  · simp only [List.length_map]
    congr 1
    simp only [DepsOk, eq_iff_iff]
    exact ⟨fun h1 => ⟨blw_to hP (by omega), h1⟩, fun h => h.2⟩

theorem sPkgOk_ok (p : Pk) (hs : SmP p) : FunOk PP W n_s_PkgOk s_s_PkgOk [ePk p] [bo (decide (PkOk p))] := by
  refine F_s_PkgOk (wq_fun ?_)
  (repeat' first
    | (refine iteB_mk (fun h => ?_) (fun h => ?_) <;> (try simp (disch := omega) only [z0, z1, z2, z3, z4, z5, z6, z7, z8, z9, z10, z11, z12, z13, z14, z15, z16, z17, z18, z19, z20, z21, z22, z23, z24, z25, eqDs, eqD, z28, z29, z30, z31, z32, z33, z34, z35, z36, z37, Nat.reduceAdd, z39, z40, z41, wrap64] at h) <;> (try (exfalso; omega)))
    | (refine Need.mk (by (try simp (disch := omega) only [z0, z1, z2, z3, z4, z5, z6, z7, z8, z9, z10, z11, z12, z13, z14, z15, z16, z17, z18, z19, z20, z21, z22, z23, z24, z25, eqDs, eqD, z28, z29, z30, z31, z32, z33, z34, z35, z36, z37, Nat.reduceAdd, z39, z40, z41, wrap64]); first | exact elp_m (by omega) (by omega) (fun _ => rfl) | exact eld_m (by omega) (by omega) (fun _ => rfl) | exact els_m (by omega) (by omega) (by omega) rfl | exact lsl_m (by omega) (fun _ => rfl) | exact app_nil_m (by omega) (fun _ => rfl) (fun _ => rfl) | exact app_m_one (by omega) (fun _ => rfl) rfl rfl | exact app_m_m (by omega) (fun _ => rfl) (fun _ => rfl)) ?_)
    | (refine call_mk (l6In_ok ..) rfl ?_)
    | (refine call_mk (l1Files_ok p.files hs.1) rfl ?_)
    | (refine call_mk (l1Deps_ok p.name p.deps hs.2) rfl ?_)
    | (refine Need.mk ?_ ?_)
    | refine rb ?_
    | refine ri ?_
    | refine rs2 ?_ ?_
    | refine rs1 ?_)
  · congr 1
    simp only [PkOk, eq_iff_iff]
    exact ⟨fun h => ⟨by assumption, by assumption, by assumption, h⟩, fun h => h.2.2.2⟩
  · exact fD (fun h => absurd h.2.2.1 (by assumption))
  · exact fD (fun h => absurd h.2.1 (by assumption))
  · exact fD (fun h => absurd h.1 (by assumption))


end V
end Go.Proofs.Ytgialjcichiaoaa

/-
Plain proofs, first part: ranges, files, dependencies, packages.
-/
namespace Go.Proofs.Ytgialjcichiaoaa
namespace V
open Classical
set_option maxRecDepth 100000
variable {W : Wld}

theorem l3Less_ok (n v m w : Int) : FunOk PP W n_s_l3Less s_s_l3Less [i64 n, i64 v, i64 m, i64 w] [bo (decide (n < m ∨ (n = m ∧ v < w)))] := by
  refine F_s_l3Less (wq_fun ?_)
  (repeat' first
    | (refine iteB_mk (fun h => ?_) (fun h => ?_) <;> (try simp (disch := omega) only [z0, z1, z2, z3, z4, z5, z6, z7, z8, z9, z10, z11, z12, z13, z14, z15, z16, z17, z18, z19, z20, z21, z22, z23, z24, z25, eqDs, eqD, z28, z29, z30, z31, z32, z33, z34, z35, z36, z37, Nat.reduceAdd, z39, z40, z41, wrap64] at h) <;> (try (exfalso; omega)))
    | (refine Need.mk (by (try simp (disch := omega) only [z0, z1, z2, z3, z4, z5, z6, z7, z8, z9, z10, z11, z12, z13, z14, z15, z16, z17, z18, z19, z20, z21, z22, z23, z24, z25, eqDs, eqD, z28, z29, z30, z31, z32, z33, z34, z35, z36, z37, Nat.reduceAdd, z39, z40, z41, wrap64]); first | exact elp_m (by omega) (by omega) (fun _ => rfl) | exact eld_m (by omega) (by omega) (fun _ => rfl) | exact els_m (by omega) (by omega) (by omega) rfl | exact lsl_m (by omega) (fun _ => rfl) | exact app_nil_m (by omega) (fun _ => rfl) (fun _ => rfl) | exact app_m_one (by omega) (fun _ => rfl) rfl rfl | exact app_m_m (by omega) (fun _ => rfl) (fun _ => rfl)) ?_)
    | (refine Need.mk ?_ ?_)
    | refine rb ?_
    | refine ri ?_
    | refine rs2 ?_ ?_
    | refine rs1 ?_)
  all_goals simp_all

def lessM (p q : Pk) : Prop := p.name < q.name ∨ (p.name = q.name ∧ p.ver < q.ver)
def PkAt (ps : List Pk) (i : Int) : Prop := PkOk (ix ps i) ∧ (0 < i → lessM (ix ps (i - 1)) (ix ps i))
def PksOk (ps : List Pk) : Prop := Blw ps.length (PkAt ps)
def SmPs (ps : List Pk) : Prop := ps.length ≤ lim ∧ ∀ p ∈ ps, SmP p
theorem smPs_ix {ps : List Pk} (h : SmPs ps) {i : Int} (h0 : 0 ≤ i) (h1 : i < ps.length) : SmP (ix ps i) := h.2 _ (ix_mem h0 h1)

theorem l3Pkgs_ok (ps : List Pk) (hs : SmPs ps) : FunOk PP W n_s_l3Pkgs s_s_l3Pkgs [ePks ps] [bo (decide (PksOk ps))] := by
  refine F_s_l3Pkgs (wq_fun ?_)
  have hl := hs.1
  unfold lim at hl
  refine loop_mk (fun i : Int => 0 ≤ i ∧ i ≤ ps.length ∧ Blw i (PkAt ps)) (fun i => [(3, i64 i), (0, ePks ps)]) (fun i => (ps.length - i).toNat) 0 ⟨by omega, by omega, blw_zero _⟩ ⟨rfl, rfl, trivial⟩ ?_
  rintro i e ⟨h0, hN, hP⟩
  (repeat' first
    | (refine iteB_mk (fun h => ?_) (fun h => ?_) <;> (try simp (disch := omega) only [z0, z1, z2, z3, z4, z5, z6, z7, z8, z9, z10, z11, z12, z13, z14, z15, z16, z17, z18, z19, z20, z21, z22, z23, z24, z25, eqDs, eqD, z28, z29, z30, z31, z32, z33, z34, z35, z36, z37, Nat.reduceAdd, z39, z40, z41, wrap64] at h) <;> (try (exfalso; omega)))
    | (refine Need.mk (by (try simp (disch := omega) only [z0, z1, z2, z3, z4, z5, z6, z7, z8, z9, z10, z11, z12, z13, z14, z15, z16, z17, z18, z19, z20, z21, z22, z23, z24, z25, eqDs, eqD, z28, z29, z30, z31, z32, z33, z34, z35, z36, z37, Nat.reduceAdd, z39, z40, z41, wrap64]); first | exact elp_m (by omega) (by omega) (fun _ => rfl) | exact eld_m (by omega) (by omega) (fun _ => rfl) | exact els_m (by omega) (by omega) (by omega) rfl | exact lsl_m (by omega) (fun _ => rfl) | exact app_nil_m (by omega) (fun _ => rfl) (fun _ => rfl) | exact app_m_one (by omega) (fun _ => rfl) rfl rfl | exact app_m_m (by omega) (fun _ => rfl) (fun _ => rfl)) ?_)
    | (refine call_mk2 (sPkgOk_ok (ix ps i) (smPs_ix hs (by omega) (by omega))) (by simp (disch := omega) only [z0, z1, z2, z3, z4, z5, z6, z7, z8, z9, z10, z11, z12, z13, z14, z15, z16, z17, z18, z19, z20, z21, z22, z23, z24, z25, eqDs, eqD, z28, z29, z30, z31, z32, z33, z34, z35, z36, z37, Nat.reduceAdd, z39, z40, z41, wrap64]) rfl ?_)
    | (refine call_mk2 (l3Less_ok (ix ps (i - 1)).name (ix ps (i - 1)).ver (ix ps i).name (ix ps i).ver) (by simp (disch := omega) only [z0, z1, z2, z3, z4, z5, z6, z7, z8, z9, z10, z11, z12, z13, z14, z15, z16, z17, z18, z19, z20, z21, z22, z23, z24, z25, eqDs, eqD, z28, z29, z30, z31, z32, z33, z34, z35, z36, z37, Nat.reduceAdd, z39, z40, z41, wrap64]) rfl ?_)
    | (refine Exists.intro (i + 1) ⟨by omega, ⟨by omega, by omega, blw_succ hP ?_⟩, i64_eq (wrap64 _ (by omega)), rfl, trivial⟩)
    | (refine Need.mk ?_ ?_)
    | refine rb ?_
    | refine ri ?_
    | refine rs2 ?_ ?_
    | refine rs1 ?_)
  · exact fD (fun h => absurd (h i (by omega) (by omega)).1 (by assumption))
  · exact fD (fun h => absurd ((h i (by omega) (by omega)).2 (by assumption)) (by assumption))
  · exact ⟨by assumption, fun _ => by assumption⟩
  · exact ⟨by assumption, fun h => absurd h (by assumption)⟩
  · exact tD (blw_to hP (by omega))

theorem sStoreOk_ok (ps : List Pk) (hs : SmPs ps) : FunOk PP W n_s_StoreOk s_s_StoreOk [ePks ps] [bo (decide (PksOk ps))] := by
  refine F_s_StoreOk (wq_fun ?_)
  (repeat' first
    | (refine iteB_mk (fun h => ?_) (fun h => ?_) <;> (try simp (disch := omega) only [z0, z1, z2, z3, z4, z5, z6, z7, z8, z9, z10, z11, z12, z13, z14, z15, z16, z17, z18, z19, z20, z21, z22, z23, z24, z25, eqDs, eqD, z28, z29, z30, z31, z32, z33, z34, z35, z36, z37, Nat.reduceAdd, z39, z40, z41, wrap64] at h) <;> (try (exfalso; omega)))
    | (refine Need.mk (by (try simp (disch := omega) only [z0, z1, z2, z3, z4, z5, z6, z7, z8, z9, z10, z11, z12, z13, z14, z15, z16, z17, z18, z19, z20, z21, z22, z23, z24, z25, eqDs, eqD, z28, z29, z30, z31, z32, z33, z34, z35, z36, z37, Nat.reduceAdd, z39, z40, z41, wrap64]); first | exact elp_m (by omega) (by omega) (fun _ => rfl) | exact eld_m (by omega) (by omega) (fun _ => rfl) | exact els_m (by omega) (by omega) (by omega) rfl | exact lsl_m (by omega) (fun _ => rfl) | exact app_nil_m (by omega) (fun _ => rfl) (fun _ => rfl) | exact app_m_one (by omega) (fun _ => rfl) rfl rfl | exact app_m_m (by omega) (fun _ => rfl) (fun _ => rfl)) ?_)
    | (refine call_mk (l3Pkgs_ok ps hs) rfl ?_)
    | (refine Need.mk ?_ ?_)
    | refine rb ?_
    | refine ri ?_
    | refine rs2 ?_ ?_
    | refine rs1 ?_)
  rfl
end V
end Go.Proofs.Ytgialjcichiaoaa

/-
Plain proofs: what a plan asks of packages.
-/
namespace Go.Proofs.Ytgialjcichiaoaa
namespace V
open Classical
set_option maxRecDepth 100000
variable {W : Wld}

def OneM (ps : List Pk) : Prop := ∀ i : Int, 1 ≤ i → i < ps.length → (ix ps (i - 1)).name < (ix ps i).name

theorem l13One_ok (ps : List Pk) (hl : ps.length ≤ lim) : FunOk PP W n_s_l13One s_s_l13One [ePks ps] [bo (decide (OneM ps))] := by
  refine F_s_l13One (wq_fun ?_)
  unfold lim at hl
  refine loop_mk (fun i : Int => 1 ≤ i ∧ (i = 1 ∨ i ≤ ps.length) ∧ ∀ j : Int, 1 ≤ j → j < i → (ix ps (j - 1)).name < (ix ps j).name) (fun i => [(3, i64 i), (0, ePks ps)]) (fun i => (ps.length - i).toNat) 1 ⟨by omega, by omega, fun j h1 h2 => by omega⟩ ⟨rfl, rfl, trivial⟩ ?_
  rintro i e ⟨h0, hN, hP⟩
  (repeat' first
    | (refine iteB_mk (fun h => ?_) (fun h => ?_) <;> (try simp (disch := omega) only [z0, z1, z2, z3, z4, z5, z6, z7, z8, z9, z10, z11, z12, z13, z14, z15, z16, z17, z18, z19, z20, z21, z22, z23, z24, z25, eqDs, eqD, z28, z29, z30, z31, z32, z33, z34, z35, z36, z37, Nat.reduceAdd, z39, z40, z41, wrap64] at h) <;> (try (exfalso; omega)))
    | (refine Need.mk (by (try simp (disch := omega) only [z0, z1, z2, z3, z4, z5, z6, z7, z8, z9, z10, z11, z12, z13, z14, z15, z16, z17, z18, z19, z20, z21, z22, z23, z24, z25, eqDs, eqD, z28, z29, z30, z31, z32, z33, z34, z35, z36, z37, Nat.reduceAdd, z39, z40, z41, wrap64]); first | exact elp_m (by omega) (by omega) (fun _ => rfl) | exact eld_m (by omega) (by omega) (fun _ => rfl) | exact els_m (by omega) (by omega) (by omega) rfl | exact lsl_m (by omega) (fun _ => rfl) | exact app_nil_m (by omega) (fun _ => rfl) (fun _ => rfl) | exact app_m_one (by omega) (fun _ => rfl) rfl rfl | exact app_m_m (by omega) (fun _ => rfl) (fun _ => rfl)) ?_)
    | (refine Exists.intro (i + 1) ⟨by omega, ⟨by omega, by omega, fun j h1 h2 => ?_⟩, i64_eq (wrap64 _ (by omega)), rfl, trivial⟩)
    | (refine Need.mk ?_ ?_)
    | refine rb ?_
    | refine ri ?_
    | refine rs2 ?_ ?_
    | refine rs1 ?_)
  · exact fD (fun h => by have := h i (by omega) (by omega); omega)
  · by_cases hj : j = i
    · subst hj; omega
    · exact hP j h1 (by omega)
  · exact tD (fun j h1 h2 => hP j h1 (by omega))

def hasP (p : Pk) (path : Int) : Prop := ∃ k : Int, 0 ≤ k ∧ k < p.files.length ∧ (ix p.files k).a = path
/-- Which package from one on has a place. -/
noncomputable def ownerF (ps : List Pk) (path : Int) : Nat → Int → Int
  | 0, _ => -1
  | n + 1, i => if hasP (ix ps i) path then i else ownerF ps path n (i + 1)

theorem l13Owner_ok (ps : List Pk) (hs : SmPs ps) (b path : Int) (hb0 : 0 ≤ b) (hb : b ≤ ps.length) : FunOk PP W n_s_l13Owner s_s_l13Owner [ePks ps, i64 b, i64 path] [i64 (ownerF ps path b.toNat 0)] := by
  refine F_s_l13Owner (wq_fun ?_)
  have hl := hs.1
  unfold lim at hl
  refine loop_mk (fun i : Int => 0 ≤ i ∧ i ≤ b ∧ ownerF ps path b.toNat 0 = ownerF ps path (b - i).toNat i) (fun i => [(7, i64 i), (0, ePks ps), (1, i64 b), (2, i64 path)]) (fun i => (b - i).toNat) 0 ⟨by omega, by omega, by simp⟩ ⟨rfl, rfl, rfl, rfl, trivial⟩ ?_
  rintro i e ⟨h0, hN, hP⟩
  (repeat' first
    | (refine iteB_mk (fun h => ?_) (fun h => ?_) <;> (try simp (disch := omega) only [z0, z1, z2, z3, z4, z5, z6, z7, z8, z9, z10, z11, z12, z13, z14, z15, z16, z17, z18, z19, z20, z21, z22, z23, z24, z25, eqDs, eqD, z28, z29, z30, z31, z32, z33, z34, z35, z36, z37, Nat.reduceAdd, z39, z40, z41, wrap64] at h) <;> (try (exfalso; omega)))
    | (refine Need.mk (by (try simp (disch := omega) only [z0, z1, z2, z3, z4, z5, z6, z7, z8, z9, z10, z11, z12, z13, z14, z15, z16, z17, z18, z19, z20, z21, z22, z23, z24, z25, eqDs, eqD, z28, z29, z30, z31, z32, z33, z34, z35, z36, z37, Nat.reduceAdd, z39, z40, z41, wrap64]); first | exact elp_m (by omega) (by omega) (fun _ => rfl) | exact eld_m (by omega) (by omega) (fun _ => rfl) | exact els_m (by omega) (by omega) (by omega) rfl | exact lsl_m (by omega) (fun _ => rfl) | exact app_nil_m (by omega) (fun _ => rfl) (fun _ => rfl) | exact app_m_one (by omega) (fun _ => rfl) rfl rfl | exact app_m_m (by omega) (fun _ => rfl) (fun _ => rfl)) ?_)
    | (refine Need.mk ?_ ?_)
    | refine rb ?_
    | refine ri ?_
    | refine rs2 ?_ ?_
    | refine rs1 ?_)
  · have hf := (smPs_ix hs h0 (by omega)).1
    unfold lim at hf
    have hn : (b - i).toNat = (b - (i + 1)).toNat + 1 := by omega
    rw [hn, ownerF] at hP
    refine loop_mk (fun k : Int => 0 ≤ k ∧ k ≤ (ix ps i).files.length ∧ Blw k (fun j => (ix (ix ps i).files j).a ≠ path)) (fun k => [(8, i64 k), (7, i64 i), (0, ePks ps), (1, i64 b), (2, i64 path)]) (fun k => ((ix ps i).files.length - k).toNat) 0 ⟨by omega, by omega, blw_zero _⟩ ⟨rfl, rfl, rfl, rfl, rfl, trivial⟩ ?_
    rintro k e ⟨k0, kN, kP⟩
    (repeat' first
    | (refine iteB_mk (fun h => ?_) (fun h => ?_) <;> (try simp (disch := omega) only [z0, z1, z2, z3, z4, z5, z6, z7, z8, z9, z10, z11, z12, z13, z14, z15, z16, z17, z18, z19, z20, z21, z22, z23, z24, z25, eqDs, eqD, z28, z29, z30, z31, z32, z33, z34, z35, z36, z37, Nat.reduceAdd, z39, z40, z41, wrap64] at h) <;> (try (exfalso; omega)))
    | (refine Need.mk (by (try simp (disch := omega) only [z0, z1, z2, z3, z4, z5, z6, z7, z8, z9, z10, z11, z12, z13, z14, z15, z16, z17, z18, z19, z20, z21, z22, z23, z24, z25, eqDs, eqD, z28, z29, z30, z31, z32, z33, z34, z35, z36, z37, Nat.reduceAdd, z39, z40, z41, wrap64]); first | exact elp_m (by omega) (by omega) (fun _ => rfl) | exact eld_m (by omega) (by omega) (fun _ => rfl) | exact els_m (by omega) (by omega) (by omega) rfl | exact lsl_m (by omega) (fun _ => rfl) | exact app_nil_m (by omega) (fun _ => rfl) (fun _ => rfl) | exact app_m_one (by omega) (fun _ => rfl) rfl rfl | exact app_m_m (by omega) (fun _ => rfl) (fun _ => rfl)) ?_)
    | (refine Exists.intro (k + 1) ⟨by omega, ⟨by omega, by omega, blw_succ kP (by assumption)⟩, i64_eq (wrap64 _ (by omega)), rfl, rfl, rfl, rfl, trivial⟩)
    | (refine Exists.intro (i + 1) ⟨by omega, ⟨by omega, by omega, ?_⟩, i64_eq (wrap64 _ (by omega)), rfl, rfl, rfl, trivial⟩)
    | (refine Need.mk ?_ ?_)
    | refine rb ?_
    | refine ri ?_
    | refine rs2 ?_ ?_
    | refine rs1 ?_)
    · rw [hP, if_pos ⟨k, k0, by omega, by assumption⟩]
    · rw [hP, if_neg]
      rintro ⟨j, j0, j1, j2⟩
      exact kP j j0 (by omega) j2
  · have hn : (b - i).toNat = 0 := by omega
    rw [hP, hn, ownerF]

theorem l12PkgCopy_ok (p : Pk) (hs : SmP p) : FunOk PP W n_s_l12PkgCopy s_s_l12PkgCopy [ePk p] [ePk p] := by
  refine F_s_l12PkgCopy (wq_fun ?_)
  obtain ⟨h1, h2⟩ := hs
  unfold lim at h1 h2
  (repeat' first
    | (refine iteB_mk (fun h => ?_) (fun h => ?_) <;> (try simp (disch := omega) only [z0, z1, z2, z3, z4, z5, z6, z7, z8, z9, z10, z11, z12, z13, z14, z15, z16, z17, z18, z19, z20, z21, z22, z23, z24, z25, eqDs, eqD, z28, z29, z30, z31, z32, z33, z34, z35, z36, z37, Nat.reduceAdd, z39, z40, z41, wrap64] at h) <;> (try (exfalso; omega)))
    | (refine Need.mk (by (try simp (disch := omega) only [z0, z1, z2, z3, z4, z5, z6, z7, z8, z9, z10, z11, z12, z13, z14, z15, z16, z17, z18, z19, z20, z21, z22, z23, z24, z25, eqDs, eqD, z28, z29, z30, z31, z32, z33, z34, z35, z36, z37, Nat.reduceAdd, z39, z40, z41, wrap64]); first | exact elp_m (by omega) (by omega) (fun _ => rfl) | exact eld_m (by omega) (by omega) (fun _ => rfl) | exact els_m (by omega) (by omega) (by omega) rfl | exact lsl_m (by omega) (fun _ => rfl) | exact app_nil_m (by omega) (fun _ => rfl) (fun _ => rfl) | exact app_m_one (by omega) (fun _ => rfl) rfl rfl | exact app_m_m (by omega) (fun _ => rfl) (fun _ => rfl)) ?_)
    | (refine Need.mk ?_ ?_)
    | refine rb ?_
    | refine ri ?_
    | refine rs2 ?_ ?_
    | refine rs1 ?_)
  rfl

theorem l12Copy_ok (ps : List Pk) (hs : SmPs ps) : FunOk PP W n_s_l12Copy s_s_l12Copy [ePks ps] [ePks ps] := by
  refine F_s_l12Copy (wq_fun ?_)
  have hl := hs.1
  unfold lim at hl
  refine loop_mk (fun i : Int => 0 ≤ i ∧ i ≤ ps.length) (fun i => [(4, i64 i), (0, ePks ps), (3, ePks (ps.take i.toNat))]) (fun i => (ps.length - i).toNat) 0 ⟨by omega, by omega⟩ ⟨rfl, rfl, rfl, trivial⟩ ?_
  rintro i e ⟨h0, hN⟩
  have ht : (ps.take i.toNat).length ≤ i := by rw [List.length_take]; omega
  (repeat' first
    | (refine iteB_mk (fun h => ?_) (fun h => ?_) <;> (try simp (disch := omega) only [z0, z1, z2, z3, z4, z5, z6, z7, z8, z9, z10, z11, z12, z13, z14, z15, z16, z17, z18, z19, z20, z21, z22, z23, z24, z25, eqDs, eqD, z28, z29, z30, z31, z32, z33, z34, z35, z36, z37, Nat.reduceAdd, z39, z40, z41, wrap64] at h) <;> (try (exfalso; omega)))
    | (refine Need.mk (by (try simp (disch := omega) only [z0, z1, z2, z3, z4, z5, z6, z7, z8, z9, z10, z11, z12, z13, z14, z15, z16, z17, z18, z19, z20, z21, z22, z23, z24, z25, eqDs, eqD, z28, z29, z30, z31, z32, z33, z34, z35, z36, z37, Nat.reduceAdd, z39, z40, z41, wrap64]); first | exact elp_m (by omega) (by omega) (fun _ => rfl) | exact eld_m (by omega) (by omega) (fun _ => rfl) | exact els_m (by omega) (by omega) (by omega) rfl | exact lsl_m (by omega) (fun _ => rfl) | exact app_nil_m (by omega) (fun _ => rfl) (fun _ => rfl) | exact app_m_one (by omega) (fun _ => rfl) rfl rfl | exact app_m_m (by omega) (fun _ => rfl) (fun _ => rfl)) ?_)
    | (refine call_mk2 (l12PkgCopy_ok (ix ps i) (smPs_ix hs (by omega) (by omega))) (by simp (disch := omega) only [z0, z1, z2, z3, z4, z5, z6, z7, z8, z9, z10, z11, z12, z13, z14, z15, z16, z17, z18, z19, z20, z21, z22, z23, z24, z25, eqDs, eqD, z28, z29, z30, z31, z32, z33, z34, z35, z36, z37, Nat.reduceAdd, z39, z40, z41, wrap64]) rfl ?_)
    | (refine Exists.intro (i + 1) ⟨by omega, ⟨by omega, by omega⟩, i64_eq (wrap64 _ (by omega)), rfl, ?_, trivial⟩)
    | (refine Need.mk ?_ ?_)
    | refine rb ?_
    | refine ri ?_
    | refine rs2 ?_ ?_
    | refine rs1 ?_)
  · refine sl_eq ?_
    rw [take_ix ps h0 (by omega), List.map_append]
    rfl
  · refine sl_eq ?_
    rw [List.take_of_length_le (by omega)]

/-- The last package of a name, below one. -/
noncomputable def lastI (ps : List Pk) (name : Int) : Nat → Int
  | 0 => -1
  | n + 1 => if (ix ps n).name = name then n else lastI ps name n
noncomputable def newI (ps : List Pk) (name : Int) : Int := lastI ps name ps.length
noncomputable def newP (ps : List Pk) (name : Int) : Pk := if 0 ≤ newI ps name then ix ps (newI ps name) else default

theorem l12Newest_ok (ps : List Pk) (hs : SmPs ps) (name : Int) : FunOk PP W n_s_l12Newest s_s_l12Newest [ePks ps, i64 name] [ePk (newP ps name), bo (decide (0 ≤ newI ps name))] := by
  refine F_s_l12Newest (wq_fun ?_)
  have hl := hs.1
  unfold lim at hl
  refine loop_mk (fun i : Int => -1 ≤ i ∧ i < ps.length ∧ newI ps name = lastI ps name (i + 1).toNat) (fun i => [(6, i64 i), (0, ePks ps), (1, i64 name), (4, ePk default)]) (fun i => (i + 1).toNat) (ps.length - 1) ⟨by omega, by omega, by rw [show (((ps.length : Int) - 1 + 1).toNat) = ps.length by omega]; rfl⟩ ⟨by simp only [List.length_map]; exact i64_eq (wrap64 _ (by omega)), rfl, rfl, rfl, trivial⟩ ?_
  rintro i e ⟨h0, hN, hP⟩
  (repeat' first
    | (refine iteB_mk (fun h => ?_) (fun h => ?_) <;> (try simp (disch := omega) only [z0, z1, z2, z3, z4, z5, z6, z7, z8, z9, z10, z11, z12, z13, z14, z15, z16, z17, z18, z19, z20, z21, z22, z23, z24, z25, eqDs, eqD, z28, z29, z30, z31, z32, z33, z34, z35, z36, z37, Nat.reduceAdd, z39, z40, z41, wrap64] at h) <;> (try (exfalso; omega)))
    | (refine Need.mk (by (try simp (disch := omega) only [z0, z1, z2, z3, z4, z5, z6, z7, z8, z9, z10, z11, z12, z13, z14, z15, z16, z17, z18, z19, z20, z21, z22, z23, z24, z25, eqDs, eqD, z28, z29, z30, z31, z32, z33, z34, z35, z36, z37, Nat.reduceAdd, z39, z40, z41, wrap64]); first | exact elp_m (by omega) (by omega) (fun _ => rfl) | exact eld_m (by omega) (by omega) (fun _ => rfl) | exact els_m (by omega) (by omega) (by omega) rfl | exact lsl_m (by omega) (fun _ => rfl) | exact app_nil_m (by omega) (fun _ => rfl) (fun _ => rfl) | exact app_m_one (by omega) (fun _ => rfl) rfl rfl | exact app_m_m (by omega) (fun _ => rfl) (fun _ => rfl)) ?_)
    | (refine call_mk2 (l12PkgCopy_ok (ix ps i) (smPs_ix hs (by omega) (by omega))) (by simp (disch := omega) only [z0, z1, z2, z3, z4, z5, z6, z7, z8, z9, z10, z11, z12, z13, z14, z15, z16, z17, z18, z19, z20, z21, z22, z23, z24, z25, eqDs, eqD, z28, z29, z30, z31, z32, z33, z34, z35, z36, z37, Nat.reduceAdd, z39, z40, z41, wrap64]) rfl ?_)
    | (refine Exists.intro (i - 1) ⟨by omega, ⟨by omega, by omega, ?_⟩, i64_eq (wrap64 _ (by omega)), rfl, rfl, rfl, trivial⟩)
    | (refine Need.mk ?_ ?_)
    | refine rb ?_
    | refine ri ?_
    | refine rs2 ?_ ?_
    | refine rs1 ?_)
  · have hn : newI ps name = i := by rw [hP, show (i + 1).toNat = i.toNat + 1 by omega, lastI, if_pos]; omega; rw [show ((i.toNat : Nat) : Int) = i by omega]; assumption
    unfold newP
    rw [hn, if_pos (by omega)]
  · have hn : newI ps name = i := by rw [hP, show (i + 1).toNat = i.toNat + 1 by omega, lastI, if_pos]; omega; rw [show ((i.toNat : Nat) : Int) = i by omega]; assumption
    exact bo_eq (tD (by omega))
  · rw [hP, show (i + 1).toNat = i.toNat + 1 by omega, lastI, if_neg (by rw [show ((i.toNat : Nat) : Int) = i by omega]; assumption), show (i - 1 + 1).toNat = i.toNat by omega]
  · have hn : newI ps name = -1 := by rw [hP, show (i + 1).toNat = 0 by omega, lastI]
    unfold newP
    rw [hn, if_neg (by omega)]
    rfl
  · have hn : newI ps name = -1 := by rw [hP, show (i + 1).toNat = 0 by omega, lastI]
    exact bo_eq (fD (by omega))

def MeetsM (ps : List Pk) (d : P2) : Prop := 0 ≤ newI ps d.a ∧ d.b ≤ (newP ps d.a).ver
theorem l13Meets_ok (ps : List Pk) (hs : SmPs ps) (d : P2) : FunOk PP W n_s_l13Meets s_s_l13Meets [ePks ps, eP2 d] [bo (decide (MeetsM ps d))] := by
  refine F_s_l13Meets (wq_fun ?_)
  (repeat' first
    | (refine iteB_mk (fun h => ?_) (fun h => ?_) <;> (try simp (disch := omega) only [z0, z1, z2, z3, z4, z5, z6, z7, z8, z9, z10, z11, z12, z13, z14, z15, z16, z17, z18, z19, z20, z21, z22, z23, z24, z25, eqDs, eqD, z28, z29, z30, z31, z32, z33, z34, z35, z36, z37, Nat.reduceAdd, z39, z40, z41, wrap64] at h) <;> (try (exfalso; omega)))
    | (refine Need.mk (by (try simp (disch := omega) only [z0, z1, z2, z3, z4, z5, z6, z7, z8, z9, z10, z11, z12, z13, z14, z15, z16, z17, z18, z19, z20, z21, z22, z23, z24, z25, eqDs, eqD, z28, z29, z30, z31, z32, z33, z34, z35, z36, z37, Nat.reduceAdd, z39, z40, z41, wrap64]); first | exact elp_m (by omega) (by omega) (fun _ => rfl) | exact eld_m (by omega) (by omega) (fun _ => rfl) | exact els_m (by omega) (by omega) (by omega) rfl | exact lsl_m (by omega) (fun _ => rfl) | exact app_nil_m (by omega) (fun _ => rfl) (fun _ => rfl) | exact app_m_one (by omega) (fun _ => rfl) rfl rfl | exact app_m_m (by omega) (fun _ => rfl) (fun _ => rfl)) ?_)
    | (refine callr_mk (l12Newest_ok ps hs d.a) rfl ?_)
    | (refine Need.mk ?_ ?_)
    | refine rb ?_
    | refine ri ?_
    | refine rs2 ?_ ?_
    | refine rs1 ?_)
  · congr 1
    simp only [MeetsM, ge_iff_le, eq_iff_iff]
    exact ⟨fun h => ⟨by assumption, h⟩, fun h => h.2⟩
  · exact fD (fun h => absurd h.1 (by assumption))

def DepsMet (ps : List Pk) (i : Int) : Prop := Blw (ix ps i).deps.length (fun k => MeetsM ps (ix (ix ps i).deps k))
def FilesFree (ps : List Pk) (i : Int) : Prop := Blw (ix ps i).files.length (fun k => ¬ 0 ≤ ownerF ps (ix (ix ps i).files k).a i.toNat 0)
def PlanAt (ps : List Pk) (i : Int) : Prop := DepsMet ps i ∧ FilesFree ps i
def PlanM (ps : List Pk) : Prop := PksOk ps ∧ OneM ps ∧ Blw ps.length (PlanAt ps)

theorem sPlanOk_ok (ps : List Pk) (hs : SmPs ps) : FunOk PP W n_s_PlanOk s_s_PlanOk [ePks ps] [bo (decide (PlanM ps))] := by
  refine F_s_PlanOk (wq_fun ?_)
  have hl := hs.1
  unfold lim at hl
  (repeat' first
    | (refine iteB_mk (fun h => ?_) (fun h => ?_) <;> (try simp (disch := omega) only [z0, z1, z2, z3, z4, z5, z6, z7, z8, z9, z10, z11, z12, z13, z14, z15, z16, z17, z18, z19, z20, z21, z22, z23, z24, z25, eqDs, eqD, z28, z29, z30, z31, z32, z33, z34, z35, z36, z37, Nat.reduceAdd, z39, z40, z41, wrap64] at h) <;> (try (exfalso; omega)))
    | (refine Need.mk (by (try simp (disch := omega) only [z0, z1, z2, z3, z4, z5, z6, z7, z8, z9, z10, z11, z12, z13, z14, z15, z16, z17, z18, z19, z20, z21, z22, z23, z24, z25, eqDs, eqD, z28, z29, z30, z31, z32, z33, z34, z35, z36, z37, Nat.reduceAdd, z39, z40, z41, wrap64]); first | exact elp_m (by omega) (by omega) (fun _ => rfl) | exact eld_m (by omega) (by omega) (fun _ => rfl) | exact els_m (by omega) (by omega) (by omega) rfl | exact lsl_m (by omega) (fun _ => rfl) | exact app_nil_m (by omega) (fun _ => rfl) (fun _ => rfl) | exact app_m_one (by omega) (fun _ => rfl) rfl rfl | exact app_m_m (by omega) (fun _ => rfl) (fun _ => rfl)) ?_)
    | (refine call_mk (sStoreOk_ok ps hs) rfl ?_)
    | (refine call_mk (l13One_ok ps hs.1) rfl ?_)
    | (refine Need.mk ?_ ?_)
    | refine rb ?_
    | refine ri ?_
    | refine rs2 ?_ ?_
    | refine rs1 ?_)
  · exact fD (fun h => absurd h.1 (by assumption))
  · exact fD (fun h => absurd h.2.1 (by assumption))
  rename_i q1
  have q2 := h
  clear h
  refine loop_mk (fun i : Int => 0 ≤ i ∧ i ≤ ps.length ∧ Blw i (PlanAt ps)) (fun i => [(3, i64 i), (0, ePks ps)]) (fun i => (ps.length - i).toNat) 0 ⟨by omega, by omega, blw_zero _⟩ ⟨rfl, rfl, trivial⟩ ?_
  rintro i e ⟨h0, hN, hP⟩
  (repeat' first
    | (refine iteB_mk (fun h => ?_) (fun h => ?_) <;> (try simp (disch := omega) only [z0, z1, z2, z3, z4, z5, z6, z7, z8, z9, z10, z11, z12, z13, z14, z15, z16, z17, z18, z19, z20, z21, z22, z23, z24, z25, eqDs, eqD, z28, z29, z30, z31, z32, z33, z34, z35, z36, z37, Nat.reduceAdd, z39, z40, z41, wrap64] at h) <;> (try (exfalso; omega)))
    | (refine Need.mk (by (try simp (disch := omega) only [z0, z1, z2, z3, z4, z5, z6, z7, z8, z9, z10, z11, z12, z13, z14, z15, z16, z17, z18, z19, z20, z21, z22, z23, z24, z25, eqDs, eqD, z28, z29, z30, z31, z32, z33, z34, z35, z36, z37, Nat.reduceAdd, z39, z40, z41, wrap64]); first | exact elp_m (by omega) (by omega) (fun _ => rfl) | exact eld_m (by omega) (by omega) (fun _ => rfl) | exact els_m (by omega) (by omega) (by omega) rfl | exact lsl_m (by omega) (fun _ => rfl) | exact app_nil_m (by omega) (fun _ => rfl) (fun _ => rfl) | exact app_m_one (by omega) (fun _ => rfl) rfl rfl | exact app_m_m (by omega) (fun _ => rfl) (fun _ => rfl)) ?_)
    | (refine Need.mk ?_ ?_)
    | refine rb ?_
    | refine ri ?_
    | refine rs2 ?_ ?_
    | refine rs1 ?_)
  · have hi := h
    obtain ⟨hf, hd⟩ := smPs_ix hs h0 (by omega)
    unfold lim at hf hd
    refine loop_mk (fun k : Int => 0 ≤ k ∧ k ≤ (ix ps i).deps.length ∧ Blw k (fun k => MeetsM ps (ix (ix ps i).deps k))) (fun k => [(4, i64 k), (3, i64 i), (0, ePks ps)]) (fun k => ((ix ps i).deps.length - k).toNat) 0 ⟨by omega, by omega, blw_zero _⟩ ⟨rfl, rfl, rfl, trivial⟩ ?_
    rintro k e ⟨k0, kN, kP⟩
    (repeat' first
    | (refine iteB_mk (fun h => ?_) (fun h => ?_) <;> (try simp (disch := omega) only [z0, z1, z2, z3, z4, z5, z6, z7, z8, z9, z10, z11, z12, z13, z14, z15, z16, z17, z18, z19, z20, z21, z22, z23, z24, z25, eqDs, eqD, z28, z29, z30, z31, z32, z33, z34, z35, z36, z37, Nat.reduceAdd, z39, z40, z41, wrap64] at h) <;> (try (exfalso; omega)))
    | (refine Need.mk (by (try simp (disch := omega) only [z0, z1, z2, z3, z4, z5, z6, z7, z8, z9, z10, z11, z12, z13, z14, z15, z16, z17, z18, z19, z20, z21, z22, z23, z24, z25, eqDs, eqD, z28, z29, z30, z31, z32, z33, z34, z35, z36, z37, Nat.reduceAdd, z39, z40, z41, wrap64]); first | exact elp_m (by omega) (by omega) (fun _ => rfl) | exact eld_m (by omega) (by omega) (fun _ => rfl) | exact els_m (by omega) (by omega) (by omega) rfl | exact lsl_m (by omega) (fun _ => rfl) | exact app_nil_m (by omega) (fun _ => rfl) (fun _ => rfl) | exact app_m_one (by omega) (fun _ => rfl) rfl rfl | exact app_m_m (by omega) (fun _ => rfl) (fun _ => rfl)) ?_)
    | (refine call_mk2 (l13Meets_ok ps hs (ix (ix ps i).deps k)) (by simp (disch := omega) only [z0, z1, z2, z3, z4, z5, z6, z7, z8, z9, z10, z11, z12, z13, z14, z15, z16, z17, z18, z19, z20, z21, z22, z23, z24, z25, eqDs, eqD, z28, z29, z30, z31, z32, z33, z34, z35, z36, z37, Nat.reduceAdd, z39, z40, z41, wrap64]) rfl ?_)
    | (refine Exists.intro (k + 1) ⟨by omega, ⟨by omega, by omega, blw_succ kP (by assumption)⟩, i64_eq (wrap64 _ (by omega)), rfl, rfl, trivial⟩)
    | (refine Need.mk ?_ ?_)
    | refine rb ?_
    | refine ri ?_
    | refine rs2 ?_ ?_
    | refine rs1 ?_)
    · exact fD (fun h => absurd ((h.2.2 i h0 hi).1 k k0 (by omega)) (by assumption))
    · have hD : DepsMet ps i := blw_to kP (by omega)
      clear kP k0 kN h
      refine loop_mk (fun k : Int => 0 ≤ k ∧ k ≤ (ix ps i).files.length ∧ Blw k (fun k => ¬ 0 ≤ ownerF ps (ix (ix ps i).files k).a i.toNat 0)) (fun k => [(5, i64 k), (3, i64 i), (0, ePks ps)]) (fun k => ((ix ps i).files.length - k).toNat) 0 ⟨by omega, by omega, blw_zero _⟩ ⟨rfl, rfl, rfl, trivial⟩ ?_
      rintro k e ⟨k0, kN, kP⟩
      (repeat' first
    | (refine iteB_mk (fun h => ?_) (fun h => ?_) <;> (try simp (disch := omega) only [z0, z1, z2, z3, z4, z5, z6, z7, z8, z9, z10, z11, z12, z13, z14, z15, z16, z17, z18, z19, z20, z21, z22, z23, z24, z25, eqDs, eqD, z28, z29, z30, z31, z32, z33, z34, z35, z36, z37, Nat.reduceAdd, z39, z40, z41, wrap64] at h) <;> (try (exfalso; omega)))
    | (refine Need.mk (by (try simp (disch := omega) only [z0, z1, z2, z3, z4, z5, z6, z7, z8, z9, z10, z11, z12, z13, z14, z15, z16, z17, z18, z19, z20, z21, z22, z23, z24, z25, eqDs, eqD, z28, z29, z30, z31, z32, z33, z34, z35, z36, z37, Nat.reduceAdd, z39, z40, z41, wrap64]); first | exact elp_m (by omega) (by omega) (fun _ => rfl) | exact eld_m (by omega) (by omega) (fun _ => rfl) | exact els_m (by omega) (by omega) (by omega) rfl | exact lsl_m (by omega) (fun _ => rfl) | exact app_nil_m (by omega) (fun _ => rfl) (fun _ => rfl) | exact app_m_one (by omega) (fun _ => rfl) rfl rfl | exact app_m_m (by omega) (fun _ => rfl) (fun _ => rfl)) ?_)
    | (refine call_mk2 (l13Owner_ok ps hs i (ix (ix ps i).files k).a h0 (by omega)) (by simp (disch := omega) only [z0, z1, z2, z3, z4, z5, z6, z7, z8, z9, z10, z11, z12, z13, z14, z15, z16, z17, z18, z19, z20, z21, z22, z23, z24, z25, eqDs, eqD, z28, z29, z30, z31, z32, z33, z34, z35, z36, z37, Nat.reduceAdd, z39, z40, z41, wrap64]) rfl ?_)
    | (refine Exists.intro (k + 1) ⟨by omega, ⟨by omega, by omega, blw_succ kP (by assumption)⟩, i64_eq (wrap64 _ (by omega)), rfl, rfl, trivial⟩)
    | (refine Exists.intro (i + 1) ⟨by omega, ⟨by omega, by omega, blw_succ hP ⟨hD, blw_to kP (by omega)⟩⟩, i64_eq (wrap64 _ (by omega)), rfl, trivial⟩)
    | (refine Need.mk ?_ ?_)
    | refine rb ?_
    | refine ri ?_
    | refine rs2 ?_ ?_
    | refine rs1 ?_)
      exact fD (fun h' => absurd h ((h'.2.2 i h0 hi).2 k k0 (by omega)))
  · exact tD ⟨q1, q2, blw_to hP (by omega)⟩
end V
end Go.Proofs.Ytgialjcichiaoaa

/-
Plain proofs: disks and steps of the reference.
-/
namespace Go.Proofs.Ytgialjcichiaoaa
namespace V
open Classical
set_option maxRecDepth 100000
variable {W : Wld}

def SmD (d : Dk) : Prop := SmPs d.db ∧ d.files.length ≤ lim ∧ SmPs d.jour
def SmS (s : Stp) : Prop := SmPs s.pkgs
def DkOk (d : Dk) : Prop := Blw d.files.length (fun i => -2 ≤ ix d.files i ∧ ix d.files i ≤ 9) ∧ d.files.length = 6 ∧ PlanM d.db ∧ PlanM d.jour ∧ (d.has = true ∨ d.jour.length = 0)

theorem sDiskOk_ok (d : Dk) (hs : SmD d) : FunOk PP W n_s_DiskOk s_s_DiskOk [eDk d] [bo (decide (DkOk d))] := by
  refine F_s_DiskOk (wq_fun ?_)
  obtain ⟨h1, h2, h3⟩ := hs
  unfold lim at h2
  refine loop_mk (fun i : Int => 0 ≤ i ∧ i ≤ d.files.length ∧ Blw i (fun i => -2 ≤ ix d.files i ∧ ix d.files i ≤ 9)) (fun i => [(3, i64 i), (1, eDk d)]) (fun i => (d.files.length - i).toNat) 0 ⟨by omega, by omega, blw_zero _⟩ ⟨rfl, rfl, trivial⟩ ?_
  rintro i e ⟨h0, hN, hP⟩
  (repeat' first
    | (refine iteB_mk (fun h => ?_) (fun h => ?_) <;> (try simp (disch := omega) only [z0, z1, z2, z3, z4, z5, z6, z7, z8, z9, z10, z11, z12, z13, z14, z15, z16, z17, z18, z19, z20, z21, z22, z23, z24, z25, eqDs, eqD, z28, z29, z30, z31, z32, z33, z34, z35, z36, z37, Nat.reduceAdd, z39, z40, z41, wrap64] at h) <;> (try (exfalso; omega)))
    | (refine Need.mk (by (try simp (disch := omega) only [z0, z1, z2, z3, z4, z5, z6, z7, z8, z9, z10, z11, z12, z13, z14, z15, z16, z17, z18, z19, z20, z21, z22, z23, z24, z25, eqDs, eqD, z28, z29, z30, z31, z32, z33, z34, z35, z36, z37, Nat.reduceAdd, z39, z40, z41, wrap64]); first | exact elp_m (by omega) (by omega) (fun _ => rfl) | exact eld_m (by omega) (by omega) (fun _ => rfl) | exact els_m (by omega) (by omega) (by omega) rfl | exact lsl_m (by omega) (fun _ => rfl) | exact app_nil_m (by omega) (fun _ => rfl) (fun _ => rfl) | exact app_m_one (by omega) (fun _ => rfl) rfl rfl | exact app_m_m (by omega) (fun _ => rfl) (fun _ => rfl)) ?_)
    | (refine call_mk (l6In_ok ..) rfl ?_)
    | (refine call_mk (sPlanOk_ok d.db h1) rfl ?_)
    | (refine call_mk (sPlanOk_ok d.jour h3) rfl ?_)
    | (refine Exists.intro (i + 1) ⟨by omega, ⟨by omega, by omega, blw_succ hP (by assumption)⟩, i64_eq (wrap64 _ (by omega)), rfl, trivial⟩)
    | (refine Need.mk ?_ ?_)
    | refine rb ?_
    | refine ri ?_
    | refine rs2 ?_ ?_
    | refine rs1 ?_)
  · exact fD (fun h' => absurd (h'.1 i h0 (by assumption)) (by assumption))
  · exact tD ⟨blw_to hP (by omega), by omega, by assumption, by assumption, .inl (by assumption)⟩
  · by_cases hj : d.jour.length = 0
    · rw [show ((d.jour.map ePk).length : Int) = 0 by rw [List.length_map]; omega]
      exact tD ⟨blw_to hP (by omega), by omega, by assumption, by assumption, .inr hj⟩
    · rw [show (((d.jour.map ePk).length : Int) == 0) = false by rw [List.length_map]; simpa using hj]
      exact fD (fun h' => by rcases h'.2.2.2.2 with h2 | h2 <;> simp_all)
  · exact fD (fun h' => absurd h'.2.2.2.1 (by assumption))
  · exact fD (fun h' => absurd h'.2.2.1 (by assumption))
  · exact fD (fun h' => absurd h'.2.1 (by omega))

/-- What packages leave at places. -/
noncomputable def putF (fs : List P2) (l : List Int) : List Int := fs.foldl (fun l f => l.set f.a.toNat f.b) l
noncomputable def filesM (ps : List Pk) : List Int := ps.foldl (fun l p => putF p.files l) (List.replicate 6 (-1))
def PathsOk (ps : List Pk) : Prop := ∀ p ∈ ps, ∀ f ∈ p.files, 0 ≤ f.a ∧ f.a ≤ 5

theorem putF_len (fs : List P2) : ∀ l : List Int, (putF fs l).length = l.length := by
  induction fs with
  | nil => intro l; rfl
  | cons f fs ih => intro l; simp only [putF, List.foldl_cons] at ih ⊢; rw [ih]; simp
theorem foldF_len (ps : List Pk) : ∀ l : List Int, (ps.foldl (fun l p => putF p.files l) l).length = l.length := by
  induction ps with
  | nil => intro l; rfl
  | cons p ps ih => intro l; simp only [List.foldl_cons]; rw [ih, putF_len]
theorem filesM_len (ps : List Pk) : (filesM ps).length = 6 := by unfold filesM; rw [foldF_len]; simp

theorem l13Files_ok (ps : List Pk) (hs : SmPs ps) (hp : PathsOk ps) : FunOk PP W n_s_l13Files s_s_l13Files [ePks ps] [eIs (filesM ps)] := by
  refine F_s_l13Files (wq_fun ?_)
  have hl := hs.1
  unfold lim at hl
  refine Need.mk (by decide) ?_
  refine loop_mk (fun i : Int => 0 ≤ i ∧ i ≤ 6) (fun i => [(4, i64 i), (3, eIs (List.replicate i.toNat (-1) ++ List.replicate (6 - i).toNat 0)), (0, ePks ps)]) (fun i => (6 - i).toNat) 0 ⟨by omega, by omega⟩ ⟨rfl, rfl, rfl, trivial⟩ ?_
  rintro i e ⟨h0, hN⟩
  have hlen : (List.replicate i.toNat (-1 : Int) ++ List.replicate (6 - i).toNat 0).length = 6 := by simp; omega
  (repeat' first
    | (refine iteB_mk (fun h => ?_) (fun h => ?_) <;> (try simp (disch := omega) only [z0, z1, z2, z3, z4, z5, z6, z7, z8, z9, z10, z11, z12, z13, z14, z15, z16, z17, z18, z19, z20, z21, z22, z23, z24, z25, eqDs, eqD, z28, z29, z30, z31, z32, z33, z34, z35, z36, z37, Nat.reduceAdd, z39, z40, z41, wrap64] at h) <;> (try (exfalso; omega)))
    | (refine Need.mk (by (try simp (disch := omega) only [z0, z1, z2, z3, z4, z5, z6, z7, z8, z9, z10, z11, z12, z13, z14, z15, z16, z17, z18, z19, z20, z21, z22, z23, z24, z25, eqDs, eqD, z28, z29, z30, z31, z32, z33, z34, z35, z36, z37, Nat.reduceAdd, z39, z40, z41, wrap64]); first | exact elp_m (by omega) (by omega) (fun _ => rfl) | exact eld_m (by omega) (by omega) (fun _ => rfl) | exact els_m (by omega) (by omega) (by omega) rfl | exact lsl_m (by omega) (fun _ => rfl) | exact app_nil_m (by omega) (fun _ => rfl) (fun _ => rfl) | exact app_m_one (by omega) (fun _ => rfl) rfl rfl | exact app_m_m (by omega) (fun _ => rfl) (fun _ => rfl)) ?_)
    | (refine Exists.intro (i + 1) ⟨by omega, ⟨by omega, by omega⟩, i64_eq (wrap64 _ (by omega)), ?_, rfl, trivial⟩)
    | (refine Need.mk ?_ ?_)
    | refine rb ?_
    | refine ri ?_
    | refine rs2 ?_ ?_
    | refine rs1 ?_)
  · refine sl_eq ?_
    rw [els_v h0 (by omega)]
    congr 1
    refine ix_ext (by simp; omega) (fun j j0 j1 => ?_)
    simp only [ix, List.getD_eq_getElem?_getD, List.getElem?_set, List.getElem?_append, List.getElem?_replicate, List.length_replicate, List.length_append]
    simp only [List.length_set, hlen] at j1
    (repeat' split) <;> first | rfl | omega
  have hi6 : i = 6 := by rw [hlen] at h; omega
  subst hi6
  clear hlen h h0 hN
  refine loop_mk (fun i : Int => 0 ≤ i ∧ i ≤ ps.length) (fun i => [(5, i64 i), (3, eIs ((ps.take i.toNat).foldl (fun l p => putF p.files l) (List.replicate 6 (-1)))), (0, ePks ps)]) (fun i => (ps.length - i).toNat) 0 ⟨by omega, by omega⟩ ⟨rfl, rfl, rfl, trivial⟩ ?_
  rintro i e ⟨h0, hN⟩
  generalize hL : (ps.take i.toNat).foldl (fun l p => putF p.files l) (List.replicate 6 (-1)) = L
  have hLl : L.length = 6 := by rw [← hL, foldF_len]; simp
  (repeat' first
    | (refine iteB_mk (fun h => ?_) (fun h => ?_) <;> (try simp (disch := omega) only [z0, z1, z2, z3, z4, z5, z6, z7, z8, z9, z10, z11, z12, z13, z14, z15, z16, z17, z18, z19, z20, z21, z22, z23, z24, z25, eqDs, eqD, z28, z29, z30, z31, z32, z33, z34, z35, z36, z37, Nat.reduceAdd, z39, z40, z41, wrap64] at h) <;> (try (exfalso; omega)))
    | (refine Need.mk (by (try simp (disch := omega) only [z0, z1, z2, z3, z4, z5, z6, z7, z8, z9, z10, z11, z12, z13, z14, z15, z16, z17, z18, z19, z20, z21, z22, z23, z24, z25, eqDs, eqD, z28, z29, z30, z31, z32, z33, z34, z35, z36, z37, Nat.reduceAdd, z39, z40, z41, wrap64]); first | exact elp_m (by omega) (by omega) (fun _ => rfl) | exact eld_m (by omega) (by omega) (fun _ => rfl) | exact els_m (by omega) (by omega) (by omega) rfl | exact lsl_m (by omega) (fun _ => rfl) | exact app_nil_m (by omega) (fun _ => rfl) (fun _ => rfl) | exact app_m_one (by omega) (fun _ => rfl) rfl rfl | exact app_m_m (by omega) (fun _ => rfl) (fun _ => rfl)) ?_)
    | (refine Need.mk ?_ ?_)
    | refine rb ?_
    | refine ri ?_
    | refine rs2 ?_ ?_
    | refine rs1 ?_)
  · have hi := h
    have hm := ix_mem h0 hi
    have hf := (hs.2 _ hm).1
    unfold lim at hf
    refine loop_mk (fun k : Int => 0 ≤ k ∧ k ≤ (ix ps i).files.length) (fun k => [(6, i64 k), (5, i64 i), (3, eIs (putF ((ix ps i).files.take k.toNat) L)), (0, ePks ps)]) (fun k => ((ix ps i).files.length - k).toNat) 0 ⟨by omega, by omega⟩ ⟨rfl, rfl, rfl, rfl, trivial⟩ ?_
    rintro k e ⟨k0, kN⟩
    generalize hM : putF ((ix ps i).files.take k.toNat) L = M
    have hMl : M.length = 6 := by rw [← hM, putF_len, hLl]
    have hpp : k < (ix ps i).files.length → 0 ≤ (ix (ix ps i).files k).a ∧ (ix (ix ps i).files k).a ≤ 5 := fun hk => hp _ hm _ (ix_mem k0 hk)
    (repeat' first
    | (refine iteB_mk (fun h => ?_) (fun h => ?_) <;> (try simp (disch := omega) only [z0, z1, z2, z3, z4, z5, z6, z7, z8, z9, z10, z11, z12, z13, z14, z15, z16, z17, z18, z19, z20, z21, z22, z23, z24, z25, eqDs, eqD, z28, z29, z30, z31, z32, z33, z34, z35, z36, z37, Nat.reduceAdd, z39, z40, z41, wrap64] at h) <;> (try (exfalso; omega)))
    | (refine Need.mk (by (try simp (disch := omega) only [z0, z1, z2, z3, z4, z5, z6, z7, z8, z9, z10, z11, z12, z13, z14, z15, z16, z17, z18, z19, z20, z21, z22, z23, z24, z25, eqDs, eqD, z28, z29, z30, z31, z32, z33, z34, z35, z36, z37, Nat.reduceAdd, z39, z40, z41, wrap64]); first | exact elp_m (by omega) (by omega) (fun _ => rfl) | exact eld_m (by omega) (by omega) (fun _ => rfl) | exact els_m (by omega) (by omega) (by omega) rfl | exact lsl_m (by omega) (fun _ => rfl) | exact app_nil_m (by omega) (fun _ => rfl) (fun _ => rfl) | exact app_m_one (by omega) (fun _ => rfl) rfl rfl | exact app_m_m (by omega) (fun _ => rfl) (fun _ => rfl)) ?_)
    | (refine Exists.intro (k + 1) ⟨by omega, ⟨by omega, by omega⟩, i64_eq (wrap64 _ (by omega)), rfl, ?_, rfl, trivial⟩)
    | (refine Exists.intro (i + 1) ⟨by omega, ⟨by omega, by omega⟩, i64_eq (wrap64 _ (by omega)), ?_, rfl, trivial⟩)
    | (refine Need.mk ?_ ?_)
    | refine rb ?_
    | refine ri ?_
    | refine rs2 ?_ ?_
    | refine rs1 ?_)
    · refine sl_eq ?_
      have hp2 := hpp h
      simp only [z0, z1, z2, z3, z4, z5, z6, z7, z8, z9, z10, z11, z12, z13, z14, z15, z16, z17, z18, z19, z20, z21, z22, z23, z24, z25, eqDs, eqD, z28, z29, z30, z31, z32, z33, z34, z35, z36, z37, Nat.reduceAdd, z39, z40, z41]
      rw [els_v (by omega) (by omega), take_ix _ k0 h, ← hM]
      simp [putF, List.foldl_append]
    · refine sl_eq ?_
      have hk : k.toNat = (ix ps i).files.length := by omega
      rw [hk, List.take_length] at hM
      rw [take_ix ps h0 hi, List.foldl_append, hL, ← hM]
      rfl
  · refine sl_eq ?_
    have hk : i.toNat = ps.length := by omega
    rw [hk, List.take_length] at hL
    rw [← hL]
    rfl
end V
end Go.Proofs.Ytgialjcichiaoaa

/-
Plain proofs: what steps do to a disk, and which steps the reference takes.
-/
namespace Go.Proofs.Ytgialjcichiaoaa
namespace V
open Classical
set_option maxRecDepth 100000
variable {W : Wld}

def dk0 : Dk := ⟨[], List.replicate 6 (-1), false, []⟩
theorem pathsOk_nil : PathsOk [] := fun p hp => by cases hp
theorem smPs_nil : SmPs [] := ⟨by simp, by simp⟩

theorem sDiskNew_ok : FunOk PP W n_s_DiskNew s_s_DiskNew [] [eDk dk0] := by
  refine F_s_DiskNew (wq_fun ?_)
  (repeat' first
    | (refine iteB_mk (fun h => ?_) (fun h => ?_) <;> (try simp (disch := omega) only [z0, z1, z2, z3, z4, z5, z6, z7, z8, z9, z10, z11, z12, z13, z14, z15, z16, z17, z18, z19, z20, z21, z22, z23, z24, z25, eqDs, eqD, z28, z29, z30, z31, z32, z33, z34, z35, z36, z37, Nat.reduceAdd, z39, z40, z41, wrap64] at h) <;> (try (exfalso; omega)))
    | (refine Need.mk (by (try simp (disch := omega) only [z0, z1, z2, z3, z4, z5, z6, z7, z8, z9, z10, z11, z12, z13, z14, z15, z16, z17, z18, z19, z20, z21, z22, z23, z24, z25, eqDs, eqD, z28, z29, z30, z31, z32, z33, z34, z35, z36, z37, Nat.reduceAdd, z39, z40, z41, wrap64]); first | exact elp_m (by omega) (by omega) (fun _ => rfl) | exact eld_m (by omega) (by omega) (fun _ => rfl) | exact els_m (by omega) (by omega) (by omega) rfl | exact lsl_m (by omega) (fun _ => rfl) | exact app_nil_m (by omega) (fun _ => rfl) (fun _ => rfl) | exact app_m_one (by omega) (fun _ => rfl) rfl rfl | exact app_m_m (by omega) (fun _ => rfl) (fun _ => rfl)) ?_)
    | (refine call_mk (l13Files_ok [] smPs_nil pathsOk_nil) rfl ?_)
    | (refine Need.mk ?_ ?_)
    | refine rb ?_
    | refine ri ?_
    | refine rs2 ?_ ?_
    | refine rs1 ?_)
  rfl

def doM (d : Dk) (s : Stp) : Dk :=
  if s.kind = 1 then ⟨d.db, d.files, true, s.pkgs⟩
  else if s.kind = 2 then ⟨d.db, d.files.set s.path.toNat s.data, d.has, d.jour⟩
  else if s.kind = 3 then ⟨s.pkgs, d.files, d.has, d.jour⟩
  else if s.kind = 4 then ⟨d.db, d.files, false, []⟩
  else d
def tearM (d : Dk) (s : Stp) : Dk :=
  if s.kind = 2 then ⟨d.db, d.files.set s.path.toNat (-2), d.has, d.jour⟩
  else if s.kind = 3 then ⟨[], d.files, d.has, d.jour⟩
  else d
/-- A step that writes where there is a place. -/
def StIn (n : Nat) (s : Stp) : Prop := s.kind = 2 → 0 ≤ s.path ∧ s.path < n

theorem doM_len (d : Dk) (s : Stp) : (doM d s).files.length = d.files.length := by
  unfold doM; repeat' split
  all_goals simp

theorem l21Do_ok (d : Dk) (s : Stp) (hs : SmPs s.pkgs) (hp : StIn d.files.length s) : FunOk PP W n_s_l21Do s_s_l21Do [eDk d, eSt s] [eDk (doM d s)] := by
  refine F_s_l21Do (wq_fun ?_)
  unfold StIn at hp
  (repeat' first
    | (refine iteB_mk (fun h => ?_) (fun h => ?_) <;> (try simp (disch := omega) only [z0, z1, z2, z3, z4, z5, z6, z7, z8, z9, z10, z11, z12, z13, z14, z15, z16, z17, z18, z19, z20, z21, z22, z23, z24, z25, eqDs, eqD, z28, z29, z30, z31, z32, z33, z34, z35, z36, z37, Nat.reduceAdd, z39, z40, z41, wrap64] at h) <;> (try (exfalso; omega)))
    | (refine Need.mk (by (try simp (disch := omega) only [z0, z1, z2, z3, z4, z5, z6, z7, z8, z9, z10, z11, z12, z13, z14, z15, z16, z17, z18, z19, z20, z21, z22, z23, z24, z25, eqDs, eqD, z28, z29, z30, z31, z32, z33, z34, z35, z36, z37, Nat.reduceAdd, z39, z40, z41, wrap64]); first | exact elp_m (by omega) (by omega) (fun _ => rfl) | exact eld_m (by omega) (by omega) (fun _ => rfl) | exact els_m (by omega) (by omega) (by omega) rfl | exact lsl_m (by omega) (fun _ => rfl) | exact app_nil_m (by omega) (fun _ => rfl) (fun _ => rfl) | exact app_m_one (by omega) (fun _ => rfl) rfl rfl | exact app_m_m (by omega) (fun _ => rfl) (fun _ => rfl)) ?_)
    | (refine call_mk (l12Copy_ok s.pkgs hs) rfl ?_)
    | (refine Need.mk ?_ ?_)
    | refine rb ?_
    | refine ri ?_
    | refine rs2 ?_ ?_
    | refine rs1 ?_)
  · unfold doM; rw [if_pos (by assumption)] <;> rfl
  · unfold doM
    rw [if_neg (by assumption), if_pos (by assumption), els_v (by omega) (by omega)] <;> rfl
  · unfold doM; rw [if_neg (by assumption), if_neg (by assumption), if_pos (by assumption)] <;> rfl
  · unfold doM; rw [if_neg (by assumption), if_neg (by assumption), if_neg (by assumption), if_pos (by assumption)] <;> rfl
  · unfold doM; rw [if_neg (by assumption), if_neg (by assumption), if_neg (by assumption), if_neg (by assumption)] <;> rfl

theorem l21Tear_ok (d : Dk) (s : Stp) (hp : StIn d.files.length s) : FunOk PP W n_s_l21Tear s_s_l21Tear [eDk d, eSt s] [eDk (tearM d s)] := by
  refine F_s_l21Tear (wq_fun ?_)
  unfold StIn at hp
  (repeat' first
    | (refine iteB_mk (fun h => ?_) (fun h => ?_) <;> (try simp (disch := omega) only [z0, z1, z2, z3, z4, z5, z6, z7, z8, z9, z10, z11, z12, z13, z14, z15, z16, z17, z18, z19, z20, z21, z22, z23, z24, z25, eqDs, eqD, z28, z29, z30, z31, z32, z33, z34, z35, z36, z37, Nat.reduceAdd, z39, z40, z41, wrap64] at h) <;> (try (exfalso; omega)))
    | (refine Need.mk (by (try simp (disch := omega) only [z0, z1, z2, z3, z4, z5, z6, z7, z8, z9, z10, z11, z12, z13, z14, z15, z16, z17, z18, z19, z20, z21, z22, z23, z24, z25, eqDs, eqD, z28, z29, z30, z31, z32, z33, z34, z35, z36, z37, Nat.reduceAdd, z39, z40, z41, wrap64]); first | exact elp_m (by omega) (by omega) (fun _ => rfl) | exact eld_m (by omega) (by omega) (fun _ => rfl) | exact els_m (by omega) (by omega) (by omega) rfl | exact lsl_m (by omega) (fun _ => rfl) | exact app_nil_m (by omega) (fun _ => rfl) (fun _ => rfl) | exact app_m_one (by omega) (fun _ => rfl) rfl rfl | exact app_m_m (by omega) (fun _ => rfl) (fun _ => rfl)) ?_)
    | (refine Need.mk ?_ ?_)
    | refine rb ?_
    | refine ri ?_
    | refine rs2 ?_ ?_
    | refine rs1 ?_)
  · unfold tearM
    rw [if_pos (by assumption), els_v (by omega) (by omega)] <;> rfl
  · unfold tearM; rw [if_neg (by assumption), if_pos (by assumption)] <;> rfl
  · unfold tearM; rw [if_neg (by assumption), if_neg (by assumption)] <;> rfl

theorem l21Copy_ok (d : Dk) (hs : SmD d) : FunOk PP W n_s_l21Copy s_s_l21Copy [eDk d] [eDk d] := by
  refine F_s_l21Copy (wq_fun ?_)
  obtain ⟨h1, h2, h3⟩ := hs
  unfold lim at h2
  (repeat' first
    | (refine iteB_mk (fun h => ?_) (fun h => ?_) <;> (try simp (disch := omega) only [z0, z1, z2, z3, z4, z5, z6, z7, z8, z9, z10, z11, z12, z13, z14, z15, z16, z17, z18, z19, z20, z21, z22, z23, z24, z25, eqDs, eqD, z28, z29, z30, z31, z32, z33, z34, z35, z36, z37, Nat.reduceAdd, z39, z40, z41, wrap64] at h) <;> (try (exfalso; omega)))
    | (refine Need.mk (by (try simp (disch := omega) only [z0, z1, z2, z3, z4, z5, z6, z7, z8, z9, z10, z11, z12, z13, z14, z15, z16, z17, z18, z19, z20, z21, z22, z23, z24, z25, eqDs, eqD, z28, z29, z30, z31, z32, z33, z34, z35, z36, z37, Nat.reduceAdd, z39, z40, z41, wrap64]); first | exact elp_m (by omega) (by omega) (fun _ => rfl) | exact eld_m (by omega) (by omega) (fun _ => rfl) | exact els_m (by omega) (by omega) (by omega) rfl | exact lsl_m (by omega) (fun _ => rfl) | exact app_nil_m (by omega) (fun _ => rfl) (fun _ => rfl) | exact app_m_one (by omega) (fun _ => rfl) rfl rfl | exact app_m_m (by omega) (fun _ => rfl) (fun _ => rfl)) ?_)
    | (refine call_mk (l12Copy_ok d.db h1) rfl ?_)
    | (refine call_mk (l12Copy_ok d.jour h3) rfl ?_)
    | (refine Need.mk ?_ ?_)
    | refine rb ?_
    | refine ri ?_
    | refine rs2 ?_ ?_
    | refine rs1 ?_)
  rfl

def doAll (d : Dk) (l : List Stp) : Dk := l.foldl doM d
theorem doAll_len (l : List Stp) : ∀ d : Dk, (doAll d l).files.length = d.files.length := by
  induction l with
  | nil => intro d; rfl
  | cons s l ih => intro d; exact (ih (doM d s)).trans (doM_len d s)
theorem doAll_take (d : Dk) (l : List Stp) {i : Int} (h0 : 0 ≤ i) (h1 : i < l.length) : doAll d (l.take (i + 1).toNat) = doM (doAll d (l.take i.toNat)) (ix l i) := by
  rw [take_ix l h0 h1, doAll, List.foldl_append]; rfl
noncomputable def toM (d : Dk) (l : List Stp) (cut : Int) (torn : Bool) : Dk :=
  if torn = true ∧ 0 ≤ cut ∧ cut ≤ (l.length : Int) - 1 then tearM (doAll d (l.take cut.toNat)) (ix l cut) else doAll d (l.take cut.toNat)
def StsIn (n : Nat) (l : List Stp) : Prop := ∀ s ∈ l, StIn n s ∧ SmPs s.pkgs

theorem l22To_ok (d : Dk) (l : List Stp) (cut : Int) (torn : Bool) (hl : l.length ≤ lim) (hp : StsIn d.files.length l) : FunOk PP W n_s_l22To s_s_l22To [eDk d, eSts l, i64 cut, bo torn] [eDk (toM d l cut torn)] := by
  refine F_s_l22To (wq_fun ?_)
  unfold lim at hl
  refine loop_mk (fun i : Int => 0 ≤ i ∧ i ≤ l.length ∧ (i = 0 ∨ i ≤ cut)) (fun i => [(9, i64 i), (4, eDk (doAll d (l.take i.toNat))), (1, eSts l), (2, i64 cut), (3, bo torn), (8, [.sl [], .sl [], .bool false, .sl []])]) (fun i => (l.length - i).toNat) 0 ⟨by omega, by omega, by omega⟩ ⟨rfl, rfl, rfl, rfl, rfl, rfl, trivial⟩ ?_
  rintro i e ⟨h0, hN, hc⟩
  have hdl := doAll_len (l.take i.toNat) d
  have hst : i < l.length → StIn (doAll d (l.take i.toNat)).files.length (ix l i) ∧ SmPs (ix l i).pkgs := fun h => by rw [hdl]; exact hp _ (ix_mem h0 h)
  generalize hD : doAll d (l.take i.toNat) = E at hst hdl
  have hst2 : 0 ≤ cut ∧ cut ≤ (l.length : Int) - 1 → StIn E.files.length (ix l cut) := fun h => by rw [hdl]; exact (hp _ (ix_mem h.1 (by omega))).1
  have hE : ¬ i < l.length ∨ ¬ i < cut → doAll d (l.take cut.toNat) = E := fun h => by
    rw [← hD]
    by_cases hx : i < cut
    · have : i.toNat = l.length := by omega
      rw [this, List.take_length, List.take_of_length_le (by omega)]
    · rw [show cut.toNat = i.toNat by omega]
  (repeat' first
    | (refine iteB_mk (fun h => ?_) (fun h => ?_) <;> (try simp (disch := omega) only [z0, z1, z2, z3, z4, z5, z6, z7, z8, z9, z10, z11, z12, z13, z14, z15, z16, z17, z18, z19, z20, z21, z22, z23, z24, z25, eqDs, eqD, z28, z29, z30, z31, z32, z33, z34, z35, z36, z37, Nat.reduceAdd, z39, z40, z41, wrap64] at h) <;> (try (exfalso; omega)))
    | (refine Need.mk (by (try simp (disch := omega) only [z0, z1, z2, z3, z4, z5, z6, z7, z8, z9, z10, z11, z12, z13, z14, z15, z16, z17, z18, z19, z20, z21, z22, z23, z24, z25, eqDs, eqD, z28, z29, z30, z31, z32, z33, z34, z35, z36, z37, Nat.reduceAdd, z39, z40, z41, wrap64]); first | exact elp_m (by omega) (by omega) (fun _ => rfl) | exact eld_m (by omega) (by omega) (fun _ => rfl) | exact els_m (by omega) (by omega) (by omega) rfl | exact lsl_m (by omega) (fun _ => rfl) | exact app_nil_m (by omega) (fun _ => rfl) (fun _ => rfl) | exact app_m_one (by omega) (fun _ => rfl) rfl rfl | exact app_m_m (by omega) (fun _ => rfl) (fun _ => rfl)) ?_)
    | (refine call_mk2 (l21Do_ok E (ix l i) (hst (by omega)).2 (hst (by omega)).1) (by simp (disch := omega) only [z0, z1, z2, z3, z4, z5, z6, z7, z8, z9, z10, z11, z12, z13, z14, z15, z16, z17, z18, z19, z20, z21, z22, z23, z24, z25, eqDs, eqD, z28, z29, z30, z31, z32, z33, z34, z35, z36, z37, Nat.reduceAdd, z39, z40, z41, wrap64]) rfl ?_)
    | (refine call_mk2 (l6In_ok cut 0 (l.length - 1)) (by simp (disch := omega) only [z0, z1, z2, z3, z4, z5, z6, z7, z8, z9, z10, z11, z12, z13, z14, z15, z16, z17, z18, z19, z20, z21, z22, z23, z24, z25, eqDs, eqD, z28, z29, z30, z31, z32, z33, z34, z35, z36, z37, Nat.reduceAdd, z39, z40, z41, wrap64]) rfl ?_)
    | (refine call_mk2 (l21Tear_ok E (ix l cut) (hst2 (by omega))) (by simp (disch := omega) only [z0, z1, z2, z3, z4, z5, z6, z7, z8, z9, z10, z11, z12, z13, z14, z15, z16, z17, z18, z19, z20, z21, z22, z23, z24, z25, eqDs, eqD, z28, z29, z30, z31, z32, z33, z34, z35, z36, z37, Nat.reduceAdd, z39, z40, z41, wrap64]) rfl ?_)
    | (refine Exists.intro (i + 1) ⟨by omega, ⟨by omega, by omega, by omega⟩, i64_eq (wrap64 _ (by omega)), ?_, rfl, rfl, rfl, rfl, trivial⟩)
    | (refine Need.mk ?_ ?_)
    | refine rb ?_
    | refine ri ?_
    | refine rs2 ?_ ?_
    | refine rs1 ?_)
  · rw [doAll_take d l h0 (by omega), hD]
    rfl
  all_goals unfold toM
  all_goals rw [hE (by omega)]
  all_goals first
    | (rw [if_pos ⟨by assumption, by assumption⟩]; done)
    | (rw [if_neg (fun h' => absurd h'.2 (by assumption))]; done)
    | (rw [if_neg (fun h' => by simp_all)]; done)

/-- The places below one at which something else is to be. -/
noncomputable def diffM (a b : List Int) : Nat → List Stp
  | 0 => []
  | n + 1 => if ix a n = ix b n then diffM a b n else diffM a b n ++ [⟨2, n, ix a n, []⟩]
theorem diffM_len (a b : List Int) : ∀ n, (diffM a b n).length ≤ n
  | 0 => Nat.le_refl _
  | n + 1 => by
    have := diffM_len a b n
    unfold diffM
    split
    · omega
    · simp; omega
theorem diffM_succ (a b : List Int) {i : Int} (h0 : 0 ≤ i) : diffM a b (i + 1).toNat = if ix a i = ix b i then diffM a b i.toNat else diffM a b i.toNat ++ [⟨2, i, ix a i, []⟩] := by
  rw [show (i + 1).toNat = i.toNat + 1 by omega, diffM, show ((i.toNat : Nat) : Int) = i by omega]
noncomputable def restM (d : Dk) (ps : List Pk) : List Stp := diffM (filesM ps) d.files 6 ++ [⟨3, 0, 0, ps⟩, ⟨4, 0, 0, []⟩]
noncomputable def stepsM (d : Dk) (ps : List Pk) : List Stp := ⟨1, 0, 0, ps⟩ :: restM d ps

theorem l22Steps_ok (d : Dk) (ps : List Pk) (hs : SmPs ps) (hp : PathsOk ps) (hd : 6 ≤ d.files.length) : FunOk PP W n_s_l22Steps s_s_l22Steps [eDk d, ePks ps] [eSts (stepsM d ps)] := by
  refine F_s_l22Steps (wq_fun ?_)
  have hl := hs.1
  unfold lim at hl
  have hfl := filesM_len ps
  (repeat' first
    | (refine iteB_mk (fun h => ?_) (fun h => ?_) <;> (try simp (disch := omega) only [z0, z1, z2, z3, z4, z5, z6, z7, z8, z9, z10, z11, z12, z13, z14, z15, z16, z17, z18, z19, z20, z21, z22, z23, z24, z25, eqDs, eqD, z28, z29, z30, z31, z32, z33, z34, z35, z36, z37, Nat.reduceAdd, z39, z40, z41, wrap64] at h) <;> (try (exfalso; omega)))
    | (refine Need.mk (by (try simp (disch := omega) only [z0, z1, z2, z3, z4, z5, z6, z7, z8, z9, z10, z11, z12, z13, z14, z15, z16, z17, z18, z19, z20, z21, z22, z23, z24, z25, eqDs, eqD, z28, z29, z30, z31, z32, z33, z34, z35, z36, z37, Nat.reduceAdd, z39, z40, z41, wrap64]); first | exact elp_m (by omega) (by omega) (fun _ => rfl) | exact eld_m (by omega) (by omega) (fun _ => rfl) | exact els_m (by omega) (by omega) (by omega) rfl | exact lsl_m (by omega) (fun _ => rfl) | exact app_nil_m (by omega) (fun _ => rfl) (fun _ => rfl) | exact app_m_one (by omega) (fun _ => rfl) rfl rfl | exact app_m_m (by omega) (fun _ => rfl) (fun _ => rfl)) ?_)
    | (refine call_mk (l12Copy_ok ps hs) rfl ?_)
    | (refine call_mk (l13Files_ok ps hs hp) rfl ?_)
    | (refine Need.mk ?_ ?_)
    | refine rb ?_
    | refine ri ?_
    | refine rs2 ?_ ?_
    | refine rs1 ?_)
  refine loop_mk (fun i : Int => 0 ≤ i ∧ i ≤ 6) (fun i => [(7, i64 i), (5, eSts (⟨1, 0, 0, ps⟩ :: diffM (filesM ps) d.files i.toNat)), (6, eIs (filesM ps)), (2, eDk d), (1, ePks ps)]) (fun i => (6 - i).toNat) 0 ⟨by omega, by omega⟩ ⟨rfl, rfl, rfl, rfl, rfl, trivial⟩ ?_
  rintro i e ⟨h0, hN⟩
  have hdl : ((⟨1, 0, 0, ps⟩ : Stp) :: diffM (filesM ps) d.files i.toNat).length ≤ i.toNat + 1 := by
    have := diffM_len (filesM ps) d.files i.toNat
    simp only [List.length_cons]; omega
  have hds : (⟨1, 0, 0, ps⟩ : Stp) :: diffM (filesM ps) d.files (i + 1).toNat = if ix (filesM ps) i = ix d.files i then ⟨1, 0, 0, ps⟩ :: diffM (filesM ps) d.files i.toNat else (⟨1, 0, 0, ps⟩ :: diffM (filesM ps) d.files i.toNat) ++ [⟨2, i, ix (filesM ps) i, []⟩] := by
    rw [diffM_succ (filesM ps) d.files h0]
    split <;> rfl
  have hfin : i = 6 → stepsM d ps = (⟨1, 0, 0, ps⟩ :: diffM (filesM ps) d.files i.toNat) ++ [⟨3, 0, 0, ps⟩, ⟨4, 0, 0, []⟩] := fun h => by rw [h]; rfl
  generalize ((⟨1, 0, 0, ps⟩ : Stp) :: diffM (filesM ps) d.files i.toNat) = L at hdl hds hfin
  (repeat' first
    | (refine iteB_mk (fun h => ?_) (fun h => ?_) <;> (try simp (disch := omega) only [z0, z1, z2, z3, z4, z5, z6, z7, z8, z9, z10, z11, z12, z13, z14, z15, z16, z17, z18, z19, z20, z21, z22, z23, z24, z25, eqDs, eqD, z28, z29, z30, z31, z32, z33, z34, z35, z36, z37, Nat.reduceAdd, z39, z40, z41, wrap64] at h) <;> (try (exfalso; omega)))
    | (refine Need.mk (by (try simp (disch := omega) only [z0, z1, z2, z3, z4, z5, z6, z7, z8, z9, z10, z11, z12, z13, z14, z15, z16, z17, z18, z19, z20, z21, z22, z23, z24, z25, eqDs, eqD, z28, z29, z30, z31, z32, z33, z34, z35, z36, z37, Nat.reduceAdd, z39, z40, z41, wrap64]); first | exact elp_m (by omega) (by omega) (fun _ => rfl) | exact eld_m (by omega) (by omega) (fun _ => rfl) | exact els_m (by omega) (by omega) (by omega) rfl | exact lsl_m (by omega) (fun _ => rfl) | exact app_nil_m (by omega) (fun _ => rfl) (fun _ => rfl) | exact app_m_one (by omega) (fun _ => rfl) rfl rfl | exact app_m_m (by omega) (fun _ => rfl) (fun _ => rfl)) ?_)
    | (refine call_mk (l12Copy_ok ps hs) rfl ?_)
    | (refine Exists.intro (i + 1) ⟨by omega, ⟨by omega, by omega⟩, i64_eq (wrap64 _ (by omega)), ?_, rfl, rfl, rfl, trivial⟩)
    | (refine Need.mk ?_ ?_)
    | refine rb ?_
    | refine ri ?_
    | refine rs2 ?_ ?_
    | refine rs1 ?_)
  · rw [hds, if_neg (by assumption)]
    refine sl_eq ?_
    simp only [z0, z1, z2, z3, z4, z5, z6, z7, z8, z9, z10, z11, z12, z13, z14, z15, z16, z17, z18, z19, z20, z21, z22, z23, z24, z25, eqDs, eqD, z28, z29, z30, z31, z32, z33, z34, z35, z36, z37, Nat.reduceAdd, z39, z40, z41, List.map_append]
    rfl
  · rw [hds, if_pos (by assumption)]
    rfl
  · refine ⟨by simp [lim]; omega, ?_, by simp⟩
    intro x hx
    rcases List.mem_append.1 hx with h | h
    · obtain ⟨y, _, rfl⟩ := List.mem_map.1 h; rfl
    · simp only [List.mem_cons, List.not_mem_nil, or_false] at h
      rcases h with rfl | rfl <;> rfl
  · rw [hfin (by omega)]
    refine sl_eq ?_
    rw [List.map_append]
    rfl

theorem stepsM_len (d : Dk) (ps : List Pk) : (stepsM d ps).length ≤ 9 := by
  have := diffM_len (filesM ps) d.files 6
  simp only [stepsM, restM, List.length_cons, List.length_append, List.length_nil]; omega

noncomputable def mendsM (d : Dk) : List Stp := if d.has = true then restM d d.jour else []

theorem l22Mends_ok (d : Dk) (hs : SmPs d.jour) (hp : d.has = true → PathsOk d.jour) (hd : 6 ≤ d.files.length) : FunOk PP W n_s_l22Mends s_s_l22Mends [eDk d] [eSts (mendsM d)] := by
  refine F_s_l22Mends (wq_fun ?_)
  have hn := stepsM_len d d.jour
  have hn1 : 1 ≤ (stepsM d d.jour).length := by simp [stepsM]
  (repeat' first
    | (refine iteB_mk (fun h => ?_) (fun h => ?_) <;> (try simp (disch := omega) only [z0, z1, z2, z3, z4, z5, z6, z7, z8, z9, z10, z11, z12, z13, z14, z15, z16, z17, z18, z19, z20, z21, z22, z23, z24, z25, eqDs, eqD, z28, z29, z30, z31, z32, z33, z34, z35, z36, z37, Nat.reduceAdd, z39, z40, z41, wrap64] at h) <;> (try (exfalso; omega)))
    | (refine Need.mk (by (try simp (disch := omega) only [z0, z1, z2, z3, z4, z5, z6, z7, z8, z9, z10, z11, z12, z13, z14, z15, z16, z17, z18, z19, z20, z21, z22, z23, z24, z25, eqDs, eqD, z28, z29, z30, z31, z32, z33, z34, z35, z36, z37, Nat.reduceAdd, z39, z40, z41, wrap64]); first | exact elp_m (by omega) (by omega) (fun _ => rfl) | exact eld_m (by omega) (by omega) (fun _ => rfl) | exact els_m (by omega) (by omega) (by omega) rfl | exact lsl_m (by omega) (fun _ => rfl) | exact app_nil_m (by omega) (fun _ => rfl) (fun _ => rfl) | exact app_m_one (by omega) (fun _ => rfl) rfl rfl | exact app_m_m (by omega) (fun _ => rfl) (fun _ => rfl)) ?_)
    | (refine call_mk (l22Steps_ok d d.jour hs (hp (by assumption)) hd) rfl ?_)
    | (refine Need.mk ?_ ?_)
    | refine rb ?_
    | refine ri ?_
    | refine rs2 ?_ ?_
    | refine rs1 ?_)
  · unfold mendsM; rw [if_neg (by simp_all)]; rfl
  · unfold mendsM
    rw [if_pos (by assumption)]
    refine sl_eq ?_
    rw [List.length_map, Int.toNat_natCast, List.take_of_length_le (by simp), stepsM]
    rfl

theorem mem_ix {α : Type} [Inhabited α] {xs : List α} {x : α} (h : x ∈ xs) : ∃ i : Int, 0 ≤ i ∧ i < xs.length ∧ ix xs i = x := by
  obtain ⟨n, hn, rfl⟩ := List.mem_iff_getElem.1 h
  exact ⟨n, by omega, by omega, by simp [ix, hn]⟩
theorem pksOk_mem {ps : List Pk} (h : PksOk ps) {p : Pk} (hp : p ∈ ps) : PkOk p := by
  obtain ⟨i, h0, h1, rfl⟩ := mem_ix hp
  exact (h i h0 h1).1
theorem pkOk_files {p : Pk} (h : PkOk p) {f : P2} (hf : f ∈ p.files) : (0 ≤ f.a ∧ f.a ≤ 5) ∧ 0 ≤ f.b ∧ f.b ≤ 9 := by
  obtain ⟨i, h0, h1, rfl⟩ := mem_ix hf
  exact ⟨(h.2.2.1.1 i h0 h1).1, (h.2.2.1.1 i h0 h1).2.1⟩
theorem pathsOk_of {ps : List Pk} (h : PksOk ps) : PathsOk ps := fun p hp f hf => (pkOk_files (pksOk_mem h hp) hf).1

theorem diffM_in (a b : List Int) : ∀ (n : Nat) (s : Stp), s ∈ diffM a b n → 0 ≤ s.path ∧ s.path < n ∧ s.kind = 2 ∧ s.pkgs = []
  | 0, s, h => by cases h
  | n + 1, s, h => by
    unfold diffM at h
    split at h
    · have := diffM_in a b n s h; exact ⟨this.1, by omega, this.2.2⟩
    · rcases List.mem_append.1 h with h | h
      · have := diffM_in a b n s h
        exact ⟨this.1, by omega, this.2.2⟩
      · rw [List.mem_singleton.1 h]
        exact ⟨by simp, (by show (n : Int) < ((n + 1 : Nat) : Int); omega), rfl, rfl⟩
theorem restM_in (d : Dk) {ps : List Pk} (hs : SmPs ps) {n : Nat} (hn : 6 ≤ n) : StsIn n (restM d ps) := fun s hm => by
  rcases List.mem_append.1 hm with h | h
  · have := diffM_in _ _ _ _ h
    exact ⟨fun _ => by omega, by rw [this.2.2.2]; exact smPs_nil⟩
  · simp only [List.mem_cons, List.not_mem_nil, or_false] at h
    rcases h with rfl | rfl
    · exact ⟨(fun h => by cases h), hs⟩
    · exact ⟨(fun h => by cases h), smPs_nil⟩
theorem stepsM_in (d : Dk) {ps : List Pk} (hs : SmPs ps) {n : Nat} (hn : 6 ≤ n) : StsIn n (stepsM d ps) := fun s hm => by
  rcases List.mem_cons.1 hm with h | h
  · subst h
    exact ⟨(fun h => by cases h), hs⟩
  · exact restM_in d hs hn s h

theorem dkOk_paths {d : Dk} (h : DkOk d) : PathsOk d.jour := pathsOk_of h.2.2.2.1.1
theorem dkOk_len {d : Dk} (h : DkOk d) : 6 ≤ d.files.length := by have := h.2.1; omega
def dkZ : Dk := ⟨[], [], false, []⟩
/-- The disk that the reference's mending leaves. -/
noncomputable def mendM (d : Dk) : Dk := doAll d (mendsM d)
theorem toM_all (d : Dk) (l : List Stp) : toM d l l.length false = doAll d l := by
  unfold toM
  rw [if_neg (by simp), Int.toNat_natCast, List.take_length]

theorem sInstMend_ok (d : Dk) (hs : SmD d) : FunOk PP W n_s_InstMend s_s_InstMend [eDk d] [eDk (if DkOk d then mendM d else dkZ), bo (decide (DkOk d))] := by
  refine F_s_InstMend (wq_fun ?_)
  have hm1 : (mendsM d).length ≤ lim := by
    have := stepsM_len d d.jour
    unfold mendsM lim
    split
    · simp only [stepsM, List.length_cons] at this; omega
    · simp
  have hm2 : DkOk d → StsIn d.files.length (mendsM d) := fun h => by
    unfold mendsM
    split
    · exact restM_in d hs.2.2 (dkOk_len h)
    · intro s hs; cases hs
  (repeat' first
    | (refine iteB_mk (fun h => ?_) (fun h => ?_) <;> (try simp (disch := omega) only [z0, z1, z2, z3, z4, z5, z6, z7, z8, z9, z10, z11, z12, z13, z14, z15, z16, z17, z18, z19, z20, z21, z22, z23, z24, z25, eqDs, eqD, z28, z29, z30, z31, z32, z33, z34, z35, z36, z37, Nat.reduceAdd, z39, z40, z41, wrap64] at h) <;> (try (exfalso; omega)))
    | (refine Need.mk (by (try simp (disch := omega) only [z0, z1, z2, z3, z4, z5, z6, z7, z8, z9, z10, z11, z12, z13, z14, z15, z16, z17, z18, z19, z20, z21, z22, z23, z24, z25, eqDs, eqD, z28, z29, z30, z31, z32, z33, z34, z35, z36, z37, Nat.reduceAdd, z39, z40, z41, wrap64]); first | exact elp_m (by omega) (by omega) (fun _ => rfl) | exact eld_m (by omega) (by omega) (fun _ => rfl) | exact els_m (by omega) (by omega) (by omega) rfl | exact lsl_m (by omega) (fun _ => rfl) | exact app_nil_m (by omega) (fun _ => rfl) (fun _ => rfl) | exact app_m_one (by omega) (fun _ => rfl) rfl rfl | exact app_m_m (by omega) (fun _ => rfl) (fun _ => rfl)) ?_)
    | (refine call_mk2 (l22To_ok d (mendsM d) (mendsM d).length false hm1 (hm2 (by assumption))) (by simp (disch := omega) only [z0, z1, z2, z3, z4, z5, z6, z7, z8, z9, z10, z11, z12, z13, z14, z15, z16, z17, z18, z19, z20, z21, z22, z23, z24, z25, eqDs, eqD, z28, z29, z30, z31, z32, z33, z34, z35, z36, z37, Nat.reduceAdd, z39, z40, z41, wrap64]) rfl ?_)
    | (refine call_mk (sDiskOk_ok d hs) rfl ?_)
    | (refine call_mk (l22Mends_ok d hs.2.2 (fun _ => dkOk_paths (by assumption)) (dkOk_len (by assumption))) rfl ?_)
    | (refine call_mk (l21Copy_ok d hs) rfl ?_)
    | (refine Need.mk ?_ ?_)
    | refine rb ?_
    | refine ri ?_
    | refine rs2 ?_ ?_
    | refine rs1 ?_)
  · rw [if_neg h]; rfl
  · exact bo_eq (fD h)
  · rw [if_pos h]
    simp only [toM_all]
    rfl
  · exact bo_eq (tD h)
end V
end Go.Proofs.Ytgialjcichiaoaa

/-
Plain proofs, the program's packages.
-/
namespace Go.Proofs.Ytgialjcichiaoaa
namespace V
open Classical
set_option maxRecDepth 100000
variable {W : Wld}

theorem iPkgOk_ok (p : Pk) (hs : SmP p) : FunOk PP W n_i_PkgOk s_i_PkgOk [ePk p] [bo (decide (PkOk p))] := by
  refine F_i_PkgOk (run_fun ?_)
  obtain ⟨hs1, hs2⟩ := hs
  unfold lim at hs1 hs2
  (repeat' first
    | (refine run_ite rfl (fun h => ?_) (fun h => ?_) <;> (try simp (disch := omega) only [z0, z1, z2, z3, z4, z5, z6, z7, z8, z9, z10, z11, z12, z13, z14, z15, z16, z17, z18, z19, z20, z21, z22, z23, z24, z25, eqDs, eqD, z28, z29, z30, z31, z32, z33, z34, z35, z36, z37, Nat.reduceAdd, z39, z40, z41, wrap64] at h) <;> (try (exfalso; omega)))
    | (refine run_need rfl (by (try simp (disch := omega) only [z0, z1, z2, z3, z4, z5, z6, z7, z8, z9, z10, z11, z12, z13, z14, z15, z16, z17, z18, z19, z20, z21, z22, z23, z24, z25, eqDs, eqD, z28, z29, z30, z31, z32, z33, z34, z35, z36, z37, Nat.reduceAdd, z39, z40, z41, wrap64]); first | exact elp_m (by omega) (by omega) (fun _ => rfl) | exact eld_m (by omega) (by omega) (fun _ => rfl) | exact els_m (by omega) (by omega) (by omega) rfl | exact lsl_m (by omega) (fun _ => rfl) | exact app_nil_m (by omega) (fun _ => rfl) (fun _ => rfl) | exact app_m_one (by omega) (fun _ => rfl) rfl rfl | exact app_m_m (by omega) (fun _ => rfl) (fun _ => rfl)) ?_)
    | (refine run_need rfl (by first | decide | omega | (simp only [List.length_map]; omega)) ?_)
    | (refine run_call1 rfl (isName_ok ..) rfl ?_)
    | (refine run_call1 rfl (isVer_ok ..) rfl ?_)
    | (refine run_need rfl ?_ ?_)
    | (refine run_ret rfl ?_ ; first | refine rb ?_ | refine ri ?_ | refine rs2 ?_ ?_ | refine rs1 ?_)
    | (refine run_retx rfl ?_))
  · exact fD (fun h => by unfold PkOk at h; omega)
  · exact fD (fun h => by unfold PkOk at h; omega)
  · exact fD (fun h => by unfold PkOk FilesOk at h; omega)
  · exact fD (fun h => by unfold PkOk DepsOk at h; omega)
  rename_i q1 q2 q3
  have q4 := h
  clear h
  refine run_loop rfl (fun i : Int => 0 ≤ i ∧ i ≤ p.files.length ∧ Blw i (FileAt p.files)) (fun i => [(32, .val (i64 i)), (30, .val (eP2s p.files)), (31, .val (i64 (p.files.map eP2).length)), (1, .val (ePk p))]) (fun i => (p.files.length - i).toNat) 0 ⟨by omega, by omega, blw_zero _⟩ ⟨rfl, rfl, rfl, rfl, trivial⟩ rfl ?_
  rintro i e ⟨h0, hN, hP⟩
  (repeat' first
    | (refine run_ite rfl (fun h => ?_) (fun h => ?_) <;> (try simp (disch := omega) only [z0, z1, z2, z3, z4, z5, z6, z7, z8, z9, z10, z11, z12, z13, z14, z15, z16, z17, z18, z19, z20, z21, z22, z23, z24, z25, eqDs, eqD, z28, z29, z30, z31, z32, z33, z34, z35, z36, z37, Nat.reduceAdd, z39, z40, z41, wrap64] at h) <;> (try (exfalso; omega)))
    | (refine run_need rfl (by (try simp (disch := omega) only [z0, z1, z2, z3, z4, z5, z6, z7, z8, z9, z10, z11, z12, z13, z14, z15, z16, z17, z18, z19, z20, z21, z22, z23, z24, z25, eqDs, eqD, z28, z29, z30, z31, z32, z33, z34, z35, z36, z37, Nat.reduceAdd, z39, z40, z41, wrap64]); first | exact elp_m (by omega) (by omega) (fun _ => rfl) | exact eld_m (by omega) (by omega) (fun _ => rfl) | exact els_m (by omega) (by omega) (by omega) rfl | exact lsl_m (by omega) (fun _ => rfl) | exact app_nil_m (by omega) (fun _ => rfl) (fun _ => rfl) | exact app_m_one (by omega) (fun _ => rfl) rfl rfl | exact app_m_m (by omega) (fun _ => rfl) (fun _ => rfl)) ?_)
    | (refine run_need rfl (by first | decide | omega | (simp only [List.length_map]; omega)) ?_)
    | (refine run_call1 rfl (in_ok ..) rfl ?_)
    | (refine run_next rfl (Exists.intro (i + 1) ⟨by omega, ⟨by omega, by omega, blw_succ hP ?_⟩, i64_eq (wrap64 _ (by omega)), rfl, rfl, rfl, trivial⟩))
    | (refine run_need rfl ?_ ?_)
    | (refine run_ret rfl ?_ ; first | refine rb ?_ | refine ri ?_ | refine rs2 ?_ ?_ | refine rs1 ?_)
    | (refine run_retx rfl ?_))
  · exact fD (fun ⟨_, _, ⟨h, _⟩, _⟩ => by have := h i (by omega) (by omega); unfold FileAt at this; omega)
  · exact fD (fun ⟨_, _, ⟨h, _⟩, _⟩ => by have := h i (by omega) (by omega); unfold FileAt at this; omega)
  · exact fD (fun ⟨_, _, ⟨h, _⟩, _⟩ => by have := h i (by omega) (by omega); unfold FileAt at this; omega)
  · unfold FileAt; omega
  · unfold FileAt; omega
  have hF : FilesOk p.files := ⟨blw_to hP (by omega), by omega⟩
  clear hP h0 hN
  refine run_loop rfl (fun i : Int => 0 ≤ i ∧ i ≤ p.deps.length ∧ Blw i (DepAt p.name p.deps)) (fun i => [(67, .val (i64 i)), (65, .val (eP2s p.deps)), (66, .val (i64 (p.deps.map eP2).length)), (1, .val (ePk p))]) (fun i => (p.deps.length - i).toNat) 0 ⟨by omega, by omega, blw_zero _⟩ ⟨rfl, rfl, rfl, rfl, trivial⟩ rfl ?_
  rintro i e ⟨h0, hN, hP⟩
  (repeat' first
    | (refine run_ite rfl (fun h => ?_) (fun h => ?_) <;> (try simp (disch := omega) only [z0, z1, z2, z3, z4, z5, z6, z7, z8, z9, z10, z11, z12, z13, z14, z15, z16, z17, z18, z19, z20, z21, z22, z23, z24, z25, eqDs, eqD, z28, z29, z30, z31, z32, z33, z34, z35, z36, z37, Nat.reduceAdd, z39, z40, z41, wrap64] at h) <;> (try (exfalso; omega)))
    | (refine run_need rfl (by (try simp (disch := omega) only [z0, z1, z2, z3, z4, z5, z6, z7, z8, z9, z10, z11, z12, z13, z14, z15, z16, z17, z18, z19, z20, z21, z22, z23, z24, z25, eqDs, eqD, z28, z29, z30, z31, z32, z33, z34, z35, z36, z37, Nat.reduceAdd, z39, z40, z41, wrap64]); first | exact elp_m (by omega) (by omega) (fun _ => rfl) | exact eld_m (by omega) (by omega) (fun _ => rfl) | exact els_m (by omega) (by omega) (by omega) rfl | exact lsl_m (by omega) (fun _ => rfl) | exact app_nil_m (by omega) (fun _ => rfl) (fun _ => rfl) | exact app_m_one (by omega) (fun _ => rfl) rfl rfl | exact app_m_m (by omega) (fun _ => rfl) (fun _ => rfl)) ?_)
    | (refine run_need rfl (by first | decide | omega | (simp only [List.length_map]; omega)) ?_)
    | (refine run_call1 rfl (isName_ok ..) rfl ?_)
    | (refine run_call1 rfl (isVer_ok ..) rfl ?_)
    | (refine run_next rfl (Exists.intro (i + 1) ⟨by omega, ⟨by omega, by omega, blw_succ hP ?_⟩, i64_eq (wrap64 _ (by omega)), rfl, rfl, rfl, trivial⟩))
    | (refine run_need rfl ?_ ?_)
    | (refine run_ret rfl ?_ ; first | refine rb ?_ | refine ri ?_ | refine rs2 ?_ ?_ | refine rs1 ?_)
    | (refine run_retx rfl ?_))
  · exact fD (fun ⟨_, _, _, h, _⟩ => by have := h i (by omega) (by omega); unfold DepAt at this; omega)
  · exact fD (fun ⟨_, _, _, h, _⟩ => by have := h i (by omega) (by omega); unfold DepAt at this; omega)
  · exact fD (fun ⟨_, _, _, h, _⟩ => by have := h i (by omega) (by omega); unfold DepAt at this; omega)
  · exact fD (fun ⟨_, _, _, h, _⟩ => by have := h i (by omega) (by omega); unfold DepAt at this; omega)
  · unfold DepAt; omega
  · unfold DepAt; omega
  · exact tD ⟨q1, q2, hF, blw_to hP (by omega), by omega⟩


end V
end Go.Proofs.Ytgialjcichiaoaa

/-
Plain proofs: what the laws compare.
-/
namespace Go.Proofs.Ytgialjcichiaoaa
namespace V
open Classical
set_option maxRecDepth 100000
variable {W : Wld}

theorem luInts_ok (a b : List Int) (ha : a.length ≤ lim) : FunOk PP W n_l_luInts s_l_luInts [eIs a, eIs b] [bo (decide (a = b))] := by
  refine F_l_luInts (run_fun ?_)
  unfold lim at ha
  (repeat' first
    | (refine run_ite rfl (fun h => ?_) (fun h => ?_) <;> (try simp (disch := omega) only [z0, z1, z2, z3, z4, z5, z6, z7, z8, z9, z10, z11, z12, z13, z14, z15, z16, z17, z18, z19, z20, z21, z22, z23, z24, z25, eqDs, eqD, z28, z29, z30, z31, z32, z33, z34, z35, z36, z37, Nat.reduceAdd, z39, z40, z41, wrap64] at h) <;> (try (exfalso; omega)))
    | (refine run_need rfl (by (try simp (disch := omega) only [z0, z1, z2, z3, z4, z5, z6, z7, z8, z9, z10, z11, z12, z13, z14, z15, z16, z17, z18, z19, z20, z21, z22, z23, z24, z25, eqDs, eqD, z28, z29, z30, z31, z32, z33, z34, z35, z36, z37, Nat.reduceAdd, z39, z40, z41, wrap64]); first | exact elp_m (by omega) (by omega) (fun _ => rfl) | exact eld_m (by omega) (by omega) (fun _ => rfl) | exact els_m (by omega) (by omega) (by omega) rfl | exact lsl_m (by omega) (fun _ => rfl) | exact app_nil_m (by omega) (fun _ => rfl) (fun _ => rfl) | exact app_m_one (by omega) (fun _ => rfl) rfl rfl | exact app_m_m (by omega) (fun _ => rfl) (fun _ => rfl)) ?_)
    | (refine run_need rfl (by first | decide | omega | (simp only [List.length_map]; omega)) ?_)
    | (refine run_need rfl ?_ ?_)
    | (refine run_ret rfl ?_ ; first | refine rb ?_ | refine ri ?_ | refine rs2 ?_ ?_ | refine rs1 ?_)
    | (refine run_retx rfl ?_))
  · exact fD (fun h' => by simp_all)
  have hn : a.length = b.length := by omega
  clear h
  refine run_loop rfl (fun i : Int => 0 ≤ i ∧ i ≤ a.length ∧ Blw i (fun j => ix a j = ix b j)) (fun i => [(5, .val (i64 i)), (0, .val (eIs a)), (1, .val (eIs b))]) (fun i => (a.length - i).toNat) 0 ⟨by omega, by omega, blw_zero _⟩ ⟨rfl, rfl, rfl, trivial⟩ rfl ?_
  rintro i e ⟨h0, hN, hP⟩
  (repeat' first
    | (refine run_ite rfl (fun h => ?_) (fun h => ?_) <;> (try simp (disch := omega) only [z0, z1, z2, z3, z4, z5, z6, z7, z8, z9, z10, z11, z12, z13, z14, z15, z16, z17, z18, z19, z20, z21, z22, z23, z24, z25, eqDs, eqD, z28, z29, z30, z31, z32, z33, z34, z35, z36, z37, Nat.reduceAdd, z39, z40, z41, wrap64] at h) <;> (try (exfalso; omega)))
    | (refine run_need rfl (by (try simp (disch := omega) only [z0, z1, z2, z3, z4, z5, z6, z7, z8, z9, z10, z11, z12, z13, z14, z15, z16, z17, z18, z19, z20, z21, z22, z23, z24, z25, eqDs, eqD, z28, z29, z30, z31, z32, z33, z34, z35, z36, z37, Nat.reduceAdd, z39, z40, z41, wrap64]); first | exact elp_m (by omega) (by omega) (fun _ => rfl) | exact eld_m (by omega) (by omega) (fun _ => rfl) | exact els_m (by omega) (by omega) (by omega) rfl | exact lsl_m (by omega) (fun _ => rfl) | exact app_nil_m (by omega) (fun _ => rfl) (fun _ => rfl) | exact app_m_one (by omega) (fun _ => rfl) rfl rfl | exact app_m_m (by omega) (fun _ => rfl) (fun _ => rfl)) ?_)
    | (refine run_need rfl (by first | decide | omega | (simp only [List.length_map]; omega)) ?_)
    | (refine run_next rfl (Exists.intro (i + 1) ⟨by omega, ⟨by omega, by omega, blw_succ hP (by assumption)⟩, i64_eq (wrap64 _ (by omega)), rfl, rfl, trivial⟩))
    | (refine run_need rfl ?_ ?_)
    | (refine run_ret rfl ?_ ; first | refine rb ?_ | refine ri ?_ | refine rs2 ?_ ?_ | refine rs1 ?_)
    | (refine run_retx rfl ?_))
  · exact fD (fun h' => by subst h'; exact absurd rfl (by assumption))
  · exact tD (ix_ext hn (blw_to hP (by omega)))

theorem p2_ext {p q : P2} (h1 : p.a = q.a) (h2 : p.b = q.b) : p = q := by cases p; cases q; simp_all
theorem pk_ext {p q : Pk} (h1 : p.name = q.name) (h2 : p.ver = q.ver) (h3 : p.files = q.files) (h4 : p.deps = q.deps) : p = q := by cases p; cases q; simp_all

theorem luPkg_ok (p q : Pk) (hs : SmP p) : FunOk PP W n_l_luPkg s_l_luPkg [ePk p, ePk q] [bo (decide (p = q))] := by
  refine F_l_luPkg (run_fun ?_)
  obtain ⟨hs1, hs2⟩ := hs
  unfold lim at hs1 hs2
  (repeat' first
    | (refine run_ite rfl (fun h => ?_) (fun h => ?_) <;> (try simp (disch := omega) only [z0, z1, z2, z3, z4, z5, z6, z7, z8, z9, z10, z11, z12, z13, z14, z15, z16, z17, z18, z19, z20, z21, z22, z23, z24, z25, eqDs, eqD, z28, z29, z30, z31, z32, z33, z34, z35, z36, z37, Nat.reduceAdd, z39, z40, z41, wrap64] at h) <;> (try (exfalso; omega)))
    | (refine run_need rfl (by (try simp (disch := omega) only [z0, z1, z2, z3, z4, z5, z6, z7, z8, z9, z10, z11, z12, z13, z14, z15, z16, z17, z18, z19, z20, z21, z22, z23, z24, z25, eqDs, eqD, z28, z29, z30, z31, z32, z33, z34, z35, z36, z37, Nat.reduceAdd, z39, z40, z41, wrap64]); first | exact elp_m (by omega) (by omega) (fun _ => rfl) | exact eld_m (by omega) (by omega) (fun _ => rfl) | exact els_m (by omega) (by omega) (by omega) rfl | exact lsl_m (by omega) (fun _ => rfl) | exact app_nil_m (by omega) (fun _ => rfl) (fun _ => rfl) | exact app_m_one (by omega) (fun _ => rfl) rfl rfl | exact app_m_m (by omega) (fun _ => rfl) (fun _ => rfl)) ?_)
    | (refine run_need rfl (by first | decide | omega | (simp only [List.length_map]; omega)) ?_)
    | (refine run_need rfl ?_ ?_)
    | (refine run_ret rfl ?_ ; first | refine rb ?_ | refine ri ?_ | refine rs2 ?_ ?_ | refine rs1 ?_)
    | (refine run_retx rfl ?_))
  · exact fD (fun h' => by simp_all)
  · exact fD (fun h' => by simp_all)
  · exact fD (fun h' => by simp_all)
  · exact fD (fun h' => by simp_all)
  rename_i q1 q2 q3
  have q4 := h
  clear h
  refine run_loop rfl (fun i : Int => 0 ≤ i ∧ i ≤ p.files.length ∧ Blw i (fun j => ix p.files j = ix q.files j)) (fun i => [(5, .val (i64 i)), (2, .val (ePk p)), (3, .val (ePk q))]) (fun i => (p.files.length - i).toNat) 0 ⟨by omega, by omega, blw_zero _⟩ ⟨rfl, rfl, rfl, trivial⟩ rfl ?_
  rintro i e ⟨h0, hN, hP⟩
  (repeat' first
    | (refine run_ite rfl (fun h => ?_) (fun h => ?_) <;> (try simp (disch := omega) only [z0, z1, z2, z3, z4, z5, z6, z7, z8, z9, z10, z11, z12, z13, z14, z15, z16, z17, z18, z19, z20, z21, z22, z23, z24, z25, eqDs, eqD, z28, z29, z30, z31, z32, z33, z34, z35, z36, z37, Nat.reduceAdd, z39, z40, z41, wrap64] at h) <;> (try (exfalso; omega)))
    | (refine run_need rfl (by (try simp (disch := omega) only [z0, z1, z2, z3, z4, z5, z6, z7, z8, z9, z10, z11, z12, z13, z14, z15, z16, z17, z18, z19, z20, z21, z22, z23, z24, z25, eqDs, eqD, z28, z29, z30, z31, z32, z33, z34, z35, z36, z37, Nat.reduceAdd, z39, z40, z41, wrap64]); first | exact elp_m (by omega) (by omega) (fun _ => rfl) | exact eld_m (by omega) (by omega) (fun _ => rfl) | exact els_m (by omega) (by omega) (by omega) rfl | exact lsl_m (by omega) (fun _ => rfl) | exact app_nil_m (by omega) (fun _ => rfl) (fun _ => rfl) | exact app_m_one (by omega) (fun _ => rfl) rfl rfl | exact app_m_m (by omega) (fun _ => rfl) (fun _ => rfl)) ?_)
    | (refine run_need rfl (by first | decide | omega | (simp only [List.length_map]; omega)) ?_)
    | (refine run_next rfl (Exists.intro (i + 1) ⟨by omega, ⟨by omega, by omega, blw_succ hP ?_⟩, i64_eq (wrap64 _ (by omega)), rfl, rfl, trivial⟩))
    | (refine run_need rfl ?_ ?_)
    | (refine run_ret rfl ?_ ; first | refine rb ?_ | refine ri ?_ | refine rs2 ?_ ?_ | refine rs1 ?_)
    | (refine run_retx rfl ?_))
  · exact fD (fun h' => by subst h'; exact h rfl rfl)
  · exact p2_ext h.1 h.2
  have q5 : p.files = q.files := ix_ext (by omega) (blw_to hP (by omega))
  clear hP h0 hN h
  refine run_loop rfl (fun i : Int => 0 ≤ i ∧ i ≤ p.deps.length ∧ Blw i (fun j => ix p.deps j = ix q.deps j)) (fun i => [(6, .val (i64 i)), (2, .val (ePk p)), (3, .val (ePk q))]) (fun i => (p.deps.length - i).toNat) 0 ⟨by omega, by omega, blw_zero _⟩ ⟨rfl, rfl, rfl, trivial⟩ rfl ?_
  rintro i e ⟨h0, hN, hP⟩
  (repeat' first
    | (refine run_ite rfl (fun h => ?_) (fun h => ?_) <;> (try simp (disch := omega) only [z0, z1, z2, z3, z4, z5, z6, z7, z8, z9, z10, z11, z12, z13, z14, z15, z16, z17, z18, z19, z20, z21, z22, z23, z24, z25, eqDs, eqD, z28, z29, z30, z31, z32, z33, z34, z35, z36, z37, Nat.reduceAdd, z39, z40, z41, wrap64] at h) <;> (try (exfalso; omega)))
    | (refine run_need rfl (by (try simp (disch := omega) only [z0, z1, z2, z3, z4, z5, z6, z7, z8, z9, z10, z11, z12, z13, z14, z15, z16, z17, z18, z19, z20, z21, z22, z23, z24, z25, eqDs, eqD, z28, z29, z30, z31, z32, z33, z34, z35, z36, z37, Nat.reduceAdd, z39, z40, z41, wrap64]); first | exact elp_m (by omega) (by omega) (fun _ => rfl) | exact eld_m (by omega) (by omega) (fun _ => rfl) | exact els_m (by omega) (by omega) (by omega) rfl | exact lsl_m (by omega) (fun _ => rfl) | exact app_nil_m (by omega) (fun _ => rfl) (fun _ => rfl) | exact app_m_one (by omega) (fun _ => rfl) rfl rfl | exact app_m_m (by omega) (fun _ => rfl) (fun _ => rfl)) ?_)
    | (refine run_need rfl (by first | decide | omega | (simp only [List.length_map]; omega)) ?_)
    | (refine run_next rfl (Exists.intro (i + 1) ⟨by omega, ⟨by omega, by omega, blw_succ hP ?_⟩, i64_eq (wrap64 _ (by omega)), rfl, rfl, trivial⟩))
    | (refine run_need rfl ?_ ?_)
    | (refine run_ret rfl ?_ ; first | refine rb ?_ | refine ri ?_ | refine rs2 ?_ ?_ | refine rs1 ?_)
    | (refine run_retx rfl ?_))
  · exact fD (fun h' => by subst h'; exact h rfl rfl)
  · exact p2_ext h.1 h.2
  · exact tD (pk_ext q1 q2 q5 (ix_ext (by omega) (blw_to hP (by omega))))

theorem luPkgs_ok (a b : List Pk) (ha : SmPs a) : FunOk PP W n_l_luPkgs s_l_luPkgs [ePks a, ePks b] [bo (decide (a = b))] := by
  refine F_l_luPkgs (run_fun ?_)
  have hl := ha.1
  unfold lim at hl
  (repeat' first
    | (refine run_ite rfl (fun h => ?_) (fun h => ?_) <;> (try simp (disch := omega) only [z0, z1, z2, z3, z4, z5, z6, z7, z8, z9, z10, z11, z12, z13, z14, z15, z16, z17, z18, z19, z20, z21, z22, z23, z24, z25, eqDs, eqD, z28, z29, z30, z31, z32, z33, z34, z35, z36, z37, Nat.reduceAdd, z39, z40, z41, wrap64] at h) <;> (try (exfalso; omega)))
    | (refine run_need rfl (by (try simp (disch := omega) only [z0, z1, z2, z3, z4, z5, z6, z7, z8, z9, z10, z11, z12, z13, z14, z15, z16, z17, z18, z19, z20, z21, z22, z23, z24, z25, eqDs, eqD, z28, z29, z30, z31, z32, z33, z34, z35, z36, z37, Nat.reduceAdd, z39, z40, z41, wrap64]); first | exact elp_m (by omega) (by omega) (fun _ => rfl) | exact eld_m (by omega) (by omega) (fun _ => rfl) | exact els_m (by omega) (by omega) (by omega) rfl | exact lsl_m (by omega) (fun _ => rfl) | exact app_nil_m (by omega) (fun _ => rfl) (fun _ => rfl) | exact app_m_one (by omega) (fun _ => rfl) rfl rfl | exact app_m_m (by omega) (fun _ => rfl) (fun _ => rfl)) ?_)
    | (refine run_need rfl (by first | decide | omega | (simp only [List.length_map]; omega)) ?_)
    | (refine run_need rfl ?_ ?_)
    | (refine run_ret rfl ?_ ; first | refine rb ?_ | refine ri ?_ | refine rs2 ?_ ?_ | refine rs1 ?_)
    | (refine run_retx rfl ?_))
  · exact fD (fun h' => by simp_all)
  have hn : a.length = b.length := by omega
  clear h
  refine run_loop rfl (fun i : Int => 0 ≤ i ∧ i ≤ a.length ∧ Blw i (fun j => ix a j = ix b j)) (fun i => [(5, .val (i64 i)), (0, .val (ePks a)), (1, .val (ePks b))]) (fun i => (a.length - i).toNat) 0 ⟨by omega, by omega, blw_zero _⟩ ⟨rfl, rfl, rfl, trivial⟩ rfl ?_
  rintro i e ⟨h0, hN, hP⟩
  (repeat' first
    | (refine run_ite rfl (fun h => ?_) (fun h => ?_) <;> (try simp (disch := omega) only [z0, z1, z2, z3, z4, z5, z6, z7, z8, z9, z10, z11, z12, z13, z14, z15, z16, z17, z18, z19, z20, z21, z22, z23, z24, z25, eqDs, eqD, z28, z29, z30, z31, z32, z33, z34, z35, z36, z37, Nat.reduceAdd, z39, z40, z41, wrap64] at h) <;> (try (exfalso; omega)))
    | (refine run_need rfl (by (try simp (disch := omega) only [z0, z1, z2, z3, z4, z5, z6, z7, z8, z9, z10, z11, z12, z13, z14, z15, z16, z17, z18, z19, z20, z21, z22, z23, z24, z25, eqDs, eqD, z28, z29, z30, z31, z32, z33, z34, z35, z36, z37, Nat.reduceAdd, z39, z40, z41, wrap64]); first | exact elp_m (by omega) (by omega) (fun _ => rfl) | exact eld_m (by omega) (by omega) (fun _ => rfl) | exact els_m (by omega) (by omega) (by omega) rfl | exact lsl_m (by omega) (fun _ => rfl) | exact app_nil_m (by omega) (fun _ => rfl) (fun _ => rfl) | exact app_m_one (by omega) (fun _ => rfl) rfl rfl | exact app_m_m (by omega) (fun _ => rfl) (fun _ => rfl)) ?_)
    | (refine run_need rfl (by first | decide | omega | (simp only [List.length_map]; omega)) ?_)
    | (refine run_calleq rfl (luPkg_ok (ix a i) (ix b i) (smPs_ix ha (by omega) (by omega))) (by simp (disch := omega) only [z0, z1, z2, z3, z4, z5, z6, z7, z8, z9, z10, z11, z12, z13, z14, z15, z16, z17, z18, z19, z20, z21, z22, z23, z24, z25, eqDs, eqD, z28, z29, z30, z31, z32, z33, z34, z35, z36, z37, Nat.reduceAdd, z39, z40, z41, wrap64]) rfl ?_)
    | (refine run_next rfl (Exists.intro (i + 1) ⟨by omega, ⟨by omega, by omega, blw_succ hP (by assumption)⟩, i64_eq (wrap64 _ (by omega)), rfl, rfl, trivial⟩))
    | (refine run_need rfl ?_ ?_)
    | (refine run_ret rfl ?_ ; first | refine rb ?_ | refine ri ?_ | refine rs2 ?_ ?_ | refine rs1 ?_)
    | (refine run_retx rfl ?_))
  · exact fD (fun h' => by subst h'; exact absurd rfl (by assumption))
  · exact tD (ix_ext hn (blw_to hP (by omega)))

theorem dk_ext {p q : Dk} (h1 : p.db = q.db) (h2 : p.files = q.files) (h3 : p.has = q.has) (h4 : p.jour = q.jour) : p = q := by cases p; cases q; simp_all
theorem luDisk_ok (p q : Dk) (hs : SmD p) : FunOk PP W n_l_luDisk s_l_luDisk [eDk p, eDk q] [bo (decide (p = q))] := by
  refine F_l_luDisk (run_fun ?_)
  obtain ⟨h1, h2, h3⟩ := hs
  (repeat' first
    | (refine run_ite rfl (fun h => ?_) (fun h => ?_) <;> (try simp (disch := omega) only [z0, z1, z2, z3, z4, z5, z6, z7, z8, z9, z10, z11, z12, z13, z14, z15, z16, z17, z18, z19, z20, z21, z22, z23, z24, z25, eqDs, eqD, z28, z29, z30, z31, z32, z33, z34, z35, z36, z37, Nat.reduceAdd, z39, z40, z41, wrap64] at h) <;> (try (exfalso; omega)))
    | (refine run_need rfl (by (try simp (disch := omega) only [z0, z1, z2, z3, z4, z5, z6, z7, z8, z9, z10, z11, z12, z13, z14, z15, z16, z17, z18, z19, z20, z21, z22, z23, z24, z25, eqDs, eqD, z28, z29, z30, z31, z32, z33, z34, z35, z36, z37, Nat.reduceAdd, z39, z40, z41, wrap64]); first | exact elp_m (by omega) (by omega) (fun _ => rfl) | exact eld_m (by omega) (by omega) (fun _ => rfl) | exact els_m (by omega) (by omega) (by omega) rfl | exact lsl_m (by omega) (fun _ => rfl) | exact app_nil_m (by omega) (fun _ => rfl) (fun _ => rfl) | exact app_m_one (by omega) (fun _ => rfl) rfl rfl | exact app_m_m (by omega) (fun _ => rfl) (fun _ => rfl)) ?_)
    | (refine run_need rfl (by first | decide | omega | (simp only [List.length_map]; omega)) ?_)
    | (refine run_call1 rfl (luPkgs_ok p.db q.db h1) rfl ?_)
    | (refine run_call1 rfl (luPkgs_ok p.jour q.jour h3) rfl ?_)
    | (refine run_call1 rfl (luInts_ok p.files q.files h2) rfl ?_)
    | (refine run_need rfl ?_ ?_)
    | (refine run_ret rfl ?_ ; first | refine rb ?_ | refine ri ?_ | refine rs2 ?_ ?_ | refine rs1 ?_)
    | (refine run_retx rfl ?_))
  · congr 1
    exact propext ⟨fun h => dk_ext (by assumption) (by assumption) (by assumption) h, fun h => by rw [h]⟩
  · exact fD (fun h' => by subst h'; exact absurd rfl (by assumption))
  · exact fD (fun h' => by subst h'; exact absurd rfl (by assumption))
  · exact fD (fun h' => by subst h'; exact absurd rfl (by assumption))
end V
end Go.Proofs.Ytgialjcichiaoaa

