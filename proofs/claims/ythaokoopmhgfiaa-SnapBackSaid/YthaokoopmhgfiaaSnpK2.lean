import Derived.Test.YthaokoopmhgfiaaSnpD
set_option linter.unusedVariables false
set_option linter.unusedSimpArgs false
set_option linter.defProp false
noncomputable section
namespace Go.Proofs.Ythaokoopmhgfiaa
open Go.Sym Go.Abu Go.Pev
noncomputable def k14_1 : K :=
(.lt .len [.x 0] <|
        (.lt (.bin .lss) [.x 36, .x 37] <|
        (.br (.x 38)
         (.lt (.bs 1 [(.v (.int .u8 0))] [0]) [.c (.v (.int .u8 1))] <|
         (.lt (.bin .add) [.x 36, .c (.v (.int .i64 8))] <|
         (.lt .len [.x 0] <|
         (.lt .bnd [.x 40, .x 41] <|
         (.lt .bnd [.x 36, .x 42] <|
         (.lt (.tsub 1) [.x 0, .x 43, .x 42] <|
         (.lt (.app 1 1) [.x 39, .c (.v (.int .i64 1)), .x 44] <|
         (.lt .len [.x 45] <|
         (.lt .sub [.x 45, .c (.v (.int .i64 0)), .x 46] <|
         (.call 27 [.x 47] <|
         (.lt (.shape 7) [.x 48] <|
         (.lt (.bin .neq) [.x 50, .c (.v (.int .i64 0))] <|
         (.br (.x 52)
          (.lt .agg [.c (.v (.int .u8 0)), .c (.v (.int .i64 0)), .c (.v (.int .i64 0)), .c (.sl [])] <|
          (.lt .tree [.x 53] <|
          (.lt .tree [.c (.v (.int .i64 12))] <|
          (.ret [.x 54, .x 55]))))
          (.lt (.part 1 3) [.x 51] <|
          (.lt (.bs 1 [(.v (.int .i64 0)), (.v (.int .i64 0)), (.v (.int .i64 0))] [0]) [.x 53] <|
          (.lt .sub [.x 54, .c (.v (.int .i64 0)), .c (.v (.int .i64 1))] <|
          (.lt (.app 24 3) [.x 34, .x 35, .x 55] <|
          (.lt .len [.x 56] <|
          (.lt (.bin .add) [.x 36, .c (.v (.int .i64 8))] <|
          (.jmp 1 [.x 56, .x 57, .x 58]))))))))))))))))))))
         (.jmp 0 [.x 34, .x 35]))))
noncomputable def k14_2 : K :=
(.lt (.part 0 2) [.x 33] <|
       (.lt .sub [.x 34, .c (.v (.int .i64 0)), .x 35] <|
       (.lt .agg [.x 32, .x 36, .x 37] <|
       (.call 9 [.x 38] <|
       (.lt (.bin .neq) [.x 39, .c (.v (.int .i64 0))] <|
       (.br (.x 40)
        (.lt .agg [.c (.v (.int .u8 0)), .c (.v (.int .i64 0)), .c (.v (.int .i64 0)), .c (.sl [])] <|
        (.lt .tree [.x 41] <|
        (.lt .tree [.c (.v (.int .i64 12))] <|
        (.ret [.x 42, .x 43]))))
        (.lt (.part 0 2) [.x 33] <|
        (.lt .sub [.x 34, .c (.v (.int .i64 0)), .x 35] <|
        (.lt .agg [.x 32, .x 41, .x 42] <|
        (.lt .tree [.x 43] <|
        (.lt .tree [.c (.v (.int .i64 0))] <|
        (.ret [.x 44, .x 45]))))))))))))
noncomputable def k14 : K :=
(.lt .len [.x 0] <|
(.lt (.bin .gtr) [.x 1, .c (.v (.int .i64 522))] <|
(.br (.x 2)
 (.lt .agg [.c (.v (.int .u8 0)), .c (.v (.int .i64 0)), .c (.v (.int .i64 0)), .c (.sl [])] <|
 (.lt .tree [.x 3] <|
 (.lt .tree [.c (.v (.int .i64 4))] <|
 (.ret [.x 4, .x 5]))))
 (.lt .len [.x 0] <|
 (.lt (.bin .lss) [.x 3, .c (.v (.int .i64 10))] <|
 (.br (.x 4)
  (.lt .agg [.c (.v (.int .u8 0)), .c (.v (.int .i64 0)), .c (.v (.int .i64 0)), .c (.sl [])] <|
  (.lt .tree [.x 5] <|
  (.lt .tree [.c (.v (.int .i64 12))] <|
  (.ret [.x 6, .x 7]))))
  (.lt (.tix 1) [.x 0, .c (.v (.int .i64 0))] <|
  (.lt (.elt 0 0) [.x 0, .x 5] <|
  (.lt (.bin .neq) [.x 6, .c (.v (.int .u8 80))] <|
  (.br (.x 7)
   (.lt .agg [.c (.v (.int .u8 0)), .c (.v (.int .i64 0)), .c (.v (.int .i64 0)), .c (.sl [])] <|
   (.lt .tree [.x 8] <|
   (.lt .tree [.c (.v (.int .i64 12))] <|
   (.ret [.x 9, .x 10]))))
   (.lt (.tix 1) [.x 0, .c (.v (.int .i64 1))] <|
   (.lt (.elt 0 0) [.x 0, .x 8] <|
   (.lt (.bin .neq) [.x 9, .c (.v (.int .u8 75))] <|
   (.br (.x 10)
    (.lt .agg [.c (.v (.int .u8 0)), .c (.v (.int .i64 0)), .c (.v (.int .i64 0)), .c (.sl [])] <|
    (.lt .tree [.x 11] <|
    (.lt .tree [.c (.v (.int .i64 12))] <|
    (.ret [.x 12, .x 13]))))
    (.lt .len [.x 0] <|
    (.lt (.tix 1) [.x 0, .c (.v (.int .i64 9))] <|
    (.lt (.elt 0 0) [.x 0, .x 12] <|
    (.lt (.conv .i64) [.x 13] <|
    (.lt (.bin .mul) [.c (.v (.int .i64 8)), .x 14] <|
    (.lt (.bin .add) [.c (.v (.int .i64 10)), .x 15] <|
    (.lt (.bin .neq) [.x 11, .x 16] <|
    (.br (.x 17)
     (.lt .agg [.c (.v (.int .u8 0)), .c (.v (.int .i64 0)), .c (.v (.int .i64 0)), .c (.sl [])] <|
     (.lt .tree [.x 18] <|
     (.lt .tree [.c (.v (.int .i64 12))] <|
     (.ret [.x 19, .x 20]))))
     (.lt (.bs 1 [(.v (.int .u8 0))] [0]) [.c (.v (.int .u8 4))] <|
     (.lt .len [.x 0] <|
     (.lt .bnd [.c (.v (.int .i64 9)), .x 19] <|
     (.lt .bnd [.c (.v (.int .i64 3)), .x 20] <|
     (.lt (.tsub 1) [.x 0, .x 21, .x 20] <|
     (.lt (.app 1 1) [.x 18, .c (.v (.int .i64 1)), .x 22] <|
     (.lt .len [.x 23] <|
     (.lt .sub [.x 23, .c (.v (.int .i64 0)), .x 24] <|
     (.call 27 [.x 25] <|
     (.lt (.shape 7) [.x 26] <|
     (.lt (.bin .neq) [.x 28, .c (.v (.int .i64 0))] <|
     (.br (.x 30)
      (.lt .agg [.c (.v (.int .u8 0)), .c (.v (.int .i64 0)), .c (.v (.int .i64 0)), .c (.sl [])] <|
      (.lt .tree [.x 31] <|
      (.lt .tree [.c (.v (.int .i64 12))] <|
      (.ret [.x 32, .x 33]))))
      (.lt (.tix 1) [.x 0, .c (.v (.int .i64 2))] <|
      (.lt (.elt 0 0) [.x 0, .x 31] <|
      (.lt (.part 5 2) [.x 29] <|
      (.jp k14_2
       (.loop k14_1
        (.jmp 1 [.c (.sl []), .c (.v (.int .i64 0)), .c (.v (.int .i64 10))]))))))))))))))))))))))))))))))))))))))))
noncomputable def h14 : List Hint := [.no, .no, .no, .no, (.j ⟨2, [(7, (.w (.c (.ptr 0 0)))), (3, (.w (.c (.a (.c (.v (.int .i64 0))))))), (2, (.w (.c (.ptr 2 0))))], [(0, (.box [(.a (.x 32)), (.pc (.x 33) 0), (.pc (.x 33) 1), (.lsl 1 (.c (.v (.int .i64 0))) (.x 35))] 4 false)), (1, (.lst (.x 34) 55 3 false)), (2, (.box [(.a (.c (.v (.int .u8 0)))), (.a (.c (.v (.int .i64 0)))), (.a (.c (.v (.int .i64 0)))), .nil] 4 false))], 3, [], [], [2, 0]⟩), (.j ⟨3, [(0, (.w (.c (.a (.x 0))))), (2, (.w (.c (.ptr 0 0)))), (3, (.w (.c (.a (.c (.v (.int .i64 0))))))), (7, (.w (.c (.ptr 1 0)))), (8, (.w (.c (.a (.x 36)))))], [(0, (.box [(.a (.c (.v (.int .u8 0)))), (.a (.c (.v (.int .i64 0)))), (.a (.c (.v (.int .i64 0)))), .nil] 4 false)), (1, (.box [(.a (.x 32)), (.pc (.x 33) 0), (.pc (.x 33) 1), (.lsl 2 (.c (.v (.int .i64 0))) (.x 35))] 4 false)), (2, (.lst (.x 34) 55 3 false))], 3, [], [], [1, 0]⟩), .no, .no, .no, .no]
theorem k14_ok : symF D 100000 14 h14 = some k14 := by kernel_rfl
theorem s14 : shs D 14 = some [.c] := by kernel_rfl
noncomputable def k15 : K :=
(.lt (.bin .lss) [.x 0, .c (.v (.int .i64 0))] <|
(.br (.x 1)
 (.lt .flat [.c (.v (.int .i64 0))] <|
 (.lt .flat [.c (.v (.int .i64 2))] <|
 (.ret [.x 2, .x 3])))
 (.lt (.bin .gtr) [.x 0, .c (.v (.int .i64 64))] <|
 (.br (.x 2)
  (.lt .flat [.c (.v (.int .i64 0))] <|
  (.lt .flat [.c (.v (.int .i64 2))] <|
  (.ret [.x 3, .x 4])))
  (.lt (.bin .mul) [.c (.v (.int .i64 8)), .x 0] <|
  (.lt (.bin .add) [.c (.v (.int .i64 10)), .x 3] <|
  (.lt .flat [.x 4] <|
  (.lt .flat [.c (.v (.int .i64 0))] <|
  (.ret [.x 5, .x 6])))))))))
noncomputable def h15 : List Hint := [.no, .no]
theorem k15_ok : symF D 100000 15 h15 = some k15 := by kernel_rfl
theorem s15 : shs D 15 = some [.c] := by kernel_rfl
noncomputable def k16 : K :=
(.lt (.bin .lss) [.x 0, .c (.v (.int .i64 0))] <|
(.br (.x 1)
 (.lt .flat [.c (.v (.int .i64 0))] <|
 (.lt .flat [.c (.v (.int .i64 2))] <|
 (.ret [.x 2, .x 3])))
 (.lt (.bin .gtr) [.x 0, .c (.v (.int .i64 64))] <|
 (.br (.x 2)
  (.lt .flat [.c (.v (.int .i64 0))] <|
  (.lt .flat [.c (.v (.int .i64 2))] <|
  (.ret [.x 3, .x 4])))
  (.lt (.bin .mul) [.c (.v (.int .i64 8)), .x 0] <|
  (.lt (.bin .add) [.c (.v (.int .i64 10)), .x 3] <|
  (.lt .flat [.x 4] <|
  (.lt .flat [.c (.v (.int .i64 0))] <|
  (.ret [.x 5, .x 6])))))))))
noncomputable def h16 : List Hint := [.no, .no]
theorem k16_ok : symF D 100000 16 h16 = some k16 := by kernel_rfl
theorem s16 : shs D 16 = some [.c] := by kernel_rfl
noncomputable def k17 : K :=
(.lt (.shape 4) [.x 0] <|
(.lt (.cell 0) [.x 1] <|
(.lt (.bin .lss) [.x 2, .c (.v (.int .u8 1))] <|
(.br (.x 3)
 (.lt .flat [.c (.v (.int .i64 8))] <|
 (.ret [.x 4]))
 (.lt (.cell 0) [.x 1] <|
 (.lt (.bin .gtr) [.x 4, .c (.v (.int .u8 4))] <|
 (.br (.x 5)
  (.lt .flat [.c (.v (.int .i64 8))] <|
  (.ret [.x 6]))
  (.lt (.part 1 3) [.x 1] <|
  (.call 28 [.x 6] <|
  (.lt .flat [.x 7] <|
  (.ret [.x 8])))))))))))
noncomputable def h17 : List Hint := [.no, .no]
theorem k17_ok : symF D 100000 17 h17 = some k17 := by kernel_rfl
theorem s17 : shs D 17 = some [.g] := by kernel_rfl
noncomputable def k18 : K :=
(.lt .agg [.x 0, .c (.v (.int .i64 1))] <|
(.lt .flat [.x 1] <|
(.ret [.x 2])))
noncomputable def h18 : List Hint := []
theorem k18_ok : symF D 100000 18 h18 = some k18 := by kernel_rfl
theorem s18 : shs D 18 = some [.c] := by kernel_rfl
noncomputable def k19_1 : K :=
(.lt .flat [.x 8] <|
 (.ret [.x 9]))
noncomputable def k19 : K :=
(.lt (.shape 4) [.x 0] <|
(.call 8 [.x 2] <|
(.call 13 [.x 1] <|
(.lt (.shape 4) [.x 5] <|
(.jp k19_1
 (.lt (.bin .eql) [.x 4, .c (.v (.int .i64 0))] <|
 (.br (.x 8)
  (.lt .b2s [.x 3] <|
  (.lt .b2s [.x 1] <|
  (.lt (.bin .eql) [.x 9, .x 10] <|
  (.br (.x 11)
   (.lt (.bin .eql) [.x 6, .c (.v (.int .i64 0))] <|
   (.br (.x 12)
    (.call 10 [.x 2, .x 7] <|
    (.jmp 0 [.x 13]))
    (.jmp 0 [.c (.v (.bool false))])))
   (.jmp 0 [.c (.v (.bool false))])))))
  (.jmp 0 [.c (.v (.bool false))]))))))))
noncomputable def h19 : List Hint := [(.j ⟨1, [(4, (.w (.c (.a (.x 8)))))], [], 0, [], [], []⟩)]
theorem k19_ok : symF D 100000 19 h19 = some k19 := by kernel_rfl
theorem s19 : shs D 19 = some [.g, .c] := by kernel_rfl
noncomputable def k20_1 : K :=
(.lt (.bin .geq) [.x 7, .c (.v (.int .i64 0))] <|
  (.br (.x 8)
   (.lt (.bin .mul) [.c (.v (.int .i64 8)), .x 7] <|
   (.lt (.bin .shr) [.x 1, .x 9] <|
   (.lt (.conv .u8) [.x 10] <|
   (.lt (.bs 1 [(.v (.int .u8 0))] [0]) [.x 11] <|
   (.lt .sub [.x 12, .c (.v (.int .i64 0)), .c (.v (.int .i64 1))] <|
   (.lt (.app 1 1) [.x 5, .x 6, .x 13] <|
   (.lt .len [.x 14] <|
   (.lt (.bin .sub) [.x 7, .c (.v (.int .i64 1))] <|
   (.jmp 1 [.x 14, .x 15, .x 16])))))))))
   (.jmp 0 [.x 5, .x 6])))
noncomputable def k20_2 : K :=
(.lt .sub [.x 5, .c (.v (.int .i64 0)), .x 6] <|
 (.lt .tree [.x 7] <|
 (.ret [.x 8])))
noncomputable def k20 : K :=
(.lt .len [.x 0] <|
(.lt (.bin .sub) [.x 2, .c (.v (.int .i64 1))] <|
(.jp k20_2
 (.loop k20_1
  (.jmp 1 [.x 0, .x 3, .x 4])))))
noncomputable def h20 : List Hint := [(.j ⟨2, [(6, (.w (.c .nil))), (0, (.w (.c (.lsl 0 (.c (.v (.int .i64 0))) (.x 6)))))], [(0, (.lst (.x 5) 5 1 false))], 1, [], [(0, [0])], [0]⟩), (.j ⟨3, [(1, (.w (.c (.a (.x 1))))), (0, (.w (.c (.lsl 0 (.c (.v (.int .i64 0))) (.x 6))))), (6, (.w (.c .nil))), (7, (.w (.c (.a (.x 7)))))], [(0, (.lst (.x 5) 5 1 false))], 1, [], [(0, [0])], [0]⟩), .no, .no]
theorem k20_ok : symF D 100000 20 h20 = some k20 := by kernel_rfl
theorem s20 : shs D 20 = some [.c, .c, .c] := by kernel_rfl
noncomputable def k21 : K :=
(.lt (.shape 3) [.x 0] <|
(.lt (.part 0 2) [.x 1] <|
(.call 29 [.x 2] <|
(.lt (.bin .neq) [.x 3, .c (.v (.int .i64 0))] <|
(.br (.x 4)
 (.lt .flat [.c (.v (.int .i64 8))] <|
 (.ret [.x 5]))
 (.lt (.part 2 1) [.x 1] <|
 (.call 30 [.x 5] <|
 (.lt (.bin .neq) [.x 6, .c (.v (.int .i64 0))] <|
 (.br (.x 7)
  (.lt .flat [.c (.v (.int .i64 8))] <|
  (.ret [.x 8]))
  (.lt .flat [.c (.v (.int .i64 0))] <|
  (.ret [.x 8])))))))))))
noncomputable def h21 : List Hint := [.no, .no]
theorem k21_ok : symF D 100000 21 h21 = some k21 := by kernel_rfl
theorem s21 : shs D 21 = some [.g] := by kernel_rfl
noncomputable def k22_1 : K :=
(.lt .flat [.x 4] <|
 (.ret [.x 5]))
noncomputable def k22 : K :=
(.lt (.shape 3) [.x 0] <|
(.lt (.shape 3) [.x 1] <|
(.jp k22_1
 (.lt (.part 0 2) [.x 2] <|
 (.lt (.part 0 2) [.x 3] <|
 (.lt (.eqv [.i, .i]) [.x 4, .x 5] <|
 (.br (.x 6)
  (.lt (.part 2 1) [.x 2] <|
  (.lt (.part 2 1) [.x 3] <|
  (.call 31 [.x 7, .x 8] <|
  (.jmp 0 [.x 9]))))
  (.jmp 0 [.c (.v (.bool false))]))))))))
noncomputable def h22 : List Hint := [(.j ⟨1, [(4, (.w (.c (.a (.x 4)))))], [], 0, [], [], []⟩)]
theorem k22_ok : symF D 100000 22 h22 = some k22 := by kernel_rfl
theorem s22 : shs D 22 = some [.g, .g] := by kernel_rfl
noncomputable def k23 : K :=
(.lt (.shape 3) [.x 0] <|
(.lt (.part 0 2) [.x 1] <|
(.lt (.part 2 1) [.x 1] <|
(.call 32 [.x 3] <|
(.lt (.shape 1) [.x 4] <|
(.lt (.cell 0) [.x 5] <|
(.lt .len [.x 6] <|
(.lt (.part 0 2) [.x 2] <|
(.lt .sub [.x 6, .c (.v (.int .i64 0)), .x 7] <|
(.lt .agg [.x 8, .x 9] <|
(.lt .tree [.x 10] <|
(.ret [.x 11]))))))))))))
noncomputable def h23 : List Hint := []
theorem k23_ok : symF D 100000 23 h23 = some k23 := by kernel_rfl
theorem s23 : shs D 23 = some [.g] := by kernel_rfl
noncomputable def k24_1 : K :=
(.lt (.cell 3) [.x 1] <|
  (.lt .len [.x 25] <|
  (.lt (.bin .lss) [.x 24, .x 26] <|
  (.br (.x 27)
   (.lt (.cell 3) [.x 1] <|
   (.lt (.tix 3) [.x 28, .x 24] <|
   (.lt (.elt 0 3) [.x 28, .x 29] <|
   (.lt (.part 0 3) [.x 30] <|
   (.lt .agg [.c (.v (.int .u8 1)), .x 31, .c (.v (.int .i64 0)), .c (.v (.int .i64 0)), .c (.v (.int .i64 0))] <|
   (.call 33 [.x 32] <|
   (.lt .len [.x 33] <|
   (.lt .bnd [.c (.v (.int .i64 1)), .x 34] <|
   (.lt .sum [.c (.v (.int .i64 0)), .x 35] <|
   (.lt .dif [.x 34, .x 35] <|
   (.lt .sub [.x 33, .x 36, .x 37] <|
   (.lt (.app 1 1) [.x 22, .x 23, .x 38] <|
   (.lt .len [.x 39] <|
   (.lt (.bin .add) [.x 24, .c (.v (.int .i64 1))] <|
   (.jmp 1 [.x 39, .x 40, .x 41])))))))))))))))
   (.jmp 0 [.x 22, .x 23])))))
noncomputable def k24_2 : K :=
(.lt .sub [.x 22, .c (.v (.int .i64 0)), .x 23] <|
 (.lt .tree [.x 24] <|
 (.ret [.x 25])))
noncomputable def k24 : K :=
(.lt (.shape 4) [.x 0] <|
(.lt (.cell 0) [.x 1] <|
(.lt (.bs 3 [(.v (.int .u8 0))] [0, 1, 2]) [.c (.v (.int .u8 80)), .c (.v (.int .u8 75)), .x 2] <|
(.lt (.part 1 2) [.x 1] <|
(.lt (.part 0 2) [.x 4] <|
(.lt .agg [.c (.v (.int .u8 4)), .c (.v (.int .i64 0)), .c (.v (.int .i64 0)), .c (.v (.int .i64 0)), .c (.v (.int .i64 0)), .x 5] <|
(.call 33 [.x 6] <|
(.lt .len [.x 7] <|
(.lt .bnd [.c (.v (.int .i64 1)), .x 8] <|
(.lt .sum [.c (.v (.int .i64 0)), .x 9] <|
(.lt .dif [.x 8, .x 9] <|
(.lt .sub [.x 7, .x 10, .x 11] <|
(.lt (.app 1 1) [.x 3, .c (.v (.int .i64 3)), .x 12] <|
(.lt .len [.x 13] <|
(.lt (.cell 3) [.x 1] <|
(.lt .len [.x 15] <|
(.lt (.conv .u8) [.x 16] <|
(.lt (.bs 1 [(.v (.int .u8 0))] [0]) [.x 17] <|
(.lt .sub [.x 18, .c (.v (.int .i64 0)), .c (.v (.int .i64 1))] <|
(.lt (.app 1 1) [.x 13, .x 14, .x 19] <|
(.lt .len [.x 20] <|
(.jp k24_2
 (.loop k24_1
  (.jmp 1 [.x 20, .x 21, .c (.v (.int .i64 0))]))))))))))))))))))))))))
noncomputable def h24 : List Hint := [(.j ⟨2, [(3, (.w (.c (.lsl 0 (.c (.v (.int .i64 0))) (.x 23))))), (2, (.w (.c .nil)))], [(0, (.lst (.x 22) 5 1 false))], 1, [], [], [0]⟩), (.j ⟨3, [(1, (.w (.c (.ptr 0 0)))), (2, (.w (.c .nil))), (3, (.w (.c (.lsl 1 (.c (.v (.int .i64 0))) (.x 23))))), (4, (.w (.c (.a (.x 24)))))], [(0, (.box [(.pc (.x 1) 0), (.pc (.x 1) 1), (.pc (.x 1) 2), (.pc (.x 1) 3)] 4 false)), (1, (.lst (.x 22) 5 1 false))], 2, [], [], [1, 0]⟩), .no, .no]
theorem k24_ok : symF D 100000 24 h24 = some k24 := by kernel_rfl
theorem s24 : shs D 24 = some [.g] := by kernel_rfl
noncomputable def k25_1 : K :=
(.lt (.bin .lss) [.x 7, .x 5] <|
  (.br (.x 8)
   (.lt (.tix 1) [.x 4, .x 7] <|
   (.lt (.elt 0 0) [.x 4, .x 9] <|
   (.lt (.bin .shl) [.x 6, .c (.v (.int .u64 8))] <|
   (.lt (.conv .i64) [.x 10] <|
   (.lt (.bin .or) [.x 11, .x 12] <|
   (.lt (.bin .add) [.x 7, .c (.v (.int .i64 1))] <|
   (.jmp 1 [.x 13, .x 14])))))))
   (.jmp 0 [.x 6])))
noncomputable def k25_2 : K :=
(.lt .len [.x 0] <|
 (.lt .bnd [.x 1, .x 7] <|
 (.lt (.tsub 1) [.x 0, .x 8, .x 7] <|
 (.lt .tree [.x 6] <|
 (.lt .tree [.x 9] <|
 (.ret [.x 10, .x 11]))))))
noncomputable def k25 : K :=
(.lt .len [.x 0] <|
(.lt .bnd [.x 1, .x 2] <|
(.lt (.tsub 1) [.x 0, .c (.v (.int .i64 0)), .x 3] <|
(.lt .len [.x 4] <|
(.jp k25_2
 (.loop k25_1
  (.jmp 1 [.c (.v (.int .i64 0)), .c (.v (.int .i64 0))])))))))
noncomputable def h25 : List Hint := [(.j ⟨1, [(6, (.w (.c (.a (.x 6))))), (5, (.w (.c .nil))), (4, (.w (.c (.a (.c (.v (.int .i64 0))))))), (0, (.w (.c (.a (.x 0))))), (1, (.w (.c (.a (.x 1)))))], [], 0, [], [], []⟩), (.j ⟨2, [(1, (.w (.c (.a (.x 1))))), (0, (.w (.c (.a (.x 0))))), (4, (.w (.c (.a (.c (.v (.int .i64 0))))))), (5, (.w (.c .nil))), (6, (.w (.c (.a (.x 6))))), (11, (.w (.c (.a (.x 4))))), (12, (.w (.c (.a (.x 5))))), (13, (.w (.c (.a (.x 7)))))], [], 0, [], [], []⟩), .no, .no]
theorem k25_ok : symF D 100000 25 h25 = some k25 := by kernel_rfl
theorem s25 : shs D 25 = some [.c, .c] := by kernel_rfl
end Go.Proofs.Ythaokoopmhgfiaa
