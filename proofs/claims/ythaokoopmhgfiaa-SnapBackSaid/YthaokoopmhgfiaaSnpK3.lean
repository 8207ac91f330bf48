import Derived.Test.YthaokoopmhgfiaaSnpD
set_option linter.unusedVariables false
set_option linter.unusedSimpArgs false
set_option linter.defProp false
noncomputable section
namespace Go.Proofs.Ythaokoopmhgfiaa
open Go.Sym Go.Abu Go.Pev
noncomputable def k27 : K :=
(.lt .len [.x 0] <|
(.lt (.bin .gtr) [.x 1, .c (.v (.int .i64 1100))] <|
(.br (.x 2)
 (.lt .agg [.c (.v (.int .u8 0)), .c (.v (.int .i64 0)), .c (.v (.int .i64 0)), .c (.v (.int .i64 0)), .c (.v (.int .i64 0)), .c (.v (.int .i64 0)), .c (.v (.int .i64 0))] <|
 (.lt .flat [.x 3] <|
 (.lt .flat [.c (.v (.int .i64 0))] <|
 (.lt .flat [.c (.v (.int .i64 4))] <|
 (.ret [.x 4, .x 5, .x 6])))))
 (.call 35 [.x 0] <|
 (.lt (.shape 7) [.x 3] <|
 (.lt (.bin .eql) [.x 4, .c (.v (.int .i64 0))] <|
 (.br (.x 6)
  (.lt .agg [.c (.v (.int .u8 0)), .c (.v (.int .i64 0)), .c (.v (.int .i64 0)), .c (.v (.int .i64 0)), .c (.v (.int .i64 0)), .c (.v (.int .i64 0)), .c (.v (.int .i64 0))] <|
  (.lt .flat [.x 7] <|
  (.lt .flat [.c (.v (.int .i64 0))] <|
  (.lt .flat [.c (.v (.int .i64 12))] <|
  (.ret [.x 8, .x 9, .x 10])))))
  (.lt .flat [.x 5] <|
  (.lt .flat [.x 4] <|
  (.lt .flat [.c (.v (.int .i64 0))] <|
  (.ret [.x 7, .x 8, .x 9])))))))))))
noncomputable def h27 : List Hint := [.no, .no]
theorem k27_ok : symF D 100000 27 h27 = some k27 := by kernel_rfl
theorem s27 : shs D 27 = some [.c] := by kernel_rfl
noncomputable def k28 : K :=
(.lt (.shape 3) [.x 0] <|
(.lt (.part 0 2) [.x 1] <|
(.call 37 [.x 2] <|
(.lt (.part 2 1) [.x 1] <|
(.call 38 [.x 4] <|
(.lt (.bs 2 [(.v (.int .i64 0))] [0, 1]) [.x 3, .x 5] <|
(.lt .sub [.x 6, .c (.v (.int .i64 0)), .c (.v (.int .i64 2))] <|
(.call 36 [.x 7] <|
(.lt (.bin .neq) [.x 8, .c (.v (.int .i64 0))] <|
(.br (.x 9)
 (.lt .flat [.c (.v (.int .i64 8))] <|
 (.ret [.x 10]))
 (.lt .flat [.c (.v (.int .i64 0))] <|
 (.ret [.x 10]))))))))))))
noncomputable def h28 : List Hint := [.no]
theorem k28_ok : symF D 100000 28 h28 = some k28 := by kernel_rfl
theorem s28 : shs D 28 = some [.g] := by kernel_rfl
noncomputable def k29 : K :=
(.lt (.shape 2) [.x 0] <|
(.call 39 [.x 1] <|
(.lt (.bin .neq) [.x 2, .c (.v (.int .i64 0))] <|
(.br (.x 3)
 (.call 39 [.x 1] <|
 (.lt .flat [.x 4] <|
 (.ret [.x 5])))
 (.lt (.cell 0) [.x 1] <|
 (.lt (.bin .gtr) [.x 4, .c (.v (.int .i64 1073741824))] <|
 (.br (.x 5)
  (.lt .flat [.c (.v (.int .i64 2))] <|
  (.ret [.x 6]))
  (.lt (.cell 0) [.x 1] <|
  (.lt (.bin .lss) [.x 6, .c (.v (.int .i64 (-1073741824)))] <|
  (.br (.x 7)
   (.lt .flat [.c (.v (.int .i64 2))] <|
   (.ret [.x 8]))
   (.lt (.cell 1) [.x 1] <|
   (.lt (.bin .gtr) [.x 8, .c (.v (.int .i64 1024))] <|
   (.br (.x 9)
    (.lt .flat [.c (.v (.int .i64 2))] <|
    (.ret [.x 10]))
    (.lt .flat [.c (.v (.int .i64 0))] <|
    (.ret [.x 10])))))))))))))))
noncomputable def h29 : List Hint := [.no, .no, .no]
theorem k29_ok : symF D 100000 29 h29 = some k29 := by kernel_rfl
theorem s29 : shs D 29 = some [.g] := by kernel_rfl
noncomputable def k30_1 : K :=
(.lt (.cell 0) [.x 1] <|
      (.lt .len [.x 6] <|
   (.lt (.bin .lss) [.x 5, .x 7] <|
   (.br (.x 8)
    (.lt (.cell 0) [.x 1] <|
    (.lt (.tix 3) [.x 9, .x 5] <|
    (.lt (.elt 0 3) [.x 9, .x 10] <|
    (.call 40 [.x 11] <|
    (.lt (.bin .neq) [.x 12, .c (.v (.int .i64 0))] <|
    (.br (.x 13)
     (.lt .flat [.c (.v (.int .i64 8))] <|
     (.ret [.x 14]))
     (.lt (.bin .add) [.x 5, .c (.v (.int .i64 1))] <|
     (.jmp 1 [.x 14]))))))))
    (.jmp 0 [])))))
noncomputable def k30_2 : K :=
(.lt (.cell 0) [.x 1] <|
    (.lt .len [.x 6] <|
    (.lt (.bin .lss) [.x 5, .x 7] <|
    (.br (.x 8)
     (.lt (.bin .sub) [.x 5, .c (.v (.int .i64 1))] <|
     (.lt (.cell 0) [.x 1] <|
     (.lt (.tix 3) [.x 10, .x 9] <|
     (.lt (.elt 0 0) [.x 10, .x 11] <|
     (.lt (.cell 0) [.x 1] <|
     (.lt (.tix 3) [.x 13, .x 5] <|
     (.lt (.elt 0 0) [.x 13, .x 14] <|
     (.lt (.bin .geq) [.x 12, .x 15] <|
     (.br (.x 16)
      (.lt .flat [.c (.v (.int .i64 32))] <|
      (.ret [.x 17]))
      (.lt (.bin .add) [.x 5, .c (.v (.int .i64 1))] <|
      (.jmp 1 [.x 17])))))))))))
     (.jmp 0 [])))))
noncomputable def k30_3 : K :=
(.lt .flat [.c (.v (.int .i64 0))] <|
   (.ret [.x 5]))
noncomputable def k30_4 : K :=
(.jp k30_3
   (.loop k30_2
    (.jmp 1 [.c (.v (.int .i64 1))])))
noncomputable def k30 : K :=
(.lt (.shape 1) [.x 0] <|
(.lt (.cell 0) [.x 1] <|
(.lt .len [.x 2] <|
(.lt (.bin .gtr) [.x 3, .c (.v (.int .i64 64))] <|
(.br (.x 4)
 (.lt .flat [.c (.v (.int .i64 4))] <|
 (.ret [.x 5]))
 (.jp k30_4
  (.loop k30_1
   (.jmp 1 [.c (.v (.int .i64 0))]))))))))
noncomputable def h30 : List Hint := [.no, (.j ⟨0, [(2, (.w (.c (.a (.c (.v (.int .i64 0))))))), (1, (.w (.c (.ptr 0 0))))], [(0, (.box [(.pc (.x 1) 0)] 1 false))], 1, [], [], [0]⟩), (.j ⟨1, [(1, (.w (.c (.ptr 0 0)))), (2, (.w (.c (.a (.c (.v (.int .i64 0))))))), (3, (.w (.c (.a (.x 5)))))], [(0, (.box [(.pc (.x 1) 0)] 1 false))], 1, [], [], [0]⟩), .no, .no, .no, (.j ⟨0, [(2, (.w (.c (.a (.c (.v (.int .i64 0)))))))], [], 0, [], [], []⟩), (.j ⟨1, [(1, (.w (.c (.ptr 0 0)))), (2, (.w (.c (.a (.c (.v (.int .i64 0))))))), (4, (.w (.c (.a (.x 5)))))], [(0, (.box [(.pc (.x 1) 0)] 1 false))], 1, [], [], [0]⟩), .no, .no, .no]
theorem k30_ok : symF D 100000 30 h30 = some k30 := by kernel_rfl
theorem s30 : shs D 30 = some [.g] := by kernel_rfl
noncomputable def k31_1 : K :=
(.lt (.cell 0) [.x 2] <|
      (.lt .len [.x 10] <|
   (.lt (.bin .lss) [.x 9, .x 11] <|
   (.br (.x 12)
    (.lt (.cell 0) [.x 2] <|
    (.lt (.tix 3) [.x 13, .x 9] <|
    (.lt (.elt 0 3) [.x 13, .x 14] <|
    (.lt (.cell 0) [.x 3] <|
    (.lt (.tix 3) [.x 16, .x 9] <|
    (.lt (.elt 0 3) [.x 16, .x 17] <|
    (.lt (.eqv [.i, .i, .i]) [.x 15, .x 18] <|
    (.lt (.un .not) [.x 19] <|
    (.br (.x 20)
     (.lt .flat [.c (.v (.bool false))] <|
     (.ret [.x 21]))
     (.lt (.bin .add) [.x 9, .c (.v (.int .i64 1))] <|
     (.jmp 1 [.x 21])))))))))))
    (.jmp 0 [])))))
noncomputable def k31_2 : K :=
(.lt .flat [.c (.v (.bool true))] <|
  (.ret [.x 9]))
noncomputable def k31 : K :=
(.lt (.shape 1) [.x 0] <|
(.lt (.shape 1) [.x 1] <|
(.lt (.cell 0) [.x 2] <|
(.lt .len [.x 4] <|
(.lt (.cell 0) [.x 3] <|
(.lt .len [.x 6] <|
(.lt (.bin .neq) [.x 5, .x 7] <|
(.br (.x 8)
 (.lt .flat [.c (.v (.bool false))] <|
 (.ret [.x 9]))
 (.jp k31_2
  (.loop k31_1
   (.jmp 1 [.c (.v (.int .i64 0))])))))))))))
noncomputable def h31 : List Hint := [.no, (.j ⟨0, [(4, (.w (.c (.a (.c (.v (.bool false)))))))], [], 0, [], [], []⟩), (.j ⟨1, [(2, (.w (.c (.ptr 0 0)))), (3, (.w (.c (.ptr 1 0)))), (4, (.w (.c (.a (.c (.v (.bool false))))))), (5, (.w (.c (.a (.x 9)))))], [(0, (.box [(.pc (.x 2) 0)] 1 false)), (1, (.box [(.pc (.x 3) 0)] 1 false))], 2, [], [], [1, 0]⟩), .no, .no, .no]
theorem k31_ok : symF D 100000 31 h31 = some k31 := by kernel_rfl
theorem s31 : shs D 31 = some [.g, .g] := by kernel_rfl
noncomputable def k32 : K :=
(.lt (.shape 1) [.x 0] <|
(.lt (.cell 0) [.x 1] <|
(.lt (.app 24 3) [.c (.sl []), .c (.v (.int .i64 0)), .x 2] <|
(.lt .len [.x 3] <|
(.lt .sub [.x 3, .c (.v (.int .i64 0)), .x 4] <|
(.lt .agg [.x 5] <|
(.lt .tree [.x 6] <|
(.ret [.x 7]))))))))
noncomputable def h32 : List Hint := []
theorem k32_ok : symF D 100000 32 h32 = some k32 := by kernel_rfl
theorem s32 : shs D 32 = some [.g] := by kernel_rfl
noncomputable def k33 : K :=
(.lt (.shape 7) [.x 0] <|
(.lt (.cell 0) [.x 1] <|
(.lt (.bs 1 [(.v (.int .u8 0))] [0]) [.x 2] <|
(.lt (.cell 0) [.x 1] <|
(.lt (.bin .eql) [.x 4, .c (.v (.int .u8 1))] <|
(.br (.x 5)
 (.lt (.cell 1) [.x 1] <|
 (.lt (.conv .u64) [.x 6] <|
 (.call 41 [.x 7, .c (.v (.int .i64 2))] <|
 (.lt .len [.x 8] <|
 (.lt .sub [.x 8, .c (.v (.int .i64 0)), .x 9] <|
 (.lt (.app 1 1) [.x 3, .c (.v (.int .i64 1)), .x 10] <|
 (.lt .len [.x 11] <|
 (.lt (.cell 2) [.x 1] <|
 (.lt (.bin .add) [.x 13, .c (.v (.int .i64 1048576))] <|
 (.lt (.conv .u64) [.x 14] <|
 (.call 41 [.x 15, .c (.v (.int .i64 3))] <|
 (.lt .len [.x 16] <|
 (.lt .sub [.x 16, .c (.v (.int .i64 0)), .x 17] <|
 (.lt (.app 1 1) [.x 11, .x 12, .x 18] <|
 (.lt .len [.x 19] <|
 (.lt (.cell 3) [.x 1] <|
 (.lt (.bin .add) [.x 21, .c (.v (.int .i64 1048576))] <|
 (.lt (.conv .u64) [.x 22] <|
 (.call 41 [.x 23, .c (.v (.int .i64 3))] <|
 (.lt .len [.x 24] <|
 (.lt .sub [.x 24, .c (.v (.int .i64 0)), .x 25] <|
 (.lt (.app 1 1) [.x 19, .x 20, .x 26] <|
 (.lt .len [.x 27] <|
 (.lt .sub [.x 27, .c (.v (.int .i64 0)), .x 28] <|
 (.lt .tree [.x 29] <|
 (.ret [.x 30]))))))))))))))))))))))))))
 (.lt (.cell 0) [.x 1] <|
 (.lt (.bin .eql) [.x 6, .c (.v (.int .u8 3))] <|
 (.br (.x 7)
  (.lt (.cell 1) [.x 1] <|
  (.lt (.conv .u64) [.x 8] <|
  (.call 41 [.x 9, .c (.v (.int .i64 2))] <|
  (.lt .len [.x 10] <|
  (.lt .sub [.x 10, .c (.v (.int .i64 0)), .x 11] <|
  (.lt (.app 1 1) [.x 3, .c (.v (.int .i64 1)), .x 12] <|
  (.lt .len [.x 13] <|
  (.lt (.cell 2) [.x 1] <|
  (.lt (.bin .add) [.x 15, .c (.v (.int .i64 1048576))] <|
  (.lt (.conv .u64) [.x 16] <|
  (.call 41 [.x 17, .c (.v (.int .i64 3))] <|
  (.lt .len [.x 18] <|
  (.lt .sub [.x 18, .c (.v (.int .i64 0)), .x 19] <|
  (.lt (.app 1 1) [.x 13, .x 14, .x 20] <|
  (.lt .len [.x 21] <|
  (.lt (.cell 3) [.x 1] <|
  (.lt (.bin .add) [.x 23, .c (.v (.int .i64 1048576))] <|
  (.lt (.conv .u64) [.x 24] <|
  (.call 41 [.x 25, .c (.v (.int .i64 3))] <|
  (.lt .len [.x 26] <|
  (.lt .sub [.x 26, .c (.v (.int .i64 0)), .x 27] <|
  (.lt (.app 1 1) [.x 21, .x 22, .x 28] <|
  (.lt .len [.x 29] <|
  (.lt .sub [.x 29, .c (.v (.int .i64 0)), .x 30] <|
  (.lt .tree [.x 31] <|
  (.ret [.x 32]))))))))))))))))))))))))))
  (.lt (.cell 0) [.x 1] <|
  (.lt (.bin .eql) [.x 8, .c (.v (.int .u8 2))] <|
  (.br (.x 9)
   (.lt (.cell 4) [.x 1] <|
   (.lt (.conv .u64) [.x 10] <|
   (.call 41 [.x 11, .c (.v (.int .i64 2))] <|
   (.lt .len [.x 12] <|
   (.lt .sub [.x 12, .c (.v (.int .i64 0)), .x 13] <|
   (.lt (.app 1 1) [.x 3, .c (.v (.int .i64 1)), .x 14] <|
   (.lt .len [.x 15] <|
   (.lt .sub [.x 15, .c (.v (.int .i64 0)), .x 16] <|
   (.lt .tree [.x 17] <|
   (.ret [.x 18]))))))))))
   (.lt (.cell 0) [.x 1] <|
   (.lt (.bin .eql) [.x 10, .c (.v (.int .u8 4))] <|
   (.br (.x 11)
    (.lt (.cell 5) [.x 1] <|
    (.lt (.bin .add) [.x 12, .c (.v (.int .i64 1073741824))] <|
    (.lt (.conv .u64) [.x 13] <|
    (.call 41 [.x 14, .c (.v (.int .i64 4))] <|
    (.lt .len [.x 15] <|
    (.lt .sub [.x 15, .c (.v (.int .i64 0)), .x 16] <|
    (.lt (.app 1 1) [.x 3, .c (.v (.int .i64 1)), .x 17] <|
    (.lt .len [.x 18] <|
    (.lt (.cell 6) [.x 1] <|
    (.lt (.conv .u64) [.x 20] <|
    (.call 41 [.x 21, .c (.v (.int .i64 2))] <|
    (.lt .len [.x 22] <|
    (.lt .sub [.x 22, .c (.v (.int .i64 0)), .x 23] <|
    (.lt (.app 1 1) [.x 18, .x 19, .x 24] <|
    (.lt .len [.x 25] <|
    (.lt .sub [.x 25, .c (.v (.int .i64 0)), .x 26] <|
    (.lt .tree [.x 27] <|
    (.ret [.x 28]))))))))))))))))))
    (.lt .sub [.x 3, .c (.v (.int .i64 0)), .c (.v (.int .i64 1))] <|
    (.lt .tree [.x 12] <|
    (.ret [.x 13]))))))))))))))))))
noncomputable def h33 : List Hint := [.no, .no, .no, .no, .no]
theorem k33_ok : symF D 100000 33 h33 = some k33 := by kernel_rfl
theorem s33 : shs D 33 = some [.g] := by kernel_rfl
noncomputable def k35 : K :=
(.lt .len [.x 0] <|
(.lt (.bin .eql) [.x 1, .c (.v (.int .i64 0))] <|
(.br (.x 2)
 (.lt .agg [.c (.v (.int .u8 0)), .c (.v (.int .i64 0)), .c (.v (.int .i64 0)), .c (.v (.int .i64 0)), .c (.v (.int .i64 0)), .c (.v (.int .i64 0)), .c (.v (.int .i64 0))] <|
 (.lt .flat [.x 3] <|
 (.lt .flat [.c (.v (.int .i64 0))] <|
 (.ret [.x 4, .x 5]))))
 (.call 42 [.x 0] <|
 (.lt (.shape 7) [.x 3] <|
 (.call 43 [.x 4] <|
 (.lt (.bin .neq) [.x 5, .c (.v (.int .i64 0))] <|
 (.br (.x 6)
  (.lt .agg [.c (.v (.int .u8 0)), .c (.v (.int .i64 0)), .c (.v (.int .i64 0)), .c (.v (.int .i64 0)), .c (.v (.int .i64 0)), .c (.v (.int .i64 0)), .c (.v (.int .i64 0))] <|
  (.lt .flat [.x 7] <|
  (.lt .flat [.c (.v (.int .i64 0))] <|
  (.ret [.x 8, .x 9]))))
  (.call 33 [.x 4] <|
  (.lt .len [.x 7] <|
  (.lt .len [.x 0] <|
  (.lt (.bin .gtr) [.x 8, .x 9] <|
  (.br (.x 10)
   (.lt .agg [.c (.v (.int .u8 0)), .c (.v (.int .i64 0)), .c (.v (.int .i64 0)), .c (.v (.int .i64 0)), .c (.v (.int .i64 0)), .c (.v (.int .i64 0)), .c (.v (.int .i64 0))] <|
   (.lt .flat [.x 11] <|
   (.lt .flat [.c (.v (.int .i64 0))] <|
   (.ret [.x 12, .x 13]))))
   (.call 33 [.x 4] <|
   (.lt .len [.x 11] <|
   (.lt .flat [.x 4] <|
   (.lt .flat [.x 12] <|
   (.ret [.x 13, .x 14]))))))))))))))))))
noncomputable def h35 : List Hint := [.no, .no, .no]
theorem k35_ok : symF D 100000 35 h35 = some k35 := by kernel_rfl
theorem s35 : shs D 35 = some [.c] := by kernel_rfl
noncomputable def k36_1 : K :=
(.lt (.bin .lss) [.x 2, .x 1] <|
  (.br (.x 3)
   (.lt (.tix 1) [.x 0, .x 2] <|
   (.lt (.elt 0 0) [.x 0, .x 4] <|
   (.lt (.bin .neq) [.x 5, .c (.v (.int .i64 0))] <|
   (.br (.x 6)
    (.lt .flat [.x 5] <|
    (.ret [.x 7]))
    (.lt (.bin .add) [.x 2, .c (.v (.int .i64 1))] <|
    (.jmp 1 [.x 7]))))))
   (.jmp 0 [])))
noncomputable def k36_2 : K :=
(.lt .flat [.c (.v (.int .i64 0))] <|
 (.ret [.x 2]))
noncomputable def k36 : K :=
(.lt .len [.x 0] <|
(.jp k36_2
 (.loop k36_1
  (.jmp 1 [.c (.v (.int .i64 0))]))))
noncomputable def h36 : List Hint := [(.j ⟨0, [(2, (.w (.c (.a (.c (.v (.int .i64 0)))))))], [], 0, [], [], []⟩), (.j ⟨1, [(2, (.w (.c (.a (.c (.v (.int .i64 0))))))), (5, (.w (.c (.a (.x 0))))), (6, (.w (.c (.a (.x 1))))), (7, (.w (.c (.a (.x 2)))))], [], 0, [], [], []⟩), .no, .no, .no]
theorem k36_ok : symF D 100000 36 h36 = some k36 := by kernel_rfl
theorem s36 : shs D 36 = some [.c] := by kernel_rfl
noncomputable def k37 : K :=
(.lt (.shape 2) [.x 0] <|
(.call 44 [.x 1] <|
(.lt (.bin .neq) [.x 2, .c (.v (.int .i64 0))] <|
(.br (.x 3)
 (.lt .flat [.x 2] <|
 (.ret [.x 4]))
 (.lt (.cell 0) [.x 1] <|
 (.call 45 [.x 4] <|
 (.lt (.bin .gtr) [.x 5, .c (.v (.int .u64 1073741824))] <|
 (.br (.x 6)
  (.lt .flat [.c (.v (.int .i64 2))] <|
  (.ret [.x 7]))
  (.lt (.cell 1) [.x 1] <|
  (.lt (.bin .gtr) [.x 7, .c (.v (.int .i64 1024))] <|
  (.br (.x 8)
   (.lt .flat [.c (.v (.int .i64 2))] <|
   (.ret [.x 9]))
   (.lt .flat [.c (.v (.int .i64 0))] <|
   (.ret [.x 9])))))))))))))
noncomputable def h37 : List Hint := [.no, .no, .no]
theorem k37_ok : symF D 100000 37 h37 = some k37 := by kernel_rfl
theorem s37 : shs D 37 = some [.g] := by kernel_rfl
noncomputable def k38_1 : K :=
(.lt (.bin .lss) [.x 7, .x 6] <|
      (.br (.x 8)
       (.lt (.cell 0) [.x 1] <|
       (.lt (.tix 3) [.x 9, .x 7] <|
       (.lt (.elt 0 3) [.x 9, .x 10] <|
       (.call 46 [.x 11] <|
       (.lt (.bin .neq) [.x 12, .c (.v (.int .i64 0))] <|
       (.br (.x 13)
        (.lt .flat [.x 12] <|
        (.ret [.x 14]))
        (.lt (.bin .add) [.x 7, .c (.v (.int .i64 1))] <|
        (.jmp 1 [.x 14]))))))))
       (.jmp 0 [])))
noncomputable def k38_2 : K :=
(.br (.x 15)
       (.lt .flat [.c (.v (.int .i64 32))] <|
       (.ret [.x 16]))
       (.lt (.bin .add) [.x 9, .c (.v (.int .i64 1))] <|
       (.jmp 1 [.x 16])))
noncomputable def k38_3 : K :=
(.lt (.bin .lss) [.x 9, .x 8] <|
    (.br (.x 10)
     (.lt (.cell 0) [.x 1] <|
     (.lt (.tix 3) [.x 11, .x 9] <|
     (.lt (.elt 0 3) [.x 11, .x 12] <|
     (.jp k38_2
      (.lt (.bin .gtr) [.x 9, .c (.v (.int .i64 0))] <|
      (.br (.x 14)
       (.lt (.bin .sub) [.x 9, .c (.v (.int .i64 1))] <|
       (.lt (.cell 0) [.x 1] <|
       (.lt (.tix 3) [.x 16, .x 15] <|
       (.lt (.elt 0 0) [.x 16, .x 17] <|
       (.lt (.cell 0) [.x 13] <|
       (.lt (.bin .geq) [.x 18, .x 19] <|
       (.jmp 2 [.x 14, .x 20])))))))
       (.jmp 2 [.x 14, .c (.v (.bool false))])))))))
     (.jmp 0 [])))
noncomputable def k38_4 : K :=
(.lt .flat [.c (.v (.int .i64 0))] <|
   (.ret [.x 9]))
noncomputable def k38_5 : K :=
(.lt (.cell 0) [.x 1] <|
  (.lt .len [.x 7] <|
  (.jp k38_4
   (.loop k38_3
    (.jmp 1 [.c (.v (.int .i64 0))])))))
noncomputable def k38 : K :=
(.lt (.shape 1) [.x 0] <|
(.lt (.cell 0) [.x 1] <|
(.lt .len [.x 2] <|
(.lt (.bin .gtr) [.x 3, .c (.v (.int .i64 64))] <|
(.br (.x 4)
 (.lt .flat [.c (.v (.int .i64 4))] <|
 (.ret [.x 5]))
 (.lt (.cell 0) [.x 1] <|
 (.lt .len [.x 5] <|
 (.jp k38_5
  (.loop k38_1
   (.jmp 1 [.c (.v (.int .i64 0))]))))))))))
noncomputable def h38 : List Hint := [.no, (.j ⟨0, [(2, (.w (.c (.a (.c (.v (.int .i64 0))))))), (1, (.w (.c (.ptr 0 0))))], [(0, (.box [(.pc (.x 1) 0)] 1 false))], 1, [], [], [0]⟩), (.j ⟨1, [(1, (.w (.c (.ptr 0 0)))), (2, (.w (.c (.a (.c (.v (.int .i64 0))))))), (13, (.w (.c (.pc (.x 1) 0)))), (14, (.w (.c (.a (.x 6))))), (15, (.w (.c (.a (.x 7)))))], [(0, (.box [(.pc (.x 1) 0)] 1 false))], 1, [], [], [0]⟩), .no, .no, .no, (.j ⟨0, [(2, (.w (.c (.a (.c (.v (.int .i64 0)))))))], [], 0, [], [], []⟩), (.j ⟨1, [(1, (.w (.c (.ptr 0 0)))), (2, (.w (.c (.a (.c (.v (.int .i64 0))))))), (26, (.w (.c (.pc (.x 1) 0)))), (27, (.w (.c (.a (.x 8))))), (28, (.w (.c (.a (.x 9)))))], [(0, (.box [(.pc (.x 1) 0)] 1 false))], 1, [], [], [0]⟩), .no, .no, (.j ⟨2, [(28, (.w (.c (.a (.x 9))))), (27, (.w (.c (.a (.x 8))))), (26, (.w (.c (.pc (.x 1) 0)))), (2, (.w (.c (.a (.c (.v (.int .i64 0))))))), (1, (.w (.c (.ptr 0 0)))), (29, (.w (.c (.a (.x 10))))), (30, (.w (.c (.a (.x 9))))), (31, (.w (.c (.tp (.x 11) (.x 12) 0)))), (32, (.w (.av (.x 13)))), (7, (.w (.c (.ptr 1 0)))), (6, (.w (.c (.a (.x 9))))), (33, (.w (.c (.a (.x 9))))), (34, (.w (.c (.a (.x 14))))), (35, (.w (.c (.a (.x 14))))), (46, (.w (.c (.a (.x 15)))))], [(0, (.box [(.pc (.x 1) 0)] 1 false)), (1, (.box [(.pc (.x 13) 0), (.pc (.x 13) 1), (.pc (.x 13) 2)] 3 false))], 2, [], [], [1, 0]⟩), .no]
theorem k38_ok : symF D 100000 38 h38 = some k38 := by kernel_rfl
theorem s38 : shs D 38 = some [.g] := by kernel_rfl
noncomputable def k39 : K :=
(.lt (.shape 2) [.x 0] <|
(.lt (.cell 1) [.x 1] <|
(.lt (.bin .lss) [.x 2, .c (.v (.int .i64 1))] <|
(.br (.x 3)
 (.lt .flat [.c (.v (.int .i64 8))] <|
 (.ret [.x 4]))
 (.lt (.cell 0) [.x 1] <|
 (.lt (.bin .eql) [.x 4, .c (.v (.int .i64 (-9223372036854775808)))] <|
 (.br (.x 5)
  (.lt .flat [.c (.v (.int .i64 8))] <|
  (.ret [.x 6]))
  (.lt (.cell 0) [.x 1] <|
  (.call 48 [.x 6] <|
  (.lt (.cell 1) [.x 1] <|
  (.lt (.conv .u64) [.x 8] <|
  (.call 47 [.x 7, .x 9] <|
  (.lt (.bin .neq) [.x 10, .c (.v (.int .u64 1))] <|
  (.br (.x 11)
   (.lt .flat [.c (.v (.int .i64 8))] <|
   (.ret [.x 12]))
   (.lt .flat [.c (.v (.int .i64 0))] <|
   (.ret [.x 12]))))))))))))))))
noncomputable def h39 : List Hint := [.no, .no]
theorem k39_ok : symF D 100000 39 h39 = some k39 := by kernel_rfl
theorem s39 : shs D 39 = some [.g] := by kernel_rfl
end Go.Proofs.Ythaokoopmhgfiaa
