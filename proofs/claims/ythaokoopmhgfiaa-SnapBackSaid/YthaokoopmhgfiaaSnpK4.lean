import Derived.Test.YthaokoopmhgfiaaSnpD
set_option linter.unusedVariables false
set_option linter.unusedSimpArgs false
set_option linter.defProp false
noncomputable section
namespace Go.Proofs.Ythaokoopmhgfiaa
open Go.Sym Go.Abu Go.Pev
noncomputable def k40 : K :=
(.lt (.shape 3) [.x 0] <|
(.lt (.cell 0) [.x 1] <|
(.lt (.bin .lss) [.x 2, .c (.v (.int .i64 0))] <|
(.br (.x 3)
 (.lt .flat [.c (.v (.int .i64 8))] <|
 (.ret [.x 4]))
 (.lt (.cell 0) [.x 1] <|
 (.lt (.bin .gtr) [.x 4, .c (.v (.int .i64 65535))] <|
 (.br (.x 5)
  (.lt .flat [.c (.v (.int .i64 8))] <|
  (.ret [.x 6]))
  (.lt (.cell 1) [.x 1] <|
  (.lt (.bin .lss) [.x 6, .c (.v (.int .i64 (-1048576)))] <|
  (.br (.x 7)
   (.lt .flat [.c (.v (.int .i64 8))] <|
   (.ret [.x 8]))
   (.lt (.cell 1) [.x 1] <|
   (.lt (.bin .gtr) [.x 8, .c (.v (.int .i64 1048576))] <|
   (.br (.x 9)
    (.lt .flat [.c (.v (.int .i64 8))] <|
    (.ret [.x 10]))
    (.lt (.cell 2) [.x 1] <|
    (.lt (.bin .lss) [.x 10, .c (.v (.int .i64 (-1048576)))] <|
    (.br (.x 11)
     (.lt .flat [.c (.v (.int .i64 8))] <|
     (.ret [.x 12]))
     (.lt (.cell 2) [.x 1] <|
     (.lt (.bin .gtr) [.x 12, .c (.v (.int .i64 1048576))] <|
     (.br (.x 13)
      (.lt .flat [.c (.v (.int .i64 8))] <|
      (.ret [.x 14]))
      (.lt .flat [.c (.v (.int .i64 0))] <|
      (.ret [.x 14])))))))))))))))))))))
noncomputable def h40 : List Hint := [.no, .no]
theorem k40_ok : symF D 100000 40 h40 = some k40 := by kernel_rfl
theorem s40 : shs D 40 = some [.g] := by kernel_rfl
noncomputable def k41_1 : K :=
(.lt (.bin .geq) [.x 7, .c (.v (.int .i64 0))] <|
  (.br (.x 8)
   (.lt (.bin .rem) [.x 5, .c (.v (.int .u64 256))] <|
   (.lt (.conv .u8) [.x 9] <|
   (.lt .ix [.x 7, .x 3] <|
   (.lt (.set 0) [.x 6, .x 11, .x 10] <|
   (.lt (.bin .quo) [.x 5, .c (.v (.int .u64 256))] <|
   (.lt (.bin .sub) [.x 7, .c (.v (.int .i64 1))] <|
   (.jmp 1 [.x 13, .x 12, .x 14])))))))
   (.jmp 0 [.x 6])))
noncomputable def k41_2 : K :=
(.lt .sub [.x 5, .c (.v (.int .i64 0)), .x 3] <|
 (.lt .tree [.x 6] <|
 (.ret [.x 7])))
noncomputable def k41 : K :=
(.lt (.rep [(.v (.int .u8 0))] 1) [.x 1, .x 1] <|
(.lt .len [.x 2] <|
(.lt (.bin .sub) [.x 1, .c (.v (.int .i64 1))] <|
(.jp k41_2
 (.loop k41_1
  (.jmp 1 [.x 0, .x 2, .x 4]))))))
noncomputable def h41 : List Hint := [(.j ⟨1, [(5, (.w (.c (.lsl 0 (.c (.v (.int .i64 0))) (.x 3))))), (4, (.w (.c .nil)))], [(0, (.lst (.x 5) 5 1 false))], 1, [], [], [0]⟩), (.j ⟨3, [(0, (.w (.c (.a (.x 5))))), (4, (.w (.c .nil))), (5, (.w (.c (.lsl 0 (.c (.v (.int .i64 0))) (.x 3))))), (6, (.w (.c (.a (.x 7)))))], [(0, (.lst (.x 6) 5 1 false))], 1, [], [], [0]⟩), .no, .no]
theorem k41_ok : symF D 100000 41 h41 = some k41 := by kernel_rfl
theorem s41 : shs D 41 = some [.c, .c] := by kernel_rfl
noncomputable def k42_1 : K :=
(.jmp 1 [.c (.v (.int .i64 0)), .x 7, .x 8])
noncomputable def k42_2 : K :=
(.jmp 0 [.c (.v (.int .i64 0)), .c (.v (.int .i64 0)), .c (.v (.int .i64 0)), .x 6, .x 7, .x 8])
noncomputable def k42_3 : K :=
(.lt .agg [.x 2, .x 5, .x 6, .x 7, .x 8, .x 9, .x 10] <|
  (.lt .flat [.x 11] <|
  (.ret [.x 12])))
noncomputable def k42_4 : K :=
(.jp k42_3
  (.br (.x 4)
   (.call 49 [.x 0, .c (.v (.int .i64 1)), .c (.v (.int .i64 2))] <|
   (.lt (.conv .i64) [.x 5] <|
   (.call 49 [.x 0, .c (.v (.int .i64 3)), .c (.v (.int .i64 3))] <|
   (.lt (.conv .i64) [.x 7] <|
   (.lt (.bin .sub) [.x 8, .c (.v (.int .i64 1048576))] <|
   (.call 49 [.x 0, .c (.v (.int .i64 6)), .c (.v (.int .i64 3))] <|
   (.lt (.conv .i64) [.x 10] <|
   (.lt (.bin .sub) [.x 11, .c (.v (.int .i64 1048576))] <|
   (.jmp 0 [.x 6, .x 9, .x 12, .c (.v (.int .i64 0)), .c (.v (.int .i64 0)), .c (.v (.int .i64 0))])))))))))
   (.lt (.bin .eql) [.x 2, .c (.v (.int .u8 2))] <|
   (.jp k42_2
    (.br (.x 5)
     (.call 49 [.x 0, .c (.v (.int .i64 1)), .c (.v (.int .i64 2))] <|
     (.lt (.conv .i64) [.x 6] <|
     (.jmp 1 [.x 7, .c (.v (.int .i64 0)), .c (.v (.int .i64 0))])))
     (.lt (.bin .eql) [.x 2, .c (.v (.int .u8 4))] <|
     (.jp k42_1
      (.br (.x 6)
       (.call 49 [.x 0, .c (.v (.int .i64 1)), .c (.v (.int .i64 4))] <|
       (.lt (.conv .i64) [.x 7] <|
       (.lt (.bin .sub) [.x 8, .c (.v (.int .i64 1073741824))] <|
       (.call 49 [.x 0, .c (.v (.int .i64 5)), .c (.v (.int .i64 2))] <|
       (.lt (.conv .i64) [.x 10] <|
       (.jmp 2 [.x 9, .x 11]))))))
       (.jmp 2 [.c (.v (.int .i64 0)), .c (.v (.int .i64 0))])))))))))
noncomputable def k42 : K :=
(.lt (.tix 1) [.x 0, .c (.v (.int .i64 0))] <|
(.lt (.elt 0 0) [.x 0, .x 1] <|
(.lt (.bin .eql) [.x 2, .c (.v (.int .u8 1))] <|
(.jp k42_4
 (.br (.x 3)
  (.jmp 0 [.x 3])
  (.lt (.bin .eql) [.x 2, .c (.v (.int .u8 3))] <|
  (.jmp 0 [.x 4])))))))
noncomputable def h42 : List Hint := [.no, (.j ⟨1, [(0, (.w (.c (.a (.x 0))))), (2, (.w (.c (.ptr 0 0)))), (3, (.w (.c (.ptr 1 0)))), (9, (.w (.c (.a (.x 2))))), (10, (.w (.c (.a (.x 4)))))], [(0, (.box [(.a (.c (.v (.int .u8 0)))), (.a (.c (.v (.int .i64 0)))), (.a (.c (.v (.int .i64 0)))), (.a (.c (.v (.int .i64 0)))), (.a (.c (.v (.int .i64 0)))), (.a (.c (.v (.int .i64 0)))), (.a (.c (.v (.int .i64 0))))] 7 false)), (1, (.box [(.a (.x 2)), (.a (.c (.v (.int .i64 0)))), (.a (.c (.v (.int .i64 0)))), (.a (.c (.v (.int .i64 0)))), (.a (.c (.v (.int .i64 0)))), (.a (.c (.v (.int .i64 0)))), (.a (.c (.v (.int .i64 0))))] 7 false))], 2, [], [], [1, 0]⟩), (.j ⟨6, [(3, (.w (.c (.ptr 0 0)))), (2, (.w (.c (.ptr 1 0))))], [(0, (.box [(.a (.x 2)), (.a (.x 5)), (.a (.x 6)), (.a (.x 7)), (.a (.x 8)), (.a (.x 9)), (.a (.x 10))] 7 false)), (1, (.box [(.a (.c (.v (.int .u8 0)))), (.a (.c (.v (.int .i64 0)))), (.a (.c (.v (.int .i64 0)))), (.a (.c (.v (.int .i64 0)))), (.a (.c (.v (.int .i64 0)))), (.a (.c (.v (.int .i64 0)))), (.a (.c (.v (.int .i64 0))))] 7 false))], 2, [], [], [1, 0]⟩), (.j ⟨3, [(3, (.w (.c (.ptr 0 0)))), (2, (.w (.c (.ptr 1 0))))], [(0, (.box [(.a (.x 2)), (.a (.c (.v (.int .i64 0)))), (.a (.c (.v (.int .i64 0)))), (.a (.c (.v (.int .i64 0)))), (.a (.x 6)), (.a (.x 7)), (.a (.x 8))] 7 false)), (1, (.box [(.a (.c (.v (.int .u8 0)))), (.a (.c (.v (.int .i64 0)))), (.a (.c (.v (.int .i64 0)))), (.a (.c (.v (.int .i64 0)))), (.a (.c (.v (.int .i64 0)))), (.a (.c (.v (.int .i64 0)))), (.a (.c (.v (.int .i64 0))))] 7 false))], 2, [], [], [1, 0]⟩), (.j ⟨2, [(3, (.w (.c (.ptr 0 0)))), (2, (.w (.c (.ptr 1 0))))], [(0, (.box [(.a (.x 2)), (.a (.c (.v (.int .i64 0)))), (.a (.c (.v (.int .i64 0)))), (.a (.c (.v (.int .i64 0)))), (.a (.c (.v (.int .i64 0)))), (.a (.x 7)), (.a (.x 8))] 7 false)), (1, (.box [(.a (.c (.v (.int .u8 0)))), (.a (.c (.v (.int .i64 0)))), (.a (.c (.v (.int .i64 0)))), (.a (.c (.v (.int .i64 0)))), (.a (.c (.v (.int .i64 0)))), (.a (.c (.v (.int .i64 0)))), (.a (.c (.v (.int .i64 0))))] 7 false))], 2, [], [], [1, 0]⟩)]
theorem k42_ok : symF D 100000 42 h42 = some k42 := by kernel_rfl
theorem s42 : shs D 42 = some [.c] := by kernel_rfl
noncomputable def k43_1 : K :=
(.br (.x 11)
         (.jmp 2 [.c (.v (.int .i64 0)), .c (.v (.int .i64 0))])
         (.lt .flat [.c (.v (.int .i64 8))] <|
         (.ret [.x 12])))
noncomputable def k43_2 : K :=
(.jmp 1 [.c (.v (.int .i64 0)), .x 9, .x 10])
noncomputable def k43_3 : K :=
(.jmp 0 [.c (.v (.int .i64 0)), .c (.v (.int .i64 0)), .c (.v (.int .i64 0)), .x 7, .x 8, .x 9])
noncomputable def k43_4 : K :=
(.lt (.cell 0) [.x 1] <|
  (.lt .agg [.x 11, .x 5, .x 6, .x 7, .x 8, .x 9, .x 10] <|
  (.lt (.eqv [.i, .i, .i, .i, .i, .i, .i]) [.x 1, .x 12] <|
  (.lt (.un .not) [.x 13] <|
  (.br (.x 14)
   (.lt .flat [.c (.v (.int .i64 8))] <|
   (.ret [.x 15]))
   (.lt .flat [.c (.v (.int .i64 0))] <|
   (.ret [.x 15])))))))
noncomputable def k43_5 : K :=
(.jp k43_4
  (.br (.x 4)
   (.lt (.part 1 3) [.x 1] <|
   (.lt (.part 1 3) [.x 1] <|
   (.call 40 [.x 6] <|
   (.lt (.bin .neq) [.x 7, .c (.v (.int .i64 0))] <|
   (.br (.x 8)
    (.lt .flat [.c (.v (.int .i64 8))] <|
    (.ret [.x 9]))
    (.lt (.cell 0) [.x 5] <|
    (.lt (.cell 1) [.x 5] <|
    (.lt (.cell 2) [.x 5] <|
    (.jmp 0 [.x 9, .x 10, .x 11, .c (.v (.int .i64 0)), .c (.v (.int .i64 0)), .c (.v (.int .i64 0))])))))))))
   (.lt (.cell 0) [.x 1] <|
   (.lt (.bin .eql) [.x 5, .c (.v (.int .u8 2))] <|
   (.jp k43_3
    (.br (.x 6)
     (.lt (.cell 4) [.x 1] <|
     (.lt (.bin .lss) [.x 7, .c (.v (.int .i64 0))] <|
     (.br (.x 8)
      (.lt .flat [.c (.v (.int .i64 8))] <|
      (.ret [.x 9]))
      (.lt (.cell 4) [.x 1] <|
      (.lt (.bin .gtr) [.x 9, .c (.v (.int .i64 65535))] <|
      (.br (.x 10)
       (.lt .flat [.c (.v (.int .i64 8))] <|
       (.ret [.x 11]))
       (.lt (.cell 4) [.x 1] <|
       (.jmp 1 [.x 11, .c (.v (.int .i64 0)), .c (.v (.int .i64 0))]))))))))
     (.lt (.cell 0) [.x 1] <|
     (.lt (.bin .eql) [.x 7, .c (.v (.int .u8 4))] <|
     (.jp k43_2
      (.br (.x 8)
       (.lt (.part 5 2) [.x 1] <|
       (.lt (.part 5 2) [.x 1] <|
       (.call 39 [.x 10] <|
       (.lt (.bin .neq) [.x 11, .c (.v (.int .i64 0))] <|
       (.br (.x 12)
        (.lt .flat [.c (.v (.int .i64 8))] <|
        (.ret [.x 13]))
        (.lt (.part 5 2) [.x 1] <|
        (.call 29 [.x 13] <|
        (.lt (.bin .neq) [.x 14, .c (.v (.int .i64 0))] <|
        (.br (.x 15)
         (.lt .flat [.c (.v (.int .i64 8))] <|
         (.ret [.x 16]))
         (.lt (.cell 0) [.x 9] <|
         (.lt (.cell 1) [.x 9] <|
         (.jmp 2 [.x 16, .x 17]))))))))))))
       (.lt (.cell 0) [.x 1] <|
       (.lt (.bin .eql) [.x 9, .c (.v (.int .u8 5))] <|
       (.jp k43_1
        (.br (.x 10)
         (.jmp 3 [.x 10])
         (.lt (.cell 0) [.x 1] <|
         (.lt (.bin .eql) [.x 11, .c (.v (.int .u8 6))] <|
         (.jmp 3 [.x 12])))))))))))))))))
noncomputable def k43 : K :=
(.lt (.shape 7) [.x 0] <|
(.lt (.cell 0) [.x 1] <|
(.lt (.bin .eql) [.x 2, .c (.v (.int .u8 1))] <|
(.jp k43_5
 (.br (.x 3)
  (.jmp 0 [.x 3])
  (.lt (.cell 0) [.x 1] <|
  (.lt (.bin .eql) [.x 4, .c (.v (.int .u8 3))] <|
  (.jmp 0 [.x 5]))))))))
noncomputable def h43 : List Hint := [.no, (.j ⟨1, [(1, (.w (.c (.ptr 0 0)))), (2, (.w (.c (.a (.c (.v (.int .i64 0))))))), (3, (.w (.c (.ptr 1 0)))), (8, (.w (.c (.pc (.x 1) 0)))), (9, (.w (.c (.a (.x 4)))))], [(0, (.box [(.pc (.x 1) 0), (.pc (.x 1) 1), (.pc (.x 1) 2), (.pc (.x 1) 3), (.pc (.x 1) 4), (.pc (.x 1) 5), (.pc (.x 1) 6)] 7 false)), (1, (.box [(.pc (.x 1) 0), (.a (.c (.v (.int .i64 0)))), (.a (.c (.v (.int .i64 0)))), (.a (.c (.v (.int .i64 0)))), (.a (.c (.v (.int .i64 0)))), (.a (.c (.v (.int .i64 0)))), (.a (.c (.v (.int .i64 0))))] 7 false))], 2, [], [], [1, 0]⟩), (.j ⟨6, [(3, (.w (.c (.ptr 0 0)))), (2, (.w (.c (.a (.c (.v (.int .i64 0))))))), (1, (.w (.c (.ptr 1 0))))], [(0, (.box [(.pc (.x 1) 0), (.a (.x 5)), (.a (.x 6)), (.a (.x 7)), (.a (.x 8)), (.a (.x 9)), (.a (.x 10))] 7 false)), (1, (.box [(.pc (.x 1) 0), (.pc (.x 1) 1), (.pc (.x 1) 2), (.pc (.x 1) 3), (.pc (.x 1) 4), (.pc (.x 1) 5), (.pc (.x 1) 6)] 7 false))], 2, [], [], [1, 0]⟩), .no, (.j ⟨3, [(3, (.w (.c (.ptr 0 0)))), (2, (.w (.c (.a (.c (.v (.int .i64 0))))))), (1, (.w (.c (.ptr 1 0))))], [(0, (.box [(.pc (.x 1) 0), (.a (.c (.v (.int .i64 0)))), (.a (.c (.v (.int .i64 0)))), (.a (.c (.v (.int .i64 0)))), (.a (.x 7)), (.a (.x 8)), (.a (.x 9))] 7 false)), (1, (.box [(.pc (.x 1) 0), (.pc (.x 1) 1), (.pc (.x 1) 2), (.pc (.x 1) 3), (.pc (.x 1) 4), (.pc (.x 1) 5), (.pc (.x 1) 6)] 7 false))], 2, [], [], [1, 0]⟩), .no, .no, (.j ⟨2, [(3, (.w (.c (.ptr 0 0)))), (2, (.w (.c (.a (.c (.v (.int .i64 0))))))), (1, (.w (.c (.ptr 1 0))))], [(0, (.box [(.pc (.x 1) 0), (.a (.c (.v (.int .i64 0)))), (.a (.c (.v (.int .i64 0)))), (.a (.c (.v (.int .i64 0)))), (.a (.c (.v (.int .i64 0)))), (.a (.x 9)), (.a (.x 10))] 7 false)), (1, (.box [(.pc (.x 1) 0), (.pc (.x 1) 1), (.pc (.x 1) 2), (.pc (.x 1) 3), (.pc (.x 1) 4), (.pc (.x 1) 5), (.pc (.x 1) 6)] 7 false))], 2, [], [], [1, 0]⟩), .no, .no, (.j ⟨1, [(3, (.w (.c (.ptr 0 0)))), (2, (.w (.c (.a (.c (.v (.int .i64 0))))))), (1, (.w (.c (.ptr 1 0)))), (47, (.w (.c (.a (.x 11)))))], [(0, (.box [(.pc (.x 1) 0), (.a (.c (.v (.int .i64 0)))), (.a (.c (.v (.int .i64 0)))), (.a (.c (.v (.int .i64 0)))), (.a (.c (.v (.int .i64 0)))), (.a (.c (.v (.int .i64 0)))), (.a (.c (.v (.int .i64 0))))] 7 false)), (1, (.box [(.pc (.x 1) 0), (.pc (.x 1) 1), (.pc (.x 1) 2), (.pc (.x 1) 3), (.pc (.x 1) 4), (.pc (.x 1) 5), (.pc (.x 1) 6)] 7 false))], 2, [], [], [1, 0]⟩), .no, .no]
theorem k43_ok : symF D 100000 43 h43 = some k43 := by kernel_rfl
theorem s43 : shs D 43 = some [.g] := by kernel_rfl
noncomputable def k44 : K :=
(.lt (.shape 2) [.x 0] <|
(.lt (.cell 1) [.x 1] <|
(.lt (.bin .lss) [.x 2, .c (.v (.int .i64 1))] <|
(.br (.x 3)
 (.lt .flat [.c (.v (.int .i64 8))] <|
 (.ret [.x 4]))
 (.lt (.cell 0) [.x 1] <|
 (.lt (.bin .eql) [.x 4, .c (.v (.int .i64 (-9223372036854775808)))] <|
 (.br (.x 5)
  (.lt .flat [.c (.v (.int .i64 8))] <|
  (.ret [.x 6]))
  (.lt (.cell 1) [.x 1] <|
  (.lt (.conv .u64) [.x 6] <|
  (.lt (.cell 0) [.x 1] <|
  (.call 45 [.x 8] <|
  (.call 50 [.x 7, .x 9] <|
  (.lt (.bin .gtr) [.x 10, .c (.v (.int .u64 1))] <|
  (.br (.x 11)
   (.lt .flat [.c (.v (.int .i64 8))] <|
   (.ret [.x 12]))
   (.lt .flat [.c (.v (.int .i64 0))] <|
   (.ret [.x 12]))))))))))))))))
noncomputable def h44 : List Hint := [.no, .no]
theorem k44_ok : symF D 100000 44 h44 = some k44 := by kernel_rfl
theorem s44 : shs D 44 = some [.g] := by kernel_rfl
noncomputable def k45 : K :=
(.lt (.bin .lss) [.x 0, .c (.v (.int .i64 0))] <|
(.br (.x 1)
 (.lt (.conv .u64) [.x 0] <|
 (.lt (.un .neg) [.x 2] <|
 (.lt .flat [.x 3] <|
 (.ret [.x 4]))))
 (.lt (.conv .u64) [.x 0] <|
 (.lt .flat [.x 2] <|
 (.ret [.x 3])))))
noncomputable def h45 : List Hint := [.no]
theorem k45_ok : symF D 100000 45 h45 = some k45 := by kernel_rfl
theorem s45 : shs D 45 = some [.c] := by kernel_rfl
noncomputable def k46 : K :=
(.lt (.shape 3) [.x 0] <|
(.lt (.cell 0) [.x 1] <|
(.lt (.bin .lss) [.x 2, .c (.v (.int .i64 0))] <|
(.br (.x 3)
 (.lt .flat [.c (.v (.int .i64 8))] <|
 (.ret [.x 4]))
 (.lt (.cell 0) [.x 1] <|
 (.lt (.bin .gtr) [.x 4, .c (.v (.int .i64 65535))] <|
 (.br (.x 5)
  (.lt .flat [.c (.v (.int .i64 8))] <|
  (.ret [.x 6]))
  (.lt (.cell 1) [.x 1] <|
  (.call 51 [.x 6] <|
  (.br (.x 7)
   (.lt .flat [.c (.v (.int .i64 8))] <|
   (.ret [.x 8]))
   (.lt (.cell 2) [.x 1] <|
   (.call 51 [.x 8] <|
   (.br (.x 9)
    (.lt .flat [.c (.v (.int .i64 8))] <|
    (.ret [.x 10]))
    (.lt .flat [.c (.v (.int .i64 0))] <|
    (.ret [.x 10])))))))))))))))
noncomputable def h46 : List Hint := [.no, .no]
theorem k46_ok : symF D 100000 46 h46 = some k46 := by kernel_rfl
theorem s46 : shs D 46 = some [.g] := by kernel_rfl
noncomputable def k47_1 : K :=
(.lt (.bin .neq) [.x 2, .c (.v (.int .u64 0))] <|
  (.br (.x 4)
   (.lt (.bin .rem) [.x 3, .x 2] <|
   (.jmp 1 [.x 5, .x 2]))
   (.jmp 0 [.x 3])))
noncomputable def k47_2 : K :=
(.lt .flat [.x 2] <|
 (.ret [.x 3]))
noncomputable def k47 : K :=
(.jp k47_2
 (.loop k47_1
  (.jmp 1 [.x 1, .x 0])))
noncomputable def h47 : List Hint := [(.j ⟨1, [(4, (.w (.c (.a (.c (.v (.int .u64 0))))))), (0, (.w (.c (.a (.x 2)))))], [], 0, [], [], []⟩), (.j ⟨2, [(1, (.w (.c (.a (.x 2))))), (0, (.w (.c (.a (.x 3))))), (4, (.w (.c (.a (.c (.v (.int .u64 0)))))))], [], 0, [], [], []⟩), .no, .no]
theorem k47_ok : symF D 100000 47 h47 = some k47 := by kernel_rfl
theorem s47 : shs D 47 = some [.c, .c] := by kernel_rfl
noncomputable def k48 : K :=
(.lt (.bin .lss) [.x 0, .c (.v (.int .i64 0))] <|
(.br (.x 1)
 (.lt (.bin .add) [.x 0, .c (.v (.int .i64 1))] <|
 (.lt (.un .neg) [.x 2] <|
 (.lt (.conv .u64) [.x 3] <|
 (.lt (.bin .add) [.x 4, .c (.v (.int .u64 1))] <|
 (.lt .flat [.x 5] <|
 (.ret [.x 6]))))))
 (.lt (.conv .u64) [.x 0] <|
 (.lt .flat [.x 2] <|
 (.ret [.x 3])))))
noncomputable def h48 : List Hint := [.no]
theorem k48_ok : symF D 100000 48 h48 = some k48 := by kernel_rfl
theorem s48 : shs D 48 = some [.c] := by kernel_rfl
noncomputable def k49_1 : K :=
(.lt (.bin .add) [.x 4, .c (.v (.int .i64 1))] <|
    (.jmp 1 [.x 10, .x 11]))
noncomputable def k49_2 : K :=
(.lt (.bin .add) [.x 1, .x 2] <|
  (.lt (.bin .lss) [.x 4, .x 5] <|
  (.br (.x 6)
   (.lt (.bin .mul) [.x 3, .c (.v (.int .u64 256))] <|
   (.lt .len [.x 0] <|
   (.lt (.bin .lss) [.x 4, .x 8] <|
   (.jp k49_1
    (.br (.x 9)
     (.lt (.tix 1) [.x 0, .x 4] <|
     (.lt (.elt 0 0) [.x 0, .x 10] <|
     (.lt (.conv .u64) [.x 11] <|
     (.lt (.bin .add) [.x 7, .x 12] <|
     (.jmp 2 [.x 13])))))
     (.jmp 2 [.x 7]))))))
   (.jmp 0 [.x 3]))))
noncomputable def k49_3 : K :=
(.lt .flat [.x 3] <|
 (.ret [.x 4]))
noncomputable def k49 : K :=
(.jp k49_3
 (.loop k49_2
  (.jmp 1 [.c (.v (.int .u64 0)), .x 1])))
noncomputable def h49 : List Hint := [(.j ⟨1, [(7, (.w (.c (.a (.x 3))))), (6, (.w (.c (.a (.c (.v (.int .u64 0)))))))], [], 0, [], [], []⟩), (.j ⟨2, [(2, (.w (.c (.a (.x 2))))), (1, (.w (.c (.a (.x 1))))), (0, (.w (.c (.a (.x 0))))), (6, (.w (.c (.a (.c (.v (.int .u64 0))))))), (7, (.w (.c (.a (.x 3))))), (8, (.w (.c (.a (.x 4)))))], [], 0, [], [], []⟩), .no, .no, (.j ⟨1, [(8, (.w (.c (.a (.x 4))))), (6, (.w (.c (.a (.c (.v (.int .u64 0))))))), (0, (.w (.c (.a (.x 0))))), (1, (.w (.c (.a (.x 1))))), (2, (.w (.c (.a (.x 2))))), (10, (.w (.c (.a (.x 4))))), (11, (.w (.c (.a (.x 1))))), (12, (.w (.c (.a (.x 2))))), (13, (.w (.c (.a (.x 5))))), (14, (.w (.c (.a (.x 6))))), (17, (.w (.c (.a (.x 3))))), (18, (.w (.c (.a (.x 7))))), (19, (.w (.c (.a (.x 4))))), (20, (.w (.c (.a (.x 0))))), (21, (.w (.c (.a (.x 8))))), (22, (.w (.c (.a (.x 9))))), (7, (.w (.c (.a (.x 10)))))], [], 0, [], [], []⟩)]
theorem k49_ok : symF D 100000 49 h49 = some k49 := by kernel_rfl
theorem s49 : shs D 49 = some [.c, .c, .c] := by kernel_rfl
noncomputable def k50_1 : K :=
(.lt (.bin .gtr) [.x 2, .c (.v (.int .u64 0))] <|
  (.br (.x 4)
   (.lt (.bin .rem) [.x 3, .x 2] <|
   (.jmp 1 [.x 5, .x 2]))
   (.jmp 0 [.x 3])))
noncomputable def k50_2 : K :=
(.lt .flat [.x 2] <|
 (.ret [.x 3]))
noncomputable def k50 : K :=
(.jp k50_2
 (.loop k50_1
  (.jmp 1 [.x 1, .x 0])))
noncomputable def h50 : List Hint := [(.j ⟨1, [(4, (.w (.c (.a (.c (.v (.int .u64 0))))))), (0, (.w (.c (.a (.x 2)))))], [], 0, [], [], []⟩), (.j ⟨2, [(1, (.w (.c (.a (.x 2))))), (0, (.w (.c (.a (.x 3))))), (4, (.w (.c (.a (.c (.v (.int .u64 0)))))))], [], 0, [], [], []⟩), .no, .no]
theorem k50_ok : symF D 100000 50 h50 = some k50 := by kernel_rfl
theorem s50 : shs D 50 = some [.c, .c] := by kernel_rfl
noncomputable def k51_1 : K :=
(.lt .flat [.x 1] <|
 (.ret [.x 2]))
noncomputable def k51 : K :=
(.jp k51_1
 (.lt (.bin .lss) [.x 0, .c (.v (.int .i64 (-1048576)))] <|
 (.br (.x 1)
  (.jmp 0 [.c (.v (.bool true))])
  (.lt (.bin .gtr) [.x 0, .c (.v (.int .i64 1048576))] <|
  (.jmp 0 [.x 2])))))
noncomputable def h51 : List Hint := [(.j ⟨1, [(2, (.w (.c (.a (.x 1)))))], [], 0, [], [], []⟩)]
theorem k51_ok : symF D 100000 51 h51 = some k51 := by kernel_rfl
theorem s51 : shs D 51 = some [.c] := by kernel_rfl
end Go.Proofs.Ythaokoopmhgfiaa
