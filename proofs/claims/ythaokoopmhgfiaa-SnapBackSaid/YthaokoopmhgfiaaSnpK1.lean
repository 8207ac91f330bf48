import Derived.Test.YthaokoopmhgfiaaSnpD
set_option linter.unusedVariables false
set_option linter.unusedSimpArgs false
set_option linter.defProp false
noncomputable section
namespace Go.Proofs.Ythaokoopmhgfiaa
open Go.Sym Go.Abu Go.Pev
noncomputable def k2 : K :=
(.call 1 [] <|
(.ret []))
noncomputable def h2 : List Hint := []
theorem k2_ok : symF D 100000 2 h2 = some k2 := by kernel_rfl
theorem s2 : shs D 2 = some [] := by kernel_rfl
noncomputable def k3_1 : K :=
(.lt .flat [.x 24] <|
        (.ret [.x 25]))
noncomputable def k3_2 : K :=
(.lt .flat [.x 24] <|
        (.ret [.x 25]))
noncomputable def k3_3 : K :=
(.lt .flat [.x 23] <|
       (.ret [.x 24]))
noncomputable def k3 : K :=
(.lt (.shape 4) [.x 0] <|
(.lt (.shape 4) [.x 1] <|
(.call 6 [] <|
(.lt (.part 3 1) [.x 2] <|
(.call 7 [.x 5] <|
(.br (.x 6)
 (.lt .flat [.x 4] <|
 (.ret [.x 7]))
 (.lt (.part 3 1) [.x 3] <|
 (.call 7 [.x 7] <|
 (.br (.x 8)
  (.lt .flat [.x 4] <|
  (.ret [.x 9]))
  (.lt (.un .not) [.x 4] <|
  (.br (.x 9)
   (.lt .flat [.x 4] <|
   (.ret [.x 10]))
   (.call 8 [.x 2] <|
   (.call 8 [.x 3] <|
   (.lt (.bin .eql) [.x 11, .c (.v (.int .i64 0))] <|
   (.call 9 [.x 2] <|
   (.lt (.bin .eql) [.x 15, .c (.v (.int .i64 0))] <|
   (.lt (.bbin .neq) [.x 14, .x 16] <|
   (.br (.x 17)
    (.lt .flat [.c (.v (.bool false))] <|
    (.ret [.x 18]))
    (.lt (.bin .eql) [.x 13, .c (.v (.int .i64 0))] <|
    (.call 9 [.x 3] <|
    (.lt (.bin .eql) [.x 19, .c (.v (.int .i64 0))] <|
    (.lt (.bbin .neq) [.x 18, .x 20] <|
    (.br (.x 21)
     (.lt .flat [.c (.v (.bool false))] <|
     (.ret [.x 22]))
     (.lt (.bin .neq) [.x 11, .c (.v (.int .i64 0))] <|
     (.br (.x 22)
      (.jp k3_3
       (.br (.x 4)
        (.lt (.bin .eql) [.x 11, .c (.v (.int .i64 0))] <|
        (.br (.x 23)
         (.lt (.bin .eql) [.x 13, .c (.v (.int .i64 0))] <|
         (.br (.x 24)
          (.jmp 0 [.c (.v (.bool true))])
          (.lt .len [.x 12] <|
          (.lt (.bin .eql) [.x 25, .c (.v (.int .i64 0))] <|
          (.jmp 0 [.x 26])))))
         (.lt .len [.x 10] <|
         (.lt (.bin .eql) [.x 24, .c (.v (.int .i64 0))] <|
         (.br (.x 25)
          (.lt (.bin .eql) [.x 13, .c (.v (.int .i64 0))] <|
          (.br (.x 26)
           (.jmp 0 [.c (.v (.bool true))])
           (.lt .len [.x 12] <|
           (.lt (.bin .eql) [.x 27, .c (.v (.int .i64 0))] <|
           (.jmp 0 [.x 28])))))
          (.jmp 0 [.c (.v (.bool false))]))))))
        (.jmp 0 [.c (.v (.bool false))])))
      (.lt (.bin .neq) [.x 13, .c (.v (.int .i64 0))] <|
      (.br (.x 23)
       (.jp k3_2
        (.br (.x 4)
         (.lt (.bin .eql) [.x 11, .c (.v (.int .i64 0))] <|
         (.br (.x 24)
          (.lt (.bin .eql) [.x 13, .c (.v (.int .i64 0))] <|
          (.br (.x 25)
           (.jmp 0 [.c (.v (.bool true))])
           (.lt .len [.x 12] <|
           (.lt (.bin .eql) [.x 26, .c (.v (.int .i64 0))] <|
           (.jmp 0 [.x 27])))))
          (.lt .len [.x 10] <|
          (.lt (.bin .eql) [.x 25, .c (.v (.int .i64 0))] <|
          (.br (.x 26)
           (.lt (.bin .eql) [.x 13, .c (.v (.int .i64 0))] <|
           (.br (.x 27)
            (.jmp 0 [.c (.v (.bool true))])
            (.lt .len [.x 12] <|
            (.lt (.bin .eql) [.x 28, .c (.v (.int .i64 0))] <|
            (.jmp 0 [.x 29])))))
           (.jmp 0 [.c (.v (.bool false))]))))))
         (.jmp 0 [.c (.v (.bool false))])))
       (.jp k3_1
        (.br (.x 4)
         (.lt .b2s [.x 10] <|
         (.lt .b2s [.x 12] <|
         (.lt (.bin .eql) [.x 24, .x 25] <|
         (.call 10 [.x 2, .x 3] <|
         (.lt (.bbin .eql) [.x 26, .x 27] <|
         (.jmp 0 [.x 28]))))))
         (.jmp 0 [.c (.v (.bool false))]))))))))))))))))))))))))))))))
noncomputable def h3 : List Hint := [.no, .no, .no, .no, .no, (.j ⟨1, [(2, (.w (.c (.ptr 0 0)))), (3, (.w (.c (.ptr 1 0)))), (5, (.w (.c (.a (.x 4))))), (6, (.w (.c (.a (.x 10))))), (8, (.w (.c (.a (.x 12))))), (4, (.w (.c (.a (.x 23)))))], [(0, (.box [(.pc (.x 2) 0), (.pc (.x 2) 1), (.pc (.x 2) 2), (.pc (.x 2) 3)] 4 false)), (1, (.box [(.pc (.x 3) 0), (.pc (.x 3) 1), (.pc (.x 3) 2), (.pc (.x 3) 3)] 4 false))], 2, [], [], [1, 0]⟩), .no, (.j ⟨1, [(2, (.w (.c (.ptr 0 0)))), (3, (.w (.c (.ptr 1 0)))), (5, (.w (.c (.a (.x 4))))), (6, (.w (.c (.a (.x 10))))), (8, (.w (.c (.a (.x 12))))), (4, (.w (.c (.a (.x 24)))))], [(0, (.box [(.pc (.x 2) 0), (.pc (.x 2) 1), (.pc (.x 2) 2), (.pc (.x 2) 3)] 4 false)), (1, (.box [(.pc (.x 3) 0), (.pc (.x 3) 1), (.pc (.x 3) 2), (.pc (.x 3) 3)] 4 false))], 2, [], [], [1, 0]⟩), (.j ⟨1, [(4, (.w (.c (.a (.x 24)))))], [], 0, [], [], []⟩)]
theorem k3_ok : symF D 100000 3 h3 = some k3 := by kernel_rfl
theorem s3 : shs D 3 = some [.g, .g] := by kernel_rfl
noncomputable def k4_1 : K :=
(.lt .flat [.x 26] <|
   (.ret [.x 27]))
noncomputable def k4 : K :=
(.lt (.shape 4) [.x 0] <|
(.lt (.part 3 1) [.x 3] <|
(.call 7 [.x 4] <|
(.br (.x 5)
 (.lt .flat [.c (.v (.bool true))] <|
 (.ret [.x 6]))
 (.lt .len [.x 1] <|
 (.lt (.bin .gtr) [.x 6, .c (.v (.int .i64 600))] <|
 (.br (.x 7)
  (.lt .flat [.c (.v (.bool true))] <|
  (.ret [.x 8]))
  (.call 11 [.x 3] <|
  (.lt (.app 1 1) [.c (.sl []), .c (.v (.int .i64 0)), .x 1] <|
  (.lt .len [.x 9] <|
  (.lt (.shape 4) [.x 8] <|
  (.call 8 [.x 11] <|
  (.call 12 [.x 3] <|
  (.call 13 [.x 1] <|
  (.lt (.shape 4) [.x 16] <|
  (.call 14 [.x 1] <|
  (.lt (.shape 4) [.x 19] <|
  (.call 15 [.x 2] <|
  (.call 16 [.x 2] <|
  (.jp k4_1
   (.call 17 [.x 11] <|
   (.call 9 [.x 3] <|
   (.lt (.bin .eql) [.x 26, .x 27] <|
   (.br (.x 28)
    (.lt .b2s [.x 12] <|
    (.lt .b2s [.x 14] <|
    (.lt (.bin .eql) [.x 29, .x 30] <|
    (.br (.x 31)
     (.lt (.bin .eql) [.x 13, .x 15] <|
     (.br (.x 32)
      (.call 10 [.x 18, .x 21] <|
      (.br (.x 33)
       (.lt (.bin .eql) [.x 17, .x 20] <|
       (.br (.x 34)
        (.lt (.bin .eql) [.x 22, .x 24] <|
        (.br (.x 35)
         (.lt (.bin .eql) [.x 23, .x 25] <|
         (.br (.x 36)
          (.call 10 [.x 11, .x 3] <|
          (.br (.x 37)
           (.lt .b2s [.x 1] <|
           (.lt .sub [.x 9, .c (.v (.int .i64 0)), .x 10] <|
           (.lt .b2s [.x 39] <|
           (.lt (.bin .eql) [.x 38, .x 40] <|
           (.jmp 0 [.x 41])))))
           (.jmp 0 [.c (.v (.bool false))])))
          (.jmp 0 [.c (.v (.bool false))])))
         (.jmp 0 [.c (.v (.bool false))])))
        (.jmp 0 [.c (.v (.bool false))])))
       (.jmp 0 [.c (.v (.bool false))])))
      (.jmp 0 [.c (.v (.bool false))])))
     (.jmp 0 [.c (.v (.bool false))])))))
    (.jmp 0 [.c (.v (.bool false))])))))))))))))))))))))))))
noncomputable def h4 : List Hint := [.no, .no, (.j ⟨1, [(6, (.w (.c (.a (.x 26)))))], [], 0, [], [], []⟩)]
theorem k4_ok : symF D 100000 4 h4 = some k4 := by kernel_rfl
theorem s4 : shs D 4 = some [.g, .c, .c] := by kernel_rfl
noncomputable def k5_1 : K :=
(.br (.x 51)
              (.lt .flat [.c (.v (.bool false))] <|
              (.ret [.x 52]))
              (.jmp 0 []))
noncomputable def k5_2 : K :=
(.lt .flat [.x 24] <|
        (.ret [.x 25]))
noncomputable def k5_3 : K :=
(.lt .flat [.x 22] <|
        (.ret [.x 23]))
noncomputable def k5_4 : K :=
(.call 13 [.x 1] <|
      (.lt (.shape 4) [.x 18] <|
      (.lt (.bin .neq) [.x 19, .c (.v (.int .i64 0))] <|
      (.br (.x 21)
       (.jp k5_3
        (.br (.x 3)
         (.lt (.bin .eql) [.x 19, .c (.v (.int .i64 12))] <|
         (.jmp 0 [.x 22]))
         (.jmp 0 [.c (.v (.bool false))])))
       (.call 8 [.x 20] <|
       (.jp k5_2
        (.br (.x 3)
         (.lt (.bin .eql) [.x 23, .c (.v (.int .i64 0))] <|
         (.br (.x 24)
          (.lt .b2s [.x 22] <|
          (.lt .b2s [.x 1] <|
          (.lt (.bin .eql) [.x 25, .x 26] <|
          (.br (.x 27)
           (.call 17 [.x 20] <|
           (.lt (.bin .eql) [.x 28, .c (.v (.int .i64 0))] <|
           (.jmp 0 [.x 29])))
           (.jmp 0 [.c (.v (.bool false))])))))
          (.jmp 0 [.c (.v (.bool false))])))
         (.jmp 0 [.c (.v (.bool false))]))))))))
noncomputable def k5 : K :=
(.lt (.shape 4) [.x 0] <|
(.call 6 [] <|
(.lt (.part 3 1) [.x 2] <|
(.call 7 [.x 4] <|
(.br (.x 5)
 (.lt .flat [.x 3] <|
 (.ret [.x 6]))
 (.lt .len [.x 1] <|
 (.lt (.bin .gtr) [.x 6, .c (.v (.int .i64 522))] <|
 (.br (.x 7)
  (.lt .flat [.x 3] <|
  (.ret [.x 8]))
  (.lt (.un .not) [.x 3] <|
  (.br (.x 8)
   (.lt .flat [.x 3] <|
   (.ret [.x 9]))
   (.call 8 [.x 2] <|
   (.call 17 [.x 2] <|
   (.lt (.bin .neq) [.x 10, .x 11] <|
   (.br (.x 12)
    (.lt .flat [.c (.v (.bool false))] <|
    (.ret [.x 13]))
    (.lt (.bin .eql) [.x 10, .c (.v (.int .i64 0))] <|
    (.call 9 [.x 2] <|
    (.lt (.bin .eql) [.x 14, .c (.v (.int .i64 0))] <|
    (.lt (.bbin .neq) [.x 13, .x 15] <|
    (.br (.x 16)
     (.lt .flat [.c (.v (.bool false))] <|
     (.ret [.x 17]))
     (.lt (.bin .eql) [.x 10, .c (.v (.int .i64 0))] <|
     (.jp k5_4
      (.br (.x 17)
       (.lt (.cell 3) [.x 2] <|
       (.lt .len [.x 18] <|
       (.call 15 [.x 19] <|
       (.call 13 [.x 9] <|
       (.lt (.shape 4) [.x 22] <|
       (.lt (.bin .neq) [.x 21, .c (.v (.int .i64 0))] <|
       (.br (.x 25)
        (.lt .flat [.c (.v (.bool false))] <|
        (.ret [.x 26]))
        (.lt .len [.x 9] <|
        (.lt (.bin .neq) [.x 20, .x 26] <|
        (.br (.x 27)
         (.lt .flat [.c (.v (.bool false))] <|
         (.ret [.x 28]))
         (.lt .len [.x 9] <|
         (.lt (.bin .lss) [.x 28, .c (.v (.int .i64 10))] <|
         (.br (.x 29)
          (.lt .flat [.c (.v (.bool false))] <|
          (.ret [.x 30]))
          (.lt (.bin .neq) [.x 23, .c (.v (.int .i64 0))] <|
          (.br (.x 30)
           (.lt .flat [.c (.v (.bool false))] <|
           (.ret [.x 31]))
           (.call 10 [.x 24, .x 2] <|
           (.lt (.un .not) [.x 31] <|
           (.br (.x 32)
            (.lt .flat [.c (.v (.bool false))] <|
            (.ret [.x 33]))
            (.lt .len [.x 9] <|
            (.lt (.bin .sub) [.x 33, .c (.v (.int .i64 1))] <|
            (.lt .len [.x 9] <|
            (.lt .bnd [.x 34, .x 35] <|
            (.lt (.tsub 1) [.x 9, .c (.v (.int .i64 0)), .x 36] <|
            (.call 13 [.x 37] <|
            (.lt (.shape 4) [.x 38] <|
            (.lt (.app 1 1) [.c (.sl []), .c (.v (.int .i64 0)), .x 9] <|
            (.lt .len [.x 41] <|
            (.lt (.bs 1 [(.v (.int .u8 0))] [0]) [.c (.v (.int .u8 0))] <|
            (.lt .sub [.x 43, .c (.v (.int .i64 0)), .c (.v (.int .i64 1))] <|
            (.lt (.app 1 1) [.x 41, .x 42, .x 44] <|
            (.lt .len [.x 45] <|
            (.lt .sub [.x 45, .c (.v (.int .i64 0)), .x 46] <|
            (.call 13 [.x 47] <|
            (.lt (.shape 4) [.x 48] <|
            (.jp k5_1
             (.lt (.bin .neq) [.x 39, .c (.v (.int .i64 12))] <|
             (.br (.x 51)
              (.jmp 1 [.c (.v (.bool true))])
              (.lt (.bin .neq) [.x 49, .c (.v (.int .i64 12))] <|
              (.br (.x 52)
               (.lt (.bin .neq) [.x 49, .c (.v (.int .i64 4))] <|
               (.br (.x 53)
                (.jmp 1 [.c (.v (.bool true))])
                (.lt .len [.x 9] <|
                (.lt (.bin .neq) [.x 54, .c (.v (.int .i64 522))] <|
                (.jmp 1 [.x 55])))))
               (.jmp 1 [.c (.v (.bool false))]))))))))))))))))))))))))))))))))))))))))
       (.jmp 0 [])))))))))))))))))))))))
noncomputable def h5 : List Hint := [.no, .no, .no, .no, (.j ⟨0, [(5, (.w (.c (.a (.x 3))))), (4, (.w (.c (.a (.c (.v (.bool false))))))), (1, (.w (.c (.a (.x 1)))))], [], 0, [], [], []⟩), .no, .no, (.j ⟨1, [(1, (.w (.c (.a (.x 1))))), (4, (.w (.c (.a (.c (.v (.bool false))))))), (5, (.w (.c (.a (.x 3))))), (123, (.w (.c (.a (.x 51)))))], [], 0, [], [], []⟩), .no, .no, (.j ⟨1, [(1, (.w (.c (.a (.x 1))))), (5, (.w (.c (.a (.x 3))))), (16, (.w (.c (.ptr 0 0)))), (4, (.w (.c (.a (.x 22)))))], [(0, (.box [(.pc (.x 20) 0), (.pc (.x 20) 1), (.pc (.x 20) 2), (.pc (.x 20) 3)] 4 false))], 1, [], [], [0]⟩), (.j ⟨1, [(4, (.w (.c (.a (.x 24)))))], [], 0, [], [], []⟩)]
theorem k5_ok : symF D 100000 5 h5 = some k5 := by kernel_rfl
theorem s5 : shs D 5 = some [.g, .c] := by kernel_rfl
noncomputable def k6_1 : K :=
(.lt .flat [.x 4] <|
 (.ret [.x 5]))
noncomputable def k6 : K :=
(.call 18 [.c (.v (.int .i64 0))] <|
(.lt .agg [.c (.v (.int .i64 258)), .c (.v (.int .i64 0)), .c (.v (.int .i64 (-1)))] <|
(.lt (.bs 1 [(.v (.int .i64 0)), (.v (.int .i64 0)), (.v (.int .i64 0))] [0]) [.x 1] <|
(.lt (.shape 2) [.x 0] <|
(.jp k6_1
 (.call 18 [.c (.v (.int .i64 0))] <|
 (.lt (.shape 2) [.x 4] <|
 (.lt (.bs 10 [(.v (.int .u8 0))] [0, 1, 2, 3, 4, 5, 6, 7, 8, 9]) [.c (.v (.int .u8 80)), .c (.v (.int .u8 75)), .c (.v (.int .u8 1)), .c (.v (.int .u8 64)), .c (.v (.int .u8 0)), .c (.v (.int .u8 0)), .c (.v (.int .u8 0)), .c (.v (.int .u8 0)), .c (.v (.int .u8 1)), .c (.v (.int .u8 0))] <|
 (.lt (.part 0 2) [.x 5] <|
 (.lt .agg [.c (.v (.int .u8 1)), .x 7, .c (.sl [])] <|
 (.lt .sub [.x 6, .c (.v (.int .i64 0)), .c (.v (.int .i64 10))] <|
 (.call 19 [.x 8, .x 9] <|
 (.br (.x 10)
  (.lt (.bs 18 [(.v (.int .u8 0))] [0, 1, 2, 3, 4, 5, 6, 7, 8, 9, 10, 11, 12, 13, 14, 15, 16, 17]) [.c (.v (.int .u8 80)), .c (.v (.int .u8 75)), .c (.v (.int .u8 1)), .c (.v (.int .u8 64)), .c (.v (.int .u8 0)), .c (.v (.int .u8 0)), .c (.v (.int .u8 0)), .c (.v (.int .u8 0)), .c (.v (.int .u8 1)), .c (.v (.int .u8 1)), .c (.v (.int .u8 1)), .c (.v (.int .u8 2)), .c (.v (.int .u8 16)), .c (.v (.int .u8 0)), .c (.v (.int .u8 0)), .c (.v (.int .u8 15)), .c (.v (.int .u8 255)), .c (.v (.int .u8 255))] <|
  (.lt (.part 0 2) [.x 3] <|
  (.lt .sub [.x 2, .c (.v (.int .i64 0)), .c (.v (.int .i64 1))] <|
  (.lt .agg [.c (.v (.int .u8 1)), .x 12, .x 13] <|
  (.lt .sub [.x 11, .c (.v (.int .i64 0)), .c (.v (.int .i64 18))] <|
  (.call 19 [.x 14, .x 15] <|
  (.jmp 0 [.x 16])))))))
  (.jmp 0 [.c (.v (.bool false))]))))))))))))))
noncomputable def h6 : List Hint := [(.j ⟨1, [(0, (.w (.c (.a (.x 4)))))], [], 0, [], [], []⟩)]
theorem k6_ok : symF D 100000 6 h6 = some k6 := by kernel_rfl
theorem s6 : shs D 6 = some [] := by kernel_rfl
noncomputable def k7_1 : K :=
(.lt .flat [.x 2] <|
 (.ret [.x 3]))
noncomputable def k7 : K :=
(.lt (.shape 1) [.x 0] <|
(.jp k7_1
 (.lt (.cell 0) [.x 1] <|
 (.lt .len [.x 2] <|
 (.lt (.bin .gtr) [.x 3, .c (.v (.int .i64 16))] <|
 (.br (.x 4)
  (.lt (.cell 0) [.x 1] <|
  (.lt .len [.x 5] <|
  (.lt (.bin .lss) [.x 6, .c (.v (.int .i64 64))] <|
  (.br (.x 7)
   (.jmp 0 [.c (.v (.bool true))])
   (.lt (.cell 0) [.x 1] <|
   (.lt .len [.x 8] <|
   (.lt (.bin .gtr) [.x 9, .c (.v (.int .i64 70))] <|
   (.jmp 0 [.x 10]))))))))
  (.lt (.cell 0) [.x 1] <|
  (.lt .len [.x 5] <|
  (.lt (.bin .gtr) [.x 6, .c (.v (.int .i64 70))] <|
  (.jmp 0 [.x 7]))))))))))
noncomputable def h7 : List Hint := [(.j ⟨1, [(2, (.w (.c (.a (.x 2)))))], [], 0, [], [], []⟩)]
theorem k7_ok : symF D 100000 7 h7 = some k7 := by kernel_rfl
theorem s7 : shs D 7 = some [.g] := by kernel_rfl
noncomputable def k8_1 : K :=
(.lt (.bin .lss) [.x 26, .x 23] <|
      (.br (.x 27)
       (.lt (.cell 3) [.x 1] <|
       (.lt (.tix 3) [.x 28, .x 26] <|
       (.lt (.elt 0 3) [.x 28, .x 29] <|
       (.lt .sub [.x 24, .c (.v (.int .i64 0)), .x 25] <|
       (.lt (.cell 0) [.x 30] <|
       (.call 20 [.x 31, .x 32, .c (.v (.int .i64 2))] <|
       (.lt .len [.x 33] <|
       (.lt (.cell 1) [.x 30] <|
       (.lt (.bin .add) [.x 35, .c (.v (.int .i64 1048576))] <|
       (.lt .sub [.x 33, .c (.v (.int .i64 0)), .x 34] <|
       (.call 20 [.x 37, .x 36, .c (.v (.int .i64 3))] <|
       (.lt .len [.x 38] <|
       (.lt (.cell 2) [.x 30] <|
       (.lt (.bin .add) [.x 40, .c (.v (.int .i64 1048576))] <|
       (.lt .sub [.x 38, .c (.v (.int .i64 0)), .x 39] <|
       (.call 20 [.x 42, .x 41, .c (.v (.int .i64 3))] <|
       (.lt .len [.x 43] <|
       (.lt (.bin .add) [.x 26, .c (.v (.int .i64 1))] <|
       (.jmp 1 [.x 43, .x 44, .x 45])))))))))))))))))))
       (.jmp 0 [.x 24, .x 25])))
noncomputable def k8_2 : K :=
(.lt .sub [.x 24, .c (.v (.int .i64 0)), .x 25] <|
  (.lt .tree [.x 26] <|
  (.lt .tree [.c (.v (.int .i64 0))] <|
  (.ret [.x 27, .x 28]))))
noncomputable def k8 : K :=
(.lt (.shape 4) [.x 0] <|
(.call 17 [.x 1] <|
(.lt (.bin .neq) [.x 2, .c (.v (.int .i64 0))] <|
(.br (.x 3)
 (.lt .tree [.c (.sl [])] <|
 (.lt .tree [.x 2] <|
 (.ret [.x 4, .x 5])))
 (.lt (.cell 0) [.x 1] <|
 (.lt (.bs 3 [(.v (.int .u8 0))] [0, 1, 2]) [.c (.v (.int .u8 80)), .c (.v (.int .u8 75)), .x 4] <|
 (.lt (.cell 1) [.x 1] <|
 (.lt (.bin .add) [.x 6, .c (.v (.int .i64 1073741824))] <|
 (.lt .sub [.x 5, .c (.v (.int .i64 0)), .c (.v (.int .i64 3))] <|
 (.call 20 [.x 8, .x 7, .c (.v (.int .i64 4))] <|
 (.lt .len [.x 9] <|
 (.lt .sub [.x 9, .c (.v (.int .i64 0)), .x 10] <|
 (.lt (.cell 2) [.x 1] <|
 (.call 20 [.x 11, .x 12, .c (.v (.int .i64 2))] <|
 (.lt .len [.x 13] <|
 (.lt (.cell 3) [.x 1] <|
 (.lt .len [.x 15] <|
 (.lt (.conv .u8) [.x 16] <|
 (.lt (.bs 1 [(.v (.int .u8 0))] [0]) [.x 17] <|
 (.lt .sub [.x 18, .c (.v (.int .i64 0)), .c (.v (.int .i64 1))] <|
 (.lt (.app 1 1) [.x 13, .x 14, .x 19] <|
 (.lt .len [.x 20] <|
 (.lt (.cell 3) [.x 1] <|
 (.lt .len [.x 22] <|
 (.jp k8_2
  (.loop k8_1
   (.jmp 1 [.x 20, .x 21, .c (.v (.int .i64 0))])))))))))))))))))))))))))))
noncomputable def h8 : List Hint := [.no, (.j ⟨2, [(5, (.w (.c (.lsl 0 (.c (.v (.int .i64 0))) (.x 25))))), (3, (.w (.c (.a (.c (.v (.int .i64 0))))))), (2, (.w (.c .nil)))], [(0, (.lst (.x 24) 5 1 false))], 1, [], [], [0]⟩), (.j ⟨3, [(2, (.w (.c .nil))), (3, (.w (.c (.a (.c (.v (.int .i64 0))))))), (5, (.w (.c (.lsl 0 (.c (.v (.int .i64 0))) (.x 25))))), (40, (.w (.c (.pc (.x 1) 3)))), (41, (.w (.c (.a (.x 23))))), (42, (.w (.c (.a (.x 26)))))], [(0, (.lst (.x 24) 5 1 false))], 1, [], [], [0]⟩), .no, .no]
theorem k8_ok : symF D 100000 8 h8 = some k8 := by kernel_rfl
theorem s8 : shs D 8 = some [.g] := by kernel_rfl
noncomputable def k9 : K :=
(.lt (.shape 4) [.x 0] <|
(.lt (.cell 0) [.x 1] <|
(.lt (.bin .lss) [.x 2, .c (.v (.int .u8 1))] <|
(.br (.x 3)
 (.lt .flat [.c (.v (.int .i64 8))] <|
 (.ret [.x 4]))
 (.lt (.cell 0) [.x 1] <|
 (.lt (.bin .gtr) [.x 4, .c (.v (.int .u8 4))] <|
 (.br (.x 5)
  (.lt .flat [.c (.v (.int .i64 8))] <|
  (.ret [.x 6]))
  (.lt (.part 1 3) [.x 1] <|
  (.call 21 [.x 6] <|
  (.lt (.bin .neq) [.x 7, .c (.v (.int .i64 0))] <|
  (.br (.x 8)
   (.lt .flat [.c (.v (.int .i64 8))] <|
   (.ret [.x 9]))
   (.lt .flat [.c (.v (.int .i64 0))] <|
   (.ret [.x 9])))))))))))))
noncomputable def h9 : List Hint := [.no, .no]
theorem k9_ok : symF D 100000 9 h9 = some k9 := by kernel_rfl
theorem s9 : shs D 9 = some [.g] := by kernel_rfl
noncomputable def k10_1 : K :=
(.lt .flat [.x 4] <|
 (.ret [.x 5]))
noncomputable def k10 : K :=
(.lt (.shape 4) [.x 0] <|
(.lt (.shape 4) [.x 1] <|
(.jp k10_1
 (.lt (.cell 0) [.x 2] <|
 (.lt (.cell 0) [.x 3] <|
 (.lt (.bin .eql) [.x 4, .x 5] <|
 (.br (.x 6)
  (.lt (.part 1 3) [.x 2] <|
  (.lt (.part 1 3) [.x 3] <|
  (.call 22 [.x 7, .x 8] <|
  (.jmp 0 [.x 9]))))
  (.jmp 0 [.c (.v (.bool false))]))))))))
noncomputable def h10 : List Hint := [(.j ⟨1, [(4, (.w (.c (.a (.x 4)))))], [], 0, [], [], []⟩)]
theorem k10_ok : symF D 100000 10 h10 = some k10 := by kernel_rfl
theorem s10 : shs D 10 = some [.g, .g] := by kernel_rfl
noncomputable def k11 : K :=
(.lt (.shape 4) [.x 0] <|
(.lt (.part 1 3) [.x 1] <|
(.call 23 [.x 2] <|
(.lt (.shape 3) [.x 3] <|
(.lt (.cell 0) [.x 1] <|
(.lt (.part 0 3) [.x 4] <|
(.lt .agg [.x 5, .x 6] <|
(.lt .tree [.x 7] <|
(.ret [.x 8])))))))))
noncomputable def h11 : List Hint := []
theorem k11_ok : symF D 100000 11 h11 = some k11 := by kernel_rfl
theorem s11 : shs D 11 = some [.g] := by kernel_rfl
noncomputable def k12 : K :=
(.lt (.shape 4) [.x 0] <|
(.call 9 [.x 1] <|
(.lt (.bin .neq) [.x 2, .c (.v (.int .i64 0))] <|
(.br (.x 3)
 (.lt .tree [.c (.sl [])] <|
 (.lt .tree [.x 2] <|
 (.ret [.x 4, .x 5])))
 (.call 24 [.x 1] <|
 (.lt .tree [.x 4] <|
 (.lt .tree [.c (.v (.int .i64 0))] <|
 (.ret [.x 5, .x 6]))))))))
noncomputable def h12 : List Hint := [.no]
theorem k12_ok : symF D 100000 12 h12 = some k12 := by kernel_rfl
theorem s12 : shs D 12 = some [.g] := by kernel_rfl
noncomputable def k13_1 : K :=
(.lt .len [.x 30] <|
         (.lt (.bin .lss) [.x 32, .x 35] <|
         (.br (.x 36)
          (.lt .len [.x 30] <|
          (.lt .bnd [.x 32, .x 37] <|
          (.lt (.tsub 1) [.x 30, .x 38, .x 37] <|
          (.lt .len [.x 39] <|
          (.lt (.mm false) [.c (.v (.int .i64 8)), .x 40] <|
          (.lt (.bin .add) [.x 32, .x 41] <|
          (.lt (.bin .add) [.x 32, .x 41] <|
          (.lt (.tsub3 1) [.x 30, .x 32, .x 42, .x 43] <|
          (.call 25 [.x 44, .c (.v (.int .i64 2))] <|
          (.call 25 [.x 46, .c (.v (.int .i64 3))] <|
          (.call 25 [.x 48, .c (.v (.int .i64 3))] <|
          (.lt (.bin .sub) [.x 47, .c (.v (.int .i64 1048576))] <|
          (.lt (.bin .sub) [.x 49, .c (.v (.int .i64 1048576))] <|
          (.lt .agg [.x 45, .x 51, .x 52] <|
          (.lt (.bs 1 [(.v (.int .i64 0)), (.v (.int .i64 0)), (.v (.int .i64 0))] [0]) [.x 53] <|
          (.lt .sub [.x 54, .c (.v (.int .i64 0)), .c (.v (.int .i64 1))] <|
          (.lt (.app 24 3) [.x 33, .x 34, .x 55] <|
          (.lt .len [.x 56] <|
          (.lt (.un .not) [.c (.v (.bool true))] <|
          (.br (.x 58)
           (.jmp 0 [.x 56, .x 57])
           (.lt (.bin .add) [.x 32, .c (.v (.int .i64 8))] <|
           (.jmp 2 [.x 59, .x 56, .x 57]))))))))))))))))))))))
          (.jmp 1 [.x 33, .x 34]))))
noncomputable def k13_2 : K :=
(.jmp 0 [.x 32, .x 33])
noncomputable def k13_3 : K :=
(.lt .sub [.x 32, .c (.v (.int .i64 0)), .x 33] <|
       (.lt .agg [.x 19, .x 27, .x 25, .x 34] <|
       (.call 17 [.x 35] <|
       (.lt (.bin .neq) [.x 36, .c (.v (.int .i64 0))] <|
       (.br (.x 37)
        (.lt .agg [.c (.v (.int .u8 0)), .c (.v (.int .i64 0)), .c (.v (.int .i64 0)), .c (.sl [])] <|
        (.lt .tree [.x 38] <|
        (.lt .tree [.c (.v (.int .i64 12))] <|
        (.ret [.x 39, .x 40]))))
        (.lt .sub [.x 32, .c (.v (.int .i64 0)), .x 33] <|
        (.lt .agg [.x 19, .x 27, .x 25, .x 38] <|
        (.lt .tree [.x 39] <|
        (.lt .tree [.c (.v (.int .i64 0))] <|
        (.ret [.x 40, .x 41]))))))))))
noncomputable def k13 : K :=
(.lt .len [.x 0] <|
(.lt (.bin .gtr) [.x 1, .c (.v (.int .i64 522))] <|
(.br (.x 2)
 (.lt .agg [.c (.v (.int .u8 0)), .c (.v (.int .i64 0)), .c (.v (.int .i64 0)), .c (.sl [])] <|
 (.lt .tree [.x 3] <|
 (.lt .tree [.c (.v (.int .i64 4))] <|
 (.ret [.x 4, .x 5]))))
 (.lt .len [.x 0] <|
 (.lt (.bin .lss) [.x 3, .c (.v (.int .i64 10))] <|
 (.br (.x 4)
  (.lt .agg [.c (.v (.int .u8 0)), .c (.v (.int .i64 0)), .c (.v (.int .i64 0)), .c (.sl [])] <|
  (.lt .tree [.x 5] <|
  (.lt .tree [.c (.v (.int .i64 12))] <|
  (.ret [.x 6, .x 7]))))
  (.lt (.tix 1) [.x 0, .c (.v (.int .i64 0))] <|
  (.lt (.elt 0 0) [.x 0, .x 5] <|
  (.lt (.bin .neq) [.x 6, .c (.v (.int .u8 80))] <|
  (.br (.x 7)
   (.lt .agg [.c (.v (.int .u8 0)), .c (.v (.int .i64 0)), .c (.v (.int .i64 0)), .c (.sl [])] <|
   (.lt .tree [.x 8] <|
   (.lt .tree [.c (.v (.int .i64 12))] <|
   (.ret [.x 9, .x 10]))))
   (.lt (.tix 1) [.x 0, .c (.v (.int .i64 1))] <|
   (.lt (.elt 0 0) [.x 0, .x 8] <|
   (.lt (.bin .neq) [.x 9, .c (.v (.int .u8 75))] <|
   (.br (.x 10)
    (.lt .agg [.c (.v (.int .u8 0)), .c (.v (.int .i64 0)), .c (.v (.int .i64 0)), .c (.sl [])] <|
    (.lt .tree [.x 11] <|
    (.lt .tree [.c (.v (.int .i64 12))] <|
    (.ret [.x 12, .x 13]))))
    (.lt .len [.x 0] <|
    (.lt (.tix 1) [.x 0, .c (.v (.int .i64 9))] <|
    (.lt (.elt 0 0) [.x 0, .x 12] <|
    (.lt (.conv .i64) [.x 13] <|
    (.lt (.bin .mul) [.c (.v (.int .i64 8)), .x 14] <|
    (.lt (.bin .add) [.c (.v (.int .i64 10)), .x 15] <|
    (.lt (.bin .neq) [.x 11, .x 16] <|
    (.br (.x 17)
     (.lt .agg [.c (.v (.int .u8 0)), .c (.v (.int .i64 0)), .c (.v (.int .i64 0)), .c (.sl [])] <|
     (.lt .tree [.x 18] <|
     (.lt .tree [.c (.v (.int .i64 12))] <|
     (.ret [.x 19, .x 20]))))
     (.lt (.tix 1) [.x 0, .c (.v (.int .i64 2))] <|
     (.lt (.elt 0 0) [.x 0, .x 18] <|
     (.lt .len [.x 0] <|
     (.lt .bnd [.c (.v (.int .i64 3)), .x 20] <|
     (.lt (.tsub 1) [.x 0, .x 21, .x 20] <|
     (.call 25 [.x 22, .c (.v (.int .i64 4))] <|
     (.call 25 [.x 24, .c (.v (.int .i64 2))] <|
     (.lt (.bin .sub) [.x 23, .c (.v (.int .i64 1073741824))] <|
     (.lt .len [.x 26] <|
     (.lt .bnd [.c (.v (.int .i64 1)), .x 28] <|
     (.lt (.tsub 1) [.x 26, .x 29, .x 28] <|
     (.lt (.bin .lss) [.c (.v (.int .i64 8)), .c (.v (.int .i64 1))] <|
     (.br (.x 31)
      .dead
      (.jp k13_3
       (.jp k13_2
        (.loop k13_1
         (.jmp 2 [.c (.v (.int .i64 0)), .c (.sl []), .c (.v (.int .i64 0))])))))))))))))))))))))))))))))))))))))))
noncomputable def h13 : List Hint := [.no, .no, .no, .no, (.j ⟨2, [(2, (.w (.c (.ptr 0 0)))), (3, (.w (.c (.a (.c (.v (.int .i64 0))))))), (4, (.w (.c (.ptr 1 0))))], [(0, (.box [(.a (.c (.v (.int .u8 0)))), (.a (.c (.v (.int .i64 0)))), (.a (.c (.v (.int .i64 0)))), .nil] 4 false)), (1, (.box [(.a (.x 19)), (.a (.x 27)), (.a (.x 25)), (.lsl 2 (.c (.v (.int .i64 0))) (.x 33))] 4 false)), (2, (.lst (.x 32) 55 3 false))], 3, [], [], [1, 0]⟩), (.j ⟨2, [], [(0, (.box [(.a (.c (.v (.int .u8 0)))), (.a (.c (.v (.int .i64 0)))), (.a (.c (.v (.int .i64 0)))), .nil] 4 false)), (1, (.box [(.a (.x 19)), (.a (.x 27)), (.a (.x 25)), (.lsl 5 (.c (.v (.int .i64 0))) (.x 33))] 4 false)), (2, (.box [(.a (.x 30))] 1 false)), (3, (.box [(.a (.c (.v (.int .i64 8))))] 1 false)), (5, (.lst (.x 32) 55 3 false))], 6, [], [], [3, 2, 1, 0]⟩), (.j ⟨3, [(2, (.w (.c (.ptr 3 0)))), (1, (.w (.c (.ptr 2 0)))), (0, (.w (.c (.yl 4)))), (4, (.w (.c (.a (.x 32)))))], [(0, (.box [(.a (.c (.v (.int .u8 0)))), (.a (.c (.v (.int .i64 0)))), (.a (.c (.v (.int .i64 0)))), .nil] 4 false)), (1, (.box [(.a (.x 19)), (.a (.x 27)), (.a (.x 25)), (.lsl 5 (.c (.v (.int .i64 0))) (.x 34))] 4 false)), (2, (.box [(.a (.x 30))] 1 false)), (3, (.box [(.a (.c (.v (.int .i64 8))))] 1 false)), (5, (.lst (.x 33) 55 3 false))], 6, [], [], [1, 0, 2, 3]⟩), .no, .no, .no, .no, .no]
theorem k13_ok : symF D 100000 13 h13 = some k13 := by kernel_rfl
theorem s13 : shs D 13 = some [.c] := by kernel_rfl
end Go.Proofs.Ythaokoopmhgfiaa
