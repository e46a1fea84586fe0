import Derived.Test.YtgkbjnhpmlfgdaaAmT
/- The code, cooked, and tied to the program's; written by gen.py. -/
namespace Go.Proofs.Ytgkbjnhpmlfgdaa
open Go.AM

/-- cartridge/cartridgelaw24.RobotPlays -/
noncomputable def drw11_0 : Array Oper := ((Try.f11.body.map regs).getD []).getD 0 #[]
noncomputable def drw11_1 : Array Oper := ((Try.f11.body.map regs).getD []).getD 1 #[]
noncomputable def drw11_2 : Array Oper := ((Try.f11.body.map regs).getD []).getD 2 #[]
noncomputable def drw11_3 : Array Oper := ((Try.f11.body.map regs).getD []).getD 3 #[]
noncomputable def k11 : KC :=
 .seq (.reg [⟨(some 6), none, .mv (.b false)⟩])
 (.seq (.reg [⟨(some 19), none, .call (.fn 40) []⟩,
    ⟨(some 7), none, .mv (.t 19)⟩])
  (.seq (.seq (.reg [⟨(some 20), none, .mv (.t 7)⟩,
      ⟨(some 21), none, .un .not (.t 20)⟩,
      ⟨(some 22), none, .mv (.t 21)⟩,
      ⟨(some 23), (some (22, false)), .mv (.t 0)⟩,
      ⟨(some 24), (some (22, false)), .bi .len [46] [.t 23]⟩,
      ⟨(some 25), (some (22, false)), .bin .gtr 3 (.t 24) (.i .i64 40)⟩,
      ⟨(some 26), none, .pk (.t 22) (.b true) (.t 25)⟩,
      ⟨(some 27), none, .mv (.t 26)⟩,
      ⟨(some 28), (some (27, false)), .mv (.t 2)⟩,
      ⟨(some 29), (some (27, false)), .bi .len [71] [.t 28]⟩,
      ⟨(some 30), (some (27, false)), .bin .gtr 3 (.t 29) (.i .i64 60)⟩,
      ⟨(some 31), none, .pk (.t 27) (.b true) (.t 30)⟩])
    (.cond (.t 31)
     (.seq (.reg [⟨(some 32), none, .mv (.t 7)⟩,
        ⟨(some 6), none, .mv (.t 32)⟩])
      (.ret))
     (.skip)))
   (.seq (.reg [⟨(some 34), none, .mv (.t 0)⟩,
      ⟨(some 35), none, .bi .append [46, 46] [.ns, .t 34]⟩,
      ⟨(some 36), none, .mv (.t 1)⟩,
      ⟨(some 37), none, .call (.fn 41) [.t 35, .t 36]⟩,
      ⟨(some 33), none, .mv (.t 37)⟩,
      ⟨(some 38), none, .ex (.t 33) 0⟩,
      ⟨(some 39), none, .ex (.t 33) 1⟩,
      ⟨(some 8), none, .mv (.t 38)⟩,
      ⟨(some 9), none, .mv (.t 39)⟩])
    (.seq (.reg [⟨(some 41), none, .mv (.t 0)⟩,
       ⟨(some 42), none, .mv (.t 1)⟩,
       ⟨(some 43), none, .call (.fn 45) [.t 41, .t 42]⟩,
       ⟨(some 40), none, .mv (.t 43)⟩,
       ⟨(some 44), none, .ex (.t 40) 0⟩,
       ⟨(some 45), none, .ex (.t 40) 1⟩,
       ⟨(some 10), none, .mv (.t 44)⟩,
       ⟨(some 11), none, .mv (.t 45)⟩])
     (.seq (.seq (.reg [⟨(some 46), none, .mv (.t 9)⟩,
         ⟨(some 47), none, .call (.fn 42) [.t 46]⟩,
         ⟨(some 48), none, .mv (.t 11)⟩,
         ⟨(some 49), none, .bin .neq 3 (.t 47) (.t 48)⟩,
         ⟨(some 50), none, .mv (.t 49)⟩,
         ⟨(some 51), (some (50, false)), .mv (.t 8)⟩,
         ⟨(some 52), (some (50, false)), .bin .eql 64 (.t 51) (.np)⟩,
         ⟨(some 53), (some (50, false)), .mv (.t 11)⟩,
         ⟨(some 54), (some (50, false)), .bin .neq 3 (.t 53) (.i .i64 0)⟩,
         ⟨(some 55), (some (50, false)), .bin .neq 4 (.t 52) (.t 54)⟩,
         ⟨(some 56), none, .pk (.t 50) (.b true) (.t 55)⟩])
       (.cond (.t 56)
        (.seq (.reg [⟨(some 6), none, .mv (.b false)⟩])
         (.ret))
        (.skip)))
      (.seq (.seq (.reg [⟨(some 57), none, .mv (.t 11)⟩,
          ⟨(some 58), none, .bin .neq 3 (.t 57) (.i .i64 0)⟩])
        (.cond (.t 58)
         (.seq (.reg [⟨(some 6), none, .mv (.b true)⟩])
          (.ret))
         (.skip)))
       (.seq (.seq (.reg [⟨(some 12), none, .mv (.i .i64 0)⟩])
         (.block 0 (.loop (.seq (.seq (.reg [⟨(some 59), none, .mv (.t 12)⟩,
               ⟨(some 60), none, .mv (.t 2)⟩,
               ⟨(some 61), none, .bi .len [71] [.t 60]⟩,
               ⟨(some 62), none, .bin .lss 3 (.t 59) (.t 61)⟩])
             (.cond (.t 62)
              (.skip)
              (.exit 0)))
            (.seq (.block 1 (.seq (.reg [⟨(some 65), none, .mv (.t 2)⟩,
                 ⟨(some 66), none, .mv (.t 12)⟩,
                 ⟨(some 67), none, .ia 71 (.t 65) (.t 66)⟩,
                 ⟨(some 68), none, .ld 76 (.t 67)⟩,
                 ⟨(some 13), none, .al 76⟩,
                 ⟨none, none, .st 76 (.t 13) (.t 68)⟩])
               (.seq (.seq (.reg [⟨(some 69), none, .fa 76 (.t 13) 3⟩,
                   ⟨(some 70), none, .ld 46 (.t 69)⟩,
                   ⟨(some 71), none, .bi .len [46] [.t 70]⟩,
                   ⟨(some 72), none, .bin .gtr 3 (.t 71) (.i .i64 40)⟩])
                 (.cond (.t 72)
                  (.seq (.reg [⟨(some 6), none, .mv (.b true)⟩])
                   (.ret))
                  (.skip)))
                (.seq (.seq (.reg [⟨(some 73), none, .fa 76 (.t 13) 0⟩,
                    ⟨(some 74), none, .ld 3 (.t 73)⟩])
                  (.block 2 (.seq (.reg [⟨(some 76), none, .bin .eql 3 (.t 74) (.i .i64 0)⟩,
                      ⟨(some 75), none, .mv (.t 76)⟩])
                    (.cond (.t 75)
                     (.seq (.drw drw11_0 [⟨(some 77), none, .mv (.t 8)⟩,
                        ⟨(some 78), none, .fa 76 (.t 13) 1⟩,
                        ⟨(some 79), none, .ld 3 (.t 78)⟩,
                        ⟨(some 80), none, .call (.fn 46) [.t 77, .t 79]⟩,
                        ⟨(some 81), none, .call (.fn 42) [.t 80]⟩,
                        ⟨(some 82), none, .mv (.t 10)⟩,
                        ⟨(some 83), none, .fa 76 (.t 13) 1⟩,
                        ⟨(some 84), none, .ld 3 (.t 83)⟩,
                        ⟨(some 85), none, .call (.fn 47) [.t 82, .t 84]⟩,
                        ⟨(some 86), none, .bin .neq 3 (.t 81) (.t 85)⟩])
                      (.cond (.t 86)
                       (.seq (.reg [⟨(some 6), none, .mv (.b false)⟩])
                        (.ret))
                       (.skip)))
                     (.seq (.reg [⟨(some 88), none, .bin .eql 3 (.t 74) (.i .i64 1)⟩,
                        ⟨(some 87), none, .mv (.t 88)⟩])
                      (.cond (.t 87)
                       (.seq (.drw drw11_1 [⟨(some 89), none, .mv (.t 8)⟩,
                          ⟨(some 90), none, .fa 76 (.t 13) 2⟩,
                          ⟨(some 91), none, .ld 4 (.t 90)⟩,
                          ⟨(some 92), none, .call (.fn 48) [.t 89, .t 91]⟩,
                          ⟨(some 93), none, .mv (.t 10)⟩,
                          ⟨(some 94), none, .fa 76 (.t 13) 2⟩,
                          ⟨(some 95), none, .ld 4 (.t 94)⟩,
                          ⟨(some 96), none, .call (.fn 49) [.t 93, .t 95]⟩,
                          ⟨(some 97), none, .bin .neq 4 (.t 92) (.t 96)⟩])
                        (.cond (.t 97)
                         (.seq (.reg [⟨(some 6), none, .mv (.b false)⟩])
                          (.ret))
                         (.skip)))
                       (.seq (.reg [⟨(some 99), none, .bin .eql 3 (.t 74) (.i .i64 2)⟩,
                          ⟨(some 98), none, .mv (.t 99)⟩])
                        (.cond (.t 98)
                         (.seq (.drw drw11_2 [⟨(some 101), none, .mv (.t 8)⟩,
                            ⟨(some 102), none, .fa 76 (.t 13) 3⟩,
                            ⟨(some 103), none, .ld 46 (.t 102)⟩,
                            ⟨(some 104), none, .bi .append [46, 46] [.ns, .t 103]⟩,
                            ⟨(some 105), none, .fa 76 (.t 13) 1⟩,
                            ⟨(some 106), none, .ld 3 (.t 105)⟩,
                            ⟨(some 107), none, .call (.fn 43) [.t 101, .t 104, .t 106]⟩,
                            ⟨(some 100), none, .mv (.t 107)⟩,
                            ⟨(some 108), none, .ex (.t 100) 0⟩,
                            ⟨(some 109), none, .ex (.t 100) 1⟩,
                            ⟨(some 14), none, .mv (.t 108)⟩,
                            ⟨(some 15), none, .mv (.t 109)⟩])
                          (.seq (.reg [⟨(some 111), none, .mv (.t 10)⟩,
                             ⟨(some 112), none, .fa 76 (.t 13) 3⟩,
                             ⟨(some 113), none, .ld 46 (.t 112)⟩,
                             ⟨(some 114), none, .fa 76 (.t 13) 1⟩,
                             ⟨(some 115), none, .ld 3 (.t 114)⟩,
                             ⟨(some 116), none, .call (.fn 50) [.t 111, .t 113, .t 115]⟩,
                             ⟨(some 110), none, .mv (.t 116)⟩,
                             ⟨(some 117), none, .ex (.t 110) 0⟩,
                             ⟨(some 118), none, .ex (.t 110) 1⟩,
                             ⟨(some 16), none, .mv (.t 117)⟩,
                             ⟨(some 17), none, .mv (.t 118)⟩])
                           (.seq (.reg [⟨(some 119), none, .mv (.t 14)⟩,
                              ⟨(some 120), none, .mv (.t 16)⟩,
                              ⟨(some 121), none, .bin .neq 3 (.t 119) (.t 120)⟩,
                              ⟨(some 122), none, .mv (.t 121)⟩,
                              ⟨(some 123), (some (122, false)), .mv (.t 15)⟩,
                              ⟨(some 124), (some (122, false)), .call (.fn 42) [.t 123]⟩,
                              ⟨(some 125), (some (122, false)), .mv (.t 17)⟩,
                              ⟨(some 126), (some (122, false)), .bin .neq 3 (.t 124) (.t 125)⟩,
                              ⟨(some 127), none, .pk (.t 122) (.b true) (.t 126)⟩])
                            (.cond (.t 127)
                             (.seq (.reg [⟨(some 6), none, .mv (.b false)⟩])
                              (.ret))
                             (.skip)))))
                         (.skip)))))))))
                 (.seq (.seq (.reg [⟨(some 128), none, .mv (.t 8)⟩,
                     ⟨(some 129), none, .call (.fn 44) [.t 128]⟩,
                     ⟨(some 130), none, .mv (.t 10)⟩,
                     ⟨(some 131), none, .call (.fn 51) [.t 130]⟩,
                     ⟨(some 132), none, .bin .neq 3 (.t 129) (.t 131)⟩])
                   (.cond (.t 132)
                    (.seq (.reg [⟨(some 6), none, .mv (.b false)⟩])
                     (.ret))
                    (.skip)))
                  (.seq (.reg [⟨(some 18), none, .mv (.i .i64 (-1))⟩])
                   (.block 3 (.loop (.seq (.seq (.reg [⟨(some 133), none, .mv (.t 18)⟩,
                         ⟨(some 134), none, .mv (.t 1)⟩,
                         ⟨(some 135), none, .bin .leq 3 (.t 133) (.t 134)⟩])
                       (.cond (.t 135)
                        (.skip)
                        (.exit 3)))
                      (.seq (.block 4 (.seq (.drw drw11_3 [⟨(some 138), none, .mv (.t 8)⟩,
                           ⟨(some 139), none, .mv (.t 18)⟩,
                           ⟨(some 140), none, .call (.fn 52) [.t 138, .t 139]⟩,
                           ⟨(some 141), none, .mv (.t 10)⟩,
                           ⟨(some 142), none, .nc (.t 141)⟩,
                           ⟨(some 143), none, .fa 84 (.t 142) 0⟩,
                           ⟨(some 144), none, .ld 82 (.t 143)⟩,
                           ⟨(some 145), none, .mv (.t 18)⟩,
                           ⟨(some 146), none, .call (.fn 53) [.t 144, .t 145]⟩,
                           ⟨(some 147), none, .bin .neq 3 (.t 140) (.t 146)⟩])
                         (.cond (.t 147)
                          (.seq (.reg [⟨(some 6), none, .mv (.b false)⟩])
                           (.ret))
                          (.skip))))
                       (.reg [⟨(some 136), none, .mv (.t 18)⟩,
                         ⟨(some 137), none, .bin .add 3 (.t 136) (.i .i64 1)⟩,
                         ⟨(some 18), none, .mv (.t 137)⟩])))))))))))
             (.reg [⟨(some 63), none, .mv (.t 12)⟩,
               ⟨(some 64), none, .bin .add 3 (.t 63) (.i .i64 1)⟩,
               ⟨(some 12), none, .mv (.t 64)⟩]))))))
        (.seq (.reg [⟨(some 6), none, .mv (.b true)⟩])
         (.ret)))))))))
theorem b11 : Body Try.prog 11 148 [6] k11 := ⟨Enters.of Try.func11 (by kernel_rfl) (by kernel_rfl), _, _, Try.func11, rfl, by kernel_rfl, rfl, rfl⟩

/-- cartridge/cartridgelaw24.alive -/
def k40 : KC :=
 .seq (.reg [⟨(some 0), none, .mv (.b false)⟩])
 (.seq (.reg [⟨(some 8), none, .bsl 46 2 [(0, .i .i64 1), (1, .i .i64 2)]⟩,
    ⟨(some 9), none, .call (.fn 41) [.t 8, .i .i64 1]⟩,
    ⟨(some 7), none, .mv (.t 9)⟩,
    ⟨(some 10), none, .ex (.t 7) 0⟩,
    ⟨(some 11), none, .ex (.t 7) 1⟩,
    ⟨(some 1), none, .mv (.t 10)⟩,
    ⟨(some 2), none, .mv (.t 11)⟩])
  (.seq (.seq (.reg [⟨(some 12), none, .mv (.t 2)⟩,
      ⟨(some 13), none, .call (.fn 42) [.t 12]⟩,
      ⟨(some 14), none, .bin .neq 3 (.t 13) (.i .i64 0)⟩,
      ⟨(some 15), none, .mv (.t 14)⟩,
      ⟨(some 16), (some (15, false)), .mv (.t 1)⟩,
      ⟨(some 17), (some (15, false)), .bin .eql 64 (.t 16) (.np)⟩,
      ⟨(some 18), none, .pk (.t 15) (.b true) (.t 17)⟩])
    (.cond (.t 18)
     (.seq (.reg [⟨(some 0), none, .mv (.b false)⟩])
      (.ret))
     (.skip)))
   (.seq (.reg [⟨(some 20), none, .mv (.t 1)⟩,
      ⟨(some 21), none, .call (.fn 43) [.t 20, .ns, .i .i64 0]⟩,
      ⟨(some 19), none, .mv (.t 21)⟩,
      ⟨(some 22), none, .ex (.t 19) 0⟩,
      ⟨(some 23), none, .ex (.t 19) 1⟩,
      ⟨(some 3), none, .mv (.t 22)⟩,
      ⟨(some 4), none, .mv (.t 23)⟩])
    (.seq (.reg [⟨(some 25), none, .mv (.t 1)⟩,
       ⟨(some 26), none, .bsl 46 1 [(0, .i .i64 2)]⟩,
       ⟨(some 27), none, .call (.fn 43) [.t 25, .t 26, .i .i64 0]⟩,
       ⟨(some 24), none, .mv (.t 27)⟩,
       ⟨(some 28), none, .ex (.t 24) 0⟩,
       ⟨(some 29), none, .ex (.t 24) 1⟩,
       ⟨(some 5), none, .mv (.t 28)⟩,
       ⟨(some 6), none, .mv (.t 29)⟩])
     (.seq (.reg [⟨(some 30), none, .mv (.t 3)⟩,
        ⟨(some 31), none, .bin .eql 3 (.t 30) (.i .i64 0)⟩,
        ⟨(some 32), none, .mv (.t 31)⟩,
        ⟨(some 33), (some (32, true)), .mv (.t 4)⟩,
        ⟨(some 34), (some (32, true)), .call (.fn 42) [.t 33]⟩,
        ⟨(some 35), (some (32, true)), .bin .eql 3 (.t 34) (.i .i64 0)⟩,
        ⟨(some 36), none, .pk (.t 32) (.t 35) (.b false)⟩,
        ⟨(some 37), none, .mv (.t 36)⟩,
        ⟨(some 38), (some (37, true)), .mv (.t 5)⟩,
        ⟨(some 39), (some (37, true)), .bin .eql 3 (.t 38) (.i .i64 2)⟩,
        ⟨(some 40), none, .pk (.t 37) (.t 39) (.b false)⟩,
        ⟨(some 41), none, .mv (.t 40)⟩,
        ⟨(some 42), (some (41, true)), .mv (.t 6)⟩,
        ⟨(some 43), (some (41, true)), .call (.fn 42) [.t 42]⟩,
        ⟨(some 44), (some (41, true)), .bin .eql 3 (.t 43) (.i .i64 0)⟩,
        ⟨(some 45), none, .pk (.t 41) (.t 44) (.b false)⟩,
        ⟨(some 46), none, .mv (.t 45)⟩,
        ⟨(some 47), (some (46, true)), .mv (.t 1)⟩,
        ⟨(some 48), (some (46, true)), .call (.fn 52) [.t 47, .i .i64 0]⟩,
        ⟨(some 49), (some (46, true)), .bin .eql 3 (.t 48) (.i .i64 2)⟩,
        ⟨(some 50), none, .pk (.t 46) (.t 49) (.b false)⟩,
        ⟨(some 0), none, .mv (.t 50)⟩])
      (.ret))))))
theorem b40 : Body Try.prog 40 51 [0] k40 := ⟨Enters.of Try.func40 (by kernel_rfl) (by kernel_rfl), _, _, Try.func40, rfl, by kernel_rfl, rfl, rfl⟩

/-- cartridge/robot.New -/
def k41 : KC :=
 .seq (.reg [⟨(some 4), none, .mv (.np)⟩,
   ⟨(some 5), none, .mv (.i .i64 0)⟩])
 (.seq (.reg [⟨(some 9), none, .mv (.t 0)⟩,
    ⟨(some 10), none, .mv (.t 1)⟩,
    ⟨(some 11), none, .call (.fn 75) [.t 9, .t 10]⟩,
    ⟨(some 8), none, .mv (.t 11)⟩,
    ⟨(some 12), none, .ex (.t 8) 0⟩,
    ⟨(some 13), none, .ex (.t 8) 1⟩,
    ⟨(some 6), none, .mv (.t 12)⟩,
    ⟨(some 7), none, .mv (.t 13)⟩])
  (.seq (.seq (.reg [⟨(some 14), none, .mv (.t 7)⟩,
      ⟨(some 15), none, .bin .neq 26 (.t 14) (.i .i64 0)⟩])
    (.cond (.t 15)
     (.seq (.reg [⟨(some 16), none, .mv (.t 7)⟩,
        ⟨(some 4), none, .mv (.np)⟩,
        ⟨(some 5), none, .mv (.t 16)⟩])
      (.ret))
     (.skip)))
   (.seq (.reg [⟨(some 17), none, .mv (.t 6)⟩,
      ⟨(some 18), none, .mv (.t 1)⟩,
      ⟨(some 19), none, .mv (.t 0)⟩,
      ⟨(some 20), none, .call (.fn 76) [.t 19]⟩,
      ⟨(some 21), none, .bld 109 [(0, .t 17), (1, .t 18), (2, .t 20)]⟩,
      ⟨(some 22), none, .box 109 (.t 21)⟩,
      ⟨(some 4), none, .mv (.t 22)⟩,
      ⟨(some 5), none, .mv (.i .i64 0)⟩])
    (.ret))))
theorem b41 : Body Try.prog 41 23 [4, 5] k41 := ⟨Enters.of Try.func41 (by kernel_rfl) (by kernel_rfl), _, _, Try.func41, rfl, by kernel_rfl, rfl, rfl⟩

/-- cartridge/cartridgelaw24.num -/
def k42 : KC :=
 .seq (.reg [⟨(some 2), none, .mv (.i .i64 0)⟩])
 (.seq (.reg [⟨(some 3), none, .mv (.t 0)⟩,
    ⟨(some 2), none, .mv (.t 3)⟩])
  (.ret))
theorem b42 : Body Try.prog 42 4 [2] k42 := ⟨Enters.of Try.func42 (by kernel_rfl) (by kernel_rfl), _, _, Try.func42, rfl, by kernel_rfl, rfl, rfl⟩

/-- (*cartridge/robot.Robot).Serve -/
def k43 : KC :=
 .seq (.reg [⟨(some 3), none, .box 64 (.t 0)⟩,
   ⟨(some 6), none, .mv (.i .i64 0)⟩,
   ⟨(some 7), none, .mv (.i .i64 0)⟩])
 (.seq (.seq (.reg [⟨(some 13), none, .ld 64 (.t 3)⟩,
     ⟨(some 14), none, .bin .eql 64 (.t 13) (.np)⟩,
     ⟨(some 15), none, .mv (.t 14)⟩,
     ⟨(some 16), (some (15, false)), .mv (.t 1)⟩,
     ⟨(some 17), (some (15, false)), .mf 78 [.t 3]⟩,
     ⟨(some 18), (some (15, false)), .call (.fn 77) [.t 16, .t 17]⟩,
     ⟨(some 19), none, .pk (.t 15) (.b true) (.t 18)⟩])
   (.cond (.t 19)
    (.seq (.reg [⟨(some 6), none, .mv (.i .i64 0)⟩,
       ⟨(some 7), none, .mv (.i .i64 1)⟩])
     (.ret))
    (.skip)))
  (.seq (.seq (.reg [⟨(some 20), none, .mv (.t 1)⟩,
      ⟨(some 21), none, .bi .len [46] [.t 20]⟩,
      ⟨(some 22), none, .mv (.i .i64 0)⟩])
    (.block 0 (.loop (.seq (.reg [⟨(some 23), none, .bin .lss 3 (.t 22) (.t 21)⟩])
       (.seq (.cond (.t 23)
         (.skip)
         (.exit 0))
        (.seq (.block 1 (.seq (.reg [⟨(some 24), none, .ia 46 (.t 20) (.t 22)⟩,
             ⟨(some 25), none, .ld 3 (.t 24)⟩,
             ⟨(some 9), none, .mv (.t 25)⟩])
           (.reg [⟨(some 26), none, .ld 64 (.t 3)⟩,
             ⟨(some 27), none, .nc (.t 26)⟩,
             ⟨(some 28), none, .fa 109 (.t 27) 3⟩,
             ⟨(some 29), none, .mv (.t 9)⟩,
             ⟨(some 30), none, .call (.fn 80) [.t 28, .t 29]⟩])))
         (.reg [⟨(some 31), none, .bin .add 3 (.t 22) (.i .i64 1)⟩,
           ⟨(some 22), none, .mv (.t 31)⟩])))))))
   (.seq (.reg [⟨(some 10), none, .mv (.i .i64 0)⟩])
    (.seq (.reg [⟨(some 32), none, .mv (.t 2)⟩,
       ⟨(some 33), none, .bi .min [3, 3] [.t 32, .i .i64 1000]⟩,
       ⟨(some 34), none, .bi .max [3, 3] [.i .i64 0, .t 33]⟩,
       ⟨(some 2), none, .mv (.t 34)⟩])
     (.seq (.block 2 (.loop (.seq (.seq (.reg [⟨(some 35), none, .ld 64 (.t 3)⟩,
            ⟨(some 36), none, .call (.fn 44) [.t 35]⟩,
            ⟨(some 37), none, .bin .gtr 3 (.t 36) (.i .i64 0)⟩])
          (.cond (.t 37)
           (.skip)
           (.exit 2)))
         (.block 3 (.seq (.seq (.reg [⟨(some 39), none, .ld 64 (.t 3)⟩,
              ⟨(some 40), none, .call (.fn 81) [.t 39]⟩,
              ⟨(some 38), none, .mv (.t 40)⟩,
              ⟨(some 41), none, .ex (.t 38) 0⟩,
              ⟨(some 42), none, .ex (.t 38) 1⟩,
              ⟨(some 11), none, .mv (.t 41)⟩,
              ⟨(some 12), none, .mv (.t 42)⟩])
            (.seq (.reg [⟨(some 43), none, .mv (.t 12)⟩,
               ⟨(some 44), none, .un .not (.t 43)⟩])
             (.cond (.t 44)
              (.seq (.reg [⟨(some 45), none, .mv (.t 10)⟩,
                 ⟨(some 46), none, .mv (.t 2)⟩,
                 ⟨(some 47), none, .bin .add 3 (.t 45) (.t 46)⟩,
                 ⟨(some 10), none, .mv (.t 47)⟩])
               (.reg [⟨(some 2), none, .mv (.i .i64 0)⟩]))
              (.skip))))
           (.seq (.reg [⟨(some 48), none, .ld 64 (.t 3)⟩,
              ⟨(some 49), none, .call (.fn 48) [.t 48, .b false]⟩])
            (.reg [⟨(some 50), none, .mv (.t 10)⟩,
              ⟨(some 51), none, .bin .add 3 (.t 50) (.i .i64 1)⟩,
              ⟨(some 10), none, .mv (.t 51)⟩])))))))
      (.seq (.reg [⟨(some 52), none, .mv (.t 10)⟩,
         ⟨(some 6), none, .mv (.t 52)⟩,
         ⟨(some 7), none, .mv (.i .i64 0)⟩])
       (.ret)))))))
theorem b43 : Body Try.prog 43 53 [6, 7] k43 := ⟨Enters.of Try.func43 (by kernel_rfl) (by kernel_rfl), _, _, Try.func43, rfl, by kernel_rfl, rfl, rfl⟩

/-- (*cartridge/robot.Robot).Waiting -/
def k44 : KC :=
 .seq (.reg [⟨(some 2), none, .mv (.i .i64 0)⟩])
 (.seq (.seq (.reg [⟨(some 3), none, .mv (.t 0)⟩,
     ⟨(some 4), none, .bin .eql 64 (.t 3) (.np)⟩])
   (.cond (.t 4)
    (.seq (.reg [⟨(some 2), none, .mv (.i .i64 0)⟩])
     (.ret))
    (.skip)))
  (.seq (.reg [⟨(some 5), none, .mv (.t 0)⟩,
     ⟨(some 6), none, .nc (.t 5)⟩,
     ⟨(some 7), none, .fa 109 (.t 6) 3⟩,
     ⟨(some 8), none, .call (.fn 82) [.t 7]⟩,
     ⟨(some 2), none, .mv (.t 8)⟩])
   (.ret)))
theorem b44 : Body Try.prog 44 9 [2] k44 := ⟨Enters.of Try.func44 (by kernel_rfl) (by kernel_rfl), _, _, Try.func44, rfl, by kernel_rfl, rfl, rfl⟩

/-- cartridge/cartridgeref22.NewRobot -/
def k45 : KC :=
 .seq (.reg [⟨(some 4), none, .mv (.np)⟩,
   ⟨(some 5), none, .mv (.i .i64 0)⟩])
 (.seq (.reg [⟨(some 9), none, .mv (.t 0)⟩,
    ⟨(some 10), none, .mv (.t 1)⟩,
    ⟨(some 11), none, .call (.fn 83) [.t 9, .t 10]⟩,
    ⟨(some 8), none, .mv (.t 11)⟩,
    ⟨(some 12), none, .ex (.t 8) 0⟩,
    ⟨(some 13), none, .ex (.t 8) 1⟩,
    ⟨(some 6), none, .mv (.t 12)⟩,
    ⟨(some 7), none, .mv (.t 13)⟩])
  (.seq (.seq (.reg [⟨(some 14), none, .mv (.t 7)⟩,
      ⟨(some 15), none, .bin .neq 3 (.t 14) (.i .i64 0)⟩])
    (.cond (.t 15)
     (.seq (.reg [⟨(some 16), none, .mv (.t 7)⟩,
        ⟨(some 4), none, .mv (.np)⟩,
        ⟨(some 5), none, .mv (.t 16)⟩])
      (.ret))
     (.skip)))
   (.seq (.reg [⟨(some 17), none, .mv (.t 6)⟩,
      ⟨(some 18), none, .bld 84 [(0, .t 17)]⟩,
      ⟨(some 19), none, .box 84 (.t 18)⟩,
      ⟨(some 4), none, .mv (.t 19)⟩,
      ⟨(some 5), none, .mv (.i .i64 0)⟩])
    (.ret))))
theorem b45 : Body Try.prog 45 20 [4, 5] k45 := ⟨Enters.of Try.func45 (by kernel_rfl) (by kernel_rfl), _, _, Try.func45, rfl, by kernel_rfl, rfl, rfl⟩

/-- (*cartridge/robot.Robot).Ask -/
def k46 : KC :=
 .seq (.reg [⟨(some 4), none, .mv (.i .i64 0)⟩])
 (.seq (.seq (.reg [⟨(some 5), none, .mv (.t 0)⟩,
     ⟨(some 6), none, .mv (.t 1)⟩,
     ⟨(some 7), none, .call (.fn 79) [.t 5, .t 6]⟩,
     ⟨(some 8), none, .un .not (.t 7)⟩])
   (.cond (.t 8)
    (.seq (.reg [⟨(some 4), none, .mv (.i .i64 1)⟩])
     (.ret))
    (.skip)))
  (.seq (.reg [⟨(some 9), none, .mv (.t 0)⟩,
     ⟨(some 10), none, .nc (.t 9)⟩,
     ⟨(some 11), none, .fa 109 (.t 10) 3⟩,
     ⟨(some 12), none, .mv (.t 1)⟩,
     ⟨(some 13), none, .call (.fn 80) [.t 11, .t 12]⟩])
   (.seq (.reg [⟨(some 4), none, .mv (.i .i64 0)⟩])
    (.ret))))
theorem b46 : Body Try.prog 46 14 [4] k46 := ⟨Enters.of Try.func46 (by kernel_rfl) (by kernel_rfl), _, _, Try.func46, rfl, by kernel_rfl, rfl, rfl⟩

/-- (*cartridge/cartridgeref22.Robot).Ask -/
def k47 : KC :=
 .seq (.reg [⟨(some 4), none, .mv (.i .i64 0)⟩])
 (.seq (.seq (.reg [⟨(some 5), none, .mv (.t 0)⟩,
     ⟨(some 6), none, .nc (.t 5)⟩,
     ⟨(some 7), none, .fa 84 (.t 6) 0⟩,
     ⟨(some 8), none, .ld 82 (.t 7)⟩,
     ⟨(some 9), none, .mv (.t 1)⟩,
     ⟨(some 10), none, .call (.fn 84) [.t 8, .t 9]⟩,
     ⟨(some 11), none, .bin .lss 3 (.t 10) (.i .i64 0)⟩])
   (.cond (.t 11)
    (.seq (.reg [⟨(some 4), none, .mv (.i .i64 1)⟩])
     (.ret))
    (.skip)))
  (.seq (.reg [⟨(some 12), none, .mv (.t 0)⟩,
     ⟨(some 13), none, .mv (.t 0)⟩,
     ⟨(some 14), none, .nc (.t 13)⟩,
     ⟨(some 15), none, .fa 84 (.t 14) 1⟩,
     ⟨(some 16), none, .ld 46 (.t 15)⟩,
     ⟨(some 17), none, .mv (.t 1)⟩,
     ⟨(some 18), none, .bsl 46 1 [(0, .t 17)]⟩,
     ⟨(some 19), none, .bi .append [46, 46] [.t 16, .t 18]⟩,
     ⟨(some 20), none, .nc (.t 12)⟩,
     ⟨(some 21), none, .fa 84 (.t 20) 1⟩,
     ⟨none, none, .st 46 (.t 21) (.t 19)⟩])
   (.seq (.reg [⟨(some 4), none, .mv (.i .i64 0)⟩])
    (.ret))))
theorem b47 : Body Try.prog 47 22 [4] k47 := ⟨Enters.of Try.func47 (by kernel_rfl) (by kernel_rfl), _, _, Try.func47, rfl, by kernel_rfl, rfl, rfl⟩

/-- (*cartridge/robot.Robot).Step -/
def k48 : KC :=
 .seq (.reg [⟨(some 4), none, .mv (.b false)⟩])
 (.seq (.seq (.reg [⟨(some 7), none, .mv (.t 0)⟩,
     ⟨(some 8), none, .call (.fn 44) [.t 7]⟩,
     ⟨(some 9), none, .bin .eql 3 (.t 8) (.i .i64 0)⟩])
   (.cond (.t 9)
    (.seq (.reg [⟨(some 4), none, .mv (.b false)⟩])
     (.ret))
    (.skip)))
  (.seq (.seq (.reg [⟨(some 11), none, .mv (.t 0)⟩,
      ⟨(some 12), none, .call (.fn 81) [.t 11]⟩,
      ⟨(some 10), none, .mv (.t 12)⟩,
      ⟨(some 13), none, .ex (.t 10) 0⟩,
      ⟨(some 14), none, .ex (.t 10) 1⟩,
      ⟨(some 5), none, .mv (.t 13)⟩,
      ⟨(some 6), none, .mv (.t 14)⟩])
    (.seq (.reg [⟨(some 15), none, .mv (.t 6)⟩])
     (.cond (.t 15)
      (.seq (.reg [⟨(some 16), none, .mv (.t 0)⟩,
         ⟨(some 17), none, .nc (.t 16)⟩,
         ⟨(some 18), none, .fa 109 (.t 17) 3⟩,
         ⟨(some 19), none, .mv (.t 5)⟩,
         ⟨(some 20), none, .call (.fn 85) [.t 18, .t 19]⟩])
       (.seq (.reg [⟨(some 4), none, .mv (.b true)⟩])
        (.ret)))
      (.skip))))
   (.seq (.seq (.reg [⟨(some 21), none, .mv (.t 1)⟩,
       ⟨(some 22), none, .un .not (.t 21)⟩])
     (.cond (.t 22)
      (.reg [⟨(some 23), none, .mv (.t 0)⟩,
        ⟨(some 24), none, .call (.fn 86) [.t 23]⟩])
      (.skip)))
    (.seq (.reg [⟨(some 4), none, .mv (.b true)⟩])
     (.ret)))))
theorem b48 : Body Try.prog 48 25 [4] k48 := ⟨Enters.of Try.func48 (by kernel_rfl) (by kernel_rfl), _, _, Try.func48, rfl, by kernel_rfl, rfl, rfl⟩

/-- (*cartridge/cartridgeref22.Robot).Step -/
noncomputable def drw49_0 : Array Oper := ((Try.f49.body.map regs).getD []).getD 0 #[]
noncomputable def drw49_1 : Array Oper := ((Try.f49.body.map regs).getD []).getD 1 #[]
noncomputable def drw49_2 : Array Oper := ((Try.f49.body.map regs).getD []).getD 2 #[]
noncomputable def k49 : KC :=
 .seq (.reg [⟨(some 4), none, .mv (.b false)⟩])
 (.seq (.seq (.reg [⟨(some 9), none, .mv (.t 0)⟩,
     ⟨(some 10), none, .nc (.t 9)⟩,
     ⟨(some 11), none, .fa 84 (.t 10) 1⟩,
     ⟨(some 12), none, .ld 46 (.t 11)⟩,
     ⟨(some 13), none, .bi .len [46] [.t 12]⟩,
     ⟨(some 14), none, .bin .eql 3 (.t 13) (.i .i64 0)⟩])
   (.cond (.t 14)
    (.seq (.reg [⟨(some 4), none, .mv (.b false)⟩])
     (.ret))
    (.skip)))
  (.seq (.seq (.reg [⟨(some 5), none, .mv (.i .i64 0)⟩])
    (.block 0 (.loop (.seq (.seq (.reg [⟨(some 15), none, .mv (.t 5)⟩,
          ⟨(some 16), none, .mv (.t 0)⟩,
          ⟨(some 17), none, .nc (.t 16)⟩,
          ⟨(some 18), none, .fa 84 (.t 17) 0⟩,
          ⟨(some 19), none, .ld 82 (.t 18)⟩,
          ⟨(some 20), none, .nc (.t 19)⟩,
          ⟨(some 21), none, .fa 118 (.t 20) 2⟩,
          ⟨(some 22), none, .ld 46 (.t 21)⟩,
          ⟨(some 23), none, .bi .len [46] [.t 22]⟩,
          ⟨(some 24), none, .bin .lss 3 (.t 15) (.t 23)⟩])
        (.cond (.t 24)
         (.skip)
         (.exit 0)))
       (.seq (.block 1 (.seq (.seq (.reg [⟨(some 27), none, .mv (.t 0)⟩,
             ⟨(some 28), none, .nc (.t 27)⟩,
             ⟨(some 29), none, .fa 84 (.t 28) 0⟩,
             ⟨(some 30), none, .ld 82 (.t 29)⟩,
             ⟨(some 31), none, .nc (.t 30)⟩,
             ⟨(some 32), none, .fa 118 (.t 31) 2⟩,
             ⟨(some 33), none, .ld 46 (.t 32)⟩,
             ⟨(some 34), none, .mv (.t 5)⟩,
             ⟨(some 35), none, .ia 46 (.t 33) (.t 34)⟩,
             ⟨(some 36), none, .ld 3 (.t 35)⟩,
             ⟨(some 37), none, .bin .eql 3 (.t 36) (.i .i64 0)⟩,
             ⟨(some 38), none, .mv (.t 37)⟩,
             ⟨(some 39), (some (38, false)), .mv (.t 0)⟩,
             ⟨(some 40), (some (38, false)), .mv (.t 0)⟩,
             ⟨(some 41), (some (38, false)), .nc (.t 40)⟩,
             ⟨(some 42), (some (38, false)), .fa 84 (.t 41) 0⟩,
             ⟨(some 43), (some (38, false)), .ld 82 (.t 42)⟩,
             ⟨(some 44), (some (38, false)), .nc (.t 43)⟩,
             ⟨(some 45), (some (38, false)), .fa 118 (.t 44) 2⟩,
             ⟨(some 46), (some (38, false)), .ld 46 (.t 45)⟩,
             ⟨(some 47), (some (38, false)), .mv (.t 5)⟩,
             ⟨(some 48), (some (38, false)), .ia 46 (.t 46) (.t 47)⟩,
             ⟨(some 49), (some (38, false)), .ld 3 (.t 48)⟩,
             ⟨(some 50), (some (38, false)), .call (.fn 87) [.t 39, .t 49]⟩,
             ⟨(some 51), (some (38, false)), .un .not (.t 50)⟩,
             ⟨(some 52), none, .pk (.t 38) (.b true) (.t 51)⟩])
           (.cond (.t 52)
            (.exit 1)
            (.skip)))
          (.seq (.reg [⟨(some 6), none, .mv (.ns)⟩])
           (.seq (.seq (.reg [⟨(some 7), none, .mv (.i .i64 0)⟩])
             (.block 2 (.loop (.seq (.seq (.reg [⟨(some 53), none, .mv (.t 7)⟩,
                   ⟨(some 54), none, .mv (.t 0)⟩,
                   ⟨(some 55), none, .nc (.t 54)⟩,
                   ⟨(some 56), none, .fa 84 (.t 55) 1⟩,
                   ⟨(some 57), none, .ld 46 (.t 56)⟩,
                   ⟨(some 58), none, .bi .len [46] [.t 57]⟩,
                   ⟨(some 59), none, .bin .lss 3 (.t 53) (.t 58)⟩])
                 (.cond (.t 59)
                  (.skip)
                  (.exit 2)))
                (.seq (.block 3 (.seq (.drw drw49_0 [⟨(some 62), none, .mv (.t 0)⟩,
                     ⟨(some 63), none, .nc (.t 62)⟩,
                     ⟨(some 64), none, .fa 84 (.t 63) 1⟩,
                     ⟨(some 65), none, .ld 46 (.t 64)⟩,
                     ⟨(some 66), none, .mv (.t 7)⟩,
                     ⟨(some 67), none, .ia 46 (.t 65) (.t 66)⟩,
                     ⟨(some 68), none, .ld 3 (.t 67)⟩,
                     ⟨(some 69), none, .mv (.t 0)⟩,
                     ⟨(some 70), none, .nc (.t 69)⟩,
                     ⟨(some 71), none, .fa 84 (.t 70) 0⟩,
                     ⟨(some 72), none, .ld 82 (.t 71)⟩,
                     ⟨(some 73), none, .nc (.t 72)⟩,
                     ⟨(some 74), none, .fa 118 (.t 73) 2⟩,
                     ⟨(some 75), none, .ld 46 (.t 74)⟩,
                     ⟨(some 76), none, .mv (.t 5)⟩,
                     ⟨(some 77), none, .ia 46 (.t 75) (.t 76)⟩,
                     ⟨(some 78), none, .ld 3 (.t 77)⟩,
                     ⟨(some 79), none, .bin .neq 3 (.t 68) (.t 78)⟩])
                   (.cond (.t 79)
                    (.reg [⟨(some 80), none, .mv (.t 6)⟩,
                      ⟨(some 81), none, .mv (.t 0)⟩,
                      ⟨(some 82), none, .nc (.t 81)⟩,
                      ⟨(some 83), none, .fa 84 (.t 82) 1⟩,
                      ⟨(some 84), none, .ld 46 (.t 83)⟩,
                      ⟨(some 85), none, .mv (.t 7)⟩,
                      ⟨(some 86), none, .ia 46 (.t 84) (.t 85)⟩,
                      ⟨(some 87), none, .ld 3 (.t 86)⟩,
                      ⟨(some 88), none, .bsl 46 1 [(0, .t 87)]⟩,
                      ⟨(some 89), none, .bi .append [46, 46] [.t 80, .t 88]⟩,
                      ⟨(some 6), none, .mv (.t 89)⟩])
                    (.skip))))
                 (.reg [⟨(some 60), none, .mv (.t 7)⟩,
                   ⟨(some 61), none, .bin .add 3 (.t 60) (.i .i64 1)⟩,
                   ⟨(some 7), none, .mv (.t 61)⟩]))))))
            (.seq (.reg [⟨(some 90), none, .mv (.t 0)⟩,
               ⟨(some 91), none, .mv (.t 6)⟩,
               ⟨(some 92), none, .nc (.t 90)⟩,
               ⟨(some 93), none, .fa 84 (.t 92) 1⟩,
               ⟨none, none, .st 46 (.t 93) (.t 91)⟩])
             (.seq (.reg [⟨(some 4), none, .mv (.b true)⟩])
              (.ret)))))))
        (.reg [⟨(some 25), none, .mv (.t 5)⟩,
          ⟨(some 26), none, .bin .add 3 (.t 25) (.i .i64 1)⟩,
          ⟨(some 5), none, .mv (.t 26)⟩]))))))
   (.seq (.seq (.reg [⟨(some 94), none, .mv (.t 1)⟩])
     (.cond (.t 94)
      (.seq (.reg [⟨(some 4), none, .mv (.b true)⟩])
       (.ret))
      (.skip)))
    (.seq (.seq (.reg [⟨(some 8), none, .mv (.i .i64 0)⟩])
      (.block 4 (.loop (.seq (.seq (.reg [⟨(some 95), none, .mv (.t 8)⟩,
            ⟨(some 96), none, .mv (.t 0)⟩,
            ⟨(some 97), none, .nc (.t 96)⟩,
            ⟨(some 98), none, .fa 84 (.t 97) 0⟩,
            ⟨(some 99), none, .ld 82 (.t 98)⟩,
            ⟨(some 100), none, .nc (.t 99)⟩,
            ⟨(some 101), none, .fa 118 (.t 100) 2⟩,
            ⟨(some 102), none, .ld 46 (.t 101)⟩,
            ⟨(some 103), none, .bi .len [46] [.t 102]⟩,
            ⟨(some 104), none, .bin .lss 3 (.t 95) (.t 103)⟩])
          (.cond (.t 104)
           (.skip)
           (.exit 4)))
         (.seq (.block 5 (.seq (.reg [⟨(some 107), none, .mv (.t 0)⟩,
              ⟨(some 108), none, .nc (.t 107)⟩,
              ⟨(some 109), none, .fa 84 (.t 108) 0⟩,
              ⟨(some 110), none, .ld 82 (.t 109)⟩,
              ⟨(some 111), none, .nc (.t 110)⟩,
              ⟨(some 112), none, .fa 118 (.t 111) 2⟩,
              ⟨(some 113), none, .ld 46 (.t 112)⟩,
              ⟨(some 114), none, .mv (.t 8)⟩,
              ⟨(some 115), none, .ia 46 (.t 113) (.t 114)⟩,
              ⟨(some 116), none, .ld 3 (.t 115)⟩,
              ⟨(some 117), none, .bin .eql 3 (.t 116) (.i .i64 0)⟩])
            (.cond (.t 117)
             (.seq (.drw drw49_1 [⟨(some 118), none, .mv (.t 0)⟩,
                ⟨(some 119), none, .nc (.t 118)⟩,
                ⟨(some 120), none, .fa 84 (.t 119) 0⟩,
                ⟨(some 121), none, .ld 82 (.t 120)⟩,
                ⟨(some 122), none, .mv (.t 0)⟩,
                ⟨(some 123), none, .nc (.t 122)⟩,
                ⟨(some 124), none, .fa 84 (.t 123) 1⟩,
                ⟨(some 125), none, .ld 46 (.t 124)⟩,
                ⟨(some 126), none, .ia 46 (.t 125) (.i .i64 0)⟩,
                ⟨(some 127), none, .ld 3 (.t 126)⟩,
                ⟨(some 128), none, .mv (.t 8)⟩,
                ⟨(some 129), none, .call (.fn 88) [.t 121, .t 127, .t 128]⟩])
              (.seq (.reg [⟨(some 130), none, .mv (.t 0)⟩,
                 ⟨(some 131), none, .mv (.t 0)⟩,
                 ⟨(some 132), none, .nc (.t 131)⟩,
                 ⟨(some 133), none, .fa 84 (.t 132) 2⟩,
                 ⟨(some 134), none, .ld 46 (.t 133)⟩,
                 ⟨(some 135), none, .mv (.t 8)⟩,
                 ⟨(some 136), none, .bsl 46 1 [(0, .t 135)]⟩,
                 ⟨(some 137), none, .bi .append [46, 46] [.t 134, .t 136]⟩,
                 ⟨(some 138), none, .nc (.t 130)⟩,
                 ⟨(some 139), none, .fa 84 (.t 138) 2⟩,
                 ⟨none, none, .st 46 (.t 139) (.t 137)⟩])
               (.seq (.reg [⟨(some 4), none, .mv (.b true)⟩])
                (.ret))))
             (.skip))))
          (.reg [⟨(some 105), none, .mv (.t 8)⟩,
            ⟨(some 106), none, .bin .add 3 (.t 105) (.i .i64 1)⟩,
            ⟨(some 8), none, .mv (.t 106)⟩]))))))
     (.seq (.drw drw49_2 [⟨(some 140), none, .mv (.t 0)⟩,
        ⟨(some 141), none, .nc (.t 140)⟩,
        ⟨(some 142), none, .fa 84 (.t 141) 0⟩,
        ⟨(some 143), none, .ld 82 (.t 142)⟩,
        ⟨(some 144), none, .mv (.t 0)⟩,
        ⟨(some 145), none, .nc (.t 144)⟩,
        ⟨(some 146), none, .fa 84 (.t 145) 2⟩,
        ⟨(some 147), none, .ld 46 (.t 146)⟩,
        ⟨(some 148), none, .ia 46 (.t 147) (.i .i64 0)⟩,
        ⟨(some 149), none, .ld 3 (.t 148)⟩,
        ⟨(some 150), none, .call (.fn 89) [.t 143, .t 149]⟩])
      (.seq (.reg [⟨(some 151), none, .mv (.t 0)⟩,
         ⟨(some 152), none, .mv (.t 0)⟩,
         ⟨(some 153), none, .nc (.t 152)⟩,
         ⟨(some 154), none, .fa 84 (.t 153) 2⟩,
         ⟨(some 155), none, .ld 46 (.t 154)⟩,
         ⟨(some 156), none, .sli 46 (.t 155) (some (.i .i64 1)) none none⟩,
         ⟨(some 157), none, .bi .append [46, 46] [.ns, .t 156]⟩,
         ⟨(some 158), none, .nc (.t 151)⟩,
         ⟨(some 159), none, .fa 84 (.t 158) 2⟩,
         ⟨none, none, .st 46 (.t 159) (.t 157)⟩])
       (.seq (.reg [⟨(some 4), none, .mv (.b true)⟩])
        (.ret))))))))
theorem b49 : Body Try.prog 49 160 [4] k49 := ⟨Enters.of Try.func49 (by kernel_rfl) (by kernel_rfl), _, _, Try.func49, rfl, by kernel_rfl, rfl, rfl⟩

/-- (*cartridge/cartridgeref22.Robot).Serve -/
noncomputable def drw50_0 : Array Oper := ((Try.f50.body.map regs).getD []).getD 0 #[]
noncomputable def k50 : KC :=
 .seq (.reg [⟨(some 6), none, .mv (.i .i64 0)⟩,
   ⟨(some 7), none, .mv (.i .i64 0)⟩])
 (.seq (.seq (.reg [⟨(some 8), none, .mv (.i .i64 0)⟩])
   (.block 0 (.loop (.seq (.seq (.reg [⟨(some 11), none, .mv (.t 8)⟩,
         ⟨(some 12), none, .mv (.t 1)⟩,
         ⟨(some 13), none, .bi .len [46] [.t 12]⟩,
         ⟨(some 14), none, .bin .lss 3 (.t 11) (.t 13)⟩])
       (.cond (.t 14)
        (.skip)
        (.exit 0)))
      (.seq (.block 1 (.seq (.drw drw50_0 [⟨(some 17), none, .mv (.t 0)⟩,
           ⟨(some 18), none, .nc (.t 17)⟩,
           ⟨(some 19), none, .fa 84 (.t 18) 0⟩,
           ⟨(some 20), none, .ld 82 (.t 19)⟩,
           ⟨(some 21), none, .mv (.t 1)⟩,
           ⟨(some 22), none, .mv (.t 8)⟩,
           ⟨(some 23), none, .ia 46 (.t 21) (.t 22)⟩,
           ⟨(some 24), none, .ld 3 (.t 23)⟩,
           ⟨(some 25), none, .call (.fn 84) [.t 20, .t 24]⟩,
           ⟨(some 26), none, .bin .lss 3 (.t 25) (.i .i64 0)⟩])
         (.cond (.t 26)
          (.seq (.reg [⟨(some 6), none, .mv (.i .i64 0)⟩,
             ⟨(some 7), none, .mv (.i .i64 1)⟩])
           (.ret))
          (.skip))))
       (.reg [⟨(some 15), none, .mv (.t 8)⟩,
         ⟨(some 16), none, .bin .add 3 (.t 15) (.i .i64 1)⟩,
         ⟨(some 8), none, .mv (.t 16)⟩]))))))
  (.seq (.reg [⟨(some 27), none, .mv (.t 0)⟩,
     ⟨(some 28), none, .mv (.t 0)⟩,
     ⟨(some 29), none, .nc (.t 28)⟩,
     ⟨(some 30), none, .fa 84 (.t 29) 1⟩,
     ⟨(some 31), none, .ld 46 (.t 30)⟩,
     ⟨(some 32), none, .mv (.t 1)⟩,
     ⟨(some 33), none, .bi .append [46, 46] [.t 31, .t 32]⟩,
     ⟨(some 34), none, .nc (.t 27)⟩,
     ⟨(some 35), none, .fa 84 (.t 34) 1⟩,
     ⟨none, none, .st 46 (.t 35) (.t 33)⟩])
   (.seq (.reg [⟨(some 36), none, .mv (.t 2)⟩,
      ⟨(some 37), none, .call (.fn 90) [.t 36, .i .i64 0, .i .i64 1000]⟩,
      ⟨(some 2), none, .mv (.t 37)⟩])
    (.seq (.reg [⟨(some 9), none, .mv (.i .i64 0)⟩])
     (.seq (.block 2 (.loop (.seq (.seq (.reg [⟨(some 38), none, .mv (.t 0)⟩,
            ⟨(some 39), none, .nc (.t 38)⟩,
            ⟨(some 40), none, .fa 84 (.t 39) 1⟩,
            ⟨(some 41), none, .ld 46 (.t 40)⟩,
            ⟨(some 42), none, .bi .len [46] [.t 41]⟩,
            ⟨(some 43), none, .bin .gtr 3 (.t 42) (.i .i64 0)⟩])
          (.cond (.t 43)
           (.skip)
           (.exit 2)))
         (.block 3 (.seq (.reg [⟨(some 10), none, .mv (.b false)⟩])
           (.seq (.seq (.reg [⟨(some 44), none, .mv (.t 0)⟩,
               ⟨(some 45), none, .call (.fn 91) [.t 44]⟩,
               ⟨(some 46), none, .mv (.t 45)⟩,
               ⟨(some 47), (some (46, true)), .mv (.t 2)⟩,
               ⟨(some 48), (some (46, true)), .bin .gtr 3 (.t 47) (.i .i64 0)⟩,
               ⟨(some 49), none, .pk (.t 46) (.t 48) (.b false)⟩])
             (.cond (.t 49)
              (.seq (.reg [⟨(some 10), none, .mv (.b true)⟩])
               (.reg [⟨(some 50), none, .mv (.t 2)⟩,
                 ⟨(some 51), none, .bin .sub 3 (.t 50) (.i .i64 1)⟩,
                 ⟨(some 2), none, .mv (.t 51)⟩]))
              (.skip)))
            (.seq (.reg [⟨(some 52), none, .mv (.t 0)⟩,
               ⟨(some 53), none, .mv (.t 10)⟩,
               ⟨(some 54), none, .call (.fn 49) [.t 52, .t 53]⟩])
             (.reg [⟨(some 55), none, .mv (.t 9)⟩,
               ⟨(some 56), none, .bin .add 3 (.t 55) (.i .i64 1)⟩,
               ⟨(some 9), none, .mv (.t 56)⟩]))))))))
      (.seq (.reg [⟨(some 57), none, .mv (.t 9)⟩,
         ⟨(some 6), none, .mv (.t 57)⟩,
         ⟨(some 7), none, .mv (.i .i64 0)⟩])
       (.ret)))))))
theorem b50 : Body Try.prog 50 58 [6, 7] k50 := ⟨Enters.of Try.func50 (by kernel_rfl) (by kernel_rfl), _, _, Try.func50, rfl, by kernel_rfl, rfl, rfl⟩

/-- (*cartridge/cartridgeref22.Robot).Waiting -/
def k51 : KC :=
 .seq (.reg [⟨(some 2), none, .mv (.i .i64 0)⟩])
 (.seq (.reg [⟨(some 3), none, .mv (.t 0)⟩,
    ⟨(some 4), none, .nc (.t 3)⟩,
    ⟨(some 5), none, .fa 84 (.t 4) 1⟩,
    ⟨(some 6), none, .ld 46 (.t 5)⟩,
    ⟨(some 7), none, .bi .len [46] [.t 6]⟩,
    ⟨(some 2), none, .mv (.t 7)⟩])
  (.ret))
theorem b51 : Body Try.prog 51 8 [2] k51 := ⟨Enters.of Try.func51 (by kernel_rfl) (by kernel_rfl), _, _, Try.func51, rfl, by kernel_rfl, rfl, rfl⟩

/-- (*cartridge/robot.Robot).Mounted -/
def k52 : KC :=
 .seq (.reg [⟨(some 4), none, .mv (.i .i64 0)⟩])
 (.seq (.seq (.reg [⟨(some 5), none, .mv (.t 0)⟩,
     ⟨(some 6), none, .bin .eql 64 (.t 5) (.np)⟩])
   (.cond (.t 6)
    (.seq (.reg [⟨(some 4), none, .mv (.i .i64 0)⟩])
     (.ret))
    (.skip)))
  (.seq (.reg [⟨(some 7), none, .mv (.t 0)⟩,
     ⟨(some 8), none, .nc (.t 7)⟩,
     ⟨(some 9), none, .fa 109 (.t 8) 0⟩,
     ⟨(some 10), none, .ld 102 (.t 9)⟩,
     ⟨(some 11), none, .mv (.t 1)⟩,
     ⟨(some 12), none, .call (.fn 92) [.t 10, .t 11]⟩,
     ⟨(some 4), none, .mv (.t 12)⟩])
   (.ret)))
theorem b52 : Body Try.prog 52 13 [4] k52 := ⟨Enters.of Try.func52 (by kernel_rfl) (by kernel_rfl), _, _, Try.func52, rfl, by kernel_rfl, rfl, rfl⟩

/-- (*cartridge/cartridgeref22.Shelf).Mounted -/
def k53 : KC :=
 .seq (.reg [⟨(some 4), none, .mv (.i .i64 0)⟩])
 (.seq (.seq (.reg [⟨(some 5), none, .mv (.t 1)⟩,
     ⟨(some 6), none, .bin .lss 3 (.t 5) (.i .i64 0)⟩,
     ⟨(some 7), none, .mv (.t 6)⟩,
     ⟨(some 8), (some (7, false)), .mv (.t 1)⟩,
     ⟨(some 9), (some (7, false)), .mv (.t 0)⟩,
     ⟨(some 10), (some (7, false)), .nc (.t 9)⟩,
     ⟨(some 11), (some (7, false)), .fa 118 (.t 10) 2⟩,
     ⟨(some 12), (some (7, false)), .ld 46 (.t 11)⟩,
     ⟨(some 13), (some (7, false)), .bi .len [46] [.t 12]⟩,
     ⟨(some 14), (some (7, false)), .bin .geq 3 (.t 8) (.t 13)⟩,
     ⟨(some 15), none, .pk (.t 7) (.b true) (.t 14)⟩])
   (.cond (.t 15)
    (.seq (.reg [⟨(some 4), none, .mv (.i .i64 0)⟩])
     (.ret))
    (.skip)))
  (.seq (.reg [⟨(some 16), none, .mv (.t 0)⟩,
     ⟨(some 17), none, .nc (.t 16)⟩,
     ⟨(some 18), none, .fa 118 (.t 17) 2⟩,
     ⟨(some 19), none, .ld 46 (.t 18)⟩,
     ⟨(some 20), none, .mv (.t 1)⟩,
     ⟨(some 21), none, .ia 46 (.t 19) (.t 20)⟩,
     ⟨(some 22), none, .ld 3 (.t 21)⟩,
     ⟨(some 4), none, .mv (.t 22)⟩])
   (.ret)))
theorem b53 : Body Try.prog 53 23 [4] k53 := ⟨Enters.of Try.func53 (by kernel_rfl) (by kernel_rfl), _, _, Try.func53, rfl, by kernel_rfl, rfl, rfl⟩

/-- cartridge/shelf.New -/
noncomputable def drw75_0 : Array Oper := ((Try.f75.body.map regs).getD []).getD 0 #[]
noncomputable def k75 : KC :=
 .seq (.reg [⟨(some 4), none, .mv (.np)⟩,
   ⟨(some 5), none, .mv (.i .i64 0)⟩])
 (.seq (.seq (.reg [⟨(some 8), none, .mv (.t 0)⟩,
     ⟨(some 9), none, .bi .len [46] [.t 8]⟩,
     ⟨(some 10), none, .bin .gtr 3 (.t 9) (.i .i64 30)⟩,
     ⟨(some 11), none, .mv (.t 10)⟩,
     ⟨(some 12), (some (11, false)), .mv (.t 1)⟩,
     ⟨(some 13), (some (11, false)), .bin .lss 3 (.t 12) (.i .i64 1)⟩,
     ⟨(some 14), none, .pk (.t 11) (.b true) (.t 13)⟩,
     ⟨(some 15), none, .mv (.t 14)⟩,
     ⟨(some 16), (some (15, false)), .mv (.t 1)⟩,
     ⟨(some 17), (some (15, false)), .bin .gtr 3 (.t 16) (.i .i64 4)⟩,
     ⟨(some 18), none, .pk (.t 15) (.b true) (.t 17)⟩])
   (.cond (.t 18)
    (.seq (.reg [⟨(some 4), none, .mv (.np)⟩,
       ⟨(some 5), none, .mv (.i .i64 1)⟩])
     (.ret))
    (.skip)))
  (.seq (.seq (.reg [⟨(some 19), none, .mv (.t 0)⟩,
      ⟨(some 20), none, .bi .len [46] [.t 19]⟩,
      ⟨(some 21), none, .mv (.i .i64 0)⟩])
    (.block 0 (.loop (.seq (.reg [⟨(some 22), none, .bin .lss 3 (.t 21) (.t 20)⟩])
       (.seq (.cond (.t 22)
         (.skip)
         (.exit 0))
        (.seq (.block 1 (.seq (.reg [⟨(some 23), none, .mv (.t 21)⟩,
             ⟨(some 24), none, .ia 46 (.t 19) (.t 21)⟩,
             ⟨(some 25), none, .ld 3 (.t 24)⟩,
             ⟨(some 6), none, .mv (.t 23)⟩,
             ⟨(some 7), none, .mv (.t 25)⟩])
           (.seq (.reg [⟨(some 26), none, .mv (.t 7)⟩,
              ⟨(some 27), none, .bin .lss 3 (.t 26) (.i .i64 1)⟩,
              ⟨(some 28), none, .mv (.t 27)⟩,
              ⟨(some 29), (some (28, false)), .mv (.t 0)⟩,
              ⟨(some 30), (some (28, false)), .mv (.t 6)⟩,
              ⟨(some 31), (some (28, false)), .sli 46 (.t 29) none (some (.t 30)) none⟩,
              ⟨(some 32), (some (28, false)), .mv (.t 7)⟩,
              ⟨(some 33), (some (28, false)), .call (.fn 99) [.t 31, .t 32]⟩,
              ⟨(some 34), none, .pk (.t 28) (.b true) (.t 33)⟩])
            (.cond (.t 34)
             (.seq (.reg [⟨(some 4), none, .mv (.np)⟩,
                ⟨(some 5), none, .mv (.i .i64 1)⟩])
              (.ret))
             (.skip)))))
         (.reg [⟨(some 35), none, .bin .add 3 (.t 21) (.i .i64 1)⟩,
           ⟨(some 21), none, .mv (.t 35)⟩])))))))
   (.seq (.drw drw75_0 [⟨(some 36), none, .mv (.t 0)⟩,
      ⟨(some 37), none, .call (.fn 76) [.t 36]⟩,
      ⟨(some 38), none, .mv (.t 1)⟩,
      ⟨(some 39), none, .mk 46 (.t 38) (.t 38)⟩,
      ⟨(some 40), none, .bld 127 [(0, .t 37), (1, .t 39)]⟩,
      ⟨(some 41), none, .box 127 (.t 40)⟩,
      ⟨(some 4), none, .mv (.t 41)⟩,
      ⟨(some 5), none, .mv (.i .i64 0)⟩])
    (.ret))))
theorem b75 : Body Try.prog 75 42 [4, 5] k75 := ⟨Enters.of Try.func75 (by kernel_rfl) (by kernel_rfl), _, _, Try.func75, rfl, by kernel_rfl, rfl, rfl⟩

/-- slices.Clone[[]int,int] -/
def k76 : KC :=
 .seq (.reg [⟨(some 2), none, .mv (.ns)⟩])
 (.seq (.seq (.reg [⟨(some 3), none, .mv (.t 0)⟩,
     ⟨(some 4), none, .bin .eql 46 (.t 3) (.ns)⟩])
   (.cond (.t 4)
    (.seq (.reg [⟨(some 2), none, .mv (.ns)⟩])
     (.ret))
    (.skip)))
  (.seq (.reg [⟨(some 5), none, .bsl 46 0 []⟩,
     ⟨(some 6), none, .mv (.t 0)⟩,
     ⟨(some 7), none, .bi .append [46, 46] [.t 5, .t 6]⟩,
     ⟨(some 2), none, .mv (.t 7)⟩])
   (.ret)))
theorem b76 : Body Try.prog 76 8 [2] k76 := ⟨Enters.of Try.func76 (by kernel_rfl) (by kernel_rfl), _, _, Try.func76, rfl, by kernel_rfl, rfl, rfl⟩

/-- slices.ContainsFunc[[]int,int] -/
def k77 : KC :=
 .seq (.reg [⟨(some 4), none, .mv (.b false)⟩])
 (.seq (.reg [⟨(some 5), none, .mv (.t 0)⟩,
    ⟨(some 6), none, .mv (.t 1)⟩,
    ⟨(some 7), none, .call (.fn 100) [.t 5, .t 6]⟩,
    ⟨(some 8), none, .bin .geq 3 (.t 7) (.i .i64 0)⟩,
    ⟨(some 4), none, .mv (.t 8)⟩])
  (.ret))
theorem b77 : Body Try.prog 77 9 [4] k77 := ⟨Enters.of Try.func77 (by kernel_rfl) (by kernel_rfl), _, _, Try.func77, rfl, by kernel_rfl, rfl, rfl⟩

/-- (*cartridge/robot.Robot).Serve$1 -/
def k78 : KC :=
 .seq (.reg [⟨(some 3), none, .mv (.b false)⟩])
 (.seq (.reg [⟨(some 4), none, .ld 64 (.t 1)⟩,
    ⟨(some 5), none, .mv (.t 0)⟩,
    ⟨(some 6), none, .call (.fn 79) [.t 4, .t 5]⟩,
    ⟨(some 7), none, .un .not (.t 6)⟩,
    ⟨(some 3), none, .mv (.t 7)⟩])
  (.ret))
theorem b78 : Body Try.prog 78 8 [3] k78 := ⟨Enters.of Try.func78 (by kernel_rfl) (by kernel_rfl), _, _, Try.func78, rfl, by kernel_rfl, rfl, rfl⟩

/-- (*cartridge/robot.Robot).is -/
def k79 : KC :=
 .seq (.reg [⟨(some 4), none, .mv (.b false)⟩])
 (.seq (.reg [⟨(some 5), none, .mv (.t 0)⟩,
    ⟨(some 6), none, .bin .neq 64 (.t 5) (.np)⟩,
    ⟨(some 7), none, .mv (.t 6)⟩,
    ⟨(some 8), (some (7, true)), .mv (.t 0)⟩,
    ⟨(some 9), (some (7, true)), .nc (.t 8)⟩,
    ⟨(some 10), (some (7, true)), .fa 109 (.t 9) 2⟩,
    ⟨(some 11), (some (7, true)), .ld 46 (.t 10)⟩,
    ⟨(some 12), (some (7, true)), .mv (.t 1)⟩,
    ⟨(some 13), (some (7, true)), .call (.fn 99) [.t 11, .t 12]⟩,
    ⟨(some 14), none, .pk (.t 7) (.t 13) (.b false)⟩,
    ⟨(some 4), none, .mv (.t 14)⟩])
  (.ret))
theorem b79 : Body Try.prog 79 15 [4] k79 := ⟨Enters.of Try.func79 (by kernel_rfl) (by kernel_rfl), _, _, Try.func79, rfl, by kernel_rfl, rfl, rfl⟩

/-- (*cartridge/mount.Line).Add -/
def k80 : KC :=
 .seq (.reg [⟨(some 4), none, .mv (.t 0)⟩,
   ⟨(some 5), none, .bin .neq 129 (.t 4) (.np)⟩])
 (.cond (.t 5)
  (.reg [⟨(some 6), none, .mv (.t 0)⟩,
    ⟨(some 7), none, .mv (.t 0)⟩,
    ⟨(some 8), none, .nc (.t 7)⟩,
    ⟨(some 9), none, .fa 107 (.t 8) 0⟩,
    ⟨(some 10), none, .ld 46 (.t 9)⟩,
    ⟨(some 11), none, .mv (.t 1)⟩,
    ⟨(some 12), none, .bsl 46 1 [(0, .t 11)]⟩,
    ⟨(some 13), none, .bi .append [46, 46] [.t 10, .t 12]⟩,
    ⟨(some 14), none, .nc (.t 6)⟩,
    ⟨(some 15), none, .fa 107 (.t 14) 0⟩,
    ⟨none, none, .st 46 (.t 15) (.t 13)⟩])
  (.skip))
theorem b80 : Body Try.prog 80 16 [] k80 := ⟨Enters.of Try.func80 (by kernel_rfl) (by kernel_rfl), _, _, Try.func80, rfl, by kernel_rfl, rfl, rfl⟩

/-- (*cartridge/robot.Robot).ready -/
def k81 : KC :=
 .seq (.reg [⟨(some 2), none, .mv (.i .i64 0)⟩,
   ⟨(some 3), none, .mv (.b false)⟩])
 (.seq (.seq (.reg [⟨(some 6), none, .mv (.t 0)⟩,
     ⟨(some 7), none, .nc (.t 6)⟩,
     ⟨(some 8), none, .fa 109 (.t 7) 1⟩,
     ⟨(some 9), none, .ld 3 (.t 8)⟩,
     ⟨(some 10), none, .mv (.i .i64 0)⟩])
   (.block 0 (.loop (.seq (.reg [⟨(some 11), none, .bin .lss 3 (.t 10) (.t 9)⟩])
      (.seq (.cond (.t 11)
        (.skip)
        (.exit 0))
       (.seq (.block 1 (.seq (.reg [⟨(some 12), none, .mv (.t 10)⟩,
            ⟨(some 4), none, .mv (.t 12)⟩])
          (.seq (.reg [⟨(some 13), none, .mv (.t 0)⟩,
             ⟨(some 14), none, .nc (.t 13)⟩,
             ⟨(some 15), none, .fa 109 (.t 14) 0⟩,
             ⟨(some 16), none, .ld 102 (.t 15)⟩,
             ⟨(some 17), none, .mv (.t 4)⟩,
             ⟨(some 18), none, .call (.fn 92) [.t 16, .t 17]⟩,
             ⟨(some 5), none, .mv (.t 18)⟩])
           (.seq (.reg [⟨(some 19), none, .mv (.t 5)⟩,
              ⟨(some 20), none, .bin .neq 3 (.t 19) (.i .i64 0)⟩,
              ⟨(some 21), none, .mv (.t 20)⟩,
              ⟨(some 22), (some (21, true)), .mv (.t 0)⟩,
              ⟨(some 23), (some (21, true)), .nc (.t 22)⟩,
              ⟨(some 24), (some (21, true)), .fa 109 (.t 23) 3⟩,
              ⟨(some 25), (some (21, true)), .mv (.t 5)⟩,
              ⟨(some 26), (some (21, true)), .call (.fn 101) [.t 24, .t 25]⟩,
              ⟨(some 27), none, .pk (.t 21) (.t 26) (.b false)⟩])
            (.cond (.t 27)
             (.seq (.reg [⟨(some 28), none, .mv (.t 5)⟩,
                ⟨(some 2), none, .mv (.t 28)⟩,
                ⟨(some 3), none, .mv (.b true)⟩])
              (.ret))
             (.skip))))))
        (.reg [⟨(some 29), none, .bin .add 3 (.t 10) (.i .i64 1)⟩,
          ⟨(some 10), none, .mv (.t 29)⟩])))))))
  (.seq (.reg [⟨(some 2), none, .mv (.i .i64 0)⟩,
     ⟨(some 3), none, .mv (.b false)⟩])
   (.ret)))
theorem b81 : Body Try.prog 81 30 [2, 3] k81 := ⟨Enters.of Try.func81 (by kernel_rfl) (by kernel_rfl), _, _, Try.func81, rfl, by kernel_rfl, rfl, rfl⟩

/-- (*cartridge/mount.Line).Len -/
def k82 : KC :=
 .seq (.reg [⟨(some 2), none, .mv (.i .i64 0)⟩])
 (.seq (.seq (.reg [⟨(some 3), none, .mv (.t 0)⟩,
     ⟨(some 4), none, .bin .eql 129 (.t 3) (.np)⟩])
   (.cond (.t 4)
    (.seq (.reg [⟨(some 2), none, .mv (.i .i64 0)⟩])
     (.ret))
    (.skip)))
  (.seq (.reg [⟨(some 5), none, .mv (.t 0)⟩,
     ⟨(some 6), none, .nc (.t 5)⟩,
     ⟨(some 7), none, .fa 107 (.t 6) 0⟩,
     ⟨(some 8), none, .ld 46 (.t 7)⟩,
     ⟨(some 9), none, .bi .len [46] [.t 8]⟩,
     ⟨(some 2), none, .mv (.t 9)⟩])
   (.ret)))
theorem b82 : Body Try.prog 82 10 [2] k82 := ⟨Enters.of Try.func82 (by kernel_rfl) (by kernel_rfl), _, _, Try.func82, rfl, by kernel_rfl, rfl, rfl⟩

/-- cartridge/cartridgeref22.NewShelf -/
noncomputable def drw83_0 : Array Oper := ((Try.f83.body.map regs).getD []).getD 0 #[]
noncomputable def k83 : KC :=
 .seq (.reg [⟨(some 4), none, .mv (.np)⟩,
   ⟨(some 5), none, .mv (.i .i64 0)⟩])
 (.seq (.seq (.reg [⟨(some 8), none, .mv (.t 0)⟩,
     ⟨(some 9), none, .bi .len [46] [.t 8]⟩,
     ⟨(some 10), none, .bin .gtr 3 (.t 9) (.i .i64 30)⟩,
     ⟨(some 11), none, .mv (.t 10)⟩,
     ⟨(some 12), (some (11, false)), .mv (.t 1)⟩,
     ⟨(some 13), (some (11, false)), .bin .lss 3 (.t 12) (.i .i64 1)⟩,
     ⟨(some 14), none, .pk (.t 11) (.b true) (.t 13)⟩,
     ⟨(some 15), none, .mv (.t 14)⟩,
     ⟨(some 16), (some (15, false)), .mv (.t 1)⟩,
     ⟨(some 17), (some (15, false)), .bin .gtr 3 (.t 16) (.i .i64 4)⟩,
     ⟨(some 18), none, .pk (.t 15) (.b true) (.t 17)⟩])
   (.cond (.t 18)
    (.seq (.reg [⟨(some 4), none, .mv (.np)⟩,
       ⟨(some 5), none, .mv (.i .i64 1)⟩])
     (.ret))
    (.skip)))
  (.seq (.reg [⟨(some 19), none, .mv (.t 1)⟩,
     ⟨(some 20), none, .mk 46 (.t 19) (.t 19)⟩,
     ⟨(some 21), none, .bld 118 [(2, .t 20)]⟩,
     ⟨(some 22), none, .box 118 (.t 21)⟩,
     ⟨(some 6), none, .mv (.t 22)⟩])
   (.seq (.seq (.reg [⟨(some 7), none, .mv (.i .i64 0)⟩])
     (.block 0 (.loop (.seq (.seq (.reg [⟨(some 23), none, .mv (.t 7)⟩,
           ⟨(some 24), none, .mv (.t 0)⟩,
           ⟨(some 25), none, .bi .len [46] [.t 24]⟩,
           ⟨(some 26), none, .bin .lss 3 (.t 23) (.t 25)⟩])
         (.cond (.t 26)
          (.skip)
          (.exit 0)))
        (.seq (.block 1 (.seq (.seq (.reg [⟨(some 29), none, .mv (.t 0)⟩,
              ⟨(some 30), none, .mv (.t 7)⟩,
              ⟨(some 31), none, .ia 46 (.t 29) (.t 30)⟩,
              ⟨(some 32), none, .ld 3 (.t 31)⟩,
              ⟨(some 33), none, .bin .lss 3 (.t 32) (.i .i64 1)⟩,
              ⟨(some 34), none, .mv (.t 33)⟩,
              ⟨(some 35), (some (34, false)), .mv (.t 6)⟩,
              ⟨(some 36), (some (34, false)), .mv (.t 0)⟩,
              ⟨(some 37), (some (34, false)), .mv (.t 7)⟩,
              ⟨(some 38), (some (34, false)), .ia 46 (.t 36) (.t 37)⟩,
              ⟨(some 39), (some (34, false)), .ld 3 (.t 38)⟩,
              ⟨(some 40), (some (34, false)), .call (.fn 84) [.t 35, .t 39]⟩,
              ⟨(some 41), (some (34, false)), .bin .geq 3 (.t 40) (.i .i64 0)⟩,
              ⟨(some 42), none, .pk (.t 34) (.b true) (.t 41)⟩])
            (.cond (.t 42)
             (.seq (.reg [⟨(some 4), none, .mv (.np)⟩,
                ⟨(some 5), none, .mv (.i .i64 1)⟩])
              (.ret))
             (.skip)))
           (.seq (.drw drw83_0 [⟨(some 43), none, .mv (.t 6)⟩,
              ⟨(some 44), none, .mv (.t 6)⟩,
              ⟨(some 45), none, .nc (.t 44)⟩,
              ⟨(some 46), none, .fa 118 (.t 45) 0⟩,
              ⟨(some 47), none, .ld 46 (.t 46)⟩,
              ⟨(some 48), none, .mv (.t 0)⟩,
              ⟨(some 49), none, .mv (.t 7)⟩,
              ⟨(some 50), none, .ia 46 (.t 48) (.t 49)⟩,
              ⟨(some 51), none, .ld 3 (.t 50)⟩,
              ⟨(some 52), none, .bsl 46 1 [(0, .t 51)]⟩,
              ⟨(some 53), none, .bi .append [46, 46] [.t 47, .t 52]⟩,
              ⟨(some 54), none, .nc (.t 43)⟩,
              ⟨(some 55), none, .fa 118 (.t 54) 0⟩,
              ⟨none, none, .st 46 (.t 55) (.t 53)⟩])
            (.reg [⟨(some 56), none, .mv (.t 6)⟩,
              ⟨(some 57), none, .mv (.t 6)⟩,
              ⟨(some 58), none, .nc (.t 57)⟩,
              ⟨(some 59), none, .fa 118 (.t 58) 1⟩,
              ⟨(some 60), none, .ld 46 (.t 59)⟩,
              ⟨(some 61), none, .bsl 46 1 [(0, .i .i64 (-1))]⟩,
              ⟨(some 62), none, .bi .append [46, 46] [.t 60, .t 61]⟩,
              ⟨(some 63), none, .nc (.t 56)⟩,
              ⟨(some 64), none, .fa 118 (.t 63) 1⟩,
              ⟨none, none, .st 46 (.t 64) (.t 62)⟩]))))
         (.reg [⟨(some 27), none, .mv (.t 7)⟩,
           ⟨(some 28), none, .bin .add 3 (.t 27) (.i .i64 1)⟩,
           ⟨(some 7), none, .mv (.t 28)⟩]))))))
    (.seq (.reg [⟨(some 65), none, .mv (.t 6)⟩,
       ⟨(some 4), none, .mv (.t 65)⟩,
       ⟨(some 5), none, .mv (.i .i64 0)⟩])
     (.ret)))))
theorem b83 : Body Try.prog 83 66 [4, 5] k83 := ⟨Enters.of Try.func83 (by kernel_rfl) (by kernel_rfl), _, _, Try.func83, rfl, by kernel_rfl, rfl, rfl⟩

/-- (*cartridge/cartridgeref22.Shelf).find -/
def k84 : KC :=
 .seq (.reg [⟨(some 4), none, .mv (.i .i64 0)⟩])
 (.seq (.seq (.reg [⟨(some 5), none, .mv (.i .i64 0)⟩])
   (.block 0 (.loop (.seq (.seq (.reg [⟨(some 6), none, .mv (.t 5)⟩,
         ⟨(some 7), none, .mv (.t 0)⟩,
         ⟨(some 8), none, .nc (.t 7)⟩,
         ⟨(some 9), none, .fa 118 (.t 8) 0⟩,
         ⟨(some 10), none, .ld 46 (.t 9)⟩,
         ⟨(some 11), none, .bi .len [46] [.t 10]⟩,
         ⟨(some 12), none, .bin .lss 3 (.t 6) (.t 11)⟩])
       (.cond (.t 12)
        (.skip)
        (.exit 0)))
      (.seq (.block 1 (.seq (.reg [⟨(some 15), none, .mv (.t 0)⟩,
           ⟨(some 16), none, .nc (.t 15)⟩,
           ⟨(some 17), none, .fa 118 (.t 16) 0⟩,
           ⟨(some 18), none, .ld 46 (.t 17)⟩,
           ⟨(some 19), none, .mv (.t 5)⟩,
           ⟨(some 20), none, .ia 46 (.t 18) (.t 19)⟩,
           ⟨(some 21), none, .ld 3 (.t 20)⟩,
           ⟨(some 22), none, .mv (.t 1)⟩,
           ⟨(some 23), none, .bin .eql 3 (.t 21) (.t 22)⟩])
         (.cond (.t 23)
          (.seq (.reg [⟨(some 24), none, .mv (.t 5)⟩,
             ⟨(some 4), none, .mv (.t 24)⟩])
           (.ret))
          (.skip))))
       (.reg [⟨(some 13), none, .mv (.t 5)⟩,
         ⟨(some 14), none, .bin .add 3 (.t 13) (.i .i64 1)⟩,
         ⟨(some 5), none, .mv (.t 14)⟩]))))))
  (.seq (.reg [⟨(some 4), none, .mv (.i .i64 (-1))⟩])
   (.ret)))
theorem b84 : Body Try.prog 84 25 [4] k84 := ⟨Enters.of Try.func84 (by kernel_rfl) (by kernel_rfl), _, _, Try.func84, rfl, by kernel_rfl, rfl, rfl⟩

/-- (*cartridge/mount.Line).Serve -/
def k85 : KC :=
 .seq (.reg [⟨(some 3), none, .box 3 (.t 1)⟩,
   ⟨(some 4), none, .mv (.i .i64 0)⟩])
 (.seq (.reg [⟨(some 6), none, .mv (.t 0)⟩,
    ⟨(some 7), none, .call (.fn 82) [.t 6]⟩,
    ⟨(some 5), none, .mv (.t 7)⟩])
  (.seq (.seq (.reg [⟨(some 8), none, .mv (.t 5)⟩,
      ⟨(some 9), none, .bin .gtr 3 (.t 8) (.i .i64 0)⟩])
    (.cond (.t 9)
     (.reg [⟨(some 10), none, .mv (.t 0)⟩,
       ⟨(some 11), none, .mv (.t 0)⟩,
       ⟨(some 12), none, .nc (.t 11)⟩,
       ⟨(some 13), none, .fa 107 (.t 12) 0⟩,
       ⟨(some 14), none, .ld 46 (.t 13)⟩,
       ⟨(some 15), none, .mf 103 [.t 3]⟩,
       ⟨(some 16), none, .call (.fn 102) [.t 14, .t 15]⟩,
       ⟨(some 17), none, .nc (.t 10)⟩,
       ⟨(some 18), none, .fa 107 (.t 17) 0⟩,
       ⟨none, none, .st 46 (.t 18) (.t 16)⟩])
     (.skip)))
   (.seq (.reg [⟨(some 19), none, .mv (.t 5)⟩,
      ⟨(some 20), none, .mv (.t 0)⟩,
      ⟨(some 21), none, .call (.fn 82) [.t 20]⟩,
      ⟨(some 22), none, .bin .sub 3 (.t 19) (.t 21)⟩,
      ⟨(some 4), none, .mv (.t 22)⟩])
    (.ret))))
theorem b85 : Body Try.prog 85 23 [4] k85 := ⟨Enters.of Try.func85 (by kernel_rfl) (by kernel_rfl), _, _, Try.func85, rfl, by kernel_rfl, rfl, rfl⟩

/-- (*cartridge/robot.Robot).pick -/
noncomputable def drw86_0 : Array Oper := ((Try.f86.body.map regs).getD []).getD 0 #[]
noncomputable def k86 : KC :=
 .seq (.reg [⟨(some 7), none, .mv (.t 0)⟩,
   ⟨(some 8), none, .nc (.t 7)⟩,
   ⟨(some 9), none, .fa 109 (.t 8) 3⟩,
   ⟨(some 10), none, .call (.fn 104) [.t 9]⟩,
   ⟨(some 6), none, .mv (.t 10)⟩,
   ⟨(some 11), none, .ex (.t 6) 0⟩,
   ⟨(some 12), none, .ex (.t 6) 1⟩,
   ⟨(some 2), none, .mv (.t 11)⟩,
   ⟨(some 3), none, .mv (.t 12)⟩])
 (.seq (.seq (.reg [⟨(some 14), none, .mv (.t 0)⟩,
     ⟨(some 15), none, .call (.fn 105) [.t 14]⟩,
     ⟨(some 13), none, .mv (.t 15)⟩,
     ⟨(some 16), none, .ex (.t 13) 0⟩,
     ⟨(some 17), none, .ex (.t 13) 1⟩,
     ⟨(some 4), none, .mv (.t 16)⟩,
     ⟨(some 5), none, .mv (.t 17)⟩])
   (.seq (.reg [⟨(some 18), none, .mv (.t 5)⟩])
    (.cond (.t 18)
     (.seq (.reg [⟨(some 19), none, .mv (.t 0)⟩,
        ⟨(some 20), none, .nc (.t 19)⟩,
        ⟨(some 21), none, .fa 109 (.t 20) 0⟩,
        ⟨(some 22), none, .ld 102 (.t 21)⟩,
        ⟨(some 23), none, .mv (.t 2)⟩,
        ⟨(some 24), none, .mv (.t 4)⟩,
        ⟨(some 25), none, .call (.fn 106) [.t 22, .t 23, .t 24]⟩])
      (.seq (.reg [⟨(some 26), none, .mv (.t 0)⟩,
         ⟨(some 27), none, .mv (.t 0)⟩,
         ⟨(some 28), none, .nc (.t 27)⟩,
         ⟨(some 29), none, .fa 109 (.t 28) 4⟩,
         ⟨(some 30), none, .ld 46 (.t 29)⟩,
         ⟨(some 31), none, .mv (.t 4)⟩,
         ⟨(some 32), none, .bsl 46 1 [(0, .t 31)]⟩,
         ⟨(some 33), none, .bi .append [46, 46] [.t 30, .t 32]⟩,
         ⟨(some 34), none, .nc (.t 26)⟩,
         ⟨(some 35), none, .fa 109 (.t 34) 4⟩,
         ⟨none, none, .st 46 (.t 35) (.t 33)⟩])
       (.ret)))
     (.skip))))
  (.seq (.drw drw86_0 [⟨(some 36), none, .mv (.t 0)⟩,
     ⟨(some 37), none, .nc (.t 36)⟩,
     ⟨(some 38), none, .fa 109 (.t 37) 0⟩,
     ⟨(some 39), none, .ld 102 (.t 38)⟩,
     ⟨(some 40), none, .mv (.t 0)⟩,
     ⟨(some 41), none, .nc (.t 40)⟩,
     ⟨(some 42), none, .fa 109 (.t 41) 4⟩,
     ⟨(some 43), none, .ld 46 (.t 42)⟩,
     ⟨(some 44), none, .ia 46 (.t 43) (.i .i64 0)⟩,
     ⟨(some 45), none, .ld 3 (.t 44)⟩,
     ⟨(some 46), none, .call (.fn 107) [.t 39, .t 45]⟩])
   (.reg [⟨(some 47), none, .mv (.t 0)⟩,
     ⟨(some 48), none, .mv (.t 0)⟩,
     ⟨(some 49), none, .nc (.t 48)⟩,
     ⟨(some 50), none, .fa 109 (.t 49) 4⟩,
     ⟨(some 51), none, .ld 46 (.t 50)⟩,
     ⟨(some 52), none, .sli 46 (.t 51) (some (.i .i64 1)) none none⟩,
     ⟨(some 53), none, .nc (.t 47)⟩,
     ⟨(some 54), none, .fa 109 (.t 53) 4⟩,
     ⟨none, none, .st 46 (.t 54) (.t 52)⟩])))
theorem b86 : Body Try.prog 86 55 [] k86 := ⟨Enters.of Try.func86 (by kernel_rfl) (by kernel_rfl), _, _, Try.func86, rfl, by kernel_rfl, rfl, rfl⟩

/-- (*cartridge/cartridgeref22.Robot).wants -/
def k87 : KC :=
 .seq (.reg [⟨(some 4), none, .mv (.b false)⟩])
 (.seq (.seq (.reg [⟨(some 5), none, .mv (.i .i64 0)⟩])
   (.block 0 (.loop (.seq (.seq (.reg [⟨(some 6), none, .mv (.t 5)⟩,
         ⟨(some 7), none, .mv (.t 0)⟩,
         ⟨(some 8), none, .nc (.t 7)⟩,
         ⟨(some 9), none, .fa 84 (.t 8) 1⟩,
         ⟨(some 10), none, .ld 46 (.t 9)⟩,
         ⟨(some 11), none, .bi .len [46] [.t 10]⟩,
         ⟨(some 12), none, .bin .lss 3 (.t 6) (.t 11)⟩])
       (.cond (.t 12)
        (.skip)
        (.exit 0)))
      (.seq (.block 1 (.seq (.reg [⟨(some 15), none, .mv (.t 0)⟩,
           ⟨(some 16), none, .nc (.t 15)⟩,
           ⟨(some 17), none, .fa 84 (.t 16) 1⟩,
           ⟨(some 18), none, .ld 46 (.t 17)⟩,
           ⟨(some 19), none, .mv (.t 5)⟩,
           ⟨(some 20), none, .ia 46 (.t 18) (.t 19)⟩,
           ⟨(some 21), none, .ld 3 (.t 20)⟩,
           ⟨(some 22), none, .mv (.t 1)⟩,
           ⟨(some 23), none, .bin .eql 3 (.t 21) (.t 22)⟩])
         (.cond (.t 23)
          (.seq (.reg [⟨(some 4), none, .mv (.b true)⟩])
           (.ret))
          (.skip))))
       (.reg [⟨(some 13), none, .mv (.t 5)⟩,
         ⟨(some 14), none, .bin .add 3 (.t 13) (.i .i64 1)⟩,
         ⟨(some 5), none, .mv (.t 14)⟩]))))))
  (.seq (.reg [⟨(some 4), none, .mv (.b false)⟩])
   (.ret)))
theorem b87 : Body Try.prog 87 24 [4] k87 := ⟨Enters.of Try.func87 (by kernel_rfl) (by kernel_rfl), _, _, Try.func87, rfl, by kernel_rfl, rfl, rfl⟩

/-- (*cartridge/cartridgeref22.Shelf).Move -/
def k88 : KC :=
 .seq (.reg [⟨(some 6), none, .mv (.i .i64 0)⟩])
 (.seq (.reg [⟨(some 8), none, .mv (.t 0)⟩,
    ⟨(some 9), none, .mv (.t 1)⟩,
    ⟨(some 10), none, .call (.fn 84) [.t 8, .t 9]⟩,
    ⟨(some 7), none, .mv (.t 10)⟩])
  (.seq (.seq (.reg [⟨(some 11), none, .mv (.t 7)⟩,
      ⟨(some 12), none, .bin .lss 3 (.t 11) (.i .i64 0)⟩,
      ⟨(some 13), none, .mv (.t 12)⟩,
      ⟨(some 14), (some (13, false)), .mv (.t 2)⟩,
      ⟨(some 15), (some (13, false)), .bin .lss 3 (.t 14) (.i .i64 0)⟩,
      ⟨(some 16), none, .pk (.t 13) (.b true) (.t 15)⟩,
      ⟨(some 17), none, .mv (.t 16)⟩,
      ⟨(some 18), (some (17, false)), .mv (.t 2)⟩,
      ⟨(some 19), (some (17, false)), .mv (.t 0)⟩,
      ⟨(some 20), (some (17, false)), .nc (.t 19)⟩,
      ⟨(some 21), (some (17, false)), .fa 118 (.t 20) 2⟩,
      ⟨(some 22), (some (17, false)), .ld 46 (.t 21)⟩,
      ⟨(some 23), (some (17, false)), .bi .len [46] [.t 22]⟩,
      ⟨(some 24), (some (17, false)), .bin .geq 3 (.t 18) (.t 23)⟩,
      ⟨(some 25), none, .pk (.t 17) (.b true) (.t 24)⟩])
    (.cond (.t 25)
     (.seq (.reg [⟨(some 6), none, .mv (.i .i64 1)⟩])
      (.ret))
     (.skip)))
   (.seq (.seq (.reg [⟨(some 26), none, .mv (.t 0)⟩,
       ⟨(some 27), none, .nc (.t 26)⟩,
       ⟨(some 28), none, .fa 118 (.t 27) 1⟩,
       ⟨(some 29), none, .ld 46 (.t 28)⟩,
       ⟨(some 30), none, .mv (.t 7)⟩,
       ⟨(some 31), none, .ia 46 (.t 29) (.t 30)⟩,
       ⟨(some 32), none, .ld 3 (.t 31)⟩,
       ⟨(some 33), none, .bin .geq 3 (.t 32) (.i .i64 0)⟩,
       ⟨(some 34), none, .mv (.t 33)⟩,
       ⟨(some 35), (some (34, false)), .mv (.t 0)⟩,
       ⟨(some 36), (some (34, false)), .nc (.t 35)⟩,
       ⟨(some 37), (some (34, false)), .fa 118 (.t 36) 2⟩,
       ⟨(some 38), (some (34, false)), .ld 46 (.t 37)⟩,
       ⟨(some 39), (some (34, false)), .mv (.t 2)⟩,
       ⟨(some 40), (some (34, false)), .ia 46 (.t 38) (.t 39)⟩,
       ⟨(some 41), (some (34, false)), .ld 3 (.t 40)⟩,
       ⟨(some 42), (some (34, false)), .bin .neq 3 (.t 41) (.i .i64 0)⟩,
       ⟨(some 43), none, .pk (.t 34) (.b true) (.t 42)⟩])
     (.cond (.t 43)
      (.seq (.reg [⟨(some 6), none, .mv (.i .i64 11)⟩])
       (.ret))
      (.skip)))
    (.seq (.reg [⟨(some 44), none, .mv (.t 0)⟩,
       ⟨(some 45), none, .nc (.t 44)⟩,
       ⟨(some 46), none, .fa 118 (.t 45) 1⟩,
       ⟨(some 47), none, .ld 46 (.t 46)⟩,
       ⟨(some 48), none, .mv (.t 7)⟩,
       ⟨(some 49), none, .mv (.t 2)⟩,
       ⟨(some 50), none, .ia 46 (.t 47) (.t 48)⟩,
       ⟨none, none, .st 3 (.t 50) (.t 49)⟩])
     (.seq (.reg [⟨(some 51), none, .mv (.t 0)⟩,
        ⟨(some 52), none, .nc (.t 51)⟩,
        ⟨(some 53), none, .fa 118 (.t 52) 2⟩,
        ⟨(some 54), none, .ld 46 (.t 53)⟩,
        ⟨(some 55), none, .mv (.t 2)⟩,
        ⟨(some 56), none, .mv (.t 1)⟩,
        ⟨(some 57), none, .ia 46 (.t 54) (.t 55)⟩,
        ⟨none, none, .st 3 (.t 57) (.t 56)⟩])
      (.seq (.reg [⟨(some 6), none, .mv (.i .i64 0)⟩])
       (.ret)))))))
theorem b88 : Body Try.prog 88 58 [6] k88 := ⟨Enters.of Try.func88 (by kernel_rfl) (by kernel_rfl), _, _, Try.func88, rfl, by kernel_rfl, rfl, rfl⟩

/-- (*cartridge/cartridgeref22.Shelf).Back -/
noncomputable def drw89_0 : Array Oper := ((Try.f89.body.map regs).getD []).getD 0 #[]
noncomputable def k89 : KC :=
 .seq (.reg [⟨(some 4), none, .mv (.i .i64 0)⟩])
 (.seq (.seq (.reg [⟨(some 5), none, .mv (.t 1)⟩,
     ⟨(some 6), none, .bin .lss 3 (.t 5) (.i .i64 0)⟩,
     ⟨(some 7), none, .mv (.t 6)⟩,
     ⟨(some 8), (some (7, false)), .mv (.t 1)⟩,
     ⟨(some 9), (some (7, false)), .mv (.t 0)⟩,
     ⟨(some 10), (some (7, false)), .nc (.t 9)⟩,
     ⟨(some 11), (some (7, false)), .fa 118 (.t 10) 2⟩,
     ⟨(some 12), (some (7, false)), .ld 46 (.t 11)⟩,
     ⟨(some 13), (some (7, false)), .bi .len [46] [.t 12]⟩,
     ⟨(some 14), (some (7, false)), .bin .geq 3 (.t 8) (.t 13)⟩,
     ⟨(some 15), none, .pk (.t 7) (.b true) (.t 14)⟩])
   (.cond (.t 15)
    (.seq (.reg [⟨(some 4), none, .mv (.i .i64 1)⟩])
     (.ret))
    (.skip)))
  (.seq (.seq (.reg [⟨(some 16), none, .mv (.t 0)⟩,
      ⟨(some 17), none, .nc (.t 16)⟩,
      ⟨(some 18), none, .fa 118 (.t 17) 2⟩,
      ⟨(some 19), none, .ld 46 (.t 18)⟩,
      ⟨(some 20), none, .mv (.t 1)⟩,
      ⟨(some 21), none, .ia 46 (.t 19) (.t 20)⟩,
      ⟨(some 22), none, .ld 3 (.t 21)⟩,
      ⟨(some 23), none, .bin .eql 3 (.t 22) (.i .i64 0)⟩])
    (.cond (.t 23)
     (.seq (.reg [⟨(some 4), none, .mv (.i .i64 11)⟩])
      (.ret))
     (.skip)))
   (.seq (.drw drw89_0 [⟨(some 24), none, .mv (.t 0)⟩,
      ⟨(some 25), none, .nc (.t 24)⟩,
      ⟨(some 26), none, .fa 118 (.t 25) 1⟩,
      ⟨(some 27), none, .ld 46 (.t 26)⟩,
      ⟨(some 28), none, .mv (.t 0)⟩,
      ⟨(some 29), none, .mv (.t 0)⟩,
      ⟨(some 30), none, .nc (.t 29)⟩,
      ⟨(some 31), none, .fa 118 (.t 30) 2⟩,
      ⟨(some 32), none, .ld 46 (.t 31)⟩,
      ⟨(some 33), none, .mv (.t 1)⟩,
      ⟨(some 34), none, .ia 46 (.t 32) (.t 33)⟩,
      ⟨(some 35), none, .ld 3 (.t 34)⟩,
      ⟨(some 36), none, .call (.fn 84) [.t 28, .t 35]⟩,
      ⟨(some 37), none, .ia 46 (.t 27) (.t 36)⟩,
      ⟨none, none, .st 3 (.t 37) (.i .i64 (-1))⟩])
    (.seq (.reg [⟨(some 38), none, .mv (.t 0)⟩,
       ⟨(some 39), none, .nc (.t 38)⟩,
       ⟨(some 40), none, .fa 118 (.t 39) 2⟩,
       ⟨(some 41), none, .ld 46 (.t 40)⟩,
       ⟨(some 42), none, .mv (.t 1)⟩,
       ⟨(some 43), none, .ia 46 (.t 41) (.t 42)⟩,
       ⟨none, none, .st 3 (.t 43) (.i .i64 0)⟩])
     (.seq (.reg [⟨(some 4), none, .mv (.i .i64 0)⟩])
      (.ret))))))
theorem b89 : Body Try.prog 89 44 [4] k89 := ⟨Enters.of Try.func89 (by kernel_rfl) (by kernel_rfl), _, _, Try.func89, rfl, by kernel_rfl, rfl, rfl⟩

/-- cartridge/cartridgeref1.Cut -/
def k90 : KC :=
 .seq (.reg [⟨(some 6), none, .mv (.i .i64 0)⟩])
 (.seq (.block 0 (.seq (.reg [⟨(some 8), none, .mv (.t 0)⟩,
      ⟨(some 9), none, .mv (.t 1)⟩,
      ⟨(some 10), none, .bin .lss 3 (.t 8) (.t 9)⟩,
      ⟨(some 7), none, .mv (.t 10)⟩])
    (.cond (.t 7)
     (.seq (.reg [⟨(some 11), none, .mv (.t 1)⟩,
        ⟨(some 6), none, .mv (.t 11)⟩])
      (.ret))
     (.seq (.reg [⟨(some 13), none, .mv (.t 0)⟩,
        ⟨(some 14), none, .mv (.t 2)⟩,
        ⟨(some 15), none, .bin .gtr 3 (.t 13) (.t 14)⟩,
        ⟨(some 12), none, .mv (.t 15)⟩])
      (.cond (.t 12)
       (.seq (.reg [⟨(some 16), none, .mv (.t 2)⟩,
          ⟨(some 6), none, .mv (.t 16)⟩])
        (.ret))
       (.skip))))))
  (.seq (.reg [⟨(some 17), none, .mv (.t 0)⟩,
     ⟨(some 6), none, .mv (.t 17)⟩])
   (.ret)))
theorem b90 : Body Try.prog 90 18 [6] k90 := ⟨Enters.of Try.func90 (by kernel_rfl) (by kernel_rfl), _, _, Try.func90, rfl, by kernel_rfl, rfl, rfl⟩

/-- (*cartridge/cartridgeref22.Robot).pick -/
def k91 : KC :=
 .seq (.reg [⟨(some 2), none, .mv (.b false)⟩])
 (.seq (.seq (.reg [⟨(some 3), none, .mv (.i .i64 0)⟩])
   (.block 0 (.loop (.seq (.seq (.reg [⟨(some 4), none, .mv (.t 3)⟩,
         ⟨(some 5), none, .mv (.t 0)⟩,
         ⟨(some 6), none, .nc (.t 5)⟩,
         ⟨(some 7), none, .fa 84 (.t 6) 0⟩,
         ⟨(some 8), none, .ld 82 (.t 7)⟩,
         ⟨(some 9), none, .nc (.t 8)⟩,
         ⟨(some 10), none, .fa 118 (.t 9) 2⟩,
         ⟨(some 11), none, .ld 46 (.t 10)⟩,
         ⟨(some 12), none, .bi .len [46] [.t 11]⟩,
         ⟨(some 13), none, .bin .lss 3 (.t 4) (.t 12)⟩])
       (.cond (.t 13)
        (.skip)
        (.exit 0)))
      (.seq (.block 1 (.seq (.reg [⟨(some 16), none, .mv (.t 0)⟩,
           ⟨(some 17), none, .nc (.t 16)⟩,
           ⟨(some 18), none, .fa 84 (.t 17) 0⟩,
           ⟨(some 19), none, .ld 82 (.t 18)⟩,
           ⟨(some 20), none, .nc (.t 19)⟩,
           ⟨(some 21), none, .fa 118 (.t 20) 2⟩,
           ⟨(some 22), none, .ld 46 (.t 21)⟩,
           ⟨(some 23), none, .mv (.t 3)⟩,
           ⟨(some 24), none, .ia 46 (.t 22) (.t 23)⟩,
           ⟨(some 25), none, .ld 3 (.t 24)⟩,
           ⟨(some 26), none, .bin .neq 3 (.t 25) (.i .i64 0)⟩,
           ⟨(some 27), none, .mv (.t 26)⟩,
           ⟨(some 28), (some (27, true)), .mv (.t 0)⟩,
           ⟨(some 29), (some (27, true)), .mv (.t 0)⟩,
           ⟨(some 30), (some (27, true)), .nc (.t 29)⟩,
           ⟨(some 31), (some (27, true)), .fa 84 (.t 30) 0⟩,
           ⟨(some 32), (some (27, true)), .ld 82 (.t 31)⟩,
           ⟨(some 33), (some (27, true)), .nc (.t 32)⟩,
           ⟨(some 34), (some (27, true)), .fa 118 (.t 33) 2⟩,
           ⟨(some 35), (some (27, true)), .ld 46 (.t 34)⟩,
           ⟨(some 36), (some (27, true)), .mv (.t 3)⟩,
           ⟨(some 37), (some (27, true)), .ia 46 (.t 35) (.t 36)⟩,
           ⟨(some 38), (some (27, true)), .ld 3 (.t 37)⟩,
           ⟨(some 39), (some (27, true)), .call (.fn 87) [.t 28, .t 38]⟩,
           ⟨(some 40), none, .pk (.t 27) (.t 39) (.b false)⟩])
         (.cond (.t 40)
          (.seq (.reg [⟨(some 2), none, .mv (.b false)⟩])
           (.ret))
          (.skip))))
       (.reg [⟨(some 14), none, .mv (.t 3)⟩,
         ⟨(some 15), none, .bin .add 3 (.t 14) (.i .i64 1)⟩,
         ⟨(some 3), none, .mv (.t 15)⟩]))))))
  (.seq (.reg [⟨(some 41), none, .mv (.t 0)⟩,
     ⟨(some 42), none, .nc (.t 41)⟩,
     ⟨(some 43), none, .fa 84 (.t 42) 1⟩,
     ⟨(some 44), none, .ld 46 (.t 43)⟩,
     ⟨(some 45), none, .bi .len [46] [.t 44]⟩,
     ⟨(some 46), none, .bin .gtr 3 (.t 45) (.i .i64 0)⟩,
     ⟨(some 2), none, .mv (.t 46)⟩])
   (.ret)))
theorem b91 : Body Try.prog 91 47 [2] k91 := ⟨Enters.of Try.func91 (by kernel_rfl) (by kernel_rfl), _, _, Try.func91, rfl, by kernel_rfl, rfl, rfl⟩

/-- (*cartridge/shelf.Shelf).Mounted -/
def k92 : KC :=
 .seq (.reg [⟨(some 4), none, .mv (.i .i64 0)⟩])
 (.seq (.seq (.reg [⟨(some 5), none, .mv (.t 0)⟩,
     ⟨(some 6), none, .mv (.t 1)⟩,
     ⟨(some 7), none, .call (.fn 108) [.t 5, .t 6]⟩,
     ⟨(some 8), none, .un .not (.t 7)⟩])
   (.cond (.t 8)
    (.seq (.reg [⟨(some 4), none, .mv (.i .i64 0)⟩])
     (.ret))
    (.skip)))
  (.seq (.reg [⟨(some 9), none, .mv (.t 0)⟩,
     ⟨(some 10), none, .nc (.t 9)⟩,
     ⟨(some 11), none, .fa 127 (.t 10) 1⟩,
     ⟨(some 12), none, .ld 46 (.t 11)⟩,
     ⟨(some 13), none, .mv (.t 1)⟩,
     ⟨(some 14), none, .ia 46 (.t 12) (.t 13)⟩,
     ⟨(some 15), none, .ld 3 (.t 14)⟩,
     ⟨(some 4), none, .mv (.t 15)⟩])
   (.ret)))
theorem b92 : Body Try.prog 92 16 [4] k92 := ⟨Enters.of Try.func92 (by kernel_rfl) (by kernel_rfl), _, _, Try.func92, rfl, by kernel_rfl, rfl, rfl⟩

/-- slices.Contains[[]int,int] -/
def k99 : KC :=
 .seq (.reg [⟨(some 4), none, .mv (.b false)⟩])
 (.seq (.reg [⟨(some 5), none, .mv (.t 0)⟩,
    ⟨(some 6), none, .mv (.t 1)⟩,
    ⟨(some 7), none, .call (.fn 111) [.t 5, .t 6]⟩,
    ⟨(some 8), none, .bin .geq 3 (.t 7) (.i .i64 0)⟩,
    ⟨(some 4), none, .mv (.t 8)⟩])
  (.ret))
theorem b99 : Body Try.prog 99 9 [4] k99 := ⟨Enters.of Try.func99 (by kernel_rfl) (by kernel_rfl), _, _, Try.func99, rfl, by kernel_rfl, rfl, rfl⟩

/-- slices.IndexFunc[[]int,int] -/
def k100 : KC :=
 .seq (.reg [⟨(some 4), none, .mv (.i .i64 0)⟩])
 (.seq (.seq (.reg [⟨(some 6), none, .mv (.t 0)⟩,
     ⟨(some 7), none, .bi .len [46] [.t 6]⟩,
     ⟨(some 8), none, .mv (.i .i64 0)⟩])
   (.block 0 (.loop (.seq (.reg [⟨(some 9), none, .bin .lss 3 (.t 8) (.t 7)⟩])
      (.seq (.cond (.t 9)
        (.skip)
        (.exit 0))
       (.seq (.block 1 (.seq (.reg [⟨(some 10), none, .mv (.t 8)⟩,
            ⟨(some 5), none, .mv (.t 10)⟩])
          (.seq (.reg [⟨(some 11), none, .mv (.t 1)⟩,
             ⟨(some 12), none, .mv (.t 0)⟩,
             ⟨(some 13), none, .mv (.t 5)⟩,
             ⟨(some 14), none, .ia 46 (.t 12) (.t 13)⟩,
             ⟨(some 15), none, .ld 3 (.t 14)⟩,
             ⟨(some 16), none, .call (.t 11) [.t 15]⟩])
           (.cond (.t 16)
            (.seq (.reg [⟨(some 17), none, .mv (.t 5)⟩,
               ⟨(some 4), none, .mv (.t 17)⟩])
             (.ret))
            (.skip)))))
        (.reg [⟨(some 18), none, .bin .add 3 (.t 8) (.i .i64 1)⟩,
          ⟨(some 8), none, .mv (.t 18)⟩])))))))
  (.seq (.reg [⟨(some 4), none, .mv (.i .i64 (-1))⟩])
   (.ret)))
theorem b100 : Body Try.prog 100 19 [4] k100 := ⟨Enters.of Try.func100 (by kernel_rfl) (by kernel_rfl), _, _, Try.func100, rfl, by kernel_rfl, rfl, rfl⟩

/-- (*cartridge/mount.Line).Wants -/
def k101 : KC :=
 .seq (.reg [⟨(some 4), none, .mv (.b false)⟩])
 (.seq (.reg [⟨(some 5), none, .mv (.t 0)⟩,
    ⟨(some 6), none, .bin .neq 129 (.t 5) (.np)⟩,
    ⟨(some 7), none, .mv (.t 6)⟩,
    ⟨(some 8), (some (7, true)), .mv (.t 0)⟩,
    ⟨(some 9), (some (7, true)), .nc (.t 8)⟩,
    ⟨(some 10), (some (7, true)), .fa 107 (.t 9) 0⟩,
    ⟨(some 11), (some (7, true)), .ld 46 (.t 10)⟩,
    ⟨(some 12), (some (7, true)), .mv (.t 1)⟩,
    ⟨(some 13), (some (7, true)), .call (.fn 99) [.t 11, .t 12]⟩,
    ⟨(some 14), none, .pk (.t 7) (.t 13) (.b false)⟩,
    ⟨(some 4), none, .mv (.t 14)⟩])
  (.ret))
theorem b101 : Body Try.prog 101 15 [4] k101 := ⟨Enters.of Try.func101 (by kernel_rfl) (by kernel_rfl), _, _, Try.func101, rfl, by kernel_rfl, rfl, rfl⟩

/-- slices.DeleteFunc[[]int,int] -/
def k102 : KC :=
 .seq (.reg [⟨(some 4), none, .mv (.ns)⟩])
 (.seq (.reg [⟨(some 8), none, .mv (.t 0)⟩,
    ⟨(some 9), none, .mv (.t 1)⟩,
    ⟨(some 10), none, .call (.fn 100) [.t 8, .t 9]⟩,
    ⟨(some 5), none, .mv (.t 10)⟩])
  (.seq (.seq (.reg [⟨(some 11), none, .mv (.t 5)⟩,
      ⟨(some 12), none, .bin .eql 3 (.t 11) (.i .i64 (-1))⟩])
    (.cond (.t 12)
     (.seq (.reg [⟨(some 13), none, .mv (.t 0)⟩,
        ⟨(some 4), none, .mv (.t 13)⟩])
      (.ret))
     (.skip)))
   (.seq (.seq (.reg [⟨(some 14), none, .mv (.t 5)⟩,
       ⟨(some 15), none, .bin .add 3 (.t 14) (.i .i64 1)⟩,
       ⟨(some 6), none, .mv (.t 15)⟩])
     (.block 0 (.loop (.seq (.seq (.reg [⟨(some 16), none, .mv (.t 6)⟩,
           ⟨(some 17), none, .mv (.t 0)⟩,
           ⟨(some 18), none, .bi .len [46] [.t 17]⟩,
           ⟨(some 19), none, .bin .lss 3 (.t 16) (.t 18)⟩])
         (.cond (.t 19)
          (.skip)
          (.exit 0)))
        (.seq (.block 1 (.seq (.reg [⟨(some 22), none, .mv (.t 0)⟩,
             ⟨(some 23), none, .mv (.t 6)⟩,
             ⟨(some 24), none, .ia 46 (.t 22) (.t 23)⟩,
             ⟨(some 25), none, .ld 3 (.t 24)⟩,
             ⟨(some 7), none, .mv (.t 25)⟩])
           (.seq (.reg [⟨(some 26), none, .mv (.t 1)⟩,
              ⟨(some 27), none, .mv (.t 7)⟩,
              ⟨(some 28), none, .call (.t 26) [.t 27]⟩,
              ⟨(some 29), none, .un .not (.t 28)⟩])
            (.cond (.t 29)
             (.seq (.reg [⟨(some 30), none, .mv (.t 0)⟩,
                ⟨(some 31), none, .mv (.t 5)⟩,
                ⟨(some 32), none, .mv (.t 7)⟩,
                ⟨(some 33), none, .ia 46 (.t 30) (.t 31)⟩,
                ⟨none, none, .st 3 (.t 33) (.t 32)⟩])
              (.reg [⟨(some 34), none, .mv (.t 5)⟩,
                ⟨(some 35), none, .bin .add 3 (.t 34) (.i .i64 1)⟩,
                ⟨(some 5), none, .mv (.t 35)⟩]))
             (.skip)))))
         (.reg [⟨(some 20), none, .mv (.t 6)⟩,
           ⟨(some 21), none, .bin .add 3 (.t 20) (.i .i64 1)⟩,
           ⟨(some 6), none, .mv (.t 21)⟩]))))))
    (.seq (.reg [⟨(some 36), none, .mv (.t 0)⟩,
       ⟨(some 37), none, .mv (.t 5)⟩,
       ⟨(some 38), none, .sli 46 (.t 36) (some (.t 37)) none none⟩,
       ⟨none, none, .bi .clear [46] [.t 38]⟩])
     (.seq (.reg [⟨(some 39), none, .mv (.t 0)⟩,
        ⟨(some 40), none, .mv (.t 5)⟩,
        ⟨(some 41), none, .sli 46 (.t 39) none (some (.t 40)) none⟩,
        ⟨(some 4), none, .mv (.t 41)⟩])
      (.ret))))))
theorem b102 : Body Try.prog 102 42 [4] k102 := ⟨Enters.of Try.func102 (by kernel_rfl) (by kernel_rfl), _, _, Try.func102, rfl, by kernel_rfl, rfl, rfl⟩

/-- (*cartridge/mount.Line).Serve$1 -/
def k103 : KC :=
 .seq (.reg [⟨(some 3), none, .mv (.b false)⟩])
 (.seq (.reg [⟨(some 4), none, .mv (.t 0)⟩,
    ⟨(some 5), none, .ld 3 (.t 1)⟩,
    ⟨(some 6), none, .bin .eql 3 (.t 4) (.t 5)⟩,
    ⟨(some 3), none, .mv (.t 6)⟩])
  (.ret))
theorem b103 : Body Try.prog 103 7 [3] k103 := ⟨Enters.of Try.func103 (by kernel_rfl) (by kernel_rfl), _, _, Try.func103, rfl, by kernel_rfl, rfl, rfl⟩

/-- (*cartridge/mount.Line).First -/
def k104 : KC :=
 .seq (.reg [⟨(some 2), none, .mv (.i .i64 0)⟩,
   ⟨(some 3), none, .mv (.b false)⟩])
 (.seq (.seq (.reg [⟨(some 4), none, .mv (.t 0)⟩,
     ⟨(some 5), none, .call (.fn 82) [.t 4]⟩,
     ⟨(some 6), none, .bin .eql 3 (.t 5) (.i .i64 0)⟩])
   (.cond (.t 6)
    (.seq (.reg [⟨(some 2), none, .mv (.i .i64 0)⟩,
       ⟨(some 3), none, .mv (.b false)⟩])
     (.ret))
    (.skip)))
  (.seq (.reg [⟨(some 7), none, .mv (.t 0)⟩,
     ⟨(some 8), none, .nc (.t 7)⟩,
     ⟨(some 9), none, .fa 107 (.t 8) 0⟩,
     ⟨(some 10), none, .ld 46 (.t 9)⟩,
     ⟨(some 11), none, .ia 46 (.t 10) (.i .i64 0)⟩,
     ⟨(some 12), none, .ld 3 (.t 11)⟩,
     ⟨(some 2), none, .mv (.t 12)⟩,
     ⟨(some 3), none, .mv (.b true)⟩])
   (.ret)))
theorem b104 : Body Try.prog 104 13 [2, 3] k104 := ⟨Enters.of Try.func104 (by kernel_rfl) (by kernel_rfl), _, _, Try.func104, rfl, by kernel_rfl, rfl, rfl⟩

/-- (*cartridge/robot.Robot).empty -/
def k105 : KC :=
 .seq (.reg [⟨(some 2), none, .mv (.i .i64 0)⟩,
   ⟨(some 3), none, .mv (.b false)⟩])
 (.seq (.seq (.reg [⟨(some 5), none, .mv (.t 0)⟩,
     ⟨(some 6), none, .nc (.t 5)⟩,
     ⟨(some 7), none, .fa 109 (.t 6) 1⟩,
     ⟨(some 8), none, .ld 3 (.t 7)⟩,
     ⟨(some 9), none, .mv (.i .i64 0)⟩])
   (.block 0 (.loop (.seq (.reg [⟨(some 10), none, .bin .lss 3 (.t 9) (.t 8)⟩])
      (.seq (.cond (.t 10)
        (.skip)
        (.exit 0))
       (.seq (.block 1 (.seq (.reg [⟨(some 11), none, .mv (.t 9)⟩,
            ⟨(some 4), none, .mv (.t 11)⟩])
          (.seq (.reg [⟨(some 12), none, .mv (.t 0)⟩,
             ⟨(some 13), none, .nc (.t 12)⟩,
             ⟨(some 14), none, .fa 109 (.t 13) 0⟩,
             ⟨(some 15), none, .ld 102 (.t 14)⟩,
             ⟨(some 16), none, .mv (.t 4)⟩,
             ⟨(some 17), none, .call (.fn 92) [.t 15, .t 16]⟩,
             ⟨(some 18), none, .bin .eql 3 (.t 17) (.i .i64 0)⟩])
           (.cond (.t 18)
            (.seq (.reg [⟨(some 19), none, .mv (.t 4)⟩,
               ⟨(some 2), none, .mv (.t 19)⟩,
               ⟨(some 3), none, .mv (.b true)⟩])
             (.ret))
            (.skip)))))
        (.reg [⟨(some 20), none, .bin .add 3 (.t 9) (.i .i64 1)⟩,
          ⟨(some 9), none, .mv (.t 20)⟩])))))))
  (.seq (.reg [⟨(some 2), none, .mv (.i .i64 0)⟩,
     ⟨(some 3), none, .mv (.b false)⟩])
   (.ret)))
theorem b105 : Body Try.prog 105 21 [2, 3] k105 := ⟨Enters.of Try.func105 (by kernel_rfl) (by kernel_rfl), _, _, Try.func105, rfl, by kernel_rfl, rfl, rfl⟩

/-- (*cartridge/shelf.Shelf).Move -/
def k106 : KC :=
 .seq (.reg [⟨(some 6), none, .mv (.i .i64 0)⟩])
 (.seq (.block 0 (.seq (.reg [⟨(some 8), none, .mv (.t 0)⟩,
      ⟨(some 9), none, .mv (.t 1)⟩,
      ⟨(some 10), none, .call (.fn 112) [.t 8, .t 9]⟩,
      ⟨(some 11), none, .un .not (.t 10)⟩,
      ⟨(some 12), none, .mv (.t 11)⟩,
      ⟨(some 13), (some (12, false)), .mv (.t 0)⟩,
      ⟨(some 14), (some (12, false)), .mv (.t 2)⟩,
      ⟨(some 15), (some (12, false)), .call (.fn 108) [.t 13, .t 14]⟩,
      ⟨(some 16), (some (12, false)), .un .not (.t 15)⟩,
      ⟨(some 17), none, .pk (.t 12) (.b true) (.t 16)⟩,
      ⟨(some 7), none, .mv (.t 17)⟩])
    (.cond (.t 7)
     (.seq (.reg [⟨(some 6), none, .mv (.i .i64 1)⟩])
      (.ret))
     (.seq (.reg [⟨(some 19), none, .mv (.t 0)⟩,
        ⟨(some 20), none, .mv (.t 1)⟩,
        ⟨(some 21), none, .call (.fn 113) [.t 19, .t 20]⟩,
        ⟨(some 22), none, .bin .neq 3 (.t 21) (.i .i64 (-1))⟩,
        ⟨(some 23), none, .mv (.t 22)⟩,
        ⟨(some 24), (some (23, false)), .mv (.t 0)⟩,
        ⟨(some 25), (some (23, false)), .nc (.t 24)⟩,
        ⟨(some 26), (some (23, false)), .fa 127 (.t 25) 1⟩,
        ⟨(some 27), (some (23, false)), .ld 46 (.t 26)⟩,
        ⟨(some 28), (some (23, false)), .mv (.t 2)⟩,
        ⟨(some 29), (some (23, false)), .ia 46 (.t 27) (.t 28)⟩,
        ⟨(some 30), (some (23, false)), .ld 3 (.t 29)⟩,
        ⟨(some 31), (some (23, false)), .bin .neq 3 (.t 30) (.i .i64 0)⟩,
        ⟨(some 32), none, .pk (.t 23) (.b true) (.t 31)⟩,
        ⟨(some 18), none, .mv (.t 32)⟩])
      (.cond (.t 18)
       (.seq (.reg [⟨(some 6), none, .mv (.i .i64 11)⟩])
        (.ret))
       (.skip))))))
  (.seq (.reg [⟨(some 33), none, .mv (.t 0)⟩,
     ⟨(some 34), none, .nc (.t 33)⟩,
     ⟨(some 35), none, .fa 127 (.t 34) 1⟩,
     ⟨(some 36), none, .ld 46 (.t 35)⟩,
     ⟨(some 37), none, .mv (.t 2)⟩,
     ⟨(some 38), none, .mv (.t 1)⟩,
     ⟨(some 39), none, .ia 46 (.t 36) (.t 37)⟩,
     ⟨none, none, .st 3 (.t 39) (.t 38)⟩])
   (.seq (.reg [⟨(some 6), none, .mv (.i .i64 0)⟩])
    (.ret))))
theorem b106 : Body Try.prog 106 40 [6] k106 := ⟨Enters.of Try.func106 (by kernel_rfl) (by kernel_rfl), _, _, Try.func106, rfl, by kernel_rfl, rfl, rfl⟩

/-- (*cartridge/shelf.Shelf).Back -/
def k107 : KC :=
 .seq (.reg [⟨(some 4), none, .mv (.i .i64 0)⟩])
 (.seq (.block 0 (.seq (.reg [⟨(some 6), none, .mv (.t 0)⟩,
      ⟨(some 7), none, .mv (.t 1)⟩,
      ⟨(some 8), none, .call (.fn 108) [.t 6, .t 7]⟩,
      ⟨(some 9), none, .un .not (.t 8)⟩,
      ⟨(some 5), none, .mv (.t 9)⟩])
    (.cond (.t 5)
     (.seq (.reg [⟨(some 4), none, .mv (.i .i64 1)⟩])
      (.ret))
     (.seq (.reg [⟨(some 11), none, .mv (.t 0)⟩,
        ⟨(some 12), none, .nc (.t 11)⟩,
        ⟨(some 13), none, .fa 127 (.t 12) 1⟩,
        ⟨(some 14), none, .ld 46 (.t 13)⟩,
        ⟨(some 15), none, .mv (.t 1)⟩,
        ⟨(some 16), none, .ia 46 (.t 14) (.t 15)⟩,
        ⟨(some 17), none, .ld 3 (.t 16)⟩,
        ⟨(some 18), none, .bin .eql 3 (.t 17) (.i .i64 0)⟩,
        ⟨(some 10), none, .mv (.t 18)⟩])
      (.cond (.t 10)
       (.seq (.reg [⟨(some 4), none, .mv (.i .i64 11)⟩])
        (.ret))
       (.skip))))))
  (.seq (.reg [⟨(some 19), none, .mv (.t 0)⟩,
     ⟨(some 20), none, .nc (.t 19)⟩,
     ⟨(some 21), none, .fa 127 (.t 20) 1⟩,
     ⟨(some 22), none, .ld 46 (.t 21)⟩,
     ⟨(some 23), none, .mv (.t 1)⟩,
     ⟨(some 24), none, .ia 46 (.t 22) (.t 23)⟩,
     ⟨none, none, .st 3 (.t 24) (.i .i64 0)⟩])
   (.seq (.reg [⟨(some 4), none, .mv (.i .i64 0)⟩])
    (.ret))))
theorem b107 : Body Try.prog 107 25 [4] k107 := ⟨Enters.of Try.func107 (by kernel_rfl) (by kernel_rfl), _, _, Try.func107, rfl, by kernel_rfl, rfl, rfl⟩

/-- (*cartridge/shelf.Shelf).drive -/
def k108 : KC :=
 .seq (.reg [⟨(some 4), none, .mv (.b false)⟩])
 (.seq (.reg [⟨(some 5), none, .mv (.t 0)⟩,
    ⟨(some 6), none, .bin .neq 102 (.t 5) (.np)⟩,
    ⟨(some 7), none, .mv (.t 6)⟩,
    ⟨(some 8), (some (7, true)), .mv (.t 1)⟩,
    ⟨(some 9), (some (7, true)), .bin .geq 3 (.t 8) (.i .i64 0)⟩,
    ⟨(some 10), none, .pk (.t 7) (.t 9) (.b false)⟩,
    ⟨(some 11), none, .mv (.t 10)⟩,
    ⟨(some 12), (some (11, true)), .mv (.t 1)⟩,
    ⟨(some 13), (some (11, true)), .mv (.t 0)⟩,
    ⟨(some 14), (some (11, true)), .nc (.t 13)⟩,
    ⟨(some 15), (some (11, true)), .fa 127 (.t 14) 1⟩,
    ⟨(some 16), (some (11, true)), .ld 46 (.t 15)⟩,
    ⟨(some 17), (some (11, true)), .bi .len [46] [.t 16]⟩,
    ⟨(some 18), (some (11, true)), .bin .lss 3 (.t 12) (.t 17)⟩,
    ⟨(some 19), none, .pk (.t 11) (.t 18) (.b false)⟩,
    ⟨(some 4), none, .mv (.t 19)⟩])
  (.ret))
theorem b108 : Body Try.prog 108 20 [4] k108 := ⟨Enters.of Try.func108 (by kernel_rfl) (by kernel_rfl), _, _, Try.func108, rfl, by kernel_rfl, rfl, rfl⟩

/-- slices.Index[[]int,int] -/
def k111 : KC :=
 .seq (.reg [⟨(some 4), none, .mv (.i .i64 0)⟩])
 (.seq (.seq (.reg [⟨(some 6), none, .mv (.t 0)⟩,
     ⟨(some 7), none, .bi .len [46] [.t 6]⟩,
     ⟨(some 8), none, .mv (.i .i64 0)⟩])
   (.block 0 (.loop (.seq (.reg [⟨(some 9), none, .bin .lss 3 (.t 8) (.t 7)⟩])
      (.seq (.cond (.t 9)
        (.skip)
        (.exit 0))
       (.seq (.block 1 (.seq (.reg [⟨(some 10), none, .mv (.t 8)⟩,
            ⟨(some 5), none, .mv (.t 10)⟩])
          (.seq (.reg [⟨(some 11), none, .mv (.t 1)⟩,
             ⟨(some 12), none, .mv (.t 0)⟩,
             ⟨(some 13), none, .mv (.t 5)⟩,
             ⟨(some 14), none, .ia 46 (.t 12) (.t 13)⟩,
             ⟨(some 15), none, .ld 3 (.t 14)⟩,
             ⟨(some 16), none, .bin .eql 3 (.t 11) (.t 15)⟩])
           (.cond (.t 16)
            (.seq (.reg [⟨(some 17), none, .mv (.t 5)⟩,
               ⟨(some 4), none, .mv (.t 17)⟩])
             (.ret))
            (.skip)))))
        (.reg [⟨(some 18), none, .bin .add 3 (.t 8) (.i .i64 1)⟩,
          ⟨(some 8), none, .mv (.t 18)⟩])))))))
  (.seq (.reg [⟨(some 4), none, .mv (.i .i64 (-1))⟩])
   (.ret)))
theorem b111 : Body Try.prog 111 19 [4] k111 := ⟨Enters.of Try.func111 (by kernel_rfl) (by kernel_rfl), _, _, Try.func111, rfl, by kernel_rfl, rfl, rfl⟩

/-- (*cartridge/shelf.Shelf).is -/
def k112 : KC :=
 .seq (.reg [⟨(some 4), none, .mv (.b false)⟩])
 (.seq (.reg [⟨(some 5), none, .mv (.t 0)⟩,
    ⟨(some 6), none, .bin .neq 102 (.t 5) (.np)⟩,
    ⟨(some 7), none, .mv (.t 6)⟩,
    ⟨(some 8), (some (7, true)), .mv (.t 0)⟩,
    ⟨(some 9), (some (7, true)), .nc (.t 8)⟩,
    ⟨(some 10), (some (7, true)), .fa 127 (.t 9) 0⟩,
    ⟨(some 11), (some (7, true)), .ld 46 (.t 10)⟩,
    ⟨(some 12), (some (7, true)), .mv (.t 1)⟩,
    ⟨(some 13), (some (7, true)), .call (.fn 99) [.t 11, .t 12]⟩,
    ⟨(some 14), none, .pk (.t 7) (.t 13) (.b false)⟩,
    ⟨(some 4), none, .mv (.t 14)⟩])
  (.ret))
theorem b112 : Body Try.prog 112 15 [4] k112 := ⟨Enters.of Try.func112 (by kernel_rfl) (by kernel_rfl), _, _, Try.func112, rfl, by kernel_rfl, rfl, rfl⟩

/-- (*cartridge/shelf.Shelf).Drive -/
def k113 : KC :=
 .seq (.reg [⟨(some 4), none, .mv (.i .i64 0)⟩])
 (.seq (.seq (.reg [⟨(some 5), none, .mv (.t 0)⟩,
     ⟨(some 6), none, .mv (.t 1)⟩,
     ⟨(some 7), none, .call (.fn 112) [.t 5, .t 6]⟩,
     ⟨(some 8), none, .un .not (.t 7)⟩])
   (.cond (.t 8)
    (.seq (.reg [⟨(some 4), none, .mv (.i .i64 (-1))⟩])
     (.ret))
    (.skip)))
  (.seq (.reg [⟨(some 9), none, .mv (.t 0)⟩,
     ⟨(some 10), none, .nc (.t 9)⟩,
     ⟨(some 11), none, .fa 127 (.t 10) 1⟩,
     ⟨(some 12), none, .ld 46 (.t 11)⟩,
     ⟨(some 13), none, .mv (.t 1)⟩,
     ⟨(some 14), none, .call (.fn 111) [.t 12, .t 13]⟩,
     ⟨(some 4), none, .mv (.t 14)⟩])
   (.ret)))
theorem b113 : Body Try.prog 113 15 [4] k113 := ⟨Enters.of Try.func113 (by kernel_rfl) (by kernel_rfl), _, _, Try.func113, rfl, by kernel_rfl, rfl, rfl⟩

end Go.Proofs.Ytgkbjnhpmlfgdaa
