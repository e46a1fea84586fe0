import Derived.Test.YtgkbjnhpmlfgdaaAmT
/- The code, cooked, and tied to the program's; written by gen.py. -/
namespace Go.Proofs.Ytgkbjnhpmlfgdaa
open Go.AM

/-- cartridge/cartridgelaw2.MatrixUndoes -/
def k3 : KC :=
 .seq (.reg [⟨(some 4), none, .mv (.b false)⟩])
 (.seq (.reg [⟨(some 12), none, .call (.fn 14) []⟩,
    ⟨(some 5), none, .mv (.t 12)⟩])
  (.seq (.seq (.reg [⟨(some 13), none, .mv (.t 5)⟩,
      ⟨(some 14), none, .un .not (.t 13)⟩,
      ⟨(some 15), none, .mv (.t 14)⟩,
      ⟨(some 16), (some (15, false)), .mv (.t 0)⟩,
      ⟨(some 17), (some (15, false)), .call (.fn 15) [.t 16]⟩,
      ⟨(some 18), (some (15, false)), .un .not (.t 17)⟩,
      ⟨(some 19), none, .pk (.t 15) (.b true) (.t 18)⟩,
      ⟨(some 20), none, .mv (.t 19)⟩,
      ⟨(some 21), (some (20, false)), .mv (.t 0)⟩,
      ⟨(some 22), (some (20, false)), .call (.fn 16) [.t 21]⟩,
      ⟨(some 23), (some (20, false)), .un .not (.t 22)⟩,
      ⟨(some 24), none, .pk (.t 20) (.b true) (.t 23)⟩,
      ⟨(some 25), none, .mv (.t 24)⟩,
      ⟨(some 26), (some (25, false)), .mv (.t 0)⟩,
      ⟨(some 27), (some (25, false)), .bi .len [22] [.t 26]⟩,
      ⟨(some 28), (some (25, false)), .mv (.t 0)⟩,
      ⟨(some 29), (some (25, false)), .ia 22 (.t 28) (.i .i64 0)⟩,
      ⟨(some 30), (some (25, false)), .ld 23 (.t 29)⟩,
      ⟨(some 31), (some (25, false)), .bi .len [23] [.t 30]⟩,
      ⟨(some 32), (some (25, false)), .bin .neq 3 (.t 27) (.t 31)⟩,
      ⟨(some 33), none, .pk (.t 25) (.b true) (.t 32)⟩,
      ⟨(some 34), none, .mv (.t 33)⟩,
      ⟨(some 35), (some (34, false)), .mv (.t 1)⟩,
      ⟨(some 36), (some (34, false)), .bi .len [23] [.t 35]⟩,
      ⟨(some 37), (some (34, false)), .mv (.t 0)⟩,
      ⟨(some 38), (some (34, false)), .bi .len [22] [.t 37]⟩,
      ⟨(some 39), (some (34, false)), .bin .neq 3 (.t 36) (.t 38)⟩,
      ⟨(some 40), none, .pk (.t 34) (.b true) (.t 39)⟩,
      ⟨(some 41), none, .mv (.t 40)⟩,
      ⟨(some 42), (some (41, false)), .mv (.t 0)⟩,
      ⟨(some 43), (some (41, false)), .bi .len [22] [.t 42]⟩,
      ⟨(some 44), (some (41, false)), .bin .gtr 3 (.t 43) (.i .i64 20)⟩,
      ⟨(some 45), none, .pk (.t 41) (.b true) (.t 44)⟩])
    (.cond (.t 45)
     (.seq (.reg [⟨(some 46), none, .mv (.t 5)⟩,
        ⟨(some 4), none, .mv (.t 46)⟩])
      (.ret))
     (.skip)))
   (.seq (.reg [⟨(some 48), none, .mv (.t 0)⟩,
      ⟨(some 49), none, .call (.fn 17) [.t 48]⟩,
      ⟨(some 47), none, .mv (.t 49)⟩,
      ⟨(some 50), none, .ex (.t 47) 0⟩,
      ⟨(some 51), none, .ex (.t 47) 1⟩,
      ⟨(some 6), none, .mv (.t 50)⟩,
      ⟨(some 7), none, .mv (.t 51)⟩])
    (.seq (.seq (.reg [⟨(some 52), none, .mv (.t 7)⟩,
        ⟨(some 53), none, .call (.fn 18) [.t 52]⟩,
        ⟨(some 54), none, .bin .neq 3 (.t 53) (.i .i64 0)⟩])
      (.cond (.t 54)
       (.seq (.reg [⟨(some 55), none, .mv (.t 7)⟩,
          ⟨(some 56), none, .call (.fn 18) [.t 55]⟩,
          ⟨(some 57), none, .bin .eql 3 (.t 56) (.i .i64 12)⟩,
          ⟨(some 4), none, .mv (.t 57)⟩])
        (.ret))
       (.skip)))
     (.seq (.reg [⟨(some 59), none, .mv (.t 0)⟩,
        ⟨(some 60), none, .mv (.t 1)⟩,
        ⟨(some 61), none, .call (.fn 19) [.t 59, .t 60]⟩,
        ⟨(some 58), none, .mv (.t 61)⟩,
        ⟨(some 62), none, .ex (.t 58) 0⟩,
        ⟨(some 63), none, .ex (.t 58) 1⟩,
        ⟨(some 8), none, .mv (.t 62)⟩,
        ⟨(some 9), none, .mv (.t 63)⟩])
      (.seq (.reg [⟨(some 65), none, .mv (.t 6)⟩,
         ⟨(some 66), none, .mv (.t 8)⟩,
         ⟨(some 67), none, .call (.fn 19) [.t 65, .t 66]⟩,
         ⟨(some 64), none, .mv (.t 67)⟩,
         ⟨(some 68), none, .ex (.t 64) 0⟩,
         ⟨(some 69), none, .ex (.t 64) 1⟩,
         ⟨(some 10), none, .mv (.t 68)⟩,
         ⟨(some 11), none, .mv (.t 69)⟩])
       (.seq (.reg [⟨(some 70), none, .mv (.t 9)⟩,
          ⟨(some 71), none, .call (.fn 18) [.t 70]⟩,
          ⟨(some 72), none, .bin .eql 3 (.t 71) (.i .i64 0)⟩,
          ⟨(some 73), none, .mv (.t 72)⟩,
          ⟨(some 74), (some (73, true)), .mv (.t 11)⟩,
          ⟨(some 75), (some (73, true)), .call (.fn 18) [.t 74]⟩,
          ⟨(some 76), (some (73, true)), .bin .eql 3 (.t 75) (.i .i64 0)⟩,
          ⟨(some 77), none, .pk (.t 73) (.t 76) (.b false)⟩,
          ⟨(some 78), none, .mv (.t 77)⟩,
          ⟨(some 79), (some (78, true)), .mv (.t 10)⟩,
          ⟨(some 80), (some (78, true)), .cvt 23 9 (.t 79)⟩,
          ⟨(some 81), (some (78, true)), .mv (.t 1)⟩,
          ⟨(some 82), (some (78, true)), .cvt 23 9 (.t 81)⟩,
          ⟨(some 83), (some (78, true)), .bin .eql 9 (.t 80) (.t 82)⟩,
          ⟨(some 84), none, .pk (.t 78) (.t 83) (.b false)⟩,
          ⟨(some 4), none, .mv (.t 84)⟩])
        (.ret))))))))
theorem b3 : Body Try.prog 3 85 [4] k3 := ⟨Enters.of Try.func3 (by kernel_rfl) (by kernel_rfl), _, _, Try.func3, rfl, by kernel_rfl, rfl, rfl⟩

/-- cartridge/cartridgelaw2.MatrixEven -/
noncomputable def drw4_0 : Array Oper := ((Try.f4.body.map regs).getD []).getD 0 #[]
noncomputable def k4 : KC :=
 .seq (.reg [⟨(some 6), none, .mv (.b false)⟩])
 (.seq (.reg [⟨(some 15), none, .call (.fn 14) []⟩,
    ⟨(some 7), none, .mv (.t 15)⟩])
  (.seq (.seq (.reg [⟨(some 16), none, .mv (.t 7)⟩,
      ⟨(some 17), none, .un .not (.t 16)⟩,
      ⟨(some 18), none, .mv (.t 17)⟩,
      ⟨(some 19), (some (18, false)), .mv (.t 0)⟩,
      ⟨(some 20), (some (18, false)), .call (.fn 15) [.t 19]⟩,
      ⟨(some 21), (some (18, false)), .un .not (.t 20)⟩,
      ⟨(some 22), none, .pk (.t 18) (.b true) (.t 21)⟩,
      ⟨(some 23), none, .mv (.t 22)⟩,
      ⟨(some 24), (some (23, false)), .mv (.t 0)⟩,
      ⟨(some 25), (some (23, false)), .call (.fn 16) [.t 24]⟩,
      ⟨(some 26), (some (23, false)), .un .not (.t 25)⟩,
      ⟨(some 27), none, .pk (.t 23) (.b true) (.t 26)⟩,
      ⟨(some 28), none, .mv (.t 27)⟩,
      ⟨(some 29), (some (28, false)), .mv (.t 0)⟩,
      ⟨(some 30), (some (28, false)), .bi .len [22] [.t 29]⟩,
      ⟨(some 31), (some (28, false)), .mv (.t 0)⟩,
      ⟨(some 32), (some (28, false)), .ia 22 (.t 31) (.i .i64 0)⟩,
      ⟨(some 33), (some (28, false)), .ld 23 (.t 32)⟩,
      ⟨(some 34), (some (28, false)), .bi .len [23] [.t 33]⟩,
      ⟨(some 35), (some (28, false)), .bin .neq 3 (.t 30) (.t 34)⟩,
      ⟨(some 36), none, .pk (.t 28) (.b true) (.t 35)⟩,
      ⟨(some 37), none, .mv (.t 36)⟩,
      ⟨(some 38), (some (37, false)), .mv (.t 0)⟩,
      ⟨(some 39), (some (37, false)), .bi .len [22] [.t 38]⟩,
      ⟨(some 40), (some (37, false)), .bin .lss 3 (.t 39) (.i .i64 2)⟩,
      ⟨(some 41), none, .pk (.t 37) (.b true) (.t 40)⟩,
      ⟨(some 42), none, .mv (.t 41)⟩,
      ⟨(some 43), (some (42, false)), .mv (.t 0)⟩,
      ⟨(some 44), (some (42, false)), .bi .len [22] [.t 43]⟩,
      ⟨(some 45), (some (42, false)), .bin .gtr 3 (.t 44) (.i .i64 20)⟩,
      ⟨(some 46), none, .pk (.t 42) (.b true) (.t 45)⟩,
      ⟨(some 47), none, .mv (.t 46)⟩,
      ⟨(some 48), (some (47, false)), .mv (.t 1)⟩,
      ⟨(some 49), (some (47, false)), .bin .lss 3 (.t 48) (.i .i64 0)⟩,
      ⟨(some 50), none, .pk (.t 47) (.b true) (.t 49)⟩,
      ⟨(some 51), none, .mv (.t 50)⟩,
      ⟨(some 52), (some (51, false)), .mv (.t 1)⟩,
      ⟨(some 53), (some (51, false)), .mv (.t 0)⟩,
      ⟨(some 54), (some (51, false)), .bi .len [22] [.t 53]⟩,
      ⟨(some 55), (some (51, false)), .bin .geq 3 (.t 52) (.t 54)⟩,
      ⟨(some 56), none, .pk (.t 51) (.b true) (.t 55)⟩,
      ⟨(some 57), none, .mv (.t 56)⟩,
      ⟨(some 58), (some (57, false)), .mv (.t 2)⟩,
      ⟨(some 59), (some (57, false)), .bi .len [23] [.t 58]⟩,
      ⟨(some 60), (some (57, false)), .mv (.t 0)⟩,
      ⟨(some 61), (some (57, false)), .bi .len [22] [.t 60]⟩,
      ⟨(some 62), (some (57, false)), .bin .neq 3 (.t 59) (.t 61)⟩,
      ⟨(some 63), none, .pk (.t 57) (.b true) (.t 62)⟩])
    (.cond (.t 63)
     (.seq (.reg [⟨(some 64), none, .mv (.t 7)⟩,
        ⟨(some 6), none, .mv (.t 64)⟩])
      (.ret))
     (.skip)))
   (.seq (.reg [⟨(some 65), none, .mv (.t 0)⟩,
      ⟨(some 66), none, .bi .len [22] [.t 65]⟩,
      ⟨(some 67), none, .mk 23 (.t 66) (.t 66)⟩,
      ⟨(some 8), none, .mv (.t 67)⟩])
    (.seq (.seq (.reg [⟨(some 9), none, .mv (.i .i64 0)⟩])
      (.block 0 (.loop (.seq (.seq (.reg [⟨(some 68), none, .mv (.t 9)⟩,
            ⟨(some 69), none, .mv (.t 0)⟩,
            ⟨(some 70), none, .bi .len [22] [.t 69]⟩,
            ⟨(some 71), none, .bin .lss 3 (.t 68) (.t 70)⟩])
          (.cond (.t 71)
           (.skip)
           (.exit 0)))
         (.seq (.block 1 (.seq (.reg [⟨(some 10), none, .mv (.i .i64 0)⟩])
            (.block 2 (.loop (.seq (.seq (.reg [⟨(some 74), none, .mv (.t 10)⟩,
                  ⟨(some 75), none, .mv (.t 0)⟩,
                  ⟨(some 76), none, .bi .len [22] [.t 75]⟩,
                  ⟨(some 77), none, .bin .lss 3 (.t 74) (.t 76)⟩,
                  ⟨(some 78), none, .mv (.t 77)⟩,
                  ⟨(some 79), (some (78, true)), .mv (.t 9)⟩,
                  ⟨(some 80), (some (78, true)), .mv (.t 1)⟩,
                  ⟨(some 81), (some (78, true)), .bin .neq 3 (.t 79) (.t 80)⟩,
                  ⟨(some 82), none, .pk (.t 78) (.t 81) (.b false)⟩])
                (.cond (.t 82)
                 (.skip)
                 (.exit 2)))
               (.seq (.block 3 (.drw drw4_0 [⟨(some 85), none, .mv (.t 8)⟩,
                   ⟨(some 86), none, .mv (.t 10)⟩,
                   ⟨(some 87), none, .mv (.t 8)⟩,
                   ⟨(some 88), none, .mv (.t 10)⟩,
                   ⟨(some 89), none, .ia 23 (.t 87) (.t 88)⟩,
                   ⟨(some 90), none, .ld 5 (.t 89)⟩,
                   ⟨(some 91), none, .mv (.t 2)⟩,
                   ⟨(some 92), none, .mv (.t 9)⟩,
                   ⟨(some 93), none, .ia 23 (.t 91) (.t 92)⟩,
                   ⟨(some 94), none, .ld 5 (.t 93)⟩,
                   ⟨(some 95), none, .mv (.t 0)⟩,
                   ⟨(some 96), none, .mv (.t 9)⟩,
                   ⟨(some 97), none, .ia 22 (.t 95) (.t 96)⟩,
                   ⟨(some 98), none, .ld 23 (.t 97)⟩,
                   ⟨(some 99), none, .mv (.t 10)⟩,
                   ⟨(some 100), none, .ia 23 (.t 98) (.t 99)⟩,
                   ⟨(some 101), none, .ld 5 (.t 100)⟩,
                   ⟨(some 102), none, .call (.fn 20) [.t 94, .t 101]⟩,
                   ⟨(some 103), none, .bin .xor 5 (.t 90) (.t 102)⟩,
                   ⟨(some 104), none, .ia 23 (.t 85) (.t 86)⟩,
                   ⟨none, none, .st 5 (.t 104) (.t 103)⟩]))
                (.reg [⟨(some 83), none, .mv (.t 10)⟩,
                  ⟨(some 84), none, .bin .add 3 (.t 83) (.i .i64 1)⟩,
                  ⟨(some 10), none, .mv (.t 84)⟩])))))))
          (.reg [⟨(some 72), none, .mv (.t 9)⟩,
            ⟨(some 73), none, .bin .add 3 (.t 72) (.i .i64 1)⟩,
            ⟨(some 9), none, .mv (.t 73)⟩]))))))
     (.seq (.reg [⟨(some 11), none, .mv (.ns)⟩])
      (.seq (.seq (.reg [⟨(some 12), none, .mv (.i .i64 0)⟩])
        (.block 4 (.loop (.seq (.seq (.reg [⟨(some 105), none, .mv (.t 12)⟩,
              ⟨(some 106), none, .mv (.t 0)⟩,
              ⟨(some 107), none, .bi .len [22] [.t 106]⟩,
              ⟨(some 108), none, .bin .lss 3 (.t 105) (.t 107)⟩])
            (.cond (.t 108)
             (.skip)
             (.exit 4)))
           (.seq (.block 5 (.reg [⟨(some 111), none, .mv (.t 11)⟩,
               ⟨(some 112), none, .mv (.t 0)⟩,
               ⟨(some 113), none, .mv (.t 12)⟩,
               ⟨(some 114), none, .ia 22 (.t 112) (.t 113)⟩,
               ⟨(some 115), none, .ld 23 (.t 114)⟩,
               ⟨(some 116), none, .bsl 22 1 [(0, .t 115)]⟩,
               ⟨(some 117), none, .bi .append [22, 22] [.t 111, .t 116]⟩,
               ⟨(some 11), none, .mv (.t 117)⟩]))
            (.reg [⟨(some 109), none, .mv (.t 12)⟩,
              ⟨(some 110), none, .bin .add 3 (.t 109) (.i .i64 1)⟩,
              ⟨(some 12), none, .mv (.t 110)⟩]))))))
       (.seq (.reg [⟨(some 118), none, .mv (.t 11)⟩,
          ⟨(some 119), none, .mv (.t 1)⟩,
          ⟨(some 120), none, .mv (.t 8)⟩,
          ⟨(some 121), none, .ia 22 (.t 118) (.t 119)⟩,
          ⟨none, none, .st 23 (.t 121) (.t 120)⟩])
        (.seq (.reg [⟨(some 123), none, .mv (.t 11)⟩,
           ⟨(some 124), none, .call (.fn 17) [.t 123]⟩,
           ⟨(some 122), none, .mv (.t 124)⟩,
           ⟨(some 125), none, .ex (.t 122) 0⟩,
           ⟨(some 126), none, .ex (.t 122) 1⟩,
           ⟨(some 13), none, .mv (.t 125)⟩,
           ⟨(some 14), none, .mv (.t 126)⟩])
         (.seq (.reg [⟨(some 127), none, .mv (.t 14)⟩,
            ⟨(some 128), none, .call (.fn 18) [.t 127]⟩,
            ⟨(some 129), none, .bin .eql 3 (.t 128) (.i .i64 12)⟩,
            ⟨(some 130), none, .mv (.t 129)⟩,
            ⟨(some 131), (some (130, true)), .mv (.t 13)⟩,
            ⟨(some 132), (some (130, true)), .bi .len [22] [.t 131]⟩,
            ⟨(some 133), (some (130, true)), .bin .eql 3 (.t 132) (.i .i64 0)⟩,
            ⟨(some 134), none, .pk (.t 130) (.t 133) (.b false)⟩,
            ⟨(some 6), none, .mv (.t 134)⟩])
          (.ret))))))))))
theorem b4 : Body Try.prog 4 135 [6] k4 := ⟨Enters.of Try.func4 (by kernel_rfl) (by kernel_rfl), _, _, Try.func4, rfl, by kernel_rfl, rfl, rfl⟩

/-- cartridge/cartridgelaw13.StripeTells -/
noncomputable def drw5_0 : Array Oper := ((Try.f5.body.map regs).getD []).getD 0 #[]
noncomputable def k5 : KC :=
 .seq (.reg [⟨(some 6), none, .mv (.b false)⟩])
 (.seq (.reg [⟨(some 13), none, .call (.fn 21) []⟩,
    ⟨(some 7), none, .mv (.t 13)⟩])
  (.seq (.seq (.reg [⟨(some 14), none, .mv (.t 7)⟩,
      ⟨(some 15), none, .un .not (.t 14)⟩,
      ⟨(some 16), none, .mv (.t 15)⟩,
      ⟨(some 17), (some (16, false)), .mv (.t 0)⟩,
      ⟨(some 18), (some (16, false)), .call (.fn 22) [.t 17]⟩,
      ⟨(some 19), (some (16, false)), .un .not (.t 18)⟩,
      ⟨(some 20), none, .pk (.t 16) (.b true) (.t 19)⟩,
      ⟨(some 21), none, .mv (.t 20)⟩,
      ⟨(some 22), (some (21, false)), .mv (.t 2)⟩,
      ⟨(some 23), (some (21, false)), .bin .gtr 3 (.t 22) (.i .i64 10)⟩,
      ⟨(some 24), none, .pk (.t 21) (.b true) (.t 23)⟩])
    (.cond (.t 24)
     (.seq (.reg [⟨(some 25), none, .mv (.t 7)⟩,
        ⟨(some 6), none, .mv (.t 25)⟩])
      (.ret))
     (.skip)))
   (.seq (.reg [⟨(some 27), none, .mv (.t 0)⟩,
      ⟨(some 28), none, .mv (.t 2)⟩,
      ⟨(some 29), none, .call (.fn 23) [.t 27, .t 28]⟩,
      ⟨(some 26), none, .mv (.t 29)⟩,
      ⟨(some 30), none, .ex (.t 26) 0⟩,
      ⟨(some 31), none, .ex (.t 26) 1⟩,
      ⟨(some 8), none, .mv (.t 30)⟩,
      ⟨(some 9), none, .mv (.t 31)⟩])
    (.seq (.reg [⟨(some 33), none, .mv (.t 0)⟩,
       ⟨(some 34), none, .mv (.t 2)⟩,
       ⟨(some 35), none, .call (.fn 24) [.t 33, .t 34]⟩,
       ⟨(some 32), none, .mv (.t 35)⟩,
       ⟨(some 36), none, .ex (.t 32) 0⟩,
       ⟨(some 37), none, .ex (.t 32) 1⟩,
       ⟨(some 10), none, .mv (.t 36)⟩,
       ⟨(some 11), none, .mv (.t 37)⟩])
     (.seq (.seq (.reg [⟨(some 38), none, .mv (.t 9)⟩,
         ⟨(some 39), none, .call (.fn 25) [.t 38]⟩,
         ⟨(some 40), none, .mv (.t 11)⟩,
         ⟨(some 41), none, .bin .neq 3 (.t 39) (.t 40)⟩,
         ⟨(some 42), none, .mv (.t 41)⟩,
         ⟨(some 43), (some (42, false)), .mv (.t 8)⟩,
         ⟨(some 44), (some (42, false)), .bi .len [37] [.t 43]⟩,
         ⟨(some 45), (some (42, false)), .mv (.t 10)⟩,
         ⟨(some 46), (some (42, false)), .bi .len [37] [.t 45]⟩,
         ⟨(some 47), (some (42, false)), .bin .neq 3 (.t 44) (.t 46)⟩,
         ⟨(some 48), none, .pk (.t 42) (.b true) (.t 47)⟩,
         ⟨(some 49), none, .mv (.t 48)⟩,
         ⟨(some 50), (some (49, false)), .mv (.t 0)⟩,
         ⟨(some 51), (some (49, false)), .call (.fn 26) [.t 50]⟩,
         ⟨(some 52), (some (49, false)), .mv (.t 0)⟩,
         ⟨(some 53), (some (49, false)), .call (.fn 27) [.t 52]⟩,
         ⟨(some 54), (some (49, false)), .bin .neq 3 (.t 51) (.t 53)⟩,
         ⟨(some 55), none, .pk (.t 49) (.b true) (.t 54)⟩,
         ⟨(some 56), none, .mv (.t 55)⟩,
         ⟨(some 57), (some (56, false)), .mv (.t 0)⟩,
         ⟨(some 58), (some (56, false)), .mv (.t 1)⟩,
         ⟨(some 59), (some (56, false)), .call (.fn 29) [.t 57, .t 58]⟩,
         ⟨(some 60), (some (56, false)), .mv (.t 0)⟩,
         ⟨(some 61), (some (56, false)), .mv (.t 1)⟩,
         ⟨(some 62), (some (56, false)), .call (.fn 30) [.t 60, .t 61]⟩,
         ⟨(some 63), (some (56, false)), .call (.fn 28) [.t 59, .t 62]⟩,
         ⟨(some 64), (some (56, false)), .un .not (.t 63)⟩,
         ⟨(some 65), none, .pk (.t 56) (.b true) (.t 64)⟩])
       (.cond (.t 65)
        (.seq (.reg [⟨(some 6), none, .mv (.b false)⟩])
         (.ret))
        (.skip)))
      (.seq (.seq (.reg [⟨(some 12), none, .mv (.i .i64 0)⟩])
        (.block 0 (.loop (.seq (.seq (.reg [⟨(some 66), none, .mv (.t 12)⟩,
              ⟨(some 67), none, .mv (.t 8)⟩,
              ⟨(some 68), none, .bi .len [37] [.t 67]⟩,
              ⟨(some 69), none, .bin .lss 3 (.t 66) (.t 68)⟩])
            (.cond (.t 69)
             (.skip)
             (.exit 0)))
           (.seq (.block 1 (.seq (.drw drw5_0 [⟨(some 72), none, .mv (.t 8)⟩,
                ⟨(some 73), none, .mv (.t 12)⟩,
                ⟨(some 74), none, .ia 37 (.t 72) (.t 73)⟩,
                ⟨(some 75), none, .ld 22 (.t 74)⟩,
                ⟨(some 76), none, .mv (.t 10)⟩,
                ⟨(some 77), none, .mv (.t 12)⟩,
                ⟨(some 78), none, .ia 37 (.t 76) (.t 77)⟩,
                ⟨(some 79), none, .ld 22 (.t 78)⟩,
                ⟨(some 80), none, .call (.fn 28) [.t 75, .t 79]⟩,
                ⟨(some 81), none, .un .not (.t 80)⟩])
              (.cond (.t 81)
               (.seq (.reg [⟨(some 6), none, .mv (.b false)⟩])
                (.ret))
               (.skip))))
            (.reg [⟨(some 70), none, .mv (.t 12)⟩,
              ⟨(some 71), none, .bin .add 3 (.t 70) (.i .i64 1)⟩,
              ⟨(some 12), none, .mv (.t 71)⟩]))))))
       (.seq (.reg [⟨(some 6), none, .mv (.b true)⟩])
        (.ret))))))))
theorem b5 : Body Try.prog 5 82 [6] k5 := ⟨Enters.of Try.func5 (by kernel_rfl) (by kernel_rfl), _, _, Try.func5, rfl, by kernel_rfl, rfl, rfl⟩

/-- cartridge/cartridgelaw13.StripeRows -/
def k6 : KC :=
 .seq (.reg [⟨(some 6), none, .mv (.b false)⟩])
 (.seq (.reg [⟨(some 24), none, .call (.fn 21) []⟩,
    ⟨(some 7), none, .mv (.t 24)⟩])
  (.seq (.seq (.reg [⟨(some 25), none, .mv (.t 7)⟩,
      ⟨(some 26), none, .un .not (.t 25)⟩,
      ⟨(some 27), none, .mv (.t 26)⟩,
      ⟨(some 28), (some (27, false)), .mv (.t 0)⟩,
      ⟨(some 29), (some (27, false)), .bi .len [46] [.t 28]⟩,
      ⟨(some 30), (some (27, false)), .bin .lss 3 (.t 29) (.i .i64 1)⟩,
      ⟨(some 31), none, .pk (.t 27) (.b true) (.t 30)⟩,
      ⟨(some 32), none, .mv (.t 31)⟩,
      ⟨(some 33), (some (32, false)), .mv (.t 0)⟩,
      ⟨(some 34), (some (32, false)), .bi .len [46] [.t 33]⟩,
      ⟨(some 35), (some (32, false)), .bin .gtr 3 (.t 34) (.i .i64 6)⟩,
      ⟨(some 36), none, .pk (.t 32) (.b true) (.t 35)⟩,
      ⟨(some 37), none, .mv (.t 36)⟩,
      ⟨(some 38), (some (37, false)), .mv (.t 1)⟩,
      ⟨(some 39), (some (37, false)), .bin .lss 3 (.t 38) (.i .i64 1)⟩,
      ⟨(some 40), none, .pk (.t 37) (.b true) (.t 39)⟩,
      ⟨(some 41), none, .mv (.t 40)⟩,
      ⟨(some 42), (some (41, false)), .mv (.t 1)⟩,
      ⟨(some 43), (some (41, false)), .bin .gtr 3 (.t 42) (.i .i64 4)⟩,
      ⟨(some 44), none, .pk (.t 41) (.b true) (.t 43)⟩,
      ⟨(some 45), none, .mv (.t 44)⟩,
      ⟨(some 46), (some (45, false)), .mv (.t 2)⟩,
      ⟨(some 47), (some (45, false)), .bi .len [46] [.t 46]⟩,
      ⟨(some 48), (some (45, false)), .bin .gtr 3 (.t 47) (.i .i64 10)⟩,
      ⟨(some 49), none, .pk (.t 45) (.b true) (.t 48)⟩])
    (.cond (.t 49)
     (.seq (.reg [⟨(some 50), none, .mv (.t 7)⟩,
        ⟨(some 6), none, .mv (.t 50)⟩])
      (.ret))
     (.skip)))
   (.seq (.reg [⟨(some 8), none, .mv (.ns)⟩])
    (.seq (.seq (.reg [⟨(some 9), none, .mv (.i .i64 0)⟩])
      (.block 0 (.loop (.seq (.seq (.reg [⟨(some 51), none, .mv (.t 9)⟩,
            ⟨(some 52), none, .mv (.t 0)⟩,
            ⟨(some 53), none, .bi .len [46] [.t 52]⟩,
            ⟨(some 54), none, .bin .lss 3 (.t 51) (.t 53)⟩])
          (.cond (.t 54)
           (.skip)
           (.exit 0)))
         (.seq (.block 1 (.seq (.reg [⟨(some 57), none, .mv (.t 9)⟩,
              ⟨(some 58), none, .bin .add 3 (.t 57) (.i .i64 1)⟩,
              ⟨(some 59), none, .bld 48 [(0, .t 58), (1, .i .i64 20)]⟩,
              ⟨(some 10), none, .al 48⟩,
              ⟨none, none, .st 48 (.t 10) (.t 59)⟩])
            (.seq (.seq (.reg [⟨(some 11), none, .mv (.i .i64 0)⟩])
              (.block 2 (.loop (.seq (.seq (.reg [⟨(some 60), none, .mv (.t 11)⟩,
                    ⟨(some 61), none, .mv (.t 0)⟩,
                    ⟨(some 62), none, .mv (.t 9)⟩,
                    ⟨(some 63), none, .ia 46 (.t 61) (.t 62)⟩,
                    ⟨(some 64), none, .ld 3 (.t 63)⟩,
                    ⟨(some 65), none, .bin .and 3 (.t 64) (.i .i64 7)⟩,
                    ⟨(some 66), none, .bin .lss 3 (.t 60) (.t 65)⟩])
                  (.cond (.t 66)
                   (.skip)
                   (.exit 2)))
                 (.seq (.block 3 (.seq (.reg [⟨(some 69), none, .mk 23 (.i .i64 79) (.i .i64 79)⟩,
                      ⟨(some 12), none, .mv (.t 69)⟩])
                    (.seq (.reg [⟨(some 70), none, .mv (.t 12)⟩,
                       ⟨(some 71), none, .mv (.t 11)⟩,
                       ⟨(some 72), none, .mv (.t 9)⟩,
                       ⟨(some 73), none, .bin .add 3 (.t 72) (.i .i64 1)⟩,
                       ⟨(some 74), none, .cvt 3 5 (.t 73)⟩,
                       ⟨(some 75), none, .ia 23 (.t 70) (.t 71)⟩,
                       ⟨none, none, .st 5 (.t 75) (.t 74)⟩])
                     (.reg [⟨(some 76), none, .fa 48 (.t 10) 2⟩,
                       ⟨(some 77), none, .ld 22 (.t 76)⟩,
                       ⟨(some 78), none, .mv (.t 12)⟩,
                       ⟨(some 79), none, .bsl 22 1 [(0, .t 78)]⟩,
                       ⟨(some 80), none, .bi .append [22, 22] [.t 77, .t 79]⟩,
                       ⟨(some 81), none, .fa 48 (.t 10) 2⟩,
                       ⟨none, none, .st 22 (.t 81) (.t 80)⟩]))))
                  (.reg [⟨(some 67), none, .mv (.t 11)⟩,
                    ⟨(some 68), none, .bin .add 3 (.t 67) (.i .i64 1)⟩,
                    ⟨(some 11), none, .mv (.t 68)⟩]))))))
             (.reg [⟨(some 82), none, .mv (.t 8)⟩,
               ⟨(some 83), none, .ld 48 (.t 10)⟩,
               ⟨(some 84), none, .bsl 35 1 [(0, .t 83)]⟩,
               ⟨(some 85), none, .bi .append [35, 35] [.t 82, .t 84]⟩,
               ⟨(some 8), none, .mv (.t 85)⟩]))))
          (.reg [⟨(some 55), none, .mv (.t 9)⟩,
            ⟨(some 56), none, .bin .add 3 (.t 55) (.i .i64 1)⟩,
            ⟨(some 9), none, .mv (.t 56)⟩]))))))
     (.seq (.reg [⟨(some 87), none, .mv (.t 8)⟩,
        ⟨(some 88), none, .mv (.t 1)⟩,
        ⟨(some 89), none, .call (.fn 23) [.t 87, .t 88]⟩,
        ⟨(some 86), none, .mv (.t 89)⟩,
        ⟨(some 90), none, .ex (.t 86) 0⟩,
        ⟨(some 91), none, .ex (.t 86) 1⟩,
        ⟨(some 13), none, .mv (.t 90)⟩,
        ⟨(some 14), none, .mv (.t 91)⟩])
      (.seq (.seq (.reg [⟨(some 92), none, .mv (.t 14)⟩,
          ⟨(some 93), none, .call (.fn 25) [.t 92]⟩,
          ⟨(some 94), none, .bin .neq 3 (.t 93) (.i .i64 0)⟩,
          ⟨(some 95), none, .mv (.t 94)⟩,
          ⟨(some 96), (some (95, false)), .mv (.t 13)⟩,
          ⟨(some 97), (some (95, false)), .bi .len [37] [.t 96]⟩,
          ⟨(some 98), (some (95, false)), .mv (.t 1)⟩,
          ⟨(some 99), (some (95, false)), .bin .neq 3 (.t 97) (.t 98)⟩,
          ⟨(some 100), none, .pk (.t 95) (.b true) (.t 99)⟩])
        (.cond (.t 100)
         (.seq (.reg [⟨(some 6), none, .mv (.b false)⟩])
          (.ret))
         (.skip)))
       (.seq (.seq (.reg [⟨(some 15), none, .mv (.i .i64 0)⟩])
         (.block 4 (.loop (.seq (.seq (.reg [⟨(some 101), none, .mv (.t 15)⟩,
               ⟨(some 102), none, .mv (.t 8)⟩,
               ⟨(some 103), none, .call (.fn 26) [.t 102]⟩,
               ⟨(some 104), none, .bin .lss 3 (.t 101) (.t 103)⟩])
             (.cond (.t 104)
              (.skip)
              (.exit 4)))
            (.seq (.block 5 (.seq (.reg [⟨(some 107), none, .mv (.t 8)⟩,
                 ⟨(some 108), none, .mv (.t 15)⟩,
                 ⟨(some 109), none, .call (.fn 29) [.t 107, .t 108]⟩,
                 ⟨(some 16), none, .mv (.t 109)⟩])
               (.seq (.seq (.reg [⟨(some 110), none, .mv (.t 16)⟩,
                   ⟨(some 111), none, .bi .len [22] [.t 110]⟩,
                   ⟨(some 112), none, .mv (.t 8)⟩,
                   ⟨(some 113), none, .bi .len [35] [.t 112]⟩,
                   ⟨(some 114), none, .bin .neq 3 (.t 111) (.t 113)⟩])
                 (.cond (.t 114)
                  (.seq (.reg [⟨(some 6), none, .mv (.b false)⟩])
                   (.ret))
                  (.skip)))
                (.seq (.reg [⟨(some 115), none, .mv (.t 16)⟩,
                   ⟨(some 116), none, .bi .append [22, 22] [.ns, .t 115]⟩,
                   ⟨(some 17), none, .mv (.t 116)⟩])
                 (.seq (.seq (.reg [⟨(some 18), none, .mv (.i .i64 0)⟩])
                   (.block 6 (.loop (.seq (.seq (.reg [⟨(some 117), none, .mv (.t 18)⟩,
                         ⟨(some 118), none, .mv (.t 1)⟩,
                         ⟨(some 119), none, .bin .lss 3 (.t 117) (.t 118)⟩])
                       (.cond (.t 119)
                        (.skip)
                        (.exit 6)))
                      (.seq (.block 7 (.seq (.seq (.reg [⟨(some 122), none, .mv (.t 15)⟩,
                            ⟨(some 123), none, .mv (.t 13)⟩,
                            ⟨(some 124), none, .mv (.t 18)⟩,
                            ⟨(some 125), none, .ia 37 (.t 123) (.t 124)⟩,
                            ⟨(some 126), none, .ld 22 (.t 125)⟩,
                            ⟨(some 127), none, .bi .len [22] [.t 126]⟩,
                            ⟨(some 128), none, .bin .geq 3 (.t 122) (.t 127)⟩])
                          (.cond (.t 128)
                           (.seq (.reg [⟨(some 6), none, .mv (.b false)⟩])
                            (.ret))
                           (.skip)))
                         (.reg [⟨(some 129), none, .mv (.t 17)⟩,
                           ⟨(some 130), none, .mv (.t 13)⟩,
                           ⟨(some 131), none, .mv (.t 18)⟩,
                           ⟨(some 132), none, .ia 37 (.t 130) (.t 131)⟩,
                           ⟨(some 133), none, .ld 22 (.t 132)⟩,
                           ⟨(some 134), none, .mv (.t 15)⟩,
                           ⟨(some 135), none, .ia 22 (.t 133) (.t 134)⟩,
                           ⟨(some 136), none, .ld 23 (.t 135)⟩,
                           ⟨(some 137), none, .bsl 22 1 [(0, .t 136)]⟩,
                           ⟨(some 138), none, .bi .append [22, 22] [.t 129, .t 137]⟩,
                           ⟨(some 17), none, .mv (.t 138)⟩])))
                       (.reg [⟨(some 120), none, .mv (.t 18)⟩,
                         ⟨(some 121), none, .bin .add 3 (.t 120) (.i .i64 1)⟩,
                         ⟨(some 18), none, .mv (.t 121)⟩]))))))
                  (.seq (.reg [⟨(some 19), none, .mv (.i .i64 0)⟩])
                   (.seq (.seq (.reg [⟨(some 20), none, .mv (.i .i64 0)⟩])
                     (.block 8 (.loop (.seq (.seq (.reg [⟨(some 139), none, .mv (.t 20)⟩,
                           ⟨(some 140), none, .mv (.t 2)⟩,
                           ⟨(some 141), none, .bi .len [46] [.t 140]⟩,
                           ⟨(some 142), none, .bin .lss 3 (.t 139) (.t 141)⟩,
                           ⟨(some 143), none, .mv (.t 142)⟩,
                           ⟨(some 144), (some (143, true)), .mv (.t 19)⟩,
                           ⟨(some 145), (some (143, true)), .mv (.t 1)⟩,
                           ⟨(some 146), (some (143, true)), .bin .lss 3 (.t 144) (.t 145)⟩,
                           ⟨(some 147), none, .pk (.t 143) (.t 146) (.b false)⟩])
                         (.cond (.t 147)
                          (.skip)
                          (.exit 8)))
                        (.seq (.block 9 (.seq (.reg [⟨(some 150), none, .mv (.t 2)⟩,
                             ⟨(some 151), none, .mv (.t 20)⟩,
                             ⟨(some 152), none, .ia 46 (.t 150) (.t 151)⟩,
                             ⟨(some 153), none, .ld 3 (.t 152)⟩,
                             ⟨(some 154), none, .bin .and 3 (.t 153) (.i .i64 1023)⟩,
                             ⟨(some 155), none, .mv (.t 17)⟩,
                             ⟨(some 156), none, .bi .len [22] [.t 155]⟩,
                             ⟨(some 157), none, .bin .rem 3 (.t 154) (.t 156)⟩,
                             ⟨(some 21), none, .mv (.t 157)⟩])
                           (.seq (.seq (.reg [⟨(some 158), none, .mv (.t 17)⟩,
                               ⟨(some 159), none, .mv (.t 21)⟩,
                               ⟨(some 160), none, .ia 22 (.t 158) (.t 159)⟩,
                               ⟨(some 161), none, .ld 23 (.t 160)⟩,
                               ⟨(some 162), none, .bi .len [23] [.t 161]⟩,
                               ⟨(some 163), none, .bin .gtr 3 (.t 162) (.i .i64 0)⟩])
                             (.cond (.t 163)
                              (.reg [⟨(some 164), none, .mv (.t 19)⟩,
                                ⟨(some 165), none, .bin .add 3 (.t 164) (.i .i64 1)⟩,
                                ⟨(some 19), none, .mv (.t 165)⟩])
                              (.skip)))
                            (.reg [⟨(some 166), none, .mv (.t 17)⟩,
                              ⟨(some 167), none, .mv (.t 21)⟩,
                              ⟨(some 168), none, .ia 22 (.t 166) (.t 167)⟩,
                              ⟨none, none, .st 23 (.t 168) (.ns)⟩]))))
                         (.reg [⟨(some 148), none, .mv (.t 20)⟩,
                           ⟨(some 149), none, .bin .add 3 (.t 148) (.i .i64 1)⟩,
                           ⟨(some 20), none, .mv (.t 149)⟩]))))))
                    (.seq (.reg [⟨(some 170), none, .mv (.t 17)⟩,
                       ⟨(some 171), none, .mv (.t 8)⟩,
                       ⟨(some 172), none, .bi .len [35] [.t 171]⟩,
                       ⟨(some 173), none, .call (.fn 31) [.t 170, .t 172]⟩,
                       ⟨(some 169), none, .mv (.t 173)⟩,
                       ⟨(some 174), none, .ex (.t 169) 0⟩,
                       ⟨(some 175), none, .ex (.t 169) 1⟩,
                       ⟨(some 22), none, .mv (.t 174)⟩,
                       ⟨(some 23), none, .mv (.t 175)⟩])
                     (.seq (.reg [⟨(some 176), none, .mv (.t 23)⟩,
                        ⟨(some 177), none, .bin .neq 3 (.t 176) (.i .i64 0)⟩,
                        ⟨(some 178), none, .mv (.t 177)⟩,
                        ⟨(some 179), (some (178, false)), .mv (.t 22)⟩,
                        ⟨(some 180), (some (178, false)), .mv (.t 16)⟩,
                        ⟨(some 181), (some (178, false)), .call (.fn 28) [.t 179, .t 180]⟩,
                        ⟨(some 182), (some (178, false)), .un .not (.t 181)⟩,
                        ⟨(some 183), none, .pk (.t 178) (.b true) (.t 182)⟩])
                      (.cond (.t 183)
                       (.seq (.reg [⟨(some 6), none, .mv (.b false)⟩])
                        (.ret))
                       (.skip)))))))))))
             (.reg [⟨(some 105), none, .mv (.t 15)⟩,
               ⟨(some 106), none, .bin .add 3 (.t 105) (.i .i64 1)⟩,
               ⟨(some 15), none, .mv (.t 106)⟩]))))))
        (.seq (.reg [⟨(some 6), none, .mv (.b true)⟩])
         (.ret)))))))))
theorem b6 : Body Try.prog 6 184 [6] k6 := ⟨Enters.of Try.func6 (by kernel_rfl) (by kernel_rfl), _, _, Try.func6, rfl, by kernel_rfl, rfl, rfl⟩

/-- cartridge/cartridgelaw2.MatrixTells -/
def k7 : KC :=
 .seq (.reg [⟨(some 6), none, .mv (.b false)⟩])
 (.seq (.reg [⟨(some 20), none, .call (.fn 14) []⟩,
    ⟨(some 7), none, .mv (.t 20)⟩])
  (.seq (.seq (.reg [⟨(some 21), none, .mv (.t 7)⟩,
      ⟨(some 22), none, .un .not (.t 21)⟩,
      ⟨(some 23), none, .mv (.t 22)⟩,
      ⟨(some 24), (some (23, false)), .mv (.t 0)⟩,
      ⟨(some 25), (some (23, false)), .call (.fn 15) [.t 24]⟩,
      ⟨(some 26), (some (23, false)), .un .not (.t 25)⟩,
      ⟨(some 27), none, .pk (.t 23) (.b true) (.t 26)⟩,
      ⟨(some 28), none, .mv (.t 27)⟩,
      ⟨(some 29), (some (28, false)), .mv (.t 1)⟩,
      ⟨(some 30), (some (28, false)), .call (.fn 15) [.t 29]⟩,
      ⟨(some 31), (some (28, false)), .un .not (.t 30)⟩,
      ⟨(some 32), none, .pk (.t 28) (.b true) (.t 31)⟩,
      ⟨(some 33), none, .mv (.t 32)⟩,
      ⟨(some 34), (some (33, false)), .mv (.t 2)⟩,
      ⟨(some 35), (some (33, false)), .bi .len [23] [.t 34]⟩,
      ⟨(some 36), (some (33, false)), .bin .gtr 3 (.t 35) (.i .i64 400)⟩,
      ⟨(some 37), none, .pk (.t 33) (.b true) (.t 36)⟩])
    (.cond (.t 37)
     (.seq (.reg [⟨(some 38), none, .mv (.t 7)⟩,
        ⟨(some 6), none, .mv (.t 38)⟩])
      (.ret))
     (.skip)))
   (.seq (.reg [⟨(some 40), none, .mv (.t 0)⟩,
      ⟨(some 41), none, .mv (.t 1)⟩,
      ⟨(some 42), none, .call (.fn 32) [.t 40, .t 41]⟩,
      ⟨(some 39), none, .mv (.t 42)⟩,
      ⟨(some 43), none, .ex (.t 39) 0⟩,
      ⟨(some 44), none, .ex (.t 39) 1⟩,
      ⟨(some 8), none, .mv (.t 43)⟩,
      ⟨(some 9), none, .mv (.t 44)⟩])
    (.seq (.reg [⟨(some 46), none, .mv (.t 0)⟩,
       ⟨(some 47), none, .mv (.t 1)⟩,
       ⟨(some 48), none, .call (.fn 33) [.t 46, .t 47]⟩,
       ⟨(some 45), none, .mv (.t 48)⟩,
       ⟨(some 49), none, .ex (.t 45) 0⟩,
       ⟨(some 50), none, .ex (.t 45) 1⟩,
       ⟨(some 10), none, .mv (.t 49)⟩,
       ⟨(some 11), none, .mv (.t 50)⟩])
     (.seq (.reg [⟨(some 52), none, .mv (.t 0)⟩,
        ⟨(some 53), none, .mv (.t 2)⟩,
        ⟨(some 54), none, .call (.fn 19) [.t 52, .t 53]⟩,
        ⟨(some 51), none, .mv (.t 54)⟩,
        ⟨(some 55), none, .ex (.t 51) 0⟩,
        ⟨(some 56), none, .ex (.t 51) 1⟩,
        ⟨(some 12), none, .mv (.t 55)⟩,
        ⟨(some 13), none, .mv (.t 56)⟩])
      (.seq (.reg [⟨(some 58), none, .mv (.t 0)⟩,
         ⟨(some 59), none, .mv (.t 2)⟩,
         ⟨(some 60), none, .call (.fn 34) [.t 58, .t 59]⟩,
         ⟨(some 57), none, .mv (.t 60)⟩,
         ⟨(some 61), none, .ex (.t 57) 0⟩,
         ⟨(some 62), none, .ex (.t 57) 1⟩,
         ⟨(some 14), none, .mv (.t 61)⟩,
         ⟨(some 15), none, .mv (.t 62)⟩])
       (.seq (.reg [⟨(some 64), none, .mv (.t 0)⟩,
          ⟨(some 65), none, .call (.fn 17) [.t 64]⟩,
          ⟨(some 63), none, .mv (.t 65)⟩,
          ⟨(some 66), none, .ex (.t 63) 0⟩,
          ⟨(some 67), none, .ex (.t 63) 1⟩,
          ⟨(some 16), none, .mv (.t 66)⟩,
          ⟨(some 17), none, .mv (.t 67)⟩])
        (.seq (.reg [⟨(some 69), none, .mv (.t 0)⟩,
           ⟨(some 70), none, .call (.fn 35) [.t 69]⟩,
           ⟨(some 68), none, .mv (.t 70)⟩,
           ⟨(some 71), none, .ex (.t 68) 0⟩,
           ⟨(some 72), none, .ex (.t 68) 1⟩,
           ⟨(some 18), none, .mv (.t 71)⟩,
           ⟨(some 19), none, .mv (.t 72)⟩])
         (.seq (.reg [⟨(some 73), none, .mv (.t 0)⟩,
            ⟨(some 74), none, .call (.fn 36) [.t 73]⟩,
            ⟨(some 75), none, .mv (.t 0)⟩,
            ⟨(some 76), none, .call (.fn 16) [.t 75]⟩,
            ⟨(some 77), none, .bin .eql 4 (.t 74) (.t 76)⟩,
            ⟨(some 78), none, .mv (.t 77)⟩,
            ⟨(some 79), (some (78, true)), .mv (.t 8)⟩,
            ⟨(some 80), (some (78, true)), .mv (.t 10)⟩,
            ⟨(some 81), (some (78, true)), .call (.fn 28) [.t 79, .t 80]⟩,
            ⟨(some 82), none, .pk (.t 78) (.t 81) (.b false)⟩,
            ⟨(some 83), none, .mv (.t 82)⟩,
            ⟨(some 84), (some (83, true)), .mv (.t 9)⟩,
            ⟨(some 85), (some (83, true)), .call (.fn 18) [.t 84]⟩,
            ⟨(some 86), (some (83, true)), .mv (.t 11)⟩,
            ⟨(some 87), (some (83, true)), .bin .eql 3 (.t 85) (.t 86)⟩,
            ⟨(some 88), none, .pk (.t 83) (.t 87) (.b false)⟩,
            ⟨(some 89), none, .mv (.t 88)⟩,
            ⟨(some 90), (some (89, true)), .mv (.t 12)⟩,
            ⟨(some 91), (some (89, true)), .cvt 23 9 (.t 90)⟩,
            ⟨(some 92), (some (89, true)), .mv (.t 14)⟩,
            ⟨(some 93), (some (89, true)), .cvt 23 9 (.t 92)⟩,
            ⟨(some 94), (some (89, true)), .bin .eql 9 (.t 91) (.t 93)⟩,
            ⟨(some 95), none, .pk (.t 89) (.t 94) (.b false)⟩,
            ⟨(some 96), none, .mv (.t 95)⟩,
            ⟨(some 97), (some (96, true)), .mv (.t 13)⟩,
            ⟨(some 98), (some (96, true)), .call (.fn 18) [.t 97]⟩,
            ⟨(some 99), (some (96, true)), .mv (.t 15)⟩,
            ⟨(some 100), (some (96, true)), .bin .eql 3 (.t 98) (.t 99)⟩,
            ⟨(some 101), none, .pk (.t 96) (.t 100) (.b false)⟩,
            ⟨(some 102), none, .mv (.t 101)⟩,
            ⟨(some 103), (some (102, true)), .mv (.t 16)⟩,
            ⟨(some 104), (some (102, true)), .mv (.t 18)⟩,
            ⟨(some 105), (some (102, true)), .call (.fn 28) [.t 103, .t 104]⟩,
            ⟨(some 106), none, .pk (.t 102) (.t 105) (.b false)⟩,
            ⟨(some 107), none, .mv (.t 106)⟩,
            ⟨(some 108), (some (107, true)), .mv (.t 17)⟩,
            ⟨(some 109), (some (107, true)), .call (.fn 18) [.t 108]⟩,
            ⟨(some 110), (some (107, true)), .mv (.t 19)⟩,
            ⟨(some 111), (some (107, true)), .bin .eql 3 (.t 109) (.t 110)⟩,
            ⟨(some 112), none, .pk (.t 107) (.t 111) (.b false)⟩,
            ⟨(some 6), none, .mv (.t 112)⟩])
          (.ret))))))))))
theorem b7 : Body Try.prog 7 113 [6] k7 := ⟨Enters.of Try.func7 (by kernel_rfl) (by kernel_rfl), _, _, Try.func7, rfl, by kernel_rfl, rfl, rfl⟩

/-- cartridge/cartridgelaw2.MatrixOne -/
def k8 : KC :=
 .seq (.reg [⟨(some 4), none, .mv (.b false)⟩])
 (.seq (.reg [⟨(some 15), none, .call (.fn 14) []⟩,
    ⟨(some 5), none, .mv (.t 15)⟩])
  (.seq (.seq (.reg [⟨(some 16), none, .mv (.t 5)⟩,
      ⟨(some 17), none, .un .not (.t 16)⟩,
      ⟨(some 18), none, .mv (.t 17)⟩,
      ⟨(some 19), (some (18, false)), .mv (.t 0)⟩,
      ⟨(some 20), (some (18, false)), .bin .lss 3 (.t 19) (.i .i64 1)⟩,
      ⟨(some 21), none, .pk (.t 18) (.b true) (.t 20)⟩,
      ⟨(some 22), none, .mv (.t 21)⟩,
      ⟨(some 23), (some (22, false)), .mv (.t 0)⟩,
      ⟨(some 24), (some (22, false)), .bin .gtr 3 (.t 23) (.i .i64 30)⟩,
      ⟨(some 25), none, .pk (.t 22) (.b true) (.t 24)⟩,
      ⟨(some 26), none, .mv (.t 25)⟩,
      ⟨(some 27), (some (26, false)), .mv (.t 1)⟩,
      ⟨(some 28), (some (26, false)), .bi .len [23] [.t 27]⟩,
      ⟨(some 29), (some (26, false)), .mv (.t 0)⟩,
      ⟨(some 30), (some (26, false)), .bin .neq 3 (.t 28) (.t 29)⟩,
      ⟨(some 31), none, .pk (.t 26) (.b true) (.t 30)⟩])
    (.cond (.t 31)
     (.seq (.reg [⟨(some 32), none, .mv (.t 5)⟩,
        ⟨(some 4), none, .mv (.t 32)⟩])
      (.ret))
     (.skip)))
   (.seq (.reg [⟨(some 6), none, .mv (.ns)⟩])
    (.seq (.seq (.reg [⟨(some 7), none, .mv (.i .i64 0)⟩])
      (.block 0 (.loop (.seq (.seq (.reg [⟨(some 33), none, .mv (.t 7)⟩,
            ⟨(some 34), none, .mv (.t 0)⟩,
            ⟨(some 35), none, .bin .lss 3 (.t 33) (.t 34)⟩])
          (.cond (.t 35)
           (.skip)
           (.exit 0)))
         (.seq (.block 1 (.seq (.reg [⟨(some 38), none, .mv (.t 0)⟩,
              ⟨(some 39), none, .mk 23 (.t 38) (.t 38)⟩,
              ⟨(some 8), none, .mv (.t 39)⟩])
            (.seq (.reg [⟨(some 40), none, .mv (.t 8)⟩,
               ⟨(some 41), none, .mv (.t 7)⟩,
               ⟨(some 42), none, .ia 23 (.t 40) (.t 41)⟩,
               ⟨none, none, .st 5 (.t 42) (.i .u8 1)⟩])
             (.reg [⟨(some 43), none, .mv (.t 6)⟩,
               ⟨(some 44), none, .mv (.t 8)⟩,
               ⟨(some 45), none, .bsl 22 1 [(0, .t 44)]⟩,
               ⟨(some 46), none, .bi .append [22, 22] [.t 43, .t 45]⟩,
               ⟨(some 6), none, .mv (.t 46)⟩]))))
          (.reg [⟨(some 36), none, .mv (.t 7)⟩,
            ⟨(some 37), none, .bin .add 3 (.t 36) (.i .i64 1)⟩,
            ⟨(some 7), none, .mv (.t 37)⟩]))))))
     (.seq (.reg [⟨(some 48), none, .mv (.t 6)⟩,
        ⟨(some 49), none, .call (.fn 17) [.t 48]⟩,
        ⟨(some 47), none, .mv (.t 49)⟩,
        ⟨(some 50), none, .ex (.t 47) 0⟩,
        ⟨(some 51), none, .ex (.t 47) 1⟩,
        ⟨(some 9), none, .mv (.t 50)⟩,
        ⟨(some 10), none, .mv (.t 51)⟩])
      (.seq (.reg [⟨(some 53), none, .mv (.t 6)⟩,
         ⟨(some 54), none, .mv (.t 1)⟩,
         ⟨(some 55), none, .call (.fn 19) [.t 53, .t 54]⟩,
         ⟨(some 52), none, .mv (.t 55)⟩,
         ⟨(some 56), none, .ex (.t 52) 0⟩,
         ⟨(some 57), none, .ex (.t 52) 1⟩,
         ⟨(some 11), none, .mv (.t 56)⟩,
         ⟨(some 12), none, .mv (.t 57)⟩])
       (.seq (.reg [⟨(some 59), none, .mv (.t 6)⟩,
          ⟨(some 60), none, .mv (.t 6)⟩,
          ⟨(some 61), none, .call (.fn 32) [.t 59, .t 60]⟩,
          ⟨(some 58), none, .mv (.t 61)⟩,
          ⟨(some 62), none, .ex (.t 58) 0⟩,
          ⟨(some 63), none, .ex (.t 58) 1⟩,
          ⟨(some 13), none, .mv (.t 62)⟩,
          ⟨(some 14), none, .mv (.t 63)⟩])
        (.seq (.reg [⟨(some 64), none, .mv (.t 10)⟩,
           ⟨(some 65), none, .call (.fn 18) [.t 64]⟩,
           ⟨(some 66), none, .bin .eql 3 (.t 65) (.i .i64 0)⟩,
           ⟨(some 67), none, .mv (.t 66)⟩,
           ⟨(some 68), (some (67, true)), .mv (.t 9)⟩,
           ⟨(some 69), (some (67, true)), .mv (.t 6)⟩,
           ⟨(some 70), (some (67, true)), .call (.fn 28) [.t 68, .t 69]⟩,
           ⟨(some 71), none, .pk (.t 67) (.t 70) (.b false)⟩,
           ⟨(some 72), none, .mv (.t 71)⟩,
           ⟨(some 73), (some (72, true)), .mv (.t 12)⟩,
           ⟨(some 74), (some (72, true)), .call (.fn 18) [.t 73]⟩,
           ⟨(some 75), (some (72, true)), .bin .eql 3 (.t 74) (.i .i64 0)⟩,
           ⟨(some 76), none, .pk (.t 72) (.t 75) (.b false)⟩,
           ⟨(some 77), none, .mv (.t 76)⟩,
           ⟨(some 78), (some (77, true)), .mv (.t 11)⟩,
           ⟨(some 79), (some (77, true)), .cvt 23 9 (.t 78)⟩,
           ⟨(some 80), (some (77, true)), .mv (.t 1)⟩,
           ⟨(some 81), (some (77, true)), .cvt 23 9 (.t 80)⟩,
           ⟨(some 82), (some (77, true)), .bin .eql 9 (.t 79) (.t 81)⟩,
           ⟨(some 83), none, .pk (.t 77) (.t 82) (.b false)⟩,
           ⟨(some 84), none, .mv (.t 83)⟩,
           ⟨(some 85), (some (84, true)), .mv (.t 14)⟩,
           ⟨(some 86), (some (84, true)), .call (.fn 18) [.t 85]⟩,
           ⟨(some 87), (some (84, true)), .bin .eql 3 (.t 86) (.i .i64 0)⟩,
           ⟨(some 88), none, .pk (.t 84) (.t 87) (.b false)⟩,
           ⟨(some 89), none, .mv (.t 88)⟩,
           ⟨(some 90), (some (89, true)), .mv (.t 13)⟩,
           ⟨(some 91), (some (89, true)), .mv (.t 6)⟩,
           ⟨(some 92), (some (89, true)), .call (.fn 28) [.t 90, .t 91]⟩,
           ⟨(some 93), none, .pk (.t 89) (.t 92) (.b false)⟩,
           ⟨(some 4), none, .mv (.t 93)⟩])
         (.ret)))))))))
theorem b8 : Body Try.prog 8 94 [4] k8 := ⟨Enters.of Try.func8 (by kernel_rfl) (by kernel_rfl), _, _, Try.func8, rfl, by kernel_rfl, rfl, rfl⟩

/-- cartridge/cartridgelaw2.MatrixCauchy -/
noncomputable def drw9_0 : Array Oper := ((Try.f9.body.map regs).getD []).getD 0 #[]
noncomputable def k9 : KC :=
 .seq (.reg [⟨(some 8), none, .mv (.b false)⟩])
 (.seq (.reg [⟨(some 24), none, .call (.fn 14) []⟩,
    ⟨(some 9), none, .mv (.t 24)⟩])
  (.seq (.seq (.reg [⟨(some 25), none, .mv (.t 9)⟩,
      ⟨(some 26), none, .un .not (.t 25)⟩,
      ⟨(some 27), none, .mv (.t 26)⟩,
      ⟨(some 28), (some (27, false)), .mv (.t 0)⟩,
      ⟨(some 29), (some (27, false)), .bin .gtr 3 (.t 28) (.i .i64 30)⟩,
      ⟨(some 30), none, .pk (.t 27) (.b true) (.t 29)⟩,
      ⟨(some 31), none, .mv (.t 30)⟩,
      ⟨(some 32), (some (31, false)), .mv (.t 1)⟩,
      ⟨(some 33), (some (31, false)), .bin .gtr 3 (.t 32) (.i .i64 30)⟩,
      ⟨(some 34), none, .pk (.t 31) (.b true) (.t 33)⟩,
      ⟨(some 35), none, .mv (.t 34)⟩,
      ⟨(some 36), (some (35, false)), .mv (.t 2)⟩,
      ⟨(some 37), (some (35, false)), .bi .len [46] [.t 36]⟩,
      ⟨(some 38), (some (35, false)), .bin .gtr 3 (.t 37) (.i .i64 8)⟩,
      ⟨(some 39), none, .pk (.t 35) (.b true) (.t 38)⟩,
      ⟨(some 40), none, .mv (.t 39)⟩,
      ⟨(some 41), (some (40, false)), .mv (.t 3)⟩,
      ⟨(some 42), (some (40, false)), .bi .len [46] [.t 41]⟩,
      ⟨(some 43), (some (40, false)), .mv (.t 2)⟩,
      ⟨(some 44), (some (40, false)), .bi .len [46] [.t 43]⟩,
      ⟨(some 45), (some (40, false)), .bin .lss 3 (.t 42) (.t 44)⟩,
      ⟨(some 46), none, .pk (.t 40) (.b true) (.t 45)⟩])
    (.cond (.t 46)
     (.seq (.reg [⟨(some 47), none, .mv (.t 9)⟩,
        ⟨(some 8), none, .mv (.t 47)⟩])
      (.ret))
     (.skip)))
   (.seq (.reg [⟨(some 49), none, .mv (.t 0)⟩,
      ⟨(some 50), none, .mv (.t 1)⟩,
      ⟨(some 51), none, .call (.fn 37) [.t 49, .t 50]⟩,
      ⟨(some 48), none, .mv (.t 51)⟩,
      ⟨(some 52), none, .ex (.t 48) 0⟩,
      ⟨(some 53), none, .ex (.t 48) 1⟩,
      ⟨(some 10), none, .mv (.t 52)⟩,
      ⟨(some 11), none, .mv (.t 53)⟩])
    (.seq (.reg [⟨(some 55), none, .mv (.t 0)⟩,
       ⟨(some 56), none, .mv (.t 1)⟩,
       ⟨(some 57), none, .call (.fn 38) [.t 55, .t 56]⟩,
       ⟨(some 54), none, .mv (.t 57)⟩,
       ⟨(some 58), none, .ex (.t 54) 0⟩,
       ⟨(some 59), none, .ex (.t 54) 1⟩,
       ⟨(some 12), none, .mv (.t 58)⟩,
       ⟨(some 13), none, .mv (.t 59)⟩])
     (.seq (.seq (.reg [⟨(some 60), none, .mv (.t 11)⟩,
         ⟨(some 61), none, .call (.fn 18) [.t 60]⟩,
         ⟨(some 62), none, .mv (.t 13)⟩,
         ⟨(some 63), none, .bin .neq 3 (.t 61) (.t 62)⟩,
         ⟨(some 64), none, .mv (.t 63)⟩,
         ⟨(some 65), (some (64, false)), .mv (.t 10)⟩,
         ⟨(some 66), (some (64, false)), .mv (.t 12)⟩,
         ⟨(some 67), (some (64, false)), .call (.fn 28) [.t 65, .t 66]⟩,
         ⟨(some 68), (some (64, false)), .un .not (.t 67)⟩,
         ⟨(some 69), none, .pk (.t 64) (.b true) (.t 68)⟩])
       (.cond (.t 69)
        (.seq (.reg [⟨(some 8), none, .mv (.b false)⟩])
         (.ret))
        (.skip)))
      (.seq (.seq (.reg [⟨(some 70), none, .mv (.t 13)⟩,
          ⟨(some 71), none, .bin .neq 3 (.t 70) (.i .i64 0)⟩,
          ⟨(some 72), none, .mv (.t 71)⟩,
          ⟨(some 73), (some (72, false)), .mv (.t 2)⟩,
          ⟨(some 74), (some (72, false)), .bi .len [46] [.t 73]⟩,
          ⟨(some 75), (some (72, false)), .bin .eql 3 (.t 74) (.i .i64 0)⟩,
          ⟨(some 76), none, .pk (.t 72) (.b true) (.t 75)⟩,
          ⟨(some 77), none, .mv (.t 76)⟩,
          ⟨(some 78), (some (77, false)), .mv (.t 2)⟩,
          ⟨(some 79), (some (77, false)), .bi .len [46] [.t 78]⟩,
          ⟨(some 80), (some (77, false)), .mv (.t 1)⟩,
          ⟨(some 81), (some (77, false)), .bin .gtr 3 (.t 79) (.t 80)⟩,
          ⟨(some 82), none, .pk (.t 77) (.b true) (.t 81)⟩,
          ⟨(some 83), none, .mv (.t 82)⟩,
          ⟨(some 84), (some (83, false)), .mv (.t 2)⟩,
          ⟨(some 85), (some (83, false)), .bi .len [46] [.t 84]⟩,
          ⟨(some 86), (some (83, false)), .mv (.t 0)⟩,
          ⟨(some 87), (some (83, false)), .bin .gtr 3 (.t 85) (.t 86)⟩,
          ⟨(some 88), none, .pk (.t 83) (.b true) (.t 87)⟩])
        (.cond (.t 88)
         (.seq (.reg [⟨(some 8), none, .mv (.b true)⟩])
          (.ret))
         (.skip)))
       (.seq (.reg [⟨(some 14), none, .mv (.ns)⟩])
        (.seq (.seq (.reg [⟨(some 15), none, .mv (.i .i64 0)⟩])
          (.block 0 (.loop (.seq (.seq (.reg [⟨(some 89), none, .mv (.t 15)⟩,
                ⟨(some 90), none, .mv (.t 2)⟩,
                ⟨(some 91), none, .bi .len [46] [.t 90]⟩,
                ⟨(some 92), none, .bin .lss 3 (.t 89) (.t 91)⟩])
              (.cond (.t 92)
               (.skip)
               (.exit 0)))
             (.seq (.block 1 (.seq (.reg [⟨(some 16), none, .mv (.ns)⟩])
                (.seq (.seq (.reg [⟨(some 17), none, .mv (.i .i64 0)⟩])
                  (.block 2 (.loop (.seq (.seq (.reg [⟨(some 95), none, .mv (.t 17)⟩,
                        ⟨(some 96), none, .mv (.t 2)⟩,
                        ⟨(some 97), none, .bi .len [46] [.t 96]⟩,
                        ⟨(some 98), none, .bin .lss 3 (.t 95) (.t 97)⟩])
                      (.cond (.t 98)
                       (.skip)
                       (.exit 2)))
                     (.seq (.block 3 (.drw drw9_0 [⟨(some 101), none, .mv (.t 16)⟩,
                         ⟨(some 102), none, .mv (.t 12)⟩,
                         ⟨(some 103), none, .mv (.t 2)⟩,
                         ⟨(some 104), none, .mv (.t 15)⟩,
                         ⟨(some 105), none, .mv (.t 1)⟩,
                         ⟨(some 106), none, .call (.fn 39) [.t 103, .t 104, .t 105]⟩,
                         ⟨(some 107), none, .ia 22 (.t 102) (.t 106)⟩,
                         ⟨(some 108), none, .ld 23 (.t 107)⟩,
                         ⟨(some 109), none, .mv (.t 3)⟩,
                         ⟨(some 110), none, .mv (.t 17)⟩,
                         ⟨(some 111), none, .mv (.t 0)⟩,
                         ⟨(some 112), none, .call (.fn 39) [.t 109, .t 110, .t 111]⟩,
                         ⟨(some 113), none, .ia 23 (.t 108) (.t 112)⟩,
                         ⟨(some 114), none, .ld 5 (.t 113)⟩,
                         ⟨(some 115), none, .bsl 23 1 [(0, .t 114)]⟩,
                         ⟨(some 116), none, .bi .append [23, 23] [.t 101, .t 115]⟩,
                         ⟨(some 16), none, .mv (.t 116)⟩]))
                      (.reg [⟨(some 99), none, .mv (.t 17)⟩,
                        ⟨(some 100), none, .bin .add 3 (.t 99) (.i .i64 1)⟩,
                        ⟨(some 17), none, .mv (.t 100)⟩]))))))
                 (.reg [⟨(some 117), none, .mv (.t 14)⟩,
                   ⟨(some 118), none, .mv (.t 16)⟩,
                   ⟨(some 119), none, .bsl 22 1 [(0, .t 118)]⟩,
                   ⟨(some 120), none, .bi .append [22, 22] [.t 117, .t 119]⟩,
                   ⟨(some 14), none, .mv (.t 120)⟩]))))
              (.reg [⟨(some 93), none, .mv (.t 15)⟩,
                ⟨(some 94), none, .bin .add 3 (.t 93) (.i .i64 1)⟩,
                ⟨(some 15), none, .mv (.t 94)⟩]))))))
         (.seq (.reg [⟨(some 122), none, .mv (.t 14)⟩,
            ⟨(some 123), none, .call (.fn 17) [.t 122]⟩,
            ⟨(some 121), none, .mv (.t 123)⟩,
            ⟨(some 124), none, .ex (.t 121) 0⟩,
            ⟨(some 125), none, .ex (.t 121) 1⟩,
            ⟨(some 18), none, .mv (.t 124)⟩,
            ⟨(some 19), none, .mv (.t 125)⟩])
          (.seq (.reg [⟨(some 127), none, .mv (.t 14)⟩,
             ⟨(some 128), none, .mv (.t 18)⟩,
             ⟨(some 129), none, .call (.fn 32) [.t 127, .t 128]⟩,
             ⟨(some 126), none, .mv (.t 129)⟩,
             ⟨(some 130), none, .ex (.t 126) 0⟩,
             ⟨(some 131), none, .ex (.t 126) 1⟩,
             ⟨(some 20), none, .mv (.t 130)⟩,
             ⟨(some 21), none, .mv (.t 131)⟩])
           (.seq (.seq (.reg [⟨(some 132), none, .mv (.t 19)⟩,
               ⟨(some 133), none, .call (.fn 18) [.t 132]⟩,
               ⟨(some 134), none, .bin .neq 3 (.t 133) (.i .i64 0)⟩,
               ⟨(some 135), none, .mv (.t 134)⟩,
               ⟨(some 136), (some (135, false)), .mv (.t 21)⟩,
               ⟨(some 137), (some (135, false)), .call (.fn 18) [.t 136]⟩,
               ⟨(some 138), (some (135, false)), .bin .neq 3 (.t 137) (.i .i64 0)⟩,
               ⟨(some 139), none, .pk (.t 135) (.b true) (.t 138)⟩,
               ⟨(some 140), none, .mv (.t 139)⟩,
               ⟨(some 141), (some (140, false)), .mv (.t 20)⟩,
               ⟨(some 142), (some (140, false)), .bi .len [22] [.t 141]⟩,
               ⟨(some 143), (some (140, false)), .mv (.t 14)⟩,
               ⟨(some 144), (some (140, false)), .bi .len [22] [.t 143]⟩,
               ⟨(some 145), (some (140, false)), .bin .neq 3 (.t 142) (.t 144)⟩,
               ⟨(some 146), none, .pk (.t 140) (.b true) (.t 145)⟩])
             (.cond (.t 146)
              (.seq (.reg [⟨(some 8), none, .mv (.b false)⟩])
               (.ret))
              (.skip)))
            (.seq (.seq (.reg [⟨(some 22), none, .mv (.i .i64 0)⟩])
              (.block 4 (.loop (.seq (.seq (.reg [⟨(some 147), none, .mv (.t 22)⟩,
                    ⟨(some 148), none, .mv (.t 20)⟩,
                    ⟨(some 149), none, .bi .len [22] [.t 148]⟩,
                    ⟨(some 150), none, .bin .lss 3 (.t 147) (.t 149)⟩])
                  (.cond (.t 150)
                   (.skip)
                   (.exit 4)))
                 (.seq (.block 5 (.seq (.reg [⟨(some 23), none, .mv (.i .i64 0)⟩])
                    (.block 6 (.loop (.seq (.seq (.reg [⟨(some 153), none, .mv (.t 23)⟩,
                          ⟨(some 154), none, .mv (.t 20)⟩,
                          ⟨(some 155), none, .mv (.t 22)⟩,
                          ⟨(some 156), none, .ia 22 (.t 154) (.t 155)⟩,
                          ⟨(some 157), none, .ld 23 (.t 156)⟩,
                          ⟨(some 158), none, .bi .len [23] [.t 157]⟩,
                          ⟨(some 159), none, .bin .lss 3 (.t 153) (.t 158)⟩])
                        (.cond (.t 159)
                         (.skip)
                         (.exit 6)))
                       (.seq (.block 7 (.seq (.reg [⟨(some 162), none, .mv (.t 20)⟩,
                            ⟨(some 163), none, .mv (.t 22)⟩,
                            ⟨(some 164), none, .ia 22 (.t 162) (.t 163)⟩,
                            ⟨(some 165), none, .ld 23 (.t 164)⟩,
                            ⟨(some 166), none, .mv (.t 23)⟩,
                            ⟨(some 167), none, .ia 23 (.t 165) (.t 166)⟩,
                            ⟨(some 168), none, .ld 5 (.t 167)⟩,
                            ⟨(some 169), none, .bin .eql 5 (.t 168) (.i .u8 1)⟩,
                            ⟨(some 170), none, .mv (.t 22)⟩,
                            ⟨(some 171), none, .mv (.t 23)⟩,
                            ⟨(some 172), none, .bin .eql 3 (.t 170) (.t 171)⟩,
                            ⟨(some 173), none, .bin .neq 4 (.t 169) (.t 172)⟩,
                            ⟨(some 174), none, .mv (.t 173)⟩,
                            ⟨(some 175), (some (174, false)), .mv (.t 20)⟩,
                            ⟨(some 176), (some (174, false)), .mv (.t 22)⟩,
                            ⟨(some 177), (some (174, false)), .ia 22 (.t 175) (.t 176)⟩,
                            ⟨(some 178), (some (174, false)), .ld 23 (.t 177)⟩,
                            ⟨(some 179), (some (174, false)), .mv (.t 23)⟩,
                            ⟨(some 180), (some (174, false)), .ia 23 (.t 178) (.t 179)⟩,
                            ⟨(some 181), (some (174, false)), .ld 5 (.t 180)⟩,
                            ⟨(some 182), (some (174, false)), .bin .gtr 5 (.t 181) (.i .u8 1)⟩,
                            ⟨(some 183), none, .pk (.t 174) (.b true) (.t 182)⟩])
                          (.cond (.t 183)
                           (.seq (.reg [⟨(some 8), none, .mv (.b false)⟩])
                            (.ret))
                           (.skip))))
                        (.reg [⟨(some 160), none, .mv (.t 23)⟩,
                          ⟨(some 161), none, .bin .add 3 (.t 160) (.i .i64 1)⟩,
                          ⟨(some 23), none, .mv (.t 161)⟩])))))))
                  (.reg [⟨(some 151), none, .mv (.t 22)⟩,
                    ⟨(some 152), none, .bin .add 3 (.t 151) (.i .i64 1)⟩,
                    ⟨(some 22), none, .mv (.t 152)⟩]))))))
             (.seq (.reg [⟨(some 8), none, .mv (.b true)⟩])
              (.ret))))))))))))))
theorem b9 : Body Try.prog 9 184 [8] k9 := ⟨Enters.of Try.func9 (by kernel_rfl) (by kernel_rfl), _, _, Try.func9, rfl, by kernel_rfl, rfl, rfl⟩

/-- cartridge/cartridgelaw24.RobotBound -/
def k10 : KC :=
 .seq (.reg [⟨(some 8), none, .mv (.b false)⟩])
 (.seq (.reg [⟨(some 19), none, .call (.fn 40) []⟩,
    ⟨(some 9), none, .mv (.t 19)⟩])
  (.seq (.seq (.reg [⟨(some 20), none, .mv (.t 9)⟩,
      ⟨(some 21), none, .un .not (.t 20)⟩,
      ⟨(some 22), none, .mv (.t 21)⟩,
      ⟨(some 23), (some (22, false)), .mv (.t 0)⟩,
      ⟨(some 24), (some (22, false)), .bin .lss 3 (.t 23) (.i .i64 1)⟩,
      ⟨(some 25), none, .pk (.t 22) (.b true) (.t 24)⟩,
      ⟨(some 26), none, .mv (.t 25)⟩,
      ⟨(some 27), (some (26, false)), .mv (.t 0)⟩,
      ⟨(some 28), (some (26, false)), .bin .gtr 3 (.t 27) (.i .i64 20)⟩,
      ⟨(some 29), none, .pk (.t 26) (.b true) (.t 28)⟩,
      ⟨(some 30), none, .mv (.t 29)⟩,
      ⟨(some 31), (some (30, false)), .mv (.t 1)⟩,
      ⟨(some 32), (some (30, false)), .bin .lss 3 (.t 31) (.i .i64 1)⟩,
      ⟨(some 33), none, .pk (.t 30) (.b true) (.t 32)⟩,
      ⟨(some 34), none, .mv (.t 33)⟩,
      ⟨(some 35), (some (34, false)), .mv (.t 1)⟩,
      ⟨(some 36), (some (34, false)), .bin .gtr 3 (.t 35) (.i .i64 4)⟩,
      ⟨(some 37), none, .pk (.t 34) (.b true) (.t 36)⟩,
      ⟨(some 38), none, .mv (.t 37)⟩,
      ⟨(some 39), (some (38, false)), .mv (.t 2)⟩,
      ⟨(some 40), (some (38, false)), .bin .lss 3 (.t 39) (.i .i64 0)⟩,
      ⟨(some 41), none, .pk (.t 38) (.b true) (.t 40)⟩,
      ⟨(some 42), none, .mv (.t 41)⟩,
      ⟨(some 43), (some (42, false)), .mv (.t 2)⟩,
      ⟨(some 44), (some (42, false)), .bin .gtr 3 (.t 43) (.i .i64 100)⟩,
      ⟨(some 45), none, .pk (.t 42) (.b true) (.t 44)⟩,
      ⟨(some 46), none, .mv (.t 45)⟩,
      ⟨(some 47), (some (46, false)), .mv (.t 3)⟩,
      ⟨(some 48), (some (46, false)), .bi .len [63] [.t 47]⟩,
      ⟨(some 49), (some (46, false)), .bin .gtr 3 (.t 48) (.i .i64 20)⟩,
      ⟨(some 50), none, .pk (.t 46) (.b true) (.t 49)⟩])
    (.cond (.t 50)
     (.seq (.reg [⟨(some 51), none, .mv (.t 9)⟩,
        ⟨(some 8), none, .mv (.t 51)⟩])
      (.ret))
     (.skip)))
   (.seq (.reg [⟨(some 10), none, .mv (.ns)⟩])
    (.seq (.seq (.reg [⟨(some 11), none, .mv (.i .i64 0)⟩])
      (.block 0 (.loop (.seq (.seq (.reg [⟨(some 52), none, .mv (.t 11)⟩,
            ⟨(some 53), none, .mv (.t 0)⟩,
            ⟨(some 54), none, .bin .lss 3 (.t 52) (.t 53)⟩])
          (.cond (.t 54)
           (.skip)
           (.exit 0)))
         (.seq (.block 1 (.reg [⟨(some 57), none, .mv (.t 10)⟩,
             ⟨(some 58), none, .mv (.t 11)⟩,
             ⟨(some 59), none, .bin .add 3 (.t 58) (.i .i64 1)⟩,
             ⟨(some 60), none, .bsl 46 1 [(0, .t 59)]⟩,
             ⟨(some 61), none, .bi .append [46, 46] [.t 57, .t 60]⟩,
             ⟨(some 10), none, .mv (.t 61)⟩]))
          (.reg [⟨(some 55), none, .mv (.t 11)⟩,
            ⟨(some 56), none, .bin .add 3 (.t 55) (.i .i64 1)⟩,
            ⟨(some 11), none, .mv (.t 56)⟩]))))))
     (.seq (.reg [⟨(some 63), none, .mv (.t 10)⟩,
        ⟨(some 64), none, .mv (.t 1)⟩,
        ⟨(some 65), none, .call (.fn 41) [.t 63, .t 64]⟩,
        ⟨(some 62), none, .mv (.t 65)⟩,
        ⟨(some 66), none, .ex (.t 62) 0⟩,
        ⟨(some 67), none, .ex (.t 62) 1⟩,
        ⟨(some 12), none, .mv (.t 66)⟩,
        ⟨(some 13), none, .mv (.t 67)⟩])
      (.seq (.seq (.reg [⟨(some 68), none, .mv (.t 13)⟩,
          ⟨(some 69), none, .call (.fn 42) [.t 68]⟩,
          ⟨(some 70), none, .bin .neq 3 (.t 69) (.i .i64 0)⟩,
          ⟨(some 71), none, .mv (.t 70)⟩,
          ⟨(some 72), (some (71, false)), .mv (.t 12)⟩,
          ⟨(some 73), (some (71, false)), .bin .eql 64 (.t 72) (.np)⟩,
          ⟨(some 74), none, .pk (.t 71) (.b true) (.t 73)⟩])
        (.cond (.t 74)
         (.seq (.reg [⟨(some 8), none, .mv (.b false)⟩])
          (.ret))
         (.skip)))
       (.seq (.seq (.reg [⟨(some 14), none, .mv (.i .i64 0)⟩])
         (.block 2 (.loop (.seq (.seq (.reg [⟨(some 75), none, .mv (.t 14)⟩,
               ⟨(some 76), none, .mv (.t 3)⟩,
               ⟨(some 77), none, .bi .len [63] [.t 76]⟩,
               ⟨(some 78), none, .bin .lss 3 (.t 75) (.t 77)⟩])
             (.cond (.t 78)
              (.skip)
              (.exit 2)))
            (.seq (.block 3 (.seq (.seq (.reg [⟨(some 81), none, .mv (.t 3)⟩,
                  ⟨(some 82), none, .mv (.t 14)⟩,
                  ⟨(some 83), none, .ia 63 (.t 81) (.t 82)⟩,
                  ⟨(some 84), none, .ld 46 (.t 83)⟩,
                  ⟨(some 85), none, .bi .len [46] [.t 84]⟩,
                  ⟨(some 86), none, .bin .gtr 3 (.t 85) (.i .i64 40)⟩])
                (.cond (.t 86)
                 (.seq (.reg [⟨(some 8), none, .mv (.b true)⟩])
                  (.ret))
                 (.skip)))
               (.seq (.reg [⟨(some 15), none, .mv (.ns)⟩])
                (.seq (.seq (.reg [⟨(some 16), none, .mv (.i .i64 0)⟩])
                  (.block 4 (.loop (.seq (.seq (.reg [⟨(some 87), none, .mv (.t 16)⟩,
                        ⟨(some 88), none, .mv (.t 3)⟩,
                        ⟨(some 89), none, .mv (.t 14)⟩,
                        ⟨(some 90), none, .ia 63 (.t 88) (.t 89)⟩,
                        ⟨(some 91), none, .ld 46 (.t 90)⟩,
                        ⟨(some 92), none, .bi .len [46] [.t 91]⟩,
                        ⟨(some 93), none, .bin .lss 3 (.t 87) (.t 92)⟩])
                      (.cond (.t 93)
                       (.skip)
                       (.exit 4)))
                     (.seq (.block 5 (.reg [⟨(some 96), none, .mv (.t 15)⟩,
                         ⟨(some 97), none, .mv (.t 3)⟩,
                         ⟨(some 98), none, .mv (.t 14)⟩,
                         ⟨(some 99), none, .ia 63 (.t 97) (.t 98)⟩,
                         ⟨(some 100), none, .ld 46 (.t 99)⟩,
                         ⟨(some 101), none, .mv (.t 16)⟩,
                         ⟨(some 102), none, .ia 46 (.t 100) (.t 101)⟩,
                         ⟨(some 103), none, .ld 3 (.t 102)⟩,
                         ⟨(some 104), none, .bin .and 3 (.t 103) (.i .i64 1023)⟩,
                         ⟨(some 105), none, .mv (.t 0)⟩,
                         ⟨(some 106), none, .bin .rem 3 (.t 104) (.t 105)⟩,
                         ⟨(some 107), none, .bin .add 3 (.i .i64 1) (.t 106)⟩,
                         ⟨(some 108), none, .bsl 46 1 [(0, .t 107)]⟩,
                         ⟨(some 109), none, .bi .append [46, 46] [.t 96, .t 108]⟩,
                         ⟨(some 15), none, .mv (.t 109)⟩]))
                      (.reg [⟨(some 94), none, .mv (.t 16)⟩,
                        ⟨(some 95), none, .bin .add 3 (.t 94) (.i .i64 1)⟩,
                        ⟨(some 16), none, .mv (.t 95)⟩]))))))
                 (.seq (.reg [⟨(some 111), none, .mv (.t 12)⟩,
                    ⟨(some 112), none, .mv (.t 15)⟩,
                    ⟨(some 113), none, .mv (.t 2)⟩,
                    ⟨(some 114), none, .call (.fn 43) [.t 111, .t 112, .t 113]⟩,
                    ⟨(some 110), none, .mv (.t 114)⟩,
                    ⟨(some 115), none, .ex (.t 110) 0⟩,
                    ⟨(some 116), none, .ex (.t 110) 1⟩,
                    ⟨(some 17), none, .mv (.t 115)⟩,
                    ⟨(some 18), none, .mv (.t 116)⟩])
                  (.seq (.reg [⟨(some 117), none, .mv (.t 18)⟩,
                     ⟨(some 118), none, .call (.fn 42) [.t 117]⟩,
                     ⟨(some 119), none, .bin .neq 3 (.t 118) (.i .i64 0)⟩,
                     ⟨(some 120), none, .mv (.t 119)⟩,
                     ⟨(some 121), (some (120, false)), .mv (.t 17)⟩,
                     ⟨(some 122), (some (120, false)), .mv (.t 15)⟩,
                     ⟨(some 123), (some (120, false)), .bi .len [46] [.t 122]⟩,
                     ⟨(some 124), (some (120, false)), .bin .mul 3 (.i .i64 3) (.t 123)⟩,
                     ⟨(some 125), (some (120, false)), .mv (.t 2)⟩,
                     ⟨(some 126), (some (120, false)), .bin .add 3 (.t 124) (.t 125)⟩,
                     ⟨(some 127), (some (120, false)), .bin .gtr 3 (.t 121) (.t 126)⟩,
                     ⟨(some 128), none, .pk (.t 120) (.b true) (.t 127)⟩,
                     ⟨(some 129), none, .mv (.t 128)⟩,
                     ⟨(some 130), (some (129, false)), .mv (.t 17)⟩,
                     ⟨(some 131), (some (129, false)), .bin .lss 3 (.t 130) (.i .i64 0)⟩,
                     ⟨(some 132), none, .pk (.t 129) (.b true) (.t 131)⟩,
                     ⟨(some 133), none, .mv (.t 132)⟩,
                     ⟨(some 134), (some (133, false)), .mv (.t 12)⟩,
                     ⟨(some 135), (some (133, false)), .call (.fn 44) [.t 134]⟩,
                     ⟨(some 136), (some (133, false)), .bin .neq 3 (.t 135) (.i .i64 0)⟩,
                     ⟨(some 137), none, .pk (.t 133) (.b true) (.t 136)⟩,
                     ⟨(some 138), none, .mv (.t 137)⟩,
                     ⟨(some 139), (some (138, false)), .mv (.t 15)⟩,
                     ⟨(some 140), (some (138, false)), .bi .len [46] [.t 139]⟩,
                     ⟨(some 141), (some (138, false)), .bin .gtr 3 (.t 140) (.i .i64 0)⟩,
                     ⟨(some 142), (some (138, false)), .mv (.t 141)⟩,
                     ⟨(some 143), (some (142, true)), .mv (.t 17)⟩,
                     ⟨(some 144), (some (142, true)), .bin .eql 3 (.t 143) (.i .i64 0)⟩,
                     ⟨(some 145), (some (138, false)), .pk (.t 142) (.t 144) (.b false)⟩,
                     ⟨(some 146), none, .pk (.t 138) (.b true) (.t 145)⟩])
                   (.cond (.t 146)
                    (.seq (.reg [⟨(some 8), none, .mv (.b false)⟩])
                     (.ret))
                    (.skip))))))))
             (.reg [⟨(some 79), none, .mv (.t 14)⟩,
               ⟨(some 80), none, .bin .add 3 (.t 79) (.i .i64 1)⟩,
               ⟨(some 14), none, .mv (.t 80)⟩]))))))
        (.seq (.reg [⟨(some 8), none, .mv (.b true)⟩])
         (.ret)))))))))
theorem b10 : Body Try.prog 10 147 [8] k10 := ⟨Enters.of Try.func10 (by kernel_rfl) (by kernel_rfl), _, _, Try.func10, rfl, by kernel_rfl, rfl, rfl⟩

/-- cartridge/cartridgelaw24.RobotPlays -/
noncomputable def drw11_0 : Array Oper := ((Try.f11.body.map regs).getD []).getD 0 #[]
noncomputable def drw11_1 : Array Oper := ((Try.f11.body.map regs).getD []).getD 1 #[]
noncomputable def drw11_2 : Array Oper := ((Try.f11.body.map regs).getD []).getD 2 #[]
noncomputable def drw11_3 : Array Oper := ((Try.f11.body.map regs).getD []).getD 3 #[]
noncomputable def k11 : KC :=
 .seq (.reg [⟨(some 6), none, .mv (.b false)⟩])
 (.seq (.reg [⟨(some 19), none, .call (.fn 40) []⟩,
    ⟨(some 7), none, .mv (.t 19)⟩])
  (.seq (.seq (.reg [⟨(some 20), none, .mv (.t 7)⟩,
      ⟨(some 21), none, .un .not (.t 20)⟩,
      ⟨(some 22), none, .mv (.t 21)⟩,
      ⟨(some 23), (some (22, false)), .mv (.t 0)⟩,
      ⟨(some 24), (some (22, false)), .bi .len [46] [.t 23]⟩,
      ⟨(some 25), (some (22, false)), .bin .gtr 3 (.t 24) (.i .i64 40)⟩,
      ⟨(some 26), none, .pk (.t 22) (.b true) (.t 25)⟩,
      ⟨(some 27), none, .mv (.t 26)⟩,
      ⟨(some 28), (some (27, false)), .mv (.t 2)⟩,
      ⟨(some 29), (some (27, false)), .bi .len [71] [.t 28]⟩,
      ⟨(some 30), (some (27, false)), .bin .gtr 3 (.t 29) (.i .i64 60)⟩,
      ⟨(some 31), none, .pk (.t 27) (.b true) (.t 30)⟩])
    (.cond (.t 31)
     (.seq (.reg [⟨(some 32), none, .mv (.t 7)⟩,
        ⟨(some 6), none, .mv (.t 32)⟩])
      (.ret))
     (.skip)))
   (.seq (.reg [⟨(some 34), none, .mv (.t 0)⟩,
      ⟨(some 35), none, .bi .append [46, 46] [.ns, .t 34]⟩,
      ⟨(some 36), none, .mv (.t 1)⟩,
      ⟨(some 37), none, .call (.fn 41) [.t 35, .t 36]⟩,
      ⟨(some 33), none, .mv (.t 37)⟩,
      ⟨(some 38), none, .ex (.t 33) 0⟩,
      ⟨(some 39), none, .ex (.t 33) 1⟩,
      ⟨(some 8), none, .mv (.t 38)⟩,
      ⟨(some 9), none, .mv (.t 39)⟩])
    (.seq (.reg [⟨(some 41), none, .mv (.t 0)⟩,
       ⟨(some 42), none, .mv (.t 1)⟩,
       ⟨(some 43), none, .call (.fn 45) [.t 41, .t 42]⟩,
       ⟨(some 40), none, .mv (.t 43)⟩,
       ⟨(some 44), none, .ex (.t 40) 0⟩,
       ⟨(some 45), none, .ex (.t 40) 1⟩,
       ⟨(some 10), none, .mv (.t 44)⟩,
       ⟨(some 11), none, .mv (.t 45)⟩])
     (.seq (.seq (.reg [⟨(some 46), none, .mv (.t 9)⟩,
         ⟨(some 47), none, .call (.fn 42) [.t 46]⟩,
         ⟨(some 48), none, .mv (.t 11)⟩,
         ⟨(some 49), none, .bin .neq 3 (.t 47) (.t 48)⟩,
         ⟨(some 50), none, .mv (.t 49)⟩,
         ⟨(some 51), (some (50, false)), .mv (.t 8)⟩,
         ⟨(some 52), (some (50, false)), .bin .eql 64 (.t 51) (.np)⟩,
         ⟨(some 53), (some (50, false)), .mv (.t 11)⟩,
         ⟨(some 54), (some (50, false)), .bin .neq 3 (.t 53) (.i .i64 0)⟩,
         ⟨(some 55), (some (50, false)), .bin .neq 4 (.t 52) (.t 54)⟩,
         ⟨(some 56), none, .pk (.t 50) (.b true) (.t 55)⟩])
       (.cond (.t 56)
        (.seq (.reg [⟨(some 6), none, .mv (.b false)⟩])
         (.ret))
        (.skip)))
      (.seq (.seq (.reg [⟨(some 57), none, .mv (.t 11)⟩,
          ⟨(some 58), none, .bin .neq 3 (.t 57) (.i .i64 0)⟩])
        (.cond (.t 58)
         (.seq (.reg [⟨(some 6), none, .mv (.b true)⟩])
          (.ret))
         (.skip)))
       (.seq (.seq (.reg [⟨(some 12), none, .mv (.i .i64 0)⟩])
         (.block 0 (.loop (.seq (.seq (.reg [⟨(some 59), none, .mv (.t 12)⟩,
               ⟨(some 60), none, .mv (.t 2)⟩,
               ⟨(some 61), none, .bi .len [71] [.t 60]⟩,
               ⟨(some 62), none, .bin .lss 3 (.t 59) (.t 61)⟩])
             (.cond (.t 62)
              (.skip)
              (.exit 0)))
            (.seq (.block 1 (.seq (.reg [⟨(some 65), none, .mv (.t 2)⟩,
                 ⟨(some 66), none, .mv (.t 12)⟩,
                 ⟨(some 67), none, .ia 71 (.t 65) (.t 66)⟩,
                 ⟨(some 68), none, .ld 76 (.t 67)⟩,
                 ⟨(some 13), none, .al 76⟩,
                 ⟨none, none, .st 76 (.t 13) (.t 68)⟩])
               (.seq (.seq (.reg [⟨(some 69), none, .fa 76 (.t 13) 3⟩,
                   ⟨(some 70), none, .ld 46 (.t 69)⟩,
                   ⟨(some 71), none, .bi .len [46] [.t 70]⟩,
                   ⟨(some 72), none, .bin .gtr 3 (.t 71) (.i .i64 40)⟩])
                 (.cond (.t 72)
                  (.seq (.reg [⟨(some 6), none, .mv (.b true)⟩])
                   (.ret))
                  (.skip)))
                (.seq (.seq (.reg [⟨(some 73), none, .fa 76 (.t 13) 0⟩,
                    ⟨(some 74), none, .ld 3 (.t 73)⟩])
                  (.block 2 (.seq (.reg [⟨(some 76), none, .bin .eql 3 (.t 74) (.i .i64 0)⟩,
                      ⟨(some 75), none, .mv (.t 76)⟩])
                    (.cond (.t 75)
                     (.seq (.drw drw11_0 [⟨(some 77), none, .mv (.t 8)⟩,
                        ⟨(some 78), none, .fa 76 (.t 13) 1⟩,
                        ⟨(some 79), none, .ld 3 (.t 78)⟩,
                        ⟨(some 80), none, .call (.fn 46) [.t 77, .t 79]⟩,
                        ⟨(some 81), none, .call (.fn 42) [.t 80]⟩,
                        ⟨(some 82), none, .mv (.t 10)⟩,
                        ⟨(some 83), none, .fa 76 (.t 13) 1⟩,
                        ⟨(some 84), none, .ld 3 (.t 83)⟩,
                        ⟨(some 85), none, .call (.fn 47) [.t 82, .t 84]⟩,
                        ⟨(some 86), none, .bin .neq 3 (.t 81) (.t 85)⟩])
                      (.cond (.t 86)
                       (.seq (.reg [⟨(some 6), none, .mv (.b false)⟩])
                        (.ret))
                       (.skip)))
                     (.seq (.reg [⟨(some 88), none, .bin .eql 3 (.t 74) (.i .i64 1)⟩,
                        ⟨(some 87), none, .mv (.t 88)⟩])
                      (.cond (.t 87)
                       (.seq (.drw drw11_1 [⟨(some 89), none, .mv (.t 8)⟩,
                          ⟨(some 90), none, .fa 76 (.t 13) 2⟩,
                          ⟨(some 91), none, .ld 4 (.t 90)⟩,
                          ⟨(some 92), none, .call (.fn 48) [.t 89, .t 91]⟩,
                          ⟨(some 93), none, .mv (.t 10)⟩,
                          ⟨(some 94), none, .fa 76 (.t 13) 2⟩,
                          ⟨(some 95), none, .ld 4 (.t 94)⟩,
                          ⟨(some 96), none, .call (.fn 49) [.t 93, .t 95]⟩,
                          ⟨(some 97), none, .bin .neq 4 (.t 92) (.t 96)⟩])
                        (.cond (.t 97)
                         (.seq (.reg [⟨(some 6), none, .mv (.b false)⟩])
                          (.ret))
                         (.skip)))
                       (.seq (.reg [⟨(some 99), none, .bin .eql 3 (.t 74) (.i .i64 2)⟩,
                          ⟨(some 98), none, .mv (.t 99)⟩])
                        (.cond (.t 98)
                         (.seq (.drw drw11_2 [⟨(some 101), none, .mv (.t 8)⟩,
                            ⟨(some 102), none, .fa 76 (.t 13) 3⟩,
                            ⟨(some 103), none, .ld 46 (.t 102)⟩,
                            ⟨(some 104), none, .bi .append [46, 46] [.ns, .t 103]⟩,
                            ⟨(some 105), none, .fa 76 (.t 13) 1⟩,
                            ⟨(some 106), none, .ld 3 (.t 105)⟩,
                            ⟨(some 107), none, .call (.fn 43) [.t 101, .t 104, .t 106]⟩,
                            ⟨(some 100), none, .mv (.t 107)⟩,
                            ⟨(some 108), none, .ex (.t 100) 0⟩,
                            ⟨(some 109), none, .ex (.t 100) 1⟩,
                            ⟨(some 14), none, .mv (.t 108)⟩,
                            ⟨(some 15), none, .mv (.t 109)⟩])
                          (.seq (.reg [⟨(some 111), none, .mv (.t 10)⟩,
                             ⟨(some 112), none, .fa 76 (.t 13) 3⟩,
                             ⟨(some 113), none, .ld 46 (.t 112)⟩,
                             ⟨(some 114), none, .fa 76 (.t 13) 1⟩,
                             ⟨(some 115), none, .ld 3 (.t 114)⟩,
                             ⟨(some 116), none, .call (.fn 50) [.t 111, .t 113, .t 115]⟩,
                             ⟨(some 110), none, .mv (.t 116)⟩,
                             ⟨(some 117), none, .ex (.t 110) 0⟩,
                             ⟨(some 118), none, .ex (.t 110) 1⟩,
                             ⟨(some 16), none, .mv (.t 117)⟩,
                             ⟨(some 17), none, .mv (.t 118)⟩])
                           (.seq (.reg [⟨(some 119), none, .mv (.t 14)⟩,
                              ⟨(some 120), none, .mv (.t 16)⟩,
                              ⟨(some 121), none, .bin .neq 3 (.t 119) (.t 120)⟩,
                              ⟨(some 122), none, .mv (.t 121)⟩,
                              ⟨(some 123), (some (122, false)), .mv (.t 15)⟩,
                              ⟨(some 124), (some (122, false)), .call (.fn 42) [.t 123]⟩,
                              ⟨(some 125), (some (122, false)), .mv (.t 17)⟩,
                              ⟨(some 126), (some (122, false)), .bin .neq 3 (.t 124) (.t 125)⟩,
                              ⟨(some 127), none, .pk (.t 122) (.b true) (.t 126)⟩])
                            (.cond (.t 127)
                             (.seq (.reg [⟨(some 6), none, .mv (.b false)⟩])
                              (.ret))
                             (.skip)))))
                         (.skip)))))))))
                 (.seq (.seq (.reg [⟨(some 128), none, .mv (.t 8)⟩,
                     ⟨(some 129), none, .call (.fn 44) [.t 128]⟩,
                     ⟨(some 130), none, .mv (.t 10)⟩,
                     ⟨(some 131), none, .call (.fn 51) [.t 130]⟩,
                     ⟨(some 132), none, .bin .neq 3 (.t 129) (.t 131)⟩])
                   (.cond (.t 132)
                    (.seq (.reg [⟨(some 6), none, .mv (.b false)⟩])
                     (.ret))
                    (.skip)))
                  (.seq (.reg [⟨(some 18), none, .mv (.i .i64 (-1))⟩])
                   (.block 3 (.loop (.seq (.seq (.reg [⟨(some 133), none, .mv (.t 18)⟩,
                         ⟨(some 134), none, .mv (.t 1)⟩,
                         ⟨(some 135), none, .bin .leq 3 (.t 133) (.t 134)⟩])
                       (.cond (.t 135)
                        (.skip)
                        (.exit 3)))
                      (.seq (.block 4 (.seq (.drw drw11_3 [⟨(some 138), none, .mv (.t 8)⟩,
                           ⟨(some 139), none, .mv (.t 18)⟩,
                           ⟨(some 140), none, .call (.fn 52) [.t 138, .t 139]⟩,
                           ⟨(some 141), none, .mv (.t 10)⟩,
                           ⟨(some 142), none, .nc (.t 141)⟩,
                           ⟨(some 143), none, .fa 84 (.t 142) 0⟩,
                           ⟨(some 144), none, .ld 82 (.t 143)⟩,
                           ⟨(some 145), none, .mv (.t 18)⟩,
                           ⟨(some 146), none, .call (.fn 53) [.t 144, .t 145]⟩,
                           ⟨(some 147), none, .bin .neq 3 (.t 140) (.t 146)⟩])
                         (.cond (.t 147)
                          (.seq (.reg [⟨(some 6), none, .mv (.b false)⟩])
                           (.ret))
                          (.skip))))
                       (.reg [⟨(some 136), none, .mv (.t 18)⟩,
                         ⟨(some 137), none, .bin .add 3 (.t 136) (.i .i64 1)⟩,
                         ⟨(some 18), none, .mv (.t 137)⟩])))))))))))
             (.reg [⟨(some 63), none, .mv (.t 12)⟩,
               ⟨(some 64), none, .bin .add 3 (.t 63) (.i .i64 1)⟩,
               ⟨(some 12), none, .mv (.t 64)⟩]))))))
        (.seq (.reg [⟨(some 6), none, .mv (.b true)⟩])
         (.ret)))))))))
theorem b11 : Body Try.prog 11 148 [6] k11 := ⟨Enters.of Try.func11 (by kernel_rfl) (by kernel_rfl), _, _, Try.func11, rfl, by kernel_rfl, rfl, rfl⟩

/-- cartridge/cartridgelaw3.ErasureTells -/
def k12 : KC :=
 .seq (.reg [⟨(some 6), none, .mv (.b false)⟩])
 (.seq (.reg [⟨(some 16), none, .call (.fn 54) []⟩,
    ⟨(some 7), none, .mv (.t 16)⟩])
  (.seq (.seq (.reg [⟨(some 17), none, .mv (.t 7)⟩,
      ⟨(some 18), none, .un .not (.t 17)⟩,
      ⟨(some 19), none, .mv (.t 18)⟩,
      ⟨(some 20), (some (19, false)), .mv (.t 0)⟩,
      ⟨(some 21), (some (19, false)), .call (.fn 15) [.t 20]⟩,
      ⟨(some 22), (some (19, false)), .un .not (.t 21)⟩,
      ⟨(some 23), none, .pk (.t 19) (.b true) (.t 22)⟩,
      ⟨(some 24), none, .mv (.t 23)⟩,
      ⟨(some 25), (some (24, false)), .mv (.t 0)⟩,
      ⟨(some 26), (some (24, false)), .bi .len [22] [.t 25]⟩,
      ⟨(some 27), (some (24, false)), .bin .gtr 3 (.t 26) (.i .i64 30)⟩,
      ⟨(some 28), none, .pk (.t 24) (.b true) (.t 27)⟩,
      ⟨(some 29), none, .mv (.t 28)⟩,
      ⟨(some 30), (some (29, false)), .mv (.t 1)⟩,
      ⟨(some 31), (some (29, false)), .bin .gtr 3 (.t 30) (.i .i64 20)⟩,
      ⟨(some 32), none, .pk (.t 29) (.b true) (.t 31)⟩])
    (.cond (.t 32)
     (.seq (.reg [⟨(some 33), none, .mv (.t 7)⟩,
        ⟨(some 6), none, .mv (.t 33)⟩])
      (.ret))
     (.skip)))
   (.seq (.reg [⟨(some 35), none, .mv (.t 0)⟩,
      ⟨(some 36), none, .mv (.t 1)⟩,
      ⟨(some 37), none, .call (.fn 55) [.t 35, .t 36]⟩,
      ⟨(some 34), none, .mv (.t 37)⟩,
      ⟨(some 38), none, .ex (.t 34) 0⟩,
      ⟨(some 39), none, .ex (.t 34) 1⟩,
      ⟨(some 8), none, .mv (.t 38)⟩,
      ⟨(some 9), none, .mv (.t 39)⟩])
    (.seq (.reg [⟨(some 41), none, .mv (.t 0)⟩,
       ⟨(some 42), none, .mv (.t 1)⟩,
       ⟨(some 43), none, .call (.fn 56) [.t 41, .t 42]⟩,
       ⟨(some 40), none, .mv (.t 43)⟩,
       ⟨(some 44), none, .ex (.t 40) 0⟩,
       ⟨(some 45), none, .ex (.t 40) 1⟩,
       ⟨(some 10), none, .mv (.t 44)⟩,
       ⟨(some 11), none, .mv (.t 45)⟩])
     (.seq (.reg [⟨(some 47), none, .mv (.t 0)⟩,
        ⟨(some 48), none, .mv (.t 2)⟩,
        ⟨(some 49), none, .call (.fn 57) [.t 47, .t 48]⟩,
        ⟨(some 46), none, .mv (.t 49)⟩,
        ⟨(some 50), none, .ex (.t 46) 0⟩,
        ⟨(some 51), none, .ex (.t 46) 1⟩,
        ⟨(some 12), none, .mv (.t 50)⟩,
        ⟨(some 13), none, .mv (.t 51)⟩])
      (.seq (.reg [⟨(some 53), none, .mv (.t 0)⟩,
         ⟨(some 54), none, .mv (.t 2)⟩,
         ⟨(some 55), none, .call (.fn 31) [.t 53, .t 54]⟩,
         ⟨(some 52), none, .mv (.t 55)⟩,
         ⟨(some 56), none, .ex (.t 52) 0⟩,
         ⟨(some 57), none, .ex (.t 52) 1⟩,
         ⟨(some 14), none, .mv (.t 56)⟩,
         ⟨(some 15), none, .mv (.t 57)⟩])
       (.seq (.reg [⟨(some 58), none, .mv (.t 8)⟩,
          ⟨(some 59), none, .mv (.t 10)⟩,
          ⟨(some 60), none, .call (.fn 28) [.t 58, .t 59]⟩,
          ⟨(some 61), none, .mv (.t 60)⟩,
          ⟨(some 62), (some (61, true)), .mv (.t 9)⟩,
          ⟨(some 63), (some (61, true)), .call (.fn 58) [.t 62]⟩,
          ⟨(some 64), (some (61, true)), .mv (.t 11)⟩,
          ⟨(some 65), (some (61, true)), .bin .eql 3 (.t 63) (.t 64)⟩,
          ⟨(some 66), none, .pk (.t 61) (.t 65) (.b false)⟩,
          ⟨(some 67), none, .mv (.t 66)⟩,
          ⟨(some 68), (some (67, true)), .mv (.t 12)⟩,
          ⟨(some 69), (some (67, true)), .mv (.t 14)⟩,
          ⟨(some 70), (some (67, true)), .call (.fn 28) [.t 68, .t 69]⟩,
          ⟨(some 71), none, .pk (.t 67) (.t 70) (.b false)⟩,
          ⟨(some 72), none, .mv (.t 71)⟩,
          ⟨(some 73), (some (72, true)), .mv (.t 13)⟩,
          ⟨(some 74), (some (72, true)), .call (.fn 58) [.t 73]⟩,
          ⟨(some 75), (some (72, true)), .mv (.t 15)⟩,
          ⟨(some 76), (some (72, true)), .bin .eql 3 (.t 74) (.t 75)⟩,
          ⟨(some 77), none, .pk (.t 72) (.t 76) (.b false)⟩,
          ⟨(some 6), none, .mv (.t 77)⟩])
        (.ret))))))))
theorem b12 : Body Try.prog 12 78 [6] k12 := ⟨Enters.of Try.func12 (by kernel_rfl) (by kernel_rfl), _, _, Try.func12, rfl, by kernel_rfl, rfl, rfl⟩

/-- cartridge/cartridgelaw3.ErasureBack -/
def k13 : KC :=
 .seq (.reg [⟨(some 6), none, .mv (.b false)⟩])
 (.seq (.reg [⟨(some 16), none, .call (.fn 54) []⟩,
    ⟨(some 7), none, .mv (.t 16)⟩])
  (.seq (.seq (.reg [⟨(some 17), none, .mv (.t 7)⟩,
      ⟨(some 18), none, .un .not (.t 17)⟩,
      ⟨(some 19), none, .mv (.t 18)⟩,
      ⟨(some 20), (some (19, false)), .mv (.t 0)⟩,
      ⟨(some 21), (some (19, false)), .call (.fn 15) [.t 20]⟩,
      ⟨(some 22), (some (19, false)), .un .not (.t 21)⟩,
      ⟨(some 23), none, .pk (.t 19) (.b true) (.t 22)⟩,
      ⟨(some 24), none, .mv (.t 23)⟩,
      ⟨(some 25), (some (24, false)), .mv (.t 0)⟩,
      ⟨(some 26), (some (24, false)), .bi .len [22] [.t 25]⟩,
      ⟨(some 27), (some (24, false)), .bin .lss 3 (.t 26) (.i .i64 1)⟩,
      ⟨(some 28), none, .pk (.t 24) (.b true) (.t 27)⟩,
      ⟨(some 29), none, .mv (.t 28)⟩,
      ⟨(some 30), (some (29, false)), .mv (.t 0)⟩,
      ⟨(some 31), (some (29, false)), .bi .len [22] [.t 30]⟩,
      ⟨(some 32), (some (29, false)), .bin .gtr 3 (.t 31) (.i .i64 20)⟩,
      ⟨(some 33), none, .pk (.t 29) (.b true) (.t 32)⟩,
      ⟨(some 34), none, .mv (.t 33)⟩,
      ⟨(some 35), (some (34, false)), .mv (.t 1)⟩,
      ⟨(some 36), (some (34, false)), .bin .lss 3 (.t 35) (.i .i64 0)⟩,
      ⟨(some 37), none, .pk (.t 34) (.b true) (.t 36)⟩,
      ⟨(some 38), none, .mv (.t 37)⟩,
      ⟨(some 39), (some (38, false)), .mv (.t 1)⟩,
      ⟨(some 40), (some (38, false)), .bin .gtr 3 (.t 39) (.i .i64 12)⟩,
      ⟨(some 41), none, .pk (.t 38) (.b true) (.t 40)⟩,
      ⟨(some 42), none, .mv (.t 41)⟩,
      ⟨(some 43), (some (42, false)), .mv (.t 2)⟩,
      ⟨(some 44), (some (42, false)), .bi .len [46] [.t 43]⟩,
      ⟨(some 45), (some (42, false)), .bin .gtr 3 (.t 44) (.i .i64 40)⟩,
      ⟨(some 46), none, .pk (.t 42) (.b true) (.t 45)⟩,
      ⟨(some 47), none, .mv (.t 46)⟩,
      ⟨(some 48), (some (47, false)), .mv (.t 0)⟩,
      ⟨(some 49), (some (47, false)), .ia 22 (.t 48) (.i .i64 0)⟩,
      ⟨(some 50), (some (47, false)), .ld 23 (.t 49)⟩,
      ⟨(some 51), (some (47, false)), .bi .len [23] [.t 50]⟩,
      ⟨(some 52), (some (47, false)), .bin .eql 3 (.t 51) (.i .i64 0)⟩,
      ⟨(some 53), none, .pk (.t 47) (.b true) (.t 52)⟩])
    (.cond (.t 53)
     (.seq (.reg [⟨(some 54), none, .mv (.t 7)⟩,
        ⟨(some 6), none, .mv (.t 54)⟩])
      (.ret))
     (.skip)))
   (.seq (.reg [⟨(some 56), none, .mv (.t 0)⟩,
      ⟨(some 57), none, .mv (.t 1)⟩,
      ⟨(some 58), none, .call (.fn 55) [.t 56, .t 57]⟩,
      ⟨(some 55), none, .mv (.t 58)⟩,
      ⟨(some 59), none, .ex (.t 55) 0⟩,
      ⟨(some 60), none, .ex (.t 55) 1⟩,
      ⟨(some 8), none, .mv (.t 59)⟩,
      ⟨(some 9), none, .mv (.t 60)⟩])
    (.seq (.seq (.reg [⟨(some 61), none, .mv (.t 9)⟩,
        ⟨(some 62), none, .call (.fn 58) [.t 61]⟩,
        ⟨(some 63), none, .bin .neq 3 (.t 62) (.i .i64 0)⟩])
      (.cond (.t 63)
       (.seq (.reg [⟨(some 64), none, .mv (.t 9)⟩,
          ⟨(some 65), none, .call (.fn 58) [.t 64]⟩,
          ⟨(some 66), none, .bin .eql 3 (.t 65) (.i .i64 1)⟩,
          ⟨(some 6), none, .mv (.t 66)⟩])
        (.ret))
       (.skip)))
     (.seq (.seq (.reg [⟨(some 67), none, .mv (.t 8)⟩,
         ⟨(some 68), none, .bi .len [22] [.t 67]⟩,
         ⟨(some 69), none, .mv (.t 1)⟩,
         ⟨(some 70), none, .bin .neq 3 (.t 68) (.t 69)⟩])
       (.cond (.t 70)
        (.seq (.reg [⟨(some 6), none, .mv (.b false)⟩])
         (.ret))
        (.skip)))
      (.seq (.reg [⟨(some 71), none, .mv (.t 0)⟩,
         ⟨(some 72), none, .bi .append [22, 22] [.ns, .t 71]⟩,
         ⟨(some 73), none, .mv (.t 8)⟩,
         ⟨(some 74), none, .bi .append [22, 22] [.t 72, .t 73]⟩,
         ⟨(some 10), none, .mv (.t 74)⟩])
       (.seq (.reg [⟨(some 11), none, .mv (.i .i64 0)⟩])
        (.seq (.seq (.reg [⟨(some 12), none, .mv (.i .i64 0)⟩])
          (.block 0 (.loop (.seq (.seq (.reg [⟨(some 75), none, .mv (.t 12)⟩,
                ⟨(some 76), none, .mv (.t 2)⟩,
                ⟨(some 77), none, .bi .len [46] [.t 76]⟩,
                ⟨(some 78), none, .bin .lss 3 (.t 75) (.t 77)⟩])
              (.cond (.t 78)
               (.skip)
               (.exit 0)))
             (.seq (.block 1 (.seq (.reg [⟨(some 81), none, .mv (.t 2)⟩,
                  ⟨(some 82), none, .mv (.t 12)⟩,
                  ⟨(some 83), none, .ia 46 (.t 81) (.t 82)⟩,
                  ⟨(some 84), none, .ld 3 (.t 83)⟩,
                  ⟨(some 85), none, .bin .and 3 (.t 84) (.i .i64 1023)⟩,
                  ⟨(some 86), none, .mv (.t 10)⟩,
                  ⟨(some 87), none, .bi .len [22] [.t 86]⟩,
                  ⟨(some 88), none, .bin .rem 3 (.t 85) (.t 87)⟩,
                  ⟨(some 13), none, .mv (.t 88)⟩])
                (.seq (.seq (.reg [⟨(some 89), none, .mv (.t 10)⟩,
                    ⟨(some 90), none, .mv (.t 13)⟩,
                    ⟨(some 91), none, .ia 22 (.t 89) (.t 90)⟩,
                    ⟨(some 92), none, .ld 23 (.t 91)⟩,
                    ⟨(some 93), none, .bi .len [23] [.t 92]⟩,
                    ⟨(some 94), none, .bin .gtr 3 (.t 93) (.i .i64 0)⟩])
                  (.cond (.t 94)
                   (.reg [⟨(some 95), none, .mv (.t 11)⟩,
                     ⟨(some 96), none, .bin .add 3 (.t 95) (.i .i64 1)⟩,
                     ⟨(some 11), none, .mv (.t 96)⟩])
                   (.skip)))
                 (.reg [⟨(some 97), none, .mv (.t 10)⟩,
                   ⟨(some 98), none, .mv (.t 13)⟩,
                   ⟨(some 99), none, .ia 22 (.t 97) (.t 98)⟩,
                   ⟨none, none, .st 23 (.t 99) (.ns)⟩]))))
              (.reg [⟨(some 79), none, .mv (.t 12)⟩,
                ⟨(some 80), none, .bin .add 3 (.t 79) (.i .i64 1)⟩,
                ⟨(some 12), none, .mv (.t 80)⟩]))))))
         (.seq (.reg [⟨(some 101), none, .mv (.t 10)⟩,
            ⟨(some 102), none, .mv (.t 0)⟩,
            ⟨(some 103), none, .bi .len [22] [.t 102]⟩,
            ⟨(some 104), none, .call (.fn 57) [.t 101, .t 103]⟩,
            ⟨(some 100), none, .mv (.t 104)⟩,
            ⟨(some 105), none, .ex (.t 100) 0⟩,
            ⟨(some 106), none, .ex (.t 100) 1⟩,
            ⟨(some 14), none, .mv (.t 105)⟩,
            ⟨(some 15), none, .mv (.t 106)⟩])
          (.seq (.block 2 (.seq (.reg [⟨(some 108), none, .mv (.t 11)⟩,
               ⟨(some 109), none, .mv (.t 10)⟩,
               ⟨(some 110), none, .bi .len [22] [.t 109]⟩,
               ⟨(some 111), none, .bin .eql 3 (.t 108) (.t 110)⟩,
               ⟨(some 107), none, .mv (.t 111)⟩])
             (.cond (.t 107)
              (.seq (.reg [⟨(some 112), none, .mv (.t 15)⟩,
                 ⟨(some 113), none, .call (.fn 58) [.t 112]⟩,
                 ⟨(some 114), none, .bin .eql 3 (.t 113) (.i .i64 1)⟩,
                 ⟨(some 6), none, .mv (.t 114)⟩])
               (.ret))
              (.seq (.reg [⟨(some 116), none, .mv (.t 11)⟩,
                 ⟨(some 117), none, .mv (.t 1)⟩,
                 ⟨(some 118), none, .bin .gtr 3 (.t 116) (.t 117)⟩,
                 ⟨(some 115), none, .mv (.t 118)⟩])
               (.cond (.t 115)
                (.seq (.reg [⟨(some 119), none, .mv (.t 15)⟩,
                   ⟨(some 120), none, .call (.fn 58) [.t 119]⟩,
                   ⟨(some 121), none, .bin .eql 3 (.t 120) (.i .i64 10)⟩,
                   ⟨(some 122), none, .mv (.t 121)⟩,
                   ⟨(some 123), (some (122, true)), .mv (.t 14)⟩,
                   ⟨(some 124), (some (122, true)), .bi .len [22] [.t 123]⟩,
                   ⟨(some 125), (some (122, true)), .bin .eql 3 (.t 124) (.i .i64 0)⟩,
                   ⟨(some 126), none, .pk (.t 122) (.t 125) (.b false)⟩,
                   ⟨(some 6), none, .mv (.t 126)⟩])
                 (.ret))
                (.skip))))))
           (.seq (.reg [⟨(some 127), none, .mv (.t 15)⟩,
              ⟨(some 128), none, .call (.fn 58) [.t 127]⟩,
              ⟨(some 129), none, .bin .eql 3 (.t 128) (.i .i64 0)⟩,
              ⟨(some 130), none, .mv (.t 129)⟩,
              ⟨(some 131), (some (130, true)), .mv (.t 14)⟩,
              ⟨(some 132), (some (130, true)), .mv (.t 0)⟩,
              ⟨(some 133), (some (130, true)), .call (.fn 28) [.t 131, .t 132]⟩,
              ⟨(some 134), none, .pk (.t 130) (.t 133) (.b false)⟩,
              ⟨(some 6), none, .mv (.t 134)⟩])
            (.ret))))))))))))
theorem b13 : Body Try.prog 13 135 [6] k13 := ⟨Enters.of Try.func13 (by kernel_rfl) (by kernel_rfl), _, _, Try.func13, rfl, by kernel_rfl, rfl, rfl⟩

/-- cartridge/cartridgelaw2.alive -/
def k14 : KC :=
 .seq (.reg [⟨(some 0), none, .mv (.b false)⟩])
 (.seq (.reg [⟨(some 6), none, .bsl 23 1 [(0, .i .u8 1)]⟩,
    ⟨(some 7), none, .bsl 22 1 [(0, .t 6)]⟩,
    ⟨(some 8), none, .call (.fn 17) [.t 7]⟩,
    ⟨(some 5), none, .mv (.t 8)⟩,
    ⟨(some 9), none, .ex (.t 5) 0⟩,
    ⟨(some 10), none, .ex (.t 5) 1⟩,
    ⟨(some 1), none, .mv (.t 9)⟩,
    ⟨(some 2), none, .mv (.t 10)⟩])
  (.seq (.reg [⟨(some 12), none, .bsl 23 2 [(0, .i .u8 1), (1, .i .u8 1)]⟩,
     ⟨(some 13), none, .bsl 22 1 [(0, .t 12)]⟩,
     ⟨(some 14), none, .bsl 23 2 [(0, .i .u8 2), (1, .i .u8 3)]⟩,
     ⟨(some 15), none, .call (.fn 19) [.t 13, .t 14]⟩,
     ⟨(some 11), none, .mv (.t 15)⟩,
     ⟨(some 16), none, .ex (.t 11) 0⟩,
     ⟨(some 17), none, .ex (.t 11) 1⟩,
     ⟨(some 3), none, .mv (.t 16)⟩,
     ⟨(some 4), none, .mv (.t 17)⟩])
   (.seq (.reg [⟨(some 18), none, .mv (.t 2)⟩,
      ⟨(some 19), none, .call (.fn 18) [.t 18]⟩,
      ⟨(some 20), none, .bin .eql 3 (.t 19) (.i .i64 0)⟩,
      ⟨(some 21), none, .mv (.t 20)⟩,
      ⟨(some 22), (some (21, true)), .mv (.t 1)⟩,
      ⟨(some 23), (some (21, true)), .bi .len [22] [.t 22]⟩,
      ⟨(some 24), (some (21, true)), .bin .eql 3 (.t 23) (.i .i64 1)⟩,
      ⟨(some 25), none, .pk (.t 21) (.t 24) (.b false)⟩,
      ⟨(some 26), none, .mv (.t 25)⟩,
      ⟨(some 27), (some (26, true)), .mv (.t 1)⟩,
      ⟨(some 28), (some (26, true)), .ia 22 (.t 27) (.i .i64 0)⟩,
      ⟨(some 29), (some (26, true)), .ld 23 (.t 28)⟩,
      ⟨(some 30), (some (26, true)), .ia 23 (.t 29) (.i .i64 0)⟩,
      ⟨(some 31), (some (26, true)), .ld 5 (.t 30)⟩,
      ⟨(some 32), (some (26, true)), .bin .eql 5 (.t 31) (.i .u8 1)⟩,
      ⟨(some 33), none, .pk (.t 26) (.t 32) (.b false)⟩,
      ⟨(some 34), none, .mv (.t 33)⟩,
      ⟨(some 35), (some (34, true)), .mv (.t 4)⟩,
      ⟨(some 36), (some (34, true)), .call (.fn 18) [.t 35]⟩,
      ⟨(some 37), (some (34, true)), .bin .eql 3 (.t 36) (.i .i64 0)⟩,
      ⟨(some 38), none, .pk (.t 34) (.t 37) (.b false)⟩,
      ⟨(some 39), none, .mv (.t 38)⟩,
      ⟨(some 40), (some (39, true)), .mv (.t 3)⟩,
      ⟨(some 41), (some (39, true)), .bi .len [23] [.t 40]⟩,
      ⟨(some 42), (some (39, true)), .bin .eql 3 (.t 41) (.i .i64 1)⟩,
      ⟨(some 43), none, .pk (.t 39) (.t 42) (.b false)⟩,
      ⟨(some 44), none, .mv (.t 43)⟩,
      ⟨(some 45), (some (44, true)), .mv (.t 3)⟩,
      ⟨(some 46), (some (44, true)), .ia 23 (.t 45) (.i .i64 0)⟩,
      ⟨(some 47), (some (44, true)), .ld 5 (.t 46)⟩,
      ⟨(some 48), (some (44, true)), .bin .eql 5 (.t 47) (.i .u8 1)⟩,
      ⟨(some 49), none, .pk (.t 44) (.t 48) (.b false)⟩,
      ⟨(some 50), none, .mv (.t 49)⟩,
      ⟨(some 51), (some (50, true)), .mv (.t 1)⟩,
      ⟨(some 52), (some (50, true)), .call (.fn 36) [.t 51]⟩,
      ⟨(some 53), none, .pk (.t 50) (.t 52) (.b false)⟩,
      ⟨(some 0), none, .mv (.t 53)⟩])
    (.ret))))
theorem b14 : Body Try.prog 14 54 [0] k14 := ⟨Enters.of Try.func14 (by kernel_rfl) (by kernel_rfl), _, _, Try.func14, rfl, by kernel_rfl, rfl, rfl⟩

/-- cartridge/cartridgelaw2.Few -/
def k15 : KC :=
 .seq (.reg [⟨(some 2), none, .mv (.b false)⟩])
 (.seq (.reg [⟨(some 3), none, .mv (.i .i64 0)⟩])
  (.seq (.seq (.reg [⟨(some 4), none, .mv (.i .i64 0)⟩])
    (.block 0 (.loop (.seq (.seq (.reg [⟨(some 5), none, .mv (.t 4)⟩,
          ⟨(some 6), none, .mv (.t 0)⟩,
          ⟨(some 7), none, .bi .len [22] [.t 6]⟩,
          ⟨(some 8), none, .bin .lss 3 (.t 5) (.t 7)⟩,
          ⟨(some 9), none, .mv (.t 8)⟩,
          ⟨(some 10), (some (9, true)), .mv (.t 3)⟩,
          ⟨(some 11), (some (9, true)), .bin .leq 3 (.t 10) (.i .i64 2000)⟩,
          ⟨(some 12), none, .pk (.t 9) (.t 11) (.b false)⟩])
        (.cond (.t 12)
         (.skip)
         (.exit 0)))
       (.seq (.block 1 (.reg [⟨(some 15), none, .mv (.t 3)⟩,
           ⟨(some 16), none, .bin .add 3 (.t 15) (.i .i64 1)⟩,
           ⟨(some 17), none, .mv (.t 0)⟩,
           ⟨(some 18), none, .mv (.t 4)⟩,
           ⟨(some 19), none, .ia 22 (.t 17) (.t 18)⟩,
           ⟨(some 20), none, .ld 23 (.t 19)⟩,
           ⟨(some 21), none, .bi .len [23] [.t 20]⟩,
           ⟨(some 22), none, .bin .add 3 (.t 16) (.t 21)⟩,
           ⟨(some 3), none, .mv (.t 22)⟩]))
        (.reg [⟨(some 13), none, .mv (.t 4)⟩,
          ⟨(some 14), none, .bin .add 3 (.t 13) (.i .i64 1)⟩,
          ⟨(some 4), none, .mv (.t 14)⟩]))))))
   (.seq (.reg [⟨(some 23), none, .mv (.t 3)⟩,
      ⟨(some 24), none, .bin .leq 3 (.t 23) (.i .i64 2000)⟩,
      ⟨(some 2), none, .mv (.t 24)⟩])
    (.ret))))
theorem b15 : Body Try.prog 15 25 [2] k15 := ⟨Enters.of Try.func15 (by kernel_rfl) (by kernel_rfl), _, _, Try.func15, rfl, by kernel_rfl, rfl, rfl⟩

/-- cartridge/cartridgeref1.RightMatrix -/
noncomputable def drw16_0 : Array Oper := ((Try.f16.body.map regs).getD []).getD 0 #[]
noncomputable def k16 : KC :=
 .seq (.reg [⟨(some 2), none, .mv (.b false)⟩])
 (.seq (.seq (.reg [⟨(some 4), none, .mv (.t 0)⟩,
     ⟨(some 5), none, .bi .len [22] [.t 4]⟩,
     ⟨(some 6), none, .bin .lss 3 (.t 5) (.i .i64 1)⟩,
     ⟨(some 7), none, .mv (.t 6)⟩,
     ⟨(some 8), (some (7, false)), .mv (.t 0)⟩,
     ⟨(some 9), (some (7, false)), .bi .len [22] [.t 8]⟩,
     ⟨(some 10), (some (7, false)), .bin .gtr 3 (.t 9) (.i .i64 255)⟩,
     ⟨(some 11), none, .pk (.t 7) (.b true) (.t 10)⟩,
     ⟨(some 12), none, .mv (.t 11)⟩,
     ⟨(some 13), (some (12, false)), .mv (.t 0)⟩,
     ⟨(some 14), (some (12, false)), .ia 22 (.t 13) (.i .i64 0)⟩,
     ⟨(some 15), (some (12, false)), .ld 23 (.t 14)⟩,
     ⟨(some 16), (some (12, false)), .bi .len [23] [.t 15]⟩,
     ⟨(some 17), (some (12, false)), .bin .lss 3 (.t 16) (.i .i64 1)⟩,
     ⟨(some 18), none, .pk (.t 12) (.b true) (.t 17)⟩,
     ⟨(some 19), none, .mv (.t 18)⟩,
     ⟨(some 20), (some (19, false)), .mv (.t 0)⟩,
     ⟨(some 21), (some (19, false)), .ia 22 (.t 20) (.i .i64 0)⟩,
     ⟨(some 22), (some (19, false)), .ld 23 (.t 21)⟩,
     ⟨(some 23), (some (19, false)), .bi .len [23] [.t 22]⟩,
     ⟨(some 24), (some (19, false)), .bin .gtr 3 (.t 23) (.i .i64 255)⟩,
     ⟨(some 25), none, .pk (.t 19) (.b true) (.t 24)⟩])
   (.cond (.t 25)
    (.seq (.reg [⟨(some 2), none, .mv (.b false)⟩])
     (.ret))
    (.skip)))
  (.seq (.seq (.reg [⟨(some 3), none, .mv (.i .i64 1)⟩])
    (.block 0 (.loop (.seq (.seq (.reg [⟨(some 26), none, .mv (.t 3)⟩,
          ⟨(some 27), none, .mv (.t 0)⟩,
          ⟨(some 28), none, .bi .len [22] [.t 27]⟩,
          ⟨(some 29), none, .bin .lss 3 (.t 26) (.t 28)⟩])
        (.cond (.t 29)
         (.skip)
         (.exit 0)))
       (.seq (.block 1 (.seq (.drw drw16_0 [⟨(some 32), none, .mv (.t 0)⟩,
            ⟨(some 33), none, .mv (.t 3)⟩,
            ⟨(some 34), none, .ia 22 (.t 32) (.t 33)⟩,
            ⟨(some 35), none, .ld 23 (.t 34)⟩,
            ⟨(some 36), none, .bi .len [23] [.t 35]⟩,
            ⟨(some 37), none, .mv (.t 0)⟩,
            ⟨(some 38), none, .ia 22 (.t 37) (.i .i64 0)⟩,
            ⟨(some 39), none, .ld 23 (.t 38)⟩,
            ⟨(some 40), none, .bi .len [23] [.t 39]⟩,
            ⟨(some 41), none, .bin .neq 3 (.t 36) (.t 40)⟩])
          (.cond (.t 41)
           (.seq (.reg [⟨(some 2), none, .mv (.b false)⟩])
            (.ret))
           (.skip))))
        (.reg [⟨(some 30), none, .mv (.t 3)⟩,
          ⟨(some 31), none, .bin .add 3 (.t 30) (.i .i64 1)⟩,
          ⟨(some 3), none, .mv (.t 31)⟩]))))))
   (.seq (.reg [⟨(some 2), none, .mv (.b true)⟩])
    (.ret))))
theorem b16 : Body Try.prog 16 42 [2] k16 := ⟨Enters.of Try.func16 (by kernel_rfl) (by kernel_rfl), _, _, Try.func16, rfl, by kernel_rfl, rfl, rfl⟩

/-- cartridge/matrix.Inverse -/
noncomputable def drw17_0 : Array Oper := ((Try.f17.body.map regs).getD []).getD 0 #[]
noncomputable def drw17_1 : Array Oper := ((Try.f17.body.map regs).getD []).getD 1 #[]
noncomputable def drw17_2 : Array Oper := ((Try.f17.body.map regs).getD []).getD 2 #[]
noncomputable def drw17_3 : Array Oper := ((Try.f17.body.map regs).getD []).getD 3 #[]
noncomputable def k17 : KC :=
 .seq (.reg [⟨(some 2), none, .mv (.ns)⟩,
   ⟨(some 3), none, .mv (.i .i64 0)⟩])
 (.seq (.seq (.reg [⟨(some 11), none, .mv (.t 0)⟩,
     ⟨(some 12), none, .call (.fn 36) [.t 11]⟩,
     ⟨(some 13), none, .un .not (.t 12)⟩,
     ⟨(some 14), none, .mv (.t 13)⟩,
     ⟨(some 15), (some (14, false)), .mv (.t 0)⟩,
     ⟨(some 16), (some (14, false)), .bi .len [22] [.t 15]⟩,
     ⟨(some 17), (some (14, false)), .mv (.t 0)⟩,
     ⟨(some 18), (some (14, false)), .ia 22 (.t 17) (.i .i64 0)⟩,
     ⟨(some 19), (some (14, false)), .ld 23 (.t 18)⟩,
     ⟨(some 20), (some (14, false)), .bi .len [23] [.t 19]⟩,
     ⟨(some 21), (some (14, false)), .bin .neq 3 (.t 16) (.t 20)⟩,
     ⟨(some 22), none, .pk (.t 14) (.b true) (.t 21)⟩])
   (.cond (.t 22)
    (.seq (.reg [⟨(some 2), none, .mv (.ns)⟩,
       ⟨(some 3), none, .mv (.i .i64 1)⟩])
     (.ret))
    (.skip)))
  (.seq (.reg [⟨(some 23), none, .mv (.t 0)⟩,
     ⟨(some 24), none, .call (.fn 59) [.t 23]⟩,
     ⟨(some 4), none, .mv (.t 24)⟩])
   (.seq (.seq (.reg [⟨(some 25), none, .mv (.t 4)⟩,
       ⟨(some 26), none, .bi .len [22] [.t 25]⟩,
       ⟨(some 27), none, .mv (.i .i64 0)⟩])
     (.block 0 (.loop (.seq (.reg [⟨(some 28), none, .bin .lss 3 (.t 27) (.t 26)⟩])
        (.seq (.cond (.t 28)
          (.skip)
          (.exit 0))
         (.seq (.block 1 (.seq (.reg [⟨(some 29), none, .mv (.t 27)⟩,
              ⟨(some 5), none, .al 3⟩,
              ⟨none, none, .st 3 (.t 5) (.t 29)⟩])
            (.seq (.reg [⟨(some 30), none, .mv (.t 4)⟩,
               ⟨(some 31), none, .ld 3 (.t 5)⟩,
               ⟨(some 32), none, .sli 22 (.t 30) (some (.t 31)) none none⟩,
               ⟨(some 33), none, .mf 61 [.t 5]⟩,
               ⟨(some 34), none, .call (.fn 60) [.t 32, .t 33]⟩,
               ⟨(some 6), none, .mv (.t 34)⟩])
             (.seq (.seq (.reg [⟨(some 35), none, .mv (.t 6)⟩,
                 ⟨(some 36), none, .bin .lss 3 (.t 35) (.i .i64 0)⟩])
               (.cond (.t 36)
                (.seq (.reg [⟨(some 2), none, .mv (.ns)⟩,
                   ⟨(some 3), none, .mv (.i .i64 12)⟩])
                 (.ret))
                (.skip)))
              (.seq (.drw drw17_0 [⟨(some 37), none, .mv (.t 4)⟩,
                 ⟨(some 38), none, .ld 3 (.t 5)⟩,
                 ⟨(some 39), none, .mv (.t 4)⟩,
                 ⟨(some 40), none, .ld 3 (.t 5)⟩,
                 ⟨(some 41), none, .mv (.t 6)⟩,
                 ⟨(some 42), none, .bin .add 3 (.t 40) (.t 41)⟩,
                 ⟨(some 43), none, .mv (.t 4)⟩,
                 ⟨(some 44), none, .ld 3 (.t 5)⟩,
                 ⟨(some 45), none, .mv (.t 6)⟩,
                 ⟨(some 46), none, .bin .add 3 (.t 44) (.t 45)⟩,
                 ⟨(some 47), none, .ia 22 (.t 43) (.t 46)⟩,
                 ⟨(some 48), none, .ld 23 (.t 47)⟩,
                 ⟨(some 49), none, .mv (.t 4)⟩,
                 ⟨(some 50), none, .ld 3 (.t 5)⟩,
                 ⟨(some 51), none, .ia 22 (.t 49) (.t 50)⟩,
                 ⟨(some 52), none, .ld 23 (.t 51)⟩,
                 ⟨(some 53), none, .ia 22 (.t 37) (.t 38)⟩,
                 ⟨none, none, .st 23 (.t 53) (.t 48)⟩,
                 ⟨(some 54), none, .ia 22 (.t 39) (.t 42)⟩,
                 ⟨none, none, .st 23 (.t 54) (.t 52)⟩])
               (.seq (.drw drw17_1 [⟨(some 55), none, .mv (.t 4)⟩,
                  ⟨(some 56), none, .ld 3 (.t 5)⟩,
                  ⟨(some 57), none, .mv (.t 4)⟩,
                  ⟨(some 58), none, .ld 3 (.t 5)⟩,
                  ⟨(some 59), none, .ia 22 (.t 57) (.t 58)⟩,
                  ⟨(some 60), none, .ld 23 (.t 59)⟩,
                  ⟨(some 61), none, .mv (.t 4)⟩,
                  ⟨(some 62), none, .ld 3 (.t 5)⟩,
                  ⟨(some 63), none, .ia 22 (.t 61) (.t 62)⟩,
                  ⟨(some 64), none, .ld 23 (.t 63)⟩,
                  ⟨(some 65), none, .ld 3 (.t 5)⟩,
                  ⟨(some 66), none, .ia 23 (.t 64) (.t 65)⟩,
                  ⟨(some 67), none, .ld 5 (.t 66)⟩,
                  ⟨(some 68), none, .call (.fn 63) [.t 67]⟩,
                  ⟨(some 69), none, .call (.fn 62) [.t 60, .t 68]⟩,
                  ⟨(some 70), none, .ia 22 (.t 55) (.t 56)⟩,
                  ⟨none, none, .st 23 (.t 70) (.t 69)⟩])
                (.seq (.reg [⟨(some 71), none, .mv (.t 4)⟩,
                   ⟨(some 72), none, .bi .len [22] [.t 71]⟩,
                   ⟨(some 73), none, .mv (.i .i64 0)⟩])
                 (.block 2 (.loop (.seq (.reg [⟨(some 74), none, .bin .lss 3 (.t 73) (.t 72)⟩])
                    (.seq (.cond (.t 74)
                      (.skip)
                      (.exit 2))
                     (.seq (.block 3 (.seq (.reg [⟨(some 75), none, .mv (.t 73)⟩,
                          ⟨(some 7), none, .mv (.t 75)⟩])
                        (.seq (.drw drw17_2 [⟨(some 76), none, .mv (.t 7)⟩,
                           ⟨(some 77), none, .ld 3 (.t 5)⟩,
                           ⟨(some 78), none, .bin .neq 3 (.t 76) (.t 77)⟩,
                           ⟨(some 79), none, .mv (.t 78)⟩,
                           ⟨(some 80), (some (79, true)), .mv (.t 4)⟩,
                           ⟨(some 81), (some (79, true)), .mv (.t 7)⟩,
                           ⟨(some 82), (some (79, true)), .ia 22 (.t 80) (.t 81)⟩,
                           ⟨(some 83), (some (79, true)), .ld 23 (.t 82)⟩,
                           ⟨(some 84), (some (79, true)), .ld 3 (.t 5)⟩,
                           ⟨(some 85), (some (79, true)), .ia 23 (.t 83) (.t 84)⟩,
                           ⟨(some 86), (some (79, true)), .ld 5 (.t 85)⟩,
                           ⟨(some 87), (some (79, true)), .bin .neq 5 (.t 86) (.i .u8 0)⟩,
                           ⟨(some 88), none, .pk (.t 79) (.t 87) (.b false)⟩])
                         (.cond (.t 88)
                          (.drw drw17_3 [⟨(some 89), none, .mv (.t 4)⟩,
                            ⟨(some 90), none, .mv (.t 7)⟩,
                            ⟨(some 91), none, .mv (.t 4)⟩,
                            ⟨(some 92), none, .mv (.t 7)⟩,
                            ⟨(some 93), none, .ia 22 (.t 91) (.t 92)⟩,
                            ⟨(some 94), none, .ld 23 (.t 93)⟩,
                            ⟨(some 95), none, .mv (.t 4)⟩,
                            ⟨(some 96), none, .ld 3 (.t 5)⟩,
                            ⟨(some 97), none, .ia 22 (.t 95) (.t 96)⟩,
                            ⟨(some 98), none, .ld 23 (.t 97)⟩,
                            ⟨(some 99), none, .mv (.t 4)⟩,
                            ⟨(some 100), none, .mv (.t 7)⟩,
                            ⟨(some 101), none, .ia 22 (.t 99) (.t 100)⟩,
                            ⟨(some 102), none, .ld 23 (.t 101)⟩,
                            ⟨(some 103), none, .ld 3 (.t 5)⟩,
                            ⟨(some 104), none, .ia 23 (.t 102) (.t 103)⟩,
                            ⟨(some 105), none, .ld 5 (.t 104)⟩,
                            ⟨(some 106), none, .call (.fn 62) [.t 98, .t 105]⟩,
                            ⟨(some 107), none, .call (.fn 64) [.t 94, .t 106]⟩,
                            ⟨(some 108), none, .ia 22 (.t 89) (.t 90)⟩,
                            ⟨none, none, .st 23 (.t 108) (.t 107)⟩])
                          (.skip)))))
                      (.reg [⟨(some 109), none, .bin .add 3 (.t 73) (.i .i64 1)⟩,
                        ⟨(some 73), none, .mv (.t 109)⟩])))))))))))))
          (.reg [⟨(some 110), none, .bin .add 3 (.t 27) (.i .i64 1)⟩,
            ⟨(some 27), none, .mv (.t 110)⟩])))))))
    (.seq (.reg [⟨(some 8), none, .mv (.ns)⟩])
     (.seq (.seq (.reg [⟨(some 111), none, .mv (.t 4)⟩,
         ⟨(some 112), none, .bi .len [22] [.t 111]⟩,
         ⟨(some 113), none, .mv (.i .i64 0)⟩])
       (.block 4 (.loop (.seq (.reg [⟨(some 114), none, .bin .lss 3 (.t 113) (.t 112)⟩])
          (.seq (.cond (.t 114)
            (.skip)
            (.exit 4))
           (.seq (.block 5 (.seq (.reg [⟨(some 115), none, .ia 22 (.t 111) (.t 113)⟩,
                ⟨(some 116), none, .ld 23 (.t 115)⟩,
                ⟨(some 10), none, .mv (.t 116)⟩])
              (.reg [⟨(some 117), none, .mv (.t 8)⟩,
                ⟨(some 118), none, .mv (.t 10)⟩,
                ⟨(some 119), none, .mv (.t 0)⟩,
                ⟨(some 120), none, .bi .len [22] [.t 119]⟩,
                ⟨(some 121), none, .sli 23 (.t 118) (some (.t 120)) none none⟩,
                ⟨(some 122), none, .call (.fn 65) [.t 121]⟩,
                ⟨(some 123), none, .bsl 22 1 [(0, .t 122)]⟩,
                ⟨(some 124), none, .bi .append [22, 22] [.t 117, .t 123]⟩,
                ⟨(some 8), none, .mv (.t 124)⟩])))
            (.reg [⟨(some 125), none, .bin .add 3 (.t 113) (.i .i64 1)⟩,
              ⟨(some 113), none, .mv (.t 125)⟩])))))))
      (.seq (.reg [⟨(some 126), none, .mv (.t 8)⟩,
         ⟨(some 2), none, .mv (.t 126)⟩,
         ⟨(some 3), none, .mv (.i .i64 0)⟩])
       (.ret)))))))
theorem b17 : Body Try.prog 17 127 [2, 3] k17 := ⟨Enters.of Try.func17 (by kernel_rfl) (by kernel_rfl), _, _, Try.func17, rfl, by kernel_rfl, rfl, rfl⟩

/-- cartridge/cartridgelaw2.num -/
def k18 : KC :=
 .seq (.reg [⟨(some 2), none, .mv (.i .i64 0)⟩])
 (.seq (.reg [⟨(some 3), none, .mv (.t 0)⟩,
    ⟨(some 2), none, .mv (.t 3)⟩])
  (.ret))
theorem b18 : Body Try.prog 18 4 [2] k18 := ⟨Enters.of Try.func18 (by kernel_rfl) (by kernel_rfl), _, _, Try.func18, rfl, by kernel_rfl, rfl, rfl⟩

/-- cartridge/matrix.Apply -/
def k19 : KC :=
 .seq (.reg [⟨(some 4), none, .mv (.ns)⟩,
   ⟨(some 5), none, .mv (.i .i64 0)⟩])
 (.seq (.seq (.reg [⟨(some 6), none, .mv (.t 0)⟩,
     ⟨(some 7), none, .call (.fn 36) [.t 6]⟩,
     ⟨(some 8), none, .un .not (.t 7)⟩,
     ⟨(some 9), none, .mv (.t 8)⟩,
     ⟨(some 10), (some (9, false)), .mv (.t 1)⟩,
     ⟨(some 11), (some (9, false)), .bi .len [23] [.t 10]⟩,
     ⟨(some 12), (some (9, false)), .mv (.t 0)⟩,
     ⟨(some 13), (some (9, false)), .ia 22 (.t 12) (.i .i64 0)⟩,
     ⟨(some 14), (some (9, false)), .ld 23 (.t 13)⟩,
     ⟨(some 15), (some (9, false)), .bi .len [23] [.t 14]⟩,
     ⟨(some 16), (some (9, false)), .bin .neq 3 (.t 11) (.t 15)⟩,
     ⟨(some 17), none, .pk (.t 9) (.b true) (.t 16)⟩])
   (.cond (.t 17)
    (.seq (.reg [⟨(some 4), none, .mv (.ns)⟩,
       ⟨(some 5), none, .mv (.i .i64 1)⟩])
     (.ret))
    (.skip)))
  (.seq (.reg [⟨(some 18), none, .mv (.t 0)⟩,
     ⟨(some 19), none, .mv (.t 1)⟩,
     ⟨(some 20), none, .call (.fn 66) [.t 18, .t 19]⟩,
     ⟨(some 4), none, .mv (.t 20)⟩,
     ⟨(some 5), none, .mv (.i .i64 0)⟩])
   (.ret)))
theorem b19 : Body Try.prog 19 21 [4, 5] k19 := ⟨Enters.of Try.func19 (by kernel_rfl) (by kernel_rfl), _, _, Try.func19, rfl, by kernel_rfl, rfl, rfl⟩

/-- cartridge/cartridgeref1.Mul -/
def k20 : KC :=
 .seq (.reg [⟨(some 4), none, .mv (.i .u8 0)⟩])
 (.seq (.reg [⟨(some 5), none, .mv (.i .i64 0)⟩])
  (.seq (.seq (.reg [⟨(some 6), none, .mv (.i .i64 0)⟩])
    (.block 0 (.loop (.seq (.seq (.reg [⟨(some 8), none, .mv (.t 6)⟩,
          ⟨(some 9), none, .bin .lss 3 (.t 8) (.i .i64 8)⟩])
        (.cond (.t 9)
         (.skip)
         (.exit 0)))
       (.seq (.block 1 (.seq (.reg [⟨(some 12), none, .mv (.t 1)⟩,
            ⟨(some 13), none, .mv (.t 6)⟩,
            ⟨(some 14), none, .cvt 3 97 (.t 13)⟩,
            ⟨(some 15), none, .bin .shr 5 (.t 12) (.t 14)⟩,
            ⟨(some 16), none, .bin .and 5 (.t 15) (.i .u8 1)⟩,
            ⟨(some 17), none, .bin .eql 5 (.t 16) (.i .u8 1)⟩])
          (.cond (.t 17)
           (.reg [⟨(some 18), none, .mv (.t 5)⟩,
             ⟨(some 19), none, .mv (.t 0)⟩,
             ⟨(some 20), none, .cvt 5 3 (.t 19)⟩,
             ⟨(some 21), none, .mv (.t 6)⟩,
             ⟨(some 22), none, .cvt 3 97 (.t 21)⟩,
             ⟨(some 23), none, .bin .shl 3 (.t 20) (.t 22)⟩,
             ⟨(some 24), none, .bin .xor 3 (.t 18) (.t 23)⟩,
             ⟨(some 5), none, .mv (.t 24)⟩])
           (.skip))))
        (.reg [⟨(some 10), none, .mv (.t 6)⟩,
          ⟨(some 11), none, .bin .add 3 (.t 10) (.i .i64 1)⟩,
          ⟨(some 6), none, .mv (.t 11)⟩]))))))
   (.seq (.seq (.reg [⟨(some 7), none, .mv (.i .i64 14)⟩])
     (.block 2 (.loop (.seq (.seq (.reg [⟨(some 25), none, .mv (.t 7)⟩,
           ⟨(some 26), none, .bin .geq 3 (.t 25) (.i .i64 8)⟩])
         (.cond (.t 26)
          (.skip)
          (.exit 2)))
        (.seq (.block 3 (.seq (.reg [⟨(some 29), none, .mv (.t 5)⟩,
             ⟨(some 30), none, .mv (.t 7)⟩,
             ⟨(some 31), none, .cvt 3 97 (.t 30)⟩,
             ⟨(some 32), none, .bin .shr 3 (.t 29) (.t 31)⟩,
             ⟨(some 33), none, .bin .and 3 (.t 32) (.i .i64 1)⟩,
             ⟨(some 34), none, .bin .eql 3 (.t 33) (.i .i64 1)⟩])
           (.cond (.t 34)
            (.reg [⟨(some 35), none, .mv (.t 5)⟩,
              ⟨(some 36), none, .mv (.t 7)⟩,
              ⟨(some 37), none, .bin .sub 3 (.t 36) (.i .i64 8)⟩,
              ⟨(some 38), none, .cvt 3 97 (.t 37)⟩,
              ⟨(some 39), none, .bin .shl 3 (.i .i64 285) (.t 38)⟩,
              ⟨(some 40), none, .bin .xor 3 (.t 35) (.t 39)⟩,
              ⟨(some 5), none, .mv (.t 40)⟩])
            (.skip))))
         (.reg [⟨(some 27), none, .mv (.t 7)⟩,
           ⟨(some 28), none, .bin .sub 3 (.t 27) (.i .i64 1)⟩,
           ⟨(some 7), none, .mv (.t 28)⟩]))))))
    (.seq (.reg [⟨(some 41), none, .mv (.t 5)⟩,
       ⟨(some 42), none, .cvt 3 5 (.t 41)⟩,
       ⟨(some 4), none, .mv (.t 42)⟩])
     (.ret)))))
theorem b20 : Body Try.prog 20 43 [4] k20 := ⟨Enters.of Try.func20 (by kernel_rfl) (by kernel_rfl), _, _, Try.func20, rfl, by kernel_rfl, rfl, rfl⟩

/-- cartridge/cartridgelaw13.alive -/
def k21 : KC :=
 .seq (.reg [⟨(some 0), none, .mv (.b false)⟩])
 (.seq (.reg [⟨(some 4), none, .mk 23 (.i .i64 79) (.i .i64 79)⟩,
    ⟨(some 5), none, .bsl 22 1 [(0, .t 4)]⟩,
    ⟨(some 6), none, .bld 48 [(0, .i .i64 1), (1, .i .i64 1), (2, .t 5)]⟩,
    ⟨(some 7), none, .bsl 35 1 [(0, .t 6)]⟩,
    ⟨(some 1), none, .mv (.t 7)⟩])
  (.seq (.reg [⟨(some 9), none, .mv (.t 1)⟩,
     ⟨(some 10), none, .call (.fn 23) [.t 9, .i .i64 1]⟩,
     ⟨(some 8), none, .mv (.t 10)⟩,
     ⟨(some 11), none, .ex (.t 8) 0⟩,
     ⟨(some 12), none, .ex (.t 8) 1⟩,
     ⟨(some 2), none, .mv (.t 11)⟩,
     ⟨(some 3), none, .mv (.t 12)⟩])
   (.seq (.reg [⟨(some 13), none, .call (.fn 26) [.ns]⟩,
      ⟨(some 14), none, .bin .eql 3 (.t 13) (.i .i64 0)⟩,
      ⟨(some 15), none, .mv (.t 14)⟩,
      ⟨(some 16), (some (15, true)), .mv (.t 1)⟩,
      ⟨(some 17), (some (15, true)), .call (.fn 26) [.t 16]⟩,
      ⟨(some 18), (some (15, true)), .bin .eql 3 (.t 17) (.i .i64 1)⟩,
      ⟨(some 19), none, .pk (.t 15) (.t 18) (.b false)⟩,
      ⟨(some 20), none, .mv (.t 19)⟩,
      ⟨(some 21), (some (20, true)), .mv (.t 1)⟩,
      ⟨(some 22), (some (20, true)), .call (.fn 29) [.t 21, .i .i64 0]⟩,
      ⟨(some 23), (some (20, true)), .bi .len [22] [.t 22]⟩,
      ⟨(some 24), (some (20, true)), .bin .eql 3 (.t 23) (.i .i64 1)⟩,
      ⟨(some 25), none, .pk (.t 20) (.t 24) (.b false)⟩,
      ⟨(some 26), none, .mv (.t 25)⟩,
      ⟨(some 27), (some (26, true)), .mv (.t 3)⟩,
      ⟨(some 28), (some (26, true)), .call (.fn 25) [.t 27]⟩,
      ⟨(some 29), (some (26, true)), .bin .eql 3 (.t 28) (.i .i64 0)⟩,
      ⟨(some 30), none, .pk (.t 26) (.t 29) (.b false)⟩,
      ⟨(some 31), none, .mv (.t 30)⟩,
      ⟨(some 32), (some (31, true)), .mv (.t 2)⟩,
      ⟨(some 33), (some (31, true)), .bi .len [37] [.t 32]⟩,
      ⟨(some 34), (some (31, true)), .bin .eql 3 (.t 33) (.i .i64 1)⟩,
      ⟨(some 35), none, .pk (.t 31) (.t 34) (.b false)⟩,
      ⟨(some 0), none, .mv (.t 35)⟩])
    (.ret))))
theorem b21 : Body Try.prog 21 36 [0] k21 := ⟨Enters.of Try.func21 (by kernel_rfl) (by kernel_rfl), _, _, Try.func21, rfl, by kernel_rfl, rfl, rfl⟩

end Go.Proofs.Ytgkbjnhpmlfgdaa
