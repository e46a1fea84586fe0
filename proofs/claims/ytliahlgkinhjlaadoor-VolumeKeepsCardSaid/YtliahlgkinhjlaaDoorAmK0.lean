import Derived.Test.YtliahlgkinhjlaaDoorAmT
/- The code, cooked, and tied to the program's; written by gen.py. -/
namespace Go.Proofs.YtliahlgkinhjlaaDoor
open Go.AM

/-- cartridge/cartridgelaw11.VolumeKeeps -/
noncomputable def drw4_0 : Array Oper := ((Tryd.f4.body.map regs).getD []).getD 0 #[]
noncomputable def drw4_1 : Array Oper := ((Tryd.f4.body.map regs).getD []).getD 1 #[]
noncomputable def drw4_2 : Array Oper := ((Tryd.f4.body.map regs).getD []).getD 2 #[]
noncomputable def k4 : KC :=
 .seq (.reg [⟨(some 8), none, .mv (.b false)⟩])
 (.seq (.reg [⟨(some 22), none, .call (.fn 12) []⟩,
    ⟨(some 9), none, .mv (.t 22)⟩])
  (.seq (.seq (.reg [⟨(some 23), none, .mv (.t 9)⟩,
      ⟨(some 24), none, .un .not (.t 23)⟩,
      ⟨(some 25), none, .mv (.t 24)⟩,
      ⟨(some 26), (some (25, false)), .mv (.t 0)⟩,
      ⟨(some 27), (some (25, false)), .bi .len [36] [.t 26]⟩,
      ⟨(some 28), (some (25, false)), .bin .gtr 3 (.t 27) (.i .i64 8)⟩,
      ⟨(some 29), none, .pk (.t 25) (.b true) (.t 28)⟩,
      ⟨(some 30), none, .mv (.t 29)⟩,
      ⟨(some 31), (some (30, false)), .mv (.t 1)⟩,
      ⟨(some 32), (some (30, false)), .bin .lss 3 (.t 31) (.i .i64 0)⟩,
      ⟨(some 33), none, .pk (.t 30) (.b true) (.t 32)⟩,
      ⟨(some 34), none, .mv (.t 33)⟩,
      ⟨(some 35), (some (34, false)), .mv (.t 1)⟩,
      ⟨(some 36), (some (34, false)), .bin .gtr 3 (.t 35) (.i .i64 400)⟩,
      ⟨(some 37), none, .pk (.t 34) (.b true) (.t 36)⟩,
      ⟨(some 38), none, .mv (.t 37)⟩,
      ⟨(some 39), (some (38, false)), .mv (.t 2)⟩,
      ⟨(some 40), (some (38, false)), .bin .lss 3 (.t 39) (.i .i64 0)⟩,
      ⟨(some 41), none, .pk (.t 38) (.b true) (.t 40)⟩,
      ⟨(some 42), none, .mv (.t 41)⟩,
      ⟨(some 43), (some (42, false)), .mv (.t 3)⟩,
      ⟨(some 44), (some (42, false)), .bin .lss 3 (.t 43) (.i .i64 0)⟩,
      ⟨(some 45), none, .pk (.t 42) (.b true) (.t 44)⟩])
    (.cond (.t 45)
     (.seq (.reg [⟨(some 46), none, .mv (.t 9)⟩,
        ⟨(some 8), none, .mv (.t 46)⟩])
      (.ret))
     (.skip)))
   (.seq (.reg [⟨(some 47), none, .bld 38 [(0, .i .i64 7), (1, .i .i64 64)]⟩,
      ⟨(some 10), none, .al 38⟩,
      ⟨none, none, .st 38 (.t 10) (.t 47)⟩])
    (.seq (.reg [⟨(some 49), none, .bsl 24 1 [(0, .i .u8 68)]⟩,
       ⟨(some 50), none, .cvt 24 24 (.t 49)⟩,
       ⟨(some 51), none, .bld 42 [(0, .i .i64 1), (1, .i .i64 7), (3, .t 50)]⟩,
       ⟨(some 52), none, .call (.fn 19) [.t 51]⟩,
       ⟨(some 48), none, .mv (.t 52)⟩,
       ⟨(some 53), none, .ex (.t 48) 0⟩,
       ⟨(some 54), none, .ex (.t 48) 1⟩,
       ⟨(some 11), none, .mv (.t 53)⟩,
       ⟨(some 12), none, .mv (.t 54)⟩])
     (.seq (.reg [⟨(some 55), none, .fa 38 (.t 10) 2⟩,
        ⟨(some 56), none, .ld 26 (.t 55)⟩,
        ⟨(some 57), none, .mv (.t 11)⟩,
        ⟨(some 58), none, .bsl 26 1 [(0, .t 57)]⟩,
        ⟨(some 59), none, .bi .append [26, 26] [.t 56, .t 58]⟩,
        ⟨(some 60), none, .fa 38 (.t 10) 2⟩,
        ⟨none, none, .st 26 (.t 60) (.t 59)⟩])
      (.seq (.seq (.reg [⟨(some 13), none, .mv (.i .i64 0)⟩])
        (.block 0 (.loop (.seq (.seq (.reg [⟨(some 61), none, .mv (.t 13)⟩,
              ⟨(some 62), none, .mv (.t 0)⟩,
              ⟨(some 63), none, .bi .len [36] [.t 62]⟩,
              ⟨(some 64), none, .bin .lss 3 (.t 61) (.t 63)⟩])
            (.cond (.t 64)
             (.skip)
             (.exit 0)))
           (.seq (.block 1 (.seq (.reg [⟨(some 67), none, .mv (.t 0)⟩,
                ⟨(some 68), none, .mv (.t 13)⟩,
                ⟨(some 69), none, .ia 36 (.t 67) (.t 68)⟩,
                ⟨(some 70), none, .ld 3 (.t 69)⟩,
                ⟨(some 71), none, .bin .and 3 (.t 70) (.i .i64 127)⟩,
                ⟨(some 14), none, .mv (.t 71)⟩])
              (.seq (.drw drw4_0 [⟨(some 73), none, .fa 38 (.t 10) 2⟩,
                 ⟨(some 74), none, .ld 26 (.t 73)⟩,
                 ⟨(some 75), none, .bi .len [26] [.t 74]⟩,
                 ⟨(some 76), none, .mv (.t 13)⟩,
                 ⟨(some 77), none, .bin .add 3 (.t 76) (.i .i64 1)⟩,
                 ⟨(some 78), none, .mv (.t 14)⟩,
                 ⟨(some 79), none, .mv (.t 14)⟩,
                 ⟨(some 80), none, .bld 23 [(0, .s ⟨#[97]⟩), (1, .t 77), (5, .i .i64 1), (2, .t 78), (4, .t 79)]⟩,
                 ⟨(some 81), none, .mv (.t 14)⟩,
                 ⟨(some 82), none, .mk 24 (.t 81) (.t 81)⟩,
                 ⟨(some 83), none, .call (.fn 14) [.i .i64 7, .t 75, .t 80, .t 82]⟩,
                 ⟨(some 72), none, .mv (.t 83)⟩,
                 ⟨(some 84), none, .ex (.t 72) 0⟩,
                 ⟨(some 85), none, .ex (.t 72) 1⟩,
                 ⟨(some 15), none, .mv (.t 84)⟩,
                 ⟨(some 16), none, .mv (.t 85)⟩])
               (.reg [⟨(some 86), none, .fa 38 (.t 10) 2⟩,
                 ⟨(some 87), none, .ld 26 (.t 86)⟩,
                 ⟨(some 88), none, .mv (.t 15)⟩,
                 ⟨(some 89), none, .bi .append [26, 26] [.t 87, .t 88]⟩,
                 ⟨(some 90), none, .fa 38 (.t 10) 2⟩,
                 ⟨none, none, .st 26 (.t 90) (.t 89)⟩]))))
            (.reg [⟨(some 65), none, .mv (.t 13)⟩,
              ⟨(some 66), none, .bin .add 3 (.t 65) (.i .i64 1)⟩,
              ⟨(some 13), none, .mv (.t 66)⟩]))))))
       (.seq (.reg [⟨(some 91), none, .fa 38 (.t 10) 2⟩,
          ⟨(some 92), none, .ld 26 (.t 91)⟩,
          ⟨(some 93), none, .bi .len [26] [.t 92]⟩,
          ⟨(some 17), none, .mv (.t 93)⟩])
        (.seq (.reg [⟨(some 95), none, .mv (.t 17)⟩,
           ⟨(some 96), none, .mv (.t 1)⟩,
           ⟨(some 97), none, .mv (.t 1)⟩,
           ⟨(some 98), none, .bld 23 [(0, .s ⟨#[98]⟩), (1, .i .i64 1), (5, .i .i64 1), (2, .t 96), (4, .t 97)]⟩,
           ⟨(some 99), none, .mv (.t 1)⟩,
           ⟨(some 100), none, .mk 24 (.t 99) (.t 99)⟩,
           ⟨(some 101), none, .call (.fn 14) [.i .i64 7, .t 95, .t 98, .t 100]⟩,
           ⟨(some 94), none, .mv (.t 101)⟩,
           ⟨(some 102), none, .ex (.t 94) 0⟩,
           ⟨(some 103), none, .ex (.t 94) 1⟩,
           ⟨(some 18), none, .mv (.t 102)⟩,
           ⟨(some 19), none, .mv (.t 103)⟩])
         (.seq (.reg [⟨(some 104), none, .mv (.t 2)⟩,
            ⟨(some 105), none, .mv (.t 18)⟩,
            ⟨(some 106), none, .bi .len [26] [.t 105]⟩,
            ⟨(some 107), none, .bin .rem 3 (.t 104) (.t 106)⟩,
            ⟨(some 20), none, .mv (.t 107)⟩])
          (.seq (.drw drw4_1 [⟨(some 108), none, .fa 38 (.t 10) 2⟩,
             ⟨(some 109), none, .ld 26 (.t 108)⟩,
             ⟨(some 110), none, .mv (.t 18)⟩,
             ⟨(some 111), none, .mv (.t 20)⟩,
             ⟨(some 112), none, .sli 26 (.t 110) none (some (.t 111)) none⟩,
             ⟨(some 113), none, .bi .append [26, 26] [.t 109, .t 112]⟩,
             ⟨(some 114), none, .fa 38 (.t 10) 2⟩,
             ⟨none, none, .st 26 (.t 114) (.t 113)⟩])
           (.seq (.seq (.reg [⟨(some 115), none, .mv (.t 3)⟩,
               ⟨(some 116), none, .mv (.t 18)⟩,
               ⟨(some 117), none, .mv (.t 20)⟩,
               ⟨(some 118), none, .ia 26 (.t 116) (.t 117)⟩,
               ⟨(some 119), none, .ld 24 (.t 118)⟩,
               ⟨(some 120), none, .bi .len [24] [.t 119]⟩,
               ⟨(some 121), none, .bin .rem 3 (.t 115) (.t 120)⟩,
               ⟨(some 21), none, .mv (.t 121)⟩])
             (.seq (.reg [⟨(some 122), none, .mv (.t 21)⟩,
                ⟨(some 123), none, .bin .gtr 3 (.t 122) (.i .i64 0)⟩,
                ⟨(some 124), none, .mv (.t 123)⟩,
                ⟨(some 125), (some (124, true)), .mv (.t 20)⟩,
                ⟨(some 126), (some (124, true)), .mv (.t 18)⟩,
                ⟨(some 127), (some (124, true)), .bi .len [26] [.t 126]⟩,
                ⟨(some 128), (some (124, true)), .bin .sub 3 (.t 127) (.i .i64 1)⟩,
                ⟨(some 129), (some (124, true)), .bin .lss 3 (.t 125) (.t 128)⟩,
                ⟨(some 130), none, .pk (.t 124) (.t 129) (.b false)⟩])
              (.cond (.t 130)
               (.drw drw4_2 [⟨(some 131), none, .fa 38 (.t 10) 2⟩,
                 ⟨(some 132), none, .ld 26 (.t 131)⟩,
                 ⟨(some 133), none, .mv (.t 18)⟩,
                 ⟨(some 134), none, .mv (.t 20)⟩,
                 ⟨(some 135), none, .ia 26 (.t 133) (.t 134)⟩,
                 ⟨(some 136), none, .ld 24 (.t 135)⟩,
                 ⟨(some 137), none, .mv (.t 21)⟩,
                 ⟨(some 138), none, .sli 24 (.t 136) none (some (.t 137)) none⟩,
                 ⟨(some 139), none, .bsl 26 1 [(0, .t 138)]⟩,
                 ⟨(some 140), none, .bi .append [26, 26] [.t 132, .t 139]⟩,
                 ⟨(some 141), none, .fa 38 (.t 10) 2⟩,
                 ⟨none, none, .st 26 (.t 141) (.t 140)⟩])
               (.skip))))
            (.seq (.reg [⟨(some 142), none, .ld 38 (.t 10)⟩,
               ⟨(some 143), none, .call (.fn 20) [.t 142]⟩,
               ⟨(some 144), none, .mv (.t 17)⟩,
               ⟨(some 145), none, .bin .eql 3 (.t 143) (.t 144)⟩,
               ⟨(some 146), none, .mv (.t 145)⟩,
               ⟨(some 147), (some (146, true)), .ld 38 (.t 10)⟩,
               ⟨(some 148), (some (146, true)), .call (.fn 21) [.t 147]⟩,
               ⟨(some 149), (some (146, true)), .bi .len [44] [.t 148]⟩,
               ⟨(some 150), (some (146, true)), .mv (.t 0)⟩,
               ⟨(some 151), (some (146, true)), .bi .len [36] [.t 150]⟩,
               ⟨(some 152), (some (146, true)), .bin .eql 3 (.t 149) (.t 151)⟩,
               ⟨(some 153), none, .pk (.t 146) (.t 152) (.b false)⟩,
               ⟨(some 8), none, .mv (.t 153)⟩])
             (.ret)))))))))))))
theorem b4 : Body Tryd.prog 4 154 [8] k4 := ⟨Enters.of Tryd.func4 (by kernel_rfl) (by kernel_rfl), _, _, Tryd.func4, rfl, by kernel_rfl, rfl, rfl⟩

/-- cartridge/cartridgelaw11.alive -/
def k12 : KC :=
 .seq (.reg [⟨(some 0), none, .mv (.b false)⟩])
 (.seq (.reg [⟨(some 4), none, .bld 23 [(0, .s ⟨#[97]⟩), (1, .i .i64 1), (5, .i .i64 1)]⟩,
    ⟨(some 5), none, .call (.fn 13) [.i .i64 1, .i .i64 1, .t 4, .ns]⟩,
    ⟨(some 3), none, .mv (.t 5)⟩,
    ⟨(some 6), none, .ex (.t 3) 0⟩,
    ⟨(some 7), none, .ex (.t 3) 1⟩,
    ⟨(some 1), none, .mv (.t 6)⟩,
    ⟨(some 2), none, .mv (.t 7)⟩])
  (.seq (.reg [⟨(some 8), none, .call (.fn 17) [.i .i64 0]⟩,
     ⟨(some 9), none, .bin .eql 3 (.t 8) (.i .i64 2)⟩,
     ⟨(some 10), none, .mv (.t 9)⟩,
     ⟨(some 11), (some (10, true)), .mv (.t 2)⟩,
     ⟨(some 12), (some (10, true)), .call (.fn 16) [.t 11]⟩,
     ⟨(some 13), (some (10, true)), .bin .eql 3 (.t 12) (.i .i64 0)⟩,
     ⟨(some 14), none, .pk (.t 10) (.t 13) (.b false)⟩,
     ⟨(some 15), none, .mv (.t 14)⟩,
     ⟨(some 16), (some (15, true)), .mv (.t 1)⟩,
     ⟨(some 17), (some (15, true)), .bi .len [26] [.t 16]⟩,
     ⟨(some 18), (some (15, true)), .bin .eql 3 (.t 17) (.i .i64 2)⟩,
     ⟨(some 19), none, .pk (.t 15) (.t 18) (.b false)⟩,
     ⟨(some 20), none, .mv (.t 19)⟩,
     ⟨(some 21), (some (20, true)), .bld 38 []⟩,
     ⟨(some 22), (some (20, true)), .call (.fn 20) [.t 21]⟩,
     ⟨(some 23), (some (20, true)), .bin .eql 3 (.t 22) (.i .i64 0)⟩,
     ⟨(some 24), none, .pk (.t 20) (.t 23) (.b false)⟩,
     ⟨(some 0), none, .mv (.t 24)⟩])
   (.ret)))
theorem b12 : Body Tryd.prog 12 25 [0] k12 := ⟨Enters.of Tryd.func12 (by kernel_rfl) (by kernel_rfl), _, _, Tryd.func12, rfl, by kernel_rfl, rfl, rfl⟩

/-- cartridge/volume.Blocks -/
def k13 : KC :=
 .seq (.reg [⟨(some 6), none, .box 23 (.t 2)⟩,
   ⟨(some 8), none, .mv (.ns)⟩,
   ⟨(some 9), none, .mv (.i .i64 0)⟩])
 (.seq (.seq (.reg [⟨(some 16), none, .ld 23 (.t 6)⟩,
     ⟨(some 17), none, .call (.fn 41) [.t 16]⟩,
     ⟨(some 18), none, .un .not (.t 17)⟩,
     ⟨(some 19), none, .mv (.t 18)⟩,
     ⟨(some 20), (some (19, false)), .mv (.t 3)⟩,
     ⟨(some 21), (some (19, false)), .bi .len [24] [.t 20]⟩,
     ⟨(some 22), (some (19, false)), .fa 23 (.t 6) 4⟩,
     ⟨(some 23), (some (19, false)), .ld 3 (.t 22)⟩,
     ⟨(some 24), (some (19, false)), .bin .neq 3 (.t 21) (.t 23)⟩,
     ⟨(some 25), none, .pk (.t 19) (.b true) (.t 24)⟩])
   (.cond (.t 25)
    (.seq (.reg [⟨(some 8), none, .mv (.ns)⟩,
       ⟨(some 9), none, .mv (.i .i64 1)⟩])
     (.ret))
    (.skip)))
  (.seq (.reg [⟨(some 26), none, .ld 23 (.t 6)⟩,
     ⟨(some 27), none, .call (.fn 42) [.t 26]⟩,
     ⟨(some 28), none, .bld 42 [(0, .i .i64 2), (3, .t 27)]⟩,
     ⟨(some 29), none, .bsl 97 1 [(0, .t 28)]⟩,
     ⟨(some 10), none, .mv (.t 29)⟩])
   (.seq (.block 0 (.loop (.seq (.seq (.reg [⟨(some 30), none, .mv (.t 3)⟩,
          ⟨(some 31), none, .bi .len [24] [.t 30]⟩,
          ⟨(some 32), none, .bin .gtr 3 (.t 31) (.i .i64 0)⟩])
        (.cond (.t 32)
         (.skip)
         (.exit 0)))
       (.seq (.block 1 (.reg [⟨(some 38), none, .mv (.t 10)⟩,
           ⟨(some 39), none, .mv (.t 3)⟩,
           ⟨(some 40), none, .mv (.t 3)⟩,
           ⟨(some 41), none, .bi .len [24] [.t 40]⟩,
           ⟨(some 42), none, .bi .min [3, 3] [.t 41, .i .i64 64]⟩,
           ⟨(some 43), none, .sli 24 (.t 39) none (some (.t 42)) none⟩,
           ⟨(some 44), none, .bld 42 [(0, .i .i64 3), (3, .t 43)]⟩,
           ⟨(some 45), none, .bsl 97 1 [(0, .t 44)]⟩,
           ⟨(some 46), none, .bi .append [97, 97] [.t 38, .t 45]⟩,
           ⟨(some 10), none, .mv (.t 46)⟩]))
        (.reg [⟨(some 33), none, .mv (.t 3)⟩,
          ⟨(some 34), none, .mv (.t 3)⟩,
          ⟨(some 35), none, .bi .len [24] [.t 34]⟩,
          ⟨(some 36), none, .bi .min [3, 3] [.t 35, .i .i64 64]⟩,
          ⟨(some 37), none, .sli 24 (.t 33) (some (.t 36)) none none⟩,
          ⟨(some 3), none, .mv (.t 37)⟩])))))
    (.seq (.reg [⟨(some 47), none, .mv (.t 10)⟩,
       ⟨(some 48), none, .bld 42 [(0, .i .i64 4)]⟩,
       ⟨(some 49), none, .bsl 97 1 [(0, .t 48)]⟩,
       ⟨(some 50), none, .bi .append [97, 97] [.t 47, .t 49]⟩,
       ⟨(some 10), none, .mv (.t 50)⟩])
     (.seq (.reg [⟨(some 11), none, .mv (.ns)⟩])
      (.seq (.seq (.reg [⟨(some 51), none, .mv (.t 10)⟩,
          ⟨(some 52), none, .bi .len [97] [.t 51]⟩,
          ⟨(some 53), none, .mv (.i .i64 0)⟩])
        (.block 2 (.loop (.seq (.reg [⟨(some 54), none, .bin .lss 3 (.t 53) (.t 52)⟩])
           (.seq (.cond (.t 54)
             (.skip)
             (.exit 2))
            (.seq (.block 3 (.seq (.reg [⟨(some 55), none, .mv (.t 53)⟩,
                 ⟨(some 56), none, .ia 97 (.t 51) (.t 53)⟩,
                 ⟨(some 57), none, .ld 42 (.t 56)⟩,
                 ⟨(some 13), none, .al 42⟩,
                 ⟨(some 12), none, .mv (.t 55)⟩,
                 ⟨none, none, .st 42 (.t 13) (.t 57)⟩])
               (.seq (.reg [⟨(some 58), none, .mv (.t 0)⟩,
                  ⟨(some 59), none, .mv (.t 1)⟩,
                  ⟨(some 60), none, .mv (.t 12)⟩,
                  ⟨(some 61), none, .bin .add 3 (.t 59) (.t 60)⟩,
                  ⟨(some 62), none, .fa 42 (.t 13) 1⟩,
                  ⟨none, none, .st 3 (.t 62) (.t 58)⟩,
                  ⟨(some 63), none, .fa 42 (.t 13) 2⟩,
                  ⟨none, none, .st 3 (.t 63) (.t 61)⟩])
                (.seq (.reg [⟨(some 65), none, .ld 42 (.t 13)⟩,
                   ⟨(some 66), none, .call (.fn 43) [.t 65]⟩,
                   ⟨(some 64), none, .mv (.t 66)⟩,
                   ⟨(some 67), none, .ex (.t 64) 0⟩,
                   ⟨(some 68), none, .ex (.t 64) 1⟩,
                   ⟨(some 14), none, .mv (.t 67)⟩,
                   ⟨(some 15), none, .mv (.t 68)⟩])
                 (.seq (.seq (.reg [⟨(some 69), none, .mv (.t 15)⟩,
                     ⟨(some 70), none, .bin .neq 27 (.t 69) (.i .i64 0)⟩])
                   (.cond (.t 70)
                    (.seq (.reg [⟨(some 71), none, .mv (.t 15)⟩,
                       ⟨(some 8), none, .mv (.ns)⟩,
                       ⟨(some 9), none, .mv (.t 71)⟩])
                     (.ret))
                    (.skip)))
                  (.reg [⟨(some 72), none, .mv (.t 11)⟩,
                    ⟨(some 73), none, .mv (.t 14)⟩,
                    ⟨(some 74), none, .bsl 26 1 [(0, .t 73)]⟩,
                    ⟨(some 75), none, .bi .append [26, 26] [.t 72, .t 74]⟩,
                    ⟨(some 11), none, .mv (.t 75)⟩]))))))
             (.reg [⟨(some 76), none, .bin .add 3 (.t 53) (.i .i64 1)⟩,
               ⟨(some 53), none, .mv (.t 76)⟩])))))))
       (.seq (.reg [⟨(some 77), none, .mv (.t 11)⟩,
          ⟨(some 8), none, .mv (.t 77)⟩,
          ⟨(some 9), none, .mv (.i .i64 0)⟩])
        (.ret))))))))
theorem b13 : Body Tryd.prog 13 78 [8, 9] k13 := ⟨Enters.of Tryd.func13 (by kernel_rfl) (by kernel_rfl), _, _, Tryd.func13, rfl, by kernel_rfl, rfl, rfl⟩

/-- cartridge/cartridgeref10.Blocks -/
def k14 : KC :=
 .seq (.reg [⟨(some 6), none, .box 23 (.t 2)⟩,
   ⟨(some 8), none, .mv (.ns)⟩,
   ⟨(some 9), none, .mv (.i .i64 0)⟩])
 (.seq (.seq (.reg [⟨(some 17), none, .ld 23 (.t 6)⟩,
     ⟨(some 18), none, .call (.fn 44) [.t 17]⟩,
     ⟨(some 19), none, .un .not (.t 18)⟩,
     ⟨(some 20), none, .mv (.t 19)⟩,
     ⟨(some 21), (some (20, false)), .mv (.t 3)⟩,
     ⟨(some 22), (some (20, false)), .bi .len [24] [.t 21]⟩,
     ⟨(some 23), (some (20, false)), .fa 23 (.t 6) 4⟩,
     ⟨(some 24), (some (20, false)), .ld 3 (.t 23)⟩,
     ⟨(some 25), (some (20, false)), .bin .neq 3 (.t 22) (.t 24)⟩,
     ⟨(some 26), none, .pk (.t 20) (.b true) (.t 25)⟩])
   (.cond (.t 26)
    (.seq (.reg [⟨(some 8), none, .mv (.ns)⟩,
       ⟨(some 9), none, .mv (.i .i64 1)⟩])
     (.ret))
    (.skip)))
  (.seq (.reg [⟨(some 27), none, .ld 23 (.t 6)⟩,
     ⟨(some 28), none, .call (.fn 45) [.t 27]⟩,
     ⟨(some 29), none, .bld 42 [(0, .i .i64 2), (3, .t 28)]⟩,
     ⟨(some 30), none, .bsl 97 1 [(0, .t 29)]⟩,
     ⟨(some 10), none, .mv (.t 30)⟩])
   (.seq (.seq (.reg [⟨(some 11), none, .mv (.i .i64 0)⟩])
     (.block 0 (.loop (.seq (.seq (.reg [⟨(some 31), none, .mv (.t 11)⟩,
           ⟨(some 32), none, .mv (.t 3)⟩,
           ⟨(some 33), none, .bi .len [24] [.t 32]⟩,
           ⟨(some 34), none, .bin .lss 3 (.t 31) (.t 33)⟩])
         (.cond (.t 34)
          (.skip)
          (.exit 0)))
        (.seq (.block 1 (.seq (.reg [⟨(some 37), none, .mv (.t 11)⟩,
             ⟨(some 38), none, .bin .add 3 (.t 37) (.i .i64 64)⟩,
             ⟨(some 12), none, .mv (.t 38)⟩])
           (.seq (.seq (.reg [⟨(some 39), none, .mv (.t 12)⟩,
               ⟨(some 40), none, .mv (.t 3)⟩,
               ⟨(some 41), none, .bi .len [24] [.t 40]⟩,
               ⟨(some 42), none, .bin .gtr 3 (.t 39) (.t 41)⟩])
             (.cond (.t 42)
              (.reg [⟨(some 43), none, .mv (.t 3)⟩,
                ⟨(some 44), none, .bi .len [24] [.t 43]⟩,
                ⟨(some 12), none, .mv (.t 44)⟩])
              (.skip)))
            (.reg [⟨(some 45), none, .mv (.t 10)⟩,
              ⟨(some 46), none, .mv (.t 3)⟩,
              ⟨(some 47), none, .mv (.t 11)⟩,
              ⟨(some 48), none, .mv (.t 12)⟩,
              ⟨(some 49), none, .sli 24 (.t 46) (some (.t 47)) (some (.t 48)) none⟩,
              ⟨(some 50), none, .bld 42 [(0, .i .i64 3), (3, .t 49)]⟩,
              ⟨(some 51), none, .bsl 97 1 [(0, .t 50)]⟩,
              ⟨(some 52), none, .bi .append [97, 97] [.t 45, .t 51]⟩,
              ⟨(some 10), none, .mv (.t 52)⟩]))))
         (.reg [⟨(some 35), none, .mv (.t 11)⟩,
           ⟨(some 36), none, .bin .add 3 (.t 35) (.i .i64 64)⟩,
           ⟨(some 11), none, .mv (.t 36)⟩]))))))
    (.seq (.reg [⟨(some 53), none, .mv (.t 10)⟩,
       ⟨(some 54), none, .bld 42 [(0, .i .i64 4)]⟩,
       ⟨(some 55), none, .bsl 97 1 [(0, .t 54)]⟩,
       ⟨(some 56), none, .bi .append [97, 97] [.t 53, .t 55]⟩,
       ⟨(some 10), none, .mv (.t 56)⟩])
     (.seq (.reg [⟨(some 13), none, .mv (.ns)⟩])
      (.seq (.seq (.reg [⟨(some 14), none, .mv (.i .i64 0)⟩])
        (.block 2 (.loop (.seq (.seq (.reg [⟨(some 57), none, .mv (.t 14)⟩,
              ⟨(some 58), none, .mv (.t 10)⟩,
              ⟨(some 59), none, .bi .len [97] [.t 58]⟩,
              ⟨(some 60), none, .bin .lss 3 (.t 57) (.t 59)⟩])
            (.cond (.t 60)
             (.skip)
             (.exit 2)))
           (.seq (.block 3 (.seq (.reg [⟨(some 63), none, .mv (.t 10)⟩,
                ⟨(some 64), none, .mv (.t 14)⟩,
                ⟨(some 65), none, .mv (.t 0)⟩,
                ⟨(some 66), none, .ia 97 (.t 63) (.t 64)⟩,
                ⟨(some 67), none, .fa 42 (.t 66) 1⟩,
                ⟨none, none, .st 3 (.t 67) (.t 65)⟩])
              (.seq (.reg [⟨(some 68), none, .mv (.t 10)⟩,
                 ⟨(some 69), none, .mv (.t 14)⟩,
                 ⟨(some 70), none, .mv (.t 1)⟩,
                 ⟨(some 71), none, .mv (.t 14)⟩,
                 ⟨(some 72), none, .bin .add 3 (.t 70) (.t 71)⟩,
                 ⟨(some 73), none, .ia 97 (.t 68) (.t 69)⟩,
                 ⟨(some 74), none, .fa 42 (.t 73) 2⟩,
                 ⟨none, none, .st 3 (.t 74) (.t 72)⟩])
               (.seq (.seq (.reg [⟨(some 75), none, .mv (.t 1)⟩,
                   ⟨(some 76), none, .bin .gtr 3 (.t 75) (.i .i64 2147483648)⟩])
                 (.cond (.t 76)
                  (.reg [⟨(some 77), none, .mv (.t 10)⟩,
                    ⟨(some 78), none, .mv (.t 14)⟩,
                    ⟨(some 79), none, .ia 97 (.t 77) (.t 78)⟩,
                    ⟨(some 80), none, .fa 42 (.t 79) 2⟩,
                    ⟨none, none, .st 3 (.t 80) (.i .i64 2147483648)⟩])
                  (.skip)))
                (.seq (.reg [⟨(some 82), none, .mv (.t 10)⟩,
                   ⟨(some 83), none, .mv (.t 14)⟩,
                   ⟨(some 84), none, .ia 97 (.t 82) (.t 83)⟩,
                   ⟨(some 85), none, .ld 42 (.t 84)⟩,
                   ⟨(some 86), none, .call (.fn 19) [.t 85]⟩,
                   ⟨(some 81), none, .mv (.t 86)⟩,
                   ⟨(some 87), none, .ex (.t 81) 0⟩,
                   ⟨(some 88), none, .ex (.t 81) 1⟩,
                   ⟨(some 15), none, .mv (.t 87)⟩,
                   ⟨(some 16), none, .mv (.t 88)⟩])
                 (.seq (.seq (.reg [⟨(some 89), none, .mv (.t 16)⟩,
                     ⟨(some 90), none, .bin .neq 3 (.t 89) (.i .i64 0)⟩])
                   (.cond (.t 90)
                    (.seq (.reg [⟨(some 91), none, .mv (.t 16)⟩,
                       ⟨(some 8), none, .mv (.ns)⟩,
                       ⟨(some 9), none, .mv (.t 91)⟩])
                     (.ret))
                    (.skip)))
                  (.reg [⟨(some 92), none, .mv (.t 13)⟩,
                    ⟨(some 93), none, .mv (.t 15)⟩,
                    ⟨(some 94), none, .bsl 26 1 [(0, .t 93)]⟩,
                    ⟨(some 95), none, .bi .append [26, 26] [.t 92, .t 94]⟩,
                    ⟨(some 13), none, .mv (.t 95)⟩])))))))
            (.reg [⟨(some 61), none, .mv (.t 14)⟩,
              ⟨(some 62), none, .bin .add 3 (.t 61) (.i .i64 1)⟩,
              ⟨(some 14), none, .mv (.t 62)⟩]))))))
       (.seq (.reg [⟨(some 96), none, .mv (.t 13)⟩,
          ⟨(some 8), none, .mv (.t 96)⟩,
          ⟨(some 9), none, .mv (.i .i64 0)⟩])
        (.ret))))))))
theorem b14 : Body Tryd.prog 14 97 [8, 9] k14 := ⟨Enters.of Tryd.func14 (by kernel_rfl) (by kernel_rfl), _, _, Tryd.func14, rfl, by kernel_rfl, rfl, rfl⟩

/-- cartridge/cartridgelaw11.num -/
def k16 : KC :=
 .seq (.reg [⟨(some 2), none, .mv (.i .i64 0)⟩])
 (.seq (.reg [⟨(some 3), none, .mv (.t 0)⟩,
    ⟨(some 2), none, .mv (.t 3)⟩])
  (.ret))
theorem b16 : Body Tryd.prog 16 4 [2] k16 := ⟨Enters.of Tryd.func16 (by kernel_rfl) (by kernel_rfl), _, _, Tryd.func16, rfl, by kernel_rfl, rfl, rfl⟩

/-- cartridge/volume.Need -/
def k17 : KC :=
 .seq (.reg [⟨(some 2), none, .mv (.i .i64 0)⟩])
 (.seq (.reg [⟨(some 3), none, .mv (.t 0)⟩,
    ⟨(some 4), none, .bi .min [3, 3] [.t 3, .i .i64 4000]⟩,
    ⟨(some 5), none, .call (.fn 46) [.t 4]⟩,
    ⟨(some 6), none, .bin .add 3 (.i .i64 2) (.t 5)⟩,
    ⟨(some 2), none, .mv (.t 6)⟩])
  (.ret))
theorem b17 : Body Tryd.prog 17 7 [2] k17 := ⟨Enters.of Tryd.func17 (by kernel_rfl) (by kernel_rfl), _, _, Tryd.func17, rfl, by kernel_rfl, rfl, rfl⟩

/-- cartridge/cartridgeref1.PutFrame -/
noncomputable def drw19_0 : Array Oper := ((Tryd.f19.body.map regs).getD []).getD 0 #[]
noncomputable def drw19_1 : Array Oper := ((Tryd.f19.body.map regs).getD []).getD 1 #[]
noncomputable def drw19_2 : Array Oper := ((Tryd.f19.body.map regs).getD []).getD 2 #[]
noncomputable def k19 : KC :=
 .seq (.reg [⟨(some 1), none, .box 42 (.t 0)⟩,
   ⟨(some 2), none, .mv (.ns)⟩,
   ⟨(some 3), none, .mv (.i .i64 0)⟩])
 (.seq (.reg [⟨(some 4), none, .mv (.i .i64 64)⟩])
  (.seq (.seq (.reg [⟨(some 6), none, .fa 42 (.t 1) 0⟩,
      ⟨(some 7), none, .ld 3 (.t 6)⟩,
      ⟨(some 8), none, .bin .eql 3 (.t 7) (.i .i64 6)⟩])
    (.cond (.t 8)
     (.reg [⟨(some 4), none, .mv (.i .i64 79)⟩])
     (.skip)))
   (.seq (.block 0 (.seq (.reg [⟨(some 10), none, .fa 42 (.t 1) 0⟩,
        ⟨(some 11), none, .ld 3 (.t 10)⟩,
        ⟨(some 12), none, .bin .lss 3 (.t 11) (.i .i64 1)⟩,
        ⟨(some 13), none, .mv (.t 12)⟩,
        ⟨(some 14), (some (13, false)), .fa 42 (.t 1) 0⟩,
        ⟨(some 15), (some (13, false)), .ld 3 (.t 14)⟩,
        ⟨(some 16), (some (13, false)), .bin .gtr 3 (.t 15) (.i .i64 6)⟩,
        ⟨(some 17), none, .pk (.t 13) (.b true) (.t 16)⟩,
        ⟨(some 18), none, .mv (.t 17)⟩,
        ⟨(some 19), (some (18, false)), .fa 42 (.t 1) 1⟩,
        ⟨(some 20), (some (18, false)), .ld 3 (.t 19)⟩,
        ⟨(some 21), (some (18, false)), .bin .lss 3 (.t 20) (.i .i64 1)⟩,
        ⟨(some 22), none, .pk (.t 18) (.b true) (.t 21)⟩,
        ⟨(some 23), none, .mv (.t 22)⟩,
        ⟨(some 24), (some (23, false)), .fa 42 (.t 1) 1⟩,
        ⟨(some 25), (some (23, false)), .ld 3 (.t 24)⟩,
        ⟨(some 26), (some (23, false)), .bin .gtr 3 (.t 25) (.i .i64 2147483647)⟩,
        ⟨(some 27), none, .pk (.t 23) (.b true) (.t 26)⟩,
        ⟨(some 28), none, .mv (.t 27)⟩,
        ⟨(some 29), (some (28, false)), .fa 42 (.t 1) 2⟩,
        ⟨(some 30), (some (28, false)), .ld 3 (.t 29)⟩,
        ⟨(some 31), (some (28, false)), .bin .lss 3 (.t 30) (.i .i64 0)⟩,
        ⟨(some 32), none, .pk (.t 28) (.b true) (.t 31)⟩,
        ⟨(some 33), none, .mv (.t 32)⟩,
        ⟨(some 34), (some (33, false)), .fa 42 (.t 1) 2⟩,
        ⟨(some 35), (some (33, false)), .ld 3 (.t 34)⟩,
        ⟨(some 36), (some (33, false)), .bin .gtr 3 (.t 35) (.i .i64 2147483647)⟩,
        ⟨(some 37), none, .pk (.t 33) (.b true) (.t 36)⟩,
        ⟨(some 9), none, .mv (.t 37)⟩])
      (.cond (.t 9)
       (.seq (.reg [⟨(some 2), none, .mv (.ns)⟩,
          ⟨(some 3), none, .mv (.i .i64 1)⟩])
        (.ret))
       (.seq (.reg [⟨(some 39), none, .fa 42 (.t 1) 3⟩,
          ⟨(some 40), none, .ld 24 (.t 39)⟩,
          ⟨(some 41), none, .bi .len [24] [.t 40]⟩,
          ⟨(some 42), none, .mv (.t 4)⟩,
          ⟨(some 43), none, .bin .gtr 3 (.t 41) (.t 42)⟩,
          ⟨(some 38), none, .mv (.t 43)⟩])
        (.cond (.t 38)
         (.seq (.reg [⟨(some 2), none, .mv (.ns)⟩,
            ⟨(some 3), none, .mv (.i .i64 4)⟩])
          (.ret))
         (.skip))))))
    (.seq (.reg [⟨(some 44), none, .bld 102 []⟩,
       ⟨(some 45), none, .box 102 (.t 44)⟩,
       ⟨(some 5), none, .mv (.t 45)⟩])
     (.seq (.reg [⟨(some 46), none, .mv (.t 5)⟩,
        ⟨(some 47), none, .fa 42 (.t 1) 0⟩,
        ⟨(some 48), none, .ld 3 (.t 47)⟩,
        ⟨(some 49), none, .cvt 3 5 (.t 48)⟩,
        ⟨(some 50), none, .call (.fn 49) [.t 46, .t 49]⟩])
      (.seq (.reg [⟨(some 51), none, .mv (.t 5)⟩,
         ⟨(some 52), none, .fa 42 (.t 1) 1⟩,
         ⟨(some 53), none, .ld 3 (.t 52)⟩,
         ⟨(some 54), none, .call (.fn 50) [.t 51, .t 53]⟩])
       (.seq (.reg [⟨(some 55), none, .mv (.t 5)⟩,
          ⟨(some 56), none, .fa 42 (.t 1) 2⟩,
          ⟨(some 57), none, .ld 3 (.t 56)⟩,
          ⟨(some 58), none, .call (.fn 50) [.t 55, .t 57]⟩])
        (.seq (.drw drw19_0 [⟨(some 59), none, .mv (.t 5)⟩,
           ⟨(some 60), none, .mv (.t 5)⟩,
           ⟨(some 61), none, .nc (.t 60)⟩,
           ⟨(some 62), none, .fa 102 (.t 61) 0⟩,
           ⟨(some 63), none, .ld 24 (.t 62)⟩,
           ⟨(some 64), none, .fa 42 (.t 1) 3⟩,
           ⟨(some 65), none, .ld 24 (.t 64)⟩,
           ⟨(some 66), none, .bi .len [24] [.t 65]⟩,
           ⟨(some 67), none, .bin .shr 3 (.t 66) (.i .u64 8)⟩,
           ⟨(some 68), none, .cvt 3 5 (.t 67)⟩,
           ⟨(some 69), none, .fa 42 (.t 1) 3⟩,
           ⟨(some 70), none, .ld 24 (.t 69)⟩,
           ⟨(some 71), none, .bi .len [24] [.t 70]⟩,
           ⟨(some 72), none, .bin .and 3 (.t 71) (.i .i64 255)⟩,
           ⟨(some 73), none, .cvt 3 5 (.t 72)⟩,
           ⟨(some 74), none, .bsl 24 2 [(0, .t 68), (1, .t 73)]⟩,
           ⟨(some 75), none, .bi .append [24, 24] [.t 63, .t 74]⟩,
           ⟨(some 76), none, .nc (.t 59)⟩,
           ⟨(some 77), none, .fa 102 (.t 76) 0⟩,
           ⟨none, none, .st 24 (.t 77) (.t 75)⟩])
         (.seq (.drw drw19_1 [⟨(some 78), none, .mv (.t 5)⟩,
            ⟨(some 79), none, .mv (.t 5)⟩,
            ⟨(some 80), none, .nc (.t 79)⟩,
            ⟨(some 81), none, .fa 102 (.t 80) 0⟩,
            ⟨(some 82), none, .ld 24 (.t 81)⟩,
            ⟨(some 83), none, .fa 42 (.t 1) 3⟩,
            ⟨(some 84), none, .ld 24 (.t 83)⟩,
            ⟨(some 85), none, .bi .append [24, 24] [.t 82, .t 84]⟩,
            ⟨(some 86), none, .nc (.t 78)⟩,
            ⟨(some 87), none, .fa 102 (.t 86) 0⟩,
            ⟨none, none, .st 24 (.t 87) (.t 85)⟩])
          (.seq (.drw drw19_2 [⟨(some 88), none, .mv (.t 5)⟩,
             ⟨(some 89), none, .mv (.t 5)⟩,
             ⟨(some 90), none, .nc (.t 89)⟩,
             ⟨(some 91), none, .fa 102 (.t 90) 0⟩,
             ⟨(some 92), none, .ld 24 (.t 91)⟩,
             ⟨(some 93), none, .mv (.t 4)⟩,
             ⟨(some 94), none, .fa 42 (.t 1) 3⟩,
             ⟨(some 95), none, .ld 24 (.t 94)⟩,
             ⟨(some 96), none, .bi .len [24] [.t 95]⟩,
             ⟨(some 97), none, .bin .sub 3 (.t 93) (.t 96)⟩,
             ⟨(some 98), none, .bi .append [24, 3] [.t 92, .t 97]⟩,
             ⟨(some 99), none, .nc (.t 88)⟩,
             ⟨(some 100), none, .fa 102 (.t 99) 0⟩,
             ⟨none, none, .st 24 (.t 100) (.t 98)⟩])
           (.seq (.reg [⟨(some 101), none, .mv (.t 5)⟩,
              ⟨(some 102), none, .mv (.t 5)⟩,
              ⟨(some 103), none, .nc (.t 102)⟩,
              ⟨(some 104), none, .fa 102 (.t 103) 0⟩,
              ⟨(some 105), none, .ld 24 (.t 104)⟩,
              ⟨(some 106), none, .call (.fn 51) [.t 105]⟩,
              ⟨(some 107), none, .cvt 106 3 (.t 106)⟩,
              ⟨(some 108), none, .call (.fn 50) [.t 101, .t 107]⟩])
            (.seq (.reg [⟨(some 109), none, .mv (.t 5)⟩,
               ⟨(some 110), none, .nc (.t 109)⟩,
               ⟨(some 111), none, .fa 102 (.t 110) 0⟩,
               ⟨(some 112), none, .ld 24 (.t 111)⟩,
               ⟨(some 2), none, .mv (.t 112)⟩,
               ⟨(some 3), none, .mv (.i .i64 0)⟩])
             (.ret)))))))))))))
theorem b19 : Body Tryd.prog 19 113 [2, 3] k19 := ⟨Enters.of Tryd.func19 (by kernel_rfl) (by kernel_rfl), _, _, Tryd.func19, rfl, by kernel_rfl, rfl, rfl⟩

/-- cartridge/volume.Keep -/
noncomputable def drw20_0 : Array Oper := ((Tryd.f20.body.map regs).getD []).getD 0 #[]
noncomputable def k20 : KC :=
 .seq (.reg [⟨(some 1), none, .box 38 (.t 0)⟩,
   ⟨(some 2), none, .mv (.i .i64 0)⟩])
 (.seq (.reg [⟨(some 7), none, .ld 38 (.t 1)⟩,
    ⟨(some 8), none, .call (.fn 21) [.t 7]⟩,
    ⟨(some 3), none, .mv (.t 8)⟩])
  (.seq (.seq (.reg [⟨(some 9), none, .mv (.t 3)⟩,
      ⟨(some 10), none, .bi .len [44] [.t 9]⟩,
      ⟨(some 11), none, .bin .gtr 3 (.t 10) (.i .i64 0)⟩])
    (.cond (.t 11)
     (.seq (.reg [⟨(some 12), none, .mv (.t 3)⟩,
        ⟨(some 13), none, .mv (.t 3)⟩,
        ⟨(some 14), none, .bi .len [44] [.t 13]⟩,
        ⟨(some 15), none, .bin .sub 3 (.t 14) (.i .i64 1)⟩,
        ⟨(some 16), none, .ia 44 (.t 12) (.t 15)⟩,
        ⟨(some 17), none, .ld 48 (.t 16)⟩,
        ⟨(some 4), none, .al 48⟩,
        ⟨none, none, .st 48 (.t 4) (.t 17)⟩])
      (.seq (.drw drw20_0 [⟨(some 18), none, .fa 48 (.t 4) 2⟩,
         ⟨(some 19), none, .ld 3 (.t 18)⟩,
         ⟨(some 20), none, .fa 48 (.t 4) 0⟩,
         ⟨(some 21), none, .fa 23 (.t 20) 4⟩,
         ⟨(some 22), none, .ld 3 (.t 21)⟩,
         ⟨(some 23), none, .call (.fn 17) [.t 22]⟩,
         ⟨(some 24), none, .bin .add 3 (.t 19) (.t 23)⟩,
         ⟨(some 2), none, .mv (.t 24)⟩])
       (.ret)))
     (.skip)))
   (.seq (.seq (.reg [⟨(some 26), none, .ld 38 (.t 1)⟩,
       ⟨(some 27), none, .call (.fn 52) [.t 26, .i .i64 0]⟩,
       ⟨(some 25), none, .mv (.t 27)⟩,
       ⟨(some 28), none, .ex (.t 25) 0⟩,
       ⟨(some 29), none, .ex (.t 25) 1⟩,
       ⟨(some 5), none, .al 42⟩,
       ⟨none, none, .st 42 (.t 5) (.t 28)⟩,
       ⟨(some 6), none, .mv (.t 29)⟩])
     (.seq (.reg [⟨(some 30), none, .mv (.t 6)⟩])
      (.cond (.t 30)
       (.seq (.reg [⟨(some 2), none, .mv (.i .i64 1)⟩])
        (.ret))
       (.skip))))
    (.seq (.reg [⟨(some 2), none, .mv (.i .i64 0)⟩])
     (.ret)))))
theorem b20 : Body Tryd.prog 20 31 [2] k20 := ⟨Enters.of Tryd.func20 (by kernel_rfl) (by kernel_rfl), _, _, Tryd.func20, rfl, by kernel_rfl, rfl, rfl⟩

/-- cartridge/volume.Parts -/
def k21 : KC :=
 .seq (.reg [⟨(some 1), none, .box 38 (.t 0)⟩,
   ⟨(some 2), none, .mv (.ns)⟩])
 (.seq (.reg [⟨(some 3), none, .mv (.ns)⟩])
  (.seq (.seq (.reg [⟨(some 7), none, .fa 38 (.t 1) 3⟩,
      ⟨(some 8), none, .ld 4 (.t 7)⟩])
    (.cond (.t 8)
     (.seq (.reg [⟨(some 2), none, .mv (.ns)⟩])
      (.ret))
     (.skip)))
   (.seq (.seq (.reg [⟨(some 4), none, .mv (.i .i64 1)⟩])
     (.block 0 (.loop (.seq (.seq (.reg [⟨(some 9), none, .mv (.t 4)⟩,
           ⟨(some 10), none, .fa 38 (.t 1) 2⟩,
           ⟨(some 11), none, .ld 26 (.t 10)⟩,
           ⟨(some 12), none, .bi .len [26] [.t 11]⟩,
           ⟨(some 13), none, .bin .lss 3 (.t 9) (.t 12)⟩])
         (.cond (.t 13)
          (.skip)
          (.exit 0)))
        (.seq (.block 1 (.seq (.reg [⟨(some 17), none, .ld 38 (.t 1)⟩,
             ⟨(some 18), none, .mv (.t 4)⟩,
             ⟨(some 19), none, .call (.fn 53) [.t 17, .t 18]⟩,
             ⟨(some 16), none, .mv (.t 19)⟩,
             ⟨(some 20), none, .ex (.t 16) 0⟩,
             ⟨(some 21), none, .ex (.t 16) 1⟩,
             ⟨(some 5), none, .al 48⟩,
             ⟨none, none, .st 48 (.t 5) (.t 20)⟩,
             ⟨(some 6), none, .mv (.t 21)⟩])
           (.seq (.reg [⟨(some 22), none, .mv (.t 6)⟩])
            (.cond (.t 22)
             (.seq (.reg [⟨(some 23), none, .mv (.t 3)⟩,
                ⟨(some 24), none, .ld 48 (.t 5)⟩,
                ⟨(some 25), none, .bsl 44 1 [(0, .t 24)]⟩,
                ⟨(some 26), none, .bi .append [44, 44] [.t 23, .t 25]⟩,
                ⟨(some 3), none, .mv (.t 26)⟩])
              (.reg [⟨(some 27), none, .mv (.t 4)⟩,
                ⟨(some 28), none, .fa 48 (.t 5) 0⟩,
                ⟨(some 29), none, .fa 23 (.t 28) 4⟩,
                ⟨(some 30), none, .ld 3 (.t 29)⟩,
                ⟨(some 31), none, .call (.fn 46) [.t 30]⟩,
                ⟨(some 32), none, .bin .add 3 (.t 31) (.i .i64 1)⟩,
                ⟨(some 33), none, .bin .add 3 (.t 27) (.t 32)⟩,
                ⟨(some 4), none, .mv (.t 33)⟩]))
             (.skip)))))
         (.reg [⟨(some 14), none, .mv (.t 4)⟩,
           ⟨(some 15), none, .bin .add 3 (.t 14) (.i .i64 1)⟩,
           ⟨(some 4), none, .mv (.t 15)⟩]))))))
    (.seq (.reg [⟨(some 34), none, .mv (.t 3)⟩,
       ⟨(some 2), none, .mv (.t 34)⟩])
     (.ret)))))
theorem b21 : Body Tryd.prog 21 35 [2] k21 := ⟨Enters.of Tryd.func21 (by kernel_rfl) (by kernel_rfl), _, _, Tryd.func21, rfl, by kernel_rfl, rfl, rfl⟩

/-- cartridge/record.RightHead -/
def k41 : KC :=
 .seq (.reg [⟨(some 1), none, .box 23 (.t 0)⟩,
   ⟨(some 2), none, .mv (.b false)⟩])
 (.seq (.seq (.reg [⟨(some 3), none, .fa 23 (.t 1) 0⟩,
     ⟨(some 4), none, .ld 9 (.t 3)⟩,
     ⟨(some 5), none, .call (.fn 64) [.t 4]⟩,
     ⟨(some 6), none, .un .not (.t 5)⟩,
     ⟨(some 7), none, .mv (.t 6)⟩,
     ⟨(some 8), (some (7, false)), .fa 23 (.t 1) 1⟩,
     ⟨(some 9), (some (7, false)), .ld 3 (.t 8)⟩,
     ⟨(some 10), (some (7, false)), .call (.fn 80) [.t 9, .i .i64 1, .i .i64 1073741824]⟩,
     ⟨(some 11), (some (7, false)), .un .not (.t 10)⟩,
     ⟨(some 12), none, .pk (.t 7) (.b true) (.t 11)⟩,
     ⟨(some 13), none, .mv (.t 12)⟩,
     ⟨(some 14), (some (13, false)), .fa 23 (.t 1) 5⟩,
     ⟨(some 15), (some (13, false)), .ld 3 (.t 14)⟩,
     ⟨(some 16), (some (13, false)), .call (.fn 80) [.t 15, .i .i64 1, .i .i64 1073741824]⟩,
     ⟨(some 17), (some (13, false)), .un .not (.t 16)⟩,
     ⟨(some 18), none, .pk (.t 13) (.b true) (.t 17)⟩,
     ⟨(some 19), none, .mv (.t 18)⟩,
     ⟨(some 20), (some (19, false)), .fa 23 (.t 1) 2⟩,
     ⟨(some 21), (some (19, false)), .ld 3 (.t 20)⟩,
     ⟨(some 22), (some (19, false)), .call (.fn 80) [.t 21, .i .i64 0, .i .i64 4000]⟩,
     ⟨(some 23), (some (19, false)), .un .not (.t 22)⟩,
     ⟨(some 24), none, .pk (.t 19) (.b true) (.t 23)⟩,
     ⟨(some 25), none, .mv (.t 24)⟩,
     ⟨(some 26), (some (25, false)), .fa 23 (.t 1) 6⟩,
     ⟨(some 27), (some (25, false)), .ld 3 (.t 26)⟩,
     ⟨(some 28), (some (25, false)), .call (.fn 80) [.t 27, .i .i64 0, .i .i64 4294967295]⟩,
     ⟨(some 29), (some (25, false)), .un .not (.t 28)⟩,
     ⟨(some 30), none, .pk (.t 25) (.b true) (.t 29)⟩])
   (.cond (.t 30)
    (.seq (.reg [⟨(some 2), none, .mv (.b false)⟩])
     (.ret))
    (.skip)))
  (.seq (.seq (.reg [⟨(some 31), none, .fa 23 (.t 1) 3⟩,
      ⟨(some 32), none, .ld 3 (.t 31)⟩,
      ⟨(some 33), none, .fa 23 (.t 1) 2⟩,
      ⟨(some 34), none, .ld 3 (.t 33)⟩,
      ⟨(some 35), none, .call (.fn 80) [.t 32, .i .i64 0, .t 34]⟩,
      ⟨(some 36), none, .un .not (.t 35)⟩,
      ⟨(some 37), none, .mv (.t 36)⟩,
      ⟨(some 38), (some (37, false)), .fa 23 (.t 1) 4⟩,
      ⟨(some 39), (some (37, false)), .ld 3 (.t 38)⟩,
      ⟨(some 40), (some (37, false)), .fa 23 (.t 1) 2⟩,
      ⟨(some 41), (some (37, false)), .ld 3 (.t 40)⟩,
      ⟨(some 42), (some (37, false)), .fa 23 (.t 1) 3⟩,
      ⟨(some 43), (some (37, false)), .ld 3 (.t 42)⟩,
      ⟨(some 44), (some (37, false)), .bin .sub 3 (.t 41) (.t 43)⟩,
      ⟨(some 45), (some (37, false)), .call (.fn 80) [.t 39, .i .i64 0, .t 44]⟩,
      ⟨(some 46), (some (37, false)), .un .not (.t 45)⟩,
      ⟨(some 47), none, .pk (.t 37) (.b true) (.t 46)⟩,
      ⟨(some 48), none, .mv (.t 47)⟩,
      ⟨(some 49), (some (48, false)), .fa 23 (.t 1) 4⟩,
      ⟨(some 50), (some (48, false)), .ld 3 (.t 49)⟩,
      ⟨(some 51), (some (48, false)), .bin .eql 3 (.t 50) (.i .i64 0)⟩,
      ⟨(some 52), (some (48, false)), .mv (.t 51)⟩,
      ⟨(some 53), (some (52, true)), .fa 23 (.t 1) 2⟩,
      ⟨(some 54), (some (52, true)), .ld 3 (.t 53)⟩,
      ⟨(some 55), (some (52, true)), .bin .gtr 3 (.t 54) (.i .i64 0)⟩,
      ⟨(some 56), (some (48, false)), .pk (.t 52) (.t 55) (.b false)⟩,
      ⟨(some 57), none, .pk (.t 48) (.b true) (.t 56)⟩])
    (.cond (.t 57)
     (.seq (.reg [⟨(some 2), none, .mv (.b false)⟩])
      (.ret))
     (.skip)))
   (.seq (.reg [⟨(some 58), none, .fa 23 (.t 1) 7⟩,
      ⟨(some 59), none, .ld 4 (.t 58)⟩,
      ⟨(some 60), none, .un .not (.t 59)⟩,
      ⟨(some 61), none, .mv (.t 60)⟩,
      ⟨(some 62), (some (61, false)), .fa 23 (.t 1) 2⟩,
      ⟨(some 63), (some (61, false)), .ld 3 (.t 62)⟩,
      ⟨(some 64), (some (61, false)), .bin .eql 3 (.t 63) (.i .i64 0)⟩,
      ⟨(some 65), (some (61, false)), .mv (.t 64)⟩,
      ⟨(some 66), (some (65, true)), .fa 23 (.t 1) 6⟩,
      ⟨(some 67), (some (65, true)), .ld 3 (.t 66)⟩,
      ⟨(some 68), (some (65, true)), .bin .eql 3 (.t 67) (.i .i64 0)⟩,
      ⟨(some 69), (some (61, false)), .pk (.t 65) (.t 68) (.b false)⟩,
      ⟨(some 70), none, .pk (.t 61) (.b true) (.t 69)⟩,
      ⟨(some 2), none, .mv (.t 70)⟩])
    (.ret))))
theorem b41 : Body Tryd.prog 41 71 [2] k41 := ⟨Enters.of Tryd.func41 (by kernel_rfl) (by kernel_rfl), _, _, Tryd.func41, rfl, by kernel_rfl, rfl, rfl⟩

/-- cartridge/record.HeadBytes -/
def k42 : KC :=
 .seq (.reg [⟨(some 1), none, .box 23 (.t 0)⟩,
   ⟨(some 2), none, .mv (.ns)⟩])
 (.seq (.seq (.reg [⟨(some 7), none, .ld 23 (.t 1)⟩,
     ⟨(some 8), none, .call (.fn 41) [.t 7]⟩,
     ⟨(some 9), none, .un .not (.t 8)⟩])
   (.cond (.t 9)
    (.seq (.reg [⟨(some 2), none, .mv (.ns)⟩])
     (.ret))
    (.skip)))
  (.seq (.reg [⟨(some 10), none, .bld 147 []⟩,
     ⟨(some 11), none, .box 147 (.t 10)⟩,
     ⟨(some 3), none, .mv (.t 11)⟩])
   (.seq (.reg [⟨(some 12), none, .mv (.t 3)⟩,
      ⟨(some 13), none, .fa 23 (.t 1) 0⟩,
      ⟨(some 14), none, .ld 9 (.t 13)⟩,
      ⟨(some 15), none, .call (.fn 81) [.t 12, .t 14]⟩])
    (.seq (.seq (.reg [⟨(some 16), none, .fa 23 (.t 1) 1⟩,
        ⟨(some 17), none, .ld 3 (.t 16)⟩,
        ⟨(some 18), none, .fa 23 (.t 1) 2⟩,
        ⟨(some 19), none, .ld 3 (.t 18)⟩,
        ⟨(some 20), none, .fa 23 (.t 1) 3⟩,
        ⟨(some 21), none, .ld 3 (.t 20)⟩,
        ⟨(some 22), none, .fa 23 (.t 1) 4⟩,
        ⟨(some 23), none, .ld 3 (.t 22)⟩,
        ⟨(some 24), none, .fa 23 (.t 1) 5⟩,
        ⟨(some 25), none, .ld 3 (.t 24)⟩,
        ⟨(some 26), none, .fa 23 (.t 1) 6⟩,
        ⟨(some 27), none, .ld 3 (.t 26)⟩,
        ⟨(some 28), none, .bsl 36 6 [(0, .t 17), (1, .t 19), (2, .t 21), (3, .t 23), (4, .t 25), (5, .t 27)]⟩,
        ⟨(some 29), none, .bi .len [36] [.t 28]⟩,
        ⟨(some 30), none, .mv (.i .i64 0)⟩])
      (.block 0 (.loop (.seq (.reg [⟨(some 31), none, .bin .lss 3 (.t 30) (.t 29)⟩])
         (.seq (.cond (.t 31)
           (.skip)
           (.exit 0))
          (.seq (.block 1 (.seq (.reg [⟨(some 32), none, .ia 36 (.t 28) (.t 30)⟩,
               ⟨(some 33), none, .ld 3 (.t 32)⟩,
               ⟨(some 5), none, .mv (.t 33)⟩])
             (.reg [⟨(some 34), none, .mv (.t 3)⟩,
               ⟨(some 35), none, .mv (.t 5)⟩,
               ⟨(some 36), none, .call (.fn 82) [.t 34, .t 35]⟩])))
           (.reg [⟨(some 37), none, .bin .add 3 (.t 30) (.i .i64 1)⟩,
             ⟨(some 30), none, .mv (.t 37)⟩])))))))
     (.seq (.reg [⟨(some 6), none, .mv (.i .u8 0)⟩])
      (.seq (.seq (.reg [⟨(some 38), none, .fa 23 (.t 1) 7⟩,
          ⟨(some 39), none, .ld 4 (.t 38)⟩])
        (.cond (.t 39)
         (.reg [⟨(some 6), none, .mv (.i .u8 1)⟩])
         (.skip)))
       (.seq (.reg [⟨(some 40), none, .mv (.t 3)⟩,
          ⟨(some 41), none, .mv (.t 6)⟩,
          ⟨(some 42), none, .call (.fn 83) [.t 40, .t 41]⟩])
        (.seq (.reg [⟨(some 43), none, .mv (.t 3)⟩,
           ⟨(some 44), none, .call (.fn 84) [.t 43]⟩,
           ⟨(some 2), none, .mv (.t 44)⟩])
         (.ret)))))))))
theorem b42 : Body Tryd.prog 42 45 [2] k42 := ⟨Enters.of Tryd.func42 (by kernel_rfl) (by kernel_rfl), _, _, Tryd.func42, rfl, by kernel_rfl, rfl, rfl⟩

/-- cartridge/frame.Put -/
def k43 : KC :=
 .seq (.reg [⟨(some 1), none, .box 42 (.t 0)⟩,
   ⟨(some 2), none, .mv (.ns)⟩,
   ⟨(some 3), none, .mv (.i .i64 0)⟩])
 (.seq (.seq (.reg [⟨(some 5), none, .ld 42 (.t 1)⟩,
     ⟨(some 6), none, .call (.fn 85) [.t 5]⟩,
     ⟨(some 4), none, .mv (.t 6)⟩])
   (.seq (.reg [⟨(some 7), none, .mv (.t 4)⟩,
      ⟨(some 8), none, .bin .neq 27 (.t 7) (.i .i64 0)⟩])
    (.cond (.t 8)
     (.seq (.reg [⟨(some 9), none, .mv (.t 4)⟩,
        ⟨(some 2), none, .mv (.ns)⟩,
        ⟨(some 3), none, .mv (.t 9)⟩])
      (.ret))
     (.skip))))
  (.seq (.reg [⟨(some 10), none, .ld 42 (.t 1)⟩,
     ⟨(some 11), none, .call (.fn 86) [.t 10]⟩,
     ⟨(some 2), none, .mv (.t 11)⟩,
     ⟨(some 3), none, .mv (.i .i64 0)⟩])
   (.ret)))
theorem b43 : Body Tryd.prog 43 12 [2, 3] k43 := ⟨Enters.of Tryd.func43 (by kernel_rfl) (by kernel_rfl), _, _, Tryd.func43, rfl, by kernel_rfl, rfl, rfl⟩

/-- cartridge/cartridgeref10.RightHead -/
def k44 : KC :=
 .seq (.reg [⟨(some 1), none, .box 23 (.t 0)⟩,
   ⟨(some 2), none, .mv (.b false)⟩])
 (.seq (.seq (.reg [⟨(some 3), none, .fa 23 (.t 1) 0⟩,
     ⟨(some 4), none, .ld 9 (.t 3)⟩,
     ⟨(some 5), none, .call (.fn 67) [.t 4]⟩,
     ⟨(some 6), none, .un .not (.t 5)⟩,
     ⟨(some 7), none, .mv (.t 6)⟩,
     ⟨(some 8), (some (7, false)), .fa 23 (.t 1) 1⟩,
     ⟨(some 9), (some (7, false)), .ld 3 (.t 8)⟩,
     ⟨(some 10), (some (7, false)), .bin .lss 3 (.t 9) (.i .i64 1)⟩,
     ⟨(some 11), none, .pk (.t 7) (.b true) (.t 10)⟩,
     ⟨(some 12), none, .mv (.t 11)⟩,
     ⟨(some 13), (some (12, false)), .fa 23 (.t 1) 1⟩,
     ⟨(some 14), (some (12, false)), .ld 3 (.t 13)⟩,
     ⟨(some 15), (some (12, false)), .bin .gtr 3 (.t 14) (.i .i64 1073741824)⟩,
     ⟨(some 16), none, .pk (.t 12) (.b true) (.t 15)⟩,
     ⟨(some 17), none, .mv (.t 16)⟩,
     ⟨(some 18), (some (17, false)), .fa 23 (.t 1) 5⟩,
     ⟨(some 19), (some (17, false)), .ld 3 (.t 18)⟩,
     ⟨(some 20), (some (17, false)), .bin .lss 3 (.t 19) (.i .i64 1)⟩,
     ⟨(some 21), none, .pk (.t 17) (.b true) (.t 20)⟩,
     ⟨(some 22), none, .mv (.t 21)⟩,
     ⟨(some 23), (some (22, false)), .fa 23 (.t 1) 5⟩,
     ⟨(some 24), (some (22, false)), .ld 3 (.t 23)⟩,
     ⟨(some 25), (some (22, false)), .bin .gtr 3 (.t 24) (.i .i64 1073741824)⟩,
     ⟨(some 26), none, .pk (.t 22) (.b true) (.t 25)⟩,
     ⟨(some 27), none, .mv (.t 26)⟩,
     ⟨(some 28), (some (27, false)), .fa 23 (.t 1) 2⟩,
     ⟨(some 29), (some (27, false)), .ld 3 (.t 28)⟩,
     ⟨(some 30), (some (27, false)), .bin .lss 3 (.t 29) (.i .i64 0)⟩,
     ⟨(some 31), none, .pk (.t 27) (.b true) (.t 30)⟩,
     ⟨(some 32), none, .mv (.t 31)⟩,
     ⟨(some 33), (some (32, false)), .fa 23 (.t 1) 2⟩,
     ⟨(some 34), (some (32, false)), .ld 3 (.t 33)⟩,
     ⟨(some 35), (some (32, false)), .bin .gtr 3 (.t 34) (.i .i64 4000)⟩,
     ⟨(some 36), none, .pk (.t 32) (.b true) (.t 35)⟩,
     ⟨(some 37), none, .mv (.t 36)⟩,
     ⟨(some 38), (some (37, false)), .fa 23 (.t 1) 3⟩,
     ⟨(some 39), (some (37, false)), .ld 3 (.t 38)⟩,
     ⟨(some 40), (some (37, false)), .bin .lss 3 (.t 39) (.i .i64 0)⟩,
     ⟨(some 41), none, .pk (.t 37) (.b true) (.t 40)⟩,
     ⟨(some 42), none, .mv (.t 41)⟩,
     ⟨(some 43), (some (42, false)), .fa 23 (.t 1) 4⟩,
     ⟨(some 44), (some (42, false)), .ld 3 (.t 43)⟩,
     ⟨(some 45), (some (42, false)), .bin .lss 3 (.t 44) (.i .i64 0)⟩,
     ⟨(some 46), none, .pk (.t 42) (.b true) (.t 45)⟩,
     ⟨(some 47), none, .mv (.t 46)⟩,
     ⟨(some 48), (some (47, false)), .fa 23 (.t 1) 3⟩,
     ⟨(some 49), (some (47, false)), .ld 3 (.t 48)⟩,
     ⟨(some 50), (some (47, false)), .fa 23 (.t 1) 2⟩,
     ⟨(some 51), (some (47, false)), .ld 3 (.t 50)⟩,
     ⟨(some 52), (some (47, false)), .bin .gtr 3 (.t 49) (.t 51)⟩,
     ⟨(some 53), none, .pk (.t 47) (.b true) (.t 52)⟩,
     ⟨(some 54), none, .mv (.t 53)⟩,
     ⟨(some 55), (some (54, false)), .fa 23 (.t 1) 4⟩,
     ⟨(some 56), (some (54, false)), .ld 3 (.t 55)⟩,
     ⟨(some 57), (some (54, false)), .fa 23 (.t 1) 2⟩,
     ⟨(some 58), (some (54, false)), .ld 3 (.t 57)⟩,
     ⟨(some 59), (some (54, false)), .fa 23 (.t 1) 3⟩,
     ⟨(some 60), (some (54, false)), .ld 3 (.t 59)⟩,
     ⟨(some 61), (some (54, false)), .bin .sub 3 (.t 58) (.t 60)⟩,
     ⟨(some 62), (some (54, false)), .bin .gtr 3 (.t 56) (.t 61)⟩,
     ⟨(some 63), none, .pk (.t 54) (.b true) (.t 62)⟩,
     ⟨(some 64), none, .mv (.t 63)⟩,
     ⟨(some 65), (some (64, false)), .fa 23 (.t 1) 4⟩,
     ⟨(some 66), (some (64, false)), .ld 3 (.t 65)⟩,
     ⟨(some 67), (some (64, false)), .bin .eql 3 (.t 66) (.i .i64 0)⟩,
     ⟨(some 68), (some (64, false)), .mv (.t 67)⟩,
     ⟨(some 69), (some (68, true)), .fa 23 (.t 1) 2⟩,
     ⟨(some 70), (some (68, true)), .ld 3 (.t 69)⟩,
     ⟨(some 71), (some (68, true)), .bin .gtr 3 (.t 70) (.i .i64 0)⟩,
     ⟨(some 72), (some (64, false)), .pk (.t 68) (.t 71) (.b false)⟩,
     ⟨(some 73), none, .pk (.t 64) (.b true) (.t 72)⟩,
     ⟨(some 74), none, .mv (.t 73)⟩,
     ⟨(some 75), (some (74, false)), .fa 23 (.t 1) 6⟩,
     ⟨(some 76), (some (74, false)), .ld 3 (.t 75)⟩,
     ⟨(some 77), (some (74, false)), .bin .lss 3 (.t 76) (.i .i64 0)⟩,
     ⟨(some 78), none, .pk (.t 74) (.b true) (.t 77)⟩,
     ⟨(some 79), none, .mv (.t 78)⟩,
     ⟨(some 80), (some (79, false)), .fa 23 (.t 1) 6⟩,
     ⟨(some 81), (some (79, false)), .ld 3 (.t 80)⟩,
     ⟨(some 82), (some (79, false)), .bin .gtr 3 (.t 81) (.i .i64 4294967295)⟩,
     ⟨(some 83), none, .pk (.t 79) (.b true) (.t 82)⟩])
   (.cond (.t 83)
    (.seq (.reg [⟨(some 2), none, .mv (.b false)⟩])
     (.ret))
    (.skip)))
  (.seq (.reg [⟨(some 84), none, .fa 23 (.t 1) 7⟩,
     ⟨(some 85), none, .ld 4 (.t 84)⟩,
     ⟨(some 86), none, .un .not (.t 85)⟩,
     ⟨(some 87), none, .mv (.t 86)⟩,
     ⟨(some 88), (some (87, false)), .fa 23 (.t 1) 2⟩,
     ⟨(some 89), (some (87, false)), .ld 3 (.t 88)⟩,
     ⟨(some 90), (some (87, false)), .bin .eql 3 (.t 89) (.i .i64 0)⟩,
     ⟨(some 91), (some (87, false)), .mv (.t 90)⟩,
     ⟨(some 92), (some (91, true)), .fa 23 (.t 1) 3⟩,
     ⟨(some 93), (some (91, true)), .ld 3 (.t 92)⟩,
     ⟨(some 94), (some (91, true)), .bin .eql 3 (.t 93) (.i .i64 0)⟩,
     ⟨(some 95), (some (87, false)), .pk (.t 91) (.t 94) (.b false)⟩,
     ⟨(some 96), (some (87, false)), .mv (.t 95)⟩,
     ⟨(some 97), (some (96, true)), .fa 23 (.t 1) 4⟩,
     ⟨(some 98), (some (96, true)), .ld 3 (.t 97)⟩,
     ⟨(some 99), (some (96, true)), .bin .eql 3 (.t 98) (.i .i64 0)⟩,
     ⟨(some 100), (some (87, false)), .pk (.t 96) (.t 99) (.b false)⟩,
     ⟨(some 101), (some (87, false)), .mv (.t 100)⟩,
     ⟨(some 102), (some (101, true)), .fa 23 (.t 1) 6⟩,
     ⟨(some 103), (some (101, true)), .ld 3 (.t 102)⟩,
     ⟨(some 104), (some (101, true)), .bin .eql 3 (.t 103) (.i .i64 0)⟩,
     ⟨(some 105), (some (87, false)), .pk (.t 101) (.t 104) (.b false)⟩,
     ⟨(some 106), none, .pk (.t 87) (.b true) (.t 105)⟩,
     ⟨(some 2), none, .mv (.t 106)⟩])
   (.ret)))
theorem b44 : Body Tryd.prog 44 107 [2] k44 := ⟨Enters.of Tryd.func44 (by kernel_rfl) (by kernel_rfl), _, _, Tryd.func44, rfl, by kernel_rfl, rfl, rfl⟩

/-- cartridge/cartridgeref10.HeadBytes -/
def k45 : KC :=
 .seq (.reg [⟨(some 1), none, .box 23 (.t 0)⟩,
   ⟨(some 2), none, .mv (.ns)⟩])
 (.seq (.seq (.reg [⟨(some 5), none, .ld 23 (.t 1)⟩,
     ⟨(some 6), none, .call (.fn 44) [.t 5]⟩,
     ⟨(some 7), none, .un .not (.t 6)⟩])
   (.cond (.t 7)
    (.seq (.reg [⟨(some 2), none, .mv (.ns)⟩])
     (.ret))
    (.skip)))
  (.seq (.reg [⟨(some 8), none, .bld 102 []⟩,
     ⟨(some 9), none, .box 102 (.t 8)⟩,
     ⟨(some 3), none, .mv (.t 9)⟩])
   (.seq (.reg [⟨(some 10), none, .mv (.t 3)⟩,
      ⟨(some 11), none, .fa 23 (.t 1) 0⟩,
      ⟨(some 12), none, .ld 9 (.t 11)⟩,
      ⟨(some 13), none, .call (.fn 87) [.t 10, .t 12]⟩])
    (.seq (.reg [⟨(some 14), none, .mv (.t 3)⟩,
       ⟨(some 15), none, .fa 23 (.t 1) 1⟩,
       ⟨(some 16), none, .ld 3 (.t 15)⟩,
       ⟨(some 17), none, .call (.fn 50) [.t 14, .t 16]⟩])
     (.seq (.reg [⟨(some 18), none, .mv (.t 3)⟩,
        ⟨(some 19), none, .fa 23 (.t 1) 2⟩,
        ⟨(some 20), none, .ld 3 (.t 19)⟩,
        ⟨(some 21), none, .call (.fn 50) [.t 18, .t 20]⟩])
      (.seq (.reg [⟨(some 22), none, .mv (.t 3)⟩,
         ⟨(some 23), none, .fa 23 (.t 1) 3⟩,
         ⟨(some 24), none, .ld 3 (.t 23)⟩,
         ⟨(some 25), none, .call (.fn 50) [.t 22, .t 24]⟩])
       (.seq (.reg [⟨(some 26), none, .mv (.t 3)⟩,
          ⟨(some 27), none, .fa 23 (.t 1) 4⟩,
          ⟨(some 28), none, .ld 3 (.t 27)⟩,
          ⟨(some 29), none, .call (.fn 50) [.t 26, .t 28]⟩])
        (.seq (.reg [⟨(some 30), none, .mv (.t 3)⟩,
           ⟨(some 31), none, .fa 23 (.t 1) 5⟩,
           ⟨(some 32), none, .ld 3 (.t 31)⟩,
           ⟨(some 33), none, .call (.fn 50) [.t 30, .t 32]⟩])
         (.seq (.reg [⟨(some 34), none, .mv (.t 3)⟩,
            ⟨(some 35), none, .fa 23 (.t 1) 6⟩,
            ⟨(some 36), none, .ld 3 (.t 35)⟩,
            ⟨(some 37), none, .call (.fn 50) [.t 34, .t 36]⟩])
          (.seq (.reg [⟨(some 4), none, .mv (.i .u8 0)⟩])
           (.seq (.seq (.reg [⟨(some 38), none, .fa 23 (.t 1) 7⟩,
               ⟨(some 39), none, .ld 4 (.t 38)⟩])
             (.cond (.t 39)
              (.reg [⟨(some 4), none, .mv (.i .u8 1)⟩])
              (.skip)))
            (.seq (.reg [⟨(some 40), none, .mv (.t 3)⟩,
               ⟨(some 41), none, .mv (.t 4)⟩,
               ⟨(some 42), none, .call (.fn 49) [.t 40, .t 41]⟩])
             (.seq (.reg [⟨(some 43), none, .mv (.t 3)⟩,
                ⟨(some 44), none, .nc (.t 43)⟩,
                ⟨(some 45), none, .fa 102 (.t 44) 0⟩,
                ⟨(some 46), none, .ld 24 (.t 45)⟩,
                ⟨(some 2), none, .mv (.t 46)⟩])
              (.ret))))))))))))))
theorem b45 : Body Tryd.prog 45 47 [2] k45 := ⟨Enters.of Tryd.func45 (by kernel_rfl) (by kernel_rfl), _, _, Tryd.func45, rfl, by kernel_rfl, rfl, rfl⟩

/-- cartridge/volume.data -/
def k46 : KC :=
 .seq (.reg [⟨(some 2), none, .mv (.i .i64 0)⟩])
 (.seq (.seq (.reg [⟨(some 3), none, .mv (.t 0)⟩,
     ⟨(some 4), none, .bin .lss 3 (.t 3) (.i .i64 1)⟩])
   (.cond (.t 4)
    (.seq (.reg [⟨(some 2), none, .mv (.i .i64 0)⟩])
     (.ret))
    (.skip)))
  (.seq (.reg [⟨(some 5), none, .mv (.t 0)⟩,
     ⟨(some 6), none, .bin .sub 3 (.t 5) (.i .i64 1)⟩,
     ⟨(some 7), none, .bin .quo 3 (.t 6) (.i .i64 64)⟩,
     ⟨(some 8), none, .bin .add 3 (.t 7) (.i .i64 1)⟩,
     ⟨(some 2), none, .mv (.t 8)⟩])
   (.ret)))
theorem b46 : Body Tryd.prog 46 9 [2] k46 := ⟨Enters.of Tryd.func46 (by kernel_rfl) (by kernel_rfl), _, _, Tryd.func46, rfl, by kernel_rfl, rfl, rfl⟩

/-- (*cartridge/cartridgeref1.Writer).Byte -/
def k49 : KC :=
 .reg [⟨(some 4), none, .mv (.t 0)⟩,
  ⟨(some 5), none, .mv (.t 0)⟩,
  ⟨(some 6), none, .nc (.t 5)⟩,
  ⟨(some 7), none, .fa 102 (.t 6) 0⟩,
  ⟨(some 8), none, .ld 24 (.t 7)⟩,
  ⟨(some 9), none, .mv (.t 1)⟩,
  ⟨(some 10), none, .bsl 24 1 [(0, .t 9)]⟩,
  ⟨(some 11), none, .bi .append [24, 24] [.t 8, .t 10]⟩,
  ⟨(some 12), none, .nc (.t 4)⟩,
  ⟨(some 13), none, .fa 102 (.t 12) 0⟩,
  ⟨none, none, .st 24 (.t 13) (.t 11)⟩]
theorem b49 : Body Tryd.prog 49 14 [] k49 := ⟨Enters.of Tryd.func49 (by kernel_rfl) (by kernel_rfl), _, _, Tryd.func49, rfl, by kernel_rfl, rfl, rfl⟩

/-- (*cartridge/cartridgeref1.Writer).Int -/
def k50 : KC :=
 .seq (.reg [⟨(some 5), none, .mv (.t 1)⟩,
   ⟨(some 6), none, .cvt 3 152 (.t 5)⟩,
   ⟨(some 4), none, .mv (.t 6)⟩])
 (.reg [⟨(some 7), none, .mv (.t 0)⟩,
   ⟨(some 8), none, .mv (.t 0)⟩,
   ⟨(some 9), none, .nc (.t 8)⟩,
   ⟨(some 10), none, .fa 102 (.t 9) 0⟩,
   ⟨(some 11), none, .ld 24 (.t 10)⟩,
   ⟨(some 12), none, .mv (.t 4)⟩,
   ⟨(some 13), none, .bin .shr 152 (.t 12) (.i .u64 24)⟩,
   ⟨(some 14), none, .bin .and 152 (.t 13) (.i .u64 255)⟩,
   ⟨(some 15), none, .cvt 152 5 (.t 14)⟩,
   ⟨(some 16), none, .mv (.t 4)⟩,
   ⟨(some 17), none, .bin .shr 152 (.t 16) (.i .u64 16)⟩,
   ⟨(some 18), none, .bin .and 152 (.t 17) (.i .u64 255)⟩,
   ⟨(some 19), none, .cvt 152 5 (.t 18)⟩,
   ⟨(some 20), none, .mv (.t 4)⟩,
   ⟨(some 21), none, .bin .shr 152 (.t 20) (.i .u64 8)⟩,
   ⟨(some 22), none, .bin .and 152 (.t 21) (.i .u64 255)⟩,
   ⟨(some 23), none, .cvt 152 5 (.t 22)⟩,
   ⟨(some 24), none, .mv (.t 4)⟩,
   ⟨(some 25), none, .bin .and 152 (.t 24) (.i .u64 255)⟩,
   ⟨(some 26), none, .cvt 152 5 (.t 25)⟩,
   ⟨(some 27), none, .bsl 24 4 [(0, .t 15), (1, .t 19), (2, .t 23), (3, .t 26)]⟩,
   ⟨(some 28), none, .bi .append [24, 24] [.t 11, .t 27]⟩,
   ⟨(some 29), none, .nc (.t 7)⟩,
   ⟨(some 30), none, .fa 102 (.t 29) 0⟩,
   ⟨none, none, .st 24 (.t 30) (.t 28)⟩])
theorem b50 : Body Tryd.prog 50 31 [] k50 := ⟨Enters.of Tryd.func50 (by kernel_rfl) (by kernel_rfl), _, _, Tryd.func50, rfl, by kernel_rfl, rfl, rfl⟩

/-- cartridge/cartridgeref1.Crc -/
def k51 : KC :=
 .seq (.reg [⟨(some 2), none, .mv (.i .u32 0)⟩])
 (.seq (.reg [⟨(some 3), none, .mv (.t 0)⟩,
    ⟨(some 4), none, .call (.fn 88) [.i .u32 0, .t 3]⟩,
    ⟨(some 2), none, .mv (.t 4)⟩])
  (.ret))
theorem b51 : Body Tryd.prog 51 5 [2] k51 := ⟨Enters.of Tryd.func51 (by kernel_rfl) (by kernel_rfl), _, _, Tryd.func51, rfl, by kernel_rfl, rfl, rfl⟩

/-- cartridge/volume.Good -/
def k52 : KC :=
 .seq (.reg [⟨(some 2), none, .box 38 (.t 0)⟩,
   ⟨(some 4), none, .al 42⟩,
   ⟨(some 5), none, .mv (.b false)⟩])
 (.seq (.seq (.reg [⟨(some 8), none, .fa 38 (.t 2) 3⟩,
     ⟨(some 9), none, .ld 4 (.t 8)⟩,
     ⟨(some 10), none, .mv (.t 9)⟩,
     ⟨(some 11), (some (10, false)), .mv (.t 1)⟩,
     ⟨(some 12), (some (10, false)), .bin .lss 3 (.t 11) (.i .i64 0)⟩,
     ⟨(some 13), none, .pk (.t 10) (.b true) (.t 12)⟩,
     ⟨(some 14), none, .mv (.t 13)⟩,
     ⟨(some 15), (some (14, false)), .mv (.t 1)⟩,
     ⟨(some 16), (some (14, false)), .fa 38 (.t 2) 2⟩,
     ⟨(some 17), (some (14, false)), .ld 26 (.t 16)⟩,
     ⟨(some 18), (some (14, false)), .bi .len [26] [.t 17]⟩,
     ⟨(some 19), (some (14, false)), .bin .geq 3 (.t 15) (.t 18)⟩,
     ⟨(some 20), none, .pk (.t 14) (.b true) (.t 19)⟩])
   (.cond (.t 20)
    (.seq (.reg [⟨(some 21), none, .bld 42 []⟩,
       ⟨none, none, .st 42 (.t 4) (.t 21)⟩,
       ⟨(some 5), none, .mv (.b false)⟩])
     (.ret))
    (.skip)))
  (.seq (.reg [⟨(some 23), none, .fa 38 (.t 2) 2⟩,
     ⟨(some 24), none, .ld 26 (.t 23)⟩,
     ⟨(some 25), none, .mv (.t 1)⟩,
     ⟨(some 26), none, .ia 26 (.t 24) (.t 25)⟩,
     ⟨(some 27), none, .ld 24 (.t 26)⟩,
     ⟨(some 28), none, .call (.fn 89) [.t 27]⟩,
     ⟨(some 22), none, .mv (.t 28)⟩,
     ⟨(some 29), none, .ex (.t 22) 0⟩,
     ⟨(some 30), none, .ex (.t 22) 1⟩,
     ⟨(some 6), none, .al 42⟩,
     ⟨none, none, .st 42 (.t 6) (.t 29)⟩,
     ⟨(some 7), none, .mv (.t 30)⟩])
   (.seq (.seq (.reg [⟨(some 31), none, .mv (.t 7)⟩,
       ⟨(some 32), none, .bin .neq 27 (.t 31) (.i .i64 0)⟩,
       ⟨(some 33), none, .mv (.t 32)⟩,
       ⟨(some 34), (some (33, false)), .fa 42 (.t 6) 1⟩,
       ⟨(some 35), (some (33, false)), .ld 3 (.t 34)⟩,
       ⟨(some 36), (some (33, false)), .fa 38 (.t 2) 0⟩,
       ⟨(some 37), (some (33, false)), .ld 3 (.t 36)⟩,
       ⟨(some 38), (some (33, false)), .bin .neq 3 (.t 35) (.t 37)⟩,
       ⟨(some 39), none, .pk (.t 33) (.b true) (.t 38)⟩,
       ⟨(some 40), none, .mv (.t 39)⟩,
       ⟨(some 41), (some (40, false)), .fa 42 (.t 6) 2⟩,
       ⟨(some 42), (some (40, false)), .ld 3 (.t 41)⟩,
       ⟨(some 43), (some (40, false)), .mv (.t 1)⟩,
       ⟨(some 44), (some (40, false)), .bin .neq 3 (.t 42) (.t 43)⟩,
       ⟨(some 45), none, .pk (.t 40) (.b true) (.t 44)⟩])
     (.cond (.t 45)
      (.seq (.reg [⟨(some 46), none, .bld 42 []⟩,
         ⟨none, none, .st 42 (.t 4) (.t 46)⟩,
         ⟨(some 5), none, .mv (.b false)⟩])
       (.ret))
      (.skip)))
    (.seq (.reg [⟨(some 47), none, .ld 42 (.t 6)⟩,
       ⟨none, none, .st 42 (.t 4) (.t 47)⟩,
       ⟨(some 5), none, .mv (.b true)⟩])
     (.ret)))))

/-- cartridge/volume.part -/
noncomputable def drw53_0 : Array Oper := ((Tryd.f53.body.map regs).getD []).getD 0 #[]
noncomputable def k53 : KC :=
 .seq (.reg [⟨(some 2), none, .box 38 (.t 0)⟩,
   ⟨(some 4), none, .al 48⟩,
   ⟨(some 5), none, .mv (.b false)⟩])
 (.seq (.reg [⟨(some 11), none, .ld 38 (.t 2)⟩,
    ⟨(some 12), none, .mv (.t 1)⟩,
    ⟨(some 13), none, .call (.fn 52) [.t 11, .t 12]⟩,
    ⟨(some 10), none, .mv (.t 13)⟩,
    ⟨(some 14), none, .ex (.t 10) 0⟩,
    ⟨(some 15), none, .ex (.t 10) 1⟩,
    ⟨(some 6), none, .al 42⟩,
    ⟨none, none, .st 42 (.t 6) (.t 14)⟩,
    ⟨(some 7), none, .mv (.t 15)⟩])
  (.seq (.seq (.reg [⟨(some 16), none, .mv (.t 7)⟩,
      ⟨(some 17), none, .un .not (.t 16)⟩,
      ⟨(some 18), none, .mv (.t 17)⟩,
      ⟨(some 19), (some (18, false)), .fa 42 (.t 6) 0⟩,
      ⟨(some 20), (some (18, false)), .ld 3 (.t 19)⟩,
      ⟨(some 21), (some (18, false)), .bin .neq 3 (.t 20) (.i .i64 2)⟩,
      ⟨(some 22), none, .pk (.t 18) (.b true) (.t 21)⟩])
    (.cond (.t 22)
     (.seq (.reg [⟨(some 23), none, .bld 48 []⟩,
        ⟨none, none, .st 48 (.t 4) (.t 23)⟩,
        ⟨(some 5), none, .mv (.b false)⟩])
      (.ret))
     (.skip)))
   (.seq (.reg [⟨(some 25), none, .fa 42 (.t 6) 3⟩,
      ⟨(some 26), none, .ld 24 (.t 25)⟩,
      ⟨(some 27), none, .call (.fn 90) [.t 26]⟩,
      ⟨(some 24), none, .mv (.t 27)⟩,
      ⟨(some 28), none, .ex (.t 24) 0⟩,
      ⟨(some 29), none, .ex (.t 24) 1⟩,
      ⟨(some 8), none, .al 23⟩,
      ⟨none, none, .st 23 (.t 8) (.t 28)⟩,
      ⟨(some 9), none, .mv (.t 29)⟩])
    (.seq (.seq (.drw drw53_0 [⟨(some 30), none, .mv (.t 9)⟩,
        ⟨(some 31), none, .bin .neq 27 (.t 30) (.i .i64 0)⟩,
        ⟨(some 32), none, .mv (.t 31)⟩,
        ⟨(some 33), (some (32, false)), .mv (.t 1)⟩,
        ⟨(some 34), (some (32, false)), .bin .add 3 (.t 33) (.i .i64 1)⟩,
        ⟨(some 35), (some (32, false)), .fa 23 (.t 8) 4⟩,
        ⟨(some 36), (some (32, false)), .ld 3 (.t 35)⟩,
        ⟨(some 37), (some (32, false)), .call (.fn 46) [.t 36]⟩,
        ⟨(some 38), (some (32, false)), .bin .add 3 (.t 34) (.t 37)⟩,
        ⟨(some 39), (some (32, false)), .fa 38 (.t 2) 2⟩,
        ⟨(some 40), (some (32, false)), .ld 26 (.t 39)⟩,
        ⟨(some 41), (some (32, false)), .bi .len [26] [.t 40]⟩,
        ⟨(some 42), (some (32, false)), .bin .geq 3 (.t 38) (.t 41)⟩,
        ⟨(some 43), none, .pk (.t 32) (.b true) (.t 42)⟩])
      (.cond (.t 43)
       (.seq (.reg [⟨(some 44), none, .bld 48 []⟩,
          ⟨none, none, .st 48 (.t 4) (.t 44)⟩,
          ⟨(some 5), none, .mv (.b false)⟩])
        (.ret))
       (.skip)))
     (.seq (.reg [⟨(some 45), none, .ld 23 (.t 8)⟩,
        ⟨(some 46), none, .fa 38 (.t 2) 0⟩,
        ⟨(some 47), none, .ld 3 (.t 46)⟩,
        ⟨(some 48), none, .mv (.t 1)⟩,
        ⟨(some 49), none, .bld 48 [(0, .t 45), (1, .t 47), (2, .t 48)]⟩,
        ⟨none, none, .st 48 (.t 4) (.t 49)⟩,
        ⟨(some 5), none, .mv (.b true)⟩])
      (.ret))))))

/-- cartridge/path.Right -/
def k64 : KC :=
 .seq (.reg [⟨(some 2), none, .mv (.b false)⟩])
 (.seq (.reg [⟨(some 3), none, .mv (.t 0)⟩,
    ⟨(some 4), none, .bi .len [9] [.t 3]⟩,
    ⟨(some 5), none, .bin .leq 3 (.t 4) (.i .i64 24)⟩,
    ⟨(some 6), none, .mv (.t 5)⟩,
    ⟨(some 7), (some (6, true)), .mv (.t 0)⟩,
    ⟨(some 8), (some (6, true)), .call (.fn 98) [.t 7, .s ⟨#[47]⟩]⟩,
    ⟨(some 9), (some (6, true)), .call (.fn 97) [.t 8, .fn 99]⟩,
    ⟨(some 10), (some (6, true)), .un .not (.t 9)⟩,
    ⟨(some 11), none, .pk (.t 6) (.t 10) (.b false)⟩,
    ⟨(some 2), none, .mv (.t 11)⟩])
  (.ret))
theorem b64 : Body Tryd.prog 64 12 [2] k64 := ⟨Enters.of Tryd.func64 (by kernel_rfl) (by kernel_rfl), _, _, Tryd.func64, rfl, by kernel_rfl, rfl, rfl⟩

/-- slices.Clone[[]byte,byte] -/
def k66 : KC :=
 .seq (.reg [⟨(some 2), none, .mv (.ns)⟩])
 (.seq (.seq (.reg [⟨(some 3), none, .mv (.t 0)⟩,
     ⟨(some 4), none, .bin .eql 24 (.t 3) (.ns)⟩])
   (.cond (.t 4)
    (.seq (.reg [⟨(some 2), none, .mv (.ns)⟩])
     (.ret))
    (.skip)))
  (.seq (.reg [⟨(some 5), none, .bsl 24 0 []⟩,
     ⟨(some 6), none, .mv (.t 0)⟩,
     ⟨(some 7), none, .bi .append [24, 24] [.t 5, .t 6]⟩,
     ⟨(some 2), none, .mv (.t 7)⟩])
   (.ret)))
theorem b66 : Body Tryd.prog 66 8 [2] k66 := ⟨Enters.of Tryd.func66 (by kernel_rfl) (by kernel_rfl), _, _, Tryd.func66, rfl, by kernel_rfl, rfl, rfl⟩

/-- cartridge/cartridgeref1.RightPath -/
def k67 : KC :=
 .seq (.reg [⟨(some 2), none, .mv (.b false)⟩])
 (.seq (.reg [⟨(some 3), none, .mv (.t 0)⟩,
    ⟨(some 4), none, .call (.fn 100) [.t 3]⟩,
    ⟨(some 5), none, .bi .len [80] [.t 4]⟩,
    ⟨(some 6), none, .bin .gtr 3 (.t 5) (.i .i64 0)⟩,
    ⟨(some 2), none, .mv (.t 6)⟩])
  (.ret))
theorem b67 : Body Tryd.prog 67 7 [2] k67 := ⟨Enters.of Tryd.func67 (by kernel_rfl) (by kernel_rfl), _, _, Tryd.func67, rfl, by kernel_rfl, rfl, rfl⟩

/-- cartridge/record.within -/
def k80 : KC :=
 .seq (.reg [⟨(some 6), none, .mv (.b false)⟩])
 (.seq (.reg [⟨(some 7), none, .mv (.t 0)⟩,
    ⟨(some 8), none, .mv (.t 1)⟩,
    ⟨(some 9), none, .bin .geq 3 (.t 7) (.t 8)⟩,
    ⟨(some 10), none, .mv (.t 9)⟩,
    ⟨(some 11), (some (10, true)), .mv (.t 0)⟩,
    ⟨(some 12), (some (10, true)), .mv (.t 2)⟩,
    ⟨(some 13), (some (10, true)), .bin .leq 3 (.t 11) (.t 12)⟩,
    ⟨(some 14), none, .pk (.t 10) (.t 13) (.b false)⟩,
    ⟨(some 6), none, .mv (.t 14)⟩])
  (.ret))
theorem b80 : Body Tryd.prog 80 15 [6] k80 := ⟨Enters.of Tryd.func80 (by kernel_rfl) (by kernel_rfl), _, _, Tryd.func80, rfl, by kernel_rfl, rfl, rfl⟩

/-- (*cartridge/code.Writer).Text -/
def k81 : KC :=
 .seq (.reg [⟨(some 4), none, .mv (.t 1)⟩,
   ⟨(some 5), none, .mv (.t 1)⟩,
   ⟨(some 6), none, .bi .len [9] [.t 5]⟩,
   ⟨(some 7), none, .bi .min [3, 3] [.t 6, .i .i64 255]⟩,
   ⟨(some 8), none, .sli 9 (.t 4) none (some (.t 7)) none⟩,
   ⟨(some 1), none, .mv (.t 8)⟩])
 (.seq (.reg [⟨(some 9), none, .mv (.t 0)⟩,
    ⟨(some 10), none, .mv (.t 0)⟩,
    ⟨(some 11), none, .nc (.t 10)⟩,
    ⟨(some 12), none, .fa 147 (.t 11) 0⟩,
    ⟨(some 13), none, .ld 24 (.t 12)⟩,
    ⟨(some 14), none, .mv (.t 1)⟩,
    ⟨(some 15), none, .bi .len [9] [.t 14]⟩,
    ⟨(some 16), none, .cvt 3 5 (.t 15)⟩,
    ⟨(some 17), none, .bsl 24 1 [(0, .t 16)]⟩,
    ⟨(some 18), none, .bi .append [24, 24] [.t 13, .t 17]⟩,
    ⟨(some 19), none, .nc (.t 9)⟩,
    ⟨(some 20), none, .fa 147 (.t 19) 0⟩,
    ⟨none, none, .st 24 (.t 20) (.t 18)⟩])
  (.reg [⟨(some 21), none, .mv (.t 0)⟩,
    ⟨(some 22), none, .mv (.t 0)⟩,
    ⟨(some 23), none, .nc (.t 22)⟩,
    ⟨(some 24), none, .fa 147 (.t 23) 0⟩,
    ⟨(some 25), none, .ld 24 (.t 24)⟩,
    ⟨(some 26), none, .mv (.t 1)⟩,
    ⟨(some 27), none, .bi .append [24, 9] [.t 25, .t 26]⟩,
    ⟨(some 28), none, .nc (.t 21)⟩,
    ⟨(some 29), none, .fa 147 (.t 28) 0⟩,
    ⟨none, none, .st 24 (.t 29) (.t 27)⟩]))
theorem b81 : Body Tryd.prog 81 30 [] k81 := ⟨Enters.of Tryd.func81 (by kernel_rfl) (by kernel_rfl), _, _, Tryd.func81, rfl, by kernel_rfl, rfl, rfl⟩

/-- (*cartridge/code.Writer).Int -/
def k82 : KC :=
 .seq (.reg [⟨(some 5), none, .mv (.t 1)⟩,
   ⟨(some 6), none, .cvt 3 106 (.t 5)⟩,
   ⟨(some 4), none, .mv (.t 6)⟩])
 (.reg [⟨(some 7), none, .mv (.t 0)⟩,
   ⟨(some 8), none, .mv (.t 0)⟩,
   ⟨(some 9), none, .nc (.t 8)⟩,
   ⟨(some 10), none, .fa 147 (.t 9) 0⟩,
   ⟨(some 11), none, .ld 24 (.t 10)⟩,
   ⟨(some 12), none, .mv (.t 4)⟩,
   ⟨(some 13), none, .bin .shr 106 (.t 12) (.i .u64 24)⟩,
   ⟨(some 14), none, .cvt 106 5 (.t 13)⟩,
   ⟨(some 15), none, .mv (.t 4)⟩,
   ⟨(some 16), none, .bin .shr 106 (.t 15) (.i .u64 16)⟩,
   ⟨(some 17), none, .cvt 106 5 (.t 16)⟩,
   ⟨(some 18), none, .mv (.t 4)⟩,
   ⟨(some 19), none, .bin .shr 106 (.t 18) (.i .u64 8)⟩,
   ⟨(some 20), none, .cvt 106 5 (.t 19)⟩,
   ⟨(some 21), none, .mv (.t 4)⟩,
   ⟨(some 22), none, .cvt 106 5 (.t 21)⟩,
   ⟨(some 23), none, .bsl 24 4 [(0, .t 14), (1, .t 17), (2, .t 20), (3, .t 22)]⟩,
   ⟨(some 24), none, .bi .append [24, 24] [.t 11, .t 23]⟩,
   ⟨(some 25), none, .nc (.t 7)⟩,
   ⟨(some 26), none, .fa 147 (.t 25) 0⟩,
   ⟨none, none, .st 24 (.t 26) (.t 24)⟩])
theorem b82 : Body Tryd.prog 82 27 [] k82 := ⟨Enters.of Tryd.func82 (by kernel_rfl) (by kernel_rfl), _, _, Tryd.func82, rfl, by kernel_rfl, rfl, rfl⟩

/-- (*cartridge/code.Writer).Byte -/
def k83 : KC :=
 .reg [⟨(some 4), none, .mv (.t 0)⟩,
  ⟨(some 5), none, .mv (.t 0)⟩,
  ⟨(some 6), none, .nc (.t 5)⟩,
  ⟨(some 7), none, .fa 147 (.t 6) 0⟩,
  ⟨(some 8), none, .ld 24 (.t 7)⟩,
  ⟨(some 9), none, .mv (.t 1)⟩,
  ⟨(some 10), none, .bsl 24 1 [(0, .t 9)]⟩,
  ⟨(some 11), none, .bi .append [24, 24] [.t 8, .t 10]⟩,
  ⟨(some 12), none, .nc (.t 4)⟩,
  ⟨(some 13), none, .fa 147 (.t 12) 0⟩,
  ⟨none, none, .st 24 (.t 13) (.t 11)⟩]
theorem b83 : Body Tryd.prog 83 14 [] k83 := ⟨Enters.of Tryd.func83 (by kernel_rfl) (by kernel_rfl), _, _, Tryd.func83, rfl, by kernel_rfl, rfl, rfl⟩

/-- (*cartridge/code.Writer).Bytes -/
def k84 : KC :=
 .seq (.reg [⟨(some 2), none, .mv (.ns)⟩])
 (.seq (.reg [⟨(some 3), none, .mv (.t 0)⟩,
    ⟨(some 4), none, .nc (.t 3)⟩,
    ⟨(some 5), none, .fa 147 (.t 4) 0⟩,
    ⟨(some 6), none, .ld 24 (.t 5)⟩,
    ⟨(some 7), none, .call (.fn 66) [.t 6]⟩,
    ⟨(some 2), none, .mv (.t 7)⟩])
  (.ret))
theorem b84 : Body Tryd.prog 84 8 [2] k84 := ⟨Enters.of Tryd.func84 (by kernel_rfl) (by kernel_rfl), _, _, Tryd.func84, rfl, by kernel_rfl, rfl, rfl⟩

/-- cartridge/frame.check -/
noncomputable def drw85_0 : Array Oper := ((Tryd.f85.body.map regs).getD []).getD 0 #[]
noncomputable def k85 : KC :=
 .seq (.reg [⟨(some 1), none, .box 42 (.t 0)⟩,
   ⟨(some 2), none, .mv (.i .i64 0)⟩])
 (.seq (.seq (.reg [⟨(some 3), none, .fa 42 (.t 1) 1⟩,
     ⟨(some 4), none, .ld 3 (.t 3)⟩,
     ⟨(some 5), none, .bin .lss 3 (.t 4) (.i .i64 1)⟩,
     ⟨(some 6), none, .mv (.t 5)⟩,
     ⟨(some 7), (some (6, false)), .fa 42 (.t 1) 1⟩,
     ⟨(some 8), (some (6, false)), .ld 3 (.t 7)⟩,
     ⟨(some 9), (some (6, false)), .bin .gtr 3 (.t 8) (.i .i64 2147483647)⟩,
     ⟨(some 10), none, .pk (.t 6) (.b true) (.t 9)⟩,
     ⟨(some 11), none, .mv (.t 10)⟩,
     ⟨(some 12), (some (11, false)), .fa 42 (.t 1) 2⟩,
     ⟨(some 13), (some (11, false)), .ld 3 (.t 12)⟩,
     ⟨(some 14), (some (11, false)), .bin .lss 3 (.t 13) (.i .i64 0)⟩,
     ⟨(some 15), none, .pk (.t 11) (.b true) (.t 14)⟩,
     ⟨(some 16), none, .mv (.t 15)⟩,
     ⟨(some 17), (some (16, false)), .fa 42 (.t 1) 2⟩,
     ⟨(some 18), (some (16, false)), .ld 3 (.t 17)⟩,
     ⟨(some 19), (some (16, false)), .bin .gtr 3 (.t 18) (.i .i64 2147483647)⟩,
     ⟨(some 20), none, .pk (.t 16) (.b true) (.t 19)⟩])
   (.cond (.t 20)
    (.seq (.reg [⟨(some 2), none, .mv (.i .i64 1)⟩])
     (.ret))
    (.skip)))
  (.seq (.seq (.reg [⟨(some 21), none, .fa 42 (.t 1) 0⟩,
      ⟨(some 22), none, .ld 3 (.t 21)⟩])
    (.block 0 (.seq (.block 6 (.block 5 (.block 4 (.block 3 (.block 2 (.block 1 (.seq (.seq (.seq (.reg [⟨(some 24), none, .bin .eql 3 (.t 22) (.i .i64 1)⟩,
                 ⟨(some 23), none, .mv (.t 24)⟩])
               (.cond (.t 23)
                (.exit 1)
                (.skip)))
              (.seq (.seq (.reg [⟨(some 26), none, .bin .eql 3 (.t 22) (.i .i64 2)⟩,
                  ⟨(some 25), none, .mv (.t 26)⟩])
                (.cond (.t 25)
                 (.exit 2)
                 (.skip)))
               (.seq (.seq (.reg [⟨(some 28), none, .bin .eql 3 (.t 22) (.i .i64 3)⟩,
                   ⟨(some 27), none, .mv (.t 28)⟩])
                 (.cond (.t 27)
                  (.exit 3)
                  (.skip)))
                (.seq (.seq (.reg [⟨(some 30), none, .bin .eql 3 (.t 22) (.i .i64 4)⟩,
                    ⟨(some 29), none, .mv (.t 30)⟩])
                  (.cond (.t 29)
                   (.exit 4)
                   (.skip)))
                 (.seq (.seq (.reg [⟨(some 32), none, .bin .eql 3 (.t 22) (.i .i64 5)⟩,
                     ⟨(some 31), none, .mv (.t 32)⟩])
                   (.cond (.t 31)
                    (.exit 5)
                    (.skip)))
                  (.seq (.reg [⟨(some 34), none, .bin .eql 3 (.t 22) (.i .i64 6)⟩,
                     ⟨(some 33), none, .mv (.t 34)⟩])
                   (.cond (.t 33)
                    (.exit 6)
                    (.skip))))))))
             (.exit 0))))))))
      (.seq (.seq (.seq (.drw drw85_0 [⟨(some 35), none, .fa 42 (.t 1) 3⟩,
           ⟨(some 36), none, .ld 24 (.t 35)⟩,
           ⟨(some 37), none, .bi .len [24] [.t 36]⟩,
           ⟨(some 38), none, .fa 42 (.t 1) 0⟩,
           ⟨(some 39), none, .ld 3 (.t 38)⟩,
           ⟨(some 40), none, .call (.fn 110) [.t 39]⟩,
           ⟨(some 41), none, .bin .gtr 3 (.t 37) (.t 40)⟩])
         (.cond (.t 41)
          (.seq (.reg [⟨(some 2), none, .mv (.i .i64 4)⟩])
           (.ret))
          (.skip)))
        (.seq (.reg [⟨(some 2), none, .mv (.i .i64 0)⟩])
         (.ret)))
       (.exit 0)))))
   (.seq (.reg [⟨(some 2), none, .mv (.i .i64 1)⟩])
    (.ret))))
theorem b85 : Body Tryd.prog 85 42 [2] k85 := ⟨Enters.of Tryd.func85 (by kernel_rfl) (by kernel_rfl), _, _, Tryd.func85, rfl, by kernel_rfl, rfl, rfl⟩

/-- cartridge/frame.made -/
def k86 : KC :=
 .seq (.reg [⟨(some 1), none, .box 42 (.t 0)⟩,
   ⟨(some 2), none, .mv (.ns)⟩])
 (.seq (.reg [⟨(some 6), none, .bld 147 []⟩,
    ⟨(some 7), none, .box 147 (.t 6)⟩,
    ⟨(some 3), none, .mv (.t 7)⟩])
  (.seq (.reg [⟨(some 8), none, .mv (.t 3)⟩,
     ⟨(some 9), none, .fa 42 (.t 1) 0⟩,
     ⟨(some 10), none, .ld 3 (.t 9)⟩,
     ⟨(some 11), none, .cvt 3 5 (.t 10)⟩,
     ⟨(some 12), none, .call (.fn 83) [.t 8, .t 11]⟩])
   (.seq (.reg [⟨(some 13), none, .mv (.t 3)⟩,
      ⟨(some 14), none, .fa 42 (.t 1) 1⟩,
      ⟨(some 15), none, .ld 3 (.t 14)⟩,
      ⟨(some 16), none, .call (.fn 82) [.t 13, .t 15]⟩])
    (.seq (.reg [⟨(some 17), none, .mv (.t 3)⟩,
       ⟨(some 18), none, .fa 42 (.t 1) 2⟩,
       ⟨(some 19), none, .ld 3 (.t 18)⟩,
       ⟨(some 20), none, .call (.fn 82) [.t 17, .t 19]⟩])
     (.seq (.reg [⟨(some 21), none, .mv (.t 3)⟩,
        ⟨(some 22), none, .fa 42 (.t 1) 3⟩,
        ⟨(some 23), none, .ld 24 (.t 22)⟩,
        ⟨(some 24), none, .bi .len [24] [.t 23]⟩,
        ⟨(some 25), none, .bin .shr 3 (.t 24) (.i .u64 8)⟩,
        ⟨(some 26), none, .cvt 3 5 (.t 25)⟩,
        ⟨(some 27), none, .call (.fn 83) [.t 21, .t 26]⟩])
      (.seq (.reg [⟨(some 28), none, .mv (.t 3)⟩,
         ⟨(some 29), none, .fa 42 (.t 1) 3⟩,
         ⟨(some 30), none, .ld 24 (.t 29)⟩,
         ⟨(some 31), none, .bi .len [24] [.t 30]⟩,
         ⟨(some 32), none, .cvt 3 5 (.t 31)⟩,
         ⟨(some 33), none, .call (.fn 83) [.t 28, .t 32]⟩])
       (.seq (.reg [⟨(some 34), none, .fa 42 (.t 1) 0⟩,
          ⟨(some 35), none, .ld 3 (.t 34)⟩,
          ⟨(some 36), none, .call (.fn 110) [.t 35]⟩,
          ⟨(some 37), none, .mk 24 (.t 36) (.t 36)⟩,
          ⟨(some 4), none, .mv (.t 37)⟩])
        (.seq (.reg [⟨(some 38), none, .mv (.t 4)⟩,
           ⟨(some 39), none, .fa 42 (.t 1) 3⟩,
           ⟨(some 40), none, .ld 24 (.t 39)⟩,
           ⟨(some 41), none, .bi .copy [24, 24] [.t 38, .t 40]⟩])
         (.seq (.reg [⟨(some 42), none, .mv (.t 3)⟩,
            ⟨(some 43), none, .call (.fn 84) [.t 42]⟩,
            ⟨(some 44), none, .mv (.t 4)⟩,
            ⟨(some 45), none, .bi .append [24, 24] [.t 43, .t 44]⟩,
            ⟨(some 5), none, .mv (.t 45)⟩])
          (.seq (.reg [⟨(some 46), none, .bld 147 []⟩,
             ⟨(some 47), none, .box 147 (.t 46)⟩,
             ⟨(some 3), none, .mv (.t 47)⟩])
           (.seq (.reg [⟨(some 48), none, .mv (.t 3)⟩,
              ⟨(some 49), none, .mv (.t 5)⟩,
              ⟨(some 50), none, .call (.fn 92) [.t 49]⟩,
              ⟨(some 51), none, .cvt 106 3 (.t 50)⟩,
              ⟨(some 52), none, .call (.fn 82) [.t 48, .t 51]⟩])
            (.seq (.reg [⟨(some 53), none, .mv (.t 5)⟩,
               ⟨(some 54), none, .mv (.t 3)⟩,
               ⟨(some 55), none, .call (.fn 84) [.t 54]⟩,
               ⟨(some 56), none, .bi .append [24, 24] [.t 53, .t 55]⟩,
               ⟨(some 2), none, .mv (.t 56)⟩])
             (.ret)))))))))))))
theorem b86 : Body Tryd.prog 86 57 [2] k86 := ⟨Enters.of Tryd.func86 (by kernel_rfl) (by kernel_rfl), _, _, Tryd.func86, rfl, by kernel_rfl, rfl, rfl⟩

/-- (*cartridge/cartridgeref1.Writer).Text -/
def k87 : KC :=
 .seq (.seq (.reg [⟨(some 4), none, .mv (.t 1)⟩,
    ⟨(some 5), none, .bi .len [9] [.t 4]⟩,
    ⟨(some 6), none, .bin .gtr 3 (.t 5) (.i .i64 255)⟩])
  (.cond (.t 6)
   (.reg [⟨(some 7), none, .mv (.t 1)⟩,
     ⟨(some 8), none, .sli 9 (.t 7) none (some (.i .i64 255)) none⟩,
     ⟨(some 1), none, .mv (.t 8)⟩])
   (.skip)))
 (.seq (.reg [⟨(some 9), none, .mv (.t 0)⟩,
    ⟨(some 10), none, .mv (.t 0)⟩,
    ⟨(some 11), none, .nc (.t 10)⟩,
    ⟨(some 12), none, .fa 102 (.t 11) 0⟩,
    ⟨(some 13), none, .ld 24 (.t 12)⟩,
    ⟨(some 14), none, .mv (.t 1)⟩,
    ⟨(some 15), none, .bi .len [9] [.t 14]⟩,
    ⟨(some 16), none, .cvt 3 5 (.t 15)⟩,
    ⟨(some 17), none, .bsl 24 1 [(0, .t 16)]⟩,
    ⟨(some 18), none, .bi .append [24, 24] [.t 13, .t 17]⟩,
    ⟨(some 19), none, .nc (.t 9)⟩,
    ⟨(some 20), none, .fa 102 (.t 19) 0⟩,
    ⟨none, none, .st 24 (.t 20) (.t 18)⟩])
  (.reg [⟨(some 21), none, .mv (.t 0)⟩,
    ⟨(some 22), none, .mv (.t 0)⟩,
    ⟨(some 23), none, .nc (.t 22)⟩,
    ⟨(some 24), none, .fa 102 (.t 23) 0⟩,
    ⟨(some 25), none, .ld 24 (.t 24)⟩,
    ⟨(some 26), none, .mv (.t 1)⟩,
    ⟨(some 27), none, .bi .append [24, 9] [.t 25, .t 26]⟩,
    ⟨(some 28), none, .nc (.t 21)⟩,
    ⟨(some 29), none, .fa 102 (.t 28) 0⟩,
    ⟨none, none, .st 24 (.t 29) (.t 27)⟩]))
theorem b87 : Body Tryd.prog 87 30 [] k87 := ⟨Enters.of Tryd.func87 (by kernel_rfl) (by kernel_rfl), _, _, Tryd.func87, rfl, by kernel_rfl, rfl, rfl⟩

/-- cartridge/cartridgeref1.More -/
def k88 : KC :=
 .seq (.reg [⟨(some 4), none, .mv (.i .u32 0)⟩])
 (.seq (.reg [⟨(some 8), none, .mv (.t 0)⟩,
    ⟨(some 9), none, .bin .xor 106 (.t 8) (.i .u32 4294967295)⟩,
    ⟨(some 5), none, .mv (.t 9)⟩])
  (.seq (.seq (.reg [⟨(some 6), none, .mv (.i .i64 0)⟩])
    (.block 0 (.loop (.seq (.seq (.reg [⟨(some 10), none, .mv (.t 6)⟩,
          ⟨(some 11), none, .mv (.t 1)⟩,
          ⟨(some 12), none, .bi .len [24] [.t 11]⟩,
          ⟨(some 13), none, .bin .lss 3 (.t 10) (.t 12)⟩])
        (.cond (.t 13)
         (.skip)
         (.exit 0)))
       (.seq (.block 1 (.seq (.reg [⟨(some 16), none, .mv (.t 5)⟩,
            ⟨(some 17), none, .mv (.t 1)⟩,
            ⟨(some 18), none, .mv (.t 6)⟩,
            ⟨(some 19), none, .ia 24 (.t 17) (.t 18)⟩,
            ⟨(some 20), none, .ld 5 (.t 19)⟩,
            ⟨(some 21), none, .cvt 5 106 (.t 20)⟩,
            ⟨(some 22), none, .bin .xor 106 (.t 16) (.t 21)⟩,
            ⟨(some 5), none, .mv (.t 22)⟩])
          (.seq (.reg [⟨(some 7), none, .mv (.i .i64 0)⟩])
           (.block 2 (.loop (.seq (.seq (.reg [⟨(some 23), none, .mv (.t 7)⟩,
                 ⟨(some 24), none, .bin .lss 3 (.t 23) (.i .i64 8)⟩])
               (.cond (.t 24)
                (.skip)
                (.exit 2)))
              (.seq (.block 3 (.seq (.reg [⟨(some 27), none, .mv (.t 5)⟩,
                   ⟨(some 28), none, .bin .and 106 (.t 27) (.i .u32 1)⟩,
                   ⟨(some 29), none, .bin .eql 106 (.t 28) (.i .u32 1)⟩])
                 (.cond (.t 29)
                  (.reg [⟨(some 30), none, .mv (.t 5)⟩,
                    ⟨(some 31), none, .bin .shr 106 (.t 30) (.i .u64 1)⟩,
                    ⟨(some 32), none, .bin .xor 106 (.t 31) (.i .u32 2197175160)⟩,
                    ⟨(some 5), none, .mv (.t 32)⟩])
                  (.reg [⟨(some 33), none, .mv (.t 5)⟩,
                    ⟨(some 34), none, .bin .shr 106 (.t 33) (.i .u64 1)⟩,
                    ⟨(some 5), none, .mv (.t 34)⟩]))))
               (.reg [⟨(some 25), none, .mv (.t 7)⟩,
                 ⟨(some 26), none, .bin .add 3 (.t 25) (.i .i64 1)⟩,
                 ⟨(some 7), none, .mv (.t 26)⟩]))))))))
        (.reg [⟨(some 14), none, .mv (.t 6)⟩,
          ⟨(some 15), none, .bin .add 3 (.t 14) (.i .i64 1)⟩,
          ⟨(some 6), none, .mv (.t 15)⟩]))))))
   (.seq (.reg [⟨(some 35), none, .mv (.t 5)⟩,
      ⟨(some 36), none, .bin .xor 106 (.t 35) (.i .u32 4294967295)⟩,
      ⟨(some 4), none, .mv (.t 36)⟩])
    (.ret))))
theorem b88 : Body Tryd.prog 88 37 [4] k88 := ⟨Enters.of Tryd.func88 (by kernel_rfl) (by kernel_rfl), _, _, Tryd.func88, rfl, by kernel_rfl, rfl, rfl⟩

/-- cartridge/frame.Get -/
def k89 : KC :=
 .seq (.reg [⟨(some 2), none, .al 42⟩,
   ⟨(some 3), none, .mv (.i .i64 0)⟩])
 (.seq (.reg [⟨(some 7), none, .mv (.t 0)⟩,
    ⟨(some 8), none, .call (.fn 111) [.t 7]⟩,
    ⟨(some 4), none, .mv (.t 8)⟩])
  (.seq (.reg [⟨(some 9), none, .mv (.t 4)⟩,
     ⟨(some 10), none, .call (.fn 112) [.t 9]⟩,
     ⟨(some 11), none, .cvt 5 3 (.t 10)⟩,
     ⟨(some 12), none, .bld 42 [(0, .t 11)]⟩,
     ⟨(some 5), none, .al 42⟩,
     ⟨none, none, .st 42 (.t 5) (.t 12)⟩])
   (.seq (.reg [⟨(some 13), none, .mv (.t 4)⟩,
      ⟨(some 14), none, .call (.fn 113) [.t 13]⟩,
      ⟨(some 15), none, .fa 42 (.t 5) 1⟩,
      ⟨none, none, .st 3 (.t 15) (.t 14)⟩])
    (.seq (.reg [⟨(some 16), none, .mv (.t 4)⟩,
       ⟨(some 17), none, .call (.fn 113) [.t 16]⟩,
       ⟨(some 18), none, .fa 42 (.t 5) 2⟩,
       ⟨none, none, .st 3 (.t 18) (.t 17)⟩])
     (.seq (.reg [⟨(some 19), none, .mv (.t 4)⟩,
        ⟨(some 20), none, .call (.fn 112) [.t 19]⟩,
        ⟨(some 21), none, .cvt 5 3 (.t 20)⟩,
        ⟨(some 22), none, .bin .shl 3 (.t 21) (.i .u64 8)⟩,
        ⟨(some 23), none, .mv (.t 4)⟩,
        ⟨(some 24), none, .call (.fn 112) [.t 23]⟩,
        ⟨(some 25), none, .cvt 5 3 (.t 24)⟩,
        ⟨(some 26), none, .bin .or 3 (.t 22) (.t 25)⟩,
        ⟨(some 6), none, .mv (.t 26)⟩])
      (.seq (.reg [⟨(some 27), none, .mv (.t 4)⟩,
         ⟨(some 28), none, .mv (.t 6)⟩,
         ⟨(some 29), none, .call (.fn 114) [.t 27, .t 28]⟩,
         ⟨(some 30), none, .fa 42 (.t 5) 3⟩,
         ⟨none, none, .st 24 (.t 30) (.t 29)⟩])
       (.seq (.seq (.reg [⟨(some 31), none, .mv (.t 4)⟩,
           ⟨(some 32), none, .call (.fn 115) [.t 31]⟩,
           ⟨(some 33), none, .mv (.t 32)⟩,
           ⟨(some 34), (some (33, false)), .ld 42 (.t 5)⟩,
           ⟨(some 35), (some (33, false)), .call (.fn 85) [.t 34]⟩,
           ⟨(some 36), (some (33, false)), .bin .neq 27 (.t 35) (.i .i64 0)⟩,
           ⟨(some 37), none, .pk (.t 33) (.b true) (.t 36)⟩,
           ⟨(some 38), none, .mv (.t 37)⟩,
           ⟨(some 39), (some (38, false)), .mv (.t 0)⟩,
           ⟨(some 40), (some (38, false)), .ld 42 (.t 5)⟩,
           ⟨(some 41), (some (38, false)), .call (.fn 86) [.t 40]⟩,
           ⟨(some 42), (some (38, false)), .call (.fn 116) [.t 39, .t 41]⟩,
           ⟨(some 43), (some (38, false)), .un .not (.t 42)⟩,
           ⟨(some 44), none, .pk (.t 38) (.b true) (.t 43)⟩])
         (.cond (.t 44)
          (.seq (.reg [⟨(some 45), none, .bld 42 []⟩,
             ⟨none, none, .st 42 (.t 2) (.t 45)⟩,
             ⟨(some 3), none, .mv (.i .i64 2)⟩])
           (.ret))
          (.skip)))
        (.seq (.reg [⟨(some 46), none, .ld 42 (.t 5)⟩,
           ⟨none, none, .st 42 (.t 2) (.t 46)⟩,
           ⟨(some 3), none, .mv (.i .i64 0)⟩])
         (.ret)))))))))

/-- cartridge/record.ReadHead -/
def k90 : KC :=
 .seq (.reg [⟨(some 2), none, .al 23⟩,
   ⟨(some 3), none, .mv (.i .i64 0)⟩])
 (.seq (.reg [⟨(some 8), none, .mv (.t 0)⟩,
    ⟨(some 9), none, .call (.fn 111) [.t 8]⟩,
    ⟨(some 4), none, .mv (.t 9)⟩])
  (.seq (.reg [⟨(some 10), none, .mv (.t 4)⟩,
     ⟨(some 11), none, .call (.fn 117) [.t 10]⟩,
     ⟨(some 12), none, .bld 23 [(0, .t 11)]⟩,
     ⟨(some 5), none, .al 23⟩,
     ⟨none, none, .st 23 (.t 5) (.t 12)⟩])
   (.seq (.seq (.reg [⟨(some 13), none, .fa 23 (.t 5) 1⟩,
       ⟨(some 14), none, .fa 23 (.t 5) 2⟩,
       ⟨(some 15), none, .fa 23 (.t 5) 3⟩,
       ⟨(some 16), none, .fa 23 (.t 5) 4⟩,
       ⟨(some 17), none, .fa 23 (.t 5) 5⟩,
       ⟨(some 18), none, .fa 23 (.t 5) 6⟩,
       ⟨(some 19), none, .bsl 189 6 [(0, .t 13), (1, .t 14), (2, .t 15), (3, .t 16), (4, .t 17), (5, .t 18)]⟩,
       ⟨(some 20), none, .bi .len [189] [.t 19]⟩,
       ⟨(some 21), none, .mv (.i .i64 0)⟩])
     (.block 0 (.loop (.seq (.reg [⟨(some 22), none, .bin .lss 3 (.t 21) (.t 20)⟩])
        (.seq (.cond (.t 22)
          (.skip)
          (.exit 0))
         (.seq (.block 1 (.seq (.reg [⟨(some 23), none, .ia 189 (.t 19) (.t 21)⟩,
              ⟨(some 24), none, .ld 188 (.t 23)⟩,
              ⟨(some 7), none, .mv (.t 24)⟩])
            (.reg [⟨(some 25), none, .mv (.t 7)⟩,
              ⟨(some 26), none, .mv (.t 4)⟩,
              ⟨(some 27), none, .call (.fn 113) [.t 26]⟩,
              ⟨(some 28), none, .nc (.t 25)⟩,
              ⟨none, none, .st 3 (.t 28) (.t 27)⟩])))
          (.reg [⟨(some 29), none, .bin .add 3 (.t 21) (.i .i64 1)⟩,
            ⟨(some 21), none, .mv (.t 29)⟩])))))))
    (.seq (.reg [⟨(some 30), none, .mv (.t 4)⟩,
       ⟨(some 31), none, .call (.fn 112) [.t 30]⟩,
       ⟨(some 32), none, .bin .eql 5 (.t 31) (.i .u8 1)⟩,
       ⟨(some 33), none, .fa 23 (.t 5) 7⟩,
       ⟨none, none, .st 4 (.t 33) (.t 32)⟩])
     (.seq (.seq (.reg [⟨(some 34), none, .mv (.t 4)⟩,
         ⟨(some 35), none, .call (.fn 115) [.t 34]⟩,
         ⟨(some 36), none, .mv (.t 35)⟩,
         ⟨(some 37), (some (36, false)), .ld 23 (.t 5)⟩,
         ⟨(some 38), (some (36, false)), .call (.fn 41) [.t 37]⟩,
         ⟨(some 39), (some (36, false)), .un .not (.t 38)⟩,
         ⟨(some 40), none, .pk (.t 36) (.b true) (.t 39)⟩,
         ⟨(some 41), none, .mv (.t 40)⟩,
         ⟨(some 42), (some (41, false)), .mv (.t 0)⟩,
         ⟨(some 43), (some (41, false)), .ld 23 (.t 5)⟩,
         ⟨(some 44), (some (41, false)), .call (.fn 42) [.t 43]⟩,
         ⟨(some 45), (some (41, false)), .call (.fn 116) [.t 42, .t 44]⟩,
         ⟨(some 46), (some (41, false)), .un .not (.t 45)⟩,
         ⟨(some 47), none, .pk (.t 41) (.b true) (.t 46)⟩])
       (.cond (.t 47)
        (.seq (.reg [⟨(some 48), none, .bld 23 []⟩,
           ⟨none, none, .st 23 (.t 2) (.t 48)⟩,
           ⟨(some 3), none, .mv (.i .i64 2)⟩])
         (.ret))
        (.skip)))
      (.seq (.reg [⟨(some 49), none, .ld 23 (.t 5)⟩,
         ⟨none, none, .st 23 (.t 2) (.t 49)⟩,
         ⟨(some 3), none, .mv (.i .i64 0)⟩])
       (.ret)))))))

/-- cartridge/castagnoli.Sum -/
def k92 : KC :=
 .seq (.reg [⟨(some 2), none, .mv (.i .u32 0)⟩])
 (.seq (.reg [⟨(some 3), none, .mv (.t 0)⟩,
    ⟨(some 4), none, .call (.fn 119) [.i .u32 0, .t 3]⟩,
    ⟨(some 2), none, .mv (.t 4)⟩])
  (.ret))
theorem b92 : Body Tryd.prog 92 5 [2] k92 := ⟨Enters.of Tryd.func92 (by kernel_rfl) (by kernel_rfl), _, _, Tryd.func92, rfl, by kernel_rfl, rfl, rfl⟩

/-- slices.ContainsFunc[[]string,string] -/
def k97 : KC :=
 .seq (.reg [⟨(some 4), none, .mv (.b false)⟩])
 (.seq (.reg [⟨(some 5), none, .mv (.t 0)⟩,
    ⟨(some 6), none, .mv (.t 1)⟩,
    ⟨(some 7), none, .call (.fn 126) [.t 5, .t 6]⟩,
    ⟨(some 8), none, .bin .geq 3 (.t 7) (.i .i64 0)⟩,
    ⟨(some 4), none, .mv (.t 8)⟩])
  (.ret))
theorem b97 : Body Tryd.prog 97 9 [4] k97 := ⟨Enters.of Tryd.func97 (by kernel_rfl) (by kernel_rfl), _, _, Tryd.func97, rfl, by kernel_rfl, rfl, rfl⟩

/-- strings.Split -/
def k98 : KC :=
 .seq (.reg [⟨(some 4), none, .mv (.ns)⟩])
 (.seq (.reg [⟨(some 5), none, .mv (.t 0)⟩,
    ⟨(some 6), none, .mv (.t 1)⟩,
    ⟨(some 7), none, .call (.fn 127) [.t 5, .t 6, .i .i64 0, .i .i64 (-1)]⟩,
    ⟨(some 4), none, .mv (.t 7)⟩])
  (.ret))
theorem b98 : Body Tryd.prog 98 8 [4] k98 := ⟨Enters.of Tryd.func98 (by kernel_rfl) (by kernel_rfl), _, _, Tryd.func98, rfl, by kernel_rfl, rfl, rfl⟩

/-- cartridge/path.wrong -/
def k99 : KC :=
 .seq (.reg [⟨(some 2), none, .mv (.b false)⟩])
 (.seq (.reg [⟨(some 3), none, .mv (.t 0)⟩,
    ⟨(some 4), none, .bin .eql 9 (.t 3) (.s ⟨#[]⟩)⟩,
    ⟨(some 5), none, .mv (.t 4)⟩,
    ⟨(some 6), (some (5, false)), .mv (.t 0)⟩,
    ⟨(some 7), (some (5, false)), .bin .eql 9 (.t 6) (.s ⟨#[46]⟩)⟩,
    ⟨(some 8), none, .pk (.t 5) (.b true) (.t 7)⟩,
    ⟨(some 9), none, .mv (.t 8)⟩,
    ⟨(some 10), (some (9, false)), .mv (.t 0)⟩,
    ⟨(some 11), (some (9, false)), .bin .eql 9 (.t 10) (.s ⟨#[46, 46]⟩)⟩,
    ⟨(some 12), none, .pk (.t 9) (.b true) (.t 11)⟩,
    ⟨(some 13), none, .mv (.t 12)⟩,
    ⟨(some 14), (some (13, false)), .mv (.t 0)⟩,
    ⟨(some 15), (some (13, false)), .call (.fn 128) [.t 14, .fn 129]⟩,
    ⟨(some 16), none, .pk (.t 13) (.b true) (.t 15)⟩,
    ⟨(some 2), none, .mv (.t 16)⟩])
  (.ret))
theorem b99 : Body Tryd.prog 99 17 [2] k99 := ⟨Enters.of Tryd.func99 (by kernel_rfl) (by kernel_rfl), _, _, Tryd.func99, rfl, by kernel_rfl, rfl, rfl⟩

/-- cartridge/cartridgeref1.PathParts -/
def k100 : KC :=
 .seq (.reg [⟨(some 2), none, .mv (.ns)⟩])
 (.seq (.seq (.reg [⟨(some 7), none, .mv (.t 0)⟩,
     ⟨(some 8), none, .bi .len [9] [.t 7]⟩,
     ⟨(some 9), none, .bin .lss 3 (.t 8) (.i .i64 1)⟩,
     ⟨(some 10), none, .mv (.t 9)⟩,
     ⟨(some 11), (some (10, false)), .mv (.t 0)⟩,
     ⟨(some 12), (some (10, false)), .bi .len [9] [.t 11]⟩,
     ⟨(some 13), (some (10, false)), .bin .gtr 3 (.t 12) (.i .i64 24)⟩,
     ⟨(some 14), none, .pk (.t 10) (.b true) (.t 13)⟩])
   (.cond (.t 14)
    (.seq (.reg [⟨(some 2), none, .mv (.ns)⟩])
     (.ret))
    (.skip)))
  (.seq (.reg [⟨(some 3), none, .mv (.ns)⟩])
   (.seq (.reg [⟨(some 4), none, .mv (.s ⟨#[]⟩)⟩])
    (.seq (.seq (.reg [⟨(some 5), none, .mv (.i .i64 0)⟩])
      (.block 0 (.loop (.seq (.seq (.reg [⟨(some 15), none, .mv (.t 5)⟩,
            ⟨(some 16), none, .mv (.t 0)⟩,
            ⟨(some 17), none, .bi .len [9] [.t 16]⟩,
            ⟨(some 18), none, .bin .leq 3 (.t 15) (.t 17)⟩])
          (.cond (.t 18)
           (.skip)
           (.exit 0)))
         (.seq (.block 1 (.seq (.seq (.reg [⟨(some 21), none, .mv (.t 5)⟩,
               ⟨(some 22), none, .mv (.t 0)⟩,
               ⟨(some 23), none, .bi .len [9] [.t 22]⟩,
               ⟨(some 24), none, .bin .eql 3 (.t 21) (.t 23)⟩,
               ⟨(some 25), none, .mv (.t 24)⟩,
               ⟨(some 26), (some (25, false)), .mv (.t 0)⟩,
               ⟨(some 27), (some (25, false)), .mv (.t 5)⟩,
               ⟨(some 28), (some (25, false)), .ix 9 (.t 26) (.t 27)⟩,
               ⟨(some 29), (some (25, false)), .bin .eql 5 (.t 28) (.i .u8 47)⟩,
               ⟨(some 30), none, .pk (.t 25) (.b true) (.t 29)⟩])
             (.cond (.t 30)
              (.seq (.seq (.reg [⟨(some 31), none, .mv (.t 4)⟩,
                  ⟨(some 32), none, .bin .eql 9 (.t 31) (.s ⟨#[]⟩)⟩,
                  ⟨(some 33), none, .mv (.t 32)⟩,
                  ⟨(some 34), (some (33, false)), .mv (.t 4)⟩,
                  ⟨(some 35), (some (33, false)), .bin .eql 9 (.t 34) (.s ⟨#[46]⟩)⟩,
                  ⟨(some 36), none, .pk (.t 33) (.b true) (.t 35)⟩,
                  ⟨(some 37), none, .mv (.t 36)⟩,
                  ⟨(some 38), (some (37, false)), .mv (.t 4)⟩,
                  ⟨(some 39), (some (37, false)), .bin .eql 9 (.t 38) (.s ⟨#[46, 46]⟩)⟩,
                  ⟨(some 40), none, .pk (.t 37) (.b true) (.t 39)⟩])
                (.cond (.t 40)
                 (.seq (.reg [⟨(some 2), none, .mv (.ns)⟩])
                  (.ret))
                 (.skip)))
               (.seq (.reg [⟨(some 41), none, .mv (.t 3)⟩,
                  ⟨(some 42), none, .mv (.t 4)⟩,
                  ⟨(some 43), none, .bsl 80 1 [(0, .t 42)]⟩,
                  ⟨(some 44), none, .bi .append [80, 80] [.t 41, .t 43]⟩,
                  ⟨(some 3), none, .mv (.t 44)⟩])
                (.seq (.reg [⟨(some 4), none, .mv (.s ⟨#[]⟩)⟩])
                 (.exit 1))))
              (.skip)))
            (.seq (.reg [⟨(some 45), none, .mv (.t 0)⟩,
               ⟨(some 46), none, .mv (.t 5)⟩,
               ⟨(some 47), none, .ix 9 (.t 45) (.t 46)⟩,
               ⟨(some 6), none, .mv (.t 47)⟩])
             (.seq (.seq (.reg [⟨(some 48), none, .mv (.t 6)⟩,
                 ⟨(some 49), none, .bin .geq 5 (.t 48) (.i .u8 97)⟩,
                 ⟨(some 50), none, .mv (.t 49)⟩,
                 ⟨(some 51), (some (50, true)), .mv (.t 6)⟩,
                 ⟨(some 52), (some (50, true)), .bin .leq 5 (.t 51) (.i .u8 122)⟩,
                 ⟨(some 53), none, .pk (.t 50) (.t 52) (.b false)⟩,
                 ⟨(some 54), none, .mv (.t 53)⟩,
                 ⟨(some 55), (some (54, false)), .mv (.t 6)⟩,
                 ⟨(some 56), (some (54, false)), .bin .geq 5 (.t 55) (.i .u8 48)⟩,
                 ⟨(some 57), (some (54, false)), .mv (.t 56)⟩,
                 ⟨(some 58), (some (57, true)), .mv (.t 6)⟩,
                 ⟨(some 59), (some (57, true)), .bin .leq 5 (.t 58) (.i .u8 57)⟩,
                 ⟨(some 60), (some (54, false)), .pk (.t 57) (.t 59) (.b false)⟩,
                 ⟨(some 61), none, .pk (.t 54) (.b true) (.t 60)⟩,
                 ⟨(some 62), none, .mv (.t 61)⟩,
                 ⟨(some 63), (some (62, false)), .mv (.t 6)⟩,
                 ⟨(some 64), (some (62, false)), .bin .eql 5 (.t 63) (.i .u8 46)⟩,
                 ⟨(some 65), none, .pk (.t 62) (.b true) (.t 64)⟩,
                 ⟨(some 66), none, .mv (.t 65)⟩,
                 ⟨(some 67), (some (66, false)), .mv (.t 6)⟩,
                 ⟨(some 68), (some (66, false)), .bin .eql 5 (.t 67) (.i .u8 45)⟩,
                 ⟨(some 69), none, .pk (.t 66) (.b true) (.t 68)⟩,
                 ⟨(some 70), none, .mv (.t 69)⟩,
                 ⟨(some 71), (some (70, false)), .mv (.t 6)⟩,
                 ⟨(some 72), (some (70, false)), .bin .eql 5 (.t 71) (.i .u8 95)⟩,
                 ⟨(some 73), none, .pk (.t 70) (.b true) (.t 72)⟩,
                 ⟨(some 74), none, .un .not (.t 73)⟩])
               (.cond (.t 74)
                (.seq (.reg [⟨(some 2), none, .mv (.ns)⟩])
                 (.ret))
                (.skip)))
              (.reg [⟨(some 75), none, .mv (.t 4)⟩,
                ⟨(some 76), none, .mv (.t 0)⟩,
                ⟨(some 77), none, .mv (.t 5)⟩,
                ⟨(some 78), none, .mv (.t 5)⟩,
                ⟨(some 79), none, .bin .add 3 (.t 78) (.i .i64 1)⟩,
                ⟨(some 80), none, .sli 9 (.t 76) (some (.t 77)) (some (.t 79)) none⟩,
                ⟨(some 81), none, .bin .add 9 (.t 75) (.t 80)⟩,
                ⟨(some 4), none, .mv (.t 81)⟩])))))
          (.reg [⟨(some 19), none, .mv (.t 5)⟩,
            ⟨(some 20), none, .bin .add 3 (.t 19) (.i .i64 1)⟩,
            ⟨(some 5), none, .mv (.t 20)⟩]))))))
     (.seq (.reg [⟨(some 82), none, .mv (.t 3)⟩,
        ⟨(some 2), none, .mv (.t 82)⟩])
      (.ret))))))
theorem b100 : Body Tryd.prog 100 83 [2] k100 := ⟨Enters.of Tryd.func100 (by kernel_rfl) (by kernel_rfl), _, _, Tryd.func100, rfl, by kernel_rfl, rfl, rfl⟩

/-- cartridge/frame.room -/
def k110 : KC :=
 .seq (.reg [⟨(some 2), none, .mv (.i .i64 0)⟩])
 (.seq (.seq (.reg [⟨(some 3), none, .mv (.t 0)⟩,
     ⟨(some 4), none, .bin .eql 3 (.t 3) (.i .i64 6)⟩])
   (.cond (.t 4)
    (.seq (.reg [⟨(some 2), none, .mv (.i .i64 79)⟩])
     (.ret))
    (.skip)))
  (.seq (.reg [⟨(some 2), none, .mv (.i .i64 64)⟩])
   (.ret)))
theorem b110 : Body Tryd.prog 110 5 [2] k110 := ⟨Enters.of Tryd.func110 (by kernel_rfl) (by kernel_rfl), _, _, Tryd.func110, rfl, by kernel_rfl, rfl, rfl⟩

/-- cartridge/code.NewReader -/
def k111 : KC :=
 .seq (.reg [⟨(some 2), none, .mv (.np)⟩])
 (.seq (.reg [⟨(some 3), none, .mv (.t 0)⟩,
    ⟨(some 4), none, .call (.fn 66) [.t 3]⟩,
    ⟨(some 5), none, .bld 215 [(0, .t 4)]⟩,
    ⟨(some 6), none, .box 215 (.t 5)⟩,
    ⟨(some 2), none, .mv (.t 6)⟩])
  (.ret))
theorem b111 : Body Tryd.prog 111 7 [2] k111 := ⟨Enters.of Tryd.func111 (by kernel_rfl) (by kernel_rfl), _, _, Tryd.func111, rfl, by kernel_rfl, rfl, rfl⟩

/-- (*cartridge/code.Reader).Byte -/
def k112 : KC :=
 .seq (.reg [⟨(some 2), none, .mv (.i .u8 0)⟩])
 (.seq (.reg [⟨(some 4), none, .mv (.t 0)⟩,
    ⟨(some 5), none, .call (.fn 146) [.t 4, .i .i64 1]⟩,
    ⟨(some 3), none, .mv (.t 5)⟩])
  (.seq (.seq (.reg [⟨(some 6), none, .mv (.t 3)⟩,
      ⟨(some 7), none, .bi .len [24] [.t 6]⟩,
      ⟨(some 8), none, .bin .eql 3 (.t 7) (.i .i64 0)⟩])
    (.cond (.t 8)
     (.seq (.reg [⟨(some 2), none, .mv (.i .u8 0)⟩])
      (.ret))
     (.skip)))
   (.seq (.reg [⟨(some 9), none, .mv (.t 3)⟩,
      ⟨(some 10), none, .ia 24 (.t 9) (.i .i64 0)⟩,
      ⟨(some 11), none, .ld 5 (.t 10)⟩,
      ⟨(some 2), none, .mv (.t 11)⟩])
    (.ret))))
theorem b112 : Body Tryd.prog 112 12 [2] k112 := ⟨Enters.of Tryd.func112 (by kernel_rfl) (by kernel_rfl), _, _, Tryd.func112, rfl, by kernel_rfl, rfl, rfl⟩

/-- (*cartridge/code.Reader).Int -/
def k113 : KC :=
 .seq (.reg [⟨(some 2), none, .mv (.i .i64 0)⟩])
 (.seq (.reg [⟨(some 3), none, .mv (.i .u32 0)⟩])
  (.seq (.seq (.reg [⟨(some 6), none, .mv (.t 0)⟩,
      ⟨(some 7), none, .call (.fn 146) [.t 6, .i .i64 4]⟩,
      ⟨(some 8), none, .bi .len [24] [.t 7]⟩,
      ⟨(some 9), none, .mv (.i .i64 0)⟩])
    (.block 0 (.loop (.seq (.reg [⟨(some 10), none, .bin .lss 3 (.t 9) (.t 8)⟩])
       (.seq (.cond (.t 10)
         (.skip)
         (.exit 0))
        (.seq (.block 1 (.seq (.reg [⟨(some 11), none, .ia 24 (.t 7) (.t 9)⟩,
             ⟨(some 12), none, .ld 5 (.t 11)⟩,
             ⟨(some 5), none, .mv (.t 12)⟩])
           (.reg [⟨(some 13), none, .mv (.t 3)⟩,
             ⟨(some 14), none, .bin .shl 106 (.t 13) (.i .u64 8)⟩,
             ⟨(some 15), none, .mv (.t 5)⟩,
             ⟨(some 16), none, .cvt 5 106 (.t 15)⟩,
             ⟨(some 17), none, .bin .or 106 (.t 14) (.t 16)⟩,
             ⟨(some 3), none, .mv (.t 17)⟩])))
         (.reg [⟨(some 18), none, .bin .add 3 (.t 9) (.i .i64 1)⟩,
           ⟨(some 9), none, .mv (.t 18)⟩])))))))
   (.seq (.reg [⟨(some 19), none, .mv (.t 3)⟩,
      ⟨(some 20), none, .cvt 106 3 (.t 19)⟩,
      ⟨(some 2), none, .mv (.t 20)⟩])
    (.ret))))
theorem b113 : Body Tryd.prog 113 21 [2] k113 := ⟨Enters.of Tryd.func113 (by kernel_rfl) (by kernel_rfl), _, _, Tryd.func113, rfl, by kernel_rfl, rfl, rfl⟩

/-- (*cartridge/code.Reader).Raw -/
def k114 : KC :=
 .seq (.reg [⟨(some 4), none, .mv (.ns)⟩])
 (.seq (.reg [⟨(some 5), none, .mv (.t 0)⟩,
    ⟨(some 6), none, .mv (.t 1)⟩,
    ⟨(some 7), none, .bi .max [3, 3] [.i .i64 0, .t 6]⟩,
    ⟨(some 8), none, .call (.fn 146) [.t 5, .t 7]⟩,
    ⟨(some 9), none, .call (.fn 66) [.t 8]⟩,
    ⟨(some 4), none, .mv (.t 9)⟩])
  (.ret))
theorem b114 : Body Tryd.prog 114 10 [4] k114 := ⟨Enters.of Tryd.func114 (by kernel_rfl) (by kernel_rfl), _, _, Tryd.func114, rfl, by kernel_rfl, rfl, rfl⟩

/-- (*cartridge/code.Reader).Bad -/
def k115 : KC :=
 .seq (.reg [⟨(some 2), none, .mv (.b false)⟩])
 (.seq (.reg [⟨(some 3), none, .mv (.t 0)⟩,
    ⟨(some 4), none, .bin .neq 184 (.t 3) (.np)⟩,
    ⟨(some 5), none, .mv (.t 4)⟩,
    ⟨(some 6), (some (5, true)), .mv (.t 0)⟩,
    ⟨(some 7), (some (5, true)), .nc (.t 6)⟩,
    ⟨(some 8), (some (5, true)), .fa 215 (.t 7) 1⟩,
    ⟨(some 9), (some (5, true)), .ld 4 (.t 8)⟩,
    ⟨(some 10), none, .pk (.t 5) (.t 9) (.b false)⟩,
    ⟨(some 2), none, .mv (.t 10)⟩])
  (.ret))
theorem b115 : Body Tryd.prog 115 11 [2] k115 := ⟨Enters.of Tryd.func115 (by kernel_rfl) (by kernel_rfl), _, _, Tryd.func115, rfl, by kernel_rfl, rfl, rfl⟩

/-- slices.Equal[[]byte,byte] -/
noncomputable def drw116_0 : Array Oper := ((Tryd.f116.body.map regs).getD []).getD 0 #[]
noncomputable def k116 : KC :=
 .seq (.reg [⟨(some 4), none, .mv (.b false)⟩])
 (.seq (.seq (.reg [⟨(some 6), none, .mv (.t 0)⟩,
     ⟨(some 7), none, .bi .len [24] [.t 6]⟩,
     ⟨(some 8), none, .mv (.t 1)⟩,
     ⟨(some 9), none, .bi .len [24] [.t 8]⟩,
     ⟨(some 10), none, .bin .neq 3 (.t 7) (.t 9)⟩])
   (.cond (.t 10)
    (.seq (.reg [⟨(some 4), none, .mv (.b false)⟩])
     (.ret))
    (.skip)))
  (.seq (.seq (.reg [⟨(some 11), none, .mv (.t 0)⟩,
      ⟨(some 12), none, .bi .len [24] [.t 11]⟩,
      ⟨(some 13), none, .mv (.i .i64 0)⟩])
    (.block 0 (.loop (.seq (.reg [⟨(some 14), none, .bin .lss 3 (.t 13) (.t 12)⟩])
       (.seq (.cond (.t 14)
         (.skip)
         (.exit 0))
        (.seq (.block 1 (.seq (.reg [⟨(some 15), none, .mv (.t 13)⟩,
             ⟨(some 5), none, .mv (.t 15)⟩])
           (.seq (.drw drw116_0 [⟨(some 16), none, .mv (.t 0)⟩,
              ⟨(some 17), none, .mv (.t 5)⟩,
              ⟨(some 18), none, .ia 24 (.t 16) (.t 17)⟩,
              ⟨(some 19), none, .ld 5 (.t 18)⟩,
              ⟨(some 20), none, .mv (.t 1)⟩,
              ⟨(some 21), none, .mv (.t 5)⟩,
              ⟨(some 22), none, .ia 24 (.t 20) (.t 21)⟩,
              ⟨(some 23), none, .ld 5 (.t 22)⟩,
              ⟨(some 24), none, .bin .neq 5 (.t 19) (.t 23)⟩])
            (.cond (.t 24)
             (.seq (.reg [⟨(some 4), none, .mv (.b false)⟩])
              (.ret))
             (.skip)))))
         (.reg [⟨(some 25), none, .bin .add 3 (.t 13) (.i .i64 1)⟩,
           ⟨(some 13), none, .mv (.t 25)⟩])))))))
   (.seq (.reg [⟨(some 4), none, .mv (.b true)⟩])
    (.ret))))
theorem b116 : Body Tryd.prog 116 26 [4] k116 := ⟨Enters.of Tryd.func116 (by kernel_rfl) (by kernel_rfl), _, _, Tryd.func116, rfl, by kernel_rfl, rfl, rfl⟩

/-- (*cartridge/code.Reader).Text -/
def k117 : KC :=
 .seq (.reg [⟨(some 2), none, .mv (.s ⟨#[]⟩)⟩])
 (.seq (.reg [⟨(some 3), none, .mv (.t 0)⟩,
    ⟨(some 4), none, .mv (.t 0)⟩,
    ⟨(some 5), none, .call (.fn 112) [.t 4]⟩,
    ⟨(some 6), none, .cvt 5 3 (.t 5)⟩,
    ⟨(some 7), none, .call (.fn 146) [.t 3, .t 6]⟩,
    ⟨(some 8), none, .cvt 24 9 (.t 7)⟩,
    ⟨(some 2), none, .mv (.t 8)⟩])
  (.ret))
theorem b117 : Body Tryd.prog 117 9 [2] k117 := ⟨Enters.of Tryd.func117 (by kernel_rfl) (by kernel_rfl), _, _, Tryd.func117, rfl, by kernel_rfl, rfl, rfl⟩

/-- cartridge/castagnoli.More -/
def k119 : KC :=
 .seq (.reg [⟨(some 4), none, .mv (.i .u32 0)⟩])
 (.seq (.reg [⟨(some 8), none, .mv (.t 0)⟩,
    ⟨(some 9), none, .bin .xor 106 (.t 8) (.i .u32 4294967295)⟩,
    ⟨(some 5), none, .mv (.t 9)⟩])
  (.seq (.seq (.reg [⟨(some 10), none, .mv (.t 1)⟩,
      ⟨(some 11), none, .bi .len [24] [.t 10]⟩,
      ⟨(some 12), none, .mv (.i .i64 0)⟩])
    (.block 0 (.loop (.seq (.reg [⟨(some 13), none, .bin .lss 3 (.t 12) (.t 11)⟩])
       (.seq (.cond (.t 13)
         (.skip)
         (.exit 0))
        (.seq (.block 1 (.seq (.reg [⟨(some 14), none, .ia 24 (.t 10) (.t 12)⟩,
             ⟨(some 15), none, .ld 5 (.t 14)⟩,
             ⟨(some 7), none, .mv (.t 15)⟩])
           (.seq (.reg [⟨(some 16), none, .mv (.t 5)⟩,
              ⟨(some 17), none, .mv (.t 7)⟩,
              ⟨(some 18), none, .cvt 5 106 (.t 17)⟩,
              ⟨(some 19), none, .bin .xor 106 (.t 16) (.t 18)⟩,
              ⟨(some 5), none, .mv (.t 19)⟩])
            (.seq (.reg [⟨(some 20), none, .mv (.i .i64 0)⟩])
             (.block 2 (.loop (.seq (.reg [⟨(some 21), none, .bin .lss 3 (.t 20) (.i .i64 8)⟩])
                (.seq (.cond (.t 21)
                  (.skip)
                  (.exit 2))
                 (.seq (.block 3 (.seq (.reg [⟨(some 22), none, .mv (.t 5)⟩,
                      ⟨(some 23), none, .bin .and 106 (.t 22) (.i .u32 1)⟩,
                      ⟨(some 24), none, .bin .eql 106 (.t 23) (.i .u32 1)⟩])
                    (.cond (.t 24)
                     (.reg [⟨(some 25), none, .mv (.t 5)⟩,
                       ⟨(some 26), none, .bin .shr 106 (.t 25) (.i .u64 1)⟩,
                       ⟨(some 27), none, .bin .xor 106 (.t 26) (.i .u32 2197175160)⟩,
                       ⟨(some 5), none, .mv (.t 27)⟩])
                     (.reg [⟨(some 28), none, .mv (.t 5)⟩,
                       ⟨(some 29), none, .bin .shr 106 (.t 28) (.i .u64 1)⟩,
                       ⟨(some 5), none, .mv (.t 29)⟩]))))
                  (.reg [⟨(some 30), none, .bin .add 3 (.t 20) (.i .i64 1)⟩,
                    ⟨(some 20), none, .mv (.t 30)⟩]))))))))))
         (.reg [⟨(some 31), none, .bin .add 3 (.t 12) (.i .i64 1)⟩,
           ⟨(some 12), none, .mv (.t 31)⟩])))))))
   (.seq (.reg [⟨(some 32), none, .mv (.t 5)⟩,
      ⟨(some 33), none, .bin .xor 106 (.t 32) (.i .u32 4294967295)⟩,
      ⟨(some 4), none, .mv (.t 33)⟩])
    (.ret))))
theorem b119 : Body Tryd.prog 119 34 [4] k119 := ⟨Enters.of Tryd.func119 (by kernel_rfl) (by kernel_rfl), _, _, Tryd.func119, rfl, by kernel_rfl, rfl, rfl⟩

/-- slices.IndexFunc[[]string,string] -/
def k126 : KC :=
 .seq (.reg [⟨(some 4), none, .mv (.i .i64 0)⟩])
 (.seq (.seq (.reg [⟨(some 6), none, .mv (.t 0)⟩,
     ⟨(some 7), none, .bi .len [80] [.t 6]⟩,
     ⟨(some 8), none, .mv (.i .i64 0)⟩])
   (.block 0 (.loop (.seq (.reg [⟨(some 9), none, .bin .lss 3 (.t 8) (.t 7)⟩])
      (.seq (.cond (.t 9)
        (.skip)
        (.exit 0))
       (.seq (.block 1 (.seq (.reg [⟨(some 10), none, .mv (.t 8)⟩,
            ⟨(some 5), none, .mv (.t 10)⟩])
          (.seq (.reg [⟨(some 11), none, .mv (.t 1)⟩,
             ⟨(some 12), none, .mv (.t 0)⟩,
             ⟨(some 13), none, .mv (.t 5)⟩,
             ⟨(some 14), none, .ia 80 (.t 12) (.t 13)⟩,
             ⟨(some 15), none, .ld 9 (.t 14)⟩,
             ⟨(some 16), none, .call (.t 11) [.t 15]⟩])
           (.cond (.t 16)
            (.seq (.reg [⟨(some 17), none, .mv (.t 5)⟩,
               ⟨(some 4), none, .mv (.t 17)⟩])
             (.ret))
            (.skip)))))
        (.reg [⟨(some 18), none, .bin .add 3 (.t 8) (.i .i64 1)⟩,
          ⟨(some 8), none, .mv (.t 18)⟩])))))))
  (.seq (.reg [⟨(some 4), none, .mv (.i .i64 (-1))⟩])
   (.ret)))
theorem b126 : Body Tryd.prog 126 19 [4] k126 := ⟨Enters.of Tryd.func126 (by kernel_rfl) (by kernel_rfl), _, _, Tryd.func126, rfl, by kernel_rfl, rfl, rfl⟩

/-- strings.genSplit -/
def k127 : KC :=
 .seq (.reg [⟨(some 8), none, .mv (.ns)⟩])
 (.seq (.seq (.reg [⟨(some 12), none, .mv (.t 3)⟩,
     ⟨(some 13), none, .bin .eql 3 (.t 12) (.i .i64 0)⟩])
   (.cond (.t 13)
    (.seq (.reg [⟨(some 8), none, .mv (.ns)⟩])
     (.ret))
    (.skip)))
  (.seq (.seq (.reg [⟨(some 14), none, .mv (.t 1)⟩,
      ⟨(some 15), none, .bin .eql 9 (.t 14) (.s ⟨#[]⟩)⟩])
    (.cond (.t 15)
     (.seq (.reg [⟨(some 16), none, .mv (.t 0)⟩,
        ⟨(some 17), none, .mv (.t 3)⟩,
        ⟨(some 18), none, .call (.fn 152) [.t 16, .t 17]⟩,
        ⟨(some 8), none, .mv (.t 18)⟩])
      (.ret))
     (.skip)))
   (.seq (.seq (.reg [⟨(some 19), none, .mv (.t 3)⟩,
       ⟨(some 20), none, .bin .lss 3 (.t 19) (.i .i64 0)⟩])
     (.cond (.t 20)
      (.reg [⟨(some 21), none, .mv (.t 0)⟩,
        ⟨(some 22), none, .mv (.t 1)⟩,
        ⟨(some 23), none, .call (.fn 153) [.t 21, .t 22]⟩,
        ⟨(some 24), none, .bin .add 3 (.t 23) (.i .i64 1)⟩,
        ⟨(some 3), none, .mv (.t 24)⟩])
      (.skip)))
    (.seq (.reg [⟨(some 25), none, .mv (.t 3)⟩,
       ⟨(some 26), none, .mv (.t 0)⟩,
       ⟨(some 27), none, .bi .len [9] [.t 26]⟩,
       ⟨(some 28), none, .bin .add 3 (.t 27) (.i .i64 1)⟩,
       ⟨(some 29), none, .bi .min [3, 3] [.t 25, .t 28]⟩,
       ⟨(some 3), none, .mv (.t 29)⟩])
     (.seq (.reg [⟨(some 30), none, .mv (.t 3)⟩,
        ⟨(some 31), none, .mk 80 (.t 30) (.t 30)⟩,
        ⟨(some 9), none, .mv (.t 31)⟩])
      (.seq (.reg [⟨(some 32), none, .mv (.t 3)⟩,
         ⟨(some 33), none, .bin .sub 3 (.t 32) (.i .i64 1)⟩,
         ⟨(some 3), none, .mv (.t 33)⟩])
       (.seq (.reg [⟨(some 10), none, .mv (.i .i64 0)⟩])
        (.seq (.block 0 (.loop (.seq (.seq (.reg [⟨(some 34), none, .mv (.t 10)⟩,
               ⟨(some 35), none, .mv (.t 3)⟩,
               ⟨(some 36), none, .bin .lss 3 (.t 34) (.t 35)⟩])
             (.cond (.t 36)
              (.skip)
              (.exit 0)))
            (.block 1 (.seq (.reg [⟨(some 37), none, .mv (.t 0)⟩,
                ⟨(some 38), none, .mv (.t 1)⟩,
                ⟨(some 39), none, .call (.fn 154) [.t 37, .t 38]⟩,
                ⟨(some 11), none, .mv (.t 39)⟩])
              (.seq (.seq (.reg [⟨(some 40), none, .mv (.t 11)⟩,
                  ⟨(some 41), none, .bin .lss 3 (.t 40) (.i .i64 0)⟩])
                (.cond (.t 41)
                 (.exit 0)
                 (.skip)))
               (.seq (.reg [⟨(some 42), none, .mv (.t 9)⟩,
                  ⟨(some 43), none, .mv (.t 10)⟩,
                  ⟨(some 44), none, .mv (.t 0)⟩,
                  ⟨(some 45), none, .mv (.t 11)⟩,
                  ⟨(some 46), none, .mv (.t 2)⟩,
                  ⟨(some 47), none, .bin .add 3 (.t 45) (.t 46)⟩,
                  ⟨(some 48), none, .sli 9 (.t 44) none (some (.t 47)) none⟩,
                  ⟨(some 49), none, .ia 80 (.t 42) (.t 43)⟩,
                  ⟨none, none, .st 9 (.t 49) (.t 48)⟩])
                (.seq (.reg [⟨(some 50), none, .mv (.t 0)⟩,
                   ⟨(some 51), none, .mv (.t 11)⟩,
                   ⟨(some 52), none, .mv (.t 1)⟩,
                   ⟨(some 53), none, .bi .len [9] [.t 52]⟩,
                   ⟨(some 54), none, .bin .add 3 (.t 51) (.t 53)⟩,
                   ⟨(some 55), none, .sli 9 (.t 50) (some (.t 54)) none none⟩,
                   ⟨(some 0), none, .mv (.t 55)⟩])
                 (.reg [⟨(some 56), none, .mv (.t 10)⟩,
                   ⟨(some 57), none, .bin .add 3 (.t 56) (.i .i64 1)⟩,
                   ⟨(some 10), none, .mv (.t 57)⟩])))))))))
         (.seq (.reg [⟨(some 58), none, .mv (.t 9)⟩,
            ⟨(some 59), none, .mv (.t 10)⟩,
            ⟨(some 60), none, .mv (.t 0)⟩,
            ⟨(some 61), none, .ia 80 (.t 58) (.t 59)⟩,
            ⟨none, none, .st 9 (.t 61) (.t 60)⟩])
          (.seq (.reg [⟨(some 62), none, .mv (.t 9)⟩,
             ⟨(some 63), none, .mv (.t 10)⟩,
             ⟨(some 64), none, .bin .add 3 (.t 63) (.i .i64 1)⟩,
             ⟨(some 65), none, .sli 80 (.t 62) none (some (.t 64)) none⟩,
             ⟨(some 8), none, .mv (.t 65)⟩])
           (.ret)))))))))))
theorem b127 : Body Tryd.prog 127 66 [8] k127 := ⟨Enters.of Tryd.func127 (by kernel_rfl) (by kernel_rfl), _, _, Tryd.func127, rfl, by kernel_rfl, rfl, rfl⟩

/-- strings.ContainsFunc -/
def k128 : KC :=
 .seq (.reg [⟨(some 4), none, .mv (.b false)⟩])
 (.seq (.reg [⟨(some 5), none, .mv (.t 0)⟩,
    ⟨(some 6), none, .mv (.t 1)⟩,
    ⟨(some 7), none, .call (.fn 155) [.t 5, .t 6]⟩,
    ⟨(some 8), none, .bin .geq 3 (.t 7) (.i .i64 0)⟩,
    ⟨(some 4), none, .mv (.t 8)⟩])
  (.ret))
theorem b128 : Body Tryd.prog 128 9 [4] k128 := ⟨Enters.of Tryd.func128 (by kernel_rfl) (by kernel_rfl), _, _, Tryd.func128, rfl, by kernel_rfl, rfl, rfl⟩

/-- cartridge/path.other -/
def k129 : KC :=
 .seq (.reg [⟨(some 2), none, .mv (.b false)⟩])
 (.seq (.reg [⟨(some 3), none, .mv (.t 0)⟩,
    ⟨(some 4), none, .bin .lss 21 (.t 3) (.i .i32 97)⟩,
    ⟨(some 5), none, .mv (.t 4)⟩,
    ⟨(some 6), (some (5, false)), .mv (.t 0)⟩,
    ⟨(some 7), (some (5, false)), .bin .gtr 21 (.t 6) (.i .i32 122)⟩,
    ⟨(some 8), none, .pk (.t 5) (.b true) (.t 7)⟩,
    ⟨(some 9), none, .mv (.t 8)⟩,
    ⟨(some 10), (some (9, true)), .mv (.t 0)⟩,
    ⟨(some 11), (some (9, true)), .bin .lss 21 (.t 10) (.i .i32 48)⟩,
    ⟨(some 12), (some (9, true)), .mv (.t 11)⟩,
    ⟨(some 13), (some (12, false)), .mv (.t 0)⟩,
    ⟨(some 14), (some (12, false)), .bin .gtr 21 (.t 13) (.i .i32 57)⟩,
    ⟨(some 15), (some (9, true)), .pk (.t 12) (.b true) (.t 14)⟩,
    ⟨(some 16), none, .pk (.t 9) (.t 15) (.b false)⟩,
    ⟨(some 17), none, .mv (.t 16)⟩,
    ⟨(some 18), (some (17, true)), .mv (.t 0)⟩,
    ⟨(some 19), (some (17, true)), .bin .neq 21 (.t 18) (.i .i32 46)⟩,
    ⟨(some 20), none, .pk (.t 17) (.t 19) (.b false)⟩,
    ⟨(some 21), none, .mv (.t 20)⟩,
    ⟨(some 22), (some (21, true)), .mv (.t 0)⟩,
    ⟨(some 23), (some (21, true)), .bin .neq 21 (.t 22) (.i .i32 45)⟩,
    ⟨(some 24), none, .pk (.t 21) (.t 23) (.b false)⟩,
    ⟨(some 25), none, .mv (.t 24)⟩,
    ⟨(some 26), (some (25, true)), .mv (.t 0)⟩,
    ⟨(some 27), (some (25, true)), .bin .neq 21 (.t 26) (.i .i32 95)⟩,
    ⟨(some 28), none, .pk (.t 25) (.t 27) (.b false)⟩,
    ⟨(some 2), none, .mv (.t 28)⟩])
  (.ret))
theorem b129 : Body Tryd.prog 129 29 [2] k129 := ⟨Enters.of Tryd.func129 (by kernel_rfl) (by kernel_rfl), _, _, Tryd.func129, rfl, by kernel_rfl, rfl, rfl⟩

/-- (*cartridge/code.Reader).take -/
def k146 : KC :=
 .seq (.reg [⟨(some 4), none, .mv (.ns)⟩])
 (.seq (.seq (.reg [⟨(some 6), none, .mv (.t 0)⟩,
     ⟨(some 7), none, .bin .eql 184 (.t 6) (.np)⟩,
     ⟨(some 8), none, .mv (.t 7)⟩,
     ⟨(some 9), (some (8, false)), .mv (.t 0)⟩,
     ⟨(some 10), (some (8, false)), .nc (.t 9)⟩,
     ⟨(some 11), (some (8, false)), .fa 215 (.t 10) 1⟩,
     ⟨(some 12), (some (8, false)), .ld 4 (.t 11)⟩,
     ⟨(some 13), none, .pk (.t 8) (.b true) (.t 12)⟩])
   (.cond (.t 13)
    (.seq (.reg [⟨(some 4), none, .mv (.ns)⟩])
     (.ret))
    (.skip)))
  (.seq (.seq (.reg [⟨(some 14), none, .mv (.t 1)⟩,
      ⟨(some 15), none, .mv (.t 0)⟩,
      ⟨(some 16), none, .nc (.t 15)⟩,
      ⟨(some 17), none, .fa 215 (.t 16) 0⟩,
      ⟨(some 18), none, .ld 24 (.t 17)⟩,
      ⟨(some 19), none, .bi .len [24] [.t 18]⟩,
      ⟨(some 20), none, .bin .gtr 3 (.t 14) (.t 19)⟩])
    (.cond (.t 20)
     (.seq (.reg [⟨(some 21), none, .mv (.t 0)⟩,
        ⟨(some 22), none, .mv (.t 0)⟩,
        ⟨(some 23), none, .nc (.t 21)⟩,
        ⟨(some 24), none, .fa 215 (.t 23) 0⟩,
        ⟨none, none, .st 24 (.t 24) (.ns)⟩,
        ⟨(some 25), none, .nc (.t 22)⟩,
        ⟨(some 26), none, .fa 215 (.t 25) 1⟩,
        ⟨none, none, .st 4 (.t 26) (.b true)⟩])
      (.seq (.reg [⟨(some 4), none, .mv (.ns)⟩])
       (.ret)))
     (.skip)))
   (.seq (.reg [⟨(some 27), none, .mv (.t 0)⟩,
      ⟨(some 28), none, .nc (.t 27)⟩,
      ⟨(some 29), none, .fa 215 (.t 28) 0⟩,
      ⟨(some 30), none, .ld 24 (.t 29)⟩,
      ⟨(some 31), none, .mv (.t 1)⟩,
      ⟨(some 32), none, .sli 24 (.t 30) none (some (.t 31)) none⟩,
      ⟨(some 5), none, .mv (.t 32)⟩])
    (.seq (.reg [⟨(some 33), none, .mv (.t 0)⟩,
       ⟨(some 34), none, .mv (.t 0)⟩,
       ⟨(some 35), none, .nc (.t 34)⟩,
       ⟨(some 36), none, .fa 215 (.t 35) 0⟩,
       ⟨(some 37), none, .ld 24 (.t 36)⟩,
       ⟨(some 38), none, .mv (.t 1)⟩,
       ⟨(some 39), none, .sli 24 (.t 37) (some (.t 38)) none none⟩,
       ⟨(some 40), none, .nc (.t 33)⟩,
       ⟨(some 41), none, .fa 215 (.t 40) 0⟩,
       ⟨none, none, .st 24 (.t 41) (.t 39)⟩])
     (.seq (.reg [⟨(some 42), none, .mv (.t 5)⟩,
        ⟨(some 4), none, .mv (.t 42)⟩])
      (.ret))))))
theorem b146 : Body Tryd.prog 146 43 [4] k146 := ⟨Enters.of Tryd.func146 (by kernel_rfl) (by kernel_rfl), _, _, Tryd.func146, rfl, by kernel_rfl, rfl, rfl⟩

end Go.Proofs.YtliahlgkinhjlaaDoor
