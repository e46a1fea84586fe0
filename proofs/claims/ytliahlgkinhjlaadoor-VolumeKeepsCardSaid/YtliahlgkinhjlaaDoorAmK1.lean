import Derived.Test.YtliahlgkinhjlaaDoorAmT
/- The code, cooked, and tied to the program's; written by gen.py. -/
namespace Go.Proofs.YtliahlgkinhjlaaDoor
open Go.AM

/-- strings.Count -/
def k153 : KC :=
 .seq (.reg [⟨(some 4), none, .mv (.i .i64 0)⟩])
 (.seq (.seq (.reg [⟨(some 7), none, .mv (.t 1)⟩,
     ⟨(some 8), none, .bi .len [9] [.t 7]⟩,
     ⟨(some 9), none, .bin .eql 3 (.t 8) (.i .i64 0)⟩])
   (.cond (.t 9)
    (.seq (.reg [⟨(some 10), none, .mv (.t 0)⟩,
       ⟨(some 11), none, .call (.fn 165) [.t 10]⟩,
       ⟨(some 12), none, .bin .add 3 (.t 11) (.i .i64 1)⟩,
       ⟨(some 4), none, .mv (.t 12)⟩])
     (.ret))
    (.skip)))
  (.seq (.seq (.reg [⟨(some 13), none, .mv (.t 1)⟩,
      ⟨(some 14), none, .bi .len [9] [.t 13]⟩,
      ⟨(some 15), none, .bin .eql 3 (.t 14) (.i .i64 1)⟩])
    (.cond (.t 15)
     (.seq (.reg [⟨(some 16), none, .mv (.t 0)⟩,
        ⟨(some 17), none, .mv (.t 1)⟩,
        ⟨(some 18), none, .ix 9 (.t 17) (.i .i64 0)⟩,
        ⟨(some 19), none, .call (.fn 167) [.t 16, .t 18]⟩,
        ⟨(some 4), none, .mv (.t 19)⟩])
      (.ret))
     (.skip)))
   (.seq (.reg [⟨(some 5), none, .mv (.i .i64 0)⟩])
    (.block 0 (.loop (.block 1 (.seq (.reg [⟨(some 20), none, .mv (.t 0)⟩,
          ⟨(some 21), none, .mv (.t 1)⟩,
          ⟨(some 22), none, .call (.fn 154) [.t 20, .t 21]⟩,
          ⟨(some 6), none, .mv (.t 22)⟩])
        (.seq (.seq (.reg [⟨(some 23), none, .mv (.t 6)⟩,
            ⟨(some 24), none, .bin .eql 3 (.t 23) (.i .i64 (-1))⟩])
          (.cond (.t 24)
           (.seq (.reg [⟨(some 25), none, .mv (.t 5)⟩,
              ⟨(some 4), none, .mv (.t 25)⟩])
            (.ret))
           (.skip)))
         (.seq (.reg [⟨(some 26), none, .mv (.t 5)⟩,
            ⟨(some 27), none, .bin .add 3 (.t 26) (.i .i64 1)⟩,
            ⟨(some 5), none, .mv (.t 27)⟩])
          (.reg [⟨(some 28), none, .mv (.t 0)⟩,
            ⟨(some 29), none, .mv (.t 6)⟩,
            ⟨(some 30), none, .mv (.t 1)⟩,
            ⟨(some 31), none, .bi .len [9] [.t 30]⟩,
            ⟨(some 32), none, .bin .add 3 (.t 29) (.t 31)⟩,
            ⟨(some 33), none, .sli 9 (.t 28) (some (.t 32)) none none⟩,
            ⟨(some 0), none, .mv (.t 33)⟩]))))))))))
theorem b153 : Body Tryd.prog 153 34 [4] k153 := ⟨Enters.of Tryd.func153 (by kernel_rfl) (by kernel_rfl), _, _, Tryd.func153, rfl, by kernel_rfl, rfl, rfl⟩

/-- strings.Index -/
def k154 : KC :=
 .seq (.reg [⟨(some 4), none, .mv (.i .i64 0)⟩])
 (.seq (.reg [⟨(some 5), none, .mv (.t 0)⟩,
    ⟨(some 6), none, .mv (.t 1)⟩,
    ⟨(some 7), none, .call (.fn 168) [.t 5, .t 6]⟩,
    ⟨(some 4), none, .mv (.t 7)⟩])
  (.ret))
theorem b154 : Body Tryd.prog 154 8 [4] k154 := ⟨Enters.of Tryd.func154 (by kernel_rfl) (by kernel_rfl), _, _, Tryd.func154, rfl, by kernel_rfl, rfl, rfl⟩

/-- strings.IndexFunc -/
def k155 : KC :=
 .seq (.reg [⟨(some 4), none, .mv (.i .i64 0)⟩])
 (.seq (.reg [⟨(some 5), none, .mv (.t 0)⟩,
    ⟨(some 6), none, .mv (.t 1)⟩,
    ⟨(some 7), none, .call (.fn 169) [.t 5, .t 6, .b true]⟩,
    ⟨(some 4), none, .mv (.t 7)⟩])
  (.ret))
theorem b155 : Body Tryd.prog 155 8 [4] k155 := ⟨Enters.of Tryd.func155 (by kernel_rfl) (by kernel_rfl), _, _, Tryd.func155, rfl, by kernel_rfl, rfl, rfl⟩

/-- internal/stringslite.Index -/
def k168 : KC :=
 .seq (.reg [⟨(some 4), none, .mv (.i .i64 0)⟩])
 (.seq (.reg [⟨(some 14), none, .mv (.t 1)⟩,
    ⟨(some 15), none, .bi .len [9] [.t 14]⟩,
    ⟨(some 5), none, .mv (.t 15)⟩])
  (.seq (.block 0 (.seq (.reg [⟨(some 17), none, .mv (.t 5)⟩,
       ⟨(some 18), none, .bin .eql 3 (.t 17) (.i .i64 0)⟩,
       ⟨(some 19), none, .mv (.t 18)⟩,
       ⟨(some 20), (some (19, false)), .mv (.t 1)⟩,
       ⟨(some 21), (some (19, false)), .mv (.t 0)⟩,
       ⟨(some 22), (some (19, false)), .bin .eql 9 (.t 20) (.t 21)⟩,
       ⟨(some 23), none, .pk (.t 19) (.b true) (.t 22)⟩,
       ⟨(some 16), none, .mv (.t 23)⟩])
     (.cond (.t 16)
      (.seq (.reg [⟨(some 4), none, .mv (.i .i64 0)⟩])
       (.ret))
      (.seq (.reg [⟨(some 25), none, .mv (.t 5)⟩,
         ⟨(some 26), none, .bin .eql 3 (.t 25) (.i .i64 1)⟩,
         ⟨(some 24), none, .mv (.t 26)⟩])
       (.cond (.t 24)
        (.seq (.reg [⟨(some 27), none, .mv (.t 0)⟩,
           ⟨(some 28), none, .mv (.t 1)⟩,
           ⟨(some 29), none, .ix 9 (.t 28) (.i .i64 0)⟩,
           ⟨(some 30), none, .call (.fn 173) [.t 27, .t 29]⟩,
           ⟨(some 4), none, .mv (.t 30)⟩])
         (.ret))
        (.seq (.reg [⟨(some 32), none, .mv (.t 5)⟩,
           ⟨(some 33), none, .mv (.t 0)⟩,
           ⟨(some 34), none, .bi .len [9] [.t 33]⟩,
           ⟨(some 35), none, .bin .geq 3 (.t 32) (.t 34)⟩,
           ⟨(some 31), none, .mv (.t 35)⟩])
         (.cond (.t 31)
          (.seq (.reg [⟨(some 4), none, .mv (.i .i64 (-1))⟩])
           (.ret))
          (.seq (.reg [⟨(some 37), none, .mv (.t 5)⟩,
             ⟨(some 38), none, .ld 3 (.gl 0)⟩,
             ⟨(some 39), none, .bin .leq 3 (.t 37) (.t 38)⟩,
             ⟨(some 40), none, .mv (.t 39)⟩,
             ⟨(some 41), (some (40, true)), .mv (.t 0)⟩,
             ⟨(some 42), (some (40, true)), .bi .len [9] [.t 41]⟩,
             ⟨(some 43), (some (40, true)), .bin .leq 3 (.t 42) (.i .i64 64)⟩,
             ⟨(some 44), none, .pk (.t 40) (.t 43) (.b false)⟩,
             ⟨(some 36), none, .mv (.t 44)⟩])
           (.cond (.t 36)
            (.seq (.reg [⟨(some 45), none, .mv (.t 0)⟩,
               ⟨(some 46), none, .mv (.t 1)⟩,
               ⟨(some 47), none, .call (.fn 174) [.t 45, .t 46]⟩,
               ⟨(some 4), none, .mv (.t 47)⟩])
             (.ret))
            (.skip))))))))))
   (.seq (.reg [⟨(some 48), none, .mv (.t 1)⟩,
      ⟨(some 49), none, .ix 9 (.t 48) (.i .i64 0)⟩,
      ⟨(some 6), none, .mv (.t 49)⟩])
    (.seq (.reg [⟨(some 50), none, .mv (.t 1)⟩,
       ⟨(some 51), none, .ix 9 (.t 50) (.i .i64 1)⟩,
       ⟨(some 7), none, .mv (.t 51)⟩])
     (.seq (.reg [⟨(some 8), none, .mv (.i .i64 0)⟩])
      (.seq (.reg [⟨(some 52), none, .mv (.t 0)⟩,
         ⟨(some 53), none, .bi .len [9] [.t 52]⟩,
         ⟨(some 54), none, .mv (.t 5)⟩,
         ⟨(some 55), none, .bin .sub 3 (.t 53) (.t 54)⟩,
         ⟨(some 56), none, .bin .add 3 (.t 55) (.i .i64 1)⟩,
         ⟨(some 9), none, .mv (.t 56)⟩])
       (.seq (.reg [⟨(some 10), none, .mv (.i .i64 0)⟩])
        (.seq (.block 1 (.loop (.seq (.seq (.reg [⟨(some 57), none, .mv (.t 8)⟩,
               ⟨(some 58), none, .mv (.t 9)⟩,
               ⟨(some 59), none, .bin .lss 3 (.t 57) (.t 58)⟩])
             (.cond (.t 59)
              (.skip)
              (.exit 1)))
            (.block 2 (.seq (.seq (.reg [⟨(some 60), none, .mv (.t 0)⟩,
                 ⟨(some 61), none, .mv (.t 8)⟩,
                 ⟨(some 62), none, .ix 9 (.t 60) (.t 61)⟩,
                 ⟨(some 63), none, .mv (.t 6)⟩,
                 ⟨(some 64), none, .bin .neq 5 (.t 62) (.t 63)⟩])
               (.cond (.t 64)
                (.seq (.reg [⟨(some 65), none, .mv (.t 0)⟩,
                   ⟨(some 66), none, .mv (.t 8)⟩,
                   ⟨(some 67), none, .bin .add 3 (.t 66) (.i .i64 1)⟩,
                   ⟨(some 68), none, .mv (.t 9)⟩,
                   ⟨(some 69), none, .sli 9 (.t 65) (some (.t 67)) (some (.t 68)) none⟩,
                   ⟨(some 70), none, .mv (.t 6)⟩,
                   ⟨(some 71), none, .call (.fn 173) [.t 69, .t 70]⟩,
                   ⟨(some 11), none, .mv (.t 71)⟩])
                 (.seq (.seq (.reg [⟨(some 72), none, .mv (.t 11)⟩,
                     ⟨(some 73), none, .bin .lss 3 (.t 72) (.i .i64 0)⟩])
                   (.cond (.t 73)
                    (.seq (.reg [⟨(some 4), none, .mv (.i .i64 (-1))⟩])
                     (.ret))
                    (.skip)))
                  (.reg [⟨(some 74), none, .mv (.t 8)⟩,
                    ⟨(some 75), none, .mv (.t 11)⟩,
                    ⟨(some 76), none, .bin .add 3 (.t 75) (.i .i64 1)⟩,
                    ⟨(some 77), none, .bin .add 3 (.t 74) (.t 76)⟩,
                    ⟨(some 8), none, .mv (.t 77)⟩])))
                (.skip)))
              (.seq (.seq (.reg [⟨(some 78), none, .mv (.t 0)⟩,
                  ⟨(some 79), none, .mv (.t 8)⟩,
                  ⟨(some 80), none, .bin .add 3 (.t 79) (.i .i64 1)⟩,
                  ⟨(some 81), none, .ix 9 (.t 78) (.t 80)⟩,
                  ⟨(some 82), none, .mv (.t 7)⟩,
                  ⟨(some 83), none, .bin .eql 5 (.t 81) (.t 82)⟩,
                  ⟨(some 84), none, .mv (.t 83)⟩,
                  ⟨(some 85), (some (84, true)), .mv (.t 0)⟩,
                  ⟨(some 86), (some (84, true)), .mv (.t 8)⟩,
                  ⟨(some 87), (some (84, true)), .mv (.t 8)⟩,
                  ⟨(some 88), (some (84, true)), .mv (.t 5)⟩,
                  ⟨(some 89), (some (84, true)), .bin .add 3 (.t 87) (.t 88)⟩,
                  ⟨(some 90), (some (84, true)), .sli 9 (.t 85) (some (.t 86)) (some (.t 89)) none⟩,
                  ⟨(some 91), (some (84, true)), .mv (.t 1)⟩,
                  ⟨(some 92), (some (84, true)), .bin .eql 9 (.t 90) (.t 91)⟩,
                  ⟨(some 93), none, .pk (.t 84) (.t 92) (.b false)⟩])
                (.cond (.t 93)
                 (.seq (.reg [⟨(some 94), none, .mv (.t 8)⟩,
                    ⟨(some 4), none, .mv (.t 94)⟩])
                  (.ret))
                 (.skip)))
               (.seq (.reg [⟨(some 95), none, .mv (.t 8)⟩,
                  ⟨(some 96), none, .bin .add 3 (.t 95) (.i .i64 1)⟩,
                  ⟨(some 8), none, .mv (.t 96)⟩])
                (.seq (.reg [⟨(some 97), none, .mv (.t 10)⟩,
                   ⟨(some 98), none, .bin .add 3 (.t 97) (.i .i64 1)⟩,
                   ⟨(some 10), none, .mv (.t 98)⟩])
                 (.seq (.reg [⟨(some 99), none, .mv (.t 5)⟩,
                    ⟨(some 100), none, .ld 3 (.gl 0)⟩,
                    ⟨(some 101), none, .bin .leq 3 (.t 99) (.t 100)⟩,
                    ⟨(some 102), none, .mv (.t 101)⟩,
                    ⟨(some 103), (some (102, true)), .mv (.t 10)⟩,
                    ⟨(some 104), (some (102, true)), .mv (.t 8)⟩,
                    ⟨(some 105), (some (102, true)), .call (.fn 175) [.t 104]⟩,
                    ⟨(some 106), (some (102, true)), .bin .gtr 3 (.t 103) (.t 105)⟩,
                    ⟨(some 107), none, .pk (.t 102) (.t 106) (.b false)⟩])
                  (.cond (.t 107)
                   (.seq (.reg [⟨(some 108), none, .mv (.t 0)⟩,
                      ⟨(some 109), none, .mv (.t 8)⟩,
                      ⟨(some 110), none, .sli 9 (.t 108) (some (.t 109)) none none⟩,
                      ⟨(some 111), none, .mv (.t 1)⟩,
                      ⟨(some 112), none, .call (.fn 174) [.t 110, .t 111]⟩,
                      ⟨(some 12), none, .mv (.t 112)⟩])
                    (.seq (.seq (.reg [⟨(some 113), none, .mv (.t 12)⟩,
                        ⟨(some 114), none, .bin .geq 3 (.t 113) (.i .i64 0)⟩])
                      (.cond (.t 114)
                       (.seq (.reg [⟨(some 115), none, .mv (.t 12)⟩,
                          ⟨(some 116), none, .mv (.t 8)⟩,
                          ⟨(some 117), none, .bin .add 3 (.t 115) (.t 116)⟩,
                          ⟨(some 4), none, .mv (.t 117)⟩])
                        (.ret))
                       (.skip)))
                     (.seq (.reg [⟨(some 4), none, .mv (.i .i64 (-1))⟩])
                      (.ret))))
                   (.seq (.reg [⟨(some 118), none, .mv (.t 5)⟩,
                      ⟨(some 119), none, .ld 3 (.gl 0)⟩,
                      ⟨(some 120), none, .bin .gtr 3 (.t 118) (.t 119)⟩,
                      ⟨(some 121), none, .mv (.t 120)⟩,
                      ⟨(some 122), (some (121, true)), .mv (.t 10)⟩,
                      ⟨(some 123), (some (121, true)), .mv (.t 8)⟩,
                      ⟨(some 124), (some (121, true)), .bin .shr 3 (.t 123) (.i .u64 4)⟩,
                      ⟨(some 125), (some (121, true)), .bin .add 3 (.i .i64 4) (.t 124)⟩,
                      ⟨(some 126), (some (121, true)), .bin .geq 3 (.t 122) (.t 125)⟩,
                      ⟨(some 127), none, .pk (.t 121) (.t 126) (.b false)⟩,
                      ⟨(some 128), none, .mv (.t 127)⟩,
                      ⟨(some 129), (some (128, true)), .mv (.t 8)⟩,
                      ⟨(some 130), (some (128, true)), .mv (.t 9)⟩,
                      ⟨(some 131), (some (128, true)), .bin .lss 3 (.t 129) (.t 130)⟩,
                      ⟨(some 132), none, .pk (.t 128) (.t 131) (.b false)⟩])
                    (.cond (.t 132)
                     (.seq (.reg [⟨(some 133), none, .mv (.t 0)⟩,
                        ⟨(some 134), none, .mv (.t 8)⟩,
                        ⟨(some 135), none, .sli 9 (.t 133) (some (.t 134)) none none⟩,
                        ⟨(some 136), none, .mv (.t 1)⟩,
                        ⟨(some 137), none, .call (.fn 176) [.t 135, .t 136]⟩,
                        ⟨(some 13), none, .mv (.t 137)⟩])
                      (.seq (.seq (.reg [⟨(some 138), none, .mv (.t 13)⟩,
                          ⟨(some 139), none, .bin .lss 3 (.t 138) (.i .i64 0)⟩])
                        (.cond (.t 139)
                         (.seq (.reg [⟨(some 4), none, .mv (.i .i64 (-1))⟩])
                          (.ret))
                         (.skip)))
                       (.seq (.reg [⟨(some 140), none, .mv (.t 8)⟩,
                          ⟨(some 141), none, .mv (.t 13)⟩,
                          ⟨(some 142), none, .bin .add 3 (.t 140) (.t 141)⟩,
                          ⟨(some 4), none, .mv (.t 142)⟩])
                        (.ret))))
                     (.skip)))))))))))))
         (.seq (.reg [⟨(some 4), none, .mv (.i .i64 (-1))⟩])
          (.ret))))))))))
theorem b168 : Body Tryd.prog 168 143 [4] k168 := ⟨Enters.of Tryd.func168 (by kernel_rfl) (by kernel_rfl), _, _, Tryd.func168, rfl, by kernel_rfl, rfl, rfl⟩

/-- strings.indexFunc -/
def k169 : KC :=
 .seq (.reg [⟨(some 6), none, .mv (.i .i64 0)⟩])
 (.seq (.seq (.reg [⟨(some 9), none, .mv (.t 0)⟩,
     ⟨(some 10), none, .unk⟩])
   (.block 0 (.loop (.seq (.reg [⟨(some 11), none, .unk⟩,
        ⟨(some 12), none, .ex (.t 11) 0⟩])
      (.seq (.cond (.t 12)
        (.skip)
        (.exit 0))
       (.block 1 (.seq (.reg [⟨(some 13), none, .ex (.t 11) 1⟩,
           ⟨(some 14), none, .ex (.t 11) 2⟩,
           ⟨(some 7), none, .mv (.t 13)⟩,
           ⟨(some 8), none, .mv (.t 14)⟩])
         (.seq (.reg [⟨(some 15), none, .mv (.t 1)⟩,
            ⟨(some 16), none, .mv (.t 8)⟩,
            ⟨(some 17), none, .call (.t 15) [.t 16]⟩,
            ⟨(some 18), none, .mv (.t 2)⟩,
            ⟨(some 19), none, .bin .eql 4 (.t 17) (.t 18)⟩])
          (.cond (.t 19)
           (.seq (.reg [⟨(some 20), none, .mv (.t 7)⟩,
              ⟨(some 6), none, .mv (.t 20)⟩])
            (.ret))
           (.skip))))))))))
  (.seq (.reg [⟨(some 6), none, .mv (.i .i64 (-1))⟩])
   (.ret)))
theorem b169 : Body Tryd.prog 169 21 [6] k169 := ⟨Enters.of Tryd.func169 (by kernel_rfl) (by kernel_rfl), _, _, Tryd.func169, rfl, by kernel_rfl, rfl, rfl⟩

/-- internal/stringslite.IndexByte -/
def k173 : KC :=
 .seq (.reg [⟨(some 4), none, .mv (.i .i64 0)⟩])
 (.seq (.reg [⟨(some 5), none, .mv (.t 0)⟩,
    ⟨(some 6), none, .mv (.t 1)⟩,
    ⟨(some 7), none, .call (.fn 177) [.t 5, .t 6]⟩,
    ⟨(some 4), none, .mv (.t 7)⟩])
  (.ret))
theorem b173 : Body Tryd.prog 173 8 [4] k173 := ⟨Enters.of Tryd.func173 (by kernel_rfl) (by kernel_rfl), _, _, Tryd.func173, rfl, by kernel_rfl, rfl, rfl⟩

end Go.Proofs.YtliahlgkinhjlaaDoor
