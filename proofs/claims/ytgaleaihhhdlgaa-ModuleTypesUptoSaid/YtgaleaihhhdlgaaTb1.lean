/- Tables of the reading: one entry a function, out of the loaded program by a program, each held against it. -/
import Derived.Test.YtgaleaihhhdlgaaProg
import Derived.Test.YtgaleaihhhdlgaaPm1
import Derived.Test.YtgaleaihhhdlgaaPm6
import Derived.KernelRfl

set_option linter.unusedVariables false
set_option linter.unusedSimpArgs false

namespace Go.Proofs.Ytgaleaihhhdlgaa.Pm
open Go.PM
set_option maxRecDepth 100000

def h155 : Hints := ⟨[], [], [], [], [], [], []⟩
def F155 : SF := ⟨40, .seq (.region [⟨(some 2), .mv (.k (.int .i64 0)), none, 0, 0⟩] false) (.seq (.block 0 (.seq (.region [⟨(some 4), .mv (.t 0), none, 0, 0⟩,
  ⟨(some 5), .bin .geq .no (.t 4) (.k (.int .u8 97)), none, 0, 0⟩, ⟨(some 6), .mv (.t 5), none, 0, 0⟩, ⟨(some 7), .mv (.t 0), (some (6, true)), 0, 0⟩, ⟨(some
  8), .bin .leq .no (.t 7) (.k (.int .u8 122)), (some (6, true)), 0, 0⟩, ⟨(some 9), .pick (.t 6) (.t 8) (.k (.bool false)), none, 0, 0⟩, ⟨(some 3), .mv (.t 9),
  none, 0, 0⟩] false) (.cond (.t 3) (.seq (.region [⟨(some 2), .mv (.k (.int .i64 1)), none, 0, 0⟩] false) (.ret)) (.seq (.region [⟨(some 11), .mv (.t 0), none,
   0, 0⟩, ⟨(some 12), .bin .geq .no (.t 11) (.k (.int .u8 65)), none, 0, 0⟩, ⟨(some 13), .mv (.t 12), none, 0, 0⟩, ⟨(some 14), .mv (.t 0), (some (13, true)), 0,
   0⟩, ⟨(some 15), .bin .leq .no (.t 14) (.k (.int .u8 90)), (some (13, true)), 0, 0⟩, ⟨(some 16), .pick (.t 13) (.t 15) (.k (.bool false)), none, 0, 0⟩,
  ⟨(some 10), .mv (.t 16), none, 0, 0⟩] false) (.cond (.t 10) (.seq (.region [⟨(some 2), .mv (.k (.int .i64 2)), none, 0, 0⟩] false) (.ret)) (.seq (.region
  [⟨(some 18), .mv (.t 0), none, 0, 0⟩, ⟨(some 19), .bin .geq .no (.t 18) (.k (.int .u8 48)), none, 0, 0⟩, ⟨(some 20), .mv (.t 19), none, 0, 0⟩, ⟨(some 21),
  .mv (.t 0), (some (20, true)), 0, 0⟩, ⟨(some 22), .bin .leq .no (.t 21) (.k (.int .u8 57)), (some (20, true)), 0, 0⟩, ⟨(some 23), .pick (.t 20) (.t 22) (.k
  (.bool false)), none, 0, 0⟩, ⟨(some 17), .mv (.t 23), none, 0, 0⟩] false) (.cond (.t 17) (.seq (.region [⟨(some 2), .mv (.k (.int .i64 3)), none, 0, 0⟩]
  false) (.ret)) (.skip)))))))) (.seq (.seq (.region [⟨(some 24), .mv (.t 0), none, 0, 0⟩] false) (.block 1 (.seq (.region [⟨(some 26), .bin .eql .no (.t 24)
  (.k (.int .u8 32)), none, 0, 0⟩, ⟨(some 25), .mv (.t 26), none, 0, 0⟩] false) (.cond (.t 25) (.seq (.region [⟨(some 2), .mv (.k (.int .i64 4)), none, 0, 0⟩]
  false) (.ret)) (.seq (.region [⟨(some 28), .bin .eql .no (.t 24) (.k (.int .u8 10)), none, 0, 0⟩, ⟨(some 27), .mv (.t 28), none, 0, 0⟩] false) (.cond (.t 27)
  (.seq (.region [⟨(some 2), .mv (.k (.int .i64 5)), none, 0, 0⟩] false) (.ret)) (.seq (.seq (.region [⟨(some 30), .bin .eql .no (.t 24) (.k (.int .u8 61)),
  none, 0, 0⟩, ⟨(some 29), .mv (.t 30), none, 0, 0⟩] false) (.cond (.t 29) (.skip) (.seq (.region [⟨(some 31), .bin .eql .no (.t 24) (.k (.int .u8 124)), none,
  0, 0⟩, ⟨(some 29), .mv (.t 31), none, 0, 0⟩] false) (.cond (.t 29) (.skip) (.seq (.region [⟨(some 32), .bin .eql .no (.t 24) (.k (.int .u8 63)), none, 0, 0⟩,
  ⟨(some 29), .mv (.t 32), none, 0, 0⟩] false) (.cond (.t 29) (.skip) (.seq (.region [⟨(some 33), .bin .eql .no (.t 24) (.k (.int .u8 60)), none, 0, 0⟩, ⟨(some
  29), .mv (.t 33), none, 0, 0⟩] false) (.cond (.t 29) (.skip) (.seq (.region [⟨(some 34), .bin .eql .no (.t 24) (.k (.int .u8 43)), none, 0, 0⟩, ⟨(some 29),
  .mv (.t 34), none, 0, 0⟩] false) (.cond (.t 29) (.skip) (.seq (.region [⟨(some 35), .bin .eql .no (.t 24) (.k (.int .u8 45)), none, 0, 0⟩, ⟨(some 29), .mv
  (.t 35), none, 0, 0⟩] false) (.cond (.t 29) (.skip) (.seq (.region [⟨(some 36), .bin .eql .no (.t 24) (.k (.int .u8 42)), none, 0, 0⟩, ⟨(some 29), .mv (.t
  36), none, 0, 0⟩] false) (.cond (.t 29) (.skip) (.seq (.region [⟨(some 37), .bin .eql .no (.t 24) (.k (.int .u8 40)), none, 0, 0⟩, ⟨(some 29), .mv (.t 37),
  none, 0, 0⟩] false) (.cond (.t 29) (.skip) (.seq (.region [⟨(some 38), .bin .eql .no (.t 24) (.k (.int .u8 41)), none, 0, 0⟩, ⟨(some 29), .mv (.t 38), none,
  0, 0⟩] false) (.cond (.t 29) (.skip) (.region [⟨(some 39), .bin .eql .no (.t 24) (.k (.int .u8 95)), none, 0, 0⟩, ⟨(some 29), .mv (.t 39), none, 0, 0⟩]
  false))))))))))))))))))) (.cond (.t 29) (.seq (.region [⟨(some 2), .mv (.k (.int .i64 6)), none, 0, 0⟩] false) (.ret)) (.skip))))))))) (.seq (.region [⟨(some
  2), .mv (.k (.int .i64 0)), none, 0, 0⟩] false) (.ret)))), [.tmp 2], [], [], []⟩
theorem c155 : cFunc Go.Proofs.Try.prog h155 Go.Proofs.Try.f155 = some F155 := by kernel_rfl
def h205 : Hints := ⟨[], [], [], [], [], [], []⟩
def F205 : SF := ⟨18, .seq (.region [⟨(some 4), .mv (.k (.bool false)), none, 0, 0⟩] false) (.seq (.region [⟨(some 5), .mv (.t 0), none, 0, 0⟩, ⟨(some 6), .len
  true (.t 5), none, 0, 0⟩, ⟨(some 7), .mv (.t 1), none, 0, 0⟩, ⟨(some 8), .len true (.t 7), none, 0, 0⟩, ⟨(some 9), .bin .geq .no (.t 6) (.t 8), none, 0, 0⟩,
  ⟨(some 10), .mv (.t 9), none, 0, 0⟩, ⟨(some 11), .mv (.t 0), (some (10, true)), 0, 0⟩, ⟨(some 12), .mv (.t 1), (some (10, true)), 0, 0⟩, ⟨(some 13), .len
  true (.t 12), (some (10, true)), 0, 0⟩, ⟨(some 14), .slice 0 (.t 11) none (some (.t 13)) none, (some (10, true)), 0, 0⟩, ⟨(some 15), .mv (.t 1), (some (10,
  true)), 0, 0⟩, ⟨(some 16), .bin .eql .no (.t 14) (.t 15), (some (10, true)), 0, 0⟩, ⟨(some 17), .pick (.t 10) (.t 16) (.k (.bool false)), none, 0, 0⟩, ⟨(some
  4), .mv (.t 17), none, 0, 0⟩] false) (.ret)), [.tmp 4], [], [], []⟩
theorem c205 : cFunc Go.Proofs.Try.prog h205 Go.Proofs.Try.f205 = some F205 := by kernel_rfl
def h156 : Hints := ⟨[], [], [], [], [], [], []⟩
def F156 : SF := ⟨8, .seq (.region [⟨(some 4), .mv (.k (.bool false)), none, 0, 0⟩] false) (.seq (.region [⟨(some 5), .mv (.t 0), none, 0, 0⟩, ⟨(some 6), .mv
  (.t 1), none, 0, 0⟩, ⟨(some 7), .call (.k (.fn (.func 205) [] [])) [(.t 5), (.t 6)] [], none, 0, 0⟩, ⟨(some 4), .mv (.t 7), none, 0, 0⟩] false) (.ret)),
  [.tmp 4], [], [], []⟩
theorem c156 : cFunc Go.Proofs.Try.prog h156 Go.Proofs.Try.f156 = some F156 := by kernel_rfl
def h206 : Hints := ⟨[], [], [], [], [], [], []⟩
def F206 : SF := ⟨8, .seq (.region [⟨(some 4), .mv (.k (.int .i64 0)), none, 0, 0⟩] false) (.seq (.region [⟨(some 5), .mv (.t 0), none, 0, 0⟩, ⟨(some 6), .mv
  (.t 1), none, 0, 0⟩, ⟨(some 7), .call (.k (.fn (.func 229) [] [])) [(.t 5), (.t 6)] [], none, 0, 0⟩, ⟨(some 4), .mv (.t 7), none, 0, 0⟩] false) (.ret)),
  [.tmp 4], [], [], []⟩
theorem c206 : cFunc Go.Proofs.Try.prog h206 Go.Proofs.Try.f206 = some F206 := by kernel_rfl
def h157 : Hints := ⟨[], [], [], [], [], [], []⟩
def F157 : SF := ⟨8, .seq (.region [⟨(some 4), .mv (.k (.int .i64 0)), none, 0, 0⟩] false) (.seq (.region [⟨(some 5), .mv (.t 0), none, 0, 0⟩, ⟨(some 6), .mv
  (.t 1), none, 0, 0⟩, ⟨(some 7), .call (.k (.fn (.func 206) [] [])) [(.t 5), (.t 6)] [], none, 0, 0⟩, ⟨(some 4), .mv (.t 7), none, 0, 0⟩] false) (.ret)),
  [.tmp 4], [], [], []⟩
theorem c157 : cFunc Go.Proofs.Try.prog h157 Go.Proofs.Try.f157 = some F157 := by kernel_rfl
def h102 : Hints := ⟨[], [], [0], [], [], [], []⟩
def F102 : SF := ⟨98, .scope (.seq (.label 0) (.seq (.seq (.region [⟨(some 4), .mv (.t 0), none, 0, 0⟩, ⟨(some 5), .nilchk (.t 4), none, 0, 0⟩, ⟨(some 6),
  .faddr (.t 5) 1, none, 0, 0⟩, ⟨(some 7), .load false 1 (.t 6) false, none, 0, 0⟩, ⟨(some 8), .mv (.t 0), none, 0, 0⟩, ⟨(some 9), .nilchk (.t 8), none, 0, 0⟩,
  ⟨(some 10), .faddr (.t 9) 0, none, 0, 0⟩, ⟨(some 11), .load false 1 (.t 10) false, none, 0, 0⟩, ⟨(some 12), .len true (.t 11), none, 0, 0⟩, ⟨(some 13), .bin
  .eql .no (.t 7) (.t 12), none, 0, 0⟩] true) (.cond (.t 13) (.ret) (.skip))) (.seq (.region [⟨(some 14), .mv (.t 0), none, 0, 0⟩, ⟨(some 15), .nilchk (.t 14),
  none, 0, 0⟩, ⟨(some 16), .faddr (.t 15) 0, none, 0, 0⟩, ⟨(some 17), .load false 1 (.t 16) false, none, 0, 0⟩, ⟨(some 18), .mv (.t 0), none, 0, 0⟩, ⟨(some 19),
   .nilchk (.t 18), none, 0, 0⟩, ⟨(some 20), .faddr (.t 19) 1, none, 0, 0⟩, ⟨(some 21), .load false 1 (.t 20) false, none, 0, 0⟩, ⟨(some 22), .index (.t 17)
  (.t 21), none, 0, 0⟩, ⟨(some 23), .call (.k (.fn (.func 155) [] [])) [(.t 22)] [], none, 1, 0⟩, ⟨(some 2), .mv (.t 23), none, 1, 1⟩] true) (.block 0 (.seq
  (.region [⟨(some 25), .mv (.t 2), none, 0, 0⟩, ⟨(some 26), .bin .eql .no (.t 25) (.k (.int .i64 4)), none, 0, 0⟩, ⟨(some 24), .mv (.t 26), none, 0, 0⟩]
  false) (.cond (.t 24) (.seq (.region [⟨(some 27), .mv (.t 0), none, 0, 0⟩, ⟨(some 28), .nilchk (.t 27), none, 0, 0⟩, ⟨(some 29), .faddr (.t 28) 1, none, 0,
  0⟩, ⟨(some 30), .load false 1 (.t 29) false, none, 0, 0⟩, ⟨(some 31), .bin .add .no (.t 30) (.k (.int .i64 1)), none, 0, 0⟩, ⟨(some 32), .nilchk (.t 27),
  none, 0, 0⟩, ⟨(some 33), .faddr (.t 32) 1, none, 0, 0⟩, ⟨none, .store 1 (.t 33) (.t 31), none, 0, 0⟩] false) (.goto 0)) (.seq (.region [⟨(some 35), .mv (.t
  2), none, 0, 0⟩, ⟨(some 36), .bin .eql .no (.t 35) (.k (.int .i64 5)), none, 0, 0⟩, ⟨(some 34), .mv (.t 36), none, 0, 0⟩] false) (.cond (.t 34) (.seq
  (.region [⟨(some 37), .mv (.t 0), none, 0, 0⟩, ⟨(some 38), .nilchk (.t 37), none, 0, 0⟩, ⟨(some 39), .faddr (.t 38) 1, none, 0, 0⟩, ⟨(some 40), .load false 1
  (.t 39) false, none, 0, 0⟩, ⟨(some 41), .bin .add .no (.t 40) (.k (.int .i64 1)), none, 0, 0⟩, ⟨(some 42), .nilchk (.t 37), none, 0, 0⟩, ⟨(some 43), .faddr
  (.t 42) 1, none, 0, 0⟩, ⟨none, .store 1 (.t 43) (.t 41), none, 0, 0⟩] false) (.seq (.region [⟨(some 44), .mv (.t 0), none, 0, 0⟩, ⟨(some 45), .mv (.t 0),
  none, 0, 1⟩, ⟨(some 46), .mv (.t 0), none, 0, 0⟩, ⟨(some 47), .nilchk (.t 46), none, 0, 0⟩, ⟨(some 48), .faddr (.t 47) 2, none, 0, 0⟩, ⟨(some 49), .load
  false 1 (.t 48) false, none, 0, 0⟩, ⟨(some 50), .bin .add .no (.t 49) (.k (.int .i64 1)), none, 0, 0⟩, ⟨(some 51), .mv (.t 0), none, 0, 0⟩, ⟨(some 52),
  .nilchk (.t 51), none, 0, 0⟩, ⟨(some 53), .faddr (.t 52) 1, none, 0, 0⟩, ⟨(some 54), .load false 1 (.t 53) false, none, 0, 0⟩, ⟨(some 55), .nilchk (.t 44),
  none, 0, 0⟩, ⟨(some 56), .faddr (.t 55) 2, none, 0, 0⟩, ⟨none, .store 1 (.t 56) (.t 50), none, 1, 0⟩, ⟨(some 57), .nilchk (.t 45), none, 1, 1⟩, ⟨(some 58),
  .faddr (.t 57) 3, none, 1, 1⟩, ⟨none, .store 1 (.t 58) (.t 54), none, 1, 0⟩] true) (.goto 0))) (.seq (.region [⟨(some 60), .mv (.t 0), none, 0, 0⟩, ⟨(some
  61), .nilchk (.t 60), none, 0, 0⟩, ⟨(some 62), .faddr (.t 61) 0, none, 0, 0⟩, ⟨(some 63), .load false 1 (.t 62) false, none, 0, 0⟩, ⟨(some 64), .mv (.t 0),
  none, 0, 0⟩, ⟨(some 65), .nilchk (.t 64), none, 0, 0⟩, ⟨(some 66), .faddr (.t 65) 1, none, 0, 0⟩, ⟨(some 67), .load false 1 (.t 66) false, none, 0, 0⟩,
  ⟨(some 68), .slice 0 (.t 63) (some (.t 67)) none none, none, 0, 0⟩, ⟨(some 69), .call (.k (.fn (.func 156) [] [])) [(.t 68), (.k (.str [45, 45]))] [], none,
  1, 0⟩, ⟨(some 59), .mv (.t 69), none, 1, 1⟩] true) (.cond (.t 59) (.seq (.seq (.region [⟨(some 70), .mv (.t 0), none, 0, 0⟩, ⟨(some 71), .nilchk (.t 70),
  none, 0, 0⟩, ⟨(some 72), .faddr (.t 71) 0, none, 0, 0⟩, ⟨(some 73), .load false 1 (.t 72) false, none, 0, 0⟩, ⟨(some 74), .mv (.t 0), none, 0, 0⟩, ⟨(some 75),
   .nilchk (.t 74), none, 0, 0⟩, ⟨(some 76), .faddr (.t 75) 1, none, 0, 0⟩, ⟨(some 77), .load false 1 (.t 76) false, none, 0, 0⟩, ⟨(some 78), .slice 0 (.t 73)
  (some (.t 77)) none none, none, 0, 0⟩, ⟨(some 79), .call (.k (.fn (.func 157) [] [])) [(.t 78), (.k (.int .u8 10))] [], none, 1, 0⟩, ⟨(some 3), .mv (.t 79),
  none, 1, 1⟩] true) (.seq (.region [⟨(some 80), .mv (.t 3), none, 0, 0⟩, ⟨(some 81), .bin .geq .no (.t 80) (.k (.int .i64 0)), none, 0, 0⟩] false) (.cond (.t
  81) (.region [⟨(some 82), .mv (.t 0), none, 0, 0⟩, ⟨(some 83), .nilchk (.t 82), none, 0, 0⟩, ⟨(some 84), .faddr (.t 83) 1, none, 0, 0⟩, ⟨(some 85), .load
  false 1 (.t 84) false, none, 0, 0⟩, ⟨(some 86), .mv (.t 3), none, 0, 0⟩, ⟨(some 87), .bin .add .no (.t 85) (.t 86), none, 0, 0⟩, ⟨(some 88), .nilchk (.t 82),
  none, 0, 0⟩, ⟨(some 89), .faddr (.t 88) 1, none, 0, 0⟩, ⟨none, .store 1 (.t 89) (.t 87), none, 0, 0⟩] false) (.region [⟨(some 90), .mv (.t 0), none, 0, 0⟩,
  ⟨(some 91), .mv (.t 0), none, 0, 0⟩, ⟨(some 92), .nilchk (.t 91), none, 0, 0⟩, ⟨(some 93), .faddr (.t 92) 0, none, 0, 0⟩, ⟨(some 94), .load false 1 (.t 93)
  false, none, 0, 0⟩, ⟨(some 95), .len true (.t 94), none, 0, 0⟩, ⟨(some 96), .nilchk (.t 90), none, 0, 0⟩, ⟨(some 97), .faddr (.t 96) 1, none, 0, 0⟩, ⟨none,
  .store 1 (.t 97) (.t 95), none, 0, 0⟩] false)))) (.goto 0)) (.skip))))))))))), [], [0], [], []⟩
theorem c102 : cFunc Go.Proofs.Try.prog h102 Go.Proofs.Try.f102 = some F102 := by kernel_rfl
def h69 : Hints := ⟨[], [], [0, 1, 7, 8], [], [], [], []⟩
def B69_0b : SC := .seq (.region [⟨(some 9), .bin .lss .no (.t 8) (.t 7), none, 0, 0⟩] false) (.seq (.cond (.t 9) (.skip) (.exit 0)) (.seq (.block 1 (.seq
  (.region [⟨(some 10), .mv (.t 8), none, 0, 0⟩, ⟨(some 5), .mv (.t 10), none, 0, 0⟩] false) (.seq (.region [⟨(some 11), .mv (.t 1), none, 0, 0⟩, ⟨(some 12),
  .mv (.t 0), none, 0, 0⟩, ⟨(some 13), .mv (.t 5), none, 0, 0⟩, ⟨(some 14), .iaddr 1 (.t 12) (.t 13), none, 0, 0⟩, ⟨(some 15), .load false 1 (.t 14) false,
  none, 0, 0⟩, ⟨(some 16), .bin .eql .no (.t 11) (.t 15), none, 0, 0⟩] false) (.cond (.t 16) (.seq (.region [⟨(some 17), .mv (.t 5), none, 0, 0⟩, ⟨(some 4),
  .mv (.t 17), none, 0, 0⟩] false) (.ret)) (.skip))))) (.region [⟨(some 18), .bin .add .no (.t 8) (.k (.int .i64 1)), none, 0, 0⟩, ⟨(some 8), .mv (.t 18), none,
   0, 0⟩] false)))
def B69_0 : SC := B69_0b
theorem rB69_0 {Pr : Prims} {Pg : FuncId → Option SF} {keep : List Nat} {s : St} : runL Pr Pg keep B69_0 s = runL Pr Pg keep B69_0b s := rfl
def F69 : SF := ⟨19, .seq (.region [⟨(some 4), .mv (.k (.int .i64 0)), none, 0, 0⟩] false) (.seq (.seq (.region [⟨(some 6), .mv (.t 0), none, 0, 0⟩, ⟨(some 7),
  .len false (.t 6), none, 0, 0⟩, ⟨(some 8), .mv (.k (.int .i64 0)), none, 0, 0⟩] false) (.block 0 (.loop B69_0))) (.seq (.region [⟨(some 4), .mv (.k (.int
  .i64 (-1))), none, 0, 0⟩] false) (.ret))), [.tmp 4], [0, 1, 7, 8], [], []⟩
theorem c69 : cFunc Go.Proofs.Try.prog h69 Go.Proofs.Try.f69 = some F69 := by kernel_rfl
def h130 : Hints := ⟨[], [], [], [], [], [], []⟩
def F130 : SF := ⟨9, .seq (.region [⟨(some 4), .mv (.k (.bool false)), none, 0, 0⟩] false) (.seq (.region [⟨(some 5), .mv (.t 0), none, 0, 0⟩, ⟨(some 6), .mv
  (.t 1), none, 0, 0⟩, ⟨(some 7), .call (.k (.fn (.func 69) [] [])) [(.t 5), (.t 6)] [], none, 0, 0⟩, ⟨(some 8), .bin .geq .no (.t 7) (.k (.int .i64 0)), none,
  0, 0⟩, ⟨(some 4), .mv (.t 8), none, 0, 0⟩] false) (.ret)), [.tmp 4], [], [], []⟩
theorem c130 : cFunc Go.Proofs.Try.prog h130 Go.Proofs.Try.f130 = some F130 := by kernel_rfl
def h207 : Hints := ⟨[], [], [], [], [], [], []⟩
def F207 : SF := ⟨6, .seq (.region [⟨(some 2), .mv (.k (.bool false)), none, 0, 0⟩] false) (.seq (.region [⟨(some 3), .bslice 1 [.str []] 7 [(0, (.k (.str [100,
   97, 116, 97]))), (1, (.k (.str [108, 101, 116]))), (2, (.k (.str [102, 114, 101, 101]))), (3, (.k (.str [105, 110]))), (4, (.k (.str [105, 102]))), (5, (.k
  (.str [116, 104, 101, 110]))), (6, (.k (.str [101, 108, 115, 101])))], none, 0, 0⟩, ⟨(some 4), .mv (.t 0), none, 0, 0⟩, ⟨(some 5), .call (.k (.fn (.func 130)
  [] [])) [(.t 3), (.t 4)] [], none, 0, 0⟩, ⟨(some 2), .mv (.t 5), none, 0, 0⟩] false) (.ret)), [.tmp 2], [], [], []⟩
theorem c207 : cFunc Go.Proofs.Try.prog h207 Go.Proofs.Try.f207 = some F207 := by kernel_rfl
def h230 : Hints := ⟨[], [], [0, 22, 23], [], [], [], []⟩
def B230_0b : SC := .seq (.region [⟨(some 24), .bin .lss .no (.t 23) (.t 22), none, 0, 0⟩] false) (.seq (.cond (.t 24) (.skip) (.exit 0)) (.seq (.block 1 (.seq
  (.region [⟨(some 25), .mv (.t 23), none, 0, 0⟩, ⟨(some 5), .mv (.t 25), none, 0, 0⟩] false) (.seq (.seq (.region [⟨(some 26), .mv (.t 0), none, 0, 0⟩, ⟨(some
  27), .mv (.t 5), none, 0, 0⟩, ⟨(some 28), .index (.t 26) (.t 27), none, 0, 0⟩, ⟨(some 29), .bin .eql .no (.t 28) (.k (.int .u8 95)), none, 0, 0⟩] false)
  (.cond (.t 29) (.exit 1) (.skip))) (.seq (.region [⟨(some 30), .mv (.t 0), none, 0, 0⟩, ⟨(some 31), .mv (.t 5), none, 0, 0⟩, ⟨(some 32), .index (.t 30) (.t
  31), none, 0, 0⟩, ⟨(some 33), .call (.k (.fn (.func 155) [] [])) [(.t 32)] [], none, 0, 0⟩, ⟨(some 6), .mv (.t 33), none, 0, 0⟩] false) (.seq (.region
  [⟨(some 34), .mv (.t 6), none, 0, 0⟩, ⟨(some 35), .bin .lss .no (.t 34) (.k (.int .i64 1)), none, 0, 0⟩, ⟨(some 36), .mv (.t 35), none, 0, 0⟩, ⟨(some 37),
  .mv (.t 6), (some (36, false)), 0, 0⟩, ⟨(some 38), .bin .gtr .no (.t 37) (.k (.int .i64 3)), (some (36, false)), 0, 0⟩, ⟨(some 39), .pick (.t 36) (.k (.bool
  true)) (.t 38), none, 0, 0⟩] false) (.cond (.t 39) (.seq (.region [⟨(some 4), .mv (.k (.bool false)), none, 0, 0⟩] false) (.ret)) (.skip))))))) (.region
  [⟨(some 40), .bin .add .no (.t 23) (.k (.int .i64 1)), none, 0, 0⟩, ⟨(some 23), .mv (.t 40), none, 0, 0⟩] false)))
def B230_0 : SC := B230_0b
theorem rB230_0 {Pr : Prims} {Pg : FuncId → Option SF} {keep : List Nat} {s : St} : runL Pr Pg keep B230_0 s = runL Pr Pg keep B230_0b s := rfl
def F230 : SF := ⟨41, .seq (.region [⟨(some 4), .mv (.k (.bool false)), none, 0, 0⟩] false) (.scope (.seq (.seq (.region [⟨(some 7), .mv (.t 0), none, 0, 0⟩,
  ⟨(some 8), .bin .eql .no (.t 7) (.k (.str [])), none, 0, 0⟩, ⟨(some 9), .mv (.t 8), none, 0, 0⟩, ⟨(some 10), .mv (.t 0), (some (9, false)), 0, 0⟩, ⟨(some 11),
   .len true (.t 10), (some (9, false)), 0, 0⟩, ⟨(some 12), .bin .gtr .no (.t 11) (.k (.int .i64 24)), (some (9, false)), 0, 0⟩, ⟨(some 13), .pick (.t 9) (.k
  (.bool true)) (.t 12), none, 0, 0⟩, ⟨(some 14), .mv (.t 13), none, 0, 0⟩, ⟨(some 15), .mv (.t 0), (some (14, false)), 0, 0⟩, ⟨(some 16), .index (.t 15) (.k
  (.int .i64 0)), (some (14, false)), 0, 0⟩, ⟨(some 17), .call (.k (.fn (.func 155) [] [])) [(.t 16)] [], (some (14, false)), 0, 0⟩, ⟨(some 18), .mv (.t 1),
  (some (14, false)), 0, 0⟩, ⟨(some 19), .bin .neq .no (.t 17) (.t 18), (some (14, false)), 0, 0⟩, ⟨(some 20), .pick (.t 14) (.k (.bool true)) (.t 19), none, 0,
   0⟩] false) (.cond (.t 20) (.seq (.region [⟨(some 4), .mv (.k (.bool false)), none, 0, 0⟩] false) (.ret)) (.skip))) (.seq (.label 0) (.seq (.seq (.region
  [⟨(some 21), .mv (.t 0), none, 0, 0⟩, ⟨(some 22), .len true (.t 21), none, 0, 0⟩, ⟨(some 23), .mv (.k (.int .i64 0)), none, 0, 0⟩] false) (.block 0 (.loop
  B230_0))) (.seq (.region [⟨(some 4), .mv (.k (.bool true)), none, 0, 0⟩] false) (.ret)))))), [.tmp 4], [0, 22, 23], [], []⟩
theorem c230 : cFunc Go.Proofs.Try.prog h230 Go.Proofs.Try.f230 = some F230 := by kernel_rfl
def h208 : Hints := ⟨[], [], [], [], [], [], []⟩
def F208 : SF := ⟨10, .seq (.region [⟨(some 2), .mv (.k (.bool false)), none, 0, 0⟩] false) (.seq (.region [⟨(some 3), .mv (.t 0), none, 0, 0⟩, ⟨(some 4),
  .call (.k (.fn (.func 230) [] [])) [(.t 3), (.k (.int .i64 1))] [], none, 0, 0⟩, ⟨(some 5), .mv (.t 4), none, 0, 0⟩, ⟨(some 6), .mv (.t 0), (some (5, true)),
  0, 0⟩, ⟨(some 7), .call (.k (.fn (.func 207) [] [])) [(.t 6)] [], (some (5, true)), 0, 0⟩, ⟨(some 8), .un .not (.t 7), (some (5, true)), 0, 0⟩, ⟨(some 9),
  .pick (.t 5) (.t 8) (.k (.bool false)), none, 0, 0⟩, ⟨(some 2), .mv (.t 9), none, 0, 0⟩] false) (.ret)), [.tmp 2], [], [], []⟩
theorem c208 : cFunc Go.Proofs.Try.prog h208 Go.Proofs.Try.f208 = some F208 := by kernel_rfl
def h209 : Hints := ⟨[], [], [], [], [], [], []⟩
def F209 : SF := ⟨5, .seq (.region [⟨(some 2), .mv (.k (.bool false)), none, 0, 0⟩] false) (.seq (.region [⟨(some 3), .mv (.t 0), none, 0, 0⟩, ⟨(some 4), .call
  (.k (.fn (.func 230) [] [])) [(.t 3), (.k (.int .i64 2))] [], none, 0, 0⟩, ⟨(some 2), .mv (.t 4), none, 0, 0⟩] false) (.ret)), [.tmp 2], [], [], []⟩
theorem c209 : cFunc Go.Proofs.Try.prog h209 Go.Proofs.Try.f209 = some F209 := by kernel_rfl
def h158 : Hints := ⟨[2, 4], [], [], [], [], [], []⟩
def F158 : SF := ⟨23, .seq (.region [⟨(some 2), .allocL [.int .i64 0, .str [], .int .i64 0, .int .i64 0, .int .i64 0], none, 0, 0⟩, ⟨(some 3), .mv (.k (.bool
  false)), none, 0, 0⟩] false) (.seq (.region [⟨(some 5), .mv (.t 0), none, 0, 0⟩, ⟨(some 6), .build [.int .i64 0, .str [], .int .i64 0, .int .i64 0, .int .i64
  0] [(1, 1, (.t 5))], none, 0, 0⟩, ⟨(some 4), .allocL [.int .i64 0, .str [], .int .i64 0, .int .i64 0, .int .i64 0], none, 0, 0⟩, ⟨none, .store 5 (.t 4) (.t
  6), none, 0, 0⟩] false) (.seq (.block 0 (.seq (.region [⟨(some 8), .mv (.t 0), none, 0, 0⟩, ⟨(some 9), .call (.k (.fn (.func 207) [] [])) [(.t 8)] [], none,
  0, 0⟩, ⟨(some 7), .mv (.t 9), none, 0, 0⟩] false) (.cond (.t 7) (.region [⟨(some 10), .faddr (.t 4) 0, none, 0, 0⟩, ⟨none, .store 1 (.t 10) (.k (.int .i64
  5)), none, 0, 0⟩] false) (.seq (.region [⟨(some 12), .mv (.t 0), none, 0, 0⟩, ⟨(some 13), .call (.k (.fn (.func 208) [] [])) [(.t 12)] [], none, 0, 0⟩,
  ⟨(some 11), .mv (.t 13), none, 0, 0⟩] false) (.cond (.t 11) (.region [⟨(some 14), .faddr (.t 4) 0, none, 0, 0⟩, ⟨none, .store 1 (.t 14) (.k (.int .i64 2)),
  none, 0, 0⟩] false) (.seq (.region [⟨(some 16), .mv (.t 0), none, 0, 0⟩, ⟨(some 17), .call (.k (.fn (.func 209) [] [])) [(.t 16)] [], none, 0, 0⟩, ⟨(some 15),
   .mv (.t 17), none, 0, 0⟩] false) (.cond (.t 15) (.region [⟨(some 18), .faddr (.t 4) 0, none, 0, 0⟩, ⟨none, .store 1 (.t 18) (.k (.int .i64 3)), none, 0, 0⟩]
  false) (.skip)))))))) (.seq (.region [⟨(some 19), .load true 5 (.t 4) false, none, 0, 0⟩, ⟨(some 20), .faddr (.t 4) 0, none, 0, 1⟩, ⟨(some 21), .load false 1
  (.t 20) false, none, 0, 1⟩, ⟨(some 22), .bin .neq .no (.t 21) (.k (.int .i64 0)), none, 0, 1⟩, ⟨none, .store 5 (.t 2) (.t 19), none, 1, 0⟩, ⟨(some 3), .mv
  (.t 22), none, 1, 1⟩] true) (.ret)))), [.cell 2 true 5, .tmp 3], [], [], []⟩
theorem c158 : cFunc Go.Proofs.Try.prog h158 Go.Proofs.Try.f158 = some F158 := by kernel_rfl
def h159 : Hints := ⟨[], [], [0, 1, 2, 3, 9], [], [], [], []⟩
def B159_0b : SC := .seq (.seq (.region [⟨(some 15), .mv (.t 9), none, 0, 0⟩, ⟨(some 16), .mv (.t 0), none, 0, 0⟩, ⟨(some 17), .nilchk (.t 16), none, 0, 0⟩,
  ⟨(some 18), .faddr (.t 17) 0, none, 0, 0⟩, ⟨(some 19), .load false 1 (.t 18) false, none, 0, 0⟩, ⟨(some 20), .len true (.t 19), none, 0, 0⟩, ⟨(some 21), .bin
  .lss .no (.t 15) (.t 20), none, 0, 0⟩] false) (.cond (.t 21) (.skip) (.exit 0))) (.block 1 (.seq (.region [⟨(some 22), .mv (.t 0), none, 0, 0⟩, ⟨(some 23),
  .nilchk (.t 22), none, 0, 0⟩, ⟨(some 24), .faddr (.t 23) 0, none, 0, 0⟩, ⟨(some 25), .load false 1 (.t 24) false, none, 0, 0⟩, ⟨(some 26), .mv (.t 9), none,
  0, 0⟩, ⟨(some 27), .index (.t 25) (.t 26), none, 0, 0⟩, ⟨(some 28), .call (.k (.fn (.func 155) [] [])) [(.t 27)] [], none, 0, 0⟩, ⟨(some 10), .mv (.t 28),
  none, 0, 0⟩] false) (.seq (.seq (.region [⟨(some 29), .mv (.t 10), none, 0, 0⟩, ⟨(some 30), .mv (.t 1), none, 0, 0⟩, ⟨(some 31), .bin .lss .no (.t 29) (.t
  30), none, 0, 0⟩, ⟨(some 32), .mv (.t 31), none, 0, 0⟩, ⟨(some 33), .mv (.t 10), (some (32, false)), 0, 0⟩, ⟨(some 34), .mv (.t 2), (some (32, false)), 0, 0⟩,
   ⟨(some 35), .bin .gtr .no (.t 33) (.t 34), (some (32, false)), 0, 0⟩, ⟨(some 36), .pick (.t 32) (.k (.bool true)) (.t 35), none, 0, 0⟩, ⟨(some 37), .mv (.t
  36), none, 0, 0⟩, ⟨(some 38), .mv (.t 3), (some (37, true)), 0, 0⟩, ⟨(some 39), .mv (.t 38), (some (37, true)), 0, 0⟩, ⟨(some 40), .mv (.t 0), (some (39,
  true)), 0, 0⟩, ⟨(some 41), .nilchk (.t 40), (some (39, true)), 0, 0⟩, ⟨(some 42), .faddr (.t 41) 0, (some (39, true)), 0, 0⟩, ⟨(some 43), .load false 1 (.t
  42) false, (some (39, true)), 0, 0⟩, ⟨(some 44), .mv (.t 9), (some (39, true)), 0, 0⟩, ⟨(some 45), .index (.t 43) (.t 44), (some (39, true)), 0, 0⟩, ⟨(some
  46), .bin .eql .no (.t 45) (.k (.int .u8 95)), (some (39, true)), 0, 0⟩, ⟨(some 47), .pick (.t 39) (.t 46) (.k (.bool false)), (some (37, true)), 0, 0⟩,
  ⟨(some 48), .un .not (.t 47), (some (37, true)), 0, 0⟩, ⟨(some 49), .pick (.t 37) (.t 48) (.k (.bool false)), none, 0, 0⟩] false) (.cond (.t 49) (.exit 0)
  (.skip))) (.region [⟨(some 50), .mv (.t 9), none, 0, 0⟩, ⟨(some 51), .bin .add .no (.t 50) (.k (.int .i64 1)), none, 0, 0⟩, ⟨(some 9), .mv (.t 51), none, 0,
  0⟩] false))))
def B159_0 : SC := B159_0b
theorem rB159_0 {Pr : Prims} {Pg : FuncId → Option SF} {keep : List Nat} {s : St} : runL Pr Pg keep B159_0 s = runL Pr Pg keep B159_0b s := rfl
def F159 : SF := ⟨62, .seq (.region [⟨(some 8), .mv (.k (.str [])), none, 0, 0⟩] false) (.seq (.region [⟨(some 11), .mv (.t 0), none, 0, 0⟩, ⟨(some 12),
  .nilchk (.t 11), none, 0, 0⟩, ⟨(some 13), .faddr (.t 12) 1, none, 0, 0⟩, ⟨(some 14), .load false 1 (.t 13) false, none, 0, 0⟩, ⟨(some 9), .mv (.t 14), none,
  0, 0⟩] false) (.seq (.block 0 (.loop B159_0)) (.seq (.region [⟨(some 52), .mv (.t 0), none, 0, 0⟩, ⟨(some 53), .nilchk (.t 52), none, 0, 0⟩, ⟨(some 54),
  .faddr (.t 53) 0, none, 0, 0⟩, ⟨(some 55), .load false 1 (.t 54) false, none, 0, 0⟩, ⟨(some 56), .mv (.t 0), none, 0, 0⟩, ⟨(some 57), .nilchk (.t 56), none,
  0, 0⟩, ⟨(some 58), .faddr (.t 57) 1, none, 0, 0⟩, ⟨(some 59), .load false 1 (.t 58) false, none, 0, 0⟩, ⟨(some 60), .mv (.t 9), none, 0, 0⟩, ⟨(some 61),
  .slice 0 (.t 55) (some (.t 59)) (some (.t 60)) none, none, 0, 0⟩, ⟨(some 8), .mv (.t 61), none, 0, 0⟩] true) (.ret)))), [.tmp 8], [0, 1, 2, 3, 9], [], []⟩
theorem c159 : cFunc Go.Proofs.Try.prog h159 Go.Proofs.Try.f159 = some F159 := by kernel_rfl
def h112 : Hints := ⟨[], [], [0, 2, 3], [], [], [], []⟩
def B112_0b : SC := .seq (.seq (.region [⟨(some 7), .mv (.t 2), none, 0, 0⟩, ⟨(some 8), .mv (.t 3), none, 0, 0⟩, ⟨(some 9), .bin .lss .no (.t 7) (.t 8), none,
  0, 0⟩] false) (.cond (.t 9) (.skip) (.exit 0))) (.seq (.block 1 (.region [⟨(some 14), .mv (.t 0), none, 0, 0⟩, ⟨(some 15), .mv (.t 2), none, 0, 0⟩, ⟨(some
  16), .mv (.t 0), none, 0, 1⟩, ⟨(some 17), .mv (.t 3), none, 0, 1⟩, ⟨(some 18), .mv (.t 0), none, 0, 0⟩, ⟨(some 19), .mv (.t 3), none, 0, 0⟩, ⟨(some 20),
  .iaddr 1 (.t 18) (.t 19), none, 0, 0⟩, ⟨(some 21), .load false 1 (.t 20) false, none, 0, 0⟩, ⟨(some 22), .mv (.t 0), none, 0, 0⟩, ⟨(some 23), .mv (.t 2),
  none, 0, 0⟩, ⟨(some 24), .iaddr 1 (.t 22) (.t 23), none, 0, 0⟩, ⟨(some 25), .load false 1 (.t 24) false, none, 0, 0⟩, ⟨(some 26), .iaddr 1 (.t 14) (.t 15),
  none, 0, 0⟩, ⟨none, .store 1 (.t 26) (.t 21), none, 1, 0⟩, ⟨(some 27), .iaddr 1 (.t 16) (.t 17), none, 1, 1⟩, ⟨none, .store 1 (.t 27) (.t 25), none, 1, 0⟩]
  true)) (.region [⟨(some 10), .mv (.t 2), none, 0, 0⟩, ⟨(some 11), .bin .add .no (.t 10) (.k (.int .i64 1)), none, 0, 0⟩, ⟨(some 12), .mv (.t 3), none, 0, 0⟩,
  ⟨(some 13), .bin .sub .no (.t 12) (.k (.int .i64 1)), none, 0, 0⟩, ⟨(some 2), .mv (.t 11), none, 0, 0⟩, ⟨(some 3), .mv (.t 13), none, 0, 0⟩] false))
def B112_0 : SC := B112_0b
theorem rB112_0 {Pr : Prims} {Pg : FuncId → Option SF} {keep : List Nat} {s : St} : runL Pr Pg keep B112_0 s = runL Pr Pg keep B112_0b s := rfl
def F112 : SF := ⟨28, .seq (.region [⟨(some 4), .mv (.t 0), none, 0, 0⟩, ⟨(some 5), .len false (.t 4), none, 0, 0⟩, ⟨(some 6), .bin .sub .no (.t 5) (.k (.int
  .i64 1)), none, 0, 0⟩, ⟨(some 2), .mv (.k (.int .i64 0)), none, 0, 0⟩, ⟨(some 3), .mv (.t 6), none, 0, 0⟩] false) (.block 0 (.loop B112_0)), [], [0, 2, 3],
  [], []⟩
theorem c112 : cFunc Go.Proofs.Try.prog h112 Go.Proofs.Try.f112 = some F112 := by kernel_rfl
def h54 : Hints := ⟨[], [], [3, 4, 5], [], [], [], []⟩
def B54_0b : SC := .block 1 (.seq (.region [⟨(some 12), .mv (.t 5), none, 0, 0⟩, ⟨(some 13), .mv (.t 4), none, 0, 0⟩, ⟨(some 14), .bin .rem .no (.t 13) (.k
  (.int .u64 10)), none, 0, 0⟩, ⟨(some 15), .bin .add .no (.k (.int .u64 48)) (.t 14), none, 0, 0⟩, ⟨(some 16), .conv (.int .u8) (.t 15), none, 0, 0⟩, ⟨(some
  17), .bslice 1 [.int .u8 0] 1 [(0, (.t 16))], none, 0, 0⟩, ⟨(some 18), .append 1 (.t 12) (.t 17), none, 0, 0⟩, ⟨(some 5), .mv (.t 18), none, 0, 0⟩] false)
  (.seq (.region [⟨(some 19), .mv (.t 4), none, 0, 0⟩, ⟨(some 20), .bin .quo .no (.t 19) (.k (.int .u64 10)), none, 0, 0⟩, ⟨(some 4), .mv (.t 20), none, 0, 0⟩]
  false) (.seq (.region [⟨(some 21), .mv (.t 4), none, 0, 0⟩, ⟨(some 22), .bin .eql .no (.t 21) (.k (.int .u64 0)), none, 0, 0⟩] false) (.cond (.t 22) (.exit
  0) (.skip)))))
def B54_0 : SC := B54_0b
theorem rB54_0 {Pr : Prims} {Pg : FuncId → Option SF} {keep : List Nat} {s : St} : runL Pr Pg keep B54_0 s = runL Pr Pg keep B54_0b s := rfl
def F54 : SF := ⟨29, .seq (.region [⟨(some 2), .mv (.k (.str [])), none, 0, 0⟩] false) (.seq (.region [⟨(some 6), .mv (.t 0), none, 0, 0⟩, ⟨(some 7), .conv
  (.int .u64) (.t 6), none, 0, 0⟩, ⟨(some 3), .mv (.k (.str [])), none, 0, 0⟩, ⟨(some 4), .mv (.t 7), none, 0, 0⟩] false) (.seq (.seq (.region [⟨(some 8), .mv
  (.t 0), none, 0, 0⟩, ⟨(some 9), .bin .lss .no (.t 8) (.k (.int .i64 0)), none, 0, 0⟩] false) (.cond (.t 9) (.region [⟨(some 10), .mv (.t 4), none, 0, 0⟩,
  ⟨(some 11), .un .neg (.t 10), none, 0, 0⟩, ⟨(some 3), .mv (.k (.str [45])), none, 0, 0⟩, ⟨(some 4), .mv (.t 11), none, 0, 0⟩] false) (.skip))) (.seq (.region
  [⟨(some 5), .mv (.k (.sl 1 [] .exact)), none, 0, 0⟩] false) (.seq (.block 0 (.loop B54_0)) (.seq (.region [⟨(some 23), .mv (.t 5), none, 0, 0⟩, ⟨(some 24),
  .call (.k (.fn (.func 112) [] [])) [(.t 23)] [], none, 0, 0⟩] false) (.seq (.region [⟨(some 25), .mv (.t 3), none, 0, 0⟩, ⟨(some 26), .mv (.t 5), none, 0, 0⟩,
   ⟨(some 27), .conv .b2s (.t 26), none, 0, 0⟩, ⟨(some 28), .bin .add .no (.t 25) (.t 27), none, 0, 0⟩, ⟨(some 2), .mv (.t 28), none, 0, 0⟩] false)
  (.ret))))))), [.tmp 2], [3, 4, 5], [], []⟩
theorem c54 : cFunc Go.Proofs.Try.prog h54 Go.Proofs.Try.f54 = some F54 := by kernel_rfl
def h160 : Hints := ⟨[], [], [0, 4, 7, 8], [], [], [], []⟩
def B160_0b : SC := .seq (.region [⟨(some 9), .bin .lss .no (.t 8) (.t 7), none, 0, 0⟩] false) (.seq (.cond (.t 9) (.skip) (.exit 0)) (.seq (.block 1 (.seq
  (.region [⟨(some 10), .mv (.t 8), none, 0, 0⟩, ⟨(some 5), .mv (.t 10), none, 0, 0⟩] false) (.seq (.seq (.region [⟨(some 11), .mv (.t 0), none, 0, 0⟩, ⟨(some
  12), .mv (.t 5), none, 0, 0⟩, ⟨(some 13), .index (.t 11) (.t 12), none, 0, 0⟩, ⟨(some 14), .call (.k (.fn (.func 155) [] [])) [(.t 13)] [], none, 0, 0⟩,
  ⟨(some 15), .bin .neq .no (.t 14) (.k (.int .i64 3)), none, 0, 0⟩, ⟨(some 16), .mv (.t 15), none, 0, 0⟩, ⟨(some 17), .mv (.t 4), (some (16, false)), 0, 0⟩,
  ⟨(some 18), .bin .gtr .no (.t 17) (.k (.int .i64 2147483647)), (some (16, false)), 0, 0⟩, ⟨(some 19), .pick (.t 16) (.k (.bool true)) (.t 18), none, 0, 0⟩]
  false) (.cond (.t 19) (.seq (.region [⟨(some 2), .mv (.k (.int .i64 0)), none, 0, 0⟩, ⟨(some 3), .mv (.k (.bool false)), none, 0, 0⟩] false) (.ret))
  (.skip))) (.region [⟨(some 20), .mv (.t 4), none, 0, 0⟩, ⟨(some 21), .bin .mul .no (.k (.int .i64 10)) (.t 20), none, 0, 0⟩, ⟨(some 22), .mv (.t 0), none, 0,
  0⟩, ⟨(some 23), .mv (.t 5), none, 0, 0⟩, ⟨(some 24), .index (.t 22) (.t 23), none, 0, 0⟩, ⟨(some 25), .bin .sub .no (.t 24) (.k (.int .u8 48)), none, 0, 0⟩,
  ⟨(some 26), .conv (.int .i64) (.t 25), none, 0, 0⟩, ⟨(some 27), .bin .add .no (.t 21) (.t 26), none, 0, 0⟩, ⟨(some 4), .mv (.t 27), none, 0, 0⟩] false))))
  (.region [⟨(some 28), .bin .add .no (.t 8) (.k (.int .i64 1)), none, 0, 0⟩, ⟨(some 8), .mv (.t 28), none, 0, 0⟩] false)))
def B160_0 : SC := B160_0b
theorem rB160_0 {Pr : Prims} {Pg : FuncId → Option SF} {keep : List Nat} {s : St} : runL Pr Pg keep B160_0 s = runL Pr Pg keep B160_0b s := rfl
def F160 : SF := ⟨38, .seq (.region [⟨(some 2), .mv (.k (.int .i64 0)), none, 0, 0⟩, ⟨(some 3), .mv (.k (.bool false)), none, 0, 0⟩] false) (.seq (.region
  [⟨(some 4), .mv (.k (.int .i64 0)), none, 0, 0⟩] false) (.seq (.seq (.region [⟨(some 6), .mv (.t 0), none, 0, 0⟩, ⟨(some 7), .len true (.t 6), none, 0, 0⟩,
  ⟨(some 8), .mv (.k (.int .i64 0)), none, 0, 0⟩] false) (.block 0 (.loop B160_0))) (.seq (.seq (.region [⟨(some 29), .mv (.t 4), none, 0, 0⟩, ⟨(some 30), .bin
  .gtr .no (.t 29) (.k (.int .i64 2147483647)), none, 0, 0⟩, ⟨(some 31), .mv (.t 30), none, 0, 0⟩, ⟨(some 32), .mv (.t 4), (some (31, false)), 0, 0⟩, ⟨(some
  33), .call (.k (.fn (.func 54) [] [])) [(.t 32)] [], (some (31, false)), 0, 0⟩, ⟨(some 34), .mv (.t 0), (some (31, false)), 0, 0⟩, ⟨(some 35), .bin .neq .no
  (.t 33) (.t 34), (some (31, false)), 0, 0⟩, ⟨(some 36), .pick (.t 31) (.k (.bool true)) (.t 35), none, 0, 0⟩] false) (.cond (.t 36) (.seq (.region [⟨(some 2),
   .mv (.k (.int .i64 0)), none, 0, 0⟩, ⟨(some 3), .mv (.k (.bool false)), none, 0, 0⟩] false) (.ret)) (.skip))) (.seq (.region [⟨(some 37), .mv (.t 4), none,
  0, 0⟩, ⟨(some 2), .mv (.t 37), none, 0, 0⟩, ⟨(some 3), .mv (.k (.bool true)), none, 0, 0⟩] false) (.ret))))), [.tmp 2, .tmp 3], [0, 4, 7, 8], [], []⟩
theorem c160 : cFunc Go.Proofs.Try.prog h160 Go.Proofs.Try.f160 = some F160 := by kernel_rfl
def h161 : Hints := ⟨[], [], [], [], [], [], []⟩
def F161 : SF := ⟨2, .seq (.region [⟨(some 0), .mv (.k (.sl 1 [] .exact)), none, 0, 0⟩] false) (.seq (.region [⟨(some 1), .bslice 1 [.str []] 11 [(0, (.k (.str
  [61, 61]))), (1, (.k (.str [61]))), (2, (.k (.str [124]))), (3, (.k (.str [63]))), (4, (.k (.str [60]))), (5, (.k (.str [43]))), (6, (.k (.str [45]))), (7,
  (.k (.str [42]))), (8, (.k (.str [40]))), (9, (.k (.str [41]))), (10, (.k (.str [95])))], none, 0, 0⟩, ⟨(some 0), .mv (.t 1), none, 0, 0⟩] false) (.ret)),
  [.tmp 0], [], [], []⟩
theorem c161 : cFunc Go.Proofs.Try.prog h161 Go.Proofs.Try.f161 = some F161 := by kernel_rfl
def h103 : Hints := ⟨[2], [], [0, 2, 40, 41, 42], [], [], [], []⟩
def B103_0b : SC := .seq (.region [⟨(some 43), .bin .lss .no (.t 42) (.t 41), none, 0, 0⟩] false) (.seq (.cond (.t 43) (.skip) (.exit 1)) (.seq (.block 2 (.seq
  (.region [⟨(some 44), .iaddr 1 (.t 40) (.t 42), none, 0, 0⟩, ⟨(some 45), .load false 1 (.t 44) false, none, 0, 0⟩, ⟨(some 8), .mv (.t 45), none, 0, 0⟩]
  false) (.seq (.region [⟨(some 46), .mv (.t 0), none, 0, 0⟩, ⟨(some 47), .nilchk (.t 46), none, 0, 0⟩, ⟨(some 48), .faddr (.t 47) 0, none, 0, 0⟩, ⟨(some 49),
  .load false 1 (.t 48) false, none, 0, 0⟩, ⟨(some 50), .mv (.t 0), none, 0, 0⟩, ⟨(some 51), .nilchk (.t 50), none, 0, 0⟩, ⟨(some 52), .faddr (.t 51) 1, none,
  0, 0⟩, ⟨(some 53), .load false 1 (.t 52) false, none, 0, 0⟩, ⟨(some 54), .slice 0 (.t 49) (some (.t 53)) none none, none, 0, 0⟩, ⟨(some 55), .mv (.t 8), none,
   0, 0⟩, ⟨(some 56), .call (.k (.fn (.func 156) [] [])) [(.t 54), (.t 55)] [], none, 1, 0⟩] true) (.cond (.t 56) (.seq (.region [⟨(some 57), .mv (.t 8), none,
  0, 0⟩, ⟨(some 58), .build [.int .i64 0, .str [], .int .i64 0, .int .i64 0, .int .i64 0] [(0, 1, (.k (.int .i64 6))), (1, 1, (.t 57))], none, 0, 0⟩, ⟨none,
  .store 5 (.t 2) (.t 58), none, 0, 0⟩, ⟨(some 3), .mv (.k (.bool true)), none, 0, 0⟩] false) (.ret)) (.skip))))) (.region [⟨(some 59), .bin .add .no (.t 42)
  (.k (.int .i64 1)), none, 0, 0⟩, ⟨(some 42), .mv (.t 59), none, 0, 0⟩] false)))
def B103_0 : SC := B103_0b
theorem rB103_0 {Pr : Prims} {Pg : FuncId → Option SF} {keep : List Nat} {s : St} : runL Pr Pg keep B103_0 s = runL Pr Pg keep B103_0b s := rfl
def F103 : SF := ⟨61, .seq (.region [⟨(some 2), .allocL [.int .i64 0, .str [], .int .i64 0, .int .i64 0, .int .i64 0], none, 0, 0⟩, ⟨(some 3), .mv (.k (.bool
  false)), none, 0, 0⟩] false) (.seq (.seq (.region [⟨(some 9), .mv (.t 0), none, 0, 0⟩, ⟨(some 10), .nilchk (.t 9), none, 0, 0⟩, ⟨(some 11), .faddr (.t 10) 0,
  none, 0, 0⟩, ⟨(some 12), .load false 1 (.t 11) false, none, 0, 0⟩, ⟨(some 13), .mv (.t 0), none, 0, 0⟩, ⟨(some 14), .nilchk (.t 13), none, 0, 0⟩, ⟨(some 15),
  .faddr (.t 14) 1, none, 0, 0⟩, ⟨(some 16), .load false 1 (.t 15) false, none, 0, 0⟩, ⟨(some 17), .index (.t 12) (.t 16), none, 0, 0⟩, ⟨(some 18), .call (.k
  (.fn (.func 155) [] [])) [(.t 17)] [], none, 1, 0⟩] true) (.block 0 (.seq (.seq (.region [⟨(some 20), .bin .eql .no (.t 18) (.k (.int .i64 1)), none, 0, 0⟩,
  ⟨(some 19), .mv (.t 20), none, 0, 0⟩] false) (.cond (.t 19) (.skip) (.region [⟨(some 21), .bin .eql .no (.t 18) (.k (.int .i64 2)), none, 0, 0⟩, ⟨(some 19),
  .mv (.t 21), none, 0, 0⟩] false))) (.cond (.t 19) (.seq (.region [⟨(some 22), .mv (.t 0), none, 0, 0⟩, ⟨(some 23), .call (.k (.fn (.func 159) [] [])) [(.t
  22), (.k (.int .i64 1)), (.k (.int .i64 3)), (.k (.bool true))] [], none, 0, 0⟩, ⟨(some 24), .call (.k (.fn (.func 158) [] [])) [(.t 23)] [], none, 0, 0⟩,
  ⟨(some 25), .extract (.t 24) 0, none, 0, 0⟩, ⟨(some 26), .extract (.t 24) 1, none, 0, 0⟩, ⟨none, .store 5 (.t 2) (.t 25), none, 0, 0⟩, ⟨(some 3), .mv (.t 26),
   none, 0, 0⟩] false) (.ret)) (.seq (.region [⟨(some 28), .bin .eql .no (.t 18) (.k (.int .i64 3)), none, 0, 0⟩, ⟨(some 27), .mv (.t 28), none, 0, 0⟩] false)
  (.cond (.t 27) (.seq (.region [⟨(some 29), .mv (.t 0), none, 0, 0⟩, ⟨(some 30), .call (.k (.fn (.func 159) [] [])) [(.t 29), (.k (.int .i64 3)), (.k (.int
  .i64 3)), (.k (.bool false))] [], none, 0, 0⟩, ⟨(some 4), .mv (.t 30), none, 0, 0⟩] false) (.seq (.region [⟨(some 32), .mv (.t 4), none, 0, 0⟩, ⟨(some 33),
  .call (.k (.fn (.func 160) [] [])) [(.t 32)] [], none, 0, 0⟩, ⟨(some 31), .mv (.t 33), none, 0, 0⟩, ⟨(some 34), .extract (.t 31) 0, none, 0, 0⟩, ⟨(some 35),
  .extract (.t 31) 1, none, 0, 0⟩, ⟨(some 5), .mv (.t 34), none, 0, 0⟩, ⟨(some 6), .mv (.t 35), none, 0, 0⟩] false) (.seq (.region [⟨(some 36), .mv (.t 4),
  none, 0, 0⟩, ⟨(some 37), .mv (.t 5), none, 0, 0⟩, ⟨(some 38), .build [.int .i64 0, .str [], .int .i64 0, .int .i64 0, .int .i64 0] [(0, 1, (.k (.int .i64
  4))), (1, 1, (.t 36)), (2, 1, (.t 37))], none, 0, 0⟩, ⟨(some 39), .mv (.t 6), none, 0, 0⟩, ⟨none, .store 5 (.t 2) (.t 38), none, 0, 0⟩, ⟨(some 3), .mv (.t
  39), none, 0, 0⟩] false) (.ret)))) (.skip))))))) (.seq (.seq (.region [⟨(some 40), .call (.k (.fn (.func 161) [] [])) [] [], none, 0, 0⟩, ⟨(some 41), .len
  false (.t 40), none, 0, 0⟩, ⟨(some 42), .mv (.k (.int .i64 0)), none, 0, 0⟩] false) (.block 1 (.loop B103_0))) (.seq (.region [⟨(some 60), .build [.int .i64
  0, .str [], .int .i64 0, .int .i64 0, .int .i64 0] [], none, 0, 0⟩, ⟨none, .store 5 (.t 2) (.t 60), none, 0, 0⟩, ⟨(some 3), .mv (.k (.bool false)), none, 0,
  0⟩] false) (.ret)))), [.cell 2 true 5, .tmp 3], [0, 2, 40, 41, 42], [], []⟩
theorem c103 : cFunc Go.Proofs.Try.prog h103 Go.Proofs.Try.f103 = some F103 := by kernel_rfl
def h104 : Hints := ⟨[2], [], [], [], [], [], []⟩
def F104 : SF := ⟨18, .seq (.region [⟨(some 2), .allocL [.int .i64 0, .int .i64 0], none, 0, 0⟩] false) (.seq (.region [⟨(some 3), .mv (.t 0), none, 0, 0⟩,
  ⟨(some 4), .nilchk (.t 3), none, 0, 0⟩, ⟨(some 5), .faddr (.t 4) 2, none, 0, 0⟩, ⟨(some 6), .load false 1 (.t 5) false, none, 0, 0⟩, ⟨(some 7), .mv (.t 0),
  none, 0, 0⟩, ⟨(some 8), .nilchk (.t 7), none, 0, 0⟩, ⟨(some 9), .faddr (.t 8) 1, none, 0, 0⟩, ⟨(some 10), .load false 1 (.t 9) false, none, 0, 0⟩, ⟨(some 11),
   .mv (.t 0), none, 0, 0⟩, ⟨(some 12), .nilchk (.t 11), none, 0, 0⟩, ⟨(some 13), .faddr (.t 12) 3, none, 0, 0⟩, ⟨(some 14), .load false 1 (.t 13) false, none,
  0, 0⟩, ⟨(some 15), .bin .sub .no (.t 10) (.t 14), none, 0, 0⟩, ⟨(some 16), .bin .add .no (.t 15) (.k (.int .i64 1)), none, 0, 0⟩, ⟨(some 17), .build [.int
  .i64 0, .int .i64 0] [(0, 1, (.t 6)), (1, 1, (.t 16))], none, 0, 0⟩, ⟨none, .store 2 (.t 2) (.t 17), none, 1, 0⟩] true) (.ret)), [.cell 2 true 2], [], [], []⟩
theorem c104 : cFunc Go.Proofs.Try.prog h104 Go.Proofs.Try.f104 = some F104 := by kernel_rfl
def h46 : Hints := ⟨[3, 5], [46, 58, 77], [0, 3, 4], [], [], [], [31, 79]⟩
def B46_0b : SC := .seq (.seq (.region [⟨(some 16), .mv (.t 4), none, 0, 0⟩, ⟨(some 17), .nilchk (.t 16), none, 0, 0⟩, ⟨(some 18), .faddr (.t 17) 1, none, 0,
  0⟩, ⟨(some 19), .load false 1 (.t 18) false, none, 0, 0⟩, ⟨(some 20), .mv (.t 0), none, 0, 0⟩, ⟨(some 21), .len true (.t 20), none, 0, 0⟩, ⟨(some 22), .bin
  .lss .no (.t 19) (.t 21), none, 0, 0⟩] false) (.cond (.t 22) (.skip) (.exit 0))) (.seq (.block 1 (.seq (.region [⟨(some 26), .mv (.t 4), none, 0, 0⟩, ⟨(some
  27), .call (.k (.fn (.func 103) [] [])) [(.t 26)] [], none, 0, 0⟩, ⟨(some 25), .mv (.t 27), none, 0, 0⟩, ⟨(some 28), .extract (.t 25) 0, none, 0, 0⟩, ⟨(some
  29), .extract (.t 25) 1, none, 0, 0⟩, ⟨(some 5), .allocL [.int .i64 0, .str [], .int .i64 0, .int .i64 0, .int .i64 0], none, 0, 0⟩, ⟨none, .store 5 (.t 5)
  (.t 28), none, 0, 0⟩, ⟨(some 6), .mv (.t 29), none, 0, 0⟩] false) (.seq (.region [⟨(some 30), .mv (.t 4), none, 0, 0⟩, ⟨(some 31), .rcall (.k (.fn (.func
  104) [] [])) [(.t 30)], none, 0, 0⟩, ⟨(some 32), .faddr (.t 5) 3, none, 0, 0⟩, ⟨none, .store 2 (.t 32) (.t 31), none, 0, 0⟩] false) (.seq (.seq (.region
  [⟨(some 33), .mv (.t 6), none, 0, 0⟩, ⟨(some 34), .un .not (.t 33), none, 0, 0⟩] false) (.cond (.t 34) (.seq (.region [⟨(some 35), .faddr (.t 5) 3, none, 0,
  0⟩, ⟨(some 36), .load true 2 (.t 35) false, none, 0, 0⟩, ⟨(some 37), .build [.int .i64 0, .int .i64 0, .int .i64 0] [(0, 1, (.k (.int .i64 1))), (1, 2, (.t
  36))], none, 0, 0⟩, ⟨(some 2), .mv (.k (.sl 5 [] .exact)), none, 0, 0⟩, ⟨none, .store 3 (.t 3) (.t 37), none, 1, 0⟩] true) (.ret)) (.skip))) (.seq (.seq
  (.region [⟨(some 38), .faddr (.t 5) 3, none, 0, 0⟩, ⟨(some 39), .faddr (.t 38) 1, none, 0, 0⟩, ⟨(some 40), .load false 1 (.t 39) false, none, 0, 0⟩, ⟨(some
  41), .bin .eql .no (.t 40) (.k (.int .i64 1)), none, 0, 0⟩] false) (.cond (.t 41) (.region [⟨(some 42), .mv (.t 4), none, 0, 2⟩, ⟨(some 43), .mv (.t 4), none,
   0, 0⟩, ⟨(some 44), .nilchk (.t 43), none, 0, 0⟩, ⟨(some 45), .faddr (.t 44) 4, none, 0, 0⟩, ⟨(some 46), .load false 1 (.t 45) true, none, 0, 0⟩, ⟨(some 47),
  .faddr (.t 5) 3, none, 0, 1⟩, ⟨(some 48), .load true 2 (.t 47) false, none, 0, 1⟩, ⟨(some 49), .build [.int .i64 0, .str [], .int .i64 0, .int .i64 0, .int
  .i64 0] [(0, 1, (.k (.int .i64 1))), (3, 2, (.t 48))], none, 0, 1⟩, ⟨(some 50), .bslice 5 [.int .i64 0, .str [], .int .i64 0, .int .i64 0, .int .i64 0] 1 [(0,
   (.t 49))], none, 0, 1⟩, ⟨(some 51), .append 5 (.t 46) (.t 50), none, 1, 0⟩, ⟨(some 52), .nilchk (.t 42), none, 2, 2⟩, ⟨(some 53), .faddr (.t 52) 4, none, 2,
  2⟩, ⟨none, .store 1 (.t 53) (.t 51), none, 1, 0⟩] true) (.skip))) (.seq (.region [⟨(some 54), .mv (.t 4), none, 0, 2⟩, ⟨(some 55), .mv (.t 4), none, 0, 0⟩,
  ⟨(some 56), .nilchk (.t 55), none, 0, 0⟩, ⟨(some 57), .faddr (.t 56) 4, none, 0, 0⟩, ⟨(some 58), .load false 1 (.t 57) true, none, 0, 0⟩, ⟨(some 59), .load
  true 5 (.t 5) false, none, 0, 1⟩, ⟨(some 60), .bslice 5 [.int .i64 0, .str [], .int .i64 0, .int .i64 0, .int .i64 0] 1 [(0, (.t 59))], none, 0, 1⟩, ⟨(some
  61), .append 5 (.t 58) (.t 60), none, 1, 0⟩, ⟨(some 62), .nilchk (.t 54), none, 2, 2⟩, ⟨(some 63), .faddr (.t 62) 4, none, 2, 2⟩, ⟨none, .store 1 (.t 63) (.t
  61), none, 1, 0⟩] true) (.region [⟨(some 64), .mv (.t 4), none, 0, 0⟩, ⟨(some 65), .nilchk (.t 64), none, 0, 0⟩, ⟨(some 66), .faddr (.t 65) 1, none, 0, 0⟩,
  ⟨(some 67), .load false 1 (.t 66) false, none, 0, 0⟩, ⟨(some 68), .faddr (.t 5) 1, none, 0, 0⟩, ⟨(some 69), .load false 1 (.t 68) false, none, 0, 0⟩, ⟨(some
  70), .len true (.t 69), none, 0, 0⟩, ⟨(some 71), .bin .add .no (.t 67) (.t 70), none, 0, 0⟩, ⟨(some 72), .nilchk (.t 64), none, 0, 0⟩, ⟨(some 73), .faddr (.t
  72) 1, none, 0, 0⟩, ⟨none, .store 1 (.t 73) (.t 71), none, 1, 0⟩] true))))))) (.region [⟨(some 23), .mv (.t 4), none, 0, 0⟩, ⟨(some 24), .call (.k (.fn
  (.func 102) [] [])) [(.t 23)] [], none, 0, 0⟩] false))
def B46_0 : SC := B46_0b
theorem rB46_0 {Pr : Prims} {Pg : FuncId → Option SF} {keep : List Nat} {s : St} : runL Pr Pg keep B46_0 s = runL Pr Pg keep B46_0b s := rfl
def F46 : SF := ⟨84, .seq (.region [⟨(some 2), .mv (.k (.sl 5 [] .exact)), none, 0, 0⟩, ⟨(some 3), .allocL [.int .i64 0, .int .i64 0, .int .i64 0], none, 0,
  0⟩] false) (.seq (.seq (.region [⟨(some 7), .mv (.t 0), none, 0, 0⟩, ⟨(some 8), .len true (.t 7), none, 0, 0⟩, ⟨(some 9), .bin .gtr .no (.t 8) (.k (.int .i64
  4096)), none, 0, 0⟩] false) (.cond (.t 9) (.seq (.region [⟨(some 10), .build [.int .i64 0, .int .i64 0, .int .i64 0] [(0, 1, (.k (.int .i64 11)))], none, 0,
  0⟩, ⟨(some 2), .mv (.k (.sl 5 [] .exact)), none, 0, 0⟩, ⟨none, .store 3 (.t 3) (.t 10), none, 0, 0⟩] false) (.ret)) (.skip))) (.seq (.region [⟨(some 11), .mv
  (.t 0), none, 0, 0⟩, ⟨(some 12), .build [.str [], .int .i64 0, .int .i64 0, .int .i64 0, .sl 5 [] .exact] [(0, 1, (.t 11)), (2, 1, (.k (.int .i64 1)))], none,
   0, 0⟩, ⟨(some 13), .boxH 5 (.t 12), none, 0, 0⟩, ⟨(some 4), .mv (.t 13), none, 0, 0⟩] false) (.seq (.seq (.region [⟨(some 14), .mv (.t 4), none, 0, 0⟩,
  ⟨(some 15), .call (.k (.fn (.func 102) [] [])) [(.t 14)] [], none, 0, 0⟩] false) (.block 0 (.loop B46_0))) (.seq (.region [⟨(some 74), .mv (.t 4), none, 0,
  0⟩, ⟨(some 75), .nilchk (.t 74), none, 0, 0⟩, ⟨(some 76), .faddr (.t 75) 4, none, 0, 0⟩, ⟨(some 77), .load false 1 (.t 76) true, none, 0, 0⟩, ⟨(some 78), .mv
  (.t 4), none, 0, 1⟩, ⟨(some 79), .rcall (.k (.fn (.func 104) [] [])) [(.t 78)], none, 0, 1⟩, ⟨(some 80), .build [.int .i64 0, .str [], .int .i64 0, .int .i64
  0, .int .i64 0] [(3, 2, (.t 79))], none, 0, 1⟩, ⟨(some 81), .bslice 5 [.int .i64 0, .str [], .int .i64 0, .int .i64 0, .int .i64 0] 1 [(0, (.t 80))], none, 0,
   1⟩, ⟨(some 82), .append 5 (.t 77) (.t 81), none, 0, 0⟩, ⟨(some 83), .build [.int .i64 0, .int .i64 0, .int .i64 0] [], none, 0, 2⟩, ⟨(some 2), .mv (.t 82),
  none, 2, 2⟩, ⟨none, .store 3 (.t 3) (.t 83), none, 1, 0⟩] true) (.ret))))), [.tmp 2, .cell 3 true 3], [0, 3, 4], [], []⟩
theorem c46 : cFunc Go.Proofs.Try.prog h46 Go.Proofs.Try.f46 = some F46 := by kernel_rfl
def h58 : Hints := ⟨[], [], [], [], [], [], []⟩
def F58 : SF := ⟨9, .seq (.region [⟨(some 2), .mv (.k (.bool false)), none, 0, 0⟩] false) (.seq (.region [⟨(some 3), .mv (.t 0), none, 0, 0⟩, ⟨(some 4),
  .nilchk (.t 3), none, 0, 0⟩, ⟨(some 5), .faddr (.t 4) 3, none, 0, 0⟩, ⟨(some 6), .faddr (.t 5) 0, none, 0, 0⟩, ⟨(some 7), .load false 1 (.t 6) false, none, 0,
   0⟩, ⟨(some 8), .bin .eql .no (.t 7) (.k (.int .i64 0)), none, 0, 0⟩, ⟨(some 2), .mv (.t 8), none, 0, 0⟩] false) (.ret)), [.tmp 2], [], [], []⟩
theorem c58 : cFunc Go.Proofs.Try.prog h58 Go.Proofs.Try.f58 = some F58 := by kernel_rfl
def h74 : Hints := ⟨[2, 3], [], [], [], [], [], []⟩
def F74 : SF := ⟨44, .seq (.region [⟨(some 2), .allocL [.int .i64 0, .str [], .int .i64 0, .int .i64 0, .int .i64 0], none, 0, 0⟩] false) (.seq (.seq (.region
  [⟨(some 5), .mv (.t 0), none, 0, 0⟩, ⟨(some 6), .nilchk (.t 5), none, 0, 0⟩, ⟨(some 7), .faddr (.t 6) 1, none, 0, 0⟩, ⟨(some 8), .load false 1 (.t 7) false,
  none, 0, 0⟩, ⟨(some 9), .mv (.t 0), none, 0, 0⟩, ⟨(some 10), .nilchk (.t 9), none, 0, 0⟩, ⟨(some 11), .faddr (.t 10) 0, none, 0, 0⟩, ⟨(some 12), .load false
  1 (.t 11) false, none, 0, 0⟩, ⟨(some 13), .len false (.t 12), none, 0, 0⟩, ⟨(some 14), .bin .lss .no (.t 8) (.t 13), none, 0, 0⟩] true) (.cond (.t 14) (.seq
  (.region [⟨(some 15), .mv (.t 0), none, 0, 0⟩, ⟨(some 16), .nilchk (.t 15), none, 0, 0⟩, ⟨(some 17), .faddr (.t 16) 0, none, 0, 0⟩, ⟨(some 18), .load false 1
  (.t 17) false, none, 0, 0⟩, ⟨(some 19), .mv (.t 0), none, 0, 0⟩, ⟨(some 20), .nilchk (.t 19), none, 0, 0⟩, ⟨(some 21), .faddr (.t 20) 1, none, 0, 0⟩, ⟨(some
  22), .load false 1 (.t 21) false, none, 0, 0⟩, ⟨(some 23), .iaddr 5 (.t 18) (.t 22), none, 0, 0⟩, ⟨(some 24), .load true 5 (.t 23) false, none, 0, 0⟩, ⟨none,
  .store 5 (.t 2) (.t 24), none, 1, 0⟩] true) (.ret)) (.skip))) (.seq (.region [⟨(some 25), .build [.int .i64 0, .str [], .int .i64 0, .int .i64 0, .int .i64
  0] [(0, 1, (.k (.int .i64 (-1))))], none, 0, 0⟩, ⟨(some 3), .allocL [.int .i64 0, .str [], .int .i64 0, .int .i64 0, .int .i64 0], none, 0, 0⟩, ⟨none, .store
  5 (.t 3) (.t 25), none, 0, 0⟩] false) (.seq (.seq (.region [⟨(some 26), .mv (.t 0), none, 0, 0⟩, ⟨(some 27), .nilchk (.t 26), none, 0, 0⟩, ⟨(some 28), .faddr
  (.t 27) 0, none, 0, 0⟩, ⟨(some 29), .load false 1 (.t 28) false, none, 0, 0⟩, ⟨(some 30), .len false (.t 29), none, 0, 0⟩, ⟨(some 4), .mv (.t 30), none, 0,
  0⟩] false) (.seq (.region [⟨(some 31), .mv (.t 4), none, 0, 0⟩, ⟨(some 32), .bin .gtr .no (.t 31) (.k (.int .i64 0)), none, 0, 0⟩] false) (.cond (.t 32)
  (.region [⟨(some 33), .mv (.t 0), none, 0, 0⟩, ⟨(some 34), .nilchk (.t 33), none, 0, 0⟩, ⟨(some 35), .faddr (.t 34) 0, none, 0, 0⟩, ⟨(some 36), .load false 1
  (.t 35) false, none, 0, 0⟩, ⟨(some 37), .mv (.t 4), none, 0, 0⟩, ⟨(some 38), .bin .sub .no (.t 37) (.k (.int .i64 1)), none, 0, 0⟩, ⟨(some 39), .iaddr 5 (.t
  36) (.t 38), none, 0, 0⟩, ⟨(some 40), .faddr (.t 39) 3, none, 0, 0⟩, ⟨(some 41), .load true 2 (.t 40) false, none, 0, 0⟩, ⟨(some 42), .faddr (.t 3) 3, none,
  0, 0⟩, ⟨none, .store 2 (.t 42) (.t 41), none, 0, 0⟩] false) (.skip)))) (.seq (.region [⟨(some 43), .load true 5 (.t 3) false, none, 0, 0⟩, ⟨none, .store 5
  (.t 2) (.t 43), none, 0, 0⟩] false) (.ret))))), [.cell 2 true 5], [], [], []⟩
theorem c74 : cFunc Go.Proofs.Try.prog h74 Go.Proofs.Try.f74 = some F74 := by kernel_rfl
def h76 : Hints := ⟨[7], [], [], [], [], [], []⟩
def F76 : SF := ⟨24, .seq (.region [⟨(some 6), .mv (.k (.bool false)), none, 0, 0⟩] false) (.seq (.region [⟨(some 8), .mv (.t 0), none, 0, 0⟩, ⟨(some 9), .call
  (.k (.fn (.func 74) [] [])) [(.t 8)] [], none, 0, 0⟩, ⟨(some 7), .allocL [.int .i64 0, .str [], .int .i64 0, .int .i64 0, .int .i64 0], none, 0, 0⟩, ⟨none,
  .store 5 (.t 7) (.t 9), none, 0, 0⟩] false) (.seq (.region [⟨(some 10), .mv (.t 0), none, 0, 0⟩, ⟨(some 11), .call (.k (.fn (.func 58) [] [])) [(.t 10)] [],
  none, 0, 0⟩, ⟨(some 12), .mv (.t 11), none, 0, 0⟩, ⟨(some 13), .faddr (.t 7) 0, (some (12, true)), 0, 0⟩, ⟨(some 14), .load false 1 (.t 13) false, (some (12,
  true)), 0, 0⟩, ⟨(some 15), .mv (.t 1), (some (12, true)), 0, 0⟩, ⟨(some 16), .bin .eql .no (.t 14) (.t 15), (some (12, true)), 0, 0⟩, ⟨(some 17), .pick (.t
  12) (.t 16) (.k (.bool false)), none, 0, 0⟩, ⟨(some 18), .mv (.t 17), none, 0, 0⟩, ⟨(some 19), .faddr (.t 7) 1, (some (18, true)), 0, 0⟩, ⟨(some 20), .load
  false 1 (.t 19) false, (some (18, true)), 0, 0⟩, ⟨(some 21), .mv (.t 2), (some (18, true)), 0, 0⟩, ⟨(some 22), .bin .eql .no (.t 20) (.t 21), (some (18,
  true)), 0, 0⟩, ⟨(some 23), .pick (.t 18) (.t 22) (.k (.bool false)), none, 0, 0⟩, ⟨(some 6), .mv (.t 23), none, 0, 0⟩] false) (.ret))), [.tmp 6], [], [], []⟩
theorem c76 : cFunc Go.Proofs.Try.prog h76 Go.Proofs.Try.f76 = some F76 := by kernel_rfl
def h137 : Hints := ⟨[], [], [], [], [], [], []⟩
def F137 : SF := ⟨11, .seq (.region [⟨(some 2), .mv (.t 0), none, 0, 0⟩, ⟨(some 3), .call (.k (.fn (.func 58) [] [])) [(.t 2)] [], none, 0, 0⟩] false) (.cond
  (.t 3) (.region [⟨(some 4), .mv (.t 0), none, 0, 0⟩, ⟨(some 5), .mv (.t 0), none, 0, 0⟩, ⟨(some 6), .call (.k (.fn (.func 74) [] [])) [(.t 5)] [], none, 0,
  0⟩, ⟨(some 7), .field (.t 6) 3 2 true, none, 0, 0⟩, ⟨(some 8), .build [.int .i64 0, .int .i64 0, .int .i64 0] [(0, 1, (.k (.int .i64 1))), (1, 2, (.t 7))],
  none, 0, 0⟩, ⟨(some 9), .nilchk (.t 4), none, 0, 0⟩, ⟨(some 10), .faddr (.t 9) 3, none, 0, 0⟩, ⟨none, .store 3 (.t 10) (.t 8), none, 0, 0⟩] false) (.skip)),
  [], [], [], []⟩
theorem c137 : cFunc Go.Proofs.Try.prog h137 Go.Proofs.Try.f137 = some F137 := by kernel_rfl
def h75 : Hints := ⟨[], [], [], [], [], [], []⟩
def F75 : SF := ⟨20, .seq (.seq (.region [⟨(some 6), .mv (.t 0), none, 0, 0⟩, ⟨(some 7), .mv (.t 1), none, 0, 0⟩, ⟨(some 8), .mv (.t 2), none, 0, 0⟩, ⟨(some 9),
   .call (.k (.fn (.func 76) [] [])) [(.t 6), (.t 7), (.t 8)] [], none, 0, 0⟩, ⟨(some 10), .un .not (.t 9), none, 0, 0⟩] false) (.cond (.t 10) (.seq (.region
  [⟨(some 11), .mv (.t 0), none, 0, 0⟩, ⟨(some 12), .call (.k (.fn (.func 137) [] [])) [(.t 11)] [], none, 0, 0⟩] false) (.ret)) (.skip))) (.region [⟨(some 13),
   .mv (.t 0), none, 0, 0⟩, ⟨(some 14), .nilchk (.t 13), none, 0, 0⟩, ⟨(some 15), .faddr (.t 14) 1, none, 0, 0⟩, ⟨(some 16), .load false 1 (.t 15) false, none,
  0, 0⟩, ⟨(some 17), .bin .add .no (.t 16) (.k (.int .i64 1)), none, 0, 0⟩, ⟨(some 18), .nilchk (.t 13), none, 0, 0⟩, ⟨(some 19), .faddr (.t 18) 1, none, 0, 0⟩,
   ⟨none, .store 1 (.t 19) (.t 17), none, 0, 0⟩] false), [], [], [], []⟩
theorem c75 : cFunc Go.Proofs.Try.prog h75 Go.Proofs.Try.f75 = some F75 := by kernel_rfl
def h138 : Hints := ⟨[5], [], [], [], [], [], []⟩
def F138 : SF := ⟨23, .seq (.region [⟨(some 4), .mv (.k (.str [])), none, 0, 0⟩] false) (.seq (.region [⟨(some 6), .mv (.t 0), none, 0, 0⟩, ⟨(some 7), .call
  (.k (.fn (.func 74) [] [])) [(.t 6)] [], none, 0, 0⟩, ⟨(some 5), .allocL [.int .i64 0, .str [], .int .i64 0, .int .i64 0, .int .i64 0], none, 0, 0⟩, ⟨none,
  .store 5 (.t 5) (.t 7), none, 0, 0⟩] false) (.seq (.seq (.region [⟨(some 8), .faddr (.t 5) 0, none, 0, 0⟩, ⟨(some 9), .load false 1 (.t 8) false, none, 0, 0⟩,
   ⟨(some 10), .mv (.t 1), none, 0, 0⟩, ⟨(some 11), .bin .neq .no (.t 9) (.t 10), none, 0, 0⟩] false) (.cond (.t 11) (.seq (.region [⟨(some 12), .mv (.t 0),
  none, 0, 0⟩, ⟨(some 13), .call (.k (.fn (.func 137) [] [])) [(.t 12)] [], none, 0, 0⟩] false) (.seq (.region [⟨(some 4), .mv (.k (.str [])), none, 0, 0⟩]
  false) (.ret))) (.skip))) (.seq (.region [⟨(some 14), .mv (.t 0), none, 0, 0⟩, ⟨(some 15), .nilchk (.t 14), none, 0, 0⟩, ⟨(some 16), .faddr (.t 15) 1, none,
  0, 0⟩, ⟨(some 17), .load false 1 (.t 16) false, none, 0, 0⟩, ⟨(some 18), .bin .add .no (.t 17) (.k (.int .i64 1)), none, 0, 0⟩, ⟨(some 19), .nilchk (.t 14),
  none, 0, 0⟩, ⟨(some 20), .faddr (.t 19) 1, none, 0, 0⟩, ⟨none, .store 1 (.t 20) (.t 18), none, 0, 0⟩] false) (.seq (.region [⟨(some 21), .faddr (.t 5) 1,
  none, 0, 0⟩, ⟨(some 22), .load false 1 (.t 21) false, none, 0, 0⟩, ⟨(some 4), .mv (.t 22), none, 0, 0⟩] false) (.ret))))), [.tmp 4], [], [], []⟩
theorem c138 : cFunc Go.Proofs.Try.prog h138 Go.Proofs.Try.f138 = some F138 := by kernel_rfl
def h57 : Hints := ⟨[2, 3], [], [], [], [], [], []⟩
def F57 : SF := ⟨27, .seq (.region [⟨(some 2), .allocL [.int .i64 0, .str [], .int .i64 0, .sl 4 [] .exact], none, 0, 0⟩] false) (.seq (.seq (.region [⟨(some
  4), .mv (.t 0), none, 0, 0⟩, ⟨(some 5), .call (.k (.fn (.func 58) [] [])) [(.t 4)] [], none, 0, 0⟩, ⟨(some 6), .un .not (.t 5), none, 0, 0⟩] false) (.cond
  (.t 6) (.seq (.region [⟨(some 7), .build [.int .i64 0, .str [], .int .i64 0, .sl 4 [] .exact] [], none, 0, 0⟩, ⟨none, .store 4 (.t 2) (.t 7), none, 0, 0⟩]
  false) (.ret)) (.skip))) (.seq (.seq (.region [⟨(some 8), .mv (.t 0), none, 0, 0⟩, ⟨(some 9), .call (.k (.fn (.func 74) [] [])) [(.t 8)] [], none, 0, 0⟩,
  ⟨(some 3), .allocL [.int .i64 0, .str [], .int .i64 0, .int .i64 0, .int .i64 0], none, 0, 0⟩, ⟨none, .store 5 (.t 3) (.t 9), none, 0, 0⟩] false) (.seq
  (.region [⟨(some 10), .faddr (.t 3) 0, none, 0, 0⟩, ⟨(some 11), .load false 1 (.t 10) false, none, 0, 0⟩, ⟨(some 12), .bin .eql .no (.t 11) (.k (.int .i64
  3)), none, 0, 0⟩] false) (.cond (.t 12) (.seq (.region [⟨(some 13), .mv (.t 0), none, 0, 0⟩, ⟨(some 14), .nilchk (.t 13), none, 0, 0⟩, ⟨(some 15), .faddr (.t
  14) 1, none, 0, 0⟩, ⟨(some 16), .load false 1 (.t 15) false, none, 0, 0⟩, ⟨(some 17), .bin .add .no (.t 16) (.k (.int .i64 1)), none, 0, 0⟩, ⟨(some 18),
  .nilchk (.t 13), none, 0, 0⟩, ⟨(some 19), .faddr (.t 18) 1, none, 0, 0⟩, ⟨none, .store 1 (.t 19) (.t 17), none, 0, 0⟩] false) (.seq (.region [⟨(some 20),
  .faddr (.t 3) 1, none, 0, 1⟩, ⟨(some 21), .load false 1 (.t 20) false, none, 0, 1⟩, ⟨(some 22), .mv (.t 0), none, 0, 0⟩, ⟨(some 23), .call (.k (.fn (.func
  115) [] [])) [(.t 22)] [], none, 1, 0⟩, ⟨(some 24), .build [.int .i64 0, .str [], .int .i64 0, .sl 4 [] .exact] [(0, 1, (.k (.int .i64 2))), (1, 1, (.t 21)),
  (3, 1, (.t 23))], none, 1, 1⟩, ⟨none, .store 4 (.t 2) (.t 24), none, 1, 0⟩] true) (.ret))) (.skip)))) (.seq (.region [⟨(some 25), .mv (.t 0), none, 0, 0⟩,
  ⟨(some 26), .call (.k (.fn (.func 116) [] [])) [(.t 25)] [], none, 0, 0⟩, ⟨none, .store 4 (.t 2) (.t 26), none, 0, 0⟩] false) (.ret)))), [.cell 2 true 4], [],
   [], []⟩
theorem c57 : cFunc Go.Proofs.Try.prog h57 Go.Proofs.Try.f57 = some F57 := by kernel_rfl
def h116 : Hints := ⟨[2, 3, 4], [], [], [], [], [], []⟩
def F116 : SF := ⟨61, .seq (.region [⟨(some 2), .allocL [.int .i64 0, .str [], .int .i64 0, .sl 4 [] .exact], none, 0, 0⟩] false) (.seq (.region [⟨(some 5),
  .mv (.t 0), none, 0, 0⟩, ⟨(some 6), .call (.k (.fn (.func 74) [] [])) [(.t 5)] [], none, 0, 0⟩, ⟨(some 3), .allocL [.int .i64 0, .str [], .int .i64 0, .int
  .i64 0, .int .i64 0], none, 0, 0⟩, ⟨none, .store 5 (.t 3) (.t 6), none, 0, 0⟩] false) (.seq (.seq (.region [⟨(some 7), .faddr (.t 3) 0, none, 0, 0⟩, ⟨(some
  8), .load false 1 (.t 7) false, none, 0, 0⟩] false) (.block 0 (.seq (.region [⟨(some 10), .bin .eql .no (.t 8) (.k (.int .i64 2)), none, 0, 0⟩, ⟨(some 9),
  .mv (.t 10), none, 0, 0⟩] false) (.cond (.t 9) (.seq (.region [⟨(some 11), .mv (.t 0), none, 0, 0⟩, ⟨(some 12), .nilchk (.t 11), none, 0, 0⟩, ⟨(some 13),
  .faddr (.t 12) 1, none, 0, 0⟩, ⟨(some 14), .load false 1 (.t 13) false, none, 0, 0⟩, ⟨(some 15), .bin .add .no (.t 14) (.k (.int .i64 1)), none, 0, 0⟩,
  ⟨(some 16), .nilchk (.t 11), none, 0, 0⟩, ⟨(some 17), .faddr (.t 16) 1, none, 0, 0⟩, ⟨none, .store 1 (.t 17) (.t 15), none, 0, 0⟩] false) (.seq (.region
  [⟨(some 18), .faddr (.t 3) 1, none, 0, 0⟩, ⟨(some 19), .load false 1 (.t 18) false, none, 0, 0⟩, ⟨(some 20), .build [.int .i64 0, .str [], .int .i64 0, .sl 4
  [] .exact] [(0, 1, (.k (.int .i64 1))), (1, 1, (.t 19))], none, 0, 0⟩, ⟨none, .store 4 (.t 2) (.t 20), none, 0, 0⟩] false) (.ret))) (.seq (.region [⟨(some
  22), .bin .eql .no (.t 8) (.k (.int .i64 3)), none, 0, 0⟩, ⟨(some 21), .mv (.t 22), none, 0, 0⟩] false) (.cond (.t 21) (.seq (.region [⟨(some 23), .mv (.t 0),
   none, 0, 0⟩, ⟨(some 24), .nilchk (.t 23), none, 0, 0⟩, ⟨(some 25), .faddr (.t 24) 1, none, 0, 0⟩, ⟨(some 26), .load false 1 (.t 25) false, none, 0, 0⟩,
  ⟨(some 27), .bin .add .no (.t 26) (.k (.int .i64 1)), none, 0, 0⟩, ⟨(some 28), .nilchk (.t 23), none, 0, 0⟩, ⟨(some 29), .faddr (.t 28) 1, none, 0, 0⟩, ⟨none,
   .store 1 (.t 29) (.t 27), none, 0, 0⟩] false) (.seq (.region [⟨(some 30), .faddr (.t 3) 1, none, 0, 0⟩, ⟨(some 31), .load false 1 (.t 30) false, none, 0, 0⟩,
   ⟨(some 32), .build [.int .i64 0, .str [], .int .i64 0, .sl 4 [] .exact] [(0, 1, (.k (.int .i64 2))), (1, 1, (.t 31))], none, 0, 0⟩, ⟨none, .store 4 (.t 2)
  (.t 32), none, 0, 0⟩] false) (.ret))) (.skip))))))) (.seq (.seq (.region [⟨(some 33), .mv (.t 0), none, 0, 0⟩, ⟨(some 34), .nilchk (.t 33), none, 0, 0⟩,
  ⟨(some 35), .faddr (.t 34) 2, none, 0, 0⟩, ⟨(some 36), .load false 1 (.t 35) false, none, 0, 0⟩, ⟨(some 37), .bin .eql .no (.t 36) (.k (.int .i64 40)), none,
  0, 0⟩] false) (.cond (.t 37) (.region [⟨(some 38), .mv (.t 0), none, 0, 0⟩, ⟨(some 39), .call (.k (.fn (.func 137) [] [])) [(.t 38)] [], none, 0, 0⟩] false)
  (.skip))) (.seq (.region [⟨(some 40), .mv (.t 0), none, 0, 0⟩, ⟨(some 41), .call (.k (.fn (.func 75) [] [])) [(.t 40), (.k (.int .i64 6)), (.k (.str [40]))]
  [], none, 0, 0⟩] false) (.seq (.region [⟨(some 42), .mv (.t 0), none, 0, 0⟩, ⟨(some 43), .nilchk (.t 42), none, 0, 0⟩, ⟨(some 44), .faddr (.t 43) 2, none, 0,
  0⟩, ⟨(some 45), .load false 1 (.t 44) false, none, 0, 0⟩, ⟨(some 46), .bin .add .no (.t 45) (.k (.int .i64 1)), none, 0, 0⟩, ⟨(some 47), .nilchk (.t 42),
  none, 0, 0⟩, ⟨(some 48), .faddr (.t 47) 2, none, 0, 0⟩, ⟨none, .store 1 (.t 48) (.t 46), none, 0, 0⟩] false) (.seq (.region [⟨(some 49), .mv (.t 0), none, 0,
  0⟩, ⟨(some 50), .call (.k (.fn (.func 57) [] [])) [(.t 49)] [], none, 0, 0⟩, ⟨(some 4), .allocL [.int .i64 0, .str [], .int .i64 0, .sl 4 [] .exact], none, 0,
   0⟩, ⟨none, .store 4 (.t 4) (.t 50), none, 0, 0⟩] false) (.seq (.region [⟨(some 51), .mv (.t 0), none, 0, 0⟩, ⟨(some 52), .nilchk (.t 51), none, 0, 0⟩,
  ⟨(some 53), .faddr (.t 52) 2, none, 0, 0⟩, ⟨(some 54), .load false 1 (.t 53) false, none, 0, 0⟩, ⟨(some 55), .bin .sub .no (.t 54) (.k (.int .i64 1)), none,
  0, 0⟩, ⟨(some 56), .nilchk (.t 51), none, 0, 0⟩, ⟨(some 57), .faddr (.t 56) 2, none, 0, 0⟩, ⟨none, .store 1 (.t 57) (.t 55), none, 0, 0⟩] false) (.seq
  (.region [⟨(some 58), .mv (.t 0), none, 0, 0⟩, ⟨(some 59), .call (.k (.fn (.func 75) [] [])) [(.t 58), (.k (.int .i64 6)), (.k (.str [41]))] [], none, 0, 0⟩]
  false) (.seq (.region [⟨(some 60), .load true 4 (.t 4) false, none, 0, 0⟩, ⟨none, .store 4 (.t 2) (.t 60), none, 0, 0⟩] false) (.ret)))))))))), [.cell 2 true
  4], [], [], []⟩
theorem c116 : cFunc Go.Proofs.Try.prog h116 Go.Proofs.Try.f116 = some F116 := by kernel_rfl
def h173 : Hints := ⟨[3], [], [], [], [], [], []⟩
def F173 : SF := ⟨22, .seq (.region [⟨(some 2), .mv (.k (.bool false)), none, 0, 0⟩] false) (.seq (.region [⟨(some 4), .mv (.t 0), none, 0, 0⟩, ⟨(some 5),
  .call (.k (.fn (.func 74) [] [])) [(.t 4)] [], none, 0, 0⟩, ⟨(some 3), .allocL [.int .i64 0, .str [], .int .i64 0, .int .i64 0, .int .i64 0], none, 0, 0⟩,
  ⟨none, .store 5 (.t 3) (.t 5), none, 0, 0⟩] false) (.seq (.region [⟨(some 6), .mv (.t 0), none, 0, 0⟩, ⟨(some 7), .call (.k (.fn (.func 58) [] [])) [(.t 6)]
  [], none, 0, 0⟩, ⟨(some 8), .mv (.t 7), none, 0, 0⟩, ⟨(some 9), .faddr (.t 3) 0, (some (8, true)), 0, 0⟩, ⟨(some 10), .load false 1 (.t 9) false, (some (8,
  true)), 0, 0⟩, ⟨(some 11), .bin .eql .no (.t 10) (.k (.int .i64 2)), (some (8, true)), 0, 0⟩, ⟨(some 12), .mv (.t 11), (some (8, true)), 0, 0⟩, ⟨(some 13),
  .faddr (.t 3) 0, (some (12, false)), 0, 0⟩, ⟨(some 14), .load false 1 (.t 13) false, (some (12, false)), 0, 0⟩, ⟨(some 15), .bin .eql .no (.t 14) (.k (.int
  .i64 3)), (some (12, false)), 0, 0⟩, ⟨(some 16), .pick (.t 12) (.k (.bool true)) (.t 15), (some (8, true)), 0, 0⟩, ⟨(some 17), .mv (.t 16), (some (8, true)),
  0, 0⟩, ⟨(some 18), .mv (.t 0), (some (17, false)), 0, 0⟩, ⟨(some 19), .call (.k (.fn (.func 76) [] [])) [(.t 18), (.k (.int .i64 6)), (.k (.str [40]))] [],
  (some (17, false)), 0, 0⟩, ⟨(some 20), .pick (.t 17) (.k (.bool true)) (.t 19), (some (8, true)), 0, 0⟩, ⟨(some 21), .pick (.t 8) (.t 20) (.k (.bool false)),
  none, 0, 0⟩, ⟨(some 2), .mv (.t 21), none, 0, 0⟩] false) (.ret))), [.tmp 2], [], [], []⟩
theorem c173 : cFunc Go.Proofs.Try.prog h173 Go.Proofs.Try.f173 = some F173 := by kernel_rfl
def h115 : Hints := ⟨[], [], [0, 3], [], [], [], []⟩
def B115_0b : SC := .seq (.seq (.region [⟨(some 4), .mv (.t 0), none, 0, 0⟩, ⟨(some 5), .call (.k (.fn (.func 173) [] [])) [(.t 4)] [], none, 0, 0⟩] false)
  (.cond (.t 5) (.skip) (.exit 0))) (.block 1 (.region [⟨(some 6), .mv (.t 3), none, 0, 0⟩, ⟨(some 7), .mv (.t 0), none, 0, 0⟩, ⟨(some 8), .call (.k (.fn
  (.func 116) [] [])) [(.t 7)] [], none, 0, 0⟩, ⟨(some 9), .bslice 4 [.int .i64 0, .str [], .int .i64 0, .sl 4 [] .exact] 1 [(0, (.t 8))], none, 0, 0⟩, ⟨(some
  10), .append 4 (.t 6) (.t 9), none, 0, 0⟩, ⟨(some 3), .mv (.t 10), none, 0, 0⟩] false))
def B115_0 : SC := B115_0b
theorem rB115_0 {Pr : Prims} {Pg : FuncId → Option SF} {keep : List Nat} {s : St} : runL Pr Pg keep B115_0 s = runL Pr Pg keep B115_0b s := rfl
def F115 : SF := ⟨12, .seq (.region [⟨(some 2), .mv (.k (.sl 4 [] .exact)), none, 0, 0⟩] false) (.seq (.region [⟨(some 3), .mv (.k (.sl 4 [] .exact)), none, 0,
  0⟩] false) (.seq (.block 0 (.loop B115_0)) (.seq (.region [⟨(some 11), .mv (.t 3), none, 0, 0⟩, ⟨(some 2), .mv (.t 11), none, 0, 0⟩] false) (.ret)))), [.tmp
  2], [0, 3], [], []⟩
theorem c115 : cFunc Go.Proofs.Try.prog h115 Go.Proofs.Try.f115 = some F115 := by kernel_rfl
def h139 : Hints := ⟨[2, 3], [], [], [], [], [], []⟩
def F139 : SF := ⟨13, .seq (.region [⟨(some 2), .allocL [.str [], .sl 4 [] .exact, .int .i64 0, .int .i64 0], none, 0, 0⟩] false) (.seq (.region [⟨(some 4),
  .mv (.t 0), none, 0, 0⟩, ⟨(some 5), .call (.k (.fn (.func 74) [] [])) [(.t 4)] [], none, 0, 0⟩, ⟨(some 6), .field (.t 5) 3 2 true, none, 0, 0⟩, ⟨(some 3),
  .allocL [.int .i64 0, .int .i64 0], none, 0, 0⟩, ⟨none, .store 2 (.t 3) (.t 6), none, 0, 0⟩] false) (.seq (.region [⟨(some 7), .mv (.t 0), none, 0, 0⟩,
  ⟨(some 8), .call (.k (.fn (.func 138) [] [])) [(.t 7), (.k (.int .i64 3))] [], none, 0, 0⟩, ⟨(some 9), .mv (.t 0), none, 0, 1⟩, ⟨(some 10), .call (.k (.fn
  (.func 115) [] [])) [(.t 9)] [], none, 0, 0⟩, ⟨(some 11), .load true 2 (.t 3) false, none, 0, 2⟩, ⟨(some 12), .build [.str [], .sl 4 [] .exact, .int .i64 0,
  .int .i64 0] [(0, 1, (.t 8)), (1, 1, (.t 10)), (2, 2, (.t 11))], none, 2, 2⟩, ⟨none, .store 4 (.t 2) (.t 12), none, 1, 0⟩] true) (.ret))), [.cell 2 true 4],
  [], [], []⟩
theorem c139 : cFunc Go.Proofs.Try.prog h139 Go.Proofs.Try.f139 = some F139 := by kernel_rfl
def h77 : Hints := ⟨[2, 3], [], [0, 2, 3, 4], [], [], [], []⟩
def B77_0b : SC := .seq (.seq (.region [⟨(some 14), .mv (.t 0), none, 0, 0⟩, ⟨(some 15), .call (.k (.fn (.func 58) [] [])) [(.t 14)] [], none, 0, 0⟩, ⟨(some
  16), .mv (.t 15), none, 0, 0⟩, ⟨(some 17), .mv (.t 0), (some (16, true)), 0, 0⟩, ⟨(some 18), .call (.k (.fn (.func 74) [] [])) [(.t 17)] [], (some (16,
  true)), 0, 0⟩, ⟨(some 19), .field (.t 18) 0 1 false, (some (16, true)), 0, 0⟩, ⟨(some 20), .bin .eql .no (.t 19) (.k (.int .i64 2)), (some (16, true)), 0, 0⟩,
   ⟨(some 21), .pick (.t 16) (.t 20) (.k (.bool false)), none, 0, 0⟩] false) (.cond (.t 21) (.skip) (.exit 0))) (.block 1 (.region [⟨(some 22), .faddr (.t 3) 1,
   none, 0, 1⟩, ⟨(some 23), .load false 1 (.t 22) false, none, 0, 1⟩, ⟨(some 24), .mv (.t 0), none, 0, 0⟩, ⟨(some 25), .call (.k (.fn (.func 138) [] [])) [(.t
  24), (.k (.int .i64 2))] [], none, 1, 0⟩, ⟨(some 26), .bslice 1 [.str []] 1 [(0, (.t 25))], none, 1, 1⟩, ⟨(some 27), .append 1 (.t 23) (.t 26), none, 1, 0⟩,
  ⟨(some 28), .faddr (.t 3) 1, none, 2, 2⟩, ⟨none, .store 1 (.t 28) (.t 27), none, 1, 0⟩] true))
def B77_0 : SC := B77_0b
theorem rB77_0 {Pr : Prims} {Pg : FuncId → Option SF} {keep : List Nat} {s : St} : runL Pr Pg keep B77_0 s = runL Pr Pg keep B77_0b s := rfl
def B77_1b : SC := .seq (.seq (.region [⟨(some 37), .mv (.t 0), none, 0, 0⟩, ⟨(some 38), .call (.k (.fn (.func 76) [] [])) [(.t 37), (.k (.int .i64 6)), (.k
  (.str [124]))] [], none, 0, 0⟩] false) (.cond (.t 38) (.skip) (.exit 2))) (.block 3 (.seq (.region [⟨(some 39), .mv (.t 0), none, 0, 0⟩, ⟨(some 40), .nilchk
  (.t 39), none, 0, 0⟩, ⟨(some 41), .faddr (.t 40) 1, none, 0, 0⟩, ⟨(some 42), .load false 1 (.t 41) false, none, 0, 0⟩, ⟨(some 43), .bin .add .no (.t 42) (.k
  (.int .i64 1)), none, 0, 0⟩, ⟨(some 44), .nilchk (.t 39), none, 0, 0⟩, ⟨(some 45), .faddr (.t 44) 1, none, 0, 0⟩, ⟨none, .store 1 (.t 45) (.t 43), none, 0,
  0⟩] false) (.region [⟨(some 46), .faddr (.t 3) 2, none, 0, 1⟩, ⟨(some 47), .load false 1 (.t 46) false, none, 0, 1⟩, ⟨(some 48), .mv (.t 4), none, 0, 0⟩,
  ⟨(some 49), .call (.t 48) [] [], none, 1, 0⟩, ⟨(some 50), .bslice 4 [.str [], .sl 4 [] .exact, .int .i64 0, .int .i64 0] 1 [(0, (.t 49))], none, 1, 1⟩,
  ⟨(some 51), .append 4 (.t 47) (.t 50), none, 1, 0⟩, ⟨(some 52), .faddr (.t 3) 2, none, 2, 2⟩, ⟨none, .store 1 (.t 52) (.t 51), none, 1, 0⟩] true)))
def B77_1 : SC := B77_1b
theorem rB77_1 {Pr : Prims} {Pg : FuncId → Option SF} {keep : List Nat} {s : St} : runL Pr Pg keep B77_1 s = runL Pr Pg keep B77_1b s := rfl
def F77 : SF := ⟨54, .seq (.region [⟨(some 2), .allocL [.str [], .sl 1 [] .exact, .sl 4 [] .exact, .int .i64 0, .int .i64 0], none, 0, 0⟩] false) (.seq
  (.region [⟨(some 5), .mv (.t 0), none, 0, 0⟩, ⟨(some 6), .call (.k (.fn (.func 74) [] [])) [(.t 5)] [], none, 0, 0⟩, ⟨(some 7), .field (.t 6) 3 2 true, none,
  0, 0⟩, ⟨(some 8), .build [.str [], .sl 1 [] .exact, .sl 4 [] .exact, .int .i64 0, .int .i64 0] [(3, 2, (.t 7))], none, 0, 0⟩, ⟨(some 3), .allocL [.str [],
  .sl 1 [] .exact, .sl 4 [] .exact, .int .i64 0, .int .i64 0], none, 0, 0⟩, ⟨none, .store 5 (.t 3) (.t 8), none, 0, 0⟩] false) (.seq (.region [⟨(some 9), .mv
  (.t 0), none, 0, 0⟩, ⟨(some 10), .call (.k (.fn (.func 75) [] [])) [(.t 9), (.k (.int .i64 5)), (.k (.str [100, 97, 116, 97]))] [], none, 0, 0⟩] false) (.seq
  (.region [⟨(some 11), .mv (.t 0), none, 0, 0⟩, ⟨(some 12), .call (.k (.fn (.func 138) [] [])) [(.t 11), (.k (.int .i64 3))] [], none, 0, 0⟩, ⟨(some 13),
  .faddr (.t 3) 0, none, 0, 0⟩, ⟨none, .store 1 (.t 13) (.t 12), none, 0, 0⟩] false) (.seq (.block 0 (.loop B77_0)) (.seq (.region [⟨(some 29), .mv (.t 0),
  none, 0, 0⟩, ⟨(some 30), .call (.k (.fn (.func 75) [] [])) [(.t 29), (.k (.int .i64 6)), (.k (.str [61]))] [], none, 0, 0⟩] false) (.seq (.region [⟨(some 31),
   .mv (.t 0), none, 0, 0⟩, ⟨(some 32), .mkfn (.func 139) [(.t 31)] [], none, 0, 0⟩, ⟨(some 4), .mv (.t 32), none, 0, 0⟩] false) (.seq (.region [⟨(some 33),
  .mv (.t 4), none, 0, 0⟩, ⟨(some 34), .call (.t 33) [] [], none, 0, 0⟩, ⟨(some 35), .bslice 4 [.str [], .sl 4 [] .exact, .int .i64 0, .int .i64 0] 1 [(0, (.t
  34))], none, 0, 0⟩, ⟨(some 36), .faddr (.t 3) 2, none, 0, 0⟩, ⟨none, .store 1 (.t 36) (.t 35), none, 0, 0⟩] false) (.seq (.block 2 (.loop B77_1)) (.seq
  (.region [⟨(some 53), .load true 5 (.t 3) false, none, 0, 0⟩, ⟨none, .store 5 (.t 2) (.t 53), none, 0, 0⟩] false) (.ret)))))))))), [.cell 2 true 5], [0, 2, 3,
   4], [], []⟩
theorem c77 : cFunc Go.Proofs.Try.prog h77 Go.Proofs.Try.f77 = some F77 := by kernel_rfl
def h162 : Hints := ⟨[4], [], [], [], [], [], []⟩
def F162 : SF := ⟨16, .seq (.region [⟨(some 6), .recover, none, 0, 0⟩] false) (.block 0 (.seq (.region [⟨(some 8), .bin .eql .iface (.t 6) (.k .nili), none, 0,
  0⟩] false) (.cond (.t 8) (.region [⟨(some 3), .mv (.t 6), none, 0, 0⟩] false) (.seq (.region [⟨(some 9), .tassert (.t 6) 228 (.agg [.int .i64 0, .int .i64
  0]), none, 0, 0⟩, ⟨(some 10), .extract (.t 9) 1, none, 0, 0⟩, ⟨(some 11), .extract (.t 9) 0, none, 0, 0⟩] false) (.cond (.t 10) (.seq (.region [⟨(some 4),
  .allocL [.int .i64 0, .int .i64 0], none, 0, 0⟩, ⟨none, .store 2 (.t 4) (.t 11), none, 0, 0⟩] false) (.region [⟨(some 12), .build [.int .i64 0, .str [], .int
  .i64 0, .sl 6 [] .exact, .int .i64 0, .int .i64 0] [], none, 0, 0⟩, ⟨(some 13), .faddr (.t 4) 0, none, 0, 2⟩, ⟨(some 14), .load true 2 (.t 13) false, none, 0,
   2⟩, ⟨(some 15), .build [.int .i64 0, .int .i64 0, .int .i64 0] [(0, 1, (.k (.int .i64 1))), (1, 2, (.t 14))], none, 0, 2⟩, ⟨none, .store 6 (.t 0) (.t 12),
  none, 1, 0⟩, ⟨none, .store 1 (.t 1) (.k (.int .i64 0)), none, 1, 0⟩, ⟨none, .store 3 (.t 2) (.t 15), none, 1, 0⟩] true)) (.seq (.region [⟨(some 5), .mv (.t
  6), none, 0, 0⟩] false) (.region [⟨(some 7), .mv (.t 5), none, 0, 0⟩, ⟨none, .panic (.t 7), none, 0, 0⟩] false))))))), [], [], [], []⟩
theorem c162 : cFunc Go.Proofs.Try.prog h162 Go.Proofs.Try.f162 = some F162 := by kernel_rfl
def h106 : Hints := ⟨[], [], [], [], [], [], []⟩
def F106 : SF := ⟨25, .seq (.region [⟨(some 6), .allocH [.int .i64 0, .str [], .int .i64 0, .sl 6 [] .exact, .int .i64 0, .int .i64 0], none, 0, 0⟩, ⟨(some 7),
  .allocH [.int .i64 0], none, 0, 0⟩, ⟨(some 8), .allocH [.int .i64 0, .int .i64 0, .int .i64 0], none, 0, 0⟩] false) (.seq (.region [⟨(some 10), .mv (.t 0),
  none, 0, 0⟩, ⟨(some 11), .mv (.t 1), none, 0, 0⟩, ⟨(some 12), .mnmx true [(.t 11), (.k (.int .i64 0))], none, 0, 0⟩, ⟨(some 13), .build [.sl 5 [] .exact,
  .int .i64 0, .int .i64 0] [(0, 1, (.t 10)), (1, 1, (.t 12))], none, 0, 0⟩, ⟨(some 14), .boxH 3 (.t 13), none, 0, 0⟩, ⟨(some 9), .mv (.t 14), none, 0, 0⟩]
  false) (.seq (.region [⟨(some 15), .mkfn (.func 162) [] [(.t 6), (.t 7), (.t 8)], none, 0, 0⟩, ⟨none, .dfr (.t 15) [], none, 0, 0⟩] false) (.seq (.region
  [⟨(some 16), .mv (.t 2), none, 0, 0⟩, ⟨(some 17), .mv (.t 9), none, 0, 0⟩, ⟨(some 18), .call (.t 16) [(.t 17)] [], none, 0, 0⟩, ⟨none, .store 6 (.t 6) (.t
  18), none, 0, 0⟩] false) (.seq (.region [⟨(some 19), .load true 6 (.t 6) false, none, 0, 0⟩, ⟨(some 20), .mv (.t 9), none, 0, 1⟩, ⟨(some 21), .nilchk (.t 20),
   none, 0, 1⟩, ⟨(some 22), .faddr (.t 21) 1, none, 0, 1⟩, ⟨(some 23), .load false 1 (.t 22) false, none, 0, 1⟩, ⟨(some 24), .build [.int .i64 0, .int .i64 0,
  .int .i64 0] [], none, 0, 2⟩, ⟨none, .store 6 (.t 6) (.t 19), none, 1, 0⟩, ⟨none, .store 1 (.t 7) (.t 23), none, 1, 0⟩, ⟨none, .store 3 (.t 8) (.t 24), none,
  1, 0⟩] true) (.ret))))), [.cell 6 true 6, .cell 7 false 1, .cell 8 true 3], [], [], []⟩
theorem c106 : cFunc Go.Proofs.Try.prog h106 Go.Proofs.Try.f106 = some F106 := by kernel_rfl
def h163 : Hints := ⟨[2, 3], [], [], [], [], [], []⟩
def F163 : SF := ⟨44, .seq (.region [⟨(some 2), .allocL [.int .i64 0, .str [], .int .i64 0, .int .i64 0, .int .i64 0], none, 0, 0⟩] false) (.seq (.seq (.region
  [⟨(some 5), .mv (.t 0), none, 0, 0⟩, ⟨(some 6), .nilchk (.t 5), none, 0, 0⟩, ⟨(some 7), .faddr (.t 6) 1, none, 0, 0⟩, ⟨(some 8), .load false 1 (.t 7) false,
  none, 0, 0⟩, ⟨(some 9), .mv (.t 0), none, 0, 0⟩, ⟨(some 10), .nilchk (.t 9), none, 0, 0⟩, ⟨(some 11), .faddr (.t 10) 0, none, 0, 0⟩, ⟨(some 12), .load false
  1 (.t 11) false, none, 0, 0⟩, ⟨(some 13), .len false (.t 12), none, 0, 0⟩, ⟨(some 14), .bin .lss .no (.t 8) (.t 13), none, 0, 0⟩] true) (.cond (.t 14) (.seq
  (.region [⟨(some 15), .mv (.t 0), none, 0, 0⟩, ⟨(some 16), .nilchk (.t 15), none, 0, 0⟩, ⟨(some 17), .faddr (.t 16) 0, none, 0, 0⟩, ⟨(some 18), .load false 1
  (.t 17) false, none, 0, 0⟩, ⟨(some 19), .mv (.t 0), none, 0, 0⟩, ⟨(some 20), .nilchk (.t 19), none, 0, 0⟩, ⟨(some 21), .faddr (.t 20) 1, none, 0, 0⟩, ⟨(some
  22), .load false 1 (.t 21) false, none, 0, 0⟩, ⟨(some 23), .iaddr 5 (.t 18) (.t 22), none, 0, 0⟩, ⟨(some 24), .load true 5 (.t 23) false, none, 0, 0⟩, ⟨none,
  .store 5 (.t 2) (.t 24), none, 1, 0⟩] true) (.ret)) (.skip))) (.seq (.region [⟨(some 25), .build [.int .i64 0, .str [], .int .i64 0, .int .i64 0, .int .i64
  0] [(0, 1, (.k (.int .i64 (-1))))], none, 0, 0⟩, ⟨(some 3), .allocL [.int .i64 0, .str [], .int .i64 0, .int .i64 0, .int .i64 0], none, 0, 0⟩, ⟨none, .store
  5 (.t 3) (.t 25), none, 0, 0⟩] false) (.seq (.seq (.region [⟨(some 26), .mv (.t 0), none, 0, 0⟩, ⟨(some 27), .nilchk (.t 26), none, 0, 0⟩, ⟨(some 28), .faddr
  (.t 27) 0, none, 0, 0⟩, ⟨(some 29), .load false 1 (.t 28) false, none, 0, 0⟩, ⟨(some 30), .len false (.t 29), none, 0, 0⟩, ⟨(some 4), .mv (.t 30), none, 0,
  0⟩] false) (.seq (.region [⟨(some 31), .mv (.t 4), none, 0, 0⟩, ⟨(some 32), .bin .gtr .no (.t 31) (.k (.int .i64 0)), none, 0, 0⟩] false) (.cond (.t 32)
  (.region [⟨(some 33), .mv (.t 0), none, 0, 0⟩, ⟨(some 34), .nilchk (.t 33), none, 0, 0⟩, ⟨(some 35), .faddr (.t 34) 0, none, 0, 0⟩, ⟨(some 36), .load false 1
  (.t 35) false, none, 0, 0⟩, ⟨(some 37), .mv (.t 4), none, 0, 0⟩, ⟨(some 38), .bin .sub .no (.t 37) (.k (.int .i64 1)), none, 0, 0⟩, ⟨(some 39), .iaddr 5 (.t
  36) (.t 38), none, 0, 0⟩, ⟨(some 40), .faddr (.t 39) 3, none, 0, 0⟩, ⟨(some 41), .load true 2 (.t 40) false, none, 0, 0⟩, ⟨(some 42), .faddr (.t 3) 3, none,
  0, 0⟩, ⟨none, .store 2 (.t 42) (.t 41), none, 0, 0⟩] false) (.skip)))) (.seq (.region [⟨(some 43), .load true 5 (.t 3) false, none, 0, 0⟩, ⟨none, .store 5
  (.t 2) (.t 43), none, 0, 0⟩] false) (.ret))))), [.cell 2 true 5], [], [], []⟩
theorem c163 : cFunc Go.Proofs.Try.prog h163 Go.Proofs.Try.f163 = some F163 := by kernel_rfl
def h164 : Hints := ⟨[7], [], [], [], [], [], []⟩
def F164 : SF := ⟨20, .seq (.region [⟨(some 6), .mv (.k (.bool false)), none, 0, 0⟩] false) (.seq (.region [⟨(some 8), .mv (.t 0), none, 0, 0⟩, ⟨(some 9),
  .call (.k (.fn (.func 163) [] [])) [(.t 8)] [], none, 0, 0⟩, ⟨(some 7), .allocL [.int .i64 0, .str [], .int .i64 0, .int .i64 0, .int .i64 0], none, 0, 0⟩,
  ⟨none, .store 5 (.t 7) (.t 9), none, 0, 0⟩] false) (.seq (.region [⟨(some 10), .faddr (.t 7) 0, none, 0, 0⟩, ⟨(some 11), .load false 1 (.t 10) false, none, 0,
   0⟩, ⟨(some 12), .mv (.t 1), none, 0, 0⟩, ⟨(some 13), .bin .eql .no (.t 11) (.t 12), none, 0, 0⟩, ⟨(some 14), .mv (.t 13), none, 0, 0⟩, ⟨(some 15), .faddr
  (.t 7) 1, (some (14, true)), 0, 0⟩, ⟨(some 16), .load false 1 (.t 15) false, (some (14, true)), 0, 0⟩, ⟨(some 17), .mv (.t 2), (some (14, true)), 0, 0⟩,
  ⟨(some 18), .bin .eql .no (.t 16) (.t 17), (some (14, true)), 0, 0⟩, ⟨(some 19), .pick (.t 14) (.t 18) (.k (.bool false)), none, 0, 0⟩, ⟨(some 6), .mv (.t
  19), none, 0, 0⟩] false) (.ret))), [.tmp 6], [], [], []⟩
theorem c164 : cFunc Go.Proofs.Try.prog h164 Go.Proofs.Try.f164 = some F164 := by kernel_rfl
def h210 : Hints := ⟨[], [], [], [], [], [], []⟩
def F210 : SF := ⟨7, .region [⟨(some 2), .mv (.t 0), none, 0, 0⟩, ⟨(some 3), .call (.k (.fn (.func 163) [] [])) [(.t 2)] [], none, 0, 0⟩, ⟨(some 4), .field (.t
  3) 3 2 true, none, 0, 0⟩, ⟨(some 5), .build [.int .i64 0, .int .i64 0] [(0, 2, (.t 4))], none, 0, 0⟩, ⟨(some 6), .mkif 228 (.t 5), none, 0, 0⟩, ⟨none, .panic
  (.t 6), none, 0, 0⟩] false, [], [], [], []⟩
theorem c210 : cFunc Go.Proofs.Try.prog h210 Go.Proofs.Try.f210 = some F210 := by kernel_rfl
def h165 : Hints := ⟨[], [], [], [], [], [], []⟩
def F165 : SF := ⟨23, .seq (.seq (.region [⟨(some 2), .mv (.t 0), none, 0, 0⟩, ⟨(some 3), .nilchk (.t 2), none, 0, 0⟩, ⟨(some 4), .faddr (.t 3) 2, none, 0, 0⟩,
  ⟨(some 5), .load false 1 (.t 4) false, none, 0, 0⟩, ⟨(some 6), .bin .eql .no (.t 5) (.k (.int .i64 40)), none, 0, 0⟩] false) (.cond (.t 6) (.region [⟨(some
  7), .mv (.t 0), none, 0, 0⟩, ⟨(some 8), .call (.k (.fn (.func 210) [] [])) [(.t 7)] [], none, 0, 0⟩] false) (.skip))) (.seq (.region [⟨(some 9), .mv (.t 0),
  none, 0, 0⟩, ⟨(some 10), .nilchk (.t 9), none, 0, 0⟩, ⟨(some 11), .faddr (.t 10) 2, none, 0, 0⟩, ⟨(some 12), .load false 1 (.t 11) false, none, 0, 0⟩, ⟨(some
  13), .bin .add .no (.t 12) (.k (.int .i64 1)), none, 0, 0⟩, ⟨(some 14), .nilchk (.t 9), none, 0, 0⟩, ⟨(some 15), .faddr (.t 14) 2, none, 0, 0⟩, ⟨none, .store
  1 (.t 15) (.t 13), none, 0, 0⟩] false) (.region [⟨(some 16), .mv (.t 0), none, 0, 0⟩, ⟨(some 17), .nilchk (.t 16), none, 0, 0⟩, ⟨(some 18), .faddr (.t 17) 1,
  none, 0, 0⟩, ⟨(some 19), .load false 1 (.t 18) false, none, 0, 0⟩, ⟨(some 20), .bin .add .no (.t 19) (.k (.int .i64 1)), none, 0, 0⟩, ⟨(some 21), .nilchk (.t
  16), none, 0, 0⟩, ⟨(some 22), .faddr (.t 21) 1, none, 0, 0⟩, ⟨none, .store 1 (.t 22) (.t 20), none, 0, 0⟩] false)), [], [], [], []⟩
theorem c165 : cFunc Go.Proofs.Try.prog h165 Go.Proofs.Try.f165 = some F165 := by kernel_rfl
def h166 : Hints := ⟨[], [], [], [], [], [], []⟩
def F166 : SF := ⟨9, .region [⟨(some 2), .mv (.t 0), none, 0, 0⟩, ⟨(some 3), .nilchk (.t 2), none, 0, 0⟩, ⟨(some 4), .faddr (.t 3) 2, none, 0, 0⟩, ⟨(some 5),
  .load false 1 (.t 4) false, none, 0, 0⟩, ⟨(some 6), .bin .sub .no (.t 5) (.k (.int .i64 1)), none, 0, 0⟩, ⟨(some 7), .nilchk (.t 2), none, 0, 0⟩, ⟨(some 8),
  .faddr (.t 7) 2, none, 0, 0⟩, ⟨none, .store 1 (.t 8) (.t 6), none, 0, 0⟩] false, [], [], [], []⟩
theorem c166 : cFunc Go.Proofs.Try.prog h166 Go.Proofs.Try.f166 = some F166 := by kernel_rfl
def h168 : Hints := ⟨[], [], [], [], [], [], []⟩
def F168 : SF := ⟨20, .seq (.seq (.region [⟨(some 6), .mv (.t 0), none, 0, 0⟩, ⟨(some 7), .mv (.t 1), none, 0, 0⟩, ⟨(some 8), .mv (.t 2), none, 0, 0⟩, ⟨(some
  9), .call (.k (.fn (.func 164) [] [])) [(.t 6), (.t 7), (.t 8)] [], none, 0, 0⟩, ⟨(some 10), .un .not (.t 9), none, 0, 0⟩] false) (.cond (.t 10) (.region
  [⟨(some 11), .mv (.t 0), none, 0, 0⟩, ⟨(some 12), .call (.k (.fn (.func 210) [] [])) [(.t 11)] [], none, 0, 0⟩] false) (.skip))) (.region [⟨(some 13), .mv
  (.t 0), none, 0, 0⟩, ⟨(some 14), .nilchk (.t 13), none, 0, 0⟩, ⟨(some 15), .faddr (.t 14) 1, none, 0, 0⟩, ⟨(some 16), .load false 1 (.t 15) false, none, 0,
  0⟩, ⟨(some 17), .bin .add .no (.t 16) (.k (.int .i64 1)), none, 0, 0⟩, ⟨(some 18), .nilchk (.t 13), none, 0, 0⟩, ⟨(some 19), .faddr (.t 18) 1, none, 0, 0⟩,
  ⟨none, .store 1 (.t 19) (.t 17), none, 0, 0⟩] false), [], [], [], []⟩
theorem c168 : cFunc Go.Proofs.Try.prog h168 Go.Proofs.Try.f168 = some F168 := by kernel_rfl
def h211 : Hints := ⟨[3], [], [], [], [], [], []⟩
def F211 : SF := ⟨20, .seq (.region [⟨(some 2), .mv (.k (.str [])), none, 0, 0⟩] false) (.seq (.region [⟨(some 4), .mv (.t 0), none, 0, 0⟩, ⟨(some 5), .call
  (.k (.fn (.func 163) [] [])) [(.t 4)] [], none, 0, 0⟩, ⟨(some 3), .allocL [.int .i64 0, .str [], .int .i64 0, .int .i64 0, .int .i64 0], none, 0, 0⟩, ⟨none,
  .store 5 (.t 3) (.t 5), none, 0, 0⟩] false) (.seq (.seq (.region [⟨(some 6), .faddr (.t 3) 0, none, 0, 0⟩, ⟨(some 7), .load false 1 (.t 6) false, none, 0, 0⟩,
   ⟨(some 8), .bin .neq .no (.t 7) (.k (.int .i64 2)), none, 0, 0⟩] false) (.cond (.t 8) (.region [⟨(some 9), .mv (.t 0), none, 0, 0⟩, ⟨(some 10), .call (.k
  (.fn (.func 210) [] [])) [(.t 9)] [], none, 0, 0⟩] false) (.skip))) (.seq (.region [⟨(some 11), .mv (.t 0), none, 0, 0⟩, ⟨(some 12), .nilchk (.t 11), none, 0,
   0⟩, ⟨(some 13), .faddr (.t 12) 1, none, 0, 0⟩, ⟨(some 14), .load false 1 (.t 13) false, none, 0, 0⟩, ⟨(some 15), .bin .add .no (.t 14) (.k (.int .i64 1)),
  none, 0, 0⟩, ⟨(some 16), .nilchk (.t 11), none, 0, 0⟩, ⟨(some 17), .faddr (.t 16) 1, none, 0, 0⟩, ⟨none, .store 1 (.t 17) (.t 15), none, 0, 0⟩] false) (.seq
  (.region [⟨(some 18), .faddr (.t 3) 1, none, 0, 0⟩, ⟨(some 19), .load false 1 (.t 18) false, none, 0, 0⟩, ⟨(some 2), .mv (.t 19), none, 0, 0⟩] false)
  (.ret))))), [.tmp 2], [], [], []⟩
theorem c211 : cFunc Go.Proofs.Try.prog h211 Go.Proofs.Try.f211 = some F211 := by kernel_rfl
def h167 : Hints := ⟨[3, 4, 5], [], [], [], [], [], []⟩
def F167 : SF := ⟨36, .seq (.region [⟨(some 3), .boxL 2 (.t 1), none, 0, 0⟩, ⟨(some 4), .allocL [.int .i64 0, .str [], .int .i64 0, .sl 6 [] .exact, .int .i64
  0, .int .i64 0], none, 0, 0⟩] false) (.seq (.region [⟨(some 6), .mv (.t 0), none, 0, 0⟩, ⟨(some 7), .call (.k (.fn (.func 211) [] [])) [(.t 6)] [], none, 0,
  0⟩, ⟨(some 8), .load true 2 (.t 3) false, none, 0, 1⟩, ⟨(some 9), .build [.int .i64 0, .str [], .int .i64 0, .sl 6 [] .exact, .int .i64 0, .int .i64 0] [(0,
  1, (.k (.int .i64 8))), (1, 1, (.t 7)), (4, 2, (.t 8))], none, 1, 1⟩, ⟨(some 5), .allocL [.int .i64 0, .str [], .int .i64 0, .sl 6 [] .exact, .int .i64 0,
  .int .i64 0], none, 0, 1⟩, ⟨none, .store 6 (.t 5) (.t 9), none, 1, 0⟩] true) (.seq (.seq (.region [⟨(some 10), .mv (.t 0), none, 0, 0⟩, ⟨(some 11), .call (.k
  (.fn (.func 164) [] [])) [(.t 10), (.k (.int .i64 5)), (.k (.str [102, 114, 101, 101]))] [], none, 0, 0⟩] false) (.cond (.t 11) (.region [⟨(some 12), .mv (.t
  0), none, 0, 0⟩, ⟨(some 13), .nilchk (.t 12), none, 0, 0⟩, ⟨(some 14), .faddr (.t 13) 1, none, 0, 0⟩, ⟨(some 15), .load false 1 (.t 14) false, none, 0, 0⟩,
  ⟨(some 16), .bin .add .no (.t 15) (.k (.int .i64 1)), none, 0, 0⟩, ⟨(some 17), .nilchk (.t 12), none, 0, 0⟩, ⟨(some 18), .faddr (.t 17) 1, none, 0, 0⟩, ⟨none,
   .store 1 (.t 18) (.t 16), none, 0, 0⟩] false) (.seq (.region [⟨(some 19), .mv (.t 0), none, 0, 0⟩, ⟨(some 20), .call (.k (.fn (.func 168) [] [])) [(.t 19),
  (.k (.int .i64 6)), (.k (.str [61]))] [], none, 0, 0⟩] false) (.region [⟨(some 21), .mv (.t 0), none, 0, 0⟩, ⟨(some 22), .call (.k (.fn (.func 108) [] []))
  [(.t 21)] [], none, 0, 0⟩, ⟨(some 23), .bslice 6 [.int .i64 0, .str [], .int .i64 0, .sl 6 [] .exact, .int .i64 0, .int .i64 0] 1 [(0, (.t 22))], none, 0, 0⟩,
   ⟨(some 24), .faddr (.t 5) 0, none, 0, 0⟩, ⟨none, .store 1 (.t 24) (.k (.int .i64 7)), none, 0, 0⟩, ⟨(some 25), .faddr (.t 5) 3, none, 0, 0⟩, ⟨none, .store 1
  (.t 25) (.t 23), none, 0, 0⟩] false)))) (.seq (.region [⟨(some 26), .mv (.t 0), none, 0, 0⟩, ⟨(some 27), .call (.k (.fn (.func 168) [] [])) [(.t 26), (.k
  (.int .i64 5)), (.k (.str [105, 110]))] [], none, 0, 0⟩] false) (.seq (.region [⟨(some 28), .faddr (.t 5) 3, none, 0, 1⟩, ⟨(some 29), .load false 1 (.t 28)
  false, none, 0, 1⟩, ⟨(some 30), .mv (.t 0), none, 0, 0⟩, ⟨(some 31), .call (.k (.fn (.func 108) [] [])) [(.t 30)] [], none, 1, 0⟩, ⟨(some 32), .bslice 6
  [.int .i64 0, .str [], .int .i64 0, .sl 6 [] .exact, .int .i64 0, .int .i64 0] 1 [(0, (.t 31))], none, 1, 1⟩, ⟨(some 33), .append 6 (.t 29) (.t 32), none, 1,
  0⟩, ⟨(some 34), .faddr (.t 5) 3, none, 2, 2⟩, ⟨none, .store 1 (.t 34) (.t 33), none, 1, 0⟩] true) (.seq (.region [⟨(some 35), .load true 6 (.t 5) false, none,
   0, 0⟩, ⟨none, .store 6 (.t 4) (.t 35), none, 0, 0⟩] false) (.ret)))))), [.cell 4 true 6], [], [], []⟩
theorem c167 : cFunc Go.Proofs.Try.prog h167 Go.Proofs.Try.f167 = some F167 := by kernel_rfl
def h113 : Hints := ⟨[], [], [], [], [], [], []⟩
def F113 : SF := ⟨15, .seq (.region [⟨(some 2), .mv (.k (.int .i64 0)), none, 0, 0⟩, ⟨(some 3), .mv (.k (.bool false)), none, 0, 0⟩] false) (.seq (.seq
  (.region [⟨(some 4), .mv (.t 0), none, 0, 0⟩] false) (.block 0 (.seq (.region [⟨(some 6), .bin .eql .no (.t 4) (.k (.str [63])), none, 0, 0⟩, ⟨(some 5), .mv
  (.t 6), none, 0, 0⟩] false) (.cond (.t 5) (.seq (.region [⟨(some 2), .mv (.k (.int .i64 1)), none, 0, 0⟩, ⟨(some 3), .mv (.k (.bool true)), none, 0, 0⟩]
  false) (.ret)) (.seq (.seq (.region [⟨(some 8), .bin .eql .no (.t 4) (.k (.str [61, 61])), none, 0, 0⟩, ⟨(some 7), .mv (.t 8), none, 0, 0⟩] false) (.cond (.t
  7) (.skip) (.region [⟨(some 9), .bin .eql .no (.t 4) (.k (.str [60])), none, 0, 0⟩, ⟨(some 7), .mv (.t 9), none, 0, 0⟩] false))) (.cond (.t 7) (.seq (.region
  [⟨(some 2), .mv (.k (.int .i64 2)), none, 0, 0⟩, ⟨(some 3), .mv (.k (.bool true)), none, 0, 0⟩] false) (.ret)) (.seq (.seq (.region [⟨(some 11), .bin .eql
  .no (.t 4) (.k (.str [43])), none, 0, 0⟩, ⟨(some 10), .mv (.t 11), none, 0, 0⟩] false) (.cond (.t 10) (.skip) (.region [⟨(some 12), .bin .eql .no (.t 4) (.k
  (.str [45])), none, 0, 0⟩, ⟨(some 10), .mv (.t 12), none, 0, 0⟩] false))) (.cond (.t 10) (.seq (.region [⟨(some 2), .mv (.k (.int .i64 3)), none, 0, 0⟩,
  ⟨(some 3), .mv (.k (.bool true)), none, 0, 0⟩] false) (.ret)) (.seq (.region [⟨(some 14), .bin .eql .no (.t 4) (.k (.str [42])), none, 0, 0⟩, ⟨(some 13), .mv
  (.t 14), none, 0, 0⟩] false) (.cond (.t 13) (.seq (.region [⟨(some 2), .mv (.k (.int .i64 4)), none, 0, 0⟩, ⟨(some 3), .mv (.k (.bool true)), none, 0, 0⟩]
  false) (.ret)) (.skip))))))))))) (.seq (.region [⟨(some 2), .mv (.k (.int .i64 0)), none, 0, 0⟩, ⟨(some 3), .mv (.k (.bool false)), none, 0, 0⟩] false)
  (.ret))), [.tmp 2, .tmp 3], [], [], []⟩
theorem c113 : cFunc Go.Proofs.Try.prog h113 Go.Proofs.Try.f113 = some F113 := by kernel_rfl
def h223 : Hints := ⟨[2, 4, 5], [], [], [], [], [], []⟩
def F223 : SF := ⟨37, .seq (.region [⟨(some 2), .allocL [.int .i64 0, .str [], .int .i64 0, .sl 6 [] .exact, .int .i64 0, .int .i64 0], none, 0, 0⟩, ⟨(some 3),
  .mv (.k (.bool false)), none, 0, 0⟩] false) (.seq (.region [⟨(some 6), .mv (.t 0), none, 0, 0⟩, ⟨(some 7), .call (.k (.fn (.func 163) [] [])) [(.t 6)] [],
  none, 0, 0⟩, ⟨(some 4), .allocL [.int .i64 0, .str [], .int .i64 0, .int .i64 0, .int .i64 0], none, 0, 0⟩, ⟨none, .store 5 (.t 4) (.t 7), none, 0, 0⟩]
  false) (.seq (.region [⟨(some 8), .faddr (.t 4) 1, none, 0, 0⟩, ⟨(some 9), .load false 1 (.t 8) false, none, 0, 0⟩, ⟨(some 10), .faddr (.t 4) 3, none, 0, 0⟩,
  ⟨(some 11), .load true 2 (.t 10) false, none, 0, 0⟩, ⟨(some 12), .build [.int .i64 0, .str [], .int .i64 0, .sl 6 [] .exact, .int .i64 0, .int .i64 0] [(1, 1,
   (.t 9)), (4, 2, (.t 11))], none, 0, 0⟩, ⟨(some 5), .allocL [.int .i64 0, .str [], .int .i64 0, .sl 6 [] .exact, .int .i64 0, .int .i64 0], none, 0, 0⟩,
  ⟨none, .store 6 (.t 5) (.t 12), none, 0, 0⟩] false) (.seq (.seq (.region [⟨(some 13), .faddr (.t 4) 0, none, 0, 0⟩, ⟨(some 14), .load false 1 (.t 13) false,
  none, 0, 0⟩] false) (.block 0 (.seq (.region [⟨(some 17), .bin .eql .no (.t 14) (.k (.int .i64 2)), none, 0, 0⟩, ⟨(some 16), .mv (.t 17), none, 0, 0⟩] false)
  (.cond (.t 16) (.region [⟨(some 18), .faddr (.t 5) 0, none, 0, 0⟩, ⟨none, .store 1 (.t 18) (.k (.int .i64 1)), none, 0, 0⟩] false) (.seq (.region [⟨(some 20),
   .bin .eql .no (.t 14) (.k (.int .i64 3)), none, 0, 0⟩, ⟨(some 19), .mv (.t 20), none, 0, 0⟩] false) (.cond (.t 19) (.region [⟨(some 21), .faddr (.t 5) 0,
  none, 0, 0⟩, ⟨none, .store 1 (.t 21) (.k (.int .i64 2)), none, 0, 0⟩] false) (.seq (.region [⟨(some 23), .bin .eql .no (.t 14) (.k (.int .i64 4)), none, 0,
  0⟩, ⟨(some 22), .mv (.t 23), none, 0, 0⟩] false) (.cond (.t 22) (.region [⟨(some 24), .faddr (.t 4) 2, none, 0, 2⟩, ⟨(some 25), .load false 1 (.t 24) false,
  none, 0, 2⟩, ⟨(some 26), .faddr (.t 5) 0, none, 0, 0⟩, ⟨none, .store 1 (.t 26) (.k (.int .i64 3)), none, 1, 0⟩, ⟨(some 27), .faddr (.t 5) 1, none, 1, 1⟩,
  ⟨none, .store 1 (.t 27) (.k (.str [])), none, 1, 0⟩, ⟨(some 28), .faddr (.t 5) 2, none, 2, 2⟩, ⟨none, .store 1 (.t 28) (.t 25), none, 1, 0⟩] true) (.seq
  (.region [⟨(some 15), .load true 6 (.t 5) false, none, 0, 0⟩, ⟨none, .store 6 (.t 2) (.t 15), none, 0, 0⟩, ⟨(some 3), .mv (.k (.bool false)), none, 0, 0⟩]
  false) (.ret)))))))))) (.seq (.region [⟨(some 29), .mv (.t 0), none, 0, 0⟩, ⟨(some 30), .nilchk (.t 29), none, 0, 0⟩, ⟨(some 31), .faddr (.t 30) 1, none, 0,
  0⟩, ⟨(some 32), .load false 1 (.t 31) false, none, 0, 0⟩, ⟨(some 33), .bin .add .no (.t 32) (.k (.int .i64 1)), none, 0, 0⟩, ⟨(some 34), .nilchk (.t 29),
  none, 0, 0⟩, ⟨(some 35), .faddr (.t 34) 1, none, 0, 0⟩, ⟨none, .store 1 (.t 35) (.t 33), none, 0, 0⟩] false) (.seq (.region [⟨(some 36), .load true 6 (.t 5)
  false, none, 0, 0⟩, ⟨none, .store 6 (.t 2) (.t 36), none, 0, 0⟩, ⟨(some 3), .mv (.k (.bool true)), none, 0, 0⟩] false) (.ret)))))), [.cell 2 true 6, .tmp 3],
  [], [], []⟩
theorem c223 : cFunc Go.Proofs.Try.prog h223 Go.Proofs.Try.f223 = some F223 := by kernel_rfl
def h235 : Hints := ⟨[2, 3, 5], [], [], [], [], [], []⟩
def F235 : SF := ⟨26, .seq (.region [⟨(some 2), .allocL [.int .i64 0, .str [], .int .i64 0, .sl 6 [] .exact, .int .i64 0, .int .i64 0], none, 0, 0⟩] false)
  (.seq (.seq (.region [⟨(some 7), .mv (.t 0), none, 0, 0⟩, ⟨(some 8), .call (.k (.fn (.func 223) [] [])) [(.t 7)] [], none, 0, 0⟩, ⟨(some 6), .mv (.t 8), none,
   0, 0⟩, ⟨(some 9), .extract (.t 6) 0, none, 0, 0⟩, ⟨(some 10), .extract (.t 6) 1, none, 0, 0⟩, ⟨(some 3), .allocL [.int .i64 0, .str [], .int .i64 0, .sl 6
  [] .exact, .int .i64 0, .int .i64 0], none, 0, 0⟩, ⟨none, .store 6 (.t 3) (.t 9), none, 0, 0⟩, ⟨(some 4), .mv (.t 10), none, 0, 0⟩] false) (.seq (.region
  [⟨(some 11), .mv (.t 4), none, 0, 0⟩] false) (.cond (.t 11) (.seq (.region [⟨(some 12), .load true 6 (.t 3) false, none, 0, 0⟩, ⟨none, .store 6 (.t 2) (.t
  12), none, 0, 0⟩] false) (.ret)) (.skip)))) (.seq (.seq (.region [⟨(some 13), .mv (.t 0), none, 0, 0⟩, ⟨(some 14), .call (.k (.fn (.func 164) [] [])) [(.t
  13), (.k (.int .i64 6)), (.k (.str [40]))] [], none, 0, 0⟩, ⟨(some 15), .un .not (.t 14), none, 0, 0⟩] false) (.cond (.t 15) (.region [⟨(some 16), .mv (.t 0),
   none, 0, 0⟩, ⟨(some 17), .call (.k (.fn (.func 210) [] [])) [(.t 16)] [], none, 0, 0⟩] false) (.skip))) (.seq (.region [⟨(some 18), .mv (.t 0), none, 0, 0⟩,
  ⟨(some 19), .call (.k (.fn (.func 165) [] [])) [(.t 18)] [], none, 0, 0⟩] false) (.seq (.region [⟨(some 20), .mv (.t 0), none, 0, 0⟩, ⟨none, .dfr (.k (.fn
  (.func 166) [] [])) [(.t 20)], none, 0, 0⟩] false) (.seq (.region [⟨(some 21), .mv (.t 0), none, 0, 0⟩, ⟨(some 22), .call (.k (.fn (.func 108) [] [])) [(.t
  21)] [], none, 0, 0⟩, ⟨(some 5), .allocL [.int .i64 0, .str [], .int .i64 0, .sl 6 [] .exact, .int .i64 0, .int .i64 0], none, 0, 0⟩, ⟨none, .store 6 (.t 5)
  (.t 22), none, 0, 0⟩] false) (.seq (.region [⟨(some 23), .mv (.t 0), none, 0, 0⟩, ⟨(some 24), .call (.k (.fn (.func 168) [] [])) [(.t 23), (.k (.int .i64 6)),
   (.k (.str [41]))] [], none, 0, 0⟩] false) (.seq (.region [⟨(some 25), .load true 6 (.t 5) false, none, 0, 0⟩, ⟨none, .store 6 (.t 2) (.t 25), none, 0, 0⟩]
  false) (.ret)))))))), [.cell 2 true 6], [], [], []⟩
theorem c235 : cFunc Go.Proofs.Try.prog h235 Go.Proofs.Try.f235 = some F235 := by kernel_rfl
def h236 : Hints := ⟨[1], [], [], [], [], [], []⟩
def F236 : SF := ⟨17, .seq (.region [⟨(some 1), .boxL 5 (.t 0), none, 0, 0⟩, ⟨(some 2), .mv (.k (.bool false)), none, 0, 0⟩] false) (.seq (.seq (.region
  [⟨(some 3), .faddr (.t 1) 0, none, 0, 0⟩, ⟨(some 4), .load false 1 (.t 3) false, none, 0, 0⟩] false) (.block 0 (.seq (.seq (.region [⟨(some 6), .bin .eql .no
  (.t 4) (.k (.int .i64 2)), none, 0, 0⟩, ⟨(some 5), .mv (.t 6), none, 0, 0⟩] false) (.cond (.t 5) (.skip) (.seq (.region [⟨(some 7), .bin .eql .no (.t 4) (.k
  (.int .i64 3)), none, 0, 0⟩, ⟨(some 5), .mv (.t 7), none, 0, 0⟩] false) (.cond (.t 5) (.skip) (.region [⟨(some 8), .bin .eql .no (.t 4) (.k (.int .i64 4)),
  none, 0, 0⟩, ⟨(some 5), .mv (.t 8), none, 0, 0⟩] false))))) (.cond (.t 5) (.seq (.region [⟨(some 2), .mv (.k (.bool true)), none, 0, 0⟩] false) (.ret))
  (.skip))))) (.seq (.region [⟨(some 9), .faddr (.t 1) 0, none, 0, 0⟩, ⟨(some 10), .load false 1 (.t 9) false, none, 0, 0⟩, ⟨(some 11), .bin .eql .no (.t 10)
  (.k (.int .i64 6)), none, 0, 0⟩, ⟨(some 12), .mv (.t 11), none, 0, 0⟩, ⟨(some 13), .faddr (.t 1) 1, (some (12, true)), 0, 0⟩, ⟨(some 14), .load false 1 (.t
  13) false, (some (12, true)), 0, 0⟩, ⟨(some 15), .bin .eql .no (.t 14) (.k (.str [40])), (some (12, true)), 0, 0⟩, ⟨(some 16), .pick (.t 12) (.t 15) (.k
  (.bool false)), none, 0, 0⟩, ⟨(some 2), .mv (.t 16), none, 0, 0⟩] false) (.ret))), [.tmp 2], [], [], []⟩
theorem c236 : cFunc Go.Proofs.Try.prog h236 Go.Proofs.Try.f236 = some F236 := by kernel_rfl
def h231 : Hints := ⟨[2], [], [0, 2, 3], [], [], [], []⟩
def B231_0b : SC := .seq (.seq (.region [⟨(some 7), .mv (.t 0), none, 0, 0⟩, ⟨(some 8), .call (.k (.fn (.func 163) [] [])) [(.t 7)] [], none, 0, 0⟩, ⟨(some 9),
  .call (.k (.fn (.func 236) [] [])) [(.t 8)] [], none, 0, 0⟩] false) (.cond (.t 9) (.skip) (.exit 0))) (.block 1 (.region [⟨(some 10), .mv (.t 3), none, 0, 0⟩,
   ⟨(some 11), .mv (.t 0), none, 0, 0⟩, ⟨(some 12), .call (.k (.fn (.func 235) [] [])) [(.t 11)] [], none, 0, 0⟩, ⟨(some 13), .bslice 6 [.int .i64 0, .str [],
  .int .i64 0, .sl 6 [] .exact, .int .i64 0, .int .i64 0] 1 [(0, (.t 12))], none, 0, 0⟩, ⟨(some 14), .append 6 (.t 10) (.t 13), none, 0, 0⟩, ⟨(some 3), .mv (.t
  14), none, 0, 0⟩] false))
def B231_0 : SC := B231_0b
theorem rB231_0 {Pr : Prims} {Pg : FuncId → Option SF} {keep : List Nat} {s : St} : runL Pr Pg keep B231_0 s = runL Pr Pg keep B231_0b s := rfl
def F231 : SF := ⟨27, .seq (.region [⟨(some 2), .allocL [.int .i64 0, .str [], .int .i64 0, .sl 6 [] .exact, .int .i64 0, .int .i64 0], none, 0, 0⟩] false)
  (.seq (.region [⟨(some 4), .mv (.t 0), none, 0, 0⟩, ⟨(some 5), .call (.k (.fn (.func 235) [] [])) [(.t 4)] [], none, 0, 0⟩, ⟨(some 6), .bslice 6 [.int .i64 0,
   .str [], .int .i64 0, .sl 6 [] .exact, .int .i64 0, .int .i64 0] 1 [(0, (.t 5))], none, 0, 0⟩, ⟨(some 3), .mv (.t 6), none, 0, 0⟩] false) (.seq (.block 0
  (.loop B231_0)) (.seq (.seq (.region [⟨(some 15), .mv (.t 3), none, 0, 0⟩, ⟨(some 16), .len false (.t 15), none, 0, 0⟩, ⟨(some 17), .bin .eql .no (.t 16) (.k
  (.int .i64 1)), none, 0, 0⟩] false) (.cond (.t 17) (.seq (.region [⟨(some 18), .mv (.t 3), none, 0, 0⟩, ⟨(some 19), .iaddr 6 (.t 18) (.k (.int .i64 0)), none,
   0, 0⟩, ⟨(some 20), .load true 6 (.t 19) false, none, 0, 0⟩, ⟨none, .store 6 (.t 2) (.t 20), none, 0, 0⟩] false) (.ret)) (.skip))) (.seq (.region [⟨(some 21),
   .mv (.t 3), none, 0, 0⟩, ⟨(some 22), .mv (.t 3), none, 0, 0⟩, ⟨(some 23), .iaddr 6 (.t 22) (.k (.int .i64 0)), none, 0, 0⟩, ⟨(some 24), .faddr (.t 23) 4,
  none, 0, 0⟩, ⟨(some 25), .load true 2 (.t 24) false, none, 0, 0⟩, ⟨(some 26), .build [.int .i64 0, .str [], .int .i64 0, .sl 6 [] .exact, .int .i64 0, .int
  .i64 0] [(0, 1, (.k (.int .i64 4))), (3, 1, (.t 21)), (4, 2, (.t 25))], none, 0, 0⟩, ⟨none, .store 6 (.t 2) (.t 26), none, 0, 0⟩] false) (.ret))))), [.cell 2
  true 6], [0, 2, 3], [], []⟩
theorem c231 : cFunc Go.Proofs.Try.prog h231 Go.Proofs.Try.f231 = some F231 := by kernel_rfl
def h212 : Hints := ⟨[4, 5, 6], [], [0, 1, 4, 5], [], [], [], []⟩
def B212_0b : SC := .block 1 (.seq (.region [⟨(some 17), .mv (.t 0), none, 0, 0⟩, ⟨(some 18), .call (.k (.fn (.func 163) [] [])) [(.t 17)] [], none, 0, 0⟩,
  ⟨(some 6), .allocL [.int .i64 0, .str [], .int .i64 0, .int .i64 0, .int .i64 0], none, 0, 0⟩, ⟨none, .store 5 (.t 6) (.t 18), none, 0, 0⟩] false) (.seq
  (.seq (.region [⟨(some 20), .faddr (.t 6) 1, none, 0, 0⟩, ⟨(some 21), .load false 1 (.t 20) false, none, 0, 0⟩, ⟨(some 22), .call (.k (.fn (.func 113) []
  [])) [(.t 21)] [], none, 0, 0⟩, ⟨(some 19), .mv (.t 22), none, 0, 0⟩, ⟨(some 23), .extract (.t 19) 0, none, 0, 0⟩, ⟨(some 24), .extract (.t 19) 1, none, 0,
  0⟩, ⟨(some 7), .mv (.t 23), none, 0, 0⟩, ⟨(some 8), .mv (.t 24), none, 0, 0⟩] false) (.seq (.region [⟨(some 25), .faddr (.t 6) 0, none, 0, 0⟩, ⟨(some 26),
  .load false 1 (.t 25) false, none, 0, 0⟩, ⟨(some 27), .bin .neq .no (.t 26) (.k (.int .i64 6)), none, 0, 0⟩, ⟨(some 28), .mv (.t 27), none, 0, 0⟩, ⟨(some 29),
   .mv (.t 7), (some (28, false)), 0, 0⟩, ⟨(some 30), .mv (.t 1), (some (28, false)), 0, 0⟩, ⟨(some 31), .bin .neq .no (.t 29) (.t 30), (some (28, false)), 0,
  0⟩, ⟨(some 32), .pick (.t 28) (.k (.bool true)) (.t 31), none, 0, 0⟩] false) (.cond (.t 32) (.seq (.region [⟨(some 33), .load true 6 (.t 5) false, none, 0,
  0⟩, ⟨none, .store 6 (.t 4) (.t 33), none, 0, 0⟩] false) (.ret)) (.skip)))) (.seq (.region [⟨(some 34), .mv (.t 0), none, 0, 0⟩, ⟨(some 35), .nilchk (.t 34),
  none, 0, 0⟩, ⟨(some 36), .faddr (.t 35) 1, none, 0, 0⟩, ⟨(some 37), .load false 1 (.t 36) false, none, 0, 0⟩, ⟨(some 38), .bin .add .no (.t 37) (.k (.int
  .i64 1)), none, 0, 0⟩, ⟨(some 39), .nilchk (.t 34), none, 0, 0⟩, ⟨(some 40), .faddr (.t 39) 1, none, 0, 0⟩, ⟨none, .store 1 (.t 40) (.t 38), none, 0, 0⟩]
  false) (.seq (.region [⟨(some 41), .faddr (.t 6) 1, none, 0, 1⟩, ⟨(some 42), .load false 1 (.t 41) false, none, 0, 1⟩, ⟨(some 43), .load true 6 (.t 5) false,
  none, 0, 1⟩, ⟨(some 44), .mv (.t 0), none, 0, 0⟩, ⟨(some 45), .mv (.t 1), none, 0, 0⟩, ⟨(some 46), .bin .add .no (.t 45) (.k (.int .i64 1)), none, 0, 0⟩,
  ⟨(some 47), .call (.k (.fn (.func 212) [] [])) [(.t 44), (.t 46)] [], none, 0, 0⟩, ⟨(some 48), .bslice 6 [.int .i64 0, .str [], .int .i64 0, .sl 6 [] .exact,
  .int .i64 0, .int .i64 0] 2 [(0, (.t 43)), (1, (.t 47))], none, 1, 1⟩, ⟨(some 49), .faddr (.t 6) 3, none, 0, 1⟩, ⟨(some 50), .load true 2 (.t 49) false, none,
   0, 1⟩, ⟨(some 51), .build [.int .i64 0, .str [], .int .i64 0, .sl 6 [] .exact, .int .i64 0, .int .i64 0] [(0, 1, (.k (.int .i64 5))), (1, 1, (.t 42)), (3, 1,
   (.t 48)), (4, 2, (.t 50))], none, 1, 1⟩, ⟨none, .store 6 (.t 5) (.t 51), none, 1, 0⟩] true) (.seq (.region [⟨(some 52), .mv (.t 1), none, 0, 0⟩, ⟨(some 53),
  .bin .eql .no (.t 52) (.k (.int .i64 2)), none, 0, 0⟩] false) (.cond (.t 53) (.seq (.region [⟨(some 54), .load true 6 (.t 5) false, none, 0, 0⟩, ⟨none,
  .store 6 (.t 4) (.t 54), none, 0, 0⟩] false) (.ret)) (.skip)))))))
def B212_0 : SC := B212_0b
theorem rB212_0 {Pr : Prims} {Pg : FuncId → Option SF} {keep : List Nat} {s : St} : runL Pr Pg keep B212_0 s = runL Pr Pg keep B212_0b s := rfl
def F212 : SF := ⟨55, .seq (.region [⟨(some 4), .allocL [.int .i64 0, .str [], .int .i64 0, .sl 6 [] .exact, .int .i64 0, .int .i64 0], none, 0, 0⟩] false)
  (.seq (.seq (.region [⟨(some 9), .mv (.t 1), none, 0, 0⟩, ⟨(some 10), .bin .gtr .no (.t 9) (.k (.int .i64 4)), none, 0, 0⟩] false) (.cond (.t 10) (.seq
  (.region [⟨(some 11), .mv (.t 0), none, 0, 0⟩, ⟨(some 12), .call (.k (.fn (.func 231) [] [])) [(.t 11)] [], none, 0, 0⟩, ⟨none, .store 6 (.t 4) (.t 12), none,
   0, 0⟩] false) (.ret)) (.skip))) (.seq (.region [⟨(some 13), .mv (.t 0), none, 0, 0⟩, ⟨(some 14), .mv (.t 1), none, 0, 0⟩, ⟨(some 15), .bin .add .no (.t 14)
  (.k (.int .i64 1)), none, 0, 0⟩, ⟨(some 16), .call (.k (.fn (.func 212) [] [])) [(.t 13), (.t 15)] [], none, 0, 0⟩, ⟨(some 5), .allocL [.int .i64 0, .str [],
  .int .i64 0, .sl 6 [] .exact, .int .i64 0, .int .i64 0], none, 0, 0⟩, ⟨none, .store 6 (.t 5) (.t 16), none, 0, 0⟩] false) (.block 0 (.loop B212_0)))), [.cell
  4 true 6], [0, 1, 4, 5], [], []⟩
theorem c212 : cFunc Go.Proofs.Try.prog h212 Go.Proofs.Try.f212 = some F212 := by kernel_rfl
def h169 : Hints := ⟨[2, 3, 4], [], [], [], [], [], []⟩
def F169 : SF := ⟨27, .seq (.region [⟨(some 2), .allocL [.int .i64 0, .str [], .int .i64 0, .sl 6 [] .exact, .int .i64 0, .int .i64 0], none, 0, 0⟩] false)
  (.seq (.region [⟨(some 5), .mv (.t 0), none, 0, 0⟩, ⟨(some 6), .call (.k (.fn (.func 212) [] [])) [(.t 5), (.k (.int .i64 2))] [], none, 0, 0⟩, ⟨(some 3),
  .allocL [.int .i64 0, .str [], .int .i64 0, .sl 6 [] .exact, .int .i64 0, .int .i64 0], none, 0, 0⟩, ⟨none, .store 6 (.t 3) (.t 6), none, 0, 0⟩] false) (.seq
  (.seq (.region [⟨(some 7), .mv (.t 0), none, 0, 0⟩, ⟨(some 8), .call (.k (.fn (.func 164) [] [])) [(.t 7), (.k (.int .i64 6)), (.k (.str [63]))] [], none, 0,
  0⟩, ⟨(some 9), .un .not (.t 8), none, 0, 0⟩] false) (.cond (.t 9) (.seq (.region [⟨(some 10), .load true 6 (.t 3) false, none, 0, 0⟩, ⟨none, .store 6 (.t 2)
  (.t 10), none, 0, 0⟩] false) (.ret)) (.skip))) (.seq (.region [⟨(some 11), .mv (.t 0), none, 0, 0⟩, ⟨(some 12), .call (.k (.fn (.func 163) [] [])) [(.t 11)]
  [], none, 0, 0⟩, ⟨(some 13), .field (.t 12) 3 2 true, none, 0, 0⟩, ⟨(some 4), .allocL [.int .i64 0, .int .i64 0], none, 0, 0⟩, ⟨none, .store 2 (.t 4) (.t 13),
   none, 0, 0⟩] false) (.seq (.region [⟨(some 14), .mv (.t 0), none, 0, 0⟩, ⟨(some 15), .nilchk (.t 14), none, 0, 0⟩, ⟨(some 16), .faddr (.t 15) 1, none, 0, 0⟩,
   ⟨(some 17), .load false 1 (.t 16) false, none, 0, 0⟩, ⟨(some 18), .bin .add .no (.t 17) (.k (.int .i64 1)), none, 0, 0⟩, ⟨(some 19), .nilchk (.t 14), none,
  0, 0⟩, ⟨(some 20), .faddr (.t 19) 1, none, 0, 0⟩, ⟨none, .store 1 (.t 20) (.t 18), none, 0, 0⟩] false) (.seq (.region [⟨(some 21), .load true 6 (.t 3) false,
  none, 0, 1⟩, ⟨(some 22), .mv (.t 0), none, 0, 0⟩, ⟨(some 23), .call (.k (.fn (.func 169) [] [])) [(.t 22)] [], none, 0, 0⟩, ⟨(some 24), .bslice 6 [.int .i64
  0, .str [], .int .i64 0, .sl 6 [] .exact, .int .i64 0, .int .i64 0] 2 [(0, (.t 21)), (1, (.t 23))], none, 1, 1⟩, ⟨(some 25), .load true 2 (.t 4) false, none,
  0, 1⟩, ⟨(some 26), .build [.int .i64 0, .str [], .int .i64 0, .sl 6 [] .exact, .int .i64 0, .int .i64 0] [(0, 1, (.k (.int .i64 5))), (1, 1, (.k (.str
  [63]))), (3, 1, (.t 24)), (4, 2, (.t 25))], none, 1, 1⟩, ⟨none, .store 6 (.t 2) (.t 26), none, 1, 0⟩] true) (.ret)))))), [.cell 2 true 6], [], [], []⟩
theorem c169 : cFunc Go.Proofs.Try.prog h169 Go.Proofs.Try.f169 = some F169 := by kernel_rfl
def h108 : Hints := ⟨[2, 3, 4, 5], [], [], [], [], [], []⟩
def F108 : SF := ⟨41, .seq (.region [⟨(some 2), .allocL [.int .i64 0, .str [], .int .i64 0, .sl 6 [] .exact, .int .i64 0, .int .i64 0], none, 0, 0⟩] false)
  (.seq (.region [⟨(some 6), .mv (.t 0), none, 0, 0⟩, ⟨(some 7), .call (.k (.fn (.func 163) [] [])) [(.t 6)] [], none, 0, 0⟩, ⟨(some 8), .field (.t 7) 3 2 true,
   none, 0, 0⟩, ⟨(some 3), .allocL [.int .i64 0, .int .i64 0], none, 0, 0⟩, ⟨none, .store 2 (.t 3) (.t 8), none, 0, 0⟩] false) (.seq (.block 0 (.seq (.region
  [⟨(some 10), .mv (.t 0), none, 0, 0⟩, ⟨(some 11), .call (.k (.fn (.func 164) [] [])) [(.t 10), (.k (.int .i64 5)), (.k (.str [108, 101, 116]))] [], none, 0,
  0⟩, ⟨(some 9), .mv (.t 11), none, 0, 0⟩] false) (.cond (.t 9) (.seq (.region [⟨(some 12), .mv (.t 0), none, 0, 0⟩, ⟨(some 13), .call (.k (.fn (.func 165) []
  [])) [(.t 12)] [], none, 0, 0⟩] false) (.seq (.region [⟨(some 14), .mv (.t 0), none, 0, 0⟩, ⟨none, .dfr (.k (.fn (.func 166) [] [])) [(.t 14)], none, 0, 0⟩]
  false) (.seq (.region [⟨(some 15), .mv (.t 0), none, 0, 0⟩, ⟨(some 16), .load true 2 (.t 3) false, none, 0, 0⟩, ⟨(some 17), .call (.k (.fn (.func 167) []
  [])) [(.t 15), (.t 16)] [], none, 0, 0⟩, ⟨none, .store 6 (.t 2) (.t 17), none, 0, 0⟩] false) (.ret)))) (.seq (.region [⟨(some 19), .mv (.t 0), none, 0, 0⟩,
  ⟨(some 20), .call (.k (.fn (.func 164) [] [])) [(.t 19), (.k (.int .i64 5)), (.k (.str [105, 102]))] [], none, 0, 0⟩, ⟨(some 18), .mv (.t 20), none, 0, 0⟩]
  false) (.cond (.t 18) (.seq (.region [⟨(some 21), .mv (.t 0), none, 0, 0⟩, ⟨(some 22), .call (.k (.fn (.func 165) [] [])) [(.t 21)] [], none, 0, 0⟩] false)
  (.seq (.region [⟨(some 23), .mv (.t 0), none, 0, 0⟩, ⟨none, .dfr (.k (.fn (.func 166) [] [])) [(.t 23)], none, 0, 0⟩] false) (.seq (.region [⟨(some 24), .mv
  (.t 0), none, 0, 0⟩, ⟨(some 25), .call (.k (.fn (.func 108) [] [])) [(.t 24)] [], none, 0, 0⟩, ⟨(some 4), .allocL [.int .i64 0, .str [], .int .i64 0, .sl 6
  [] .exact, .int .i64 0, .int .i64 0], none, 0, 0⟩, ⟨none, .store 6 (.t 4) (.t 25), none, 0, 0⟩] false) (.seq (.region [⟨(some 26), .mv (.t 0), none, 0, 0⟩,
  ⟨(some 27), .call (.k (.fn (.func 168) [] [])) [(.t 26), (.k (.int .i64 5)), (.k (.str [116, 104, 101, 110]))] [], none, 0, 0⟩] false) (.seq (.region [⟨(some
  28), .mv (.t 0), none, 0, 0⟩, ⟨(some 29), .call (.k (.fn (.func 108) [] [])) [(.t 28)] [], none, 0, 0⟩, ⟨(some 5), .allocL [.int .i64 0, .str [], .int .i64 0,
   .sl 6 [] .exact, .int .i64 0, .int .i64 0], none, 0, 0⟩, ⟨none, .store 6 (.t 5) (.t 29), none, 0, 0⟩] false) (.seq (.region [⟨(some 30), .mv (.t 0), none, 0,
   0⟩, ⟨(some 31), .call (.k (.fn (.func 168) [] [])) [(.t 30), (.k (.int .i64 5)), (.k (.str [101, 108, 115, 101]))] [], none, 0, 0⟩] false) (.seq (.region
  [⟨(some 32), .load true 6 (.t 4) false, none, 0, 1⟩, ⟨(some 33), .load true 6 (.t 5) false, none, 0, 1⟩, ⟨(some 34), .mv (.t 0), none, 0, 0⟩, ⟨(some 35),
  .call (.k (.fn (.func 108) [] [])) [(.t 34)] [], none, 0, 0⟩, ⟨(some 36), .bslice 6 [.int .i64 0, .str [], .int .i64 0, .sl 6 [] .exact, .int .i64 0, .int
  .i64 0] 3 [(0, (.t 32)), (1, (.t 33)), (2, (.t 35))], none, 1, 1⟩, ⟨(some 37), .load true 2 (.t 3) false, none, 0, 1⟩, ⟨(some 38), .build [.int .i64 0, .str
  [], .int .i64 0, .sl 6 [] .exact, .int .i64 0, .int .i64 0] [(0, 1, (.k (.int .i64 6))), (3, 1, (.t 36)), (4, 2, (.t 37))], none, 1, 1⟩, ⟨none, .store 6 (.t
  2) (.t 38), none, 1, 0⟩] true) (.ret)))))))) (.skip)))))) (.seq (.region [⟨(some 39), .mv (.t 0), none, 0, 0⟩, ⟨(some 40), .call (.k (.fn (.func 169) [] []))
  [(.t 39)] [], none, 0, 0⟩, ⟨none, .store 6 (.t 2) (.t 40), none, 0, 0⟩] false) (.ret)))), [.cell 2 true 6], [], [], []⟩
theorem c108 : cFunc Go.Proofs.Try.prog h108 Go.Proofs.Try.f108 = some F108 := by kernel_rfl
def h107 : Hints := ⟨[2], [], [], [], [], [], []⟩
def F107 : SF := ⟨5, .seq (.region [⟨(some 2), .allocL [.int .i64 0, .str [], .int .i64 0, .sl 6 [] .exact, .int .i64 0, .int .i64 0], none, 0, 0⟩] false)
  (.seq (.region [⟨(some 3), .mv (.t 0), none, 0, 0⟩, ⟨(some 4), .call (.k (.fn (.func 108) [] [])) [(.t 3)] [], none, 0, 0⟩, ⟨none, .store 6 (.t 2) (.t 4),
  none, 0, 0⟩] false) (.ret)), [.cell 2 true 6], [], [], []⟩
theorem c107 : cFunc Go.Proofs.Try.prog h107 Go.Proofs.Try.f107 = some F107 := by kernel_rfl
def h49 : Hints := ⟨[4, 6], [], [], [], [], [], []⟩
def F49 : SF := ⟨13, .seq (.region [⟨(some 4), .allocL [.int .i64 0, .str [], .int .i64 0, .sl 6 [] .exact, .int .i64 0, .int .i64 0], none, 0, 0⟩, ⟨(some 5),
  .mv (.k (.int .i64 0)), none, 0, 0⟩, ⟨(some 6), .allocL [.int .i64 0, .int .i64 0, .int .i64 0], none, 0, 0⟩] false) (.seq (.region [⟨(some 7), .mv (.t 0),
  none, 0, 0⟩, ⟨(some 8), .mv (.t 1), none, 0, 0⟩, ⟨(some 9), .call (.k (.fn (.func 106) [] [])) [(.t 7), (.t 8), (.k (.fn (.func 107) [] []))] [], none, 0, 0⟩,
   ⟨(some 10), .extract (.t 9) 0, none, 0, 0⟩, ⟨(some 11), .extract (.t 9) 1, none, 0, 0⟩, ⟨(some 12), .extract (.t 9) 2, none, 0, 0⟩, ⟨none, .store 6 (.t 4)
  (.t 10), none, 0, 0⟩, ⟨(some 5), .mv (.t 11), none, 0, 0⟩, ⟨none, .store 3 (.t 6) (.t 12), none, 0, 0⟩] false) (.ret)), [.cell 4 true 6, .tmp 5, .cell 6 true
  3], [], [], []⟩
theorem c49 : cFunc Go.Proofs.Try.prog h49 Go.Proofs.Try.f49 = some F49 := by kernel_rfl
def h140 : Hints := ⟨[4, 5, 7], [], [], [], [], [], []⟩
def F140 : SF := ⟨39, .seq (.region [⟨(some 4), .allocL [.int .i64 0, .str [], .int .i64 0, .sl 6 [] .exact, .int .i64 0, .int .i64 0], none, 0, 0⟩] false)
  (.seq (.seq (.region [⟨(some 8), .mv (.t 0), none, 0, 0⟩, ⟨(some 9), .call (.k (.fn (.func 58) [] [])) [(.t 8)] [], none, 0, 0⟩, ⟨(some 10), .un .not (.t 9),
  none, 0, 0⟩] false) (.cond (.t 10) (.seq (.region [⟨(some 11), .build [.int .i64 0, .str [], .int .i64 0, .sl 6 [] .exact, .int .i64 0, .int .i64 0] [], none,
   0, 0⟩, ⟨none, .store 6 (.t 4) (.t 11), none, 0, 0⟩] false) (.ret)) (.skip))) (.seq (.region [⟨(some 13), .mv (.t 1), none, 0, 0⟩, ⟨(some 14), .mv (.t 0),
  none, 0, 0⟩, ⟨(some 15), .nilchk (.t 14), none, 0, 0⟩, ⟨(some 16), .faddr (.t 15) 0, none, 0, 0⟩, ⟨(some 17), .load false 1 (.t 16) false, none, 0, 0⟩,
  ⟨(some 18), .mv (.t 0), none, 0, 0⟩, ⟨(some 19), .nilchk (.t 18), none, 0, 0⟩, ⟨(some 20), .faddr (.t 19) 1, none, 0, 0⟩, ⟨(some 21), .load false 1 (.t 20)
  false, none, 0, 0⟩, ⟨(some 22), .call (.t 13) [(.t 17), (.t 21)] [], none, 1, 0⟩, ⟨(some 12), .mv (.t 22), none, 1, 1⟩, ⟨(some 23), .extract (.t 12) 0, none,
  1, 1⟩, ⟨(some 24), .extract (.t 12) 1, none, 1, 2⟩, ⟨(some 25), .extract (.t 12) 2, none, 1, 2⟩, ⟨(some 5), .allocL [.int .i64 0, .str [], .int .i64 0, .sl 6
  [] .exact, .int .i64 0, .int .i64 0], none, 0, 1⟩, ⟨(some 7), .allocL [.int .i64 0, .int .i64 0, .int .i64 0], none, 0, 1⟩, ⟨none, .store 6 (.t 5) (.t 23),
  none, 1, 0⟩, ⟨(some 6), .mv (.t 24), none, 2, 2⟩, ⟨none, .store 3 (.t 7) (.t 25), none, 1, 0⟩] true) (.seq (.seq (.region [⟨(some 26), .faddr (.t 7) 0, none,
  0, 0⟩, ⟨(some 27), .load false 1 (.t 26) false, none, 0, 0⟩, ⟨(some 28), .bin .neq .no (.t 27) (.k (.int .i64 0)), none, 0, 0⟩] false) (.cond (.t 28) (.seq
  (.region [⟨(some 29), .mv (.t 0), none, 0, 0⟩, ⟨(some 30), .load true 3 (.t 7) false, none, 0, 0⟩, ⟨(some 31), .nilchk (.t 29), none, 0, 0⟩, ⟨(some 32),
  .faddr (.t 31) 3, none, 0, 0⟩, ⟨none, .store 3 (.t 32) (.t 30), none, 0, 0⟩] false) (.seq (.region [⟨(some 33), .build [.int .i64 0, .str [], .int .i64 0,
  .sl 6 [] .exact, .int .i64 0, .int .i64 0] [], none, 0, 0⟩, ⟨none, .store 6 (.t 4) (.t 33), none, 0, 0⟩] false) (.ret))) (.skip))) (.seq (.region [⟨(some 34),
   .mv (.t 0), none, 0, 0⟩, ⟨(some 35), .mv (.t 6), none, 0, 0⟩, ⟨(some 36), .nilchk (.t 34), none, 0, 0⟩, ⟨(some 37), .faddr (.t 36) 1, none, 0, 0⟩, ⟨none,
  .store 1 (.t 37) (.t 35), none, 0, 0⟩] false) (.seq (.region [⟨(some 38), .load true 6 (.t 5) false, none, 0, 0⟩, ⟨none, .store 6 (.t 4) (.t 38), none, 0,
  0⟩] false) (.ret)))))), [.cell 4 true 6], [], [], []⟩
theorem c140 : cFunc Go.Proofs.Try.prog h140 Go.Proofs.Try.f140 = some F140 := by kernel_rfl
def h194 : Hints := ⟨[2, 3, 4], [], [0, 2, 6, 7], [], [], [], []⟩
def B194_0b : SC := .seq (.seq (.region [⟨(some 44), .mv (.t 6), none, 0, 0⟩, ⟨(some 45), .mv (.t 44), none, 0, 0⟩, ⟨(some 46), .mv (.t 0), (some (45, true)),
  0, 0⟩, ⟨(some 47), .call (.k (.fn (.func 164) [] [])) [(.t 46), (.k (.int .i64 6)), (.k (.str [41]))] [], (some (45, true)), 0, 0⟩, ⟨(some 48), .un .not (.t
  47), (some (45, true)), 0, 0⟩, ⟨(some 49), .pick (.t 45) (.t 48) (.k (.bool false)), none, 0, 0⟩] false) (.cond (.t 49) (.skip) (.exit 0))) (.block 1
  (.region [⟨(some 50), .mv (.t 7), none, 0, 0⟩, ⟨(some 51), .mv (.t 0), none, 0, 0⟩, ⟨(some 52), .call (.k (.fn (.func 194) [] [])) [(.t 51)] [], none, 0, 0⟩,
  ⟨(some 53), .bslice 6 [.int .i64 0, .str [], .int .i64 0, .sl 6 [] .exact, .int .i64 0, .int .i64 0] 1 [(0, (.t 52))], none, 0, 0⟩, ⟨(some 54), .append 6 (.t
  50) (.t 53), none, 0, 0⟩, ⟨(some 7), .mv (.t 54), none, 0, 0⟩] false))
def B194_0 : SC := B194_0b
theorem rB194_0 {Pr : Prims} {Pg : FuncId → Option SF} {keep : List Nat} {s : St} : runL Pr Pg keep B194_0 s = runL Pr Pg keep B194_0b s := rfl
def F194 : SF := ⟨71, .seq (.region [⟨(some 2), .allocL [.int .i64 0, .str [], .int .i64 0, .sl 6 [] .exact, .int .i64 0, .int .i64 0], none, 0, 0⟩] false)
  (.seq (.region [⟨(some 8), .mv (.t 0), none, 0, 0⟩, ⟨(some 9), .call (.k (.fn (.func 163) [] [])) [(.t 8)] [], none, 0, 0⟩, ⟨(some 10), .field (.t 9) 3 2
  true, none, 0, 0⟩, ⟨(some 3), .allocL [.int .i64 0, .int .i64 0], none, 0, 0⟩, ⟨none, .store 2 (.t 3) (.t 10), none, 0, 0⟩] false) (.seq (.seq (.region
  [⟨(some 11), .mv (.t 0), none, 0, 0⟩, ⟨(some 12), .call (.k (.fn (.func 164) [] [])) [(.t 11), (.k (.int .i64 6)), (.k (.str [95]))] [], none, 0, 0⟩] false)
  (.cond (.t 12) (.seq (.region [⟨(some 13), .mv (.t 0), none, 0, 0⟩, ⟨(some 14), .nilchk (.t 13), none, 0, 0⟩, ⟨(some 15), .faddr (.t 14) 1, none, 0, 0⟩,
  ⟨(some 16), .load false 1 (.t 15) false, none, 0, 0⟩, ⟨(some 17), .bin .add .no (.t 16) (.k (.int .i64 1)), none, 0, 0⟩, ⟨(some 18), .nilchk (.t 13), none, 0,
   0⟩, ⟨(some 19), .faddr (.t 18) 1, none, 0, 0⟩, ⟨none, .store 1 (.t 19) (.t 17), none, 0, 0⟩] false) (.seq (.region [⟨(some 20), .load true 2 (.t 3) false,
  none, 0, 0⟩, ⟨(some 21), .build [.int .i64 0, .str [], .int .i64 0, .sl 6 [] .exact, .int .i64 0, .int .i64 0] [(0, 1, (.k (.int .i64 9))), (4, 2, (.t 20))],
  none, 0, 0⟩, ⟨none, .store 6 (.t 2) (.t 21), none, 0, 0⟩] false) (.ret))) (.skip))) (.seq (.seq (.region [⟨(some 23), .mv (.t 0), none, 0, 0⟩, ⟨(some 24),
  .call (.k (.fn (.func 223) [] [])) [(.t 23)] [], none, 0, 0⟩, ⟨(some 22), .mv (.t 24), none, 0, 0⟩, ⟨(some 25), .extract (.t 22) 0, none, 0, 0⟩, ⟨(some 26),
  .extract (.t 22) 1, none, 0, 0⟩, ⟨(some 4), .allocL [.int .i64 0, .str [], .int .i64 0, .sl 6 [] .exact, .int .i64 0, .int .i64 0], none, 0, 0⟩, ⟨none,
  .store 6 (.t 4) (.t 25), none, 0, 0⟩, ⟨(some 5), .mv (.t 26), none, 0, 0⟩] false) (.seq (.region [⟨(some 27), .mv (.t 5), none, 0, 0⟩] false) (.cond (.t 27)
  (.seq (.region [⟨(some 28), .load true 6 (.t 4) false, none, 0, 0⟩, ⟨none, .store 6 (.t 2) (.t 28), none, 0, 0⟩] false) (.ret)) (.skip)))) (.seq (.seq
  (.region [⟨(some 29), .mv (.t 0), none, 0, 0⟩, ⟨(some 30), .call (.k (.fn (.func 164) [] [])) [(.t 29), (.k (.int .i64 6)), (.k (.str [40]))] [], none, 0, 0⟩,
   ⟨(some 31), .un .not (.t 30), none, 0, 0⟩] false) (.cond (.t 31) (.region [⟨(some 32), .mv (.t 0), none, 0, 0⟩, ⟨(some 33), .call (.k (.fn (.func 210) []
  [])) [(.t 32)] [], none, 0, 0⟩] false) (.skip))) (.seq (.region [⟨(some 34), .mv (.t 0), none, 0, 0⟩, ⟨(some 35), .call (.k (.fn (.func 165) [] [])) [(.t
  34)] [], none, 0, 0⟩] false) (.seq (.region [⟨(some 36), .mv (.t 0), none, 0, 0⟩, ⟨none, .dfr (.k (.fn (.func 166) [] [])) [(.t 36)], none, 0, 0⟩] false)
  (.seq (.region [⟨(some 37), .mv (.t 0), none, 0, 0⟩, ⟨(some 38), .call (.k (.fn (.func 163) [] [])) [(.t 37)] [], none, 0, 0⟩, ⟨(some 39), .field (.t 38) 0 1
  false, none, 0, 0⟩, ⟨(some 40), .bin .eql .no (.t 39) (.k (.int .i64 3)), none, 0, 0⟩, ⟨(some 6), .mv (.t 40), none, 0, 0⟩] false) (.seq (.region [⟨(some 41),
   .mv (.t 0), none, 0, 0⟩, ⟨(some 42), .call (.k (.fn (.func 194) [] [])) [(.t 41)] [], none, 0, 0⟩, ⟨(some 43), .bslice 6 [.int .i64 0, .str [], .int .i64 0,
  .sl 6 [] .exact, .int .i64 0, .int .i64 0] 1 [(0, (.t 42))], none, 0, 0⟩, ⟨(some 7), .mv (.t 43), none, 0, 0⟩] false) (.seq (.block 0 (.loop B194_0)) (.seq
  (.region [⟨(some 55), .mv (.t 0), none, 0, 0⟩, ⟨(some 56), .call (.k (.fn (.func 168) [] [])) [(.t 55), (.k (.int .i64 6)), (.k (.str [41]))] [], none, 0,
  0⟩] false) (.seq (.seq (.region [⟨(some 57), .mv (.t 7), none, 0, 0⟩, ⟨(some 58), .len false (.t 57), none, 0, 0⟩, ⟨(some 59), .bin .eql .no (.t 58) (.k
  (.int .i64 1)), none, 0, 0⟩] false) (.cond (.t 59) (.seq (.region [⟨(some 60), .mv (.t 7), none, 0, 0⟩, ⟨(some 61), .iaddr 6 (.t 60) (.k (.int .i64 0)), none,
   0, 0⟩, ⟨(some 62), .load true 6 (.t 61) false, none, 0, 0⟩, ⟨none, .store 6 (.t 2) (.t 62), none, 0, 0⟩] false) (.ret)) (.skip))) (.seq (.region [⟨(some 63),
   .mv (.t 7), none, 0, 2⟩, ⟨(some 64), .mv (.t 7), none, 0, 3⟩, ⟨(some 65), .iaddr 6 (.t 64) (.k (.int .i64 0)), none, 0, 3⟩, ⟨(some 66), .faddr (.t 65) 4,
  none, 0, 3⟩, ⟨(some 67), .load true 2 (.t 66) false, none, 0, 3⟩, ⟨none, .store 6 (.t 2) (.k (.agg [.int .i64 0, .str [], .int .i64 0, .sl 6 [] .exact, .int
  .i64 0, .int .i64 0])), none, 1, 0⟩, ⟨(some 68), .faddr (.t 2) 0, none, 1, 1⟩, ⟨none, .store 1 (.t 68) (.k (.int .i64 4)), none, 1, 0⟩, ⟨(some 69), .faddr
  (.t 2) 3, none, 2, 2⟩, ⟨none, .store 1 (.t 69) (.t 63), none, 1, 0⟩, ⟨(some 70), .faddr (.t 2) 4, none, 3, 3⟩, ⟨none, .store 2 (.t 70) (.t 67), none, 1, 0⟩]
  true) (.ret))))))))))))), [.cell 2 true 6], [0, 2, 6, 7], [], []⟩
theorem c194 : cFunc Go.Proofs.Try.prog h194 Go.Proofs.Try.f194 = some F194 := by kernel_rfl
def h193 : Hints := ⟨[2], [], [], [], [], [], []⟩
def F193 : SF := ⟨5, .seq (.region [⟨(some 2), .allocL [.int .i64 0, .str [], .int .i64 0, .sl 6 [] .exact, .int .i64 0, .int .i64 0], none, 0, 0⟩] false)
  (.seq (.region [⟨(some 3), .mv (.t 0), none, 0, 0⟩, ⟨(some 4), .call (.k (.fn (.func 194) [] [])) [(.t 3)] [], none, 0, 0⟩, ⟨none, .store 6 (.t 2) (.t 4),
  none, 0, 0⟩] false) (.ret)), [.cell 2 true 6], [], [], []⟩
theorem c193 : cFunc Go.Proofs.Try.prog h193 Go.Proofs.Try.f193 = some F193 := by kernel_rfl
def h141 : Hints := ⟨[4, 6], [], [], [], [], [], []⟩
def F141 : SF := ⟨13, .seq (.region [⟨(some 4), .allocL [.int .i64 0, .str [], .int .i64 0, .sl 6 [] .exact, .int .i64 0, .int .i64 0], none, 0, 0⟩, ⟨(some 5),
  .mv (.k (.int .i64 0)), none, 0, 0⟩, ⟨(some 6), .allocL [.int .i64 0, .int .i64 0, .int .i64 0], none, 0, 0⟩] false) (.seq (.region [⟨(some 7), .mv (.t 0),
  none, 0, 0⟩, ⟨(some 8), .mv (.t 1), none, 0, 0⟩, ⟨(some 9), .call (.k (.fn (.func 106) [] [])) [(.t 7), (.t 8), (.k (.fn (.func 193) [] []))] [], none, 0, 0⟩,
   ⟨(some 10), .extract (.t 9) 0, none, 0, 0⟩, ⟨(some 11), .extract (.t 9) 1, none, 0, 0⟩, ⟨(some 12), .extract (.t 9) 2, none, 0, 0⟩, ⟨none, .store 6 (.t 4)
  (.t 10), none, 0, 0⟩, ⟨(some 5), .mv (.t 11), none, 0, 0⟩, ⟨none, .store 3 (.t 6) (.t 12), none, 0, 0⟩] false) (.ret)), [.cell 4 true 6, .tmp 5, .cell 6 true
  3], [], [], []⟩
theorem c141 : cFunc Go.Proofs.Try.prog h141 Go.Proofs.Try.f141 = some F141 := by kernel_rfl
def h78 : Hints := ⟨[2, 3], [], [0, 2, 3], [], [], [], []⟩
def B78_0b : SC := .seq (.seq (.region [⟨(some 11), .mv (.t 0), none, 0, 0⟩, ⟨(some 12), .call (.k (.fn (.func 58) [] [])) [(.t 11)] [], none, 0, 0⟩, ⟨(some
  13), .mv (.t 12), none, 0, 0⟩, ⟨(some 14), .mv (.t 0), (some (13, true)), 0, 0⟩, ⟨(some 15), .call (.k (.fn (.func 76) [] [])) [(.t 14), (.k (.int .i64 6)),
  (.k (.str [124]))] [], (some (13, true)), 0, 0⟩, ⟨(some 16), .un .not (.t 15), (some (13, true)), 0, 0⟩, ⟨(some 17), .pick (.t 13) (.t 16) (.k (.bool false)),
   none, 0, 0⟩, ⟨(some 18), .mv (.t 17), none, 0, 0⟩, ⟨(some 19), .mv (.t 0), (some (18, true)), 0, 0⟩, ⟨(some 20), .call (.k (.fn (.func 76) [] [])) [(.t 19),
  (.k (.int .i64 6)), (.k (.str [61]))] [], (some (18, true)), 0, 0⟩, ⟨(some 21), .un .not (.t 20), (some (18, true)), 0, 0⟩, ⟨(some 22), .pick (.t 18) (.t 21)
  (.k (.bool false)), none, 0, 0⟩] false) (.cond (.t 22) (.skip) (.exit 0))) (.block 1 (.region [⟨(some 23), .faddr (.t 3) 1, none, 0, 1⟩, ⟨(some 24), .load
  false 1 (.t 23) false, none, 0, 1⟩, ⟨(some 25), .mv (.t 0), none, 0, 0⟩, ⟨(some 26), .call (.k (.fn (.func 140) [] [])) [(.t 25), (.k (.fn (.func 141) []
  []))] [], none, 1, 0⟩, ⟨(some 27), .bslice 6 [.int .i64 0, .str [], .int .i64 0, .sl 6 [] .exact, .int .i64 0, .int .i64 0] 1 [(0, (.t 26))], none, 1, 1⟩,
  ⟨(some 28), .append 6 (.t 24) (.t 27), none, 1, 0⟩, ⟨(some 29), .faddr (.t 3) 1, none, 2, 2⟩, ⟨none, .store 1 (.t 29) (.t 28), none, 1, 0⟩] true))
def B78_0 : SC := B78_0b
theorem rB78_0 {Pr : Prims} {Pg : FuncId → Option SF} {keep : List Nat} {s : St} : runL Pr Pg keep B78_0 s = runL Pr Pg keep B78_0b s := rfl
def F78 : SF := ⟨49, .seq (.region [⟨(some 2), .allocL [.str [], .sl 6 [] .exact, .sl 6 [] .exact, .int .i64 0, .str [], .int .i64 0, .sl 6 [] .exact, .int
  .i64 0, .int .i64 0, .int .i64 0, .int .i64 0], none, 0, 0⟩] false) (.seq (.region [⟨(some 4), .mv (.t 0), none, 0, 0⟩, ⟨(some 5), .call (.k (.fn (.func 74)
  [] [])) [(.t 4)] [], none, 0, 0⟩, ⟨(some 6), .field (.t 5) 3 2 true, none, 0, 0⟩, ⟨(some 7), .build [.str [], .sl 6 [] .exact, .sl 6 [] .exact, .int .i64 0,
  .str [], .int .i64 0, .sl 6 [] .exact, .int .i64 0, .int .i64 0, .int .i64 0, .int .i64 0] [(9, 2, (.t 6))], none, 0, 0⟩, ⟨(some 3), .allocL [.str [], .sl 6
  [] .exact, .sl 6 [] .exact, .int .i64 0, .str [], .int .i64 0, .sl 6 [] .exact, .int .i64 0, .int .i64 0, .int .i64 0, .int .i64 0], none, 0, 0⟩, ⟨none,
  .store 11 (.t 3) (.t 7), none, 0, 0⟩] false) (.seq (.region [⟨(some 8), .mv (.t 0), none, 0, 0⟩, ⟨(some 9), .call (.k (.fn (.func 138) [] [])) [(.t 8), (.k
  (.int .i64 2))] [], none, 0, 0⟩, ⟨(some 10), .faddr (.t 3) 0, none, 0, 0⟩, ⟨none, .store 1 (.t 10) (.t 9), none, 0, 0⟩] false) (.seq (.block 0 (.loop B78_0))
  (.seq (.seq (.region [⟨(some 30), .mv (.t 0), none, 0, 0⟩, ⟨(some 31), .call (.k (.fn (.func 76) [] [])) [(.t 30), (.k (.int .i64 6)), (.k (.str [124]))] [],
  none, 0, 0⟩] false) (.cond (.t 31) (.seq (.region [⟨(some 32), .mv (.t 0), none, 0, 0⟩, ⟨(some 33), .nilchk (.t 32), none, 0, 0⟩, ⟨(some 34), .faddr (.t 33)
  1, none, 0, 0⟩, ⟨(some 35), .load false 1 (.t 34) false, none, 0, 0⟩, ⟨(some 36), .bin .add .no (.t 35) (.k (.int .i64 1)), none, 0, 0⟩, ⟨(some 37), .nilchk
  (.t 32), none, 0, 0⟩, ⟨(some 38), .faddr (.t 37) 1, none, 0, 0⟩, ⟨none, .store 1 (.t 38) (.t 36), none, 0, 0⟩] false) (.region [⟨(some 39), .mv (.t 0), none,
  0, 0⟩, ⟨(some 40), .call (.k (.fn (.func 140) [] [])) [(.t 39), (.k (.fn (.func 49) [] []))] [], none, 0, 0⟩, ⟨(some 41), .bslice 6 [.int .i64 0, .str [],
  .int .i64 0, .sl 6 [] .exact, .int .i64 0, .int .i64 0] 1 [(0, (.t 40))], none, 0, 0⟩, ⟨(some 42), .faddr (.t 3) 2, none, 0, 0⟩, ⟨none, .store 1 (.t 42) (.t
  41), none, 0, 0⟩] false)) (.skip))) (.seq (.region [⟨(some 43), .mv (.t 0), none, 0, 0⟩, ⟨(some 44), .call (.k (.fn (.func 75) [] [])) [(.t 43), (.k (.int
  .i64 6)), (.k (.str [61]))] [], none, 0, 0⟩] false) (.seq (.region [⟨(some 45), .mv (.t 0), none, 0, 0⟩, ⟨(some 46), .call (.k (.fn (.func 140) [] [])) [(.t
  45), (.k (.fn (.func 49) [] []))] [], none, 0, 0⟩, ⟨(some 47), .faddr (.t 3) 3, none, 0, 0⟩, ⟨none, .store 6 (.t 47) (.t 46), none, 0, 0⟩] false) (.seq
  (.region [⟨(some 48), .load true 11 (.t 3) false, none, 0, 0⟩, ⟨none, .store 11 (.t 2) (.t 48), none, 0, 0⟩] false) (.ret)))))))), [.cell 2 true 11], [0, 2,
  3], [], []⟩
theorem c78 : cFunc Go.Proofs.Try.prog h78 Go.Proofs.Try.f78 = some F78 := by kernel_rfl
def h25 : Hints := ⟨[2, 3, 5, 7], [], [2, 3, 6, 7], [], [], [], []⟩
def B25_0b : SC := .seq (.seq (.region [⟨(some 21), .mv (.t 6), none, 0, 0⟩, ⟨(some 22), .call (.k (.fn (.func 58) [] [])) [(.t 21)] [], none, 0, 0⟩, ⟨(some
  23), .mv (.t 22), none, 0, 0⟩, ⟨(some 24), .mv (.t 6), (some (23, true)), 0, 0⟩, ⟨(some 25), .call (.k (.fn (.func 74) [] [])) [(.t 24)] [], (some (23,
  true)), 0, 0⟩, ⟨(some 26), .field (.t 25) 0 1 false, (some (23, true)), 0, 0⟩, ⟨(some 27), .bin .neq .no (.t 26) (.k (.int .i64 0)), (some (23, true)), 0, 0⟩,
   ⟨(some 28), .pick (.t 23) (.t 27) (.k (.bool false)), none, 0, 0⟩] false) (.cond (.t 28) (.skip) (.exit 0))) (.block 1 (.seq (.region [⟨(some 29), .mv (.t
  6), none, 0, 0⟩, ⟨(some 30), .call (.k (.fn (.func 75) [] [])) [(.t 29), (.k (.int .i64 1)), (.k (.str []))] [], none, 0, 0⟩] false) (.seq (.region [⟨(some
  31), .mv (.t 6), none, 0, 0⟩, ⟨(some 32), .call (.k (.fn (.func 76) [] [])) [(.t 31), (.k (.int .i64 5)), (.k (.str [100, 97, 116, 97]))] [], none, 0, 0⟩]
  false) (.cond (.t 32) (.region [⟨(some 33), .faddr (.t 7) 0, none, 0, 1⟩, ⟨(some 34), .load false 1 (.t 33) false, none, 0, 1⟩, ⟨(some 35), .mv (.t 6), none,
  0, 0⟩, ⟨(some 36), .call (.k (.fn (.func 77) [] [])) [(.t 35)] [], none, 1, 0⟩, ⟨(some 37), .bslice 5 [.str [], .sl 1 [] .exact, .sl 4 [] .exact, .int .i64 0,
   .int .i64 0] 1 [(0, (.t 36))], none, 1, 1⟩, ⟨(some 38), .append 5 (.t 34) (.t 37), none, 1, 0⟩, ⟨(some 39), .faddr (.t 7) 0, none, 2, 2⟩, ⟨none, .store 1
  (.t 39) (.t 38), none, 1, 0⟩] true) (.region [⟨(some 40), .faddr (.t 7) 1, none, 0, 1⟩, ⟨(some 41), .load false 1 (.t 40) false, none, 0, 1⟩, ⟨(some 42), .mv
  (.t 6), none, 0, 0⟩, ⟨(some 43), .call (.k (.fn (.func 78) [] [])) [(.t 42)] [], none, 1, 0⟩, ⟨(some 44), .bslice 11 [.str [], .sl 6 [] .exact, .sl 6 []
  .exact, .int .i64 0, .str [], .int .i64 0, .sl 6 [] .exact, .int .i64 0, .int .i64 0, .int .i64 0, .int .i64 0] 1 [(0, (.t 43))], none, 1, 1⟩, ⟨(some 45),
  .append 11 (.t 41) (.t 44), none, 1, 0⟩, ⟨(some 46), .faddr (.t 7) 1, none, 2, 2⟩, ⟨none, .store 1 (.t 46) (.t 45), none, 1, 0⟩] true)))))
def B25_0 : SC := B25_0b
theorem rB25_0 {Pr : Prims} {Pg : FuncId → Option SF} {keep : List Nat} {s : St} : runL Pr Pg keep B25_0 s = runL Pr Pg keep B25_0b s := rfl
def F25 : SF := ⟨57, .seq (.region [⟨(some 2), .allocL [.sl 5 [] .exact, .sl 11 [] .exact], none, 0, 0⟩, ⟨(some 3), .allocL [.int .i64 0, .int .i64 0, .int
  .i64 0], none, 0, 0⟩] false) (.seq (.region [⟨(some 9), .mv (.t 0), none, 0, 0⟩, ⟨(some 10), .call (.k (.fn (.func 46) [] [])) [(.t 9)] [], none, 0, 0⟩,
  ⟨(some 8), .mv (.t 10), none, 0, 0⟩, ⟨(some 11), .extract (.t 8) 0, none, 0, 0⟩, ⟨(some 12), .extract (.t 8) 1, none, 0, 0⟩, ⟨(some 5), .allocL [.int .i64 0,
  .int .i64 0, .int .i64 0], none, 0, 0⟩, ⟨(some 4), .mv (.t 11), none, 0, 0⟩, ⟨none, .store 3 (.t 5) (.t 12), none, 0, 0⟩] false) (.seq (.seq (.region [⟨(some
  13), .faddr (.t 5) 0, none, 0, 0⟩, ⟨(some 14), .load false 1 (.t 13) false, none, 0, 0⟩, ⟨(some 15), .bin .neq .no (.t 14) (.k (.int .i64 0)), none, 0, 0⟩]
  false) (.cond (.t 15) (.seq (.region [⟨(some 16), .build [.sl 5 [] .exact, .sl 11 [] .exact] [], none, 0, 0⟩, ⟨(some 17), .load true 3 (.t 5) false, none, 0,
  1⟩, ⟨none, .store 2 (.t 2) (.t 16), none, 1, 0⟩, ⟨none, .store 3 (.t 3) (.t 17), none, 1, 0⟩] true) (.ret)) (.skip))) (.seq (.region [⟨(some 18), .mv (.t 4),
  none, 0, 0⟩, ⟨(some 19), .build [.sl 5 [] .exact, .int .i64 0, .int .i64 0, .int .i64 0, .int .i64 0, .int .i64 0] [(0, 1, (.t 18))], none, 0, 0⟩, ⟨(some 20),
   .boxH 6 (.t 19), none, 0, 0⟩, ⟨(some 6), .mv (.t 20), none, 0, 0⟩] false) (.seq (.region [⟨(some 7), .allocL [.sl 5 [] .exact, .sl 11 [] .exact], none, 0,
  0⟩] false) (.seq (.block 0 (.loop B25_0)) (.seq (.seq (.region [⟨(some 47), .mv (.t 6), none, 0, 0⟩, ⟨(some 48), .call (.k (.fn (.func 58) [] [])) [(.t 47)]
  [], none, 0, 0⟩, ⟨(some 49), .un .not (.t 48), none, 0, 0⟩] false) (.cond (.t 49) (.seq (.region [⟨(some 50), .build [.sl 5 [] .exact, .sl 11 [] .exact] [],
  none, 0, 0⟩, ⟨(some 51), .mv (.t 6), none, 0, 1⟩, ⟨(some 52), .nilchk (.t 51), none, 0, 1⟩, ⟨(some 53), .faddr (.t 52) 3, none, 0, 1⟩, ⟨(some 54), .load true
  3 (.t 53) false, none, 0, 1⟩, ⟨none, .store 2 (.t 2) (.t 50), none, 1, 0⟩, ⟨none, .store 3 (.t 3) (.t 54), none, 1, 0⟩] true) (.ret)) (.skip))) (.seq
  (.region [⟨(some 55), .load true 2 (.t 7) false, none, 0, 0⟩, ⟨(some 56), .build [.int .i64 0, .int .i64 0, .int .i64 0] [], none, 0, 0⟩, ⟨none, .store 2 (.t
  2) (.t 55), none, 0, 0⟩, ⟨none, .store 3 (.t 3) (.t 56), none, 0, 0⟩] false) (.ret)))))))), [.cell 2 true 2, .cell 3 true 3], [2, 3, 6, 7], [], []⟩
theorem c25 : cFunc Go.Proofs.Try.prog h25 Go.Proofs.Try.f25 = some F25 := by kernel_rfl
def h27 : Hints := ⟨[1, 5], [], [3, 10, 11, 12], [], [], [], []⟩
def B27_0b : SC := .seq (.region [⟨(some 13), .bin .lss .no (.t 12) (.t 11), none, 0, 0⟩] false) (.seq (.cond (.t 13) (.skip) (.exit 0)) (.seq (.block 1 (.seq
  (.region [⟨(some 14), .iaddr 5 (.t 10) (.t 12), none, 0, 0⟩, ⟨(some 15), .load true 5 (.t 14) false, none, 0, 0⟩, ⟨(some 5), .allocL [.str [], .sl 1 []
  .exact, .sl 4 [] .exact, .int .i64 0, .int .i64 0], none, 0, 0⟩, ⟨none, .store 5 (.t 5) (.t 15), none, 0, 0⟩] false) (.region [⟨(some 16), .mv (.t 3), none,
  0, 0⟩, ⟨(some 17), .faddr (.t 5) 2, none, 0, 0⟩, ⟨(some 18), .load false 1 (.t 17) false, none, 0, 0⟩, ⟨(some 19), .len false (.t 18), none, 0, 0⟩, ⟨(some
  20), .bin .add .no (.t 16) (.t 19), none, 0, 0⟩, ⟨(some 3), .mv (.t 20), none, 0, 0⟩] false))) (.region [⟨(some 21), .bin .add .no (.t 12) (.k (.int .i64 1)),
   none, 0, 0⟩, ⟨(some 12), .mv (.t 21), none, 0, 0⟩] false)))
def B27_0 : SC := B27_0b
theorem rB27_0 {Pr : Prims} {Pg : FuncId → Option SF} {keep : List Nat} {s : St} : runL Pr Pg keep B27_0 s = runL Pr Pg keep B27_0b s := rfl
def F27 : SF := ⟨23, .seq (.region [⟨(some 1), .boxL 2 (.t 0), none, 0, 0⟩, ⟨(some 2), .mv (.k (.int .i64 0)), none, 0, 0⟩] false) (.seq (.region [⟨(some 6),
  .faddr (.t 1) 1, none, 0, 0⟩, ⟨(some 7), .load false 1 (.t 6) false, none, 0, 0⟩, ⟨(some 8), .len false (.t 7), none, 0, 0⟩, ⟨(some 3), .mv (.t 8), none, 0,
  0⟩] false) (.seq (.seq (.region [⟨(some 9), .faddr (.t 1) 0, none, 0, 0⟩, ⟨(some 10), .load false 1 (.t 9) false, none, 0, 0⟩, ⟨(some 11), .len false (.t 10),
   none, 0, 0⟩, ⟨(some 12), .mv (.k (.int .i64 0)), none, 0, 0⟩] false) (.block 0 (.loop B27_0))) (.seq (.region [⟨(some 22), .mv (.t 3), none, 0, 0⟩, ⟨(some
  2), .mv (.t 22), none, 0, 0⟩] false) (.ret)))), [.tmp 2], [3, 10, 11, 12], [], []⟩
theorem c27 : cFunc Go.Proofs.Try.prog h27 Go.Proofs.Try.f27 = some F27 := by kernel_rfl
def h14 : Hints := ⟨[1, 2], [], [], [], [], [], []⟩
def F14 : SF := ⟨30, .seq (.region [⟨(some 0), .mv (.k (.bool false)), none, 0, 0⟩] false) (.seq (.region [⟨(some 4), .call (.k (.fn (.func 25) [] [])) [(.k
  (.str [100, 97, 116, 97, 32, 78, 32, 61, 32, 90, 32, 124, 32, 83, 32, 78]))] [], none, 0, 0⟩, ⟨(some 3), .mv (.t 4), none, 0, 0⟩, ⟨(some 5), .extract (.t 3)
  0, none, 0, 0⟩, ⟨(some 6), .extract (.t 3) 1, none, 0, 0⟩, ⟨(some 1), .allocL [.sl 5 [] .exact, .sl 11 [] .exact], none, 0, 0⟩, ⟨(some 2), .allocL [.int .i64
  0, .int .i64 0, .int .i64 0], none, 0, 0⟩, ⟨none, .store 2 (.t 1) (.t 5), none, 0, 0⟩, ⟨none, .store 3 (.t 2) (.t 6), none, 0, 0⟩] false) (.seq (.region
  [⟨(some 7), .faddr (.t 2) 0, none, 0, 0⟩, ⟨(some 8), .load false 1 (.t 7) false, none, 0, 0⟩, ⟨(some 9), .bin .eql .no (.t 8) (.k (.int .i64 0)), none, 0, 0⟩,
   ⟨(some 10), .mv (.t 9), none, 0, 0⟩, ⟨(some 11), .faddr (.t 1) 0, (some (10, true)), 0, 0⟩, ⟨(some 12), .load false 1 (.t 11) false, (some (10, true)), 0,
  0⟩, ⟨(some 13), .len false (.t 12), (some (10, true)), 0, 0⟩, ⟨(some 14), .bin .eql .no (.t 13) (.k (.int .i64 1)), (some (10, true)), 0, 0⟩, ⟨(some 15),
  .pick (.t 10) (.t 14) (.k (.bool false)), none, 0, 0⟩, ⟨(some 16), .mv (.t 15), none, 0, 0⟩, ⟨(some 17), .faddr (.t 1) 0, (some (16, true)), 0, 0⟩, ⟨(some
  18), .load false 1 (.t 17) false, (some (16, true)), 0, 0⟩, ⟨(some 19), .iaddr 5 (.t 18) (.k (.int .i64 0)), (some (16, true)), 0, 0⟩, ⟨(some 20), .faddr (.t
  19) 2, (some (16, true)), 0, 0⟩, ⟨(some 21), .load false 1 (.t 20) false, (some (16, true)), 0, 0⟩, ⟨(some 22), .len false (.t 21), (some (16, true)), 0, 0⟩,
  ⟨(some 23), .bin .eql .no (.t 22) (.k (.int .i64 2)), (some (16, true)), 0, 0⟩, ⟨(some 24), .pick (.t 16) (.t 23) (.k (.bool false)), none, 0, 0⟩, ⟨(some 25),
   .mv (.t 24), none, 0, 0⟩, ⟨(some 26), .load true 2 (.t 1) false, (some (25, true)), 0, 0⟩, ⟨(some 27), .call (.k (.fn (.func 27) [] [])) [(.t 26)] [], (some
  (25, true)), 0, 0⟩, ⟨(some 28), .bin .eql .no (.t 27) (.k (.int .i64 2)), (some (25, true)), 0, 0⟩, ⟨(some 29), .pick (.t 25) (.t 28) (.k (.bool false)),
  none, 0, 0⟩, ⟨(some 0), .mv (.t 29), none, 0, 0⟩] false) (.ret))), [.tmp 0], [], [], []⟩
theorem c14 : cFunc Go.Proofs.Try.prog h14 Go.Proofs.Try.f14 = some F14 := by kernel_rfl
def h15 : Hints := ⟨[1, 5], [], [3, 9, 10, 11], [], [], [], []⟩
def B15_0b : SC := .seq (.region [⟨(some 12), .bin .lss .no (.t 11) (.t 10), none, 0, 0⟩] false) (.seq (.cond (.t 12) (.skip) (.exit 0)) (.seq (.block 1 (.seq
  (.region [⟨(some 13), .iaddr 4 (.t 9) (.t 11), none, 0, 0⟩, ⟨(some 14), .load true 4 (.t 13) false, none, 0, 0⟩, ⟨(some 5), .allocL [.int .i64 0, .str [],
  .int .i64 0, .sl 4 [] .exact], none, 0, 0⟩, ⟨none, .store 4 (.t 5) (.t 14), none, 0, 0⟩] false) (.region [⟨(some 15), .mv (.t 3), none, 0, 0⟩, ⟨(some 16),
  .load true 4 (.t 5) false, none, 0, 0⟩, ⟨(some 17), .call (.k (.fn (.func 15) [] [])) [(.t 16)] [], none, 0, 0⟩, ⟨(some 18), .append 4 (.t 15) (.t 17), none,
  0, 0⟩, ⟨(some 3), .mv (.t 18), none, 0, 0⟩] false))) (.region [⟨(some 19), .bin .add .no (.t 11) (.k (.int .i64 1)), none, 0, 0⟩, ⟨(some 11), .mv (.t 19),
  none, 0, 0⟩] false)))
def B15_0 : SC := B15_0b
theorem rB15_0 {Pr : Prims} {Pg : FuncId → Option SF} {keep : List Nat} {s : St} : runL Pr Pg keep B15_0 s = runL Pr Pg keep B15_0b s := rfl
def F15 : SF := ⟨21, .seq (.region [⟨(some 1), .boxL 4 (.t 0), none, 0, 0⟩, ⟨(some 2), .mv (.k (.sl 4 [] .exact)), none, 0, 0⟩] false) (.seq (.region [⟨(some
  6), .load true 4 (.t 1) false, none, 0, 0⟩, ⟨(some 7), .bslice 4 [.int .i64 0, .str [], .int .i64 0, .sl 4 [] .exact] 1 [(0, (.t 6))], none, 0, 0⟩, ⟨(some 3),
   .mv (.t 7), none, 0, 0⟩] false) (.seq (.seq (.region [⟨(some 8), .faddr (.t 1) 3, none, 0, 0⟩, ⟨(some 9), .load false 1 (.t 8) false, none, 0, 0⟩, ⟨(some
  10), .len false (.t 9), none, 0, 0⟩, ⟨(some 11), .mv (.k (.int .i64 0)), none, 0, 0⟩] false) (.block 0 (.loop B15_0))) (.seq (.region [⟨(some 20), .mv (.t 3),
   none, 0, 0⟩, ⟨(some 2), .mv (.t 20), none, 0, 0⟩] false) (.ret)))), [.tmp 2], [3, 9, 10, 11], [], []⟩
theorem c15 : cFunc Go.Proofs.Try.prog h15 Go.Proofs.Try.f15 = some F15 := by kernel_rfl
def h16 : Hints := ⟨[4, 6, 8], [], [], [], [], [], []⟩
def F16 : SF := ⟨30, .seq (.region [⟨(some 4), .allocL [.int .i64 0, .str [], .int .i64 0, .sl 4 [] .exact], none, 0, 0⟩, ⟨(some 5), .mv (.k (.int .i64 0)),
  none, 0, 0⟩, ⟨(some 6), .allocL [.int .i64 0, .int .i64 0, .int .i64 0], none, 0, 0⟩] false) (.seq (.region [⟨(some 9), .mv (.t 0), none, 0, 0⟩, ⟨(some 10),
  .mv (.t 1), none, 0, 0⟩, ⟨(some 11), .mnmx true [(.t 10), (.k (.int .i64 0))], none, 0, 0⟩, ⟨(some 12), .build [.sl 5 [] .exact, .int .i64 0, .int .i64 0,
  .int .i64 0, .int .i64 0, .int .i64 0] [(0, 1, (.t 9)), (1, 1, (.t 11))], none, 0, 0⟩, ⟨(some 13), .boxH 6 (.t 12), none, 0, 0⟩, ⟨(some 7), .mv (.t 13), none,
   0, 0⟩] false) (.seq (.region [⟨(some 14), .mv (.t 7), none, 0, 0⟩, ⟨(some 15), .call (.k (.fn (.func 57) [] [])) [(.t 14)] [], none, 0, 0⟩, ⟨(some 8),
  .allocL [.int .i64 0, .str [], .int .i64 0, .sl 4 [] .exact], none, 0, 0⟩, ⟨none, .store 4 (.t 8) (.t 15), none, 0, 0⟩] false) (.seq (.seq (.region [⟨(some
  16), .mv (.t 7), none, 0, 0⟩, ⟨(some 17), .call (.k (.fn (.func 58) [] [])) [(.t 16)] [], none, 0, 0⟩, ⟨(some 18), .un .not (.t 17), none, 0, 0⟩] false)
  (.cond (.t 18) (.seq (.region [⟨(some 19), .build [.int .i64 0, .str [], .int .i64 0, .sl 4 [] .exact] [], none, 0, 0⟩, ⟨(some 20), .mv (.t 7), none, 0, 1⟩,
  ⟨(some 21), .nilchk (.t 20), none, 0, 1⟩, ⟨(some 22), .faddr (.t 21) 3, none, 0, 1⟩, ⟨(some 23), .load true 3 (.t 22) false, none, 0, 1⟩, ⟨none, .store 4 (.t
  4) (.t 19), none, 1, 0⟩, ⟨(some 5), .mv (.k (.int .i64 0)), none, 1, 1⟩, ⟨none, .store 3 (.t 6) (.t 23), none, 1, 0⟩] true) (.ret)) (.skip))) (.seq (.region
  [⟨(some 24), .load true 4 (.t 8) false, none, 0, 0⟩, ⟨(some 25), .mv (.t 7), none, 0, 1⟩, ⟨(some 26), .nilchk (.t 25), none, 0, 1⟩, ⟨(some 27), .faddr (.t
  26) 1, none, 0, 1⟩, ⟨(some 28), .load false 1 (.t 27) false, none, 0, 1⟩, ⟨(some 29), .build [.int .i64 0, .int .i64 0, .int .i64 0] [], none, 0, 1⟩, ⟨none,
  .store 4 (.t 4) (.t 24), none, 1, 0⟩, ⟨(some 5), .mv (.t 28), none, 1, 1⟩, ⟨none, .store 3 (.t 6) (.t 29), none, 1, 0⟩] true) (.ret))))), [.cell 4 true 4,
  .tmp 5, .cell 6 true 3], [], [], []⟩
theorem c16 : cFunc Go.Proofs.Try.prog h16 Go.Proofs.Try.f16 = some F16 := by kernel_rfl
def h63 : Hints := ⟨[1, 2], [], [], [], [], [], []⟩
def F63 : SF := ⟨30, .seq (.region [⟨(some 1), .boxL 6 (.t 0), none, 0, 0⟩, ⟨(some 2), .allocL [.int .i64 0, .str [], .int .i64 0, .int .i64 0, .int .i64 0],
  none, 0, 0⟩] false) (.seq (.seq (.region [⟨(some 3), .faddr (.t 1) 1, none, 0, 0⟩, ⟨(some 4), .load false 1 (.t 3) false, none, 0, 0⟩, ⟨(some 5), .faddr (.t
  1) 0, none, 0, 0⟩, ⟨(some 6), .load false 1 (.t 5) false, none, 0, 0⟩, ⟨(some 7), .len false (.t 6), none, 0, 0⟩, ⟨(some 8), .bin .lss .no (.t 4) (.t 7),
  none, 0, 0⟩] false) (.cond (.t 8) (.seq (.region [⟨(some 9), .faddr (.t 1) 0, none, 0, 0⟩, ⟨(some 10), .load false 1 (.t 9) false, none, 0, 0⟩, ⟨(some 11),
  .faddr (.t 1) 1, none, 0, 0⟩, ⟨(some 12), .load false 1 (.t 11) false, none, 0, 0⟩, ⟨(some 13), .iaddr 5 (.t 10) (.t 12), none, 0, 0⟩, ⟨(some 14), .load true
  5 (.t 13) false, none, 0, 0⟩, ⟨none, .store 5 (.t 2) (.t 14), none, 0, 0⟩] false) (.ret)) (.skip))) (.seq (.seq (.region [⟨(some 15), .faddr (.t 1) 0, none,
  0, 0⟩, ⟨(some 16), .load false 1 (.t 15) false, none, 0, 0⟩, ⟨(some 17), .len false (.t 16), none, 0, 0⟩, ⟨(some 18), .bin .gtr .no (.t 17) (.k (.int .i64
  0)), none, 0, 0⟩] false) (.cond (.t 18) (.seq (.region [⟨(some 19), .faddr (.t 1) 0, none, 0, 0⟩, ⟨(some 20), .load false 1 (.t 19) false, none, 0, 0⟩,
  ⟨(some 21), .faddr (.t 1) 0, none, 0, 0⟩, ⟨(some 22), .load false 1 (.t 21) false, none, 0, 0⟩, ⟨(some 23), .len false (.t 22), none, 0, 0⟩, ⟨(some 24), .bin
  .sub .no (.t 23) (.k (.int .i64 1)), none, 0, 0⟩, ⟨(some 25), .iaddr 5 (.t 20) (.t 24), none, 0, 0⟩, ⟨(some 26), .faddr (.t 25) 3, none, 0, 0⟩, ⟨(some 27),
  .load true 2 (.t 26) false, none, 0, 0⟩, ⟨(some 28), .build [.int .i64 0, .str [], .int .i64 0, .int .i64 0, .int .i64 0] [(0, 1, (.k (.int .i64 (-1)))), (3,
  2, (.t 27))], none, 0, 0⟩, ⟨none, .store 5 (.t 2) (.t 28), none, 0, 0⟩] false) (.ret)) (.skip))) (.seq (.region [⟨(some 29), .build [.int .i64 0, .str [],
  .int .i64 0, .int .i64 0, .int .i64 0] [(0, 1, (.k (.int .i64 (-1))))], none, 0, 0⟩, ⟨none, .store 5 (.t 2) (.t 29), none, 0, 0⟩] false) (.ret)))), [.cell 2
  true 5], [], [], []⟩
theorem c63 : cFunc Go.Proofs.Try.prog h63 Go.Proofs.Try.f63 = some F63 := by kernel_rfl
def h65 : Hints := ⟨[3], [], [], [], [], [], []⟩
def F65 : SF := ⟨24, .seq (.region [⟨(some 3), .boxL 6 (.t 0), none, 0, 0⟩, ⟨(some 6), .mv (.k (.bool false)), none, 0, 0⟩] false) (.seq (.region [⟨(some 7),
  .faddr (.t 3) 3, none, 0, 0⟩, ⟨(some 8), .load false 1 (.t 7) false, none, 0, 0⟩, ⟨(some 9), .un .not (.t 8), none, 0, 0⟩, ⟨(some 10), .mv (.t 9), none, 0,
  0⟩, ⟨(some 11), .load true 6 (.t 3) false, (some (10, true)), 0, 0⟩, ⟨(some 12), .call (.k (.fn (.func 63) [] [])) [(.t 11)] [], (some (10, true)), 0, 0⟩,
  ⟨(some 13), .field (.t 12) 0 1 false, (some (10, true)), 0, 0⟩, ⟨(some 14), .mv (.t 1), (some (10, true)), 0, 0⟩, ⟨(some 15), .bin .eql .no (.t 13) (.t 14),
  (some (10, true)), 0, 0⟩, ⟨(some 16), .pick (.t 10) (.t 15) (.k (.bool false)), none, 0, 0⟩, ⟨(some 17), .mv (.t 16), none, 0, 0⟩, ⟨(some 18), .load true 6
  (.t 3) false, (some (17, true)), 0, 0⟩, ⟨(some 19), .call (.k (.fn (.func 63) [] [])) [(.t 18)] [], (some (17, true)), 0, 0⟩, ⟨(some 20), .field (.t 19) 1 1
  false, (some (17, true)), 0, 0⟩, ⟨(some 21), .mv (.t 2), (some (17, true)), 0, 0⟩, ⟨(some 22), .bin .eql .no (.t 20) (.t 21), (some (17, true)), 0, 0⟩,
  ⟨(some 23), .pick (.t 17) (.t 22) (.k (.bool false)), none, 0, 0⟩, ⟨(some 6), .mv (.t 23), none, 0, 0⟩] false) (.ret)), [.tmp 6], [], [], []⟩
theorem c65 : cFunc Go.Proofs.Try.prog h65 Go.Proofs.Try.f65 = some F65 := by kernel_rfl
def h87 : Hints := ⟨[1, 2], [], [], [], [], [], []⟩
def F87 : SF := ⟨12, .seq (.region [⟨(some 1), .boxL 6 (.t 0), none, 0, 0⟩, ⟨(some 2), .allocL [.sl 5 [] .exact, .int .i64 0, .int .i64 0, .bool false, .int
  .i64 0, .int .i64 0], none, 0, 0⟩] false) (.seq (.seq (.region [⟨(some 3), .faddr (.t 1) 3, none, 0, 0⟩, ⟨(some 4), .load false 1 (.t 3) false, none, 0, 0⟩,
  ⟨(some 5), .un .not (.t 4), none, 0, 0⟩] false) (.cond (.t 5) (.region [⟨(some 6), .load true 6 (.t 1) false, none, 0, 0⟩, ⟨(some 7), .call (.k (.fn (.func
  63) [] [])) [(.t 6)] [], none, 0, 0⟩, ⟨(some 8), .field (.t 7) 3 2 true, none, 0, 0⟩, ⟨(some 9), .faddr (.t 1) 4, none, 0, 0⟩, ⟨none, .store 2 (.t 9) (.t 8),
  none, 0, 0⟩] false) (.skip))) (.seq (.region [⟨(some 10), .faddr (.t 1) 3, none, 0, 0⟩, ⟨none, .store 1 (.t 10) (.k (.bool true)), none, 0, 0⟩] false) (.seq
  (.region [⟨(some 11), .load true 6 (.t 1) false, none, 0, 0⟩, ⟨none, .store 6 (.t 2) (.t 11), none, 0, 0⟩] false) (.ret)))), [.cell 2 true 6], [], [], []⟩
theorem c87 : cFunc Go.Proofs.Try.prog h87 Go.Proofs.Try.f87 = some F87 := by kernel_rfl
def h64 : Hints := ⟨[3, 6], [], [], [], [], [], []⟩
def F64 : SF := ⟨19, .seq (.region [⟨(some 3), .boxL 6 (.t 0), none, 0, 0⟩, ⟨(some 6), .allocL [.sl 5 [] .exact, .int .i64 0, .int .i64 0, .bool false, .int
  .i64 0, .int .i64 0], none, 0, 0⟩] false) (.seq (.seq (.region [⟨(some 7), .load true 6 (.t 3) false, none, 0, 0⟩, ⟨(some 8), .mv (.t 1), none, 0, 0⟩, ⟨(some
  9), .mv (.t 2), none, 0, 0⟩, ⟨(some 10), .call (.k (.fn (.func 65) [] [])) [(.t 7), (.t 8), (.t 9)] [], none, 0, 0⟩, ⟨(some 11), .un .not (.t 10), none, 0,
  0⟩] false) (.cond (.t 11) (.seq (.region [⟨(some 12), .load true 6 (.t 3) false, none, 0, 0⟩, ⟨(some 13), .call (.k (.fn (.func 87) [] [])) [(.t 12)] [],
  none, 0, 0⟩, ⟨none, .store 6 (.t 6) (.t 13), none, 0, 0⟩] false) (.ret)) (.skip))) (.seq (.region [⟨(some 14), .faddr (.t 3) 1, none, 0, 0⟩, ⟨(some 15),
  .load false 1 (.t 14) false, none, 0, 0⟩, ⟨(some 16), .bin .add .no (.t 15) (.k (.int .i64 1)), none, 0, 0⟩, ⟨(some 17), .faddr (.t 3) 1, none, 0, 0⟩, ⟨none,
  .store 1 (.t 17) (.t 16), none, 0, 0⟩] false) (.seq (.region [⟨(some 18), .load true 6 (.t 3) false, none, 0, 0⟩, ⟨none, .store 6 (.t 6) (.t 18), none, 0,
  0⟩] false) (.ret)))), [.cell 6 true 6], [], [], []⟩
theorem c64 : cFunc Go.Proofs.Try.prog h64 Go.Proofs.Try.f64 = some F64 := by kernel_rfl
def h117 : Hints := ⟨[1, 2, 5, 6], [], [1, 2, 4], [], [], [], []⟩
def B117_0b : SC := .seq (.seq (.region [⟨(some 7), .faddr (.t 1) 3, none, 0, 0⟩, ⟨(some 8), .load false 1 (.t 7) false, none, 0, 0⟩, ⟨(some 9), .un .not (.t
  8), none, 0, 0⟩, ⟨(some 10), .mv (.t 9), none, 0, 0⟩, ⟨(some 11), .load true 6 (.t 1) false, (some (10, true)), 0, 0⟩, ⟨(some 12), .call (.k (.fn (.func 63)
  [] [])) [(.t 11)] [], (some (10, true)), 0, 0⟩, ⟨(some 13), .field (.t 12) 0 1 false, (some (10, true)), 0, 0⟩, ⟨(some 14), .bin .eql .no (.t 13) (.k (.int
  .i64 2)), (some (10, true)), 0, 0⟩, ⟨(some 15), .mv (.t 14), (some (10, true)), 0, 0⟩, ⟨(some 16), .load true 6 (.t 1) false, (some (15, false)), 0, 0⟩,
  ⟨(some 17), .call (.k (.fn (.func 63) [] [])) [(.t 16)] [], (some (15, false)), 0, 0⟩, ⟨(some 18), .field (.t 17) 0 1 false, (some (15, false)), 0, 0⟩,
  ⟨(some 19), .bin .eql .no (.t 18) (.k (.int .i64 3)), (some (15, false)), 0, 0⟩, ⟨(some 20), .pick (.t 15) (.k (.bool true)) (.t 19), (some (10, true)), 0,
  0⟩, ⟨(some 21), .mv (.t 20), (some (10, true)), 0, 0⟩, ⟨(some 22), .load true 6 (.t 1) false, (some (21, false)), 0, 0⟩, ⟨(some 23), .call (.k (.fn (.func
  65) [] [])) [(.t 22), (.k (.int .i64 6)), (.k (.str [40]))] [], (some (21, false)), 0, 0⟩, ⟨(some 24), .pick (.t 21) (.k (.bool true)) (.t 23), (some (10,
  true)), 0, 0⟩, ⟨(some 25), .pick (.t 10) (.t 24) (.k (.bool false)), none, 0, 0⟩] false) (.cond (.t 25) (.skip) (.exit 0))) (.block 1 (.seq (.region [⟨(some
  27), .load true 6 (.t 1) false, none, 0, 0⟩, ⟨(some 28), .call (.k (.fn (.func 59) [] [])) [(.t 27), (.k (.bool true))] [], none, 0, 0⟩, ⟨(some 26), .mv (.t
  28), none, 0, 0⟩, ⟨(some 29), .extract (.t 26) 0, none, 0, 0⟩, ⟨(some 30), .extract (.t 26) 1, none, 0, 0⟩, ⟨(some 5), .allocL [.sl 5 [] .exact, .int .i64 0,
  .int .i64 0, .bool false, .int .i64 0, .int .i64 0], none, 0, 0⟩, ⟨(some 6), .allocL [.int .i64 0, .str [], .int .i64 0, .sl 4 [] .exact], none, 0, 0⟩, ⟨none,
   .store 6 (.t 5) (.t 29), none, 0, 0⟩, ⟨none, .store 4 (.t 6) (.t 30), none, 0, 0⟩] false) (.seq (.region [⟨(some 31), .load true 6 (.t 5) false, none, 0, 0⟩,
   ⟨none, .store 6 (.t 1) (.t 31), none, 0, 0⟩] false) (.region [⟨(some 32), .mv (.t 4), none, 0, 0⟩, ⟨(some 33), .load true 4 (.t 6) false, none, 0, 0⟩,
  ⟨(some 34), .bslice 4 [.int .i64 0, .str [], .int .i64 0, .sl 4 [] .exact] 1 [(0, (.t 33))], none, 0, 0⟩, ⟨(some 35), .append 4 (.t 32) (.t 34), none, 0, 0⟩,
  ⟨(some 4), .mv (.t 35), none, 0, 0⟩] false))))
def B117_0 : SC := B117_0b
theorem rB117_0 {Pr : Prims} {Pg : FuncId → Option SF} {keep : List Nat} {s : St} : runL Pr Pg keep B117_0 s = runL Pr Pg keep B117_0b s := rfl
def F117 : SF := ⟨38, .seq (.region [⟨(some 1), .boxL 6 (.t 0), none, 0, 0⟩, ⟨(some 2), .allocL [.sl 5 [] .exact, .int .i64 0, .int .i64 0, .bool false, .int
  .i64 0, .int .i64 0], none, 0, 0⟩, ⟨(some 3), .mv (.k (.sl 4 [] .exact)), none, 0, 0⟩] false) (.seq (.region [⟨(some 4), .mv (.k (.sl 4 [] .exact)), none, 0,
  0⟩] false) (.seq (.block 0 (.loop B117_0)) (.seq (.region [⟨(some 36), .load true 6 (.t 1) false, none, 0, 0⟩, ⟨(some 37), .mv (.t 4), none, 0, 0⟩, ⟨none,
  .store 6 (.t 2) (.t 36), none, 0, 0⟩, ⟨(some 3), .mv (.t 37), none, 0, 0⟩] false) (.ret)))), [.cell 2 true 6, .tmp 3], [1, 2, 4], [], []⟩
theorem c117 : cFunc Go.Proofs.Try.prog h117 Go.Proofs.Try.f117 = some F117 := by kernel_rfl
def h118 : Hints := ⟨[1, 2], [], [], [], [], [], []⟩
def F118 : SF := ⟨17, .seq (.region [⟨(some 1), .boxL 6 (.t 0), none, 0, 0⟩, ⟨(some 2), .allocL [.sl 5 [] .exact, .int .i64 0, .int .i64 0, .bool false, .int
  .i64 0, .int .i64 0], none, 0, 0⟩] false) (.seq (.seq (.region [⟨(some 3), .faddr (.t 1) 2, none, 0, 0⟩, ⟨(some 4), .load false 1 (.t 3) false, none, 0, 0⟩,
  ⟨(some 5), .bin .geq .no (.t 4) (.k (.int .i64 40)), none, 0, 0⟩] false) (.cond (.t 5) (.seq (.region [⟨(some 6), .load true 6 (.t 1) false, none, 0, 0⟩,
  ⟨(some 7), .call (.k (.fn (.func 87) [] [])) [(.t 6)] [], none, 0, 0⟩, ⟨none, .store 6 (.t 2) (.t 7), none, 0, 0⟩] false) (.ret)) (.skip))) (.seq (.region
  [⟨(some 8), .faddr (.t 1) 2, none, 0, 0⟩, ⟨(some 9), .load false 1 (.t 8) false, none, 0, 0⟩, ⟨(some 10), .bin .add .no (.t 9) (.k (.int .i64 1)), none, 0,
  0⟩, ⟨(some 11), .faddr (.t 1) 2, none, 0, 0⟩, ⟨none, .store 1 (.t 11) (.t 10), none, 0, 0⟩] false) (.seq (.region [⟨(some 12), .faddr (.t 1) 1, none, 0, 0⟩,
  ⟨(some 13), .load false 1 (.t 12) false, none, 0, 0⟩, ⟨(some 14), .bin .add .no (.t 13) (.k (.int .i64 1)), none, 0, 0⟩, ⟨(some 15), .faddr (.t 1) 1, none, 0,
   0⟩, ⟨none, .store 1 (.t 15) (.t 14), none, 0, 0⟩] false) (.seq (.region [⟨(some 16), .load true 6 (.t 1) false, none, 0, 0⟩, ⟨none, .store 6 (.t 2) (.t 16),
  none, 0, 0⟩] false) (.ret))))), [.cell 2 true 6], [], [], []⟩
theorem c118 : cFunc Go.Proofs.Try.prog h118 Go.Proofs.Try.f118 = some F118 := by kernel_rfl
def h59 : Hints := ⟨[2, 4, 5, 6, 7, 8, 10, 11], [], [], [], [], [], []⟩
def F59 : SF := ⟨70, .seq (.region [⟨(some 2), .boxL 6 (.t 0), none, 0, 0⟩, ⟨(some 4), .allocL [.sl 5 [] .exact, .int .i64 0, .int .i64 0, .bool false, .int
  .i64 0, .int .i64 0], none, 0, 0⟩, ⟨(some 5), .allocL [.int .i64 0, .str [], .int .i64 0, .sl 4 [] .exact], none, 0, 0⟩] false) (.seq (.region [⟨(some 12),
  .load true 6 (.t 2) false, none, 0, 0⟩, ⟨(some 13), .call (.k (.fn (.func 63) [] [])) [(.t 12)] [], none, 0, 0⟩, ⟨(some 6), .allocL [.int .i64 0, .str [],
  .int .i64 0, .int .i64 0, .int .i64 0], none, 0, 0⟩, ⟨none, .store 5 (.t 6) (.t 13), none, 0, 0⟩] false) (.seq (.seq (.region [⟨(some 14), .faddr (.t 2) 3,
  none, 0, 0⟩, ⟨(some 15), .load false 1 (.t 14) false, none, 0, 0⟩] false) (.cond (.t 15) (.seq (.region [⟨(some 16), .load true 6 (.t 2) false, none, 0, 0⟩,
  ⟨(some 17), .build [.int .i64 0, .str [], .int .i64 0, .sl 4 [] .exact] [], none, 0, 0⟩, ⟨none, .store 6 (.t 4) (.t 16), none, 0, 0⟩, ⟨none, .store 4 (.t 5)
  (.t 17), none, 0, 0⟩] false) (.ret)) (.skip))) (.seq (.region [⟨(some 18), .faddr (.t 6) 0, none, 0, 0⟩, ⟨(some 19), .load false 1 (.t 18) false, none, 0,
  0⟩] false) (.block 0 (.seq (.region [⟨(some 40), .bin .eql .no (.t 19) (.k (.int .i64 2)), none, 0, 0⟩, ⟨(some 39), .mv (.t 40), none, 0, 0⟩] false) (.cond
  (.t 39) (.seq (.region [⟨(some 41), .faddr (.t 2) 1, none, 0, 0⟩, ⟨(some 42), .load false 1 (.t 41) false, none, 0, 0⟩, ⟨(some 43), .bin .add .no (.t 42) (.k
  (.int .i64 1)), none, 0, 0⟩, ⟨(some 44), .faddr (.t 2) 1, none, 0, 0⟩, ⟨none, .store 1 (.t 44) (.t 43), none, 0, 0⟩] false) (.seq (.region [⟨(some 45), .load
  true 6 (.t 2) false, none, 0, 0⟩, ⟨(some 46), .faddr (.t 6) 1, none, 0, 1⟩, ⟨(some 47), .load false 1 (.t 46) false, none, 0, 1⟩, ⟨(some 48), .build [.int
  .i64 0, .str [], .int .i64 0, .sl 4 [] .exact] [(0, 1, (.k (.int .i64 1))), (1, 1, (.t 47))], none, 0, 1⟩, ⟨none, .store 6 (.t 4) (.t 45), none, 1, 0⟩, ⟨none,
   .store 4 (.t 5) (.t 48), none, 1, 0⟩] true) (.ret))) (.seq (.region [⟨(some 50), .bin .eql .no (.t 19) (.k (.int .i64 3)), none, 0, 0⟩, ⟨(some 49), .mv (.t
  50), none, 0, 0⟩] false) (.cond (.t 49) (.seq (.region [⟨(some 51), .faddr (.t 2) 1, none, 0, 0⟩, ⟨(some 52), .load false 1 (.t 51) false, none, 0, 0⟩,
  ⟨(some 53), .bin .add .no (.t 52) (.k (.int .i64 1)), none, 0, 0⟩, ⟨(some 54), .faddr (.t 2) 1, none, 0, 0⟩, ⟨none, .store 1 (.t 54) (.t 53), none, 0, 0⟩]
  false) (.seq (.region [⟨(some 55), .faddr (.t 6) 1, none, 0, 0⟩, ⟨(some 56), .load false 1 (.t 55) false, none, 0, 0⟩, ⟨(some 57), .build [.int .i64 0, .str
  [], .int .i64 0, .sl 4 [] .exact] [(0, 1, (.k (.int .i64 2))), (1, 1, (.t 56))], none, 0, 0⟩, ⟨(some 7), .allocL [.int .i64 0, .str [], .int .i64 0, .sl 4 []
  .exact], none, 0, 0⟩, ⟨none, .store 4 (.t 7) (.t 57), none, 0, 0⟩] false) (.seq (.seq (.region [⟨(some 58), .mv (.t 1), none, 0, 0⟩, ⟨(some 59), .un .not (.t
  58), none, 0, 0⟩] false) (.cond (.t 59) (.seq (.region [⟨(some 61), .load true 6 (.t 2) false, none, 0, 0⟩, ⟨(some 62), .call (.k (.fn (.func 117) [] []))
  [(.t 61)] [], none, 0, 0⟩, ⟨(some 60), .mv (.t 62), none, 0, 0⟩, ⟨(some 63), .extract (.t 60) 0, none, 0, 0⟩, ⟨(some 64), .extract (.t 60) 1, none, 0, 0⟩,
  ⟨(some 8), .allocL [.sl 5 [] .exact, .int .i64 0, .int .i64 0, .bool false, .int .i64 0, .int .i64 0], none, 0, 0⟩, ⟨none, .store 6 (.t 8) (.t 63), none, 0,
  0⟩, ⟨(some 9), .mv (.t 64), none, 0, 0⟩] false) (.seq (.region [⟨(some 65), .load true 6 (.t 8) false, none, 0, 0⟩, ⟨none, .store 6 (.t 2) (.t 65), none, 0,
  0⟩] false) (.region [⟨(some 66), .mv (.t 9), none, 0, 0⟩, ⟨(some 67), .faddr (.t 7) 3, none, 0, 0⟩, ⟨none, .store 1 (.t 67) (.t 66), none, 0, 0⟩] false)))
  (.skip))) (.seq (.region [⟨(some 68), .load true 6 (.t 2) false, none, 0, 0⟩, ⟨(some 69), .load true 4 (.t 7) false, none, 0, 1⟩, ⟨none, .store 6 (.t 4) (.t
  68), none, 1, 0⟩, ⟨none, .store 4 (.t 5) (.t 69), none, 1, 0⟩] true) (.ret))))) (.seq (.seq (.region [⟨(some 20), .load true 6 (.t 2) false, none, 0, 0⟩,
  ⟨(some 21), .call (.k (.fn (.func 65) [] [])) [(.t 20), (.k (.int .i64 6)), (.k (.str [40]))] [], none, 0, 0⟩, ⟨(some 22), .un .not (.t 21), none, 0, 0⟩]
  false) (.cond (.t 22) (.seq (.region [⟨(some 23), .load true 6 (.t 2) false, none, 0, 0⟩, ⟨(some 24), .call (.k (.fn (.func 87) [] [])) [(.t 23)] [], none, 0,
   0⟩, ⟨(some 25), .build [.int .i64 0, .str [], .int .i64 0, .sl 4 [] .exact] [], none, 0, 0⟩, ⟨none, .store 6 (.t 4) (.t 24), none, 0, 0⟩, ⟨none, .store 4
  (.t 5) (.t 25), none, 0, 0⟩] false) (.ret)) (.skip))) (.seq (.region [⟨(some 27), .load true 6 (.t 2) false, none, 0, 0⟩, ⟨(some 28), .call (.k (.fn (.func
  118) [] [])) [(.t 27)] [], none, 0, 0⟩, ⟨(some 29), .call (.k (.fn (.func 59) [] [])) [(.t 28), (.k (.bool false))] [], none, 0, 0⟩, ⟨(some 26), .mv (.t 29),
  none, 0, 0⟩, ⟨(some 30), .extract (.t 26) 0, none, 0, 0⟩, ⟨(some 31), .extract (.t 26) 1, none, 0, 0⟩, ⟨(some 10), .allocL [.sl 5 [] .exact, .int .i64 0,
  .int .i64 0, .bool false, .int .i64 0, .int .i64 0], none, 0, 0⟩, ⟨(some 11), .allocL [.int .i64 0, .str [], .int .i64 0, .sl 4 [] .exact], none, 0, 0⟩,
  ⟨none, .store 6 (.t 10) (.t 30), none, 0, 0⟩, ⟨none, .store 4 (.t 11) (.t 31), none, 0, 0⟩] false) (.seq (.region [⟨(some 32), .load true 6 (.t 10) false,
  none, 0, 0⟩, ⟨(some 33), .call (.k (.fn (.func 64) [] [])) [(.t 32), (.k (.int .i64 6)), (.k (.str [41]))] [], none, 0, 0⟩, ⟨none, .store 6 (.t 10) (.t 33),
  none, 0, 0⟩] false) (.seq (.region [⟨(some 34), .faddr (.t 2) 2, none, 0, 0⟩, ⟨(some 35), .load false 1 (.t 34) false, none, 0, 0⟩, ⟨(some 36), .faddr (.t
  10) 2, none, 0, 0⟩, ⟨none, .store 1 (.t 36) (.t 35), none, 0, 0⟩] false) (.seq (.region [⟨(some 37), .load true 6 (.t 10) false, none, 0, 0⟩, ⟨(some 38),
  .load true 4 (.t 11) false, none, 0, 1⟩, ⟨none, .store 6 (.t 4) (.t 37), none, 1, 0⟩, ⟨none, .store 4 (.t 5) (.t 38), none, 1, 0⟩] true) (.ret)))))))))))))),
  [.cell 4 true 6, .cell 5 true 4], [], [], []⟩
theorem c59 : cFunc Go.Proofs.Try.prog h59 Go.Proofs.Try.f59 = some F59 := by kernel_rfl
def h17 : Hints := ⟨[1, 2, 3], [], [], [], [], [], []⟩
def F17 : SF := ⟨8, .seq (.region [⟨(some 1), .boxL 6 (.t 0), none, 0, 0⟩, ⟨(some 2), .allocL [.sl 5 [] .exact, .int .i64 0, .int .i64 0, .bool false, .int
  .i64 0, .int .i64 0], none, 0, 0⟩, ⟨(some 3), .allocL [.int .i64 0, .str [], .int .i64 0, .sl 4 [] .exact], none, 0, 0⟩] false) (.seq (.region [⟨(some 4),
  .load true 6 (.t 1) false, none, 0, 0⟩, ⟨(some 5), .call (.k (.fn (.func 59) [] [])) [(.t 4), (.k (.bool false))] [], none, 0, 0⟩, ⟨(some 6), .extract (.t 5)
  0, none, 0, 0⟩, ⟨(some 7), .extract (.t 5) 1, none, 0, 0⟩, ⟨none, .store 6 (.t 2) (.t 6), none, 0, 0⟩, ⟨none, .store 4 (.t 3) (.t 7), none, 0, 0⟩] false)
  (.ret)), [.cell 2 true 6, .cell 3 true 4], [], [], []⟩
theorem c17 : cFunc Go.Proofs.Try.prog h17 Go.Proofs.Try.f17 = some F17 := by kernel_rfl
def h60 : Hints := ⟨[8, 9], [], [1, 2, 15, 16, 17], [], [], [], []⟩
def B60_0b : SC := .seq (.region [⟨(some 18), .bin .lss .no (.t 17) (.t 16), none, 0, 0⟩] false) (.seq (.cond (.t 18) (.skip) (.exit 0)) (.seq (.block 1 (.seq
  (.region [⟨(some 19), .mv (.t 17), none, 0, 0⟩, ⟨(some 20), .iaddr 4 (.t 15) (.t 17), none, 0, 0⟩, ⟨(some 21), .load true 4 (.t 20) false, none, 0, 0⟩,
  ⟨(some 8), .allocL [.int .i64 0, .str [], .int .i64 0, .sl 4 [] .exact], none, 0, 0⟩, ⟨(some 7), .mv (.t 19), none, 0, 0⟩, ⟨none, .store 4 (.t 8) (.t 21),
  none, 0, 0⟩] false) (.seq (.region [⟨(some 22), .mv (.t 1), none, 0, 0⟩, ⟨(some 23), .mv (.t 7), none, 0, 0⟩, ⟨(some 24), .iaddr 4 (.t 22) (.t 23), none, 0,
  0⟩, ⟨(some 25), .load true 4 (.t 24) false, none, 0, 0⟩, ⟨(some 9), .allocL [.int .i64 0, .str [], .int .i64 0, .sl 4 [] .exact], none, 0, 0⟩, ⟨none, .store
  4 (.t 9) (.t 25), none, 0, 0⟩] false) (.seq (.region [⟨(some 26), .mv (.t 2), none, 0, 0⟩, ⟨(some 27), .load true 4 (.t 8) false, none, 0, 0⟩, ⟨(some 28),
  .load true 4 (.t 9) false, none, 0, 0⟩, ⟨(some 29), .call (.t 26) [(.t 27), (.t 28)] [], none, 0, 0⟩, ⟨(some 30), .un .not (.t 29), none, 0, 0⟩] false)
  (.cond (.t 30) (.seq (.region [⟨(some 6), .mv (.k (.bool false)), none, 0, 0⟩] false) (.ret)) (.skip)))))) (.region [⟨(some 31), .bin .add .no (.t 17) (.k
  (.int .i64 1)), none, 0, 0⟩, ⟨(some 17), .mv (.t 31), none, 0, 0⟩] false)))
def B60_0 : SC := B60_0b
theorem rB60_0 {Pr : Prims} {Pg : FuncId → Option SF} {keep : List Nat} {s : St} : runL Pr Pg keep B60_0 s = runL Pr Pg keep B60_0b s := rfl
def F60 : SF := ⟨32, .seq (.region [⟨(some 6), .mv (.k (.bool false)), none, 0, 0⟩] false) (.seq (.seq (.region [⟨(some 10), .mv (.t 0), none, 0, 0⟩, ⟨(some
  11), .len false (.t 10), none, 0, 0⟩, ⟨(some 12), .mv (.t 1), none, 0, 0⟩, ⟨(some 13), .len false (.t 12), none, 0, 0⟩, ⟨(some 14), .bin .neq .no (.t 11) (.t
  13), none, 0, 0⟩] false) (.cond (.t 14) (.seq (.region [⟨(some 6), .mv (.k (.bool false)), none, 0, 0⟩] false) (.ret)) (.skip))) (.seq (.seq (.region [⟨(some
  15), .mv (.t 0), none, 0, 0⟩, ⟨(some 16), .len false (.t 15), none, 0, 0⟩, ⟨(some 17), .mv (.k (.int .i64 0)), none, 0, 0⟩] false) (.block 0 (.loop B60_0)))
  (.seq (.region [⟨(some 6), .mv (.k (.bool true)), none, 0, 0⟩] false) (.ret)))), [.tmp 6], [1, 2, 15, 16, 17], [], []⟩
theorem c60 : cFunc Go.Proofs.Try.prog h60 Go.Proofs.Try.f60 = some F60 := by kernel_rfl
def h18 : Hints := ⟨[2, 3], [], [], [], [], [], []⟩
def F18 : SF := ⟨31, .seq (.region [⟨(some 2), .boxL 4 (.t 0), none, 0, 0⟩, ⟨(some 3), .boxL 4 (.t 1), none, 0, 0⟩, ⟨(some 4), .mv (.k (.bool false)), none, 0,
  0⟩] false) (.seq (.region [⟨(some 5), .faddr (.t 2) 0, none, 0, 0⟩, ⟨(some 6), .load false 1 (.t 5) false, none, 0, 0⟩, ⟨(some 7), .faddr (.t 3) 0, none, 0,
  0⟩, ⟨(some 8), .load false 1 (.t 7) false, none, 0, 0⟩, ⟨(some 9), .bin .eql .no (.t 6) (.t 8), none, 0, 0⟩, ⟨(some 10), .mv (.t 9), none, 0, 0⟩, ⟨(some 11),
  .faddr (.t 2) 1, (some (10, true)), 0, 0⟩, ⟨(some 12), .load false 1 (.t 11) false, (some (10, true)), 0, 0⟩, ⟨(some 13), .faddr (.t 3) 1, (some (10, true)),
  0, 0⟩, ⟨(some 14), .load false 1 (.t 13) false, (some (10, true)), 0, 0⟩, ⟨(some 15), .bin .eql .no (.t 12) (.t 14), (some (10, true)), 0, 0⟩, ⟨(some 16),
  .pick (.t 10) (.t 15) (.k (.bool false)), none, 0, 0⟩, ⟨(some 17), .mv (.t 16), none, 0, 0⟩, ⟨(some 18), .faddr (.t 2) 2, (some (17, true)), 0, 0⟩, ⟨(some
  19), .load false 1 (.t 18) false, (some (17, true)), 0, 0⟩, ⟨(some 20), .faddr (.t 3) 2, (some (17, true)), 0, 0⟩, ⟨(some 21), .load false 1 (.t 20) false,
  (some (17, true)), 0, 0⟩, ⟨(some 22), .bin .eql .no (.t 19) (.t 21), (some (17, true)), 0, 0⟩, ⟨(some 23), .pick (.t 17) (.t 22) (.k (.bool false)), none, 0,
  0⟩, ⟨(some 24), .mv (.t 23), none, 0, 0⟩, ⟨(some 25), .faddr (.t 2) 3, (some (24, true)), 0, 0⟩, ⟨(some 26), .load false 1 (.t 25) false, (some (24, true)),
  0, 0⟩, ⟨(some 27), .faddr (.t 3) 3, (some (24, true)), 0, 0⟩, ⟨(some 28), .load false 1 (.t 27) false, (some (24, true)), 0, 0⟩, ⟨(some 29), .call (.k (.fn
  (.func 60) [] [])) [(.t 26), (.t 28), (.k (.fn (.func 18) [] []))] [], (some (24, true)), 0, 0⟩, ⟨(some 30), .pick (.t 24) (.t 29) (.k (.bool false)), none,
  0, 0⟩, ⟨(some 4), .mv (.t 30), none, 0, 0⟩] false) (.ret)), [.tmp 4], [], [], []⟩
theorem c18 : cFunc Go.Proofs.Try.prog h18 Go.Proofs.Try.f18 = some F18 := by kernel_rfl
def h19 : Hints := ⟨[2, 3], [], [2, 3, 36, 37], [], [], [], []⟩
def B19_0b : SC := .seq (.region [⟨(some 38), .bin .lss .no (.t 37) (.t 36), none, 0, 0⟩] false) (.seq (.cond (.t 38) (.skip) (.exit 0)) (.seq (.block 1 (.seq
  (.region [⟨(some 39), .mv (.t 37), none, 0, 0⟩, ⟨(some 5), .mv (.t 39), none, 0, 0⟩] false) (.seq (.region [⟨(some 40), .faddr (.t 2) 3, none, 0, 0⟩, ⟨(some
  41), .load false 1 (.t 40) false, none, 0, 0⟩, ⟨(some 42), .mv (.t 5), none, 0, 0⟩, ⟨(some 43), .iaddr 4 (.t 41) (.t 42), none, 0, 0⟩, ⟨(some 44), .load true
  4 (.t 43) false, none, 0, 0⟩, ⟨(some 45), .faddr (.t 3) 3, none, 0, 0⟩, ⟨(some 46), .load false 1 (.t 45) false, none, 0, 0⟩, ⟨(some 47), .mv (.t 5), none, 0,
   0⟩, ⟨(some 48), .iaddr 4 (.t 46) (.t 47), none, 0, 0⟩, ⟨(some 49), .load true 4 (.t 48) false, none, 0, 0⟩, ⟨(some 50), .call (.k (.fn (.func 19) [] []))
  [(.t 44), (.t 49)] [], none, 1, 0⟩, ⟨(some 51), .un .not (.t 50), none, 1, 1⟩] true) (.cond (.t 51) (.seq (.region [⟨(some 4), .mv (.k (.bool false)), none,
  0, 0⟩] false) (.ret)) (.skip))))) (.region [⟨(some 52), .bin .add .no (.t 37) (.k (.int .i64 1)), none, 0, 0⟩, ⟨(some 37), .mv (.t 52), none, 0, 0⟩] false)))
def B19_0 : SC := B19_0b
theorem rB19_0 {Pr : Prims} {Pg : FuncId → Option SF} {keep : List Nat} {s : St} : runL Pr Pg keep B19_0 s = runL Pr Pg keep B19_0b s := rfl
def F19 : SF := ⟨53, .seq (.region [⟨(some 2), .boxL 4 (.t 0), none, 0, 0⟩, ⟨(some 3), .boxL 4 (.t 1), none, 0, 0⟩, ⟨(some 4), .mv (.k (.bool false)), none, 0,
  0⟩] false) (.seq (.seq (.region [⟨(some 6), .faddr (.t 2) 0, none, 0, 0⟩, ⟨(some 7), .load false 1 (.t 6) false, none, 0, 0⟩, ⟨(some 8), .faddr (.t 3) 0,
  none, 0, 0⟩, ⟨(some 9), .load false 1 (.t 8) false, none, 0, 0⟩, ⟨(some 10), .bin .neq .no (.t 7) (.t 9), none, 0, 0⟩, ⟨(some 11), .mv (.t 10), none, 0, 0⟩,
  ⟨(some 12), .faddr (.t 2) 1, (some (11, false)), 0, 0⟩, ⟨(some 13), .load false 1 (.t 12) false, (some (11, false)), 0, 0⟩, ⟨(some 14), .faddr (.t 3) 1,
  (some (11, false)), 0, 0⟩, ⟨(some 15), .load false 1 (.t 14) false, (some (11, false)), 0, 0⟩, ⟨(some 16), .bin .neq .no (.t 13) (.t 15), (some (11, false)),
  0, 0⟩, ⟨(some 17), .pick (.t 11) (.k (.bool true)) (.t 16), none, 0, 0⟩, ⟨(some 18), .mv (.t 17), none, 0, 0⟩, ⟨(some 19), .faddr (.t 2) 2, (some (18,
  false)), 0, 0⟩, ⟨(some 20), .load false 1 (.t 19) false, (some (18, false)), 0, 0⟩, ⟨(some 21), .faddr (.t 3) 2, (some (18, false)), 0, 0⟩, ⟨(some 22), .load
  false 1 (.t 21) false, (some (18, false)), 0, 0⟩, ⟨(some 23), .bin .neq .no (.t 20) (.t 22), (some (18, false)), 0, 0⟩, ⟨(some 24), .pick (.t 18) (.k (.bool
  true)) (.t 23), none, 0, 0⟩, ⟨(some 25), .mv (.t 24), none, 0, 0⟩, ⟨(some 26), .faddr (.t 2) 3, (some (25, false)), 0, 0⟩, ⟨(some 27), .load false 1 (.t 26)
  false, (some (25, false)), 0, 0⟩, ⟨(some 28), .len false (.t 27), (some (25, false)), 0, 0⟩, ⟨(some 29), .faddr (.t 3) 3, (some (25, false)), 0, 0⟩, ⟨(some
  30), .load false 1 (.t 29) false, (some (25, false)), 0, 0⟩, ⟨(some 31), .len false (.t 30), (some (25, false)), 0, 0⟩, ⟨(some 32), .bin .neq .no (.t 28) (.t
  31), (some (25, false)), 0, 0⟩, ⟨(some 33), .pick (.t 25) (.k (.bool true)) (.t 32), none, 0, 0⟩] false) (.cond (.t 33) (.seq (.region [⟨(some 4), .mv (.k
  (.bool false)), none, 0, 0⟩] false) (.ret)) (.skip))) (.seq (.seq (.region [⟨(some 34), .faddr (.t 2) 3, none, 0, 0⟩, ⟨(some 35), .load false 1 (.t 34) false,
   none, 0, 0⟩, ⟨(some 36), .len false (.t 35), none, 0, 0⟩, ⟨(some 37), .mv (.k (.int .i64 0)), none, 0, 0⟩] false) (.block 0 (.loop B19_0))) (.seq (.region
  [⟨(some 4), .mv (.k (.bool true)), none, 0, 0⟩] false) (.ret)))), [.tmp 4], [2, 3, 36, 37], [], []⟩
theorem c19 : cFunc Go.Proofs.Try.prog h19 Go.Proofs.Try.f19 = some F19 := by kernel_rfl
def h4 : Hints := ⟨[6, 7, 9, 11, 12, 13], [], [], [], [], [], []⟩
def F4 : SF := ⟨90, .seq (.region [⟨(some 6), .boxL 4 (.t 2), none, 0, 0⟩, ⟨(some 7), .boxL 4 (.t 3), none, 0, 0⟩, ⟨(some 8), .mv (.k (.bool false)), none, 0,
  0⟩] false) (.seq (.seq (.region [⟨(some 14), .call (.k (.fn (.func 14) [] [])) [] [], none, 0, 0⟩, ⟨(some 15), .un .not (.t 14), none, 0, 0⟩] false) (.cond
  (.t 15) (.seq (.region [⟨(some 8), .mv (.k (.bool false)), none, 0, 0⟩] false) (.ret)) (.skip))) (.seq (.seq (.region [⟨(some 16), .mv (.t 0), none, 0, 0⟩,
  ⟨(some 17), .len false (.t 16), none, 0, 0⟩, ⟨(some 18), .bin .gtr .no (.t 17) (.k (.int .i64 200)), none, 0, 0⟩, ⟨(some 19), .mv (.t 18), none, 0, 0⟩,
  ⟨(some 20), .mv (.t 1), (some (19, false)), 0, 0⟩, ⟨(some 21), .bin .gtr .no (.t 20) (.k (.int .i64 300)), (some (19, false)), 0, 0⟩, ⟨(some 22), .pick (.t
  19) (.k (.bool true)) (.t 21), none, 0, 0⟩, ⟨(some 23), .mv (.t 22), none, 0, 0⟩, ⟨(some 24), .load true 4 (.t 6) false, (some (23, false)), 0, 0⟩, ⟨(some
  25), .call (.k (.fn (.func 15) [] [])) [(.t 24)] [], (some (23, false)), 0, 0⟩, ⟨(some 26), .len false (.t 25), (some (23, false)), 0, 0⟩, ⟨(some 27), .bin
  .gtr .no (.t 26) (.k (.int .i64 100)), (some (23, false)), 0, 0⟩, ⟨(some 28), .pick (.t 23) (.k (.bool true)) (.t 27), none, 0, 0⟩, ⟨(some 29), .mv (.t 28),
  none, 0, 0⟩, ⟨(some 30), .load true 4 (.t 7) false, (some (29, false)), 0, 0⟩, ⟨(some 31), .call (.k (.fn (.func 15) [] [])) [(.t 30)] [], (some (29, false)),
   0, 0⟩, ⟨(some 32), .len false (.t 31), (some (29, false)), 0, 0⟩, ⟨(some 33), .bin .gtr .no (.t 32) (.k (.int .i64 100)), (some (29, false)), 0, 0⟩, ⟨(some
  34), .pick (.t 29) (.k (.bool true)) (.t 33), none, 0, 0⟩] false) (.cond (.t 34) (.seq (.region [⟨(some 8), .mv (.k (.bool true)), none, 0, 0⟩] false)
  (.ret)) (.skip))) (.seq (.region [⟨(some 36), .mv (.t 0), none, 0, 0⟩, ⟨(some 37), .mv (.t 1), none, 0, 0⟩, ⟨(some 38), .call (.k (.fn (.func 16) [] []))
  [(.t 36), (.t 37)] [], none, 0, 0⟩, ⟨(some 35), .mv (.t 38), none, 0, 0⟩, ⟨(some 39), .extract (.t 35) 0, none, 0, 0⟩, ⟨(some 40), .extract (.t 35) 1, none,
  0, 0⟩, ⟨(some 41), .extract (.t 35) 2, none, 0, 0⟩, ⟨(some 9), .allocL [.int .i64 0, .str [], .int .i64 0, .sl 4 [] .exact], none, 0, 0⟩, ⟨(some 11), .allocL
  [.int .i64 0, .int .i64 0, .int .i64 0], none, 0, 0⟩, ⟨none, .store 4 (.t 9) (.t 39), none, 0, 0⟩, ⟨(some 10), .mv (.t 40), none, 0, 0⟩, ⟨none, .store 3 (.t
  11) (.t 41), none, 0, 0⟩] false) (.seq (.region [⟨(some 43), .mv (.t 0), none, 0, 0⟩, ⟨(some 44), .mv (.t 1), none, 0, 0⟩, ⟨(some 45), .mnmx true [(.t 44),
  (.k (.int .i64 0))], none, 0, 0⟩, ⟨(some 46), .build [.sl 5 [] .exact, .int .i64 0, .int .i64 0, .bool false, .int .i64 0, .int .i64 0] [(0, 1, (.t 43)), (1,
  1, (.t 45))], none, 0, 0⟩, ⟨(some 47), .call (.k (.fn (.func 17) [] [])) [(.t 46)] [], none, 0, 0⟩, ⟨(some 42), .mv (.t 47), none, 0, 0⟩, ⟨(some 48),
  .extract (.t 42) 0, none, 0, 0⟩, ⟨(some 49), .extract (.t 42) 1, none, 0, 0⟩, ⟨(some 12), .allocL [.sl 5 [] .exact, .int .i64 0, .int .i64 0, .bool false,
  .int .i64 0, .int .i64 0], none, 0, 0⟩, ⟨(some 13), .allocL [.int .i64 0, .str [], .int .i64 0, .sl 4 [] .exact], none, 0, 0⟩, ⟨none, .store 6 (.t 12) (.t
  48), none, 0, 0⟩, ⟨none, .store 4 (.t 13) (.t 49), none, 0, 0⟩] false) (.seq (.seq (.region [⟨(some 50), .load true 4 (.t 6) false, none, 0, 0⟩, ⟨(some 51),
  .load true 4 (.t 7) false, none, 0, 0⟩, ⟨(some 52), .call (.k (.fn (.func 18) [] [])) [(.t 50), (.t 51)] [], none, 0, 0⟩, ⟨(some 53), .load true 4 (.t 6)
  false, none, 0, 1⟩, ⟨(some 54), .load true 4 (.t 7) false, none, 0, 1⟩, ⟨(some 55), .call (.k (.fn (.func 19) [] [])) [(.t 53), (.t 54)] [], none, 1, 0⟩,
  ⟨(some 56), .bin .neq .bool (.t 52) (.t 55), none, 2, 2⟩, ⟨(some 57), .mv (.t 56), none, 2, 2⟩, ⟨(some 58), .faddr (.t 12) 3, (some (57, false)), 2, 2⟩,
  ⟨(some 59), .load false 1 (.t 58) false, (some (57, false)), 2, 2⟩, ⟨(some 60), .faddr (.t 11) 0, (some (57, false)), 2, 2⟩, ⟨(some 61), .load false 1 (.t
  60) false, (some (57, false)), 2, 2⟩, ⟨(some 62), .bin .eql .no (.t 61) (.k (.int .i64 1)), (some (57, false)), 2, 2⟩, ⟨(some 63), .bin .neq .bool (.t 59)
  (.t 62), (some (57, false)), 2, 2⟩, ⟨(some 64), .pick (.t 57) (.k (.bool true)) (.t 63), none, 2, 2⟩] true) (.cond (.t 64) (.seq (.region [⟨(some 8), .mv (.k
  (.bool false)), none, 0, 0⟩] false) (.ret)) (.skip))) (.seq (.seq (.region [⟨(some 65), .faddr (.t 12) 3, none, 0, 0⟩, ⟨(some 66), .load false 1 (.t 65)
  false, none, 0, 0⟩] false) (.cond (.t 66) (.seq (.region [⟨(some 67), .faddr (.t 11) 1, none, 0, 0⟩, ⟨(some 68), .load true 2 (.t 67) false, none, 0, 0⟩,
  ⟨(some 69), .faddr (.t 12) 4, none, 0, 0⟩, ⟨(some 70), .load true 2 (.t 69) false, none, 0, 0⟩, ⟨(some 71), .bin .eql (.st [0, 0]) (.t 68) (.t 70), none, 0,
  0⟩, ⟨(some 72), .mv (.t 71), none, 0, 0⟩, ⟨(some 73), .mv (.t 10), (some (72, true)), 0, 0⟩, ⟨(some 74), .bin .eql .no (.t 73) (.k (.int .i64 0)), (some (72,
  true)), 0, 0⟩, ⟨(some 75), .pick (.t 72) (.t 74) (.k (.bool false)), none, 0, 0⟩, ⟨(some 76), .mv (.t 75), none, 0, 0⟩, ⟨(some 77), .faddr (.t 9) 0, (some
  (76, true)), 0, 0⟩, ⟨(some 78), .load false 1 (.t 77) false, (some (76, true)), 0, 0⟩, ⟨(some 79), .bin .eql .no (.t 78) (.k (.int .i64 0)), (some (76,
  true)), 0, 0⟩, ⟨(some 80), .pick (.t 76) (.t 79) (.k (.bool false)), none, 0, 0⟩, ⟨(some 8), .mv (.t 80), none, 0, 0⟩] false) (.ret)) (.skip))) (.seq
  (.region [⟨(some 81), .mv (.t 10), none, 0, 0⟩, ⟨(some 82), .faddr (.t 12) 1, none, 0, 0⟩, ⟨(some 83), .load false 1 (.t 82) false, none, 0, 0⟩, ⟨(some 84),
  .bin .eql .no (.t 81) (.t 83), none, 0, 0⟩, ⟨(some 85), .mv (.t 84), none, 0, 0⟩, ⟨(some 86), .load true 4 (.t 9) false, (some (85, true)), 0, 0⟩, ⟨(some 87),
   .load true 4 (.t 13) false, (some (85, true)), 0, 0⟩, ⟨(some 88), .call (.k (.fn (.func 19) [] [])) [(.t 86), (.t 87)] [], (some (85, true)), 0, 0⟩, ⟨(some
  89), .pick (.t 85) (.t 88) (.k (.bool false)), none, 0, 0⟩, ⟨(some 8), .mv (.t 89), none, 0, 0⟩] false) (.ret)))))))), [.tmp 8], [], [], []⟩
theorem c4 : cFunc Go.Proofs.Try.prog h4 Go.Proofs.Try.f4 = some F4 := by kernel_rfl
def tab : FuncId → Option SF
  | 155 => some F155
  | 205 => some F205
  | 156 => some F156
  | 206 => some F206
  | 157 => some F157
  | 102 => some F102
  | 69 => some F69
  | 130 => some F130
  | 207 => some F207
  | 230 => some F230
  | 208 => some F208
  | 209 => some F209
  | 158 => some F158
  | 159 => some F159
  | 112 => some F112
  | 54 => some F54
  | 160 => some F160
  | 161 => some F161
  | 103 => some F103
  | 104 => some F104
  | 46 => some F46
  | 58 => some F58
  | 74 => some F74
  | 76 => some F76
  | 137 => some F137
  | 75 => some F75
  | 138 => some F138
  | 57 => some F57
  | 116 => some F116
  | 173 => some F173
  | 115 => some F115
  | 139 => some F139
  | 77 => some F77
  | 162 => some F162
  | 106 => some F106
  | 163 => some F163
  | 164 => some F164
  | 210 => some F210
  | 165 => some F165
  | 166 => some F166
  | 168 => some F168
  | 211 => some F211
  | 167 => some F167
  | 113 => some F113
  | 223 => some F223
  | 235 => some F235
  | 236 => some F236
  | 231 => some F231
  | 212 => some F212
  | 169 => some F169
  | 108 => some F108
  | 107 => some F107
  | 49 => some F49
  | 140 => some F140
  | 194 => some F194
  | 193 => some F193
  | 141 => some F141
  | 78 => some F78
  | 25 => some F25
  | 27 => some F27
  | 14 => some F14
  | 15 => some F15
  | 16 => some F16
  | 63 => some F63
  | 65 => some F65
  | 87 => some F87
  | 64 => some F64
  | 117 => some F117
  | 118 => some F118
  | 59 => some F59
  | 17 => some F17
  | 60 => some F60
  | 18 => some F18
  | 19 => some F19
  | 4 => some F4
  | _ => none
end Go.Proofs.Ytgaleaihhhdlgaa.Pm
