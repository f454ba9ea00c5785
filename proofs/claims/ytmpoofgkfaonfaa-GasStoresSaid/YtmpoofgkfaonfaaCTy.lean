/- What each type of the program is. -/
import Derived.Test.YtmpoofgkfaonfaaVc
import Derived.Test.YtmpoofgkfaonfaaProg
import Derived.KernelRfl
namespace Go.Vm.C19
open Go Go.Proofs
set_option maxRecDepth 100000
@[go_sem] theorem t2 : tyOf Try.prog 8 2 = some Ty.i := by kernel_rfl
@[go_sem] theorem t3 : tyOf Try.prog 8 3 = some Ty.i := by kernel_rfl
@[go_sem] theorem t4 : tyOf Try.prog 8 4 = some Ty.b := by kernel_rfl
@[go_sem] theorem t5 : tyOf Try.prog 8 5 = some (Ty.u 8) := by kernel_rfl
@[go_sem] theorem t6 : tyOf Try.prog 8 6 = some (Ty.u 8) := by kernel_rfl
@[go_sem] theorem t7 : tyOf Try.prog 8 7 = some (Ty.st [Ty.i, Ty.i, Ty.b, Ty.u 8]) := by kernel_rfl
@[go_sem] theorem t8 : tyOf Try.prog 8 8 = some (Ty.st [Ty.i, Ty.i, Ty.b, Ty.u 8]) := by kernel_rfl
@[go_sem] theorem t9 : tyOf Try.prog 8 9 = some Ty.s := by kernel_rfl
@[go_sem] theorem t10 : tyOf Try.prog 8 10 = some Ty.s := by kernel_rfl
@[go_sem] theorem t11 : tyOf Try.prog 8 11 = some Ty.s := by kernel_rfl
@[go_sem] theorem t12 : tyOf Try.prog 8 12 = some (Ty.u 64) := by kernel_rfl
@[go_sem] theorem t13 : tyOf Try.prog 8 13 = some (Ty.st [Ty.s, Ty.u 64]) := by kernel_rfl
@[go_sem] theorem t14 : tyOf Try.prog 8 14 = some (Ty.st [Ty.s, Ty.u 64]) := by kernel_rfl
@[go_sem] theorem t15 : tyOf Try.prog 8 15 = some Ty.p := by kernel_rfl
@[go_sem] theorem t16 : tyOf Try.prog 8 16 = some Ty.p := by kernel_rfl
@[go_sem] theorem t17 : tyOf Try.prog 8 17 = some Ty.p := by kernel_rfl
@[go_sem] theorem t18 : tyOf Try.prog 8 18 = some (Ty.st [Ty.p]) := by kernel_rfl
@[go_sem] theorem t19 : tyOf Try.prog 8 19 = some (Ty.st [Ty.p]) := by kernel_rfl
@[go_sem] theorem t22 : tyOf Try.prog 8 22 = some (Ty.u 64) := by kernel_rfl
@[go_sem] theorem t23 : tyOf Try.prog 8 23 = some (Ty.arr 4 (Ty.u 64)) := by kernel_rfl
@[go_sem] theorem t24 : tyOf Try.prog 8 24 = some (Ty.arr 4 (Ty.u 64)) := by kernel_rfl
@[go_sem] theorem t30 : tyOf Try.prog 8 30 = some (Ty.arr 3 (Ty.u 64)) := by kernel_rfl
@[go_sem] theorem t39 : tyOf Try.prog 8 39 = some (Ty.arr 2 (Ty.u 64)) := by kernel_rfl
@[go_sem] theorem t47 : tyOf Try.prog 8 47 = some (Ty.arr 3 (Ty.arr 4 (Ty.u 64))) := by kernel_rfl
@[go_sem] theorem t52 : tyOf Try.prog 8 52 = some (Ty.arr 5 (Ty.u 64)) := by kernel_rfl
@[go_sem] theorem t56 : tyOf Try.prog 8 56 = some (Ty.u 64).sl := by kernel_rfl
@[go_sem] theorem t59 : tyOf Try.prog 8 59 = some (Ty.u 32).sl := by kernel_rfl
@[go_sem] theorem t60 : tyOf Try.prog 8 60 = some (Ty.u 32).sl := by kernel_rfl
@[go_sem] theorem t61 : tyOf Try.prog 8 61 = some Ty.i := by kernel_rfl
@[go_sem] theorem t68 : tyOf Try.prog 8 68 = some (Ty.u 32) := by kernel_rfl
@[go_sem] theorem t69 : tyOf Try.prog 8 69 = some (Ty.u 8).sl := by kernel_rfl
@[go_sem] theorem t76 : tyOf Try.prog 8 76 = some (Ty.u 64) := by kernel_rfl
@[go_sem] theorem t87 : tyOf Try.prog 8 87 = some (Ty.arr 32 (Ty.u 8)) := by kernel_rfl
@[go_sem] theorem t99 : tyOf Try.prog 8 99 = some Ty.p := by kernel_rfl
@[go_sem] theorem t101 : tyOf Try.prog 8 101 = some (Ty.st [Ty.p, Ty.p, Ty.p, Ty.s]) := by kernel_rfl
@[go_sem] theorem t102 : tyOf Try.prog 8 102 = some (Ty.st [Ty.p, Ty.p, Ty.p, Ty.s]) := by kernel_rfl
@[go_sem] theorem t103 : tyOf Try.prog 8 103 = some (Ty.arr 0 Ty.p) := by kernel_rfl
@[go_sem] theorem t104 : tyOf Try.prog 8 104 = some (Ty.st [Ty.arr 0 Ty.p]) := by kernel_rfl
@[go_sem] theorem t105 : tyOf Try.prog 8 105 = some (Ty.st [Ty.arr 0 Ty.p]) := by kernel_rfl
@[go_sem] theorem t107 : tyOf Try.prog 8 107 = some (Ty.u 8) := by kernel_rfl
@[go_sem] theorem t108 : tyOf Try.prog 8 108 = some (Ty.u 8) := by kernel_rfl
@[go_sem] theorem t110 : tyOf Try.prog 8 110 = some Ty.p := by kernel_rfl
@[go_sem] theorem t115 : tyOf Try.prog 8 115 = some (Ty.st [Ty.s]) := by kernel_rfl
@[go_sem] theorem t116 : tyOf Try.prog 8 116 = some (Ty.st [Ty.s]) := by kernel_rfl
theorem hmix : Try.prog.follows .mixedOrders = true := by kernel_rfl
end Go.Vm.C19
