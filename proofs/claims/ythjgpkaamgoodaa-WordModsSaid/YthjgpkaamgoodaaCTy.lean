/- What each type of the program is. -/
import Derived.Test.YthjgpkaamgoodaaVc
import Derived.Test.YthjgpkaamgoodaaProg
import Derived.KernelRfl
namespace Go.Vm.C01
open Go Go.Proofs
set_option maxRecDepth 100000
@[go_sem] theorem t2 : tyOf Try.prog 8 2 = some Ty.i := by kernel_rfl
@[go_sem] theorem t3 : tyOf Try.prog 8 3 = some Ty.i := by kernel_rfl
@[go_sem] theorem t4 : tyOf Try.prog 8 4 = some Ty.b := by kernel_rfl
@[go_sem] theorem t5 : tyOf Try.prog 8 5 = some (Ty.u 8) := by kernel_rfl
@[go_sem] theorem t6 : tyOf Try.prog 8 6 = some (Ty.u 8) := by kernel_rfl
@[go_sem] theorem t7 : tyOf Try.prog 8 7 = some (Ty.st [Ty.i, Ty.i, Ty.b, Ty.u 8]) := by kernel_rfl
@[go_sem] theorem t8 : tyOf Try.prog 8 8 = some (Ty.st [Ty.i, Ty.i, Ty.b, Ty.u 8]) := by kernel_rfl
@[go_sem] theorem t9 : tyOf Try.prog 8 9 = some Ty.s := by kernel_rfl
@[go_sem] theorem t10 : tyOf Try.prog 8 10 = some Ty.s := by kernel_rfl
@[go_sem] theorem t11 : tyOf Try.prog 8 11 = some Ty.s := by kernel_rfl
@[go_sem] theorem t12 : tyOf Try.prog 8 12 = some (Ty.u 64) := by kernel_rfl
@[go_sem] theorem t13 : tyOf Try.prog 8 13 = some (Ty.st [Ty.s, Ty.u 64]) := by kernel_rfl
@[go_sem] theorem t14 : tyOf Try.prog 8 14 = some (Ty.st [Ty.s, Ty.u 64]) := by kernel_rfl
@[go_sem] theorem t15 : tyOf Try.prog 8 15 = some Ty.p := by kernel_rfl
@[go_sem] theorem t16 : tyOf Try.prog 8 16 = some Ty.p := by kernel_rfl
@[go_sem] theorem t17 : tyOf Try.prog 8 17 = some Ty.p := by kernel_rfl
@[go_sem] theorem t18 : tyOf Try.prog 8 18 = some (Ty.st [Ty.p]) := by kernel_rfl
@[go_sem] theorem t19 : tyOf Try.prog 8 19 = some (Ty.st [Ty.p]) := by kernel_rfl
@[go_sem] theorem t22 : tyOf Try.prog 8 22 = some (Ty.u 64) := by kernel_rfl
@[go_sem] theorem t23 : tyOf Try.prog 8 23 = some (Ty.arr 4 (Ty.u 64)) := by kernel_rfl
@[go_sem] theorem t24 : tyOf Try.prog 8 24 = some (Ty.arr 4 (Ty.u 64)) := by kernel_rfl
@[go_sem] theorem t34 : tyOf Try.prog 8 34 = some (Ty.u 8).sl := by kernel_rfl
@[go_sem] theorem t35 : tyOf Try.prog 8 35 = some (Ty.arr 32 (Ty.u 8)) := by kernel_rfl
@[go_sem] theorem t41 : tyOf Try.prog 8 41 = some Ty.i := by kernel_rfl
@[go_sem] theorem t53 : tyOf Try.prog 8 53 = some (Ty.arr 8 (Ty.u 64)) := by kernel_rfl
@[go_sem] theorem t55 : tyOf Try.prog 8 55 = some (Ty.u 64).sl := by kernel_rfl
@[go_sem] theorem t56 : tyOf Try.prog 8 56 = some (Ty.u 64) := by kernel_rfl
@[go_sem] theorem t81 : tyOf Try.prog 8 81 = some Ty.p := by kernel_rfl
@[go_sem] theorem t83 : tyOf Try.prog 8 83 = some (Ty.st [Ty.p, Ty.p, Ty.p, Ty.s]) := by kernel_rfl
@[go_sem] theorem t84 : tyOf Try.prog 8 84 = some (Ty.st [Ty.p, Ty.p, Ty.p, Ty.s]) := by kernel_rfl
@[go_sem] theorem t85 : tyOf Try.prog 8 85 = some (Ty.arr 0 Ty.p) := by kernel_rfl
@[go_sem] theorem t86 : tyOf Try.prog 8 86 = some (Ty.st [Ty.arr 0 Ty.p]) := by kernel_rfl
@[go_sem] theorem t87 : tyOf Try.prog 8 87 = some (Ty.st [Ty.arr 0 Ty.p]) := by kernel_rfl
@[go_sem] theorem t89 : tyOf Try.prog 8 89 = some (Ty.u 32) := by kernel_rfl
@[go_sem] theorem t90 : tyOf Try.prog 8 90 = some (Ty.u 8) := by kernel_rfl
@[go_sem] theorem t91 : tyOf Try.prog 8 91 = some (Ty.u 8) := by kernel_rfl
@[go_sem] theorem t93 : tyOf Try.prog 8 93 = some Ty.p := by kernel_rfl
@[go_sem] theorem t98 : tyOf Try.prog 8 98 = some (Ty.st [Ty.s]) := by kernel_rfl
@[go_sem] theorem t99 : tyOf Try.prog 8 99 = some (Ty.st [Ty.s]) := by kernel_rfl
theorem hmix : Try.prog.follows .mixedOrders = true := by kernel_rfl
end Go.Vm.C01
