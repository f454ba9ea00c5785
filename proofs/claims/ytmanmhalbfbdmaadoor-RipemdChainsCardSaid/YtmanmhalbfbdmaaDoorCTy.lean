/- What each type of the program is. -/
import Derived.Test.YtmanmhalbfbdmaaDoorVc
import Derived.Test.YtmanmhalbfbdmaaDoorProg
import Derived.KernelRfl
namespace Go.Vm.C05
open Go Go.Proofs
set_option maxRecDepth 100000
@[go_sem] theorem t2 : tyOf Tryd.prog 8 2 = some Ty.i := by kernel_rfl
@[go_sem] theorem t3 : tyOf Tryd.prog 8 3 = some Ty.i := by kernel_rfl
@[go_sem] theorem t4 : tyOf Tryd.prog 8 4 = some Ty.b := by kernel_rfl
@[go_sem] theorem t5 : tyOf Tryd.prog 8 5 = some (Ty.u 8) := by kernel_rfl
@[go_sem] theorem t6 : tyOf Tryd.prog 8 6 = some (Ty.u 8) := by kernel_rfl
@[go_sem] theorem t7 : tyOf Tryd.prog 8 7 = some (Ty.st [Ty.i, Ty.i, Ty.b, Ty.u 8]) := by kernel_rfl
@[go_sem] theorem t8 : tyOf Tryd.prog 8 8 = some (Ty.st [Ty.i, Ty.i, Ty.b, Ty.u 8]) := by kernel_rfl
@[go_sem] theorem t9 : tyOf Tryd.prog 8 9 = some Ty.s := by kernel_rfl
@[go_sem] theorem t10 : tyOf Tryd.prog 8 10 = some Ty.s := by kernel_rfl
@[go_sem] theorem t11 : tyOf Tryd.prog 8 11 = some Ty.s := by kernel_rfl
@[go_sem] theorem t12 : tyOf Tryd.prog 8 12 = some (Ty.u 64) := by kernel_rfl
@[go_sem] theorem t13 : tyOf Tryd.prog 8 13 = some (Ty.st [Ty.s, Ty.u 64]) := by kernel_rfl
@[go_sem] theorem t14 : tyOf Tryd.prog 8 14 = some (Ty.st [Ty.s, Ty.u 64]) := by kernel_rfl
@[go_sem] theorem t15 : tyOf Tryd.prog 8 15 = some Ty.p := by kernel_rfl
@[go_sem] theorem t16 : tyOf Tryd.prog 8 16 = some Ty.p := by kernel_rfl
@[go_sem] theorem t17 : tyOf Tryd.prog 8 17 = some Ty.p := by kernel_rfl
@[go_sem] theorem t18 : tyOf Tryd.prog 8 18 = some (Ty.st [Ty.p]) := by kernel_rfl
@[go_sem] theorem t19 : tyOf Tryd.prog 8 19 = some (Ty.st [Ty.p]) := by kernel_rfl
@[go_sem] theorem t22 : tyOf Tryd.prog 8 22 = some (Ty.u 8).sl := by kernel_rfl
@[go_sem] theorem t23 : tyOf Tryd.prog 8 23 = some (Ty.arr 20 (Ty.u 8)) := by kernel_rfl
@[go_sem] theorem t27 : tyOf Tryd.prog 8 27 = some (Ty.u 32) := by kernel_rfl
@[go_sem] theorem t28 : tyOf Tryd.prog 8 28 = some (Ty.arr 5 (Ty.u 32)) := by kernel_rfl
@[go_sem] theorem t29 : tyOf Tryd.prog 8 29 = some (Ty.arr 64 (Ty.u 8)) := by kernel_rfl
@[go_sem] theorem t32 : tyOf Tryd.prog 8 32 = some (Ty.u 8).sl.sl := by kernel_rfl
@[go_sem] theorem t33 : tyOf Tryd.prog 8 33 = some (Ty.u 64) := by kernel_rfl
@[go_sem] theorem t35 : tyOf Tryd.prog 8 35 = some (Ty.u 64) := by kernel_rfl
@[go_sem] theorem t37 : tyOf Tryd.prog 8 37 = some (Ty.arr 128 (Ty.u 8)) := by kernel_rfl
@[go_sem] theorem t38 : tyOf Tryd.prog 8 38 = some (Ty.u 32).sl := by kernel_rfl
@[go_sem] theorem t43 : tyOf Tryd.prog 8 43 = some (Ty.arr 16 (Ty.u 32)) := by kernel_rfl
@[go_sem] theorem t45 : tyOf Tryd.prog 8 45 = some Ty.i.sl := by kernel_rfl
@[go_sem] theorem t46 : tyOf Tryd.prog 8 46 = some Ty.s.sl := by kernel_rfl
@[go_sem] theorem t47 : tyOf Tryd.prog 8 47 = some (Ty.arr 16 Ty.i) := by kernel_rfl
@[go_sem] theorem t48 : tyOf Tryd.prog 8 48 = some (Ty.arr 5 (Ty.arr 16 Ty.i)) := by kernel_rfl
@[go_sem] theorem t50 : tyOf Tryd.prog 8 50 = some (Ty.st [Ty.p, Ty.p, Ty.p, Ty.s]) := by kernel_rfl
@[go_sem] theorem t51 : tyOf Tryd.prog 8 51 = some (Ty.st [Ty.p, Ty.p, Ty.p, Ty.s]) := by kernel_rfl
@[go_sem] theorem t52 : tyOf Tryd.prog 8 52 = some (Ty.arr 0 Ty.p) := by kernel_rfl
@[go_sem] theorem t53 : tyOf Tryd.prog 8 53 = some (Ty.st [Ty.arr 0 Ty.p]) := by kernel_rfl
@[go_sem] theorem t54 : tyOf Tryd.prog 8 54 = some (Ty.st [Ty.arr 0 Ty.p]) := by kernel_rfl
@[go_sem] theorem t56 : tyOf Tryd.prog 8 56 = some (Ty.u 8) := by kernel_rfl
@[go_sem] theorem t57 : tyOf Tryd.prog 8 57 = some (Ty.u 8) := by kernel_rfl
@[go_sem] theorem t59 : tyOf Tryd.prog 8 59 = some Ty.p := by kernel_rfl
theorem hmix : Tryd.prog.follows .mixedOrders = true := by kernel_rfl
end Go.Vm.C05
