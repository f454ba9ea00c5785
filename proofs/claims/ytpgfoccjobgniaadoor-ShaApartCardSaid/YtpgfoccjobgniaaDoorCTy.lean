/- What each type of the program is. -/
import Derived.Test.YtpgfoccjobgniaaDoorVc
import Derived.Test.YtpgfoccjobgniaaDoorProg
import Derived.KernelRfl
namespace Go.Vm.C04
open Go Go.Proofs
set_option maxRecDepth 100000
@[go_sem] theorem t2 : tyOf Tryd.prog 8 2 = some Ty.i := by kernel_rfl
@[go_sem] theorem t3 : tyOf Tryd.prog 8 3 = some Ty.i := by kernel_rfl
@[go_sem] theorem t4 : tyOf Tryd.prog 8 4 = some Ty.b := by kernel_rfl
@[go_sem] theorem t5 : tyOf Tryd.prog 8 5 = some (Ty.u 8) := by kernel_rfl
@[go_sem] theorem t6 : tyOf Tryd.prog 8 6 = some (Ty.u 8) := by kernel_rfl
@[go_sem] theorem t7 : tyOf Tryd.prog 8 7 = some (Ty.st [Ty.i, Ty.i, Ty.b, Ty.u 8]) := by kernel_rfl
@[go_sem] theorem t8 : tyOf Tryd.prog 8 8 = some (Ty.st [Ty.i, Ty.i, Ty.b, Ty.u 8]) := by kernel_rfl
@[go_sem] theorem t9 : tyOf Tryd.prog 8 9 = some Ty.s := by kernel_rfl
@[go_sem] theorem t10 : tyOf Tryd.prog 8 10 = some Ty.s := by kernel_rfl
@[go_sem] theorem t11 : tyOf Tryd.prog 8 11 = some Ty.s := by kernel_rfl
@[go_sem] theorem t12 : tyOf Tryd.prog 8 12 = some (Ty.u 64) := by kernel_rfl
@[go_sem] theorem t13 : tyOf Tryd.prog 8 13 = some (Ty.st [Ty.s, Ty.u 64]) := by kernel_rfl
@[go_sem] theorem t14 : tyOf Tryd.prog 8 14 = some (Ty.st [Ty.s, Ty.u 64]) := by kernel_rfl
@[go_sem] theorem t15 : tyOf Tryd.prog 8 15 = some Ty.p := by kernel_rfl
@[go_sem] theorem t16 : tyOf Tryd.prog 8 16 = some Ty.p := by kernel_rfl
@[go_sem] theorem t17 : tyOf Tryd.prog 8 17 = some Ty.p := by kernel_rfl
@[go_sem] theorem t18 : tyOf Tryd.prog 8 18 = some (Ty.st [Ty.p]) := by kernel_rfl
@[go_sem] theorem t19 : tyOf Tryd.prog 8 19 = some (Ty.st [Ty.p]) := by kernel_rfl
@[go_sem] theorem t22 : tyOf Tryd.prog 8 22 = some (Ty.u 8).sl := by kernel_rfl
@[go_sem] theorem t23 : tyOf Tryd.prog 8 23 = some (Ty.u 16).sl := by kernel_rfl
@[go_sem] theorem t24 : tyOf Tryd.prog 8 24 = some (Ty.arr 32 (Ty.u 8)) := by kernel_rfl
@[go_sem] theorem t25 : tyOf Tryd.prog 8 25 = some (Ty.arr 32 (Ty.u 8)) := by kernel_rfl
@[go_sem] theorem t27 : tyOf Tryd.prog 8 27 = some Ty.p := by kernel_rfl
@[go_sem] theorem t29 : tyOf Tryd.prog 8 29 = some (Ty.u 16) := by kernel_rfl
@[go_sem] theorem t37 : tyOf Tryd.prog 8 37 = some (Ty.u 32).sl := by kernel_rfl
@[go_sem] theorem t38 : tyOf Tryd.prog 8 38 = some (Ty.u 32) := by kernel_rfl
@[go_sem] theorem t39 : tyOf Tryd.prog 8 39 = some (Ty.arr 8 (Ty.u 32)) := by kernel_rfl
@[go_sem] theorem t43 : tyOf Tryd.prog 8 43 = some (Ty.arr 64 (Ty.u 8)) := by kernel_rfl
@[go_sem] theorem t44 : tyOf Tryd.prog 8 44 = some (Ty.u 64) := by kernel_rfl
@[go_sem] theorem t45 : tyOf Tryd.prog 8 45 = some (Ty.st [Ty.arr 8 (Ty.u 32), Ty.arr 64 (Ty.u 8), Ty.i, Ty.u 64]) := by kernel_rfl
@[go_sem] theorem t46 : tyOf Tryd.prog 8 46 = some (Ty.st [Ty.arr 8 (Ty.u 32), Ty.arr 64 (Ty.u 8), Ty.i, Ty.u 64]) := by kernel_rfl
@[go_sem] theorem t48 : tyOf Tryd.prog 8 48 = some (Ty.u 64).sl := by kernel_rfl
@[go_sem] theorem t51 : tyOf Tryd.prog 8 51 = some (Ty.u 64) := by kernel_rfl
@[go_sem] theorem t53 : tyOf Tryd.prog 8 53 = some (Ty.u 8).sl.sl := by kernel_rfl
@[go_sem] theorem t57 : tyOf Tryd.prog 8 57 = some (Ty.arr 64 (Ty.u 32)) := by kernel_rfl
@[go_sem] theorem t59 : tyOf Tryd.prog 8 59 = some (Ty.st [Ty.p, Ty.p, Ty.p, Ty.s]) := by kernel_rfl
@[go_sem] theorem t60 : tyOf Tryd.prog 8 60 = some (Ty.st [Ty.p, Ty.p, Ty.p, Ty.s]) := by kernel_rfl
@[go_sem] theorem t61 : tyOf Tryd.prog 8 61 = some (Ty.arr 0 Ty.p) := by kernel_rfl
@[go_sem] theorem t62 : tyOf Tryd.prog 8 62 = some (Ty.st [Ty.arr 0 Ty.p]) := by kernel_rfl
@[go_sem] theorem t63 : tyOf Tryd.prog 8 63 = some (Ty.st [Ty.arr 0 Ty.p]) := by kernel_rfl
@[go_sem] theorem t65 : tyOf Tryd.prog 8 65 = some (Ty.u 8) := by kernel_rfl
@[go_sem] theorem t66 : tyOf Tryd.prog 8 66 = some (Ty.u 8) := by kernel_rfl
@[go_sem] theorem t68 : tyOf Tryd.prog 8 68 = some Ty.p := by kernel_rfl
theorem hmix : Tryd.prog.follows .mixedOrders = true := by kernel_rfl
end Go.Vm.C04
