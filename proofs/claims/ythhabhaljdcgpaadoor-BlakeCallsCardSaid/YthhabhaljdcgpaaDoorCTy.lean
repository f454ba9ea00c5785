/- What each type of the program is. -/
import Derived.Test.YthhabhaljdcgpaaDoorVc
import Derived.Test.YthhabhaljdcgpaaDoorProg
import Derived.KernelRfl
namespace Go.Vm.C06
open Go Go.Proofs
set_option maxRecDepth 100000
set_option maxHeartbeats 8000000
@[go_sem] theorem t2 : tyOf Tryd.prog 8 2 = some Ty.i := by kernel_rfl
@[go_sem] theorem t3 : tyOf Tryd.prog 8 3 = some Ty.i := by kernel_rfl
@[go_sem] theorem t4 : tyOf Tryd.prog 8 4 = some Ty.b := by kernel_rfl
@[go_sem] theorem t5 : tyOf Tryd.prog 8 5 = some (Ty.u 8) := by kernel_rfl
@[go_sem] theorem t6 : tyOf Tryd.prog 8 6 = some (Ty.u 8) := by kernel_rfl
@[go_sem] theorem t7 : tyOf Tryd.prog 8 7 = some (Ty.st [Ty.i, Ty.i, Ty.b, Ty.u 8]) := by kernel_rfl
@[go_sem] theorem t8 : tyOf Tryd.prog 8 8 = some (Ty.st [Ty.i, Ty.i, Ty.b, Ty.u 8]) := by kernel_rfl
@[go_sem] theorem t9 : tyOf Tryd.prog 8 9 = some Ty.s := by kernel_rfl
@[go_sem] theorem t10 : tyOf Tryd.prog 8 10 = some Ty.s := by kernel_rfl
@[go_sem] theorem t11 : tyOf Tryd.prog 8 11 = some Ty.s := by kernel_rfl
@[go_sem] theorem t12 : tyOf Tryd.prog 8 12 = some (Ty.u 64) := by kernel_rfl
@[go_sem] theorem t13 : tyOf Tryd.prog 8 13 = some (Ty.st [Ty.s, Ty.u 64]) := by kernel_rfl
@[go_sem] theorem t14 : tyOf Tryd.prog 8 14 = some (Ty.st [Ty.s, Ty.u 64]) := by kernel_rfl
@[go_sem] theorem t15 : tyOf Tryd.prog 8 15 = some Ty.p := by kernel_rfl
@[go_sem] theorem t16 : tyOf Tryd.prog 8 16 = some Ty.p := by kernel_rfl
@[go_sem] theorem t17 : tyOf Tryd.prog 8 17 = some Ty.p := by kernel_rfl
@[go_sem] theorem t18 : tyOf Tryd.prog 8 18 = some (Ty.st [Ty.p]) := by kernel_rfl
@[go_sem] theorem t19 : tyOf Tryd.prog 8 19 = some (Ty.st [Ty.p]) := by kernel_rfl
@[go_sem] theorem t22 : tyOf Tryd.prog 8 22 = some (Ty.u 32) := by kernel_rfl
@[go_sem] theorem t23 : tyOf Tryd.prog 8 23 = some (Ty.u 64) := by kernel_rfl
@[go_sem] theorem t24 : tyOf Tryd.prog 8 24 = some (Ty.arr 8 (Ty.u 64)) := by kernel_rfl
@[go_sem] theorem t25 : tyOf Tryd.prog 8 25 = some (Ty.arr 16 (Ty.u 64)) := by kernel_rfl
@[go_sem] theorem t26 : tyOf Tryd.prog 8 26 = some (Ty.arr 2 (Ty.u 64)) := by kernel_rfl
@[go_sem] theorem t27 : tyOf Tryd.prog 8 27 = some (Ty.st [Ty.u 32, Ty.arr 8 (Ty.u 64), Ty.arr 16 (Ty.u 64), Ty.arr 2 (Ty.u 64), Ty.b]) := by kernel_rfl
@[go_sem] theorem t28 : tyOf Tryd.prog 8 28 = some (Ty.st [Ty.u 32, Ty.arr 8 (Ty.u 64), Ty.arr 16 (Ty.u 64), Ty.arr 2 (Ty.u 64), Ty.b]) := by kernel_rfl
@[go_sem] theorem t33 : tyOf Tryd.prog 8 33 = some (Ty.u 8).sl := by kernel_rfl
@[go_sem] theorem t34 : tyOf Tryd.prog 8 34 = some Ty.i := by kernel_rfl
@[go_sem] theorem t38 : tyOf Tryd.prog 8 38 = some (Ty.u 64).sl := by kernel_rfl
@[go_sem] theorem t41 : tyOf Tryd.prog 8 41 = some Ty.i.sl := by kernel_rfl
@[go_sem] theorem t44 : tyOf Tryd.prog 8 44 = some (Ty.u 64) := by kernel_rfl
@[go_sem] theorem t47 : tyOf Tryd.prog 8 47 = some (Ty.arr 16 Ty.i) := by kernel_rfl
@[go_sem] theorem t48 : tyOf Tryd.prog 8 48 = some (Ty.arr 10 (Ty.arr 16 Ty.i)) := by kernel_rfl
@[go_sem] theorem t49 : tyOf Tryd.prog 8 49 = some (Ty.arr 4 Ty.i) := by kernel_rfl
@[go_sem] theorem t50 : tyOf Tryd.prog 8 50 = some (Ty.arr 8 (Ty.arr 4 Ty.i)) := by kernel_rfl
@[go_sem] theorem t52 : tyOf Tryd.prog 8 52 = some Ty.p := by kernel_rfl
@[go_sem] theorem t55 : tyOf Tryd.prog 8 55 = some Ty.s.sl := by kernel_rfl
@[go_sem] theorem t57 : tyOf Tryd.prog 8 57 = some Ty.p := by kernel_rfl
@[go_sem] theorem t59 : tyOf Tryd.prog 8 59 = some (Ty.st [Ty.p, Ty.p, Ty.p, Ty.s]) := by kernel_rfl
@[go_sem] theorem t60 : tyOf Tryd.prog 8 60 = some (Ty.st [Ty.p, Ty.p, Ty.p, Ty.s]) := by kernel_rfl
@[go_sem] theorem t61 : tyOf Tryd.prog 8 61 = some (Ty.arr 0 Ty.p) := by kernel_rfl
@[go_sem] theorem t62 : tyOf Tryd.prog 8 62 = some (Ty.st [Ty.arr 0 Ty.p]) := by kernel_rfl
@[go_sem] theorem t63 : tyOf Tryd.prog 8 63 = some (Ty.st [Ty.arr 0 Ty.p]) := by kernel_rfl
@[go_sem] theorem t65 : tyOf Tryd.prog 8 65 = some (Ty.u 8) := by kernel_rfl
@[go_sem] theorem t66 : tyOf Tryd.prog 8 66 = some (Ty.u 8) := by kernel_rfl
@[go_sem] theorem t68 : tyOf Tryd.prog 8 68 = some Ty.p := by kernel_rfl
theorem hmix : Tryd.prog.follows .mixedOrders = true := by kernel_rfl
end Go.Vm.C06
