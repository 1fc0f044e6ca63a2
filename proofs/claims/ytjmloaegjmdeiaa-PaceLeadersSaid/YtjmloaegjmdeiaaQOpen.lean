-- The bulk of the program's own types (laid by wip/tools/rowgen.py).
import Derived.Test.YtjmloaegjmdeiaaOpen
import Derived.Test.YtjmloaegjmdeiaaQKinds
namespace Go.Proofs.Ytjmloaegjmdeiaa.QOpen
open Go.Proofs.YtjmloaegjmdeiaaW.PrintWords Go.Proofs.Ytjmloaegjmdeiaa.QKinds Go.Proofs.Ytjmloaegjmdeiaa.Open
set_option linter.unusedVariables false
def m31 (x : S31) : Nat := mOne x.f0 + (mOne x.f1) + 1
def g31 (x : S31) : Prop := (gInt .i64) x.f0 ∧ ((gInt .i64) x.f1)
theorem o31 : Opens Try.prog 31 k31 m31 g31 :=
  opens_struct (d := (Kd.pair (Kd.int .i64) (Kd.int .i64))) (m := fun b => mOne b.1 + (mOne b.2)) (g := fun b => (gInt .i64) b.1 ∧ ((gInt .i64) b.2)) (fun x : S31 => (x.f0, x.f1)) (fun p => ⟨p.1, p.2⟩) (fun _ => rfl) Try.underlying31 (by kernel_rfl) (by
    apply opensF_cons (d := (Kd.int .i64)) (e := (Kd.int .i64)) (m := mOne) (k := mOne) (g := (gInt .i64)) (q := (gInt .i64))
    · rfl
    · kernel_rfl
    · exact (opens_int Try.underlying3)
    apply opensF_one (d := (Kd.int .i64)) (m := mOne) (g := (gInt .i64))
    · rfl
    · kernel_rfl
    · exact (opens_int Try.underlying3))
def m38 (x : S38) : Nat := mOne x.f0 + (mOne x.f1 + (mOne x.f2)) + 1
def g38 (x : S38) : Prop := (gInt .i64) x.f0 ∧ ((gInt .i64) x.f1 ∧ ((gInt .i64) x.f2))
theorem o38 : Opens Try.prog 38 k38 m38 g38 :=
  opens_struct (d := (Kd.pair (Kd.int .i64) (Kd.pair (Kd.int .i64) (Kd.int .i64)))) (m := fun b => mOne b.1 + (mOne b.2.1 + (mOne b.2.2))) (g := fun b => (gInt .i64) b.1 ∧ ((gInt .i64) b.2.1 ∧ ((gInt .i64) b.2.2))) (fun x : S38 => (x.f0, x.f1, x.f2)) (fun p => ⟨p.1, p.2.1, p.2.2⟩) (fun _ => rfl) Try.underlying38 (by kernel_rfl) (by
    apply opensF_cons (d := (Kd.int .i64)) (e := (Kd.pair (Kd.int .i64) (Kd.int .i64))) (m := mOne) (k := (fun b => mOne b.1 + (mOne b.2))) (g := (gInt .i64)) (q := (fun b => (gInt .i64) b.1 ∧ ((gInt .i64) b.2)))
    · rfl
    · kernel_rfl
    · exact (opens_int Try.underlying3)
    apply opensF_cons (d := (Kd.int .i64)) (e := (Kd.int .i64)) (m := mOne) (k := mOne) (g := (gInt .i64)) (q := (gInt .i64))
    · rfl
    · kernel_rfl
    · exact (opens_int Try.underlying3)
    apply opensF_one (d := (Kd.int .i64)) (m := mOne) (g := (gInt .i64))
    · rfl
    · kernel_rfl
    · exact (opens_int Try.underlying3))
def m40 (x : S40) : Nat := m38 x.f0 + (mOne x.f1 + (mOne x.f2)) + 1
def g40 (x : S40) : Prop := g38 x.f0 ∧ ((gInt .i64) x.f1 ∧ ((gInt .i64) x.f2))
theorem o40 : Opens Try.prog 40 k40 m40 g40 :=
  opens_struct (d := (Kd.pair k38 (Kd.pair (Kd.int .i64) (Kd.int .i64)))) (m := fun b => m38 b.1 + (mOne b.2.1 + (mOne b.2.2))) (g := fun b => g38 b.1 ∧ ((gInt .i64) b.2.1 ∧ ((gInt .i64) b.2.2))) (fun x : S40 => (x.f0, x.f1, x.f2)) (fun p => ⟨p.1, p.2.1, p.2.2⟩) (fun _ => rfl) Try.underlying40 (by kernel_rfl) (by
    apply opensF_cons (d := k38) (e := (Kd.pair (Kd.int .i64) (Kd.int .i64))) (m := m38) (k := (fun b => mOne b.1 + (mOne b.2))) (g := g38) (q := (fun b => (gInt .i64) b.1 ∧ ((gInt .i64) b.2)))
    · rfl
    · kernel_rfl
    · exact o38
    apply opensF_cons (d := (Kd.int .i64)) (e := (Kd.int .i64)) (m := mOne) (k := mOne) (g := (gInt .i64)) (q := (gInt .i64))
    · rfl
    · kernel_rfl
    · exact (opens_int Try.underlying3)
    apply opensF_one (d := (Kd.int .i64)) (m := mOne) (g := (gInt .i64))
    · rfl
    · kernel_rfl
    · exact (opens_int Try.underlying3))
def m43 (x : S43) : Nat := mOne x.f0 + (mOne x.f1 + (mOne x.f2 + (mOne x.f3 + (mOne x.f4)))) + 1
def g43 (x : S43) : Prop := (gInt .i64) x.f0 ∧ ((gInt .i64) x.f1 ∧ ((gInt .i64) x.f2 ∧ ((gInt .i64) x.f3 ∧ ((gInt .i64) x.f4))))
theorem o43 : Opens Try.prog 43 k43 m43 g43 :=
  opens_struct (d := (Kd.pair (Kd.int .i64) (Kd.pair (Kd.int .i64) (Kd.pair (Kd.int .i64) (Kd.pair (Kd.int .i64) (Kd.int .i64)))))) (m := fun b => mOne b.1 + (mOne b.2.1 + (mOne b.2.2.1 + (mOne b.2.2.2.1 + (mOne b.2.2.2.2))))) (g := fun b => (gInt .i64) b.1 ∧ ((gInt .i64) b.2.1 ∧ ((gInt .i64) b.2.2.1 ∧ ((gInt .i64) b.2.2.2.1 ∧ ((gInt .i64) b.2.2.2.2))))) (fun x : S43 => (x.f0, x.f1, x.f2, x.f3, x.f4)) (fun p => ⟨p.1, p.2.1, p.2.2.1, p.2.2.2.1, p.2.2.2.2⟩) (fun _ => rfl) Try.underlying43 (by kernel_rfl) (by
    apply opensF_cons (d := (Kd.int .i64)) (e := (Kd.pair (Kd.int .i64) (Kd.pair (Kd.int .i64) (Kd.pair (Kd.int .i64) (Kd.int .i64))))) (m := mOne) (k := (fun b => mOne b.1 + (mOne b.2.1 + (mOne b.2.2.1 + (mOne b.2.2.2))))) (g := (gInt .i64)) (q := (fun b => (gInt .i64) b.1 ∧ ((gInt .i64) b.2.1 ∧ ((gInt .i64) b.2.2.1 ∧ ((gInt .i64) b.2.2.2)))))
    · rfl
    · kernel_rfl
    · exact (opens_int Try.underlying3)
    apply opensF_cons (d := (Kd.int .i64)) (e := (Kd.pair (Kd.int .i64) (Kd.pair (Kd.int .i64) (Kd.int .i64)))) (m := mOne) (k := (fun b => mOne b.1 + (mOne b.2.1 + (mOne b.2.2)))) (g := (gInt .i64)) (q := (fun b => (gInt .i64) b.1 ∧ ((gInt .i64) b.2.1 ∧ ((gInt .i64) b.2.2))))
    · rfl
    · kernel_rfl
    · exact (opens_int Try.underlying3)
    apply opensF_cons (d := (Kd.int .i64)) (e := (Kd.pair (Kd.int .i64) (Kd.int .i64))) (m := mOne) (k := (fun b => mOne b.1 + (mOne b.2))) (g := (gInt .i64)) (q := (fun b => (gInt .i64) b.1 ∧ ((gInt .i64) b.2)))
    · rfl
    · kernel_rfl
    · exact (opens_int Try.underlying3)
    apply opensF_cons (d := (Kd.int .i64)) (e := (Kd.int .i64)) (m := mOne) (k := mOne) (g := (gInt .i64)) (q := (gInt .i64))
    · rfl
    · kernel_rfl
    · exact (opens_int Try.underlying3)
    apply opensF_one (d := (Kd.int .i64)) (m := mOne) (g := (gInt .i64))
    · rfl
    · kernel_rfl
    · exact (opens_int Try.underlying3))
end Go.Proofs.Ytjmloaegjmdeiaa.QOpen
