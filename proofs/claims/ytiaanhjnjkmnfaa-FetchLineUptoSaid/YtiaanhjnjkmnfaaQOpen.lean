-- The bulk of the program's own types (laid by wip/tools/rowgen.py).
import Derived.Test.YtiaanhjnjkmnfaaOpen
import Derived.Test.YtiaanhjnjkmnfaaQKinds
namespace Go.Proofs.Ytiaanhjnjkmnfaa.QOpen
open Go.Proofs.YtiaanhjnjkmnfaaW.PrintWords Go.Proofs.Ytiaanhjnjkmnfaa.QKinds Go.Proofs.Ytiaanhjnjkmnfaa.Open
set_option linter.unusedVariables false
def m42 (x : S42) : Nat := mOne x.f0 + (mStr x.f1 + ((mList mOne) x.f2)) + 1
def g42 (x : S42) : Prop := (gInt .i64) x.f0 ∧ (gAny x.f1 ∧ ((gList (gInt .i64)) x.f2))
theorem o42 : Opens Try.prog 42 k42 m42 g42 :=
  opens_struct (d := (Kd.pair (Kd.int .i64) (Kd.pair Kd.string (Kd.slice 3 (Kd.int .i64))))) (m := fun b => mOne b.1 + (mStr b.2.1 + ((mList mOne) b.2.2))) (g := fun b => (gInt .i64) b.1 ∧ (gAny b.2.1 ∧ ((gList (gInt .i64)) b.2.2))) (fun x : S42 => (x.f0, x.f1, x.f2)) (fun p => ⟨p.1, p.2.1, p.2.2⟩) (fun _ => rfl) Try.underlying42 (by kernel_rfl) (by
    apply opensF_cons (d := (Kd.int .i64)) (e := (Kd.pair Kd.string (Kd.slice 3 (Kd.int .i64)))) (m := mOne) (k := (fun b => mStr b.1 + ((mList mOne) b.2))) (g := (gInt .i64)) (q := (fun b => gAny b.1 ∧ ((gList (gInt .i64)) b.2)))
    · rfl
    · kernel_rfl
    · exact (opens_int Try.underlying3)
    apply opensF_cons (d := Kd.string) (e := (Kd.slice 3 (Kd.int .i64))) (m := mStr) (k := (mList mOne)) (g := gAny) (q := (gList (gInt .i64)))
    · rfl
    · kernel_rfl
    · exact (opens_string Try.underlying9)
    apply opensF_one (d := (Kd.slice 3 (Kd.int .i64))) (m := (mList mOne)) (g := (gList (gInt .i64)))
    · rfl
    · kernel_rfl
    · exact (opens_slice Try.underlying33 (by kernel_rfl) (opens_int Try.underlying3)))
def m46 (x : S46) : Nat := mStr x.f0 + (mOne x.f1) + 1
def g46 (x : S46) : Prop := gAny x.f0 ∧ ((gInt .i64) x.f1)
theorem o46 : Opens Try.prog 46 k46 m46 g46 :=
  opens_struct (d := (Kd.pair Kd.string (Kd.int .i64))) (m := fun b => mStr b.1 + (mOne b.2)) (g := fun b => gAny b.1 ∧ ((gInt .i64) b.2)) (fun x : S46 => (x.f0, x.f1)) (fun p => ⟨p.1, p.2⟩) (fun _ => rfl) Try.underlying46 (by kernel_rfl) (by
    apply opensF_cons (d := Kd.string) (e := (Kd.int .i64)) (m := mStr) (k := mOne) (g := gAny) (q := (gInt .i64))
    · rfl
    · kernel_rfl
    · exact (opens_string Try.underlying9)
    apply opensF_one (d := (Kd.int .i64)) (m := mOne) (g := (gInt .i64))
    · rfl
    · kernel_rfl
    · exact (opens_int Try.underlying3))
def m53 (x : S53) : Nat := mStr x.f0 + (mOne x.f1) + 1
def g53 (x : S53) : Prop := gAny x.f0 ∧ ((gInt .i64) x.f1)
theorem o53 : Opens Try.prog 53 k53 m53 g53 :=
  opens_struct (d := (Kd.pair Kd.string (Kd.int .i64))) (m := fun b => mStr b.1 + (mOne b.2)) (g := fun b => gAny b.1 ∧ ((gInt .i64) b.2)) (fun x : S53 => (x.f0, x.f1)) (fun p => ⟨p.1, p.2⟩) (fun _ => rfl) Try.underlying53 (by kernel_rfl) (by
    apply opensF_cons (d := Kd.string) (e := (Kd.int .i64)) (m := mStr) (k := mOne) (g := gAny) (q := (gInt .i64))
    · rfl
    · kernel_rfl
    · exact (opens_string Try.underlying9)
    apply opensF_one (d := (Kd.int .i64)) (m := mOne) (g := (gInt .i64))
    · rfl
    · kernel_rfl
    · exact (opens_int Try.underlying3))
def m60 (x : S60) : Nat := (mList mStr) x.f0 + 1
def g60 (x : S60) : Prop := (gList gAny) x.f0
theorem o60 : Opens Try.prog 60 k60 m60 g60 :=
  opens_struct (d := (Kd.slice 9 Kd.string)) (m := fun b => (mList mStr) b) (g := fun b => (gList gAny) b) (fun x : S60 => x.f0) (fun p => ⟨p⟩) (fun _ => rfl) Try.underlying60 (by kernel_rfl) (by
    apply opensF_one (d := (Kd.slice 9 Kd.string)) (m := (mList mStr)) (g := (gList gAny))
    · rfl
    · kernel_rfl
    · exact (opens_slice Try.underlying22 (by kernel_rfl) (opens_string Try.underlying9)))
def m70 (x : S70) : Nat := mStr x.f0 + ((mList mOne) x.f1 + (mOne x.f2 + (mOne x.f3))) + 1
def g70 (x : S70) : Prop := gAny x.f0 ∧ ((gList (gInt .i64)) x.f1 ∧ ((gInt .i64) x.f2 ∧ ((gInt .i64) x.f3)))
theorem o70 : Opens Try.prog 70 k70 m70 g70 :=
  opens_struct (d := (Kd.pair Kd.string (Kd.pair (Kd.slice 3 (Kd.int .i64)) (Kd.pair (Kd.int .i64) (Kd.int .i64))))) (m := fun b => mStr b.1 + ((mList mOne) b.2.1 + (mOne b.2.2.1 + (mOne b.2.2.2)))) (g := fun b => gAny b.1 ∧ ((gList (gInt .i64)) b.2.1 ∧ ((gInt .i64) b.2.2.1 ∧ ((gInt .i64) b.2.2.2)))) (fun x : S70 => (x.f0, x.f1, x.f2, x.f3)) (fun p => ⟨p.1, p.2.1, p.2.2.1, p.2.2.2⟩) (fun _ => rfl) Try.underlying70 (by kernel_rfl) (by
    apply opensF_cons (d := Kd.string) (e := (Kd.pair (Kd.slice 3 (Kd.int .i64)) (Kd.pair (Kd.int .i64) (Kd.int .i64)))) (m := mStr) (k := (fun b => (mList mOne) b.1 + (mOne b.2.1 + (mOne b.2.2)))) (g := gAny) (q := (fun b => (gList (gInt .i64)) b.1 ∧ ((gInt .i64) b.2.1 ∧ ((gInt .i64) b.2.2))))
    · rfl
    · kernel_rfl
    · exact (opens_string Try.underlying9)
    apply opensF_cons (d := (Kd.slice 3 (Kd.int .i64))) (e := (Kd.pair (Kd.int .i64) (Kd.int .i64))) (m := (mList mOne)) (k := (fun b => mOne b.1 + (mOne b.2))) (g := (gList (gInt .i64))) (q := (fun b => (gInt .i64) b.1 ∧ ((gInt .i64) b.2)))
    · rfl
    · kernel_rfl
    · exact (opens_slice Try.underlying33 (by kernel_rfl) (opens_int Try.underlying3))
    apply opensF_cons (d := (Kd.int .i64)) (e := (Kd.int .i64)) (m := mOne) (k := mOne) (g := (gInt .i64)) (q := (gInt .i64))
    · rfl
    · kernel_rfl
    · exact (opens_int Try.underlying3)
    apply opensF_one (d := (Kd.int .i64)) (m := mOne) (g := (gInt .i64))
    · rfl
    · kernel_rfl
    · exact (opens_int Try.underlying3))
def m78 (x : S78) : Nat := mStr x.f0 + ((mList mOne) x.f1 + (mOne x.f2 + (mOne x.f3))) + 1
def g78 (x : S78) : Prop := gAny x.f0 ∧ ((gList (gInt .i64)) x.f1 ∧ ((gInt .i64) x.f2 ∧ ((gInt .i64) x.f3)))
theorem o78 : Opens Try.prog 78 k78 m78 g78 :=
  opens_struct (d := (Kd.pair Kd.string (Kd.pair (Kd.slice 3 (Kd.int .i64)) (Kd.pair (Kd.int .i64) (Kd.int .i64))))) (m := fun b => mStr b.1 + ((mList mOne) b.2.1 + (mOne b.2.2.1 + (mOne b.2.2.2)))) (g := fun b => gAny b.1 ∧ ((gList (gInt .i64)) b.2.1 ∧ ((gInt .i64) b.2.2.1 ∧ ((gInt .i64) b.2.2.2)))) (fun x : S78 => (x.f0, x.f1, x.f2, x.f3)) (fun p => ⟨p.1, p.2.1, p.2.2.1, p.2.2.2⟩) (fun _ => rfl) Try.underlying78 (by kernel_rfl) (by
    apply opensF_cons (d := Kd.string) (e := (Kd.pair (Kd.slice 3 (Kd.int .i64)) (Kd.pair (Kd.int .i64) (Kd.int .i64)))) (m := mStr) (k := (fun b => (mList mOne) b.1 + (mOne b.2.1 + (mOne b.2.2)))) (g := gAny) (q := (fun b => (gList (gInt .i64)) b.1 ∧ ((gInt .i64) b.2.1 ∧ ((gInt .i64) b.2.2))))
    · rfl
    · kernel_rfl
    · exact (opens_string Try.underlying9)
    apply opensF_cons (d := (Kd.slice 3 (Kd.int .i64))) (e := (Kd.pair (Kd.int .i64) (Kd.int .i64))) (m := (mList mOne)) (k := (fun b => mOne b.1 + (mOne b.2))) (g := (gList (gInt .i64))) (q := (fun b => (gInt .i64) b.1 ∧ ((gInt .i64) b.2)))
    · rfl
    · kernel_rfl
    · exact (opens_slice Try.underlying33 (by kernel_rfl) (opens_int Try.underlying3))
    apply opensF_cons (d := (Kd.int .i64)) (e := (Kd.int .i64)) (m := mOne) (k := mOne) (g := (gInt .i64)) (q := (gInt .i64))
    · rfl
    · kernel_rfl
    · exact (opens_int Try.underlying3)
    apply opensF_one (d := (Kd.int .i64)) (m := mOne) (g := (gInt .i64))
    · rfl
    · kernel_rfl
    · exact (opens_int Try.underlying3))
end Go.Proofs.Ytiaanhjnjkmnfaa.QOpen
