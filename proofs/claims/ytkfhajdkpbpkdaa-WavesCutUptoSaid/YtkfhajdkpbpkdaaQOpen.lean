-- The bulk of the program's own types (laid by wip/tools/rowgen.py).
import Derived.Test.YtkfhajdkpbpkdaaOpen
import Derived.Test.YtkfhajdkpbpkdaaQKinds
namespace Go.Proofs.Ytkfhajdkpbpkdaa.QOpen
open Go.Proofs.YtkfhajdkpbpkdaaW.PrintWords Go.Proofs.Ytkfhajdkpbpkdaa.QKinds Go.Proofs.Ytkfhajdkpbpkdaa.Open
set_option linter.unusedVariables false
def m38 (x : S38) : Nat := mOne x.f0 + (mStr x.f1 + (mStr x.f2 + (mOne x.f3 + (mOne x.f4 + (mStr x.f5 + (mStr x.f6 + ((mList mStr) x.f7 + ((mList mStr) x.f8)))))))) + 1
def g38 (x : S38) : Prop := (gInt .i64) x.f0 ∧ (gAny x.f1 ∧ (gAny x.f2 ∧ ((gInt .u64) x.f3 ∧ ((gInt .u64) x.f4 ∧ (gAny x.f5 ∧ (gAny x.f6 ∧ ((gList gAny) x.f7 ∧ ((gList gAny) x.f8))))))))
theorem o38 : Opens Try.prog 38 k38 m38 g38 :=
  opens_struct (d := (Kd.pair (Kd.int .i64) (Kd.pair Kd.string (Kd.pair Kd.string (Kd.pair (Kd.int .u64) (Kd.pair (Kd.int .u64) (Kd.pair Kd.string (Kd.pair Kd.string (Kd.pair (Kd.slice 9 Kd.string) (Kd.slice 9 Kd.string)))))))))) (m := fun b => mOne b.1 + (mStr b.2.1 + (mStr b.2.2.1 + (mOne b.2.2.2.1 + (mOne b.2.2.2.2.1 + (mStr b.2.2.2.2.2.1 + (mStr b.2.2.2.2.2.2.1 + ((mList mStr) b.2.2.2.2.2.2.2.1 + ((mList mStr) b.2.2.2.2.2.2.2.2))))))))) (g := fun b => (gInt .i64) b.1 ∧ (gAny b.2.1 ∧ (gAny b.2.2.1 ∧ ((gInt .u64) b.2.2.2.1 ∧ ((gInt .u64) b.2.2.2.2.1 ∧ (gAny b.2.2.2.2.2.1 ∧ (gAny b.2.2.2.2.2.2.1 ∧ ((gList gAny) b.2.2.2.2.2.2.2.1 ∧ ((gList gAny) b.2.2.2.2.2.2.2.2))))))))) (fun x : S38 => (x.f0, x.f1, x.f2, x.f3, x.f4, x.f5, x.f6, x.f7, x.f8)) (fun p => ⟨p.1, p.2.1, p.2.2.1, p.2.2.2.1, p.2.2.2.2.1, p.2.2.2.2.2.1, p.2.2.2.2.2.2.1, p.2.2.2.2.2.2.2.1, p.2.2.2.2.2.2.2.2⟩) (fun _ => rfl) Try.underlying38 (by kernel_rfl) (by
    apply opensF_cons (d := (Kd.int .i64)) (e := (Kd.pair Kd.string (Kd.pair Kd.string (Kd.pair (Kd.int .u64) (Kd.pair (Kd.int .u64) (Kd.pair Kd.string (Kd.pair Kd.string (Kd.pair (Kd.slice 9 Kd.string) (Kd.slice 9 Kd.string))))))))) (m := mOne) (k := (fun b => mStr b.1 + (mStr b.2.1 + (mOne b.2.2.1 + (mOne b.2.2.2.1 + (mStr b.2.2.2.2.1 + (mStr b.2.2.2.2.2.1 + ((mList mStr) b.2.2.2.2.2.2.1 + ((mList mStr) b.2.2.2.2.2.2.2))))))))) (g := (gInt .i64)) (q := (fun b => gAny b.1 ∧ (gAny b.2.1 ∧ ((gInt .u64) b.2.2.1 ∧ ((gInt .u64) b.2.2.2.1 ∧ (gAny b.2.2.2.2.1 ∧ (gAny b.2.2.2.2.2.1 ∧ ((gList gAny) b.2.2.2.2.2.2.1 ∧ ((gList gAny) b.2.2.2.2.2.2.2)))))))))
    · rfl
    · kernel_rfl
    · exact (opens_int Try.underlying3)
    apply opensF_cons (d := Kd.string) (e := (Kd.pair Kd.string (Kd.pair (Kd.int .u64) (Kd.pair (Kd.int .u64) (Kd.pair Kd.string (Kd.pair Kd.string (Kd.pair (Kd.slice 9 Kd.string) (Kd.slice 9 Kd.string)))))))) (m := mStr) (k := (fun b => mStr b.1 + (mOne b.2.1 + (mOne b.2.2.1 + (mStr b.2.2.2.1 + (mStr b.2.2.2.2.1 + ((mList mStr) b.2.2.2.2.2.1 + ((mList mStr) b.2.2.2.2.2.2)))))))) (g := gAny) (q := (fun b => gAny b.1 ∧ ((gInt .u64) b.2.1 ∧ ((gInt .u64) b.2.2.1 ∧ (gAny b.2.2.2.1 ∧ (gAny b.2.2.2.2.1 ∧ ((gList gAny) b.2.2.2.2.2.1 ∧ ((gList gAny) b.2.2.2.2.2.2))))))))
    · rfl
    · kernel_rfl
    · exact (opens_string Try.underlying9)
    apply opensF_cons (d := Kd.string) (e := (Kd.pair (Kd.int .u64) (Kd.pair (Kd.int .u64) (Kd.pair Kd.string (Kd.pair Kd.string (Kd.pair (Kd.slice 9 Kd.string) (Kd.slice 9 Kd.string))))))) (m := mStr) (k := (fun b => mOne b.1 + (mOne b.2.1 + (mStr b.2.2.1 + (mStr b.2.2.2.1 + ((mList mStr) b.2.2.2.2.1 + ((mList mStr) b.2.2.2.2.2))))))) (g := gAny) (q := (fun b => (gInt .u64) b.1 ∧ ((gInt .u64) b.2.1 ∧ (gAny b.2.2.1 ∧ (gAny b.2.2.2.1 ∧ ((gList gAny) b.2.2.2.2.1 ∧ ((gList gAny) b.2.2.2.2.2)))))))
    · rfl
    · kernel_rfl
    · exact (opens_string Try.underlying9)
    apply opensF_cons (d := (Kd.int .u64)) (e := (Kd.pair (Kd.int .u64) (Kd.pair Kd.string (Kd.pair Kd.string (Kd.pair (Kd.slice 9 Kd.string) (Kd.slice 9 Kd.string)))))) (m := mOne) (k := (fun b => mOne b.1 + (mStr b.2.1 + (mStr b.2.2.1 + ((mList mStr) b.2.2.2.1 + ((mList mStr) b.2.2.2.2)))))) (g := (gInt .u64)) (q := (fun b => (gInt .u64) b.1 ∧ (gAny b.2.1 ∧ (gAny b.2.2.1 ∧ ((gList gAny) b.2.2.2.1 ∧ ((gList gAny) b.2.2.2.2))))))
    · rfl
    · kernel_rfl
    · exact (opens_int Try.underlying34)
    apply opensF_cons (d := (Kd.int .u64)) (e := (Kd.pair Kd.string (Kd.pair Kd.string (Kd.pair (Kd.slice 9 Kd.string) (Kd.slice 9 Kd.string))))) (m := mOne) (k := (fun b => mStr b.1 + (mStr b.2.1 + ((mList mStr) b.2.2.1 + ((mList mStr) b.2.2.2))))) (g := (gInt .u64)) (q := (fun b => gAny b.1 ∧ (gAny b.2.1 ∧ ((gList gAny) b.2.2.1 ∧ ((gList gAny) b.2.2.2)))))
    · rfl
    · kernel_rfl
    · exact (opens_int Try.underlying34)
    apply opensF_cons (d := Kd.string) (e := (Kd.pair Kd.string (Kd.pair (Kd.slice 9 Kd.string) (Kd.slice 9 Kd.string)))) (m := mStr) (k := (fun b => mStr b.1 + ((mList mStr) b.2.1 + ((mList mStr) b.2.2)))) (g := gAny) (q := (fun b => gAny b.1 ∧ ((gList gAny) b.2.1 ∧ ((gList gAny) b.2.2))))
    · rfl
    · kernel_rfl
    · exact (opens_string Try.underlying9)
    apply opensF_cons (d := Kd.string) (e := (Kd.pair (Kd.slice 9 Kd.string) (Kd.slice 9 Kd.string))) (m := mStr) (k := (fun b => (mList mStr) b.1 + ((mList mStr) b.2))) (g := gAny) (q := (fun b => (gList gAny) b.1 ∧ ((gList gAny) b.2)))
    · rfl
    · kernel_rfl
    · exact (opens_string Try.underlying9)
    apply opensF_cons (d := (Kd.slice 9 Kd.string)) (e := (Kd.slice 9 Kd.string)) (m := (mList mStr)) (k := (mList mStr)) (g := (gList gAny)) (q := (gList gAny))
    · rfl
    · kernel_rfl
    · exact (opens_slice Try.underlying36 (by kernel_rfl) (opens_string Try.underlying9))
    apply opensF_one (d := (Kd.slice 9 Kd.string)) (m := (mList mStr)) (g := (gList gAny))
    · rfl
    · kernel_rfl
    · exact (opens_slice Try.underlying36 (by kernel_rfl) (opens_string Try.underlying9)))
def m50 (x : S50) : Nat := mOne x.f0 + (mOne x.f1) + 1
def g50 (x : S50) : Prop := (gInt .i64) x.f0 ∧ ((gInt .i64) x.f1)
theorem o50 : Opens Try.prog 50 k50 m50 g50 :=
  opens_struct (d := (Kd.pair (Kd.int .i64) (Kd.int .i64))) (m := fun b => mOne b.1 + (mOne b.2)) (g := fun b => (gInt .i64) b.1 ∧ ((gInt .i64) b.2)) (fun x : S50 => (x.f0, x.f1)) (fun p => ⟨p.1, p.2⟩) (fun _ => rfl) Try.underlying50 (by kernel_rfl) (by
    apply opensF_cons (d := (Kd.int .i64)) (e := (Kd.int .i64)) (m := mOne) (k := mOne) (g := (gInt .i64)) (q := (gInt .i64))
    · rfl
    · kernel_rfl
    · exact (opens_int Try.underlying3)
    apply opensF_one (d := (Kd.int .i64)) (m := mOne) (g := (gInt .i64))
    · rfl
    · kernel_rfl
    · exact (opens_int Try.underlying3))
end Go.Proofs.Ytkfhajdkpbpkdaa.QOpen
