-- The bulk of the program's own types (laid by wip/tools/rowgen.py).
import Derived.Test.YtdaklahoainpfaaOpen
import Derived.Test.YtdaklahoainpfaaQKinds
namespace Go.Proofs.Ytdaklahoainpfaa.QOpen
open Go.Proofs.YtdaklahoainpfaaW.PrintWords Go.Proofs.Ytdaklahoainpfaa.QKinds Go.Proofs.Ytdaklahoainpfaa.Open
set_option linter.unusedVariables false
def m77 (x : S77) : Nat := mOne x.f0 + (mStr x.f1) + 1
def g77 (x : S77) : Prop := (gInt .i64) x.f0 ∧ (gAny x.f1)
theorem o77 : Opens Try.prog 77 k77 m77 g77 :=
  opens_struct (d := (Kd.pair (Kd.int .i64) Kd.string)) (m := fun b => mOne b.1 + (mStr b.2)) (g := fun b => (gInt .i64) b.1 ∧ (gAny b.2)) (fun x : S77 => (x.f0, x.f1)) (fun p => ⟨p.1, p.2⟩) (fun _ => rfl) Try.underlying77 (by kernel_rfl) (by
    apply opensF_cons (d := (Kd.int .i64)) (e := Kd.string) (m := mOne) (k := mStr) (g := (gInt .i64)) (q := gAny)
    · rfl
    · kernel_rfl
    · exact (opens_int Try.underlying3)
    apply opensF_one (d := Kd.string) (m := mStr) (g := gAny)
    · rfl
    · kernel_rfl
    · exact (opens_string Try.underlying9))
def m69 (x : S69) : Nat := mStr x.f0 + ((mList m77) x.f1) + 1
def g69 (x : S69) : Prop := gAny x.f0 ∧ ((gList g77) x.f1)
theorem o69 : Opens Try.prog 69 k69 m69 g69 :=
  opens_struct (d := (Kd.pair Kd.string (Kd.slice 77 k77))) (m := fun b => mStr b.1 + ((mList m77) b.2)) (g := fun b => gAny b.1 ∧ ((gList g77) b.2)) (fun x : S69 => (x.f0, x.f1)) (fun p => ⟨p.1, p.2⟩) (fun _ => rfl) Try.underlying69 (by kernel_rfl) (by
    apply opensF_cons (d := Kd.string) (e := (Kd.slice 77 k77)) (m := mStr) (k := (mList m77)) (g := gAny) (q := (gList g77))
    · rfl
    · kernel_rfl
    · exact (opens_string Try.underlying9)
    apply opensF_one (d := (Kd.slice 77 k77)) (m := (mList m77)) (g := (gList g77))
    · rfl
    · kernel_rfl
    · exact (opens_slice Try.underlying26 (by kernel_rfl) o77))
def m25 (x : S25) : Nat := mOne x.f0 + (mOne x.f1 + ((mList m69) x.f2 + ((mList mStr) x.f3))) + 1
def g25 (x : S25) : Prop := (gInt .i64) x.f0 ∧ ((gInt .i64) x.f1 ∧ ((gList g69) x.f2 ∧ ((gList gAny) x.f3)))
theorem o25 : Opens Try.prog 25 k25 m25 g25 :=
  opens_struct (d := (Kd.pair (Kd.int .i64) (Kd.pair (Kd.int .i64) (Kd.pair (Kd.slice 69 k69) (Kd.slice 9 Kd.string))))) (m := fun b => mOne b.1 + (mOne b.2.1 + ((mList m69) b.2.2.1 + ((mList mStr) b.2.2.2)))) (g := fun b => (gInt .i64) b.1 ∧ ((gInt .i64) b.2.1 ∧ ((gList g69) b.2.2.1 ∧ ((gList gAny) b.2.2.2)))) (fun x : S25 => (x.f0, x.f1, x.f2, x.f3)) (fun p => ⟨p.1, p.2.1, p.2.2.1, p.2.2.2⟩) (fun _ => rfl) Try.underlying25 (by kernel_rfl) (by
    apply opensF_cons (d := (Kd.int .i64)) (e := (Kd.pair (Kd.int .i64) (Kd.pair (Kd.slice 69 k69) (Kd.slice 9 Kd.string)))) (m := mOne) (k := (fun b => mOne b.1 + ((mList m69) b.2.1 + ((mList mStr) b.2.2)))) (g := (gInt .i64)) (q := (fun b => (gInt .i64) b.1 ∧ ((gList g69) b.2.1 ∧ ((gList gAny) b.2.2))))
    · rfl
    · kernel_rfl
    · exact (opens_int Try.underlying3)
    apply opensF_cons (d := (Kd.int .i64)) (e := (Kd.pair (Kd.slice 69 k69) (Kd.slice 9 Kd.string))) (m := mOne) (k := (fun b => (mList m69) b.1 + ((mList mStr) b.2))) (g := (gInt .i64)) (q := (fun b => (gList g69) b.1 ∧ ((gList gAny) b.2)))
    · rfl
    · kernel_rfl
    · exact (opens_int Try.underlying3)
    apply opensF_cons (d := (Kd.slice 69 k69)) (e := (Kd.slice 9 Kd.string)) (m := (mList m69)) (k := (mList mStr)) (g := (gList g69)) (q := (gList gAny))
    · rfl
    · kernel_rfl
    · exact (opens_slice Try.underlying22 (by kernel_rfl) o69)
    apply opensF_one (d := (Kd.slice 9 Kd.string)) (m := (mList mStr)) (g := (gList gAny))
    · rfl
    · kernel_rfl
    · exact (opens_slice Try.underlying23 (by kernel_rfl) (opens_string Try.underlying9)))
def m28 (x : S28) : Nat := m25 x.f0 + ((mList m77) x.f1) + 1
def g28 (x : S28) : Prop := g25 x.f0 ∧ ((gList g77) x.f1)
theorem o28 : Opens Try.prog 28 k28 m28 g28 :=
  opens_struct (d := (Kd.pair k25 (Kd.slice 77 k77))) (m := fun b => m25 b.1 + ((mList m77) b.2)) (g := fun b => g25 b.1 ∧ ((gList g77) b.2)) (fun x : S28 => (x.f0, x.f1)) (fun p => ⟨p.1, p.2⟩) (fun _ => rfl) Try.underlying28 (by kernel_rfl) (by
    apply opensF_cons (d := k25) (e := (Kd.slice 77 k77)) (m := m25) (k := (mList m77)) (g := g25) (q := (gList g77))
    · rfl
    · kernel_rfl
    · exact o25
    apply opensF_one (d := (Kd.slice 77 k77)) (m := (mList m77)) (g := (gList g77))
    · rfl
    · kernel_rfl
    · exact (opens_slice Try.underlying26 (by kernel_rfl) o77))
def m43 (x : S43) : Nat := mOne x.f0 + (mStr x.f1 + ((mList m77) x.f2)) + 1
def g43 (x : S43) : Prop := (gInt .i64) x.f0 ∧ (gAny x.f1 ∧ ((gList g77) x.f2))
theorem o43 : Opens Try.prog 43 k43 m43 g43 :=
  opens_struct (d := (Kd.pair (Kd.int .i64) (Kd.pair Kd.string (Kd.slice 77 k77)))) (m := fun b => mOne b.1 + (mStr b.2.1 + ((mList m77) b.2.2))) (g := fun b => (gInt .i64) b.1 ∧ (gAny b.2.1 ∧ ((gList g77) b.2.2))) (fun x : S43 => (x.f0, x.f1, x.f2)) (fun p => ⟨p.1, p.2.1, p.2.2⟩) (fun _ => rfl) Try.underlying43 (by kernel_rfl) (by
    apply opensF_cons (d := (Kd.int .i64)) (e := (Kd.pair Kd.string (Kd.slice 77 k77))) (m := mOne) (k := (fun b => mStr b.1 + ((mList m77) b.2))) (g := (gInt .i64)) (q := (fun b => gAny b.1 ∧ ((gList g77) b.2)))
    · rfl
    · kernel_rfl
    · exact (opens_int Try.underlying3)
    apply opensF_cons (d := Kd.string) (e := (Kd.slice 77 k77)) (m := mStr) (k := (mList m77)) (g := gAny) (q := (gList g77))
    · rfl
    · kernel_rfl
    · exact (opens_string Try.underlying9)
    apply opensF_one (d := (Kd.slice 77 k77)) (m := (mList m77)) (g := (gList g77))
    · rfl
    · kernel_rfl
    · exact (opens_slice Try.underlying26 (by kernel_rfl) o77))
def m45 (x : S45) : Nat := mOne x.f0 + (m43 x.f1 + ((mList mStr) x.f2)) + 1
def g45 (x : S45) : Prop := (gInt .i64) x.f0 ∧ (g43 x.f1 ∧ ((gList gAny) x.f2))
theorem o45 : Opens Try.prog 45 k45 m45 g45 :=
  opens_struct (d := (Kd.pair (Kd.int .i64) (Kd.pair k43 (Kd.slice 9 Kd.string)))) (m := fun b => mOne b.1 + (m43 b.2.1 + ((mList mStr) b.2.2))) (g := fun b => (gInt .i64) b.1 ∧ (g43 b.2.1 ∧ ((gList gAny) b.2.2))) (fun x : S45 => (x.f0, x.f1, x.f2)) (fun p => ⟨p.1, p.2.1, p.2.2⟩) (fun _ => rfl) Try.underlying45 (by kernel_rfl) (by
    apply opensF_cons (d := (Kd.int .i64)) (e := (Kd.pair k43 (Kd.slice 9 Kd.string))) (m := mOne) (k := (fun b => m43 b.1 + ((mList mStr) b.2))) (g := (gInt .i64)) (q := (fun b => g43 b.1 ∧ ((gList gAny) b.2)))
    · rfl
    · kernel_rfl
    · exact (opens_int Try.underlying3)
    apply opensF_cons (d := k43) (e := (Kd.slice 9 Kd.string)) (m := m43) (k := (mList mStr)) (g := g43) (q := (gList gAny))
    · rfl
    · kernel_rfl
    · exact o43
    apply opensF_one (d := (Kd.slice 9 Kd.string)) (m := (mList mStr)) (g := (gList gAny))
    · rfl
    · kernel_rfl
    · exact (opens_slice Try.underlying23 (by kernel_rfl) (opens_string Try.underlying9)))
def m59 (x : S59) : Nat := mStr x.f0 + (mOne x.f1) + 1
def g59 (x : S59) : Prop := gAny x.f0 ∧ ((gInt .i64) x.f1)
theorem o59 : Opens Try.prog 59 k59 m59 g59 :=
  opens_struct (d := (Kd.pair Kd.string (Kd.int .i64))) (m := fun b => mStr b.1 + (mOne b.2)) (g := fun b => gAny b.1 ∧ ((gInt .i64) b.2)) (fun x : S59 => (x.f0, x.f1)) (fun p => ⟨p.1, p.2⟩) (fun _ => rfl) Try.underlying59 (by kernel_rfl) (by
    apply opensF_cons (d := Kd.string) (e := (Kd.int .i64)) (m := mStr) (k := mOne) (g := gAny) (q := (gInt .i64))
    · rfl
    · kernel_rfl
    · exact (opens_string Try.underlying9)
    apply opensF_one (d := (Kd.int .i64)) (m := mOne) (g := (gInt .i64))
    · rfl
    · kernel_rfl
    · exact (opens_int Try.underlying29))
def m63 (x : S63) : Nat := mStr x.f0 + (mOne x.f1) + 1
def g63 (x : S63) : Prop := gAny x.f0 ∧ ((gInt .i64) x.f1)
theorem o63 : Opens Try.prog 63 k63 m63 g63 :=
  opens_struct (d := (Kd.pair Kd.string (Kd.int .i64))) (m := fun b => mStr b.1 + (mOne b.2)) (g := fun b => gAny b.1 ∧ ((gInt .i64) b.2)) (fun x : S63 => (x.f0, x.f1)) (fun p => ⟨p.1, p.2⟩) (fun _ => rfl) Try.underlying63 (by kernel_rfl) (by
    apply opensF_cons (d := Kd.string) (e := (Kd.int .i64)) (m := mStr) (k := mOne) (g := gAny) (q := (gInt .i64))
    · rfl
    · kernel_rfl
    · exact (opens_string Try.underlying9)
    apply opensF_one (d := (Kd.int .i64)) (m := mOne) (g := (gInt .i64))
    · rfl
    · kernel_rfl
    · exact (opens_int Try.underlying29))
end Go.Proofs.Ytdaklahoainpfaa.QOpen
