/- tuskref02.mixed walked. -/
import Derived.Test.YtflnlkaednpenaaDoorQBaseMx1
import Derived.Test.YtflnlkaednpenaaDoorMixW
import Derived.Tactics
import Derived.WalkKit
import Derived.KernelRfl
namespace Go.Proofs.YtflnlkaednpenaaDoor.MixX
open Go.RowKit Go.Proofs.YtflnlkaednpenaaDoorW.PrintWords Go.Proofs.YtflnlkaednpenaaDoorW.PrintLast Go.Proofs.YtflnlkaednpenaaDoorW.PrintMore Go.Proofs.YtflnlkaednpenaaDoor.QBaseM Go.Proofs.YtflnlkaednpenaaDoor.MixW
set_option linter.unusedVariables false
set_option linter.unusedSimpArgs false
/-- A number of 32 bits turned right by n. -/
def rotR (x n : Int) : Int := Go.bits .or .u32 (shr .u32 x n) (shl .u32 x (32 - n))
theorem round16 (x : Int) : tuskref02_round.f x 16 = some (rotR x 16) := by
  rw [tuskref02_round.f, if_pos (by decide), show wrap64 (32 - 16) = 16 from by decide +kernel, if_pos (by decide)]; rfl
theorem round12 (x : Int) : tuskref02_round.f x 12 = some (rotR x 12) := by
  rw [tuskref02_round.f, if_pos (by decide), show wrap64 (32 - 12) = 20 from by decide +kernel, if_pos (by decide)]; rfl
theorem round8 (x : Int) : tuskref02_round.f x 8 = some (rotR x 8) := by
  rw [tuskref02_round.f, if_pos (by decide), show wrap64 (32 - 8) = 24 from by decide +kernel, if_pos (by decide)]; rfl
theorem round7 (x : Int) : tuskref02_round.f x 7 = some (rotR x 7) := by
  rw [tuskref02_round.f, if_pos (by decide), show wrap64 (32 - 7) = 25 from by decide +kernel, if_pos (by decide)]; rfl
def mxA (a b x : Int) : Int := (a + b + x) % 4294967296
/-- Four numbers, mixed with two. -/
def mixQ (a b c d x y : Int) : Int × Int × Int × Int :=
  let a1 := mxA a b x
  let d1 := rotR (Go.bits .xor .u32 d a1) 16
  let c1 := (c + d1) % 4294967296
  let b1 := rotR (Go.bits .xor .u32 b c1) 12
  let a2 := mxA a1 b1 y
  let d2 := rotR (Go.bits .xor .u32 d1 a2) 8
  let c2 := (c1 + d2) % 4294967296
  let b2 := rotR (Go.bits .xor .u32 b1 c2) 7
  (a2, b2, c2, d2)
def tuskref02_mixed.f (a b c d x y : Int) : Option (Int × Int × Int × Int) := some (mixQ a b c d x y)
set_option maxHeartbeats 1000000 in
theorem tuskref02_mixed.calls (a0 a1 a2 a3 a4 a5 r1 r2 r3 r4 : Int) (w : World) (h : tuskref02_mixed.f a0 a1 a2 a3 a4 a5 = some (r1, r2, r3, r4)) :
    Calls Tryd.prog 28 #[.int .u32 a0, .int .u32 a1, .int .u32 a2, .int .u32 a3, .int .u32 a4, .int .u32 a5] w fun e w' => e = .returned (.tuple #[.int .u32 r1, .int .u32 r2, .int .u32 r3, .int .u32 r4]) ∧ Drawn0 w w' := by
  have H := Aside0.mk h
  clear h
  go_enter Tryd.func28, Tryd.ntmps28
  go_upto_region 2 with fail
  have eA1 : ((a0 + a1) % 4294967296 + a4) % 4294967296 = (a0 + a1 + a4) % 4294967296 := by omega
  obtain ⟨A1, hA1⟩ : ∃ x, (a0 + a1 + a4) % 4294967296 = x := ⟨_, rfl⟩
  rw [hA1] at eA1
  (first | rw [eA1] | rw [hA1])
  clear eA1
  have RA1 := Aside0.mk hA1
  clear hA1
  go_wp2_with fail
  obtain ⟨D1, hD1⟩ : ∃ x, rotR (Go.bits .xor .u32 a3 A1) 16 = x := ⟨_, rfl⟩
  have RD1 := Aside0.mk hD1
  clear hD1
  refine (tuskref02_round.calls _ _ D1 _ (by rw [round16, RD1.out])).mono ?_
  rintro e w1 ⟨rfl, hd1⟩
  have HD1 := Aside0.mk hd1
  clear hd1
  go_upto_region 4 with fail
  obtain ⟨C1, hC1⟩ : ∃ x, (a2 + D1) % 4294967296 = x := ⟨_, rfl⟩
  rw [hC1]
  have RC1 := Aside0.mk hC1
  clear hC1
  go_wp2_with fail
  obtain ⟨B1, hB1⟩ : ∃ x, rotR (Go.bits .xor .u32 a1 C1) 12 = x := ⟨_, rfl⟩
  have RB1 := Aside0.mk hB1
  clear hB1
  refine (tuskref02_round.calls _ _ B1 _ (by rw [round12, RB1.out])).mono ?_
  rintro e w2 ⟨rfl, hd2⟩
  have HD2 := Aside0.mk hd2
  clear hd2
  go_upto_region 6 with fail
  have eA2 : ((A1 + B1) % 4294967296 + a5) % 4294967296 = (A1 + B1 + a5) % 4294967296 := by omega
  obtain ⟨A2, hA2⟩ : ∃ x, (A1 + B1 + a5) % 4294967296 = x := ⟨_, rfl⟩
  rw [hA2] at eA2
  (first | rw [eA2] | rw [hA2])
  clear eA2
  have RA2 := Aside0.mk hA2
  clear hA2
  go_wp2_with fail
  obtain ⟨D2, hD2⟩ : ∃ x, rotR (Go.bits .xor .u32 D1 A2) 8 = x := ⟨_, rfl⟩
  have RD2 := Aside0.mk hD2
  clear hD2
  refine (tuskref02_round.calls _ _ D2 _ (by rw [round8, RD2.out])).mono ?_
  rintro e w3 ⟨rfl, hd3⟩
  have HD3 := Aside0.mk hd3
  clear hd3
  go_upto_region 8 with fail
  obtain ⟨C2, hC2⟩ : ∃ x, (C1 + D2) % 4294967296 = x := ⟨_, rfl⟩
  rw [hC2]
  have RC2 := Aside0.mk hC2
  clear hC2
  go_wp2_with fail
  obtain ⟨B2, hB2⟩ : ∃ x, rotR (Go.bits .xor .u32 B1 C2) 7 = x := ⟨_, rfl⟩
  have RB2 := Aside0.mk hB2
  clear hB2
  refine (tuskref02_round.calls _ _ B2 _ (by rw [round7, RB2.out])).mono ?_
  rintro e w4 ⟨rfl, hd4⟩
  have HD4 := Aside0.mk hd4
  clear hd4
  go_wp2_with fail
  have h := H.out
  simp only [tuskref02_mixed.f, mixQ, mxA, RA1.out, RD1.out, RC1.out, RB1.out, RA2.out, RD2.out, RC2.out, RB2.out, Option.some.injEq, Prod.mk.injEq] at h
  obtain ⟨rfl, rfl, rfl, rfl⟩ := h
  refine bodyPost_ret (v := .tuple #[.int .u32 A2, .int .u32 B2, .int .u32 C2, .int .u32 D2]) ?_ rfl ⟨rfl, ?_⟩
  · simp [results]
  · obtain ⟨n1, h1⟩ := HD1.out
    obtain ⟨n2, h2⟩ := HD2.out
    obtain ⟨n3, h3⟩ := HD3.out
    obtain ⟨n4, h4⟩ := HD4.out
    subst h1 h2 h3 h4
    exact ((((Drawn0.refl w).step n1).step n2).step n3).step n4
end Go.Proofs.YtflnlkaednpenaaDoor.MixX
