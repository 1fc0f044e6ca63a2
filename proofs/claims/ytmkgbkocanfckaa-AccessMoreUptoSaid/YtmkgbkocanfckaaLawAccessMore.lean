-- The row of the law tusklaw20_AccessMore, where its arguments are of bulk at most 1048576, out of its plain statement and the walk (laid by wip/tools/rowgen.py).
import Derived.Test.YtmkgbkocanfckaaRows
import Derived.Test.YtmkgbkocanfckaaQOpen
import Derived.Test.YtmkgbkocanfckaaHandAccessMore
import Derived.WalkKit
import Derived.ProofKit
import Derived.OpenShut
import Derived.ShutString
import Derived.ChangeOld
import Derived.Below
import Derived.SizedLaws
import Derived.JoinedCond
import Derived.Deep.CondSized
namespace Go.Proofs.Ytmkgbkocanfckaa.accessMoreUpto
open Go.ChangeShapes Go.WideShapes Go.ChangeAt Go.RowKit
open Go.ChangeMaps (open_string shut_string)
open Go.Proofs.YtmkgbkocanfckaaW.PrintWords Go.Proofs.Ytmkgbkocanfckaa.QKinds Go.Proofs.Ytmkgbkocanfckaa.Open Go.Proofs.Ytmkgbkocanfckaa.QOpen
set_option linter.unusedVariables false
set_option linter.unusedSimpArgs false
theorem own : ownKnob Try.prog.godebug = none := by kernel_rfl
theorem laidOut : laidOutB Try.prog = true := by kernel_rfl
set_option maxRecDepth 100000 in
theorem lifted (os : Os) (started : os.Started) (H : Type) (enc : TypeId × Value → H) (F : Stop.Interp) :
    ReturnsInHanded {} Try.checked os 6 .any ((Rows.OpenSpec.upto Rows.accessMoreSpec).pre6 enc Try.prog Try.f6 Rows.accessMoreUptoRow.domain false) (((Rows.OpenSpec.upto Rows.accessMoreSpec).at F).post enc Try.prog Try.f6 false true false false) := by
  refine returnsInHanded_of_cond (C := Try.checked) (s := Rows.OpenSpec.upto Rows.accessMoreSpec) (k := Rows.uptoSmall) rfl own started (by kernel_rfl) Try.func6
    (OpenSpec.witness (enc := enc) (C := Try.checked) (s := Rows.OpenSpec.upto Rows.accessMoreSpec) (k := Rows.uptoSmall) rfl false ⟨#[], #[.slice none 0 0, .agg #[.int .i64 0, .string ByteArray.empty, .string ByteArray.empty, .int .u64 0, .int .u64 0, .string ByteArray.empty, .string ByteArray.empty, .slice none 0 0, .slice none 0 0], .agg #[.int .i64 0, .string ByteArray.empty, .string ByteArray.empty, .int .u64 0, .int .u64 0, .string ByteArray.empty, .string ByteArray.empty, .slice none 0 0, .slice none 0 0], .string ByteArray.empty], []⟩ 8 (by kernel_rfl) (by kernel_rfl) (by kernel_rfl)
      (x := ([.nil, .agg [.lit (.int .i64 0), .lit (.string []), .lit (.string []), .lit (.int .u64 0), .lit (.int .u64 0), .lit (.string []), .lit (.string []), .nil, .nil], .agg [.lit (.int .i64 0), .lit (.string []), .lit (.string []), .lit (.int .u64 0), .lit (.int .u64 0), .lit (.string []), .lit (.string []), .nil, .nil], .lit (.string [])], [], [])) (by kernel_rfl) rfl (by kernel_rfl)) ?_
  intro W base args ds gs before hval0 hW _ hk _
  have hval : ∀ (j : Nat) t v, Try.f6.params[j]? = some t → args[j]? = some v → Value.okWide Try.prog W .any base t v := hval0
  have hW' := hW
  obtain ⟨p, q, hA0, hV, rfl, hfz, hnd⟩ := hW
  have hA : DataW.TrodAll enc Try.prog W 0 (fun _ => true) true Try.f6.params.toList args.toList ds p := hA0
  rw [Try.params6] at hA hval
  obtain ⟨v0, vs0, d0, ds0, p0, q0, hargs, rfl, rfl, h0, r0⟩ := trodAll_cons hA
  obtain ⟨v1, vs1, d1, ds1, p1, q1, rfl, rfl, rfl, h1, r1⟩ := trodAll_cons r0
  obtain ⟨v2, vs2, d2, ds2, p2, q2, rfl, rfl, rfl, h2, r2⟩ := trodAll_cons r1
  obtain ⟨v3, vs3, d3, ds3, p3, q3, rfl, rfl, rfl, h3, r3⟩ := trodAll_cons r2
  obtain ⟨rfl, rfl, rfl⟩ := trodAll_nil r3
  obtain rfl : args = #[v0, v1, v2, v3] := by cases args; simp_all
  obtain ⟨rfl, rfl⟩ := trodVars_none hV
  have hbulk : Rows.uptoBulkAll ([d0, d1, d2, d3] ++ ([] : List (DataW H))) ≤ 1048576 := of_decide_eq_true hk
  simp only [List.append_nil, Rows.uptoBulkAll] at hbulk
  obtain ⟨a0, len0, cap0, rfl⟩ := okWide_slice Try.underlying22 (hval 0 22 v0 rfl rfl)
  have k0 := h0
  have lt0 : ∀ x ∈ p0, x.block < W.heap.size := by obtain ⟨m, hm⟩ := k0; exact DataW.trod_lt m _ _ _ hm
  obtain ⟨l0, rfl, hr0, hc0, hm0, hg0⟩ := slice_arg (opens_slice Try.underlying22 (by kernel_rfl) o26) h0
  obtain ⟨cs1, rfl⟩ : ∃ cs, v1 = .agg cs := by have z := (hval 1 26 v1 rfl rfl); simp only [Value.okWide, Try.underlying26] at z; obtain ⟨cs, hz, _⟩ := z; exact ⟨cs, hz⟩
  have k1 := h1
  have lt1 : ∀ x ∈ p1, x.block < W.heap.size := by obtain ⟨m, hm⟩ := k1; exact DataW.trod_lt m _ _ _ hm
  obtain ⟨x1, hx1, hm1, hg1⟩ := struct_arg o26 h1
  obtain ⟨A1_7, c1_7, A1_8, c1_8, hcs1, hc1_7, hr1_7, hc1_8, hr1_8⟩ := k26_open hx1
  obtain rfl : cs1 = #[.int .i64 x1.f0, .string x1.f1, .string x1.f2, .int .u64 x1.f3, .int .u64 x1.f4, .string x1.f5, .string x1.f6, .slice A1_7 x1.f7.length c1_7, .slice A1_8 x1.f8.length c1_8] := by cases cs1; simp_all
  obtain ⟨cs2, rfl⟩ : ∃ cs, v2 = .agg cs := by have z := (hval 2 26 v2 rfl rfl); simp only [Value.okWide, Try.underlying26] at z; obtain ⟨cs, hz, _⟩ := z; exact ⟨cs, hz⟩
  have k2 := h2
  have lt2 : ∀ x ∈ p2, x.block < W.heap.size := by obtain ⟨m, hm⟩ := k2; exact DataW.trod_lt m _ _ _ hm
  obtain ⟨x2, hx2, hm2, hg2⟩ := struct_arg o26 h2
  obtain ⟨A2_7, c2_7, A2_8, c2_8, hcs2, hc2_7, hr2_7, hc2_8, hr2_8⟩ := k26_open hx2
  obtain rfl : cs2 = #[.int .i64 x2.f0, .string x2.f1, .string x2.f2, .int .u64 x2.f3, .int .u64 x2.f4, .string x2.f5, .string x2.f6, .slice A2_7 x2.f7.length c2_7, .slice A2_8 x2.f8.length c2_8] := by cases cs2; simp_all
  obtain ⟨a3, rfl, rfl, rfl, y3⟩ := open_string Try.underlying9 (hval 3 9 v3 rfl rfl) h3
  have hm3 := string_arg Try.underlying9 h3
  have hb : (mList m26) l0 + m26 x1 + m26 x2 + mStr a3 ≤ 1048576 := by simp only [mList, mOne, mStr] at *; omega
  refine (HandAccessMore.walk l0 x1 x2 a3 W hg0 hg1 hg2 _ _ hr0 hc0 _ _ hr1_7 hc1_7 _ _ hr1_8 hc1_8 _ _ hr2_7 hc2_7 _ _ hr2_8 hc2_8 hb).mono fun e W' ⟨he, bel⟩ => ?_
  subst he
  exact ⟨_, rfl, _, _, _, [], _, [], hW', trodAll_mk1 (shut_bool Try.underlying4 _), (trodAll_cons_mk (Below.trod laidOut (by kernel_rfl) (of_decide_eq_true (by kernel_rfl)) k0 bel lt0) (trodAll_cons_mk (Below.trod laidOut (by kernel_rfl) (of_decide_eq_true (by kernel_rfl)) k1 bel lt1) (trodAll_cons_mk (Below.trod laidOut (by kernel_rfl) (of_decide_eq_true (by kernel_rfl)) k2 bel lt2) (trodAll_cons_mk (shut_string Try.underlying9 y3) trodAll_mk0)))), rfl, bel.frame _, fun h => by cases h⟩
theorem over : Rows.accessMoreUptoRow.holds Try.pinned (Rows.OpenSpec.upto Rows.accessMoreSpec) :=
  OpenClaim.holds_of_cond 6 Try.f6 rfl rfl rfl rfl rfl rfl rfl ⟨rfl, rfl, rfl, rfl, rfl⟩ rfl rfl rfl rfl rfl (by kernel_rfl) Try.func6 (by kernel_rfl)
    (of_decide_eq_true (by kernel_rfl)) (by unfold Func.isWrapper; first | (rw [if_pos (by decide +kernel)]; kernel_rfl) | (rw [if_neg (by decide +kernel)]; exact ⟨rfl, rfl⟩))
    (fun os started H enc _ F => lifted os started H enc F)
theorem proved : Rows.AccessMoreUptoSaid := over
#print axioms proved
end Go.Proofs.Ytmkgbkocanfckaa.accessMoreUpto
namespace Go.Proofs.Ytmkgbkocanfckaa
/-- The row, under a short name, for the claim. -/
theorem accessMoreUpto_holds : Rows.AccessMoreUptoSaid := accessMoreUpto.proved
end Go.Proofs.Ytmkgbkocanfckaa
