/- TopPeer: for every input the law returns true, and each argument reads behind the call as it read before. No condition. -/
import Derived.Test.YtmdfbcabpmadgaaTopPeer
import Derived.Test.YtmdfbcabpmadgaaOpenIn
import Derived.Test.YtmdfbcabpmadgaaRows
namespace Go.Proofs.Ytmdfbcabpmadgaa.topPeer
open Go.ChangeShapes Go.WideShapes Go.ChangeAt Go.RowKit Go.Deep
set_option linter.unusedVariables false

theorem own : ownKnob Try.prog.godebug = none := by kernel_rfl
theorem laidOut : laidOutB Try.prog = true := by kernel_rfl

set_option maxRecDepth 100000 in
theorem lifted (os : Os) (started : os.Started) (H : Type) (enc : TypeId × Value → H) :
    ReturnsInHanded {} Try.checked os 3 .any (Rows.topPeerSpec.pre6 enc Try.prog Try.f3 Rows.topPeerRow.domain false) (Rows.topPeerSpec.post enc Try.prog Try.f3 false true false false) := by
  refine returnsInHanded_of_change (C := Try.checked) own started (by kernel_rfl) Try.func3
    (ChangeSpec.witness6 (enc := enc) (C := Try.checked) false ⟨#[], #[.agg #[.int .i64 0, .int .i64 0, .int .i64 0, .int .i64 0, .slice none 0 0], .int .i64 0], []⟩ 8 (by kernel_rfl) (by kernel_rfl) (by kernel_rfl) (by kernel_rfl)) ?_
  intro W base args ds gs before hval0 hW hcnd _
  have hval : ∀ (j : Nat) t v, Try.f3.params[j]? = some t → args[j]? = some v → Value.okWide Try.prog W .any base t v := hval0
  have hW' := hW
  obtain ⟨p, q, hA0, hV, rfl, hfz, hnd⟩ := hW
  have hA : DataW.TrodAll enc Try.prog W 0 (fun _ => true) true Try.f3.params.toList args.toList ds p := hA0
  rw [Try.params3] at hA hval
  obtain ⟨v0, vs0, d0, ds0, p0, q0, hargs, rfl, rfl, h0, r0⟩ := trodAll_cons hA
  obtain ⟨v1, vs1, d1, ds1, p1, q1, rfl, rfl, rfl, h1, r1⟩ := trodAll_cons r0
  obtain ⟨rfl, rfl, rfl⟩ := trodAll_nil r1
  obtain rfl : args = #[v0, v1] := by cases args; simp_all
  obtain ⟨rfl, rfl⟩ := trodVars_none hV
  have k0 := h0
  have lt0 : ∀ x ∈ p0, x.block < W.heap.size := by obtain ⟨m, hm⟩ := k0; exact DataW.trod_lt m _ _ _ hm
  obtain ⟨l0, hl0, rfl, hc0⟩ := open_cells Try.underlying24 (by kernel_rfl) (by kernel_rfl) (hval 0 24 v0 rfl rfl) h0
  obtain ⟨c00, c01, c02, c03, c04, rfl⟩ := list5 hl0
  obtain ⟨_, _, _, e00, q00⟩ := hc0 0 _ rfl
  injection e00 with e00
  subst e00
  obtain ⟨a00, rfl, u00⟩ := cell_int Try.underlying3 q00
  obtain ⟨_, _, _, e01, q01⟩ := hc0 1 _ rfl
  injection e01 with e01
  subst e01
  obtain ⟨a01, rfl, u01⟩ := cell_int Try.underlying3 q01
  obtain ⟨_, _, _, e02, q02⟩ := hc0 2 _ rfl
  injection e02 with e02
  subst e02
  obtain ⟨a02, rfl, u02⟩ := cell_int Try.underlying3 q02
  obtain ⟨_, _, _, e03, q03⟩ := hc0 3 _ rfl
  injection e03 with e03
  subst e03
  obtain ⟨a03, rfl, u03⟩ := cell_int Try.underlying3 q03
  obtain ⟨_, _, _, e04, q04⟩ := hc0 4 _ rfl
  injection e04 with e04
  subst e04
  obtain ⟨x0, len0, cap0, z0, rfl, w0⟩ := cell_ints Try.underlying22 Try.underlying3 (by kernel_rfl) q04
  have k1 := h1
  have lt1 : ∀ x ∈ p1, x.block < W.heap.size := by obtain ⟨m, hm⟩ := k1; exact DataW.trod_lt m _ _ _ hm
  obtain ⟨a1, rfl, rfl, rfl, w1⟩ := open_int Try.underlying3 (hval 1 3 v1 rfl rfl) h1
  clear hA0 hval0
  refine (topPeer_walk a00 a01 a02 a03 x0 len0 cap0 z0 a1 W w0 w1).mono fun e W' ⟨he, bel⟩ => ?_
  subst he
  exact ⟨_, rfl, _, _, _, [], _, [], hW', trodAll_mk1 (shut_bool Try.underlying4 _), (trodAll_cons_mk (Below.trod laidOut (by kernel_rfl) (of_decide_eq_true (by kernel_rfl)) k0 bel lt0) (trodAll_cons_mk (Below.trod laidOut (by kernel_rfl) (of_decide_eq_true (by kernel_rfl)) k1 bel lt1) trodAll_mk0)), rfl, bel.frame _, fun h => by cases h⟩

theorem over : Rows.topPeerRow.holds Try.pinned (OpenSpec.ofChange Rows.topPeerSpec) :=
  OpenClaim.holds_of_wide 3 Try.f3 rfl rfl rfl rfl rfl rfl rfl ⟨rfl, rfl, rfl, rfl, rfl⟩ rfl rfl rfl rfl rfl (by kernel_rfl) Try.func3 (by kernel_rfl)
    (of_decide_eq_true (by kernel_rfl)) (by unfold Func.isWrapper; first | (rw [if_pos (by decide +kernel)]; kernel_rfl) | (rw [if_neg (by decide +kernel)]; exact ⟨rfl, rfl⟩))
    (fun os started H enc _ => lifted os started H enc)

/-- The statement. -/
theorem proved : Rows.TopPeerSaid := over
#print axioms proved
end Go.Proofs.Ytmdfbcabpmadgaa.topPeer
