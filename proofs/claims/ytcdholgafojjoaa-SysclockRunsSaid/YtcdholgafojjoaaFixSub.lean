/- The contract of fixed.Sub. -/
import Derived.Test.YtcdholgafojjoaaFix
import Derived.Test.YtcdholgafojjoaaMem
import Derived.WalkLawsBesides
import Derived.Deep.RegionWith
import Derived.Deep.DeepCutAuto
namespace Go.Proofs.Ytcdholgafojjoaa
open Go.RowKit Go.Lib

theorem fsub_any (a b : Int) (h1 : -9223372036854775808 ≤ a) (h2 : a ≤ 9223372036854775807) (h3 : -9223372036854775808 ≤ b) (h4 : b ≤ 9223372036854775807) (w : World) :
    Calls Try.prog 48 #[.int .i64 a, .int .i64 b] w fun e w' => e = .returned (.tuple #[.int .i64 (Pl.kept (a - b)), .bool (Pl.fit (a - b))]) ∧ w = w' := by
  cases hf : Pl.fit (a - b) with
  | true =>
    rw [Pl.kept_yes hf]
    have hf' := Pl.fit_iff.1 hf
    clear hf
    rcases Int.lt_or_le a 0 with s1 | s1 <;> rcases Int.lt_or_le b 0 with s2 | s2
    all_goals (go_enter Try.func48, Try.ntmps48)
    all_goals (go_wp2)
    all_goals (first | (exfalso; simp at *; omega) | (refine bodyPost_ret (v := .tuple #[.int .i64 (a - b), .bool true]) (by simp [results, Try.results48, go_sem]) rfl ⟨rfl, rfl⟩))
  | false =>
    have hf' := Pl.fit_no.1 hf
    have e : Pl.kept (a - b) = 0 := by simp [Pl.kept, hf]
    rw [e]
    clear hf e
    rcases Int.lt_or_le a 0 with s1 | s1 <;> rcases Int.lt_or_le b 0 with s2 | s2
    all_goals (first | (exfalso; omega) | skip)
    · obtain ⟨X, hX⟩ : ∃ X, a - b + 18446744073709551616 = X := ⟨_, rfl⟩
      have hw : wrap64 (a - b) = X := by rw [← hX]; unfold wrap64; omega
      have hX1 : 0 ≤ X := by omega
      go_enter Try.func48, Try.ntmps48
      go_wp2
      all_goals first | (exfalso; rename_i h; simp at h; omega) | (refine bodyPost_ret (v := .tuple #[.int .i64 0, .bool false]) (by simp [results, Try.results48, go_sem]) rfl ⟨rfl, rfl⟩)
    · obtain ⟨X, hX⟩ : ∃ X, a - b - 18446744073709551616 = X := ⟨_, rfl⟩
      have hw : wrap64 (a - b) = X := by rw [← hX]; unfold wrap64; omega
      have hX1 : X < 0 := by omega
      go_enter Try.func48, Try.ntmps48
      go_wp2
      all_goals first | (exfalso; rename_i h; simp at h; omega) | (refine bodyPost_ret (v := .tuple #[.int .i64 0, .bool false]) (by simp [results, Try.results48, go_sem]) rfl ⟨rfl, rfl⟩)
end Go.Proofs.Ytcdholgafojjoaa
