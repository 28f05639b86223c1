/- The walk of ServoChecks. -/
import Derived.Test.YtaaocdgbflifhaaServoRef
import Derived.Test.YtaaocdgbflifhaaServoAwake
import Derived.Deep.RegionHeld3
namespace Go.Proofs.Ytaaocdgbflifhaa
open Go.RowKit Go.Lib

/-- the cells of a configuration in a box -/
abbrev cv (c : Pl.Conf) : Array Value := #[.int .i64 c.kp, .int .i64 c.ki, .int .i64 c.lim, .int .i64 c.sf, .int .i64 c.sl]
theorem cv_cells {w : World} {b : Nat} {t : TypeId} {c : Pl.Conf} (h : Blk w b t (cv c)) :
    w.cell? ⟨b, 0, none⟩ = some (.int .i64 c.kp) ∧ w.cell? ⟨b, 1, none⟩ = some (.int .i64 c.ki) ∧ w.cell? ⟨b, 2, none⟩ = some (.int .i64 c.lim) ∧ w.cell? ⟨b, 3, none⟩ = some (.int .i64 c.sf) ∧ w.cell? ⟨b, 4, none⟩ = some (.int .i64 c.sl) :=
  ⟨h.cell 0, h.cell 1, h.cell 2, h.cell 3, h.cell 4⟩

theorem servoChecks_walk (a b c d e : Int) (w : World) (_h : ∀ n ∈ [a, b, c, d, e], (Lit.int .i64 n).wf = true) :
    Calls Try.prog 3 #[.agg ([a, b, c, d, e].map (Value.int .i64)).toArray] w fun e w' => e = .returned (.bool true) ∧ Below w.heap.size w w' := by
  have H : ∀ (cf : Pl.Conf), Calls Try.prog 3 #[confV cf] w fun e w' => e = .returned (.bool true) ∧ Below w.heap.size w w' := by
    intro cf
    cases hc : cf.ok with
    | true =>
      have H := Lib.hid hc
      clear hc
      go_enter Try.func3, Try.ntmps3
      go_wp2_with fail
      have HB : Below w.heap.size w (w.alloc (.cells #[.int .i64 cf.kp, .int .i64 cf.ki, .int .i64 cf.lim, .int .i64 cf.sf, .int .i64 cf.sl] 23)) := (Below.refl _ _).alloc (Nat.le_refl _) _
      have HK : Blk (w.alloc (.cells #[.int .i64 cf.kp, .int .i64 cf.ki, .int .i64 cf.lim, .int .i64 cf.sf, .int .i64 cf.sl] 23)) w.heap.size 23 (cv cf) := Blk.new _ _ _
      go_region_held3 (fun w' => w'.cell? ⟨w.heap.size, 0, none⟩ = some (.int .i64 cf.kp) ∧ w'.cell? ⟨w.heap.size, 1, none⟩ = some (.int .i64 cf.ki) ∧ w'.cell? ⟨w.heap.size, 2, none⟩ = some (.int .i64 cf.lim) ∧ w'.cell? ⟨w.heap.size, 3, none⟩ = some (.int .i64 cf.sf) ∧ w'.cell? ⟨w.heap.size, 4, none⟩ = some (.int .i64 cf.sl)) (first | exact cv_cells HK | exact cv_cells HK.drew) ((first
        | (go_at_call 12; refine (scheck_yes cf H.out _).mono ?_; rintro e w1 ⟨rfl, hb⟩; have HB : Below w.heap.size w w1 := (by first | exact HB.trans (hb.mono HB.size) | exact HB.drew.trans (hb.mono HB.drew.size)); have HK : Blk w1 w.heap.size 23 (cv cf) := (by first | exact HK.below_ hb | exact HK.drew.below_ hb))
        | (go_at_call 13; refine (tcheck_yes cf H.out _).mono ?_; rintro e w1 ⟨rfl, hb⟩; have HB : Below w.heap.size w w1 := (by first | exact HB.trans (hb.mono HB.size) | exact HB.drew.trans (hb.mono HB.drew.size)); have HK : Blk w1 w.heap.size 23 (cv cf) := (by first | exact HK.below_ hb | exact HK.drew.below_ hb))
        | (go_at_call 14; refine (snew_yes cf H.out _).mono ?_; rintro e w1 ⟨b, rfl, hb0, hk, hb⟩; have HB : Below w.heap.size w w1 := (by first | exact HB.trans (hb.mono HB.size) | exact HB.drew.trans (hb.mono HB.drew.size)); have HK : Blk w1 w.heap.size 23 (cv cf) := (by first | exact HK.below_ hb | exact HK.drew.below_ hb))
        | (go_at_call 15; refine (awake_any _).mono ?_; rintro e w1 ⟨rfl, hb⟩; have HB : Below w.heap.size w w1 := (by first | exact HB.trans (hb.mono HB.size) | exact HB.drew.trans (hb.mono HB.drew.size)); have HK : Blk w1 w.heap.size 23 (cv cf) := (by first | exact HK.below_ hb | exact HK.drew.below_ hb))))
      all_goals (go_wp2; go_ret; exact ⟨rfl, HB⟩)
    | false =>
      have H := Lib.hid hc
      clear hc
      go_enter Try.func3, Try.ntmps3
      go_wp2_with fail
      have HB : Below w.heap.size w (w.alloc (.cells #[.int .i64 cf.kp, .int .i64 cf.ki, .int .i64 cf.lim, .int .i64 cf.sf, .int .i64 cf.sl] 23)) := (Below.refl _ _).alloc (Nat.le_refl _) _
      have HK : Blk (w.alloc (.cells #[.int .i64 cf.kp, .int .i64 cf.ki, .int .i64 cf.lim, .int .i64 cf.sf, .int .i64 cf.sl] 23)) w.heap.size 23 (cv cf) := Blk.new _ _ _
      go_region_held3 (fun w' => w'.cell? ⟨w.heap.size, 0, none⟩ = some (.int .i64 cf.kp) ∧ w'.cell? ⟨w.heap.size, 1, none⟩ = some (.int .i64 cf.ki) ∧ w'.cell? ⟨w.heap.size, 2, none⟩ = some (.int .i64 cf.lim) ∧ w'.cell? ⟨w.heap.size, 3, none⟩ = some (.int .i64 cf.sf) ∧ w'.cell? ⟨w.heap.size, 4, none⟩ = some (.int .i64 cf.sl)) (first | exact cv_cells HK | exact cv_cells HK.drew) ((first
        | (go_at_call 12; refine (scheck_no cf H.out _).mono ?_; rintro e w1 ⟨rfl, hb⟩; have HB : Below w.heap.size w w1 := (by first | exact HB.trans (hb.mono HB.size) | exact HB.drew.trans (hb.mono HB.drew.size)); have HK : Blk w1 w.heap.size 23 (cv cf) := (by first | exact HK.below_ hb | exact HK.drew.below_ hb))
        | (go_at_call 13; refine (tcheck_no cf H.out _).mono ?_; rintro e w1 ⟨rfl, hb⟩; have HB : Below w.heap.size w w1 := (by first | exact HB.trans (hb.mono HB.size) | exact HB.drew.trans (hb.mono HB.drew.size)); have HK : Blk w1 w.heap.size 23 (cv cf) := (by first | exact HK.below_ hb | exact HK.drew.below_ hb))
        | (go_at_call 14; refine (snew_no cf H.out _).mono ?_; rintro e w1 ⟨rfl, hb⟩; have HB : Below w.heap.size w w1 := (by first | exact HB.trans (hb.mono HB.size) | exact HB.drew.trans (hb.mono HB.drew.size)); have HK : Blk w1 w.heap.size 23 (cv cf) := (by first | exact HK.below_ hb | exact HK.drew.below_ hb))
        | (go_at_call 15; refine (awake_any _).mono ?_; rintro e w1 ⟨rfl, hb⟩; have HB : Below w.heap.size w w1 := (by first | exact HB.trans (hb.mono HB.size) | exact HB.drew.trans (hb.mono HB.drew.size)); have HK : Blk w1 w.heap.size 23 (cv cf) := (by first | exact HK.below_ hb | exact HK.drew.below_ hb))))
      all_goals (go_wp2; go_ret; exact ⟨rfl, HB⟩)
  exact H ⟨a, b, c, d, e⟩
end Go.Proofs.Ytaaocdgbflifhaa
