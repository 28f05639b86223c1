/- Contracts of the servo's functions. -/
import Derived.Test.YtaaocdgbflifhaaFix
import Derived.Test.YtaaocdgbflifhaaServoPlain
import Derived.Test.YtaaocdgbflifhaaMem
import Derived.WalkLawsBesides
import Derived.Deep.RegionWith
import Derived.Deep.DeepCutAuto
namespace Go.Proofs.Ytaaocdgbflifhaa
open Go.RowKit Go.Lib

theorem reti_ {k : IntKind} {a b : Int} (h : a = b) : Value.int k a = .int k b := by rw [h]

theorem sclamp_any (n lo hi : Int) (w : World) :
    Calls Try.prog 41 #[.int .i64 n, .int .i64 lo, .int .i64 hi] w fun e w' => e = .returned (.int .i64 (Pl.clampI n lo hi)) ∧ w = w' := by
  unfold Pl.clampI
  go_enter Try.func41, Try.ntmps41
  go_wp2
  go_ret
  exact ⟨rfl, rfl⟩

theorem swithin_any (n lo hi : Int) (w : World) :
    Calls Try.prog 30 #[.int .i64 n, .int .i64 lo, .int .i64 hi] w fun e w' => e = .returned (.bool (Pl.inB n lo hi)) ∧ w = w' := by
  go_enter Try.func30, Try.ntmps30
  go_wp2_with fail
  refine (sclamp_any _ _ _ _).mono ?_
  rintro e w' ⟨rfl, rfl⟩
  go_wp2
  go_ret
  exact ⟨rfl, rfl⟩

abbrev confV (c : Pl.Conf) : Value := .agg #[.int .i64 c.kp, .int .i64 c.ki, .int .i64 c.lim, .int .i64 c.sf, .int .i64 c.sl]
/-- the cells of a servo -/
abbrev sv (c : Pl.Conf) (s : Pl.St) : Array Value := #[.int .i64 c.kp, .int .i64 c.ki, .int .i64 c.lim, .int .i64 c.sf, .int .i64 c.sl, .int .i64 s.g, .int .i64 s.n, .int .i64 s.f]

theorem scheck_any (c : Pl.Conf) (w : World) :
    Calls Try.prog 12 #[confV c] w fun e w' => e = .returned (.int .i64 c.err) ∧ Below w.heap.size w w' := by
  go_enter Try.func12, Try.ntmps12
  go_wp2_with (go_at_call 30; refine (swithin_any _ _ _ _).mono ?_; rintro e w' ⟨rfl, rfl⟩)
  all_goals (go_ret; exact ⟨congrArg Ending.returned (reti_ (by simp_all [Pl.Conf.err, Pl.Conf.ok])), (Below.refl _ _).alloc (Nat.le_refl _) _⟩)
theorem scheck_yes (c : Pl.Conf) (hc : c.ok = true) (w : World) :
    Calls Try.prog 12 #[confV c] w fun e w' => e = .returned (.int .i64 0) ∧ Below w.heap.size w w' := by
  have := scheck_any c w
  rwa [Pl.Conf.err_yes hc] at this
theorem scheck_no (c : Pl.Conf) (hc : c.ok = false) (w : World) :
    Calls Try.prog 12 #[confV c] w fun e w' => e = .returned (.int .i64 3) ∧ Below w.heap.size w w' := by
  have := scheck_any c w
  rwa [Pl.Conf.err_no hc] at this

theorem snew_no (c : Pl.Conf) (hc : c.ok = false) (w : World) :
    Calls Try.prog 14 #[confV c] w fun e w' => e = .returned (.pointer none) ∧ Below w.heap.size w w' := by
  have H := Lib.hid hc
  clear hc
  go_enter Try.func14, Try.ntmps14
  go_wp2_with (go_at_call 12; refine (scheck_no c H.out _).mono ?_; rintro e w1 ⟨rfl, hb⟩)
  go_ret
  exact ⟨rfl, ((Below.refl _ _).alloc (Nat.le_refl _) _).trans (hb.mono (by simp))⟩

theorem snew_yes (c : Pl.Conf) (hc : c.ok = true) (w : World) :
    Calls Try.prog 14 #[confV c] w fun e w' => ∃ b, e = .returned (.pointer (some ⟨b, 0, none⟩)) ∧ w.heap.size ≤ b ∧ Blk w' b 56 (sv c ⟨0, 0, 0⟩) ∧ Below w.heap.size w w' := by
  have H := Lib.hid hc
  clear hc
  go_enter Try.func14, Try.ntmps14
  go_wp2_with (go_at_call 12; refine (scheck_yes c H.out _).mono ?_; rintro e w1 ⟨rfl, hb⟩; obtain ⟨hcl, hfr⟩ := bcell hb; have hz : w.heap.size + 1 ≤ w1.heap.size := by have := hb.size; simp at this; omega)
  go_ret
  exact ⟨w1.heap.size, rfl, by omega, Blk.new _ _ _, (((Below.refl _ _).alloc (Nat.le_refl _) _).trans (hb.mono (by simp))).alloc (by omega) _⟩

theorem sfreq_any (b : Nat) (c : Pl.Conf) (s : Pl.St) (w : World) (h : Blk w b 56 (sv c s)) :
    Calls Try.prog 19 #[.pointer (some ⟨b, 0, none⟩)] w fun e w' => e = .returned (.int .i64 s.f) ∧ w = w' := by
  have h7 := h.cell 7
  go_enter Try.func19, Try.ntmps19
  go_wp2
  go_ret
  exact ⟨rfl, rfl⟩

theorem ssamples_any (b : Nat) (c : Pl.Conf) (s : Pl.St) (w : World) (h : Blk w b 56 (sv c s)) :
    Calls Try.prog 25 #[.pointer (some ⟨b, 0, none⟩)] w fun e w' => e = .returned (.int .i64 s.n) ∧ w = w' := by
  have h6 := h.cell 6
  go_enter Try.func25, Try.ntmps25
  go_wp2
  go_ret
  exact ⟨rfl, rfl⟩

theorem sslope_any (o p : Int) (w : World) (h : Pl.argsOk o p = true) :
    Calls Try.prog 42 #[.int .i64 o, .int .i64 p] w fun e w' => e = .returned (.int .i64 (Pl.slopeI o p)) ∧ ∃ n, w' = w.drewN n := by
  obtain ⟨⟨a1, a2⟩, a3, a4⟩ := Pl.argsOk_iff.1 h
  clear h
  cases hf : Pl.fit (Pl.md o 1000000000 p) with
  | true =>
    have hk := Pl.kept_yes hf
    have hm := fun W => fmuldiv_any o 1000000000 p (by omega) (by omega) (by omega) (by omega) (by omega) (by omega) W
    rw [hf, hk] at hm
    have H := Lib.hid hm
    clear hm hf hk
    go_enter Try.func42, Try.ntmps42
    go_wp2_with (first | (go_at_call 50; refine (H.out _).mono ?_; rintro e w' ⟨rfl, n1, rfl⟩) | (go_at_call 41; refine (sclamp_any _ _ _ _).mono ?_; rintro e w' ⟨rfl, rfl⟩))
    go_ret
    exact ⟨rfl, n1, rfl⟩
  | false =>
    have hs := Pl.slope_nofit o p (by omega) hf
    have hm := fun W => fmuldiv_any o 1000000000 p (by omega) (by omega) (by omega) (by omega) (by omega) (by omega) W
    rw [hf] at hm
    rw [hs]
    have H := Lib.hid hm
    clear hm hf hs
    by_cases h0 : 0 < o
    · rw [if_pos h0]
      go_enter Try.func42, Try.ntmps42
      go_wp2_with (go_at_call 50; refine (H.out _).mono ?_; rintro e w' ⟨rfl, n1, rfl⟩)
      go_ret
      exact ⟨rfl, n1, rfl⟩
    · rw [if_neg h0]
      go_enter Try.func42, Try.ntmps42
      go_wp2_with (go_at_call 50; refine (H.out _).mono ?_; rintro e w' ⟨rfl, n1, rfl⟩)
      go_ret
      exact ⟨rfl, n1, rfl⟩

theorem sgain_any (k e : Int) (w : World) (h0 : 0 ≤ k) (h1 : k ≤ 1048576) (h2 : -1000000000 ≤ e) (h3 : e ≤ 1000000000) :
    Calls Try.prog 43 #[.int .i64 k, .int .i64 e] w fun e' w' => e' = .returned (.int .i64 (Pl.gainI k e)) ∧ ∃ n, w' = w.drewN n := by
  have hf := Pl.gain_fit k e h0 h1 h2 h3
  have hk := Pl.kept_yes hf
  have hm := fun W => fmuldiv_any k e 65536 (by omega) (by omega) (by omega) (by omega) (by omega) (by omega) W
  rw [hf, hk] at hm
  have H := Lib.hid hm
  clear hm hf hk
  go_enter Try.func43, Try.ntmps43
  go_wp2_with (go_at_call 50; refine (H.out _).mono ?_; rintro e w' ⟨rfl, n1, rfl⟩)
  go_ret
  exact ⟨rfl, n1, rfl⟩

theorem sv_cells {w : World} {b : Nat} {t : TypeId} {c : Pl.Conf} {s : Pl.St} (h : Blk w b t (sv c s)) :
    w.cell? ⟨b, 0, none⟩ = some (.int .i64 c.kp) ∧ w.cell? ⟨b, 1, none⟩ = some (.int .i64 c.ki) ∧ w.cell? ⟨b, 2, none⟩ = some (.int .i64 c.lim) ∧ w.cell? ⟨b, 3, none⟩ = some (.int .i64 c.sf) ∧
    w.cell? ⟨b, 4, none⟩ = some (.int .i64 c.sl) ∧ w.cell? ⟨b, 5, none⟩ = some (.int .i64 s.g) ∧ w.cell? ⟨b, 6, none⟩ = some (.int .i64 s.n) ∧ w.cell? ⟨b, 7, none⟩ = some (.int .i64 s.f) ∧
    w.frozen? ⟨b, 5, none⟩ = false ∧ w.frozen? ⟨b, 6, none⟩ = false ∧ w.frozen? ⟨b, 7, none⟩ = false :=
  ⟨h.cell 0, h.cell 1, h.cell 2, h.cell 3, h.cell 4, h.cell 5, h.cell 6, h.cell 7, h.frozen 5, h.frozen 6, h.frozen 7⟩

end Go.Proofs.Ytaaocdgbflifhaa
