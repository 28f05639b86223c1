/- The contracts of the servo's checked, Sample and Reset. -/
import Derived.Test.YtaaocdgbflifhaaServoFreq
import Derived.Laws.EntriesVeiled
import Derived.Lib.Hide
namespace Go.Proofs.Ytaaocdgbflifhaa
open Go.RowKit Go.Lib

theorem inner_any (b : Nat) (c : Pl.Conf) (s : Pl.St) (o p : Int) (w : World) (h : Blk w b 56 (sv c s)) (hc : c.ok = true) (hi : Pl.Inv c s) (hn' : s.n ≤ 1000000) (ha : Pl.argsOk o p = true) :
    Calls Try.prog 32 #[.pointer (some ⟨b, 0, none⟩), .int .i64 o, .int .i64 p] w fun e w' => e = .returned (.agg #[.int .i64 (Pl.stepR c s o p).k, .int .i64 (Pl.stepR c s o p).v]) ∧ Left 56 b c (Pl.stepS c s o p) w w' := by
  unfold Pl.stepR Pl.stepS
  rw [if_pos ha, if_pos ha]
  cases hs : Pl.isStep c s o with
  | true => exact ssample_step b c s o p w h hc hi.2.2.2.2 hn' ha hs
  | false => exact ssample_freq b c s o p w h hc hi hn' ha hs

/-- A callee's sample, seen from the caller that laid a box for the result and stores it there. -/
theorem left_out {T : TypeId} {b : Nat} {c : Pl.Conf} {s : Pl.St} {w w1 : World} {o : Obj} (h : Left T b c s (w.alloc o) w1) (hb : b < w.heap.size) (x y : Value) :
    Left T b c s w ((w1.setCell ⟨w.heap.size, 0, none⟩ x).setCell ⟨w.heap.size, 1, none⟩ y) :=
  ⟨(h.1.far (p := ⟨w.heap.size, 0, none⟩) (Nat.ne_of_lt hb) _).far (p := ⟨w.heap.size, 1, none⟩) (Nat.ne_of_lt hb) _,
    only_setNew (only_setNew (only_trans (only_alloc (only_refl _ _) _) h.2) (p := ⟨w.heap.size, 0, none⟩) (Nat.le_refl _) _) (p := ⟨w.heap.size, 1, none⟩) (Nat.le_refl _) _⟩
/-- .. and its box is still there. -/
theorem left_box {T : TypeId} {b : Nat} {c : Pl.Conf} {s : Pl.St} {w w1 : World} {t : TypeId} {cs : Array Value} (h : Left T b c s (w.alloc (.cells cs t)) w1) (hb : b < w.heap.size) : Blk w1 w.heap.size t cs ∧ w.heap.size + 1 ≤ w1.heap.size :=
  ⟨(Blk.new w t cs).grown h.2 (fun e => by injection e with e; omega), by have := h.2.size; simp at this; omega⟩

theorem schecked_yes (b : Nat) (c : Pl.Conf) (s : Pl.St) (o p : Int) (w : World) (h : Blk w b 56 (sv c s)) (hc : c.ok = true) (hi : Pl.Inv c s) (hn' : s.n ≤ 1000000) (ha : Pl.argsOk o p = true) :
    Calls Try.prog 31 #[.int .i64 o, .int .i64 p, .func (.func 32) #[.pointer (some ⟨b, 0, none⟩)] #[]] w fun e w' => e = .returned (.tuple #[.agg #[.int .i64 (Pl.stepR c s o p).k, .int .i64 (Pl.stepR c s o p).v], .int .i64 0]) ∧ Left 56 b c (Pl.stepS c s o p) w w' := by
  have hlt := h.lt
  have ha' := ha
  unfold Pl.argsOk at ha'
  simp only [Bool.and_eq_true] at ha'
  obtain ⟨ha1, ha2⟩ := ha'
  have HA := Lib.hid (And.intro h (And.intro hc (And.intro hi ha)))
  obtain ⟨R, hR⟩ : ∃ R, Pl.stepR c s o p = R := ⟨_, rfl⟩
  obtain ⟨S, hS⟩ : ∃ S, Pl.stepS c s o p = S := ⟨_, rfl⟩
  have HC := Lib.hid (fun W (k : Blk W b 56 (sv c s)) => inner_any b c s o p W k hc hi hn' ha)
  rw [hR, hS] at HC
  rw [hR, hS]
  clear h hc hi ha hR hS
  go_enter Try.func31, Try.ntmps31
  go_wp2_with (first
    | (go_at_call 30; refine (swithin_any _ _ _ _).mono ?_; rintro e w' ⟨rfl, rfl⟩)
    | (go_at_call 32
       refine (HC.out _ (HA.out.1.alloc _)).mono ?_
       rintro e w1 ⟨rfl, hs⟩
       obtain ⟨hbx, hz⟩ := left_box hs hlt
       have c0 : w1.cell? ⟨w.heap.size, 0, none⟩ = some (.int .i64 0) := hbx.cell 0
       have c1 : w1.cell? ⟨w.heap.size, 1, none⟩ = some (.int .i64 0) := hbx.cell 1
       have c2 := hbx.frozen 0
       have c3 := hbx.frozen 1
       have HL := Lib.hid hs
       clear hs hbx))
  refine bodyPost_ret (v := .tuple #[.agg #[.int .i64 R.k, .int .i64 R.v], .int .i64 0]) (by simp [results, Try.results31, go_sem, c0, c1]) rfl ⟨rfl, ?_⟩
  exact left_out HL.out hlt _ _

theorem schecked_no (b : Nat) (c : Pl.Conf) (s : Pl.St) (o p : Int) (w : World) (h : Blk w b 56 (sv c s)) (ha : Pl.argsOk o p = false) (v : Value) :
    Calls Try.prog 31 #[.int .i64 o, .int .i64 p, v] w fun e w' => e = .returned (.tuple #[.agg #[.int .i64 0, .int .i64 0], .int .i64 3]) ∧ Left 56 b c s w w' := by
  have hlt := h.lt
  have HB := Lib.hid h
  unfold Pl.argsOk at ha
  clear h
  cases h1 : Pl.inB o (-1125899906842624) 1125899906842624 with
  | true =>
    rw [h1, Bool.true_and] at ha
    go_enter Try.func31, Try.ntmps31
    go_wp2_with (go_at_call 30; refine (swithin_any _ _ _ _).mono ?_; rintro e w' ⟨rfl, rfl⟩)
    exact bodyPost_ret (v := .tuple #[.agg #[.int .i64 0, .int .i64 0], .int .i64 3]) (by simp [results, Try.results31, go_sem]) rfl ⟨rfl, left_no HB.out _⟩
  | false =>
    clear ha
    go_enter Try.func31, Try.ntmps31
    go_wp2_with (go_at_call 30; refine (swithin_any _ _ _ _).mono ?_; rintro e w' ⟨rfl, rfl⟩)
    exact bodyPost_ret (v := .tuple #[.agg #[.int .i64 0, .int .i64 0], .int .i64 3]) (by simp [results, Try.results31, go_sem]) rfl ⟨rfl, left_no HB.out _⟩

theorem schecked_any (b : Nat) (c : Pl.Conf) (s : Pl.St) (o p : Int) (w : World) (h : Blk w b 56 (sv c s)) (hc : c.ok = true) (hi : Pl.Inv c s) (hn' : s.n ≤ 1000000) :
    Calls Try.prog 31 #[.int .i64 o, .int .i64 p, .func (.func 32) #[.pointer (some ⟨b, 0, none⟩)] #[]] w fun e w' => e = .returned (.tuple #[.agg #[.int .i64 (Pl.stepR c s o p).k, .int .i64 (Pl.stepR c s o p).v], .int .i64 (Pl.stepR c s o p).e]) ∧ Left 56 b c (Pl.stepS c s o p) w w' := by
  cases ha : Pl.argsOk o p with
  | true =>
    have he : (Pl.stepR c s o p).e = 0 := by unfold Pl.stepR; rw [if_pos ha]; split <;> rfl
    rw [he]
    exact schecked_yes b c s o p w h hc hi hn' ha
  | false =>
    have e1 : Pl.stepR c s o p = ⟨0, 0, 3⟩ := by unfold Pl.stepR; rw [ha]; rfl
    have e2 : Pl.stepS c s o p = s := by unfold Pl.stepS; rw [ha]; rfl
    rw [e1, e2]
    exact schecked_no b c s o p w h ha _

theorem ssample_any (b : Nat) (c : Pl.Conf) (s : Pl.St) (o p : Int) (w : World) (h : Blk w b 56 (sv c s)) (hc : c.ok = true) (hi : Pl.Inv c s) (hn' : s.n ≤ 1000000) :
    Calls Try.prog 16 #[.pointer (some ⟨b, 0, none⟩), .int .i64 o, .int .i64 p] w fun e w' => e = .returned (.tuple #[.agg #[.int .i64 (Pl.stepR c s o p).k, .int .i64 (Pl.stepR c s o p).v], .int .i64 (Pl.stepR c s o p).e]) ∧ Left 56 b c (Pl.stepS c s o p) w w' := by
  have hlt := h.lt
  have HB := Lib.hid h
  have HC := Lib.hid (fun W (k : Blk W b 56 (sv c s)) => schecked_any b c s o p W k hc hi hn')
  obtain ⟨R, hR⟩ : ∃ R, Pl.stepR c s o p = R := ⟨_, rfl⟩
  obtain ⟨S, hS⟩ : ∃ S, Pl.stepS c s o p = S := ⟨_, rfl⟩
  rw [hR, hS] at HC
  rw [hR, hS]
  have hmf : ∀ (fn : Fn) (first cap : Array Value) (w : World), (Instr.makeFunc fn first cap).run Try.prog w = .ok (.func fn first cap) w := fun _ _ _ _ => rfl
  clear h hc hi hn' hR hS
  go_enter Try.func16, Try.ntmps16
  go_wp2_with (
       go_at_call 31
       refine (HC.out _ (HB.out.alloc _)).mono ?_
       rintro e w1 ⟨rfl, hs⟩
       obtain ⟨hbx, hz⟩ := left_box hs hlt
       have c0 : w1.cell? ⟨w.heap.size, 0, none⟩ = some (.int .i64 0) := hbx.cell 0
       have c1 : w1.cell? ⟨w.heap.size, 1, none⟩ = some (.int .i64 0) := hbx.cell 1
       have c2 := hbx.frozen 0
       have c3 := hbx.frozen 1
       have HL := Lib.hid hs
       clear hs hbx)
  refine bodyPost_ret (v := .tuple #[.agg #[.int .i64 R.k, .int .i64 R.v], .int .i64 R.e]) (by simp [results, Try.results16, go_sem, c0, c1]) rfl ⟨rfl, ?_⟩
  exact left_out HL.out hlt _ _

theorem left_reset {T : TypeId} {b : Nat} {c : Pl.Conf} {s : Pl.St} {w : World} (h : Blk w b T (sv c s)) : Left T b c ⟨0, 0, s.f⟩ w ((w.setCell ⟨b, 5, none⟩ (.int .i64 0)).setCell ⟨b, 6, none⟩ (.int .i64 0)) := by
  have h1 : Blk (w.setCell ⟨b, 5, none⟩ (.int .i64 0)) b T (sv c ⟨0, s.n, s.f⟩) := by rw [← sv_set5 c s 0]; exact h.set_ 5 _
  have h2 : Blk ((w.setCell ⟨b, 5, none⟩ (.int .i64 0)).setCell ⟨b, 6, none⟩ (.int .i64 0)) b T (sv c ⟨0, 0, s.f⟩) := by have := h1.set_ 6 (.int .i64 0); rw [sv_set6] at this; exact this
  have g1 : w.grownBy (w.setCell ⟨b, 5, none⟩ (.int .i64 0)) (some b) := only_setCell (p := ⟨b, 5, none⟩) (only_refl w (some b)) (.inl rfl) _
  have g2 := only_setCell (p := ⟨b, 6, none⟩) g1 (.inl rfl) (.int .i64 0)
  exact ⟨h2, g2⟩

theorem sreset_any (b : Nat) (c : Pl.Conf) (s : Pl.St) (w : World) (h : Blk w b 56 (sv c s)) :
    Calls Try.prog 22 #[.pointer (some ⟨b, 0, none⟩)] w fun e w' => e = .returned (.tuple #[]) ∧ Left 56 b c ⟨0, 0, s.f⟩ w w' := by
  obtain ⟨h0, h1, h2, h3, h4, h5, h6, h7, f5, f6, f7⟩ := sv_cells h
  have HB := Lib.hid h
  clear h
  go_enter Try.func22, Try.ntmps22
  go_wp2
  go_end0
  exact ⟨rfl, left_reset HB.out⟩

/-- Sample, its outcome under names of the caller's own. -/
theorem ssample_as (b : Nat) (c : Pl.Conf) (s : Pl.St) (o p k v x : Int) (s' : Pl.St) (hR : Hid (Pl.stepR c s o p = ⟨k, v, x⟩ ∧ Pl.stepS c s o p = s')) (w : World) (h : Blk w b 56 (sv c s)) (hc : c.ok = true) (hi : Pl.Inv c s) (hn' : s.n ≤ 1000000) :
    Calls Try.prog 16 #[.pointer (some ⟨b, 0, none⟩), .int .i64 o, .int .i64 p] w fun e w' => e = .returned (.tuple #[.agg #[.int .i64 k, .int .i64 v], .int .i64 x]) ∧ Left 56 b c s' w w' := by
  have := ssample_any b c s o p w h hc hi hn'
  rw [hR.out.1, hR.out.2] at this
  exact this

theorem snil_sample (o p : Int) (w : World) :
    Calls Try.prog 16 #[.pointer none, .int .i64 o, .int .i64 p] w fun e w' => e = .returned (.tuple #[.agg #[.int .i64 0, .int .i64 0], .int .i64 1]) ∧ Below w.heap.size w w' := by
  go_enter Try.func16, Try.ntmps16
  go_wp2
  exact bodyPost_ret (v := .tuple #[.agg #[.int .i64 0, .int .i64 0], .int .i64 1]) (by simp [results, Try.results16, go_sem]) rfl ⟨rfl, (Below.refl _ _).alloc (Nat.le_refl _) _⟩
theorem snil_freq (w : World) : Calls Try.prog 19 #[.pointer none] w fun e w' => e = .returned (.int .i64 0) ∧ w = w' := by
  go_enter Try.func19, Try.ntmps19
  go_wp2
  go_ret
  exact ⟨rfl, rfl⟩
theorem snil_samples (w : World) : Calls Try.prog 25 #[.pointer none] w fun e w' => e = .returned (.int .i64 0) ∧ w = w' := by
  go_enter Try.func25, Try.ntmps25
  go_wp2
  go_ret
  exact ⟨rfl, rfl⟩
theorem snil_reset (w : World) : Calls Try.prog 22 #[.pointer none] w fun e w' => e = .returned (.tuple #[]) ∧ w = w' := by
  go_enter Try.func22, Try.ntmps22
  go_wp2
  exact bodyPost_ret (results_none rfl _ _ _) rfl ⟨rfl, rfl⟩

end Go.Proofs.Ytaaocdgbflifhaa
