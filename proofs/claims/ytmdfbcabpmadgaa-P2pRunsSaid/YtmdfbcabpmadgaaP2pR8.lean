/- The contracts of the reference's Delay and Ratio. -/
import Derived.Test.YtmdfbcabpmadgaaP2pR7
namespace Go.Proofs.Ytmdfbcabpmadgaa
namespace Pl
def sumL : List Int → Int
  | [] => 0
  | a :: r => a + sumL r
theorem sumL_app (l m : List Int) : sumL (l ++ m) = sumL l + sumL m := by
  induction l with
  | nil => simp [sumL]
  | cons a r ih =>
    rw [List.cons_append, sumL, sumL, ih]
    omega
theorem sumL_in {l : List Int} {M : Int} (h : ∀ x ∈ l, 0 ≤ x ∧ x ≤ M) : 0 ≤ sumL l ∧ sumL l ≤ l.length * M := by
  induction l with
  | nil => simp [sumL]
  | cons a r ih =>
    have h1 := h a (by simp)
    have h2 := ih (fun x hx => h x (by simp [hx]))
    rw [sumL, List.length_cons, Int.natCast_succ, Int.add_mul]
    omega
theorem sumL_succ {l : List Int} {k : Nat} {v : Int} (h : l[k]? = some v) : sumL (l.take (k + 1)) = sumL (l.take k) + v := by
  rw [List.take_add_one, h, sumL_app]
  simp [sumL]
def delBY (ds : List Int) : Bool := !(ds.length == 0)
def delNY (ds : List Int) : Int := if ds.length = 0 then 0 else sumL ds / (ds.length : Int)
def ratBY (y : YS) : Bool := decide (2 ≤ y.cnt) && decide (0 < y.l2 - y.f2)
def ratNY (y : YS) : Int := if ratBY y = true then max (-500000) (min (md ((y.l1 - y.f1) - (y.l2 - y.f2)) 1000000000 (y.l2 - y.f2)) 500000) else 0
structure YOk2 (y : YS) : Prop where
  f1 : -4503599627370496 ≤ y.f1 ∧ y.f1 ≤ 4503599627370496
  f2 : -4503599627370496 ≤ y.f2 ∧ y.f2 ≤ 4503599627370496
  l1 : -4503599627370496 ≤ y.l1 ∧ y.l1 ≤ 4503599627370496
  l2 : -4503599627370496 ≤ y.l2 ∧ y.l2 ≤ 4503599627370496
end Pl
open Go.RowKit Go.Lib Go.Maps
theorem own_at {w : World} {B n c k : Nat} {a : Option Addr} {ds : List Int} {v : Int} (h : w.ownsRow B 3 1 (.slice a n c) n (ds.map (Value.int .i64))) (hk : ds[k]? = some v) : ∃ g, a = some ⟨g, 0, none⟩ ∧ w.cell? ⟨g, k, none⟩ = some (.int .i64 v) ∧ g < w.heap.size := by
  have hl : ds.length = n := by simpa using h.1
  have hk' := (List.getElem?_eq_some_iff.1 hk).1
  obtain ⟨g, cap, hv⟩ := own_form h (by omega)
  injection hv with hv _ _
  subst hv
  refine ⟨g, rfl, ?_, ?_⟩
  · rw [h.cellAt k (by omega), List.getElem?_map, hk]
    rfl
  · exact (h.lt g rfl).2
set_option maxHeartbeats 4000000 in
theorem ydel_any (B b : Nat) (y : Pl.YS) (a : Option Addr) (n c : Nat) (ds : List Int) (w : World) (hy : Blk w b 74 (yA y (.slice a n c))) (hown : w.ownsRow B 3 1 (.slice a n c) n (ds.map (Value.int .i64))) (hn : n ≤ 8) (hds : ∀ x ∈ ds, 0 ≤ x ∧ x ≤ 18014398509481984) :
    Calls Try.prog 21 #[.pointer (some ⟨b, 0, none⟩)] w fun e w' => e = .returned (.tuple #[.int .i64 (Pl.delNY ds), .bool (Pl.delBY ds)]) ∧ w' = w := by
  have hlen : ds.length = n := by simpa using hown.1
  have y29 : w.cell? ⟨b, 29, none⟩ = some (.slice a n c) := hy.cell 29
  have yz := hy.lt
  by_cases h0 : n = 0
  · subst h0
    have e1 : Pl.delBY ds = false := by unfold Pl.delBY; simp [hlen]
    have e2 : Pl.delNY ds = 0 := by unfold Pl.delNY; rw [if_pos hlen]
    rw [e1, e2]
    clear e1 e2 hlen hds hown hy hn
    go_enter Try.func21, Try.ntmps21
    go_wp2
    go_ret2
    exact ⟨rfl, rfl⟩
  · have e1 : Pl.delBY ds = true := by unfold Pl.delBY; simp [hlen, h0]
    have e2 : Pl.delNY ds = Pl.sumL ds / (n : Int) := by unfold Pl.delNY; rw [if_neg (by omega), hlen]
    rw [e1, e2]
    have t1 : ((n : Int) == 0) = false := by simp [h0]
    have t2 : (n == 0) = false := by simp [h0]
    have hS : Hid (∀ k, k ≤ n → 0 ≤ Pl.sumL (ds.take k) ∧ Pl.sumL (ds.take k) ≤ 144115188075855872) := Lib.hid (fun k hk => by
      have h1 := Pl.sumL_in (l := ds.take k) (fun x hx => hds x (List.mem_of_mem_take hx))
      have h2 : (ds.take k).length = k := by rw [List.length_take]; omega
      rw [h2] at h1
      omega)
    have O := Lib.hid hown
    have HL := Lib.hid hlen
    have hn8 : (n : Int) ≤ 8 := by omega
    have hn0 : 0 < (n : Int) := by omega
    have ht : ds.take n = ds := by rw [← hlen, List.take_length]
    obtain ⟨R, hR⟩ : ∃ R, Pl.sumL ds / (n : Int) = R := ⟨_, rfl⟩
    have hs := hS.out n (Nat.le_refl _)
    rw [ht] at hs
    have hq : (Pl.sumL ds).tdiv (n : Int) = R := by
      rw [Int.tdiv_eq_ediv_of_nonneg hs.1, hR]
    have hRb : 0 ≤ R ∧ R ≤ 144115188075855872 := by
      have a1 := Int.ediv_nonneg hs.1 (show (0 : Int) ≤ (n : Int) by omega)
      have a2 := Int.ediv_le_self (n : Int) hs.1
      omega
    have kwR : IntKind.i64.wrap R = R := IntWalk.i64_in _ (by omega)
    rw [hR]
    have HT := Lib.hid ht
    clear e1 e2 hlen hds hown hy h0 hR hs ht
    go_enter Try.func21, Try.ntmps21
    go_wp2_with fail
    go_loop [4, 5] (fun s i => ∃ k : Nat, i = .int .i64 k ∧ s = .int .i64 (Pl.sumL (ds.take k)) ∧ k ≤ n) (fun _ i => n - (RowKit.intOf i).toNat)
    case atStart => exact ⟨0, rfl, by simp [Pl.sumL], by omega⟩
    case round =>
      obtain ⟨k, rfl, rfl, hk⟩ := hrel
      by_cases hlt : k < n
      · obtain ⟨v, hv⟩ : ∃ v, ds[k]? = some v := ⟨_, List.getElem?_eq_getElem (by have := HL.out; omega)⟩
        obtain ⟨g, rfl, c1, hgz⟩ := own_at O.out hv
        have t3 : decide ((k : Int) < (n : Int)) = true := by simp [hlt]
        have hs1 := hS.out (k + 1) (by omega)
        have hs0 := hS.out k (by omega)
        have es := Pl.sumL_succ hv
        rw [es] at hs1
        have kw : IntKind.i64.wrap (Pl.sumL (ds.take k) + v) = Pl.sumL (ds.take (k + 1)) := (IntWalk.i64_in _ (by omega)).trans es.symm
        have kw2 : IntKind.i64.wrap ((k : Int) + 1) = (k : Int) + 1 := IntWalk.i64_in _ (by omega)
        have hk0 : (0 : Int) ≤ (k : Int) := by omega
        have hkn : (k : Int) < (n : Int) := by omega
        clear hs1 es hv
        go_wp2_with fail
        go_round
        case rel => exact ⟨k + 1, by go_num, rfl, by omega⟩
        case measure => simp [RowKit.intOf]; omega
      · obtain rfl : k = n := by omega
        have t3 : decide ((k : Int) < (k : Int)) = false := by simp
        rw [HT.out]
        go_wp2_with fail
        go_ret2
        exact ⟨rfl, rfl⟩
set_option maxHeartbeats 4000000 in
theorem yrat_any (b : Nat) (y : Pl.YS) (sv : Value) (w : World) (hy : Blk w b 74 (yA y sv)) (hok : Pl.YOk2 y) : Calls Try.prog 23 #[.pointer (some ⟨b, 0, none⟩)] w fun e w' => e = .returned (.tuple #[.int .i64 (Pl.ratNY y), .bool (Pl.ratBY y)]) ∧ ∃ n, w' = w.drewN n := by
  have y30 : w.cell? ⟨b, 30, none⟩ = some (.int .i64 y.cnt) := hy.cell 30
  have y31 : w.cell? ⟨b, 31, none⟩ = some (.int .i64 y.f1) := hy.cell 31
  have y32 : w.cell? ⟨b, 32, none⟩ = some (.int .i64 y.f2) := hy.cell 32
  have y33 : w.cell? ⟨b, 33, none⟩ = some (.int .i64 y.l1) := hy.cell 33
  have y34 : w.cell? ⟨b, 34, none⟩ = some (.int .i64 y.l2) := hy.cell 34
  have yz := hy.lt
  obtain ⟨a1, a2⟩ := hok.f1
  obtain ⟨a3, a4⟩ := hok.f2
  obtain ⟨a5, a6⟩ := hok.l1
  obtain ⟨a7, a8⟩ := hok.l2
  by_cases c : y.cnt < 2
  · have e1 : Pl.ratBY y = false := by unfold Pl.ratBY; simp; omega
    have e2 : Pl.ratNY y = 0 := by unfold Pl.ratNY; rw [e1, if_neg (by simp)]
    rw [e1, e2]
    have t1 : decide (y.cnt < 2) = true := by simp [c]
    clear c hok hy e1 e2 a1 a2 a3 a4 a5 a6 a7 a8
    go_enter Try.func23, Try.ntmps23
    go_wp2_with fail
    go_quiet (fail)
    go_wp2
    go_ret2
    exact ⟨rfl, _, rfl⟩
  · have t1 : decide (y.cnt < 2) = false := by simp; omega
    obtain ⟨P, hP⟩ : ∃ P, y.l1 - y.f1 = P := ⟨_, rfl⟩
    obtain ⟨L, hL⟩ : ∃ P, y.l2 - y.f2 = P := ⟨_, rfl⟩
    have kw1 : IntKind.i64.wrap (y.l1 - y.f1) = P := (IntWalk.i64_in _ (by omega)).trans hP
    have kw2 : IntKind.i64.wrap (y.l2 - y.f2) = L := (IntWalk.i64_in _ (by omega)).trans hL
    by_cases d : L ≤ 0
    · have e1 : Pl.ratBY y = false := by unfold Pl.ratBY; rw [hL]; simp; omega
      have e2 : Pl.ratNY y = 0 := by unfold Pl.ratNY; rw [e1, if_neg (by simp)]
      rw [e1, e2]
      have t2 : decide (y.l2 ≤ y.f2) = true := by simp; omega
      clear c hok hy e1 e2 a1 a2 a3 a4 a5 a6 a7 a8 hP hL d
      go_enter Try.func23, Try.ntmps23
      go_wp2_with fail
      go_quiet (fail)
      go_wp2
      go_ret2
      exact ⟨rfl, _, rfl⟩
    · have t2 : decide (y.l2 ≤ y.f2) = false := by simp; omega
      have e1 : Pl.ratBY y = true := by unfold Pl.ratBY; rw [hL]; simp; omega
      have e2 : Pl.ratNY y = max (-500000) (min (Pl.md (P - L) 1000000000 L) 500000) := by unfold Pl.ratNY; rw [e1, if_pos rfl, hP, hL]
      rw [e1, e2]
      have hPL : -36028797018963968 ≤ P - L ∧ P - L ≤ 36028797018963968 := by omega
      have kw3 : IntKind.i64.wrap (P - L) = P - L := IntWalk.i64_in _ (by omega)
      have MD := fun W => rmuldiv_any (P - L) 1000000000 L (by omega) (by omega) (by omega) (by omega) (by omega) (by omega) W
      have hlow : P ≤ L → Pl.md (P - L) 1000000000 L ≤ 0 := fun h => by
        unfold Pl.md
        exact Int.ediv_nonpos_of_nonpos_of_neg (by omega) (by omega)
      have hup : L ≤ P → 0 ≤ Pl.md (P - L) 1000000000 L := fun h => by
        unfold Pl.md
        exact Int.ediv_nonneg (by omega) (by omega)
      obtain ⟨M, hM⟩ : ∃ M, Pl.md (P - L) 1000000000 L = M := ⟨_, rfl⟩
      rw [hM] at MD hlow hup ⊢
      cases hf : Pl.fit M with
      | true =>
        rw [hf, Pl.kept_yes hf] at MD
        replace MD := Lib.hid MD
        have CL := fun W => rclamp_any M (-500000) 500000 W
        rw [show (if M < -500000 then -500000 else if 500000 < M then 500000 else M) = max (-500000) (min M 500000) by split <;> (try split) <;> omega] at CL
        replace CL := Lib.hid CL
        clear c hok hy e1 e2 a1 a2 a3 a4 a5 a6 a7 a8 hP hL d hf hM hPL hlow hup
        go_enter Try.func23, Try.ntmps23
        go_wp2_with fail
        go_quiet (fail)
        go_wp2_with fail
        go_quiet (fail)
        go_wp2_with fail
        go_quiet (fail)
        go_wp2_with fail
        refine (MD.out _).mono ?_
        rintro _ w2 ⟨rfl, rfl⟩
        go_wp2_with fail
        refine (CL.out _).mono ?_
        rintro _ w3 ⟨rfl, rfl⟩
        go_wp2
        go_ret2
        exact ⟨rfl, _, rfl⟩
      | false =>
        rw [hf, Pl.kept_no hf] at MD
        replace MD := Lib.hid MD
        have hf' := Pl.fit_no.1 hf
        by_cases q : L < P
        · have t3 : decide (L < P) = true := by simp [q]
          have t4 : decide (P < L) = false := by simp; omega
          have CL := Lib.hid (fun W => rclamp_any 500000 (-500000) 500000 W)
          rw [show max (-500000) (min M 500000) = 500000 by have := hup (by omega); omega]
          clear c hok hy e1 e2 a1 a2 a3 a4 a5 a6 a7 a8 hP hL d hf hf' hM hPL hlow hup q
          go_enter Try.func23, Try.ntmps23
          go_wp2_with fail
          go_quiet (fail)
          go_wp2_with fail
          go_quiet (fail)
          go_wp2_with fail
          go_quiet (fail)
          go_wp2_with fail
          refine (MD.out _).mono ?_
          rintro _ w2 ⟨rfl, rfl⟩
          go_wp2_with fail
          refine (CL.out _).mono ?_
          rintro _ w3 ⟨rfl, rfl⟩
          go_wp2
          go_ret2
          exact ⟨rfl, _, rfl⟩
        · have hne : P ≠ L := fun e => by
            subst e
            have h1 := hlow (by omega)
            have h2 := hup (by omega)
            omega
          have t3 : decide (L < P) = false := by simp; omega
          have t4 : decide (P < L) = true := by simp; omega
          have CL := Lib.hid (fun W => rclamp_any (-500000) (-500000) 500000 W)
          rw [show max (-500000) (min M 500000) = -500000 by have := hlow (by omega); omega]
          clear c hok hy e1 e2 a1 a2 a3 a4 a5 a6 a7 a8 hP hL d hf hf' hM hPL hlow hup q hne
          go_enter Try.func23, Try.ntmps23
          go_wp2_with fail
          go_quiet (fail)
          go_wp2_with fail
          go_quiet (fail)
          go_wp2_with fail
          go_quiet (fail)
          go_wp2_with fail
          refine (MD.out _).mono ?_
          rintro _ w2 ⟨rfl, rfl⟩
          go_wp2_with fail
          refine (CL.out _).mono ?_
          rintro _ w3 ⟨rfl, rfl⟩
          go_wp2
          go_ret2
          exact ⟨rfl, _, rfl⟩
end Go.Proofs.Ytmdfbcabpmadgaa
