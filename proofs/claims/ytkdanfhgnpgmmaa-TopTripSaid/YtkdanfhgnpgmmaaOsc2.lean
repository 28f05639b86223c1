/- Contracts of osc.spans and osc.reading. -/
import Derived.Test.YtkdanfhgnpgmmaaOsc1
import Derived.Laws.MakeOwn
namespace Go.Proofs.Ytkdanfhgnpgmmaa
namespace Pl
theorem tdiv_le (p d : Int) (hd : 0 < d) : (0 ≤ p → 0 ≤ p.tdiv d ∧ p.tdiv d ≤ p) ∧ (p ≤ 0 → p ≤ p.tdiv d ∧ p.tdiv d ≤ 0) := by
  constructor
  · intro h
    rw [Int.tdiv_eq_ediv_of_nonneg h]
    exact ⟨Int.ediv_nonneg h (by omega), Int.ediv_le_self d h⟩
  · intro h
    obtain ⟨q, rfl⟩ : ∃ q, p = -q := ⟨-p, by omega⟩
    rw [Int.neg_tdiv, Int.tdiv_eq_ediv_of_nonneg (by omega)]
    have := Int.ediv_nonneg (show 0 ≤ q by omega) (show 0 ≤ d by omega)
    have := Int.ediv_le_self d (show 0 ≤ q by omega)
    omega
theorem floor_tdiv {a b : Int} (hb : 0 < b) : a / b = if a.tmod b < 0 then a.tdiv b - 1 else a.tdiv b := by
  rcases Int.lt_or_le a 0 with h | h
  · obtain ⟨n, rfl⟩ : ∃ n, a = -n := ⟨-a, by omega⟩
    rw [Int.neg_tdiv, Int.neg_tmod, Int.tdiv_eq_ediv_of_nonneg (by omega), Int.tmod_eq_emod_of_nonneg (by omega)]
    have e := Int.mul_ediv_add_emod n b
    have r1 := Int.emod_nonneg n (show b ≠ 0 by omega)
    have r2 := Int.emod_lt_of_pos n hb
    generalize n / b = Q at *
    generalize n % b = R at *
    by_cases c : R = 0
    · rw [if_neg (by omega)]
      refine ((Int.ediv_emod_unique (r := 0) hb).2 ⟨?_, by omega, hb⟩).1
      rw [Int.mul_neg]
      omega
    · rw [if_pos (by omega)]
      refine ((Int.ediv_emod_unique (r := b - R) hb).2 ⟨?_, by omega, by omega⟩).1
      rw [Int.mul_sub, Int.mul_neg]
      omega
  · rw [Int.tdiv_eq_ediv_of_nonneg h, Int.tmod_eq_emod_of_nonneg h]
    rw [if_neg (by have := Int.emod_nonneg a (show b ≠ 0 by omega); omega)]
theorem tmod_in {a b : Int} (hb : 0 < b) : -b < a.tmod b ∧ a.tmod b < b := by
  rcases Int.lt_or_le a 0 with h | h
  · obtain ⟨n, rfl⟩ : ∃ n, a = -n := ⟨-a, by omega⟩
    rw [Int.neg_tmod, Int.tmod_eq_emod_of_nonneg (by omega)]
    have r1 := Int.emod_nonneg n (show b ≠ 0 by omega)
    have r2 := Int.emod_lt_of_pos n hb
    omega
  · rw [Int.tmod_eq_emod_of_nonneg h]
    have r1 := Int.emod_nonneg a (show b ≠ 0 by omega)
    have r2 := Int.emod_lt_of_pos a hb
    omega
theorem floor_in {a b K : Int} (hb : 0 < b) (h1 : -K ≤ a) (h2 : a ≤ K) (hK : 0 ≤ K) : -K ≤ a / b ∧ a / b ≤ K := by
  have k := Int.mul_le_mul_of_nonneg_left (show 1 ≤ b by omega) hK
  constructor
  · rw [Int.le_ediv_iff_mul_le hb, Int.neg_mul]
    omega
  · have : a / b < K + 1 := by
      rw [Int.ediv_lt_iff_lt_mul hb, Int.add_mul]
      omega
    omega
end Pl
open Go.RowKit Go.Lib
theorem run_make_rowN {P : Program} (t e : TypeId) (i : TypeInfo) (z : Value) (ht : P.underlying t = some (.slice e)) (hi : P.info? e = some i) (hz : i.zero = some z)
    (kl kc : IntKind) (n c : Nat) (hnc : n ≤ c) (hbytes : i.bytes * c ≤ 281474976710656) (h63 : c ≤ 9223372036854775807) (w : World) :
    (Instr.makeSlice t (.int kl (n : Int)) (.int kc (c : Int))).run P w = .ok (.slice (some ⟨w.heap.size, 0, none⟩) n c) (w.alloc (.cells (madeCells z.cells (c * i.size)) e)) := by
  have hb : (i.bytes : Int) * (c : Int) ≤ 281474976710656 := by
    have h : ((i.bytes * c : Nat) : Int) ≤ 281474976710656 := by omega
    rwa [Int.natCast_mul] at h
  have hr := run_make (P := P) w t e i z ht hi hz kl kc n c (by omega) (by omega) hb (by omega)
  simp only [Int.toNat_natCast] at hr
  exact hr
/-- the spans' row as it is made -/
theorem make_spans (n : Nat) (hn : n ≤ 16) : ∃ cs : Array Value, cs.size = n * 3 ∧ ∀ w : World, (Instr.makeSlice 65 (.int .i64 (n : Int)) (.int .i64 (n : Int))).run Try.prog w = .ok (.slice (some ⟨w.heap.size, 0, none⟩) n n) (w.alloc (.cells cs 74)) := by
  have h : (Try.prog.info? 74).map (fun i => (i.zero, i.size, i.bytes)) = some (some (.agg #[.int .i64 0, .int .i64 0, .int .i64 0]), 3, 24) := by kernel_rfl
  cases hi : Try.prog.info? 74 with
  | none => rw [hi] at h; cases h
  | some i =>
    rw [hi] at h
    simp only [Option.map_some, Option.some.injEq, Prod.mk.injEq] at h
    obtain ⟨hz, hs, hb⟩ := h
    refine ⟨_, ?_, fun w => run_make_rowN _ _ i _ Try.underlying65 hi hz .i64 .i64 n n (Nat.le_refl _) (by rw [hb]; omega) (by omega) w⟩
    rw [size_madeCells, hs]
/-- the row of spans in block g -/
def Trips (W : World) (g len : Nat) (z : Nat → Nat → Int) : Prop :=
  g < W.heap.size ∧ ∀ i, i < len → W.cell? ⟨g, i * 3, none⟩ = some (.int .i64 (z i 0)) ∧ W.cell? ⟨g, i * 3 + 1, none⟩ = some (.int .i64 (z i 1)) ∧ W.cell? ⟨g, i * 3 + 2, none⟩ = some (.int .i64 (Pl.endOf (atZ z) len i))
theorem Trips.on {w W : World} {g len : Nat} {z : Nat → Nat → Int} (h : Trips w g len z) (l : Below w.heap.size w W) : Trips W g len z :=
  ⟨Nat.lt_of_lt_of_le h.1 l.size, fun i hi => ⟨(l.cell (p := ⟨g, i * 3, none⟩) h.1).trans (h.2 i hi).1, (l.cell (p := ⟨g, i * 3 + 1, none⟩) h.1).trans (h.2 i hi).2.1, (l.cell (p := ⟨g, i * 3 + 2, none⟩) h.1).trans (h.2 i hi).2.2⟩⟩
/-- while the spans are laid: k of them are -/
def Sps (w W : World) (ph : Int) (x : Option Addr) (len cap : Nat) (z : Nat → Nat → Int) (cs : Array Value) (k : Nat) : Prop :=
  One w W 46 (osA ph x len cap) ∧ Blk W (w.heap.size + 1) 74 cs ∧ cs.size = len * 3 ∧ Blk W (w.heap.size + 2) 68 #[.int .i64 (z (len - 1) 0), .int .i64 (z (len - 1) 1)] ∧
  ∀ i, i < k → cs[i * 3]? = some (.int .i64 (z i 0)) ∧ cs[i * 3 + 1]? = some (.int .i64 (z i 1)) ∧ cs[i * 3 + 2]? = some (.int .i64 (Pl.endOf (atZ z) len i))

/-- row k is being laid -/
def Mid (w W : World) (ph : Int) (x : Option Addr) (len cap : Nat) (z : Nat → Nat → Int) (cs : Array Value) (k : Nat) (a b e : Value) : Prop :=
  Sps w W ph x len cap z cs k ∧ k < len ∧ cs[k * 3]? = some a ∧ cs[k * 3 + 1]? = some b ∧ cs[k * 3 + 2]? = some e
theorem get_ne {cs : Array Value} {i j : Nat} {v : Value} (h : i ≠ j) : (cs.setIfInBounds i v)[j]? = cs[j]? := by rw [Array.getElem?_setIfInBounds, if_neg h]
theorem get_eq {cs : Array Value} {i : Nat} {v : Value} (h : i < cs.size) : (cs.setIfInBounds i v)[i]? = some v := by rw [Array.getElem?_setIfInBounds, if_pos rfl, if_pos h]
section
variable {w W : World} {ph : Int} {x : Option Addr} {len cap : Nat} {z : Nat → Nat → Int} {cs : Array Value} {k : Nat}
theorem Sps.alloc (h : Sps w W ph x len cap z cs k) (o : Obj) : Sps w (W.alloc o) ph x len cap z cs k := ⟨h.1.on (bel_box W o), h.2.1.alloc o, h.2.2.1, h.2.2.2.1.alloc o, h.2.2.2.2⟩
theorem Sps.set (h : Sps w W ph x len cap z cs k) (j : Nat) (hj : k * 3 ≤ j) (v : Value) : Sps w (W.setCell ⟨w.heap.size + 1, j, none⟩ v) ph x len cap z (cs.setIfInBounds j v) k :=
  ⟨⟨Below.setCell (p := ⟨w.heap.size + 1, j, none⟩) h.1.1 (by show w.heap.size ≤ w.heap.size + 1; omega) v, h.1.2.far (p := ⟨w.heap.size + 1, j, none⟩) (by show w.heap.size ≠ w.heap.size + 1; omega) v⟩, h.2.1.set_ j v, by simpa using h.2.2.1,
    h.2.2.2.1.far (p := ⟨w.heap.size + 1, j, none⟩) (by show w.heap.size + 2 ≠ w.heap.size + 1; omega) v,
    fun i hi => by rw [get_ne (by omega), get_ne (by omega), get_ne (by omega)]; exact h.2.2.2.2 i hi⟩
theorem Sps.mid (h : Sps w W ph x len cap z cs k) (hk : k < len) (a b e : Value) : Mid w (((W.setCell ⟨w.heap.size + 1, k * 3, none⟩ a).setCell ⟨w.heap.size + 1, k * 3 + 1, none⟩ b).setCell ⟨w.heap.size + 1, k * 3 + 2, none⟩ e) ph x len cap z (((cs.setIfInBounds (k * 3) a).setIfInBounds (k * 3 + 1) b).setIfInBounds (k * 3 + 2) e) k a b e := by
  have hs := h.2.2.1
  refine ⟨((h.set (k * 3) (by omega) a).set (k * 3 + 1) (by omega) b).set (k * 3 + 2) (by omega) e, hk, ?_, ?_, ?_⟩
  · rw [get_ne (by omega), get_ne (by omega), get_eq (by omega)]
  · rw [get_ne (by omega), get_eq (by simp; omega)]
  · rw [get_eq (by simp; omega)]
theorem Mid.last {a b e : Value} (h : Mid w W ph x len cap z cs k a b e) (v : Value) : Mid w (W.setCell ⟨w.heap.size + 1, k * 3 + 2, none⟩ v) ph x len cap z (cs.setIfInBounds (k * 3 + 2) v) k a b v := by
  have hs := h.1.2.2.1
  have hk := h.2.1
  refine ⟨h.1.set (k * 3 + 2) (by omega) v, hk, ?_, ?_, ?_⟩
  · rw [get_ne (by omega)]; exact h.2.2.1
  · rw [get_ne (by omega)]; exact h.2.2.2.1
  · rw [get_eq (by omega)]
theorem Mid.fin {a b e : Value} (h : Mid w W ph x len cap z cs k a b e) (ha : a = .int .i64 (z k 0)) (hb : b = .int .i64 (z k 1)) (he : e = .int .i64 (Pl.endOf (atZ z) len k)) : Sps w W ph x len cap z cs (k + 1) :=
  ⟨h.1.1, h.1.2.1, h.1.2.2.1, h.1.2.2.2.1, fun i hi => by
    by_cases c : i = k
    · subst c; subst ha; subst hb; subst he; exact h.2.2
    · exact h.1.2.2.2.2 i (by omega)⟩
theorem Sps.some (h : Sps w W ph x len cap z cs k) (hk : k < len) : ∃ a b e, W.cell? ⟨w.heap.size + 1, k * 3, none⟩ = some a ∧ W.cell? ⟨w.heap.size + 1, k * 3 + 1, none⟩ = some b ∧ W.cell? ⟨w.heap.size + 1, k * 3 + 2, none⟩ = some e := by
  have hs := h.2.2.1
  exact ⟨_, _, _, (h.2.1.cell _).trans (Array.getElem?_eq_getElem (by omega)), (h.2.1.cell _).trans (Array.getElem?_eq_getElem (by omega)), (h.2.1.cell _).trans (Array.getElem?_eq_getElem (by omega))⟩
end
theorem pdivide_any (a b : Int) (ha : -9223372036854775807 ≤ a) (ha' : a ≤ 9223372036854775807) (hb : 0 < b) (hb' : b ≤ 9223372036854775807) (w : World) :
    Calls Try.prog 54 #[.int .i64 a, .int .i64 b] w fun e w' => e = .returned (.tuple #[.int .i64 (a.tdiv b), .int .i64 (a.tmod b), .bool true]) ∧ ∃ n, w' = w.drewN n := by
  have t0 : (b == 0) = false := by simp; omega
  have t1 : (b == -1) = false := by simp; omega
  have t2 : (a == -9223372036854775808) = false := by simp; omega
  have hq := Pl.tdiv_le a b hb
  have hr := Pl.tmod_in (a := a) hb
  have kw1 : IntKind.i64.wrap (a.tdiv b) = a.tdiv b := IntWalk.i64_in _ (by rcases Int.le_total 0 a with q | q; have := hq.1 q; omega; have := hq.2 q; omega)
  have kw2 : IntKind.i64.wrap (a.tmod b) = a.tmod b := IntWalk.i64_in _ (by omega)
  clear hq hr
  go_enter Try.func54, Try.ntmps54
  go_wp2_with fail
  all_goals (
    go_region_with fail
    all_goals (
      go_wp2_with fail
      refine bodyPost_ret (v := .tuple #[.int .i64 (a.tdiv b), .int .i64 (a.tmod b), .bool true]) (by simp [results, Try.results54, go_sem]) rfl ⟨rfl, 1, rfl⟩))

theorem pfloor_any (a b : Int) (ha : -9223372036854775807 ≤ a) (ha' : a ≤ 9223372036854775807) (hb : 0 < b) (hb' : b ≤ 9223372036854775807) (w : World) :
    Calls Try.prog 52 #[.int .i64 a, .int .i64 b] w fun e w' => e = .returned (.tuple #[.int .i64 (a / b), .bool true]) ∧ ∃ n, w' = w.drewN n := by
  have D := Lib.hid (fun W => pdivide_any a b ha ha' hb hb' W)
  have e := Pl.floor_tdiv (a := a) hb
  have hr := Pl.tmod_in (a := a) hb
  have hq := Pl.tdiv_le a b hb
  have hq' : -9223372036854775808 ≤ a.tdiv b ∧ a.tdiv b ≤ 9223372036854775807 := by rcases Int.le_total 0 a with q | q; have := hq.1 q; omega; have := hq.2 q; omega
  have hF : -9223372036854775807 ≤ a / b := by
    have := (Pl.floor_in (a := a) (K := 9223372036854775807) hb ha (by omega) (by omega)).1
    omega
  obtain ⟨q1, q2⟩ := hq'
  have tb : decide (b < 0) = false := by simp; omega
  rw [e] at hF ⊢
  clear e hq
  generalize a.tdiv b = Q at *
  generalize a.tmod b = R at *
  by_cases c : R < 0
  · rw [if_pos c] at hF ⊢
    have t0 : (R == 0) = false := by simp; omega
    have kw : IntKind.i64.wrap (Q - 1) = Q - 1 := IntWalk.i64_in _ (by omega)
    go_enter Try.func52, Try.ntmps52
    go_wp2_with fail
    refine (D.out _).mono ?_
    rintro _ w1 ⟨rfl, n, rfl⟩
    go_wp2
    refine bodyPost_ret (v := .tuple #[.int .i64 (Q - 1), .bool true]) (by simp [results, Try.results52, go_sem]) rfl ⟨rfl, n, rfl⟩
  · rw [if_neg c]
    have t1 : decide (R < 0) = false := by simp; omega
    go_enter Try.func52, Try.ntmps52
    go_wp2_with fail
    refine (D.out _).mono ?_
    rintro _ w1 ⟨rfl, n, rfl⟩
    go_wp2
    all_goals (refine bodyPost_ret (v := .tuple #[.int .i64 Q, .bool true]) (by simp [results, Try.results52, go_sem]) rfl ⟨rfl, n, rfl⟩)


set_option maxHeartbeats 4000000 in
theorem ospans_any (ph : Int) (x : Option Addr) (len cap : Nat) (z : Nat → Nat → Int) (w : World) (hz : Pairs w x len z) (hok : Pl.OscOk (atZ z) (pbZ z) ph len) :
    Calls Try.prog 43 #[.agg (osA ph x len cap)] w fun e w' => e = .returned (.slice (some ⟨w.heap.size + 1, 0, none⟩) len len) ∧ Trips w' (w.heap.size + 1) len z ∧ Below w.heap.size w w' := by
  have K0 := one_mk w 46 (osA ph x len cap)
  have hl0 := hok.pos
  have hl := hok.few
  obtain ⟨cs0, hcs, hmk⟩ := make_spans len hl
  have HZ := Lib.hid hz
  have HO := Lib.hid hok
  obtain ⟨bx, ox, rfl, hb1, hb2, d0, d1⟩ := pairs_at hz K0.1 (show len - 1 < len by omega)
  have HC := Lib.hid hcs
  obtain ⟨T, hT⟩ : ∃ T, z (len - 1) 0 = T := ⟨_, rfl⟩
  obtain ⟨P, hP⟩ : ∃ P, z (len - 1) 1 = P := ⟨_, rfl⟩
  rw [hT] at d0
  rw [hP] at d1
  have HL := Lib.hid (And.intro hT hP)
  have hk1 : (len : Int) - 1 = ((len - 1 : Nat) : Int) := by omega
  have hkw : IntKind.i64.wrap ((len : Int) - 1) = ((len - 1 : Nat) : Int) := (IntWalk.i64_in _ (by omega)).trans hk1
  have hk2 : (0 : Int) ≤ ((len - 1 : Nat) : Int) := by omega
  have hk3 : ((len - 1 : Nat) : Int) < (len : Int) := by omega
  have hk4 : len - 1 < len := by omega
  clear hz hok hcs hT hP hk1 K0
  go_enter Try.func43, Try.ntmps43
  go_wp2_with fail
  have S0 : Hid (Sps w (((w.alloc (.cells (osA ph (some ⟨bx, ox, none⟩) len cap) 46)).alloc (.cells cs0 74)).alloc (.cells #[.int .i64 T, .int .i64 P] 68)) ph (some ⟨bx, ox, none⟩) len cap z cs0 0) := Lib.hid (by
    have TH := three_mk w 46 74 68 (osA ph (some ⟨bx, ox, none⟩) len cap) cs0 #[.int .i64 T, .int .i64 P]
    refine ⟨⟨TH.1.1, TH.1.2.1⟩, TH.1.2.2, HC.out, ?_, fun i hi => absurd hi (by omega)⟩
    rw [HL.out.1, HL.out.2]
    exact TH.2)
  go_loopw [22] (fun i wr => ∃ (k : Nat) (cs : Array Value), i = .int .i64 k ∧ k ≤ len ∧ Hid (Sps w wr ph (some ⟨bx, ox, none⟩) len cap z cs k)) (fun i _ => len - (RowKit.intOf i).toNat)
  case atStart => exact ⟨0, cs0, rfl, by omega, S0⟩
  case round =>
    obtain ⟨k, cs, rfl, hk, hS⟩ := hrel
    by_cases hlt : k < len
    · obtain ⟨bx', ox', he, _, hb3, f0, f1⟩ := pairs_at HZ.out hS.out.1.1 hlt
      injection he with he
      injection he with he1 he2
      subst he1 he2
      obtain ⟨y0, y1, yz⟩ := box_at hS.out.1
      have l0 : wr.cell? ⟨w.heap.size + 2, 0, none⟩ = some (.int .i64 T) := by rw [← HL.out.1]; exact hS.out.2.2.2.1.cell 0
      have l1 : wr.cell? ⟨w.heap.size + 2, 1, none⟩ = some (.int .i64 P) := by rw [← HL.out.2]; exact hS.out.2.2.2.1.cell 1
      have lz := hS.out.2.2.2.1.lt
      obtain ⟨v0, v1, v2, g0, g1, g2⟩ := hS.out.some hlt
      have h0 := hS.out.2.1.frozen (k * 3)
      have h1 := hS.out.2.1.frozen (k * 3 + 1)
      have h2 := hS.out.2.1.frozen (k * 3 + 2)
      have gz := hS.out.2.1.lt
      have tk : decide ((k : Int) < (len : Int)) = true := by simp [hlt]
      have hki : (0 : Int) ≤ (k : Int) := by omega
      have hbn1 : bx ≠ w.heap.size + 1 := by omega
      have hbn2 : bx ≠ w.heap.size + 2 := by omega
      obtain ⟨A, hA⟩ : ∃ T, z k 0 = T := ⟨_, rfl⟩
      obtain ⟨B, hB⟩ : ∃ P, z k 1 = P := ⟨_, rfl⟩
      rw [hA] at f0
      rw [hB] at f1
      have HAB := Lib.hid (And.intro hA hB)
      by_cases hq : k + 1 < len
      · have hne : A < T := by
          rw [← hA, ← HL.out.1]
          have : ∀ n, k < n → n < len → z k 0 < z n 0 := fun n => by
            induction n with
            | zero => intro h _; omega
            | succ n ih =>
              intro h1 h2
              have := HO.out.up n h2
              have this : z n 0 < z (n + 1) 0 := this
              by_cases c : k = n
              · subst c; exact this
              · have := ih (by omega) (by omega); omega
          exact this (len - 1) (by omega) (by omega)
        obtain ⟨bx'', ox'', he, _, _, n0, _⟩ := pairs_at HZ.out hS.out.1.1 hq
        injection he with he
        injection he with he1 he2
        subst he1 he2
        obtain ⟨N, hN⟩ : ∃ T, z (k + 1) 0 = T := ⟨_, rfl⟩
        rw [hN] at n0
        have HN : Hid (Pl.endOf (atZ z) len k = N) := Lib.hid (by unfold Pl.endOf; rw [if_pos hq]; exact hN)
        have hqn : A ≠ T := by omega
        have tq : decide (A = T) = false := by simp [hqn]
        have tq2 : (A == T) = false := by simp [hqn]
        have hki1 : (k : Int) + 1 = ((k + 1 : Nat) : Int) := by omega
        have hkw1 : IntKind.i64.wrap ((k : Int) + 1) = ((k + 1 : Nat) : Int) := (IntWalk.i64_in _ (by omega)).trans hki1
        have hki2 : ((k + 1 : Nat) : Int) < (len : Int) := by omega
        clear hA hB hN d0 d1 hne hki1
        have S1 := (((hS.out.mid hlt (.int .i64 A) (.int .i64 B) (.int .i64 1125899906842624)).last (.int .i64 N)).fin (by rw [HAB.out.1]) (by rw [HAB.out.2]) (by rw [HN.out])).alloc (.cells #[.int .i64 A, .int .i64 B] 68)
        replace S1 := Lib.hid S1
        go_wp2_with fail
        exact ⟨⟨k + 1, _, by go_num, by omega, S1⟩, by simp [RowKit.intOf]; omega⟩
      · have hk' : k = len - 1 := by omega
        have e1 : A = T := by rw [← hA, ← HL.out.1, ← hk']
        have e2 : B = P := by rw [← hB, ← HL.out.2, ← hk']
        have HN : Hid (Pl.endOf (atZ z) len k = 1125899906842624) := Lib.hid (by unfold Pl.endOf; rw [if_neg hq])
        clear hA hB d0 d1 hk'
        subst e1 e2
        have S1 := ((hS.out.mid hlt (.int .i64 A) (.int .i64 B) (.int .i64 1125899906842624)).fin (by rw [HAB.out.1]) (by rw [HAB.out.2]) (by rw [HN.out])).alloc (.cells #[.int .i64 A, .int .i64 B] 68)
        replace S1 := Lib.hid S1
        go_wp2_with fail
        exact ⟨⟨k + 1, _, by go_num, by omega, S1⟩, by simp [RowKit.intOf]; omega⟩
    · obtain rfl : k = len := by omega
      have tk : decide ((k : Int) < (k : Int)) = false := by simp
      go_wp2_with fail
      go_ret
      exact ⟨rfl, ⟨hS.out.2.1.lt, fun i hi => by rw [hS.out.2.1.cell, hS.out.2.1.cell, hS.out.2.1.cell]; exact hS.out.2.2.2.2 i hi⟩, hS.out.1.1⟩
end Go.Proofs.Ytkdanfhgnpgmmaa
