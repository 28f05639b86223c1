/- The reference's table of layer 40: its form in memory; New, Len, find. -/
import Derived.Test.YtnlfkafebbfenaaRes7
import Derived.Test.YtnlfkafebbfenaaRowGuard
import Derived.OwnWalk
import Derived.Lib.SmallJoins
import Derived.Deep.MidRow
import Derived.Deep.RegionHeld3
namespace Go.Proofs.Ytnlfkafebbfenaa
open Go.RowKit Go.Lib Go.Maps
abbrev RL := List (Pl.PM × Int)
def nmQ (q : Pl.PM × Int) : Nm := nmOf q.1.k q.1
def hA (q : Pl.PM × Int) : List Value := (pmA q.1).toList ++ [.int .i64 q.2]
def hC (l : RL) : List Value := l.flatMap hA
theorem hA_len (q : Pl.PM × Int) : (hA q).length = 22 := rfl
theorem hC_len (l : RL) : (hC l).length = l.length * 22 := by
  induction l with
  | nil => rfl
  | cons q r ih =>
    rw [hC, List.flatMap_cons, List.length_append, hA_len, List.length_cons]
    rw [hC] at ih
    omega
theorem hC_app (l m : RL) : hC (l ++ m) = hC l ++ hC m := by simp [hC]
theorem hC_one (q : Pl.PM × Int) : hC [q] = hA q := by simp [hC]
theorem hC_at : ∀ (l : RL) (j t : Nat) (q : Pl.PM × Int), l[j]? = some q → t < 22 → (hC l)[j * 22 + t]? = (hA q)[t]?
  | [], _, _, _, h, _ => by cases h
  | x :: r, 0, t, q, h, ht => by
    injection h with h
    subst h
    rw [hC, List.flatMap_cons, List.getElem?_append_left (by rw [hA_len]; omega)]
    simp
  | x :: r, j + 1, t, q, h, ht => by
    have := hC_at r j t q (by simpa using h) ht
    rw [hC, List.flatMap_cons, List.getElem?_append_right (by rw [hA_len]; omega), hA_len]
    rw [show (j + 1) * 22 + t - 22 = j * 22 + t by omega]
    exact this
/-- the reference's table at u: its row of stays is sv, the list l -/
structure Rt (W : World) (u B : Nat) (lim : Int) (a : Option Addr) (n c : Nat) (l : RL) : Prop where
  blk : Blk W u 74 #[.int .i64 lim, (.slice a n c)]
  base : B ≤ W.heap.size
  own : W.ownsRow B 80 22 (.slice a n c) n (hC l)
  len : l.length = n
section
variable {W W' : World} {u B : Nat} {lim : Int} {a : Option Addr} {n c : Nat} {l : RL}
theorem own_form {W : World} {B size n : Nat} {e : TypeId} {v : Value} {xs : List Value} (h : W.ownsRow B e size v n xs) (hn : 0 < n) : ∃ g cap, v = .slice (some ⟨g, 0, none⟩) n cap := by
  rcases h.2 with ⟨_, h0⟩ | ⟨g, cap, cur, hv, _⟩
  · omega
  · exact ⟨g, cap, hv⟩
theorem own_cap {W : World} {B size n c : Nat} {e : TypeId} {a : Option Addr} {xs : List Value} (h : W.ownsRow B e size (.slice a n c) n xs) : n ≤ c := by
  rcases h.2 with ⟨_, h0⟩ | ⟨g, cap, cur, hv, _, _, hn, _⟩
  · omega
  · injection hv with _ _ hc
    omega
theorem own_ne {W : World} {B size n b : Nat} {e t : TypeId} {v : Value} {xs : List Value} {cs : Array Value} (h : W.ownsRow B e size v n xs) (hb : Blk W b t cs) (hne : t ≠ e) : some b ≠ v.ownBlock := by
  intro q
  rcases h.2 with ⟨rfl, _⟩ | ⟨g, cap, cur, rfl, _, hg, _⟩
  · cases q
  · injection q with q
    subst q
    exact hb.ne_ (g' := b) hg hne rfl
theorem Rt.on (h : Rt W u B lim a n c l) (k : Below W.heap.size W W') : Rt W' u B lim a n c l :=
  ⟨h.blk.below_ k, Nat.le_trans h.base k.size, h.own.kept (only_of_below k none) (by cases a <;> simp [Value.ownBlock]), h.len⟩
theorem Rt.alloc (h : Rt W u B lim a n c l) (o : Obj) : Rt (W.alloc o) u B lim a n c l := h.on (bel_bx' W o)
theorem Rt.drewN (h : Rt W u B lim a n c l) (m : Nat) : Rt (W.drewN m) u B lim a n c l := ⟨h.blk.drewN m, h.base, h.own, h.len⟩
theorem Rt.far (h : Rt W u B lim a n c l) {x : Nat} (k : W.grownBy W' (some x)) (h1 : u ≠ x) (h2 : x < B) : Rt W' u B lim a n c l :=
  ⟨h.blk.grown k (fun e => by injection e with e; exact h1 e), Nat.le_trans h.base k.size, h.own.kept k (Or.inr (fun e => by have := (h.own.lt x e).1; omega)), h.len⟩
theorem Rt.at_ (h : Rt W u B lim a n c l) {j : Nat} {q : Pl.PM × Int} (hj : l[j]? = some q) : ∃ g, a = some ⟨g, 0, none⟩ ∧ g < W.heap.size ∧ W.rangeAt g (j * 22) (pmA q.1).toList ∧ W.cell? ⟨g, j * 22 + 21, none⟩ = some (.int .i64 q.2) := by
  have hjl := (List.getElem?_eq_some_iff.1 hj).1
  have hlen := h.len
  obtain ⟨g, cap, hv⟩ := own_form h.own (by omega)
  injection hv with hv _ _
  subst hv
  have hk := fun t (ht : t < 22) => (h.own.cellAt (j * 22 + t) (by omega)).trans (hC_at l j t q hj ht)
  refine ⟨g, rfl, (h.own.lt g rfl).2, fun t v hv => ?_, ?_⟩
  · have ht : t < 21 := (List.getElem?_eq_some_iff.1 hv).1
    rw [hk t (by omega), hA, List.getElem?_append_left (by exact ht)]
    exact hv
  · rw [hk 21 (by omega)]
    rfl
end
theorem wpList_load_rng {P : Program} {ops : Array Oper} {rest : List Oper} {op : Oper} {a : Act} {w : World} {Q : Exit → Act → World → Prop} (hgd : op.guard = none) (ty : TypeId) (x : Operand) (ho : op.op = .load ty x)
    (g o : Nat) (hx : a.eval x = .pointer (some ⟨g, o, none⟩)) (cells : Array Value) (d : TypeDesc) (hc : w.rangeAt g o cells.toList)
    (hu : P.underlying ty = some d) (hd : d.isRow = true) (hi : (P.info? ty).map (·.size) = some cells.size)
    (h : wpList P ops Q rest (a.put op.dst (.agg cells)) w) : wpList P ops Q (op :: rest) a w :=
  wpList_load_mid hgd ty x ho g o hx cells.toList d hc hu hd (by simpa using hi) (by simpa using h)
/-- where a stay of the name nm stands, from i on -/
def fndA : RL → Nm → Nat → Int
  | [], _, _ => -1
  | q :: r, nm, i => if nmQ q == nm then (i : Int) else fndA r nm (i + 1)
theorem fndA_drop {l : RL} {j : Nat} {q : Pl.PM × Int} (h : l[j]? = some q) (nm : Nm) : fndA (l.drop j) nm j = if nmQ q == nm then (j : Int) else fndA (l.drop (j + 1)) nm (j + 1) := by
  have hj := (List.getElem?_eq_some_iff.1 h).1
  rw [List.drop_eq_getElem_cons hj, fndA]
  rw [(List.getElem?_eq_some_iff.1 h).2]
abbrev zA40 : Array Value := #[.int .i64 0, .int .i64 0, .int .i64 0, .int .i64 0, .int .u64 0, .int .i64 0, .int .i64 0, .int .i64 0, .int .i64 0, .int .i64 0, .int .u64 0, .int .i64 0, .int .i64 0, .int .i64 0, .int .i64 0, .int .i64 0, .int .i64 0, .int .i64 0, .int .u64 0, .int .i64 0, .int .i64 0]
theorem unew_no (d : Int) (h : d < 1 ∨ 64 < d) (w : World) : Calls Try.prog 17 #[.int .i64 d] w fun e w' => e = .returned (.pointer none) ∧ w = w' := by
  by_cases c : d < 1
  · go_enter Try.func17, Try.ntmps17
    go_wp2
    go_ret
    exact ⟨rfl, rfl⟩
  · have c2 : 64 < d := by omega
    go_enter Try.func17, Try.ntmps17
    go_wp2
    go_ret
    exact ⟨rfl, rfl⟩
theorem unew_yes (d : Int) (h1 : 1 ≤ d) (h2 : d ≤ 64) (w : World) : Calls Try.prog 17 #[.int .i64 d] w fun e w' => e = .returned (.pointer (some ⟨w.heap.size, 0, none⟩)) ∧ Rt w' w.heap.size (w.heap.size + 1) d none 0 0 [] ∧ Below w.heap.size w w' := by
  go_enter Try.func17, Try.ntmps17
  go_wp2
  go_ret
  exact ⟨rfl, ⟨Blk.new _ _ _, by simp, World.ownsRow_nil _ _ _ _, rfl⟩, bel_bx' w _⟩
theorem ulen_any (u B : Nat) (lim : Int) (a : Option Addr) (n c : Nat) (l : RL) (w : World) (h : Rt w u B lim a n c l) : Calls Try.prog 24 #[.pointer (some ⟨u, 0, none⟩)] w fun e w' => e = .returned (.int .i64 n) ∧ w = w' := by
  have k1 : w.cell? ⟨u, 1, none⟩ = some (.slice a n c) := h.blk.cell 1
  have kz := h.blk.lt
  clear h
  go_enter Try.func24, Try.ntmps24
  go_wp2_with fail
  go_ret
  exact ⟨rfl, rfl⟩
theorem ulen_nil (w : World) : Calls Try.prog 24 #[.pointer none] w fun e w' => e = .returned (.int .i64 0) ∧ w = w' := by
  go_enter Try.func24, Try.ntmps24
  go_wp2
  go_ret
  exact ⟨rfl, rfl⟩
theorem uhold_nil (p : Pl.PM) (s : Int) (w : World) : Calls Try.prog 20 #[.pointer none, pmV p, .int .i64 s] w fun e w' => e = .returned (.int .i64 1) ∧ Below w.heap.size w w' := by
  go_enter Try.func20, Try.ntmps20
  go_wp2
  go_ret
  exact ⟨rfl, bel_bx' w _⟩
set_option maxHeartbeats 4000000 in
set_option maxRecDepth 100000 in
theorem ufind_any (u B : Nat) (lim : Int) (a : Option Addr) (n c : Nat) (l : RL) (k : Int) (p : Pl.PM) (w : World) (h : Rt w u B lim a n c l) (hn : n ≤ 64) :
    Calls Try.prog 36 #[.pointer (some ⟨u, 0, none⟩), .int .i64 k, pmV p] w fun e w' => e = .returned (.int .i64 (fndA l (nmOf k p) 0)) ∧ Below w.heap.size w w' := by
  obtain ⟨F, hF⟩ : ∃ F, fndA l (nmOf k p) 0 = F := ⟨_, rfl⟩
  rw [hF]
  have H0 := Lib.hid h
  have F0 : Hid (fndA (l.drop 0) (nmOf k p) 0 = F) := Lib.hid hF
  have O0 := Lib.hid (one_mk w 33 (pmA p))
  have HL := Lib.hid h.len
  clear h hF
  go_enter Try.func36, Try.ntmps36
  go_wp2_with fail
  go_loopw [7] (fun i wr => ∃ j : Nat, i = .int .i64 j ∧ j ≤ n ∧ Hid (One w wr 33 (pmA p)) ∧ Hid (fndA (l.drop j) (nmOf k p) j = F)) (fun i _ => n - (RowKit.intOf i).toNat)
  case atStart => exact ⟨0, rfl, by omega, O0, F0⟩
  case round =>
    obtain ⟨j, rfl, hj, hO, hF⟩ := hrel
    have R1 := H0.out.on hO.out.1
    have k1 : wr.cell? ⟨u, 1, none⟩ = some (.slice a n c) := R1.blk.cell 1
    have kz := R1.blk.lt
    by_cases hlt : j < n
    · obtain ⟨⟨q, s⟩, hq⟩ : ∃ q, l[j]? = some q := ⟨_, List.getElem?_eq_getElem (by have := HL.out; omega)⟩
      obtain ⟨g, rfl, hgz, hrng, _⟩ := R1.at_ hq
      have hF' := hF.out
      rw [fndA_drop hq] at hF'
      have t1 : decide ((j : Int) < (n : Int)) = true := by simp [hlt]
      have hj0 : (0 : Int) ≤ (j : Int) := by omega
      have hjn : (j : Int) < (n : Int) := by omega
      have hj64 : (j : Int) ≤ 64 := by omega
      have hcas : ((q.k == k) = false) ∨ ((q.k == k) = true ∧ (q.d == p.d) = false) ∨ ((q.k == k) = true ∧ (q.d == p.d) = true ∧ (q.ck == p.ck) = false) ∨ ((q.k == k) = true ∧ (q.d == p.d) = true ∧ (q.ck == p.ck) = true ∧ (q.po == p.po) = false)
          ∨ ((q.k == k) = true ∧ (q.d == p.d) = true ∧ (q.ck == p.ck) = true ∧ (q.po == p.po) = true ∧ (q.sq == p.sq) = false) ∨ ((q.k == k) = true ∧ (q.d == p.d) = true ∧ (q.ck == p.ck) = true ∧ (q.po == p.po) = true ∧ (q.sq == p.sq) = true) := by
        cases (q.k == k) <;> cases (q.d == p.d) <;> cases (q.ck == p.ck) <;> cases (q.po == p.po) <;> cases (q.sq == p.sq) <;> simp
      have hnm : (nmQ (q, s) == nmOf k p) = ((q.k == k) && ((q.d == p.d) && ((q.ck == p.ck) && ((q.po == p.po) && (q.sq == p.sq))))) := rfl
      rw [hnm] at hF'
      have A1 := Lib.hid (Blk.new wr 33 zA40)
      have H1 := Lib.hid (hO.out.1.alloc hO.out.1.size (.cells zA40 33))
      have K1 := Lib.hid (hO.out.2.alloc (.cells zA40 33))
      have hab : w.heap.size < wr.heap.size := hO.out.2.lt
      have hrng' := Lib.hid hrng
      clear hnm hrng hq
      rcases hcas with u1 | ⟨u1, u2⟩ | ⟨u1, u2, u3⟩ | ⟨u1, u2, u3, u4⟩ | ⟨u1, u2, u3, u4, u5⟩ | ⟨u1, u2, u3, u4, u5⟩
      all_goals (
        rw [u1] at hF'
        try rw [u2] at hF'
        try rw [u3] at hF'
        try rw [u4] at hF'
        try rw [u5] at hF'
        simp only [Bool.and_true, Bool.and_false, Bool.true_and, Bool.false_and, if_true, Bool.false_eq_true, if_false] at hF'
        replace hF' := Lib.hid hF'
        go_wp2_with (first | (refine wpList_load_rng rfl 33 _ rfl g (j * 22) rfl (pmA q) _ hrng'.out Try.underlying33 rfl (by kernel_rfl) ?_) | (refine wpList_store_blk rfl 33 _ _ rfl wr.heap.size (pmA q) rfl rfl 33 zA40 A1.out (by kernel_rfl) rfl (by kernel_rfl) ?_; intro W2 A2 HG; have H2 := Lib.hid (Below.only H1.out HG (Nat.le_of_lt hab) H1.out.size); have K2 := K1.out.grown HG (fun e => by injection e with e; omega); have q0 : W2.cell? ⟨wr.heap.size, 0, none⟩ = some (.int .i64 q.k) := A2.cell 0; have q1 : W2.cell? ⟨wr.heap.size, 1, none⟩ = some (.int .i64 q.d) := A2.cell 1; have q4 : W2.cell? ⟨wr.heap.size, 4, none⟩ = some (.int .u64 q.ck) := A2.cell 4; have q5 : W2.cell? ⟨wr.heap.size, 5, none⟩ = some (.int .i64 q.po) := A2.cell 5; have q6 : W2.cell? ⟨wr.heap.size, 6, none⟩ = some (.int .i64 q.sq) := A2.cell 6; have p1 : W2.cell? ⟨w.heap.size, 1, none⟩ = some (.int .i64 p.d) := K2.cell 1; have p4 : W2.cell? ⟨w.heap.size, 4, none⟩ = some (.int .u64 p.ck) := K2.cell 4; have p5 : W2.cell? ⟨w.heap.size, 5, none⟩ = some (.int .i64 p.po) := K2.cell 5; have p6 : W2.cell? ⟨w.heap.size, 6, none⟩ = some (.int .i64 p.sq) := K2.cell 6; have pz := K2.lt; have az := A2.lt; replace K2 := Lib.hid K2; clear HG A2 A1 H1 K1))
        first
        | (go_ret
           obtain rfl := hF'.out
           exact ⟨rfl, H2.out⟩)
        | (exact ⟨⟨j + 1, by go_num, by omega, Lib.hid ⟨H2.out, K2.out⟩, hF'⟩, by simp [RowKit.intOf]; omega⟩))
    · obtain rfl : j = n := by omega
      have t1 : decide ((j : Int) < (j : Int)) = false := by simp
      have hF' := hF.out
      rw [List.drop_eq_nil_of_le (by have := HL.out; omega), fndA] at hF'
      subst hF'
      go_wp2_with fail
      go_ret
      exact ⟨rfl, hO.out.1⟩
end Go.Proofs.Ytnlfkafebbfenaa
