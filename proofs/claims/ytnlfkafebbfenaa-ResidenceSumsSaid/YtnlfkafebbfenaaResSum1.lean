/- Contracts of slices.Clone and slices.Reverse at slices of stays. -/
import Derived.Test.YtnlfkafebbfenaaSumPlain
import Derived.Lib.SliceRun
import Derived.Laws.AppendOwn
import Derived.OwnWalk
import Derived.Deep.RegionHeld3
namespace Go.Proofs.Ytnlfkafebbfenaa
open Go.RowKit Go.Lib
/-- a slice that lies at the head of a block of the call's own: its rows of four numbers -/
def Rows4 (W : World) (B : Nat) (a : Option Addr) (n cap : Nat) (z : Nat → Nat → Int) : Prop :=
  n ≤ cap ∧ cap ≤ maxLen ∧ (0 < n → ∃ (g : Nat) (cur : Array Value), a = some ⟨g, 0, none⟩ ∧ B ≤ g ∧ Blk W g 63 cur ∧ ∀ i, i < n → ∀ j, j < 4 → cur[i * 4 + j]? = some (.int .i64 (z i j)))
theorem Rows4.on {W W' : World} {B : Nat} {a : Option Addr} {n cap : Nat} {z : Nat → Nat → Int} (h : Rows4 W B a n cap z) (l : Below W.heap.size W W') : Rows4 W' B a n cap z :=
  ⟨h.1, h.2.1, fun hn => by obtain ⟨g, cur, h1, h2, h3, h4⟩ := h.2.2 hn; exact ⟨g, cur, h1, h2, h3.below_ l, h4⟩⟩
theorem stay_info : ∃ i : TypeInfo, Try.prog.info? 63 = some i ∧ i.zero = some (.agg #[.int .i64 0, .int .i64 0, .int .i64 0, .int .i64 0]) ∧ i.size = 4 ∧ i.bytes = 32 := by
  have h : (Try.prog.info? 63).map (fun i => (i.zero, i.size, i.bytes)) = some (some (.agg #[.int .i64 0, .int .i64 0, .int .i64 0, .int .i64 0]), 4, 32) := by kernel_rfl
  cases hi : Try.prog.info? 63 with
  | none => rw [hi] at h; cases h
  | some i =>
    rw [hi] at h
    simp only [Option.map_some, Option.some.injEq, Prod.mk.injEq] at h
    exact ⟨i, rfl, h.1, h.2.1, h.2.2⟩
def newsOf (n : Nat) (z : Nat → Nat → Int) : List Value := (List.range (n * 4)).map fun t => .int .i64 (z (t / 4) (t % 4))
theorem newsOf_at {n : Nat} {z : Nat → Nat → Int} {t : Nat} (h : t < n * 4) : (newsOf n z)[t]? = some (.int .i64 (z (t / 4) (t % 4))) := by
  unfold newsOf
  rw [List.getElem?_map, List.getElem?_range h]
  rfl
set_option maxHeartbeats 2000000 in
set_option maxRecDepth 100000 in
theorem clone_any (a : Option Addr) (n cap : Nat) (z : Nat → Nat → Int) (w : World) (hn : n ≤ 100) (hcap : n ≤ cap) (hz : Fours w a n z) :
    Calls Try.prog 27 #[.slice a n cap] w fun e w' => ∃ (a' : Option Addr) (cap' : Nat), e = .returned (.slice a' n cap') ∧ Rows4 w' w.heap.size a' n cap' z ∧ Below w.heap.size w w' := by
  have q22 : ∀ (w : World) (a : Option Addr) (n c n' c' : Nat), (binOp .eql 58 (.slice a n c) (.slice none n' c')).run Try.prog w = .ok (.bool a.isNone) w := fun w a n c n' c' => Lib.run_eql_slice_nil w _ _ a n c n' c' Try.underlying58
  obtain ⟨i0, hi, hz0, hz1, hz2⟩ := stay_info
  cases a with
  | none =>
    have h0 : n = 0 := by
      rcases Nat.eq_zero_or_pos n with q | q
      · exact q
      · obtain ⟨x, hx, _⟩ := hz 0 q
        cases hx
    subst h0
    clear hz
    go_enter Try.func27, Try.ntmps27
    go_wp2_with fail
    go_ret
    exact ⟨none, 0, rfl, ⟨Nat.le_refl _, Nat.zero_le _, fun h => absurd h (by omega)⟩, Below.refl _ _⟩
  | some x =>
    have hN : Hid (∀ j u, (newsOf n z)[j]? = some u → w.cell? (x.add j) = some u) := Lib.hid (fun j u hj => by
      have hlt : j < n * 4 := by
        have := (List.getElem?_eq_some_iff.1 hj).1
        simpa [newsOf] using this
      obtain ⟨y, hy, _, hc⟩ := hz (j / 4) (by omega)
      injection hy with hy
      subst hy
      have := (hc (j % 4) (by omega)).1
      rw [show j / 4 * 4 + j % 4 = j by omega] at this
      rw [this, ← newsOf_at hlt]
      exact hj)
    clear hz
    go_enter Try.func27, Try.ntmps27
    go_wp2_with (at_builtin; refine wpList_append_own _ rfl _ _ 58 rfl w.heap.size 63 i0 (.agg #[.int .i64 0, .int .i64 0, .int .i64 0, .int .i64 0]) 4 32 Try.underlying58 hi hz0 hz1 hz2 rfl (by decide) _ _ _ rfl (World.ownsRow_made w #[] 0 (Nat.le_refl _) (Nat.zero_le _) rfl) x n cap (newsOf n z) rfl ?qc1 ?qc2 ?qc3 ?qc4 ?qc5 ?qc6 ?_)
    case qc1 => simp [newsOf]
    case qc2 =>
      intro j u hj
      exact Lib.cell?_alloc_some _ (hN.out j u hj)
    case qc3 => intro u hu; obtain ⟨x, _, rfl⟩ := List.mem_map.1 hu; rfl
    case qc4 => unfold maxLen; omega
    case qc5 => omega
    case qc6 => simp
    intro v' w1 hown hgrow hnil
    have hbel : Below w.heap.size w w1 := ((Below.refl _ w).alloc (Nat.le_refl _) _).grown hgrow (by simp) (by intro k hk; simp [Value.ownBlock] at hk; omega)
    obtain ⟨a', cap', hv, hR⟩ : ∃ (a' : Option Addr) (cap' : Nat), v' = .slice a' n cap' ∧ Rows4 w1 w.heap.size a' n cap' z := by
      obtain ⟨hl, hc⟩ := hown
      rcases hc with ⟨h1, h2⟩ | ⟨g, cap', cur, h1, h2, h3, h4, h5, h6, h7⟩
      · have h0 : n = 0 := by omega
        subst h0
        exact ⟨none, 0, h1, Nat.le_refl _, Nat.zero_le _, fun h => absurd h (by omega)⟩
      · refine ⟨some ⟨g, 0, none⟩, cap', h1, h4, h5, fun _ => ⟨g, cur, rfl, h2, h3, fun i hi j hj => ?_⟩⟩
        have hlt : i * 4 + j < n * 4 := by omega
        have e := newsOf_at (z := z) hlt
        have e2 : (cur.toList.take (n * 4))[i * 4 + j]? = cur.toList[i * 4 + j]? := by rw [List.getElem?_take, if_pos hlt]
        rw [h7] at e2
        have e3 := e
        rw [show (i * 4 + j) / 4 = i by omega, show (i * 4 + j) % 4 = j by omega] at e3
        rw [← Array.getElem?_toList, ← e2]
        exact e3
    subst hv
    clear hown hgrow hnil hN
    go_wp2_with fail
    go_ret
    exact ⟨a', cap', rfl, hR, hbel⟩
end Go.Proofs.Ytnlfkafebbfenaa
