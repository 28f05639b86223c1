/- Both tables of layer 40 in memory, side by side. -/
import Derived.Test.YtnlfkafebbfenaaResPl5
import Derived.Test.YtnlfkafebbfenaaOpenDeeds
namespace Go.Proofs.Ytnlfkafebbfenaa
open Go.RowKit Go.Lib Go.Maps
/-- the table at b (its map at g) with the list tl, the reference's one at u with the list l -/
structure QS (w W : World) (b g u B : Nat) (lim : Int) (tl : TL) (a : Option Addr) (n c : Nat) (l : RL) : Prop where
  bel : Below w.heap.size w W
  tb : Tb W b g lim tl
  rt : Rt W u B lim a n c l
  hb : w.heap.size ≤ b ∧ b < B
  hg : w.heap.size ≤ g ∧ g < B
  hu : w.heap.size ≤ u ∧ u < B
  hub : u ≠ b
  hug : u ≠ g
section
variable {w W W' : World} {b g u B : Nat} {lim : Int} {tl tl' : TL} {a a' : Option Addr} {n c n' c' : Nat} {l l' : RL}
theorem QS.on (h : QS w W b g u B lim tl a n c l) (k : Below W.heap.size W W') : QS w W' b g u B lim tl a n c l :=
  ⟨bel_on h.bel k, h.tb.on k, h.rt.on k, h.hb, h.hg, h.hu, h.hub, h.hug⟩
theorem QS.drewN (h : QS w W b g u B lim tl a n c l) (m : Nat) : QS w (W.drewN m) b g u B lim tl a n c l := ⟨below_drewN h.bel m, h.tb.drewN m, h.rt.drewN m, h.hb, h.hg, h.hu, h.hub, h.hug⟩
theorem QS.prog (h : QS w W b g u B lim tl a n c l) (t : Tb W' b g lim tl') (k : W.grownBy W' (some g)) : QS w W' b g u B lim tl' a n c l :=
  ⟨Below.only h.bel k h.hg.1 h.bel.size, t, h.rt.far k h.hug h.hg.2, h.hb, h.hg, h.hu, h.hub, h.hug⟩
theorem QS.ref (h : QS w W b g u B lim tl a n c l) (k : Fr B u W W') (r : Rt W' u B lim a' n' c' l') : QS w W' b g u B lim tl a' n' c' l' := by
  have hB := h.hb
  have hG := h.hg
  have hU := h.hu
  have hz := h.bel.size
  refine ⟨⟨k.os.trans h.bel.os, k.tape.trans h.bel.tape, k.output.trans h.bel.output, Nat.le_trans h.bel.size k.size, fun i hi => (k.block i (by omega) (by omega)).trans (h.bel.block i hi)⟩, ?_, r, h.hb, h.hg, h.hu, h.hub, h.hug⟩
  obtain ⟨t1, t2, D, t3, t4⟩ := h.tb
  obtain ⟨es, clock, hh, rest⟩ := t3
  exact ⟨(k.block b hB.2 (fun e => h.hub e.symm)).trans t1, t2, D, ⟨es, clock, (k.block g hG.2 (fun e => h.hug e.symm)).trans hh, rest⟩, t4⟩
end
theorem blk_rng_at {w : World} {g : Nat} {t : TypeId} {cs : Array Value} {o : Nat} {vs : List Value} (h : Blk w g t cs) (hc : ∀ j v, vs[j]? = some v → cs[o + j]? = some v) : w.rangeAt g o vs := fun j v hv => (h.cell (o + j)).trans (hc j v hv)
theorem dp_msg (o : DP) : ∀ j v, (pmA o.m).toList[j]? = some v → (dpA o)[2 + j]? = some v := by
  intro j v h
  have e : (pmA o.m).toList = ((dpA o).toList.drop 2).take 21 := rfl
  have hj : j < 21 := (List.getElem?_eq_some_iff.1 h).1
  rw [e, List.getElem?_take, if_pos hj, List.getElem?_drop, Array.getElem?_toList] at h
  exact h
theorem dp_rng {w : World} {g : Nat} {o : DP} (h : Blk w g 44 (dpA o)) : w.rangeAt g 2 (pmA o.m).toList ∧ w.cell? ⟨g, 0, none⟩ = some (.int .i64 o.k) ∧ w.cell? ⟨g, 1, none⟩ = some (.int .i64 o.s) :=
  ⟨blk_rng_at h (dp_msg o), h.cell 0, h.cell 1⟩
theorem yieldsIf_load_rngw {P : Program} {ops : Array Oper} {S : World → Prop} {op : Oper} {a : Act} (hw : Region.wanted op (yielded ops a.tmps) = true) (ty : TypeId) (x : Operand) (ho : op.op = .load ty x)
    (b o : Nat) (hx : a.eval x = .pointer (some ⟨b, o, none⟩)) (cs : Array Value) (d : TypeDesc) (hS : ∀ w, S w → w.rangeAt b o cs.toList)
    (hu : P.underlying ty = some d) (hd : d.isRow = true) (hi : (P.info? ty).map (·.size) = some cs.size) : YieldsIf P ops S op (.agg cs) a := by
  have := yieldsIf_load_mid (P := P) (ops := ops) (S := S) (op := op) (a := a) hw ty x ho b o hx cs.toList d hS hu hd (by simpa using hi)
  simpa using this
theorem first_any (a : Option Addr) (len cap : Nat) (hc : len ≤ cap) (hm : cap ≤ maxLen) (w : World) : Calls Try.prog 18 #[.slice a len cap] w fun e w' => e = .returned (.slice a (min len 200) cap) ∧ w = w' := by
  have hm2 : (cap : Int) ≤ 9223372036854775807 := by unfold maxLen at hm; omega
  have hc2 : (len : Int) ≤ (cap : Int) := by omega
  obtain ⟨M, hM⟩ : ∃ M : Nat, min len 200 = M := ⟨_, rfl⟩
  have hMi : min (len : Int) 200 = (M : Int) := by omega
  have hM1 : (M : Int) ≤ (cap : Int) := by omega
  have hM2 : M ≤ cap := by omega
  rw [hM]
  clear hM hc hm
  go_enter Try.func18, Try.ntmps18
  go_wp2_with fail
  go_ret
  exact ⟨rfl, rfl⟩
end Go.Proofs.Ytnlfkafebbfenaa
