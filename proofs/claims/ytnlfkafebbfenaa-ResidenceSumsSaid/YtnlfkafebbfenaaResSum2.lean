/- Contract of slices.Reverse at slices of stays. -/
import Derived.Test.YtnlfkafebbfenaaResSum1
import Derived.Deep.RegionHeld3
namespace Go.Proofs.Ytnlfkafebbfenaa
open Go.RowKit Go.Lib
/-- the rows behind k exchanges -/
def swK (z : Nat → Nat → Int) (n k : Nat) (i : Nat) (j : Nat) : Int := if i < k ∨ n - 1 - i < k then z (n - 1 - i) j else z i j
/-- rows of four numbers in a list of cells -/
def Rws (cur : Array Value) (n : Nat) (f : Nat → Nat → Int) : Prop := ∀ i, i < n → ∀ j, j < 4 → cur[i * 4 + j]? = some (.int .i64 (f i j))
def setR (cur : Array Value) (o : Nat) (v0 v1 v2 v3 : Value) : Array Value := (((cur.setIfInBounds o v0).setIfInBounds (o + 1) v1).setIfInBounds (o + 2) v2).setIfInBounds (o + 3) v3
theorem set4 {W : World} {g : Nat} {t : TypeId} {cur : Array Value} (h : Blk W g t cur) (o : Nat) (v0 v1 v2 v3 : Value) : Blk ((((W.setCell ⟨g, o, none⟩ v0).setCell ⟨g, o + 1, none⟩ v1).setCell ⟨g, o + 2, none⟩ v2).setCell ⟨g, o + 3, none⟩ v3) g t (setR cur o v0 v1 v2 v3) :=
  (((h.set_ o v0).set_ (o + 1) v1).set_ (o + 2) v2).set_ (o + 3) v3
theorem bel4 {w W : World} {B g : Nat} (h : Below B w W) (hB : B ≤ g) (o : Nat) (v0 v1 v2 v3 : Value) : Below B w ((((W.setCell ⟨g, o, none⟩ v0).setCell ⟨g, o + 1, none⟩ v1).setCell ⟨g, o + 2, none⟩ v2).setCell ⟨g, o + 3, none⟩ v3) :=
  Below.setCell (p := ⟨g, o + 3, none⟩) (Below.setCell (p := ⟨g, o + 2, none⟩) (Below.setCell (p := ⟨g, o + 1, none⟩) (Below.setCell (p := ⟨g, o, none⟩) h hB v0) hB v1) hB v2) hB v3
theorem own4 {w W : World} {g : Nat} (h : w.grownBy W (some g)) (o : Nat) (v0 v1 v2 v3 : Value) : w.grownBy ((((W.setCell ⟨g, o, none⟩ v0).setCell ⟨g, o + 1, none⟩ v1).setCell ⟨g, o + 2, none⟩ v2).setCell ⟨g, o + 3, none⟩ v3) (some g) :=
  only_setCell (only_setCell (only_setCell (only_setCell h (p := ⟨g, o, none⟩) (.inl rfl) v0) (p := ⟨g, o + 1, none⟩) (.inl rfl) v1) (p := ⟨g, o + 2, none⟩) (.inl rfl) v2) (p := ⟨g, o + 3, none⟩) (.inl rfl) v3
theorem get_ne4 {cs : Array Value} {i j : Nat} {v : Value} (h : i ≠ j) : (cs.setIfInBounds i v)[j]? = cs[j]? := by rw [Array.getElem?_setIfInBounds, if_neg h]
theorem get_eq4 {cs : Array Value} {i : Nat} {v u : Value} (h : cs[i]? = some u) : (cs.setIfInBounds i v)[i]? = some v := by
  have := (Array.getElem?_eq_some_iff.1 h).1
  rw [Array.getElem?_setIfInBounds, if_pos rfl, if_pos this]
theorem rws_set {cur : Array Value} {n : Nat} {f : Nat → Nat → Int} (h : Rws cur n f) {k : Nat} (hk : k < n) (v : Nat → Int) : Rws (setR cur (k * 4) (.int .i64 (v 0)) (.int .i64 (v 1)) (.int .i64 (v 2)) (.int .i64 (v 3))) n (fun i j => if i = k then v j else f i j) := by
  intro i hi j hj
  unfold setR
  by_cases c : i = k
  · subst c
    simp only [if_true]
    rcases (by omega : j = 0 ∨ j = 1 ∨ j = 2 ∨ j = 3) with rfl | rfl | rfl | rfl
    · rw [get_ne4 (by omega), get_ne4 (by omega), get_ne4 (by omega)]
      exact get_eq4 (h i hi 0 (by omega))
    · rw [get_ne4 (by omega), get_ne4 (by omega)]
      exact get_eq4 ((get_ne4 (by omega)).trans (h i hi 1 (by omega)))
    · rw [get_ne4 (by omega)]
      exact get_eq4 ((get_ne4 (by omega)).trans ((get_ne4 (by omega)).trans (h i hi 2 (by omega))))
    · exact get_eq4 ((get_ne4 (by omega)).trans ((get_ne4 (by omega)).trans ((get_ne4 (by omega)).trans (h i hi 3 (by omega)))))
  · simp only [if_neg c]
    rw [get_ne4 (by omega), get_ne4 (by omega), get_ne4 (by omega), get_ne4 (by omega)]
    exact h i hi j hj
theorem swK_next (z : Nat → Nat → Int) {n k l : Nat} (hkn : k < n) (hl : l = n - 1 - k) (hkl : k < l) (i : Nat) (hi : i < n) (j : Nat) : (if i = l then swK z n k k j else if i = k then swK z n k l j else swK z n k i j) = swK z n (k + 1) i j := by
  unfold swK
  by_cases c : i = l
  · subst c
    rw [if_pos rfl, if_neg (by omega), if_pos (by omega), show n - 1 - i = k by omega]
  · rw [if_neg c]
    by_cases d : i = k
    · subst d
      rw [if_pos rfl, if_neg (by omega), if_pos (by omega), ← hl]
    · rw [if_neg d]
      by_cases e : i < k ∨ n - 1 - i < k
      · rw [if_pos e, if_pos (by omega)]
      · rw [if_neg e, if_neg (by omega)]
def RvS (w W : World) (g n : Nat) (z : Nat → Nat → Int) (k : Nat) : Prop := w.grownBy W (some g) ∧ ∃ cur : Array Value, Blk W g 63 cur ∧ Rws cur n (swK z n k)
set_option maxHeartbeats 4000000 in
set_option maxRecDepth 100000 in
theorem reverse_go (g n cap : Nat) (z : Nat → Nat → Int) (w : World) (hn : n ≤ 100) (hn0 : 0 < n) (hcap : n ≤ cap) (hR : RvS w w g n z 0) :
    Calls Try.prog 28 #[.slice (some ⟨g, 0, none⟩) n cap] w fun e w' => e = .returned (.tuple #[]) ∧ ∃ k, n ≤ 2 * k + 1 ∧ k ≤ n ∧ RvS w w' g n z k := by
  have HR := Lib.hid hR
  have kw0 : IntKind.i64.wrap ((n : Int) - 1) = (n : Int) - 1 := IntWalk.i64_in _ (by omega)
  clear hR
  go_enter Try.func28, Try.ntmps28
  go_wp2_with fail
  go_loopw [2, 3] (fun i j wr => ∃ (k : Nat), i = .int .i64 k ∧ j = .int .i64 ((n : Int) - 1 - (k : Int)) ∧ k ≤ n ∧ Hid (RvS w wr g n z k)) (fun i _ _ => n - (RowKit.intOf i).toNat)
  case atStart => exact ⟨0, rfl, by simp, by omega, HR⟩
  case round =>
    obtain ⟨k, rfl, rfl, hk, hR⟩ := hrel
    by_cases hlt : (k : Int) < (n : Int) - 1 - (k : Int)
    · obtain ⟨l, hl⟩ : ∃ l : Nat, l = n - 1 - k := ⟨_, rfl⟩
      have hli : (n : Int) - 1 - (k : Int) = (l : Int) := by omega
      rw [hli] at hlt ⊢
      obtain ⟨HBel, cur, HB, HC⟩ := hR.out
      have hkn : k < n := by omega
      have hln : l < n := by omega
      have hkl : k < l := by omega
      have c0 : wr.cell? ⟨g, k * 4, none⟩ = some (.int .i64 (swK z n k k 0)) := (HB.cell _).trans (HC k hkn 0 (by omega))
      have c1 : wr.cell? ⟨g, k * 4 + 1, none⟩ = some (.int .i64 (swK z n k k 1)) := (HB.cell _).trans (HC k hkn 1 (by omega))
      have c2 : wr.cell? ⟨g, k * 4 + 2, none⟩ = some (.int .i64 (swK z n k k 2)) := (HB.cell _).trans (HC k hkn 2 (by omega))
      have c3 : wr.cell? ⟨g, k * 4 + 3, none⟩ = some (.int .i64 (swK z n k k 3)) := (HB.cell _).trans (HC k hkn 3 (by omega))
      have d0 : wr.cell? ⟨g, l * 4, none⟩ = some (.int .i64 (swK z n k l 0)) := (HB.cell _).trans (HC l hln 0 (by omega))
      have d1 : wr.cell? ⟨g, l * 4 + 1, none⟩ = some (.int .i64 (swK z n k l 1)) := (HB.cell _).trans (HC l hln 1 (by omega))
      have d2 : wr.cell? ⟨g, l * 4 + 2, none⟩ = some (.int .i64 (swK z n k l 2)) := (HB.cell _).trans (HC l hln 2 (by omega))
      have d3 : wr.cell? ⟨g, l * 4 + 3, none⟩ = some (.int .i64 (swK z n k l 3)) := (HB.cell _).trans (HC l hln 3 (by omega))
      have f0 := HB.frozen (k * 4)
      have f1 := HB.frozen (k * 4 + 1)
      have f2 := HB.frozen (k * 4 + 2)
      have f3 := HB.frozen (k * 4 + 3)
      have gz := HB.lt
      have HH := Lib.hid (And.intro HBel (And.intro HB HC))
      obtain ⟨A0, hA0⟩ : ∃ x, swK z n k k 0 = x := ⟨_, rfl⟩
      obtain ⟨A1, hA1⟩ : ∃ x, swK z n k k 1 = x := ⟨_, rfl⟩
      obtain ⟨A2, hA2⟩ : ∃ x, swK z n k k 2 = x := ⟨_, rfl⟩
      obtain ⟨A3, hA3⟩ : ∃ x, swK z n k k 3 = x := ⟨_, rfl⟩
      obtain ⟨D0, hD0⟩ : ∃ x, swK z n k l 0 = x := ⟨_, rfl⟩
      obtain ⟨D1, hD1⟩ : ∃ x, swK z n k l 1 = x := ⟨_, rfl⟩
      obtain ⟨D2, hD2⟩ : ∃ x, swK z n k l 2 = x := ⟨_, rfl⟩
      obtain ⟨D3, hD3⟩ : ∃ x, swK z n k l 3 = x := ⟨_, rfl⟩
      rw [hA0] at c0
      rw [hA1] at c1
      rw [hA2] at c2
      rw [hA3] at c3
      rw [hD0] at d0
      rw [hD1] at d1
      rw [hD2] at d2
      rw [hD3] at d3
      have HV := Lib.hid (And.intro hA0 (And.intro hA1 (And.intro hA2 (And.intro hA3 (And.intro hD0 (And.intro hD1 (And.intro hD2 hD3)))))))
      have t1 : decide ((k : Int) < (l : Int)) = true := by simp [hkl]
      have hk0 : (0 : Int) ≤ (k : Int) := by omega
      have hl0 : (0 : Int) ≤ (l : Int) := by omega
      have hk1 : (k : Int) < (n : Int) := by omega
      have hl1 : (l : Int) < (n : Int) := by omega
      have HL := Lib.hid hl
      have HLI := Lib.hid hli
      clear HBel HB HC hA0 hA1 hA2 hA3 hD0 hD1 hD2 hD3 hR hl hli
      go_wp2_with fail
      refine wp_region_held_drew (S := fun _ => True) (by kernel_rfl) trivial (fun hHeld => ?_)
      refine wpAnyH_take (i := 0) (oi := _) (v := ?_) rfl (by kernel_rfl) (by kernel_rfl) (by kernel_rfl) (fun _ _ _ h => h) (Or.inl ⟨by rfl, ?_⟩) (by assumption) ?_
      rotate_left
      focus (intro w hSw; (try dsimp only at hSw); go_simp; try with_reducible rfl)
      try simp only [Act.put, List.getElem_toArray, List.getElem_cons_zero, List.getElem_cons_succ, List.setIfInBounds_toArray, List.set_cons_zero, List.set_cons_succ]
      refine wpAnyH_take (i := 1) (oi := _) (v := ?_) rfl (by kernel_rfl) (by kernel_rfl) (by kernel_rfl) (fun _ _ _ h => h) (Or.inl ⟨by rfl, ?_⟩) (by assumption) ?_
      rotate_left
      focus (intro w hSw; (try dsimp only at hSw); go_simp; try with_reducible rfl)
      try simp only [Act.put, List.getElem_toArray, List.getElem_cons_zero, List.getElem_cons_succ, List.setIfInBounds_toArray, List.set_cons_zero, List.set_cons_succ]
      refine wpAnyH_take (i := 2) (oi := _) (v := ?_) rfl (by kernel_rfl) (by kernel_rfl) (by kernel_rfl) (fun _ _ _ h => h) (Or.inl ⟨by rfl, ?_⟩) (by assumption) ?_
      rotate_left
      focus (intro w hSw; (try dsimp only at hSw); go_simp; try with_reducible rfl)
      try simp only [Act.put, List.getElem_toArray, List.getElem_cons_zero, List.getElem_cons_succ, List.setIfInBounds_toArray, List.set_cons_zero, List.set_cons_succ]
      refine wpAnyH_take (i := 3) (oi := _) (v := ?_) rfl (by kernel_rfl) (by kernel_rfl) (by kernel_rfl) (fun _ _ _ h => h) (Or.inl ⟨by rfl, ?_⟩) (by assumption) ?_
      rotate_left
      focus (intro w hSw; (try dsimp only at hSw); go_simp; try with_reducible rfl)
      try simp only [Act.put, List.getElem_toArray, List.getElem_cons_zero, List.getElem_cons_succ, List.setIfInBounds_toArray, List.set_cons_zero, List.set_cons_succ]
      refine wpAnyH_take (i := 4) (oi := _) (v := ?_) rfl (by kernel_rfl) (by kernel_rfl) (by kernel_rfl) (fun _ _ _ h => h) (Or.inl ⟨by rfl, ?_⟩) (by assumption) ?_
      rotate_left
      focus (intro w hSw; (try dsimp only at hSw); go_simp; try with_reducible rfl)
      try simp only [Act.put, List.getElem_toArray, List.getElem_cons_zero, List.getElem_cons_succ, List.setIfInBounds_toArray, List.set_cons_zero, List.set_cons_succ]
      refine wpAnyH_take (i := 5) (oi := _) (v := ?_) rfl (by kernel_rfl) (by kernel_rfl) (by kernel_rfl) (fun _ _ _ h => h) (Or.inl ⟨by rfl, ?_⟩) (by assumption) ?_
      rotate_left
      focus (intro w hSw; (try dsimp only at hSw); go_simp; try with_reducible rfl)
      try simp only [Act.put, List.getElem_toArray, List.getElem_cons_zero, List.getElem_cons_succ, List.setIfInBounds_toArray, List.set_cons_zero, List.set_cons_succ]
      refine wpAnyH_take (i := 6) (oi := _) (v := ?_) rfl (by kernel_rfl) (by kernel_rfl) (by kernel_rfl) (fun _ _ _ h => h) (Or.inl ⟨by rfl, ?_⟩) (by assumption) ?_
      rotate_left
      focus (intro w hSw; (try dsimp only at hSw); go_simp; try with_reducible rfl)
      try simp only [Act.put, List.getElem_toArray, List.getElem_cons_zero, List.getElem_cons_succ, List.setIfInBounds_toArray, List.set_cons_zero, List.set_cons_succ]
      refine wpAnyH_take (i := 8) (oi := _) (v := ?_) rfl (by kernel_rfl) (by kernel_rfl) (by kernel_rfl) (fun _ _ _ h => h) (Or.inl ⟨by rfl, ?_⟩) (by assumption) ?_
      rotate_left
      focus (intro w hSw; (try dsimp only at hSw); go_simp; try with_reducible rfl)
      try simp only [Act.put, List.getElem_toArray, List.getElem_cons_zero, List.getElem_cons_succ, List.setIfInBounds_toArray, List.set_cons_zero, List.set_cons_succ]
      refine wpAnyH_take (i := 9) (oi := _) (v := ?_) rfl (by kernel_rfl) (by kernel_rfl) (by kernel_rfl) (fun _ _ _ h => h) (Or.inl ⟨by rfl, ?_⟩) (by assumption) ?_
      rotate_left
      focus (intro w hSw; (try dsimp only at hSw); go_simp; try with_reducible rfl)
      try simp only [Act.put, List.getElem_toArray, List.getElem_cons_zero, List.getElem_cons_succ, List.setIfInBounds_toArray, List.set_cons_zero, List.set_cons_succ]
      refine wpAnyH_take (i := 10) (oi := _) (v := ?_) rfl (by kernel_rfl) (by kernel_rfl) (by kernel_rfl) (fun _ _ _ h => h) (Or.inl ⟨by rfl, ?_⟩) (by assumption) ?_
      rotate_left
      focus (intro w hSw; (try dsimp only at hSw); go_simp; try with_reducible rfl)
      try simp only [Act.put, List.getElem_toArray, List.getElem_cons_zero, List.getElem_cons_succ, List.setIfInBounds_toArray, List.set_cons_zero, List.set_cons_succ]
      refine wpAnyH_ready (rs := [7, 11]) (by kernel_rfl) (by simp) ?_
      refine AllReadyH.cons rfl (fun K hK => ?_) (AllReadyH.cons rfl (fun K hK => ?_) AllReadyH.nil)
      · go_simp
        refine hK.out _ _ trivial (fun hHeld2 => ?_)
        clear hHeld2
        clear hK K
        try simp only [Act.put, List.getElem_toArray, List.getElem_cons_zero, List.getElem_cons_succ, List.setIfInBounds_toArray, List.set_cons_zero, List.set_cons_succ]
        refine wpAnyH_ready (rs := [11]) (by kernel_rfl) (by simp) ?_
        refine AllReadyH.cons rfl (fun K hK => ?_) AllReadyH.nil
        go_simp
        refine hK.out _ _ trivial (fun hHeld2 => ?_)
        clear hHeld2
        clear hK K
        try simp only [Act.put, List.getElem_toArray, List.getElem_cons_zero, List.getElem_cons_succ, List.setIfInBounds_toArray, List.set_cons_zero, List.set_cons_succ]
        refine wpAnyH_take (i := 12) (oi := _) (v := ?_) rfl (by kernel_rfl) (by kernel_rfl) (by kernel_rfl) (fun _ _ _ h => h) (Or.inl ⟨by rfl, ?_⟩) (by assumption) ?_
        rotate_left
        focus (intro w hSw; (try dsimp only at hSw); go_simp; try with_reducible rfl)
        try simp only [Act.put, List.getElem_toArray, List.getElem_cons_zero, List.getElem_cons_succ, List.setIfInBounds_toArray, List.set_cons_zero, List.set_cons_succ]
        refine wpAnyH_ready (rs := [13]) (by kernel_rfl) (by simp) ?_
        refine AllReadyH.cons rfl (fun K hK => ?_) AllReadyH.nil
        go_simp
        have HB1 := (set4 HH.out.2.1 (k * 4) (.int .i64 D0) (.int .i64 D1) (.int .i64 D2) (.int .i64 D3)).drew
        have HC1 := rws_set HH.out.2.2 hkn (fun j => swK z n k l j)
        have HE1 := only_drew (own4 HH.out.1 (k * 4) (.int .i64 D0) (.int .i64 D1) (.int .i64 D2) (.int .i64 D3))
        obtain ⟨_, _, _, _, v4, v5, v6, v7⟩ := HV.out
        rw [v4, v5, v6, v7] at HC1
        have HZ1 := Lib.hid (And.intro HE1 (And.intro HB1 HC1))
        clear HB1 HC1 HE1 v4 v5 v6 v7
        refine hK.out _ _ trivial (fun hHeld2 => ?_)
        clear hHeld2
        clear hK K
        try simp only [Act.put, List.getElem_toArray, List.getElem_cons_zero, List.getElem_cons_succ, List.setIfInBounds_toArray, List.set_cons_zero, List.set_cons_succ]
        clear c0 c1 c2 c3 d0 d1 d2 d3 f0 f1 f2 f3 gz
        generalize ((((wr.setCell ⟨g, k * 4, none⟩ (.int .i64 D0)).setCell ⟨g, k * 4 + 1, none⟩ (.int .i64 D1)).setCell ⟨g, k * 4 + 2, none⟩ (.int .i64 D2)).setCell ⟨g, k * 4 + 3, none⟩ (.int .i64 D3)).drew = W1 at HZ1 ⊢
        have c0 := (HZ1.out.2.1.cell (l * 4)).trans (HZ1.out.2.2 l hln 0 (by omega))
        have c1 := (HZ1.out.2.1.cell (l * 4 + 1)).trans (HZ1.out.2.2 l hln 1 (by omega))
        have c2 := (HZ1.out.2.1.cell (l * 4 + 2)).trans (HZ1.out.2.2 l hln 2 (by omega))
        have c3 := (HZ1.out.2.1.cell (l * 4 + 3)).trans (HZ1.out.2.2 l hln 3 (by omega))
        have f0 := HZ1.out.2.1.frozen (l * 4)
        have f1 := HZ1.out.2.1.frozen (l * 4 + 1)
        have f2 := HZ1.out.2.1.frozen (l * 4 + 2)
        have f3 := HZ1.out.2.1.frozen (l * 4 + 3)
        have gz := HZ1.out.2.1.lt
        refine wpAnyH_take (i := 14) (oi := _) (v := ?_) rfl (by kernel_rfl) (by kernel_rfl) (by kernel_rfl) (fun _ _ _ h => h) (Or.inl ⟨by rfl, ?_⟩) (by assumption) ?_
        rotate_left
        focus (intro w hSw; (try dsimp only at hSw); go_simp; try with_reducible rfl)
        try simp only [Act.put, List.getElem_toArray, List.getElem_cons_zero, List.getElem_cons_succ, List.setIfInBounds_toArray, List.set_cons_zero, List.set_cons_succ]
        refine wpAnyH_ready (rs := [15]) (by kernel_rfl) (by simp) ?_
        refine AllReadyH.cons rfl (fun K hK => ?_) AllReadyH.nil
        go_simp
        have HB2 := set4 HZ1.out.2.1 (l * 4) (.int .i64 A0) (.int .i64 A1) (.int .i64 A2) (.int .i64 A3)
        have HC2 := rws_set HZ1.out.2.2 hln (fun j => swK z n k k j)
        have HE2 := own4 HZ1.out.1 (l * 4) (.int .i64 A0) (.int .i64 A1) (.int .i64 A2) (.int .i64 A3)
        obtain ⟨v0, v1, v2, v3, _, _, _, _⟩ := HV.out
        rw [v0, v1, v2, v3] at HC2
        have HF : Hid (RvS w _ g n z (k + 1)) := Lib.hid ⟨HE2, _, HB2, fun i hi j hj => (HC2 i hi j hj).trans (congrArg (fun v => some (Value.int .i64 v)) (swK_next z hkn HL.out hkl i hi j))⟩
        clear HB2 HC2 HE2 HZ1 v0 v1 v2 v3
        refine hK.out _ _ trivial (fun hHeld2 => ?_)
        clear hHeld2
        clear hK K
        try simp only [Act.put, List.getElem_toArray, List.getElem_cons_zero, List.getElem_cons_succ, List.setIfInBounds_toArray, List.set_cons_zero, List.set_cons_succ]
        refine wpAnyH_done (by kernel_rfl) ?_ _
        go_wp2_with fail
        exact ⟨⟨k + 1, by go_num, by have := HLI.out; exact congrArg (Value.int .i64) (by omega), by omega, HF⟩, by simp [RowKit.intOf]; omega⟩
      · go_simp
        refine hK.out _ _ trivial (fun hHeld2 => ?_)
        clear hHeld2
        clear hK K
        try simp only [Act.put, List.getElem_toArray, List.getElem_cons_zero, List.getElem_cons_succ, List.setIfInBounds_toArray, List.set_cons_zero, List.set_cons_succ]
        refine wpAnyH_ready (rs := [7]) (by kernel_rfl) (by simp) ?_
        refine AllReadyH.cons rfl (fun K hK => ?_) AllReadyH.nil
        go_simp
        refine hK.out _ _ trivial (fun hHeld2 => ?_)
        clear hHeld2
        clear hK K
        try simp only [Act.put, List.getElem_toArray, List.getElem_cons_zero, List.getElem_cons_succ, List.setIfInBounds_toArray, List.set_cons_zero, List.set_cons_succ]
        refine wpAnyH_take (i := 12) (oi := _) (v := ?_) rfl (by kernel_rfl) (by kernel_rfl) (by kernel_rfl) (fun _ _ _ h => h) (Or.inl ⟨by rfl, ?_⟩) (by assumption) ?_
        rotate_left
        focus (intro w hSw; (try dsimp only at hSw); go_simp; try with_reducible rfl)
        try simp only [Act.put, List.getElem_toArray, List.getElem_cons_zero, List.getElem_cons_succ, List.setIfInBounds_toArray, List.set_cons_zero, List.set_cons_succ]
        refine wpAnyH_ready (rs := [13]) (by kernel_rfl) (by simp) ?_
        refine AllReadyH.cons rfl (fun K hK => ?_) AllReadyH.nil
        go_simp
        have HB1 := (set4 HH.out.2.1 (k * 4) (.int .i64 D0) (.int .i64 D1) (.int .i64 D2) (.int .i64 D3)).drew
        have HC1 := rws_set HH.out.2.2 hkn (fun j => swK z n k l j)
        have HE1 := only_drew (own4 HH.out.1 (k * 4) (.int .i64 D0) (.int .i64 D1) (.int .i64 D2) (.int .i64 D3))
        obtain ⟨_, _, _, _, v4, v5, v6, v7⟩ := HV.out
        rw [v4, v5, v6, v7] at HC1
        have HZ1 := Lib.hid (And.intro HE1 (And.intro HB1 HC1))
        clear HB1 HC1 HE1 v4 v5 v6 v7
        refine hK.out _ _ trivial (fun hHeld2 => ?_)
        clear hHeld2
        clear hK K
        try simp only [Act.put, List.getElem_toArray, List.getElem_cons_zero, List.getElem_cons_succ, List.setIfInBounds_toArray, List.set_cons_zero, List.set_cons_succ]
        clear c0 c1 c2 c3 d0 d1 d2 d3 f0 f1 f2 f3 gz
        generalize ((((wr.setCell ⟨g, k * 4, none⟩ (.int .i64 D0)).setCell ⟨g, k * 4 + 1, none⟩ (.int .i64 D1)).setCell ⟨g, k * 4 + 2, none⟩ (.int .i64 D2)).setCell ⟨g, k * 4 + 3, none⟩ (.int .i64 D3)).drew = W1 at HZ1 ⊢
        have c0 := (HZ1.out.2.1.cell (l * 4)).trans (HZ1.out.2.2 l hln 0 (by omega))
        have c1 := (HZ1.out.2.1.cell (l * 4 + 1)).trans (HZ1.out.2.2 l hln 1 (by omega))
        have c2 := (HZ1.out.2.1.cell (l * 4 + 2)).trans (HZ1.out.2.2 l hln 2 (by omega))
        have c3 := (HZ1.out.2.1.cell (l * 4 + 3)).trans (HZ1.out.2.2 l hln 3 (by omega))
        have f0 := HZ1.out.2.1.frozen (l * 4)
        have f1 := HZ1.out.2.1.frozen (l * 4 + 1)
        have f2 := HZ1.out.2.1.frozen (l * 4 + 2)
        have f3 := HZ1.out.2.1.frozen (l * 4 + 3)
        have gz := HZ1.out.2.1.lt
        refine wpAnyH_take (i := 14) (oi := _) (v := ?_) rfl (by kernel_rfl) (by kernel_rfl) (by kernel_rfl) (fun _ _ _ h => h) (Or.inl ⟨by rfl, ?_⟩) (by assumption) ?_
        rotate_left
        focus (intro w hSw; (try dsimp only at hSw); go_simp; try with_reducible rfl)
        try simp only [Act.put, List.getElem_toArray, List.getElem_cons_zero, List.getElem_cons_succ, List.setIfInBounds_toArray, List.set_cons_zero, List.set_cons_succ]
        refine wpAnyH_ready (rs := [15]) (by kernel_rfl) (by simp) ?_
        refine AllReadyH.cons rfl (fun K hK => ?_) AllReadyH.nil
        go_simp
        have HB2 := set4 HZ1.out.2.1 (l * 4) (.int .i64 A0) (.int .i64 A1) (.int .i64 A2) (.int .i64 A3)
        have HC2 := rws_set HZ1.out.2.2 hln (fun j => swK z n k k j)
        have HE2 := own4 HZ1.out.1 (l * 4) (.int .i64 A0) (.int .i64 A1) (.int .i64 A2) (.int .i64 A3)
        obtain ⟨v0, v1, v2, v3, _, _, _, _⟩ := HV.out
        rw [v0, v1, v2, v3] at HC2
        have HF : Hid (RvS w _ g n z (k + 1)) := Lib.hid ⟨HE2, _, HB2, fun i hi j hj => (HC2 i hi j hj).trans (congrArg (fun v => some (Value.int .i64 v)) (swK_next z hkn HL.out hkl i hi j))⟩
        clear HB2 HC2 HE2 HZ1 v0 v1 v2 v3
        refine hK.out _ _ trivial (fun hHeld2 => ?_)
        clear hHeld2
        clear hK K
        try simp only [Act.put, List.getElem_toArray, List.getElem_cons_zero, List.getElem_cons_succ, List.setIfInBounds_toArray, List.set_cons_zero, List.set_cons_succ]
        refine wpAnyH_done (by kernel_rfl) ?_ _
        go_wp2_with fail
        exact ⟨⟨k + 1, by go_num, by have := HLI.out; exact congrArg (Value.int .i64) (by omega), by omega, HF⟩, by simp [RowKit.intOf]; omega⟩
    · have t1 : decide ((k : Int) < (n : Int) - 1 - (k : Int)) = false := by simp; omega
      go_wp2_with fail
      go_end0
      exact ⟨rfl, k, by omega, hk, hR.out⟩
theorem swK_all (z : Nat → Nat → Int) {n k : Nat} (h : n ≤ 2 * k + 1) (i : Nat) (hi : i < n) (j : Nat) : swK z n k i j = z (n - 1 - i) j := by
  unfold swK
  by_cases c : i < k ∨ n - 1 - i < k
  · rw [if_pos c]
  · rw [if_neg c, show n - 1 - i = i by omega]
set_option maxHeartbeats 1000000 in
theorem reverse_nil (a : Option Addr) (cap : Nat) (w : World) : Calls Try.prog 28 #[.slice a 0 cap] w fun e w' => e = .returned (.tuple #[]) ∧ w = w' := by
  go_enter Try.func28, Try.ntmps28
  go_wp2
  go_loop [2, 3] (fun i j => i = .int .i64 0 ∧ j = .int .i64 (-1)) (fun _ _ => 0)
  case atStart => exact ⟨rfl, rfl⟩
  case round =>
    obtain ⟨rfl, rfl⟩ := hrel
    go_wp2
    go_end0
    exact ⟨rfl, rfl⟩
theorem reverse_any (a : Option Addr) (n cap : Nat) (z : Nat → Nat → Int) (w : World) (B : Nat) (hn : n ≤ 100) (hR : Rows4 w B a n cap z) :
    Calls Try.prog 28 #[.slice a n cap] w fun e w' => e = .returned (.tuple #[]) ∧ Rows4 w' B a n cap (fun i j => z (n - 1 - i) j) ∧ (w = w' ∨ ∃ g, 0 < n ∧ B ≤ g ∧ w.grownBy w' (some g) ∧ a = some ⟨g, 0, none⟩ ∧ ∃ cur, Blk w g 63 cur) := by
  by_cases h0 : n = 0
  · subst h0
    refine (reverse_nil a cap w).mono ?_
    rintro e w' ⟨rfl, rfl⟩
    exact ⟨rfl, ⟨hR.1, hR.2.1, fun h => absurd h (by omega)⟩, .inl rfl⟩
  · obtain ⟨g, cur, rfl, h2, h3, h4⟩ := hR.2.2 (by omega)
    refine (reverse_go g n cap z w hn (by omega) hR.1 ⟨only_refl _ _, cur, h3, fun i hi j hj => by rw [h4 i hi j hj]; unfold swK; rw [if_neg (by omega)]⟩).mono ?_
    rintro e w' ⟨rfl, k, k1, k2, HB, cur', h5, h6⟩
    exact ⟨rfl, ⟨hR.1, hR.2.1, fun _ => ⟨g, cur', rfl, h2, h5, fun i hi j hj => (h6 i hi j hj).trans (by rw [swK_all z k1 i hi j])⟩⟩, .inr ⟨g, by omega, h2, HB, rfl, cur, h3⟩⟩
end Go.Proofs.Ytnlfkafebbfenaa
