/- What the loops of pll's laws keep. -/
import Derived.Test.YtdjfbghdnkjdoaaDoorPll6
import Derived.Test.YtdjfbghdnkjdoaaDoorOpenInts
namespace Go.Proofs.YtdjfbghdnkjdoaaDoor
namespace Pl
/-- the poll that counts for a tick -/
def plOf (c : LC) (s : LS) : Int := if s.kn = true then s.po else c.lo
theorem up_err {c : LC} {s : LS} {t o po : Int} (h : (upR c s t o po).e ≠ 0) : upS c s t o po = s ∧ (upR c s t o po).k = 0 ∧ (upR c s t o po).v = 0 := by
  have h1 : upE c s t o po ≠ 0 := by
    intro q
    unfold upR at h
    rw [if_pos q] at h
    split at h
    · exact h rfl
    · split at h <;> exact h rfl
  unfold upS upR
  rw [if_neg h1, if_neg h1]
  exact ⟨rfl, rfl, rfl⟩
theorem up_zero {c : LC} {s : LS} {t o po : Int} (h : (upR c s t o po).e = 0) : upE c s t o po = 0 := by
  unfold upR at h
  by_cases q : upE c s t o po = 0
  · exact q
  · rw [if_neg q] at h
    exact absurd h q
/-- what is true of the poll behind an update -/
theorem up_poll {c : LC} {s : LS} {t o po : Int} (h : (upR c s t o po).e = 0) :
    ((upR c s t o po).k = 0 → (upS c s t o po).st = 1 → plOf c (upS c s t o po) = plOf c s) ∧
    (((upR c s t o po).k ≠ 0 ∨ (upS c s t o po).st ≠ 1) → plOf c (upS c s t o po) = po ∨ (upS c s t o po = s ∧ (upR c s t o po).k = 0 ∧ s.st = 1)) := by
  have he := up_zero h
  unfold upR upS
  rw [if_pos he, if_pos he]
  cases hw : waits c s t with
  | true =>
    have hst : s.st = 1 := by
      unfold waits at hw
      simp at hw
      exact hw.1
    simp only [if_true]
    exact ⟨fun _ _ => trivial, fun _ => .inr ⟨trivial, trivial, hst⟩⟩
  | false =>
    simp only [Bool.false_eq_true, if_false]
    cases hb : big c o with
    | true =>
      simp only [if_true]
      refine ⟨fun k st => ?_, fun _ => .inl rfl⟩
      exfalso
      unfold LS.upd lgS at st
      unfold lgK at k
      simp only at st
      split at st
      · rw [if_pos (by assumption)] at k; omega
      · rename_i a
        rw [if_neg a] at k
        split at st
        · rw [if_pos (by assumption)] at k; omega
        · split at st
          · simp at st
          · split at st
            · rename_i b _ _
              exact b st
            · simp at st
    | false =>
      simp only [Bool.false_eq_true, if_false]
      exact ⟨fun k => by omega, fun _ => .inl rfl⟩
theorem up_lim {c : LC} {s : LS} {t o po : Int} (h : (upR c s t o po).e = 0) :
    ((upR c s t o po).k = 0 ∧ (upR c s t o po).v = 0) ∨ ((upR c s t o po).k = 1 ∧ big c o = false ∧ (upR c s t o po).v = (upS c s t o po).f ∧ (upS c s t o po).p = o) ∨ ((upR c s t o po).k = 2 ∧ big c o = true ∧ (upR c s t o po).v = o ∧ (upS c s t o po).p = 0) := by
  have he := up_zero h
  unfold upR upS
  rw [if_pos he, if_pos he]
  cases hw : waits c s t with
  | true =>
    simp only [if_true]
    exact .inl ⟨trivial, trivial⟩
  | false =>
    simp only [Bool.false_eq_true, if_false]
    cases hb : big c o with
    | true =>
      simp only [if_true]
      unfold lgK LS.upd lgS
      by_cases a : s.st = 0
      · simp [a]
      · by_cases b : s.st = 1
        · simp [b]
        · by_cases d : s.st = 3
          · simp [d]
          · by_cases e : t - s.sp < c.so
            · simp [a, b, d, e]
            · simp [a, b, d, e]
    | false =>
      simp only [Bool.false_eq_true, if_false]
      refine .inr (.inl ⟨trivial, trivial, rfl, ?_⟩)
      unfold LS.upd smS
      split
      · rfl
      · split <;> rfl
/-- what the law of the spikes keeps -/
def SInv (s : LS) (B : Int) : Prop := (0 ≤ B ∧ B ≤ 1073741824) ∧ (s.st = 2 → B = s.sp)
theorem sinv_same {c : LC} {s : LS} {B t o po : Int} (hi : SInv s B) (h : (upR c s t o po).e ≠ 0 ∨ big c o = false ∨ s.st = 0 ∨ s.st = 1) : SInv (upS c s t o po) B := by
  refine ⟨hi.1, ?_⟩
  by_cases e : (upR c s t o po).e = 0
  · have he := up_zero e
    unfold upS
    rw [if_pos he]
    cases hw : waits c s t with
    | true =>
      simp only [if_true]
      exact hi.2
    | false =>
      simp only [Bool.false_eq_true, if_false]
      cases hb : big c o with
      | true =>
        rw [hb] at h
        simp only [if_true]
        rcases h with q | q | q | q
        · exact absurd e q
        · cases q
        · simp [lgS, LS.upd, q]
        · simp [lgS, LS.upd, q]
      | false =>
        simp only [Bool.false_eq_true, if_false]
        unfold LS.upd smS
        split
        · simp
        · split <;> simp
  · rw [(up_err e).1]
    exact hi.2
theorem big_sync {c : LC} {s : LS} {t o po : Int} (h : (upR c s t o po).e = 0) (hb : big c o = true) (hs : s.st = 3) :
    (upR c s t o po).k = 0 ∧ (upS c s t o po).f = s.f ∧ (upS c s t o po).p = s.p ∧ (upS c s t o po).st = 2 ∧ SInv (upS c s t o po) t := by
  have he := up_zero h
  have ha := args_iff.1 (upE_zero he).1
  have hw : waits c s t = false := by simp [waits, hs]
  unfold upR upS SInv
  rw [if_pos he, if_pos he]
  simp [hw, hb, lgK, lgS, LS.upd, hs]
  omega
theorem big_spike {c : LC} {s : LS} {B t o po : Int} (h : (upR c s t o po).e = 0) (hb : big c o = true) (hs : s.st = 2) (hi : SInv s B) :
    (upS c s t o po).f = s.f ∧ (t - B < c.so → (upR c s t o po).k = 0 ∧ (upS c s t o po).p = s.p ∧ (upS c s t o po).st = 2 ∧ SInv (upS c s t o po) B) ∧ (c.so ≤ t - B → (upR c s t o po).k = 2 ∧ (upS c s t o po).st = 3 ∧ SInv (upS c s t o po) B) := by
  have he := up_zero h
  have hw : waits c s t = false := by simp [waits, hs]
  have hB := hi.2 hs
  have h1 := hi.1
  subst hB
  unfold upR upS SInv
  rw [if_pos he, if_pos he]
  by_cases l : t - s.sp < c.so
  · simp [hw, hb, lgK, lgS, LS.upd, hs, l]
    omega
  · simp [hw, hb, lgK, lgS, LS.upd, hs, l]
    omega
theorem args_in {c : LC} {s : LS} {t o po : Int} (hc : c.err = 0) (h : (upR c s t o po).e = 0) : (0 ≤ t ∧ t ≤ 1073741824) ∧ (3 ≤ po ∧ po ≤ 17) := by
  have := args_iff.1 (upE_zero (up_zero h)).1
  have := LC.ok hc
  omega
theorem tdiv_zero (p d : Int) (hd : 0 < d) : p.tdiv d = 0 ↔ -d < p ∧ p < d := by
  rcases Int.lt_or_le p 0 with h | h
  · obtain ⟨n, rfl⟩ : ∃ n, p = -n := ⟨-p, by omega⟩
    rw [Int.neg_tdiv, Int.tdiv_eq_ediv_of_nonneg (by omega)]
    constructor
    · intro q
      have q2 : n / d = 0 := by omega
      have := Int.lt_ediv_add_one_mul_self n hd
      rw [q2] at this
      omega
    · intro q
      rw [Int.ediv_eq_zero_of_lt (by omega) (by omega)]
      rfl
  · rw [Int.tdiv_eq_ediv_of_nonneg h]
    constructor
    · intro q
      have := Int.lt_ediv_add_one_mul_self p hd
      rw [q] at this
      omega
    · intro q
      exact Int.ediv_eq_zero_of_lt (by omega) (by omega)
end Pl
open Go.RowKit Go.Lib

/-- the configuration's box and a loop -/
def Lo (w W : World) (b : Nat) (c : Pl.LC) (S : Pl.LS) : Prop :=
  Below w.heap.size w W ∧ Blk W w.heap.size 23 #[.int .i64 c.lo, .int .i64 c.hi, .int .i64 c.sa, .int .i64 c.so, .int .i64 c.lim] ∧ Blk W b 46 (lvA c S) ∧ w.heap.size + 1 ≤ b
section
variable {w W W' : World} {b : Nat} {c : Pl.LC} {S S' : Pl.LS}
theorem Lo.on (h : Lo w W b c S) (l : Below W.heap.size W W') : Lo w W' b c S := ⟨bel_on h.1 l, h.2.1.below_ l, h.2.2.1.below_ l, h.2.2.2⟩
theorem Lo.alloc (h : Lo w W b c S) (x : Obj) : Lo w (W.alloc x) b c S := h.on (bel_bx W x)
theorem Lo.drew (h : Lo w W b c S) : Lo w W.drew b c S := ⟨h.1.drew, h.2.1.drew, h.2.2.1.drew, h.2.2.2⟩
theorem Lo.turn (h : Lo w W b c S) (l : LeftP b c S' W W') : Lo w W' b c S' := by
  have hb := h.2.2.2
  exact ⟨Below.only h.1 l.2 (by omega) h.1.size, h.2.1.grown l.2 (fun e => by injection e with e; omega), l.1, hb⟩
theorem Lo.cf (h : Lo w W b c S) : W.cell? ⟨w.heap.size, 0, none⟩ = some (.int .i64 c.lo) ∧ W.cell? ⟨w.heap.size, 1, none⟩ = some (.int .i64 c.hi) ∧ W.cell? ⟨w.heap.size, 2, none⟩ = some (.int .i64 c.sa) ∧ W.cell? ⟨w.heap.size, 3, none⟩ = some (.int .i64 c.so) ∧ W.cell? ⟨w.heap.size, 4, none⟩ = some (.int .i64 c.lim) :=
  ⟨h.2.1.cell 0, h.2.1.cell 1, h.2.1.cell 2, h.2.1.cell 3, h.2.1.cell 4⟩
/-- a row of four cells -/
def Row4 (W : World) (b o : Nat) (v0 v1 v2 v3 : Int) : Prop := b < W.heap.size ∧ W.cell? ⟨b, o, none⟩ = some (.int .i64 v0) ∧ W.cell? ⟨b, o + 1, none⟩ = some (.int .i64 v1) ∧ W.cell? ⟨b, o + 2, none⟩ = some (.int .i64 v2) ∧ W.cell? ⟨b, o + 3, none⟩ = some (.int .i64 v3)
theorem Row4.on {o : Nat} {v0 v1 v2 v3 : Int} (h : Row4 W b o v0 v1 v2 v3) (l : Below W.heap.size W W') : Row4 W' b o v0 v1 v2 v3 :=
  ⟨Nat.lt_of_lt_of_le h.1 l.size, (l.cell (p := ⟨b, o, none⟩) h.1).trans h.2.1, (l.cell (p := ⟨b, o + 1, none⟩) h.1).trans h.2.2.1, (l.cell (p := ⟨b, o + 2, none⟩) h.1).trans h.2.2.2.1, (l.cell (p := ⟨b, o + 3, none⟩) h.1).trans h.2.2.2.2⟩
theorem Row4.drew {o : Nat} {v0 v1 v2 v3 : Int} (h : Row4 W b o v0 v1 v2 v3) : Row4 W.drew b o v0 v1 v2 v3 := h
theorem Row4.grown {o b' : Nat} {v0 v1 v2 v3 : Int} (h : Row4 W b o v0 v1 v2 v3) (l : W.grownBy W' (some b')) (hb : b < b') : Row4 W' b o v0 v1 v2 v3 := by
  have g : Below (b + 1) W W' := Below.only (Below.refl _ _) l (by omega) h.1
  exact ⟨Nat.lt_of_lt_of_le h.1 l.size, (g.cell (p := ⟨b, o, none⟩) (by show b < b + 1; omega)).trans h.2.1, (g.cell (p := ⟨b, o + 1, none⟩) (by show b < b + 1; omega)).trans h.2.2.1, (g.cell (p := ⟨b, o + 2, none⟩) (by show b < b + 1; omega)).trans h.2.2.2.1, (g.cell (p := ⟨b, o + 3, none⟩) (by show b < b + 1; omega)).trans h.2.2.2.2⟩
theorem Row4.two {o b' : Nat} {v0 v1 v2 v3 : Int} (h : Row4 W b o v0 v1 v2 v3) (hb : b < b') (x y : Value) : Row4 ((W.setCell ⟨b', 0, none⟩ x).setCell ⟨b', 1, none⟩ y) b o v0 v1 v2 v3 :=
  h.grown (only_setCell (only_setCell (only_refl W (some b')) (p := ⟨b', 0, none⟩) (.inl rfl) x) (p := ⟨b', 1, none⟩) (.inl rfl) y) hb
/-- a box that was laid ahead of the update, behind it -/
theorem up_two {T : TypeId} {cs : Array Value} (l : LeftP b c S (W.alloc (.cells cs T)).drew W') (hb : b < W.heap.size) : Blk W' W.heap.size T cs :=
  (Blk.new W T cs).drew.grown l.2 (fun e => by injection e with e; omega)
theorem Lo.two {g : Nat} (h : Lo w W b c S) (hg : b < g) (x y : Value) : Lo w ((W.setCell ⟨g, 0, none⟩ x).setCell ⟨g, 1, none⟩ y) b c S := by
  have hb := h.2.2.2
  exact ⟨Below.setCell (p := ⟨g, 1, none⟩) (Below.setCell (p := ⟨g, 0, none⟩) h.1 (by show w.heap.size ≤ g; omega) x) (by show w.heap.size ≤ g; omega) y,
    (h.2.1.far (p := ⟨g, 0, none⟩) (by show w.heap.size ≠ g; omega) x).far (p := ⟨g, 1, none⟩) (by show w.heap.size ≠ g; omega) y,
    (h.2.2.1.far (p := ⟨g, 0, none⟩) (by show b ≠ g; omega) x).far (p := ⟨g, 1, none⟩) (by show b ≠ g; omega) y, hb⟩
theorem blk_two {g : Nat} {T : TypeId} {x y u v : Value} (h : Blk W g T #[x, y]) : Blk ((W.setCell ⟨g, 0, none⟩ u).setCell ⟨g, 1, none⟩ v) g T #[u, v] := by
  have := (h.set_ 0 u).set_ 1 v
  exact this
theorem Lo.drewN (h : Lo w W b c S) (n : Nat) : Lo w (W.drewN n) b c S := ⟨below_drewN h.1 n, h.2.1.drewN n, h.2.2.1.drewN n, h.2.2.2⟩
theorem Row4.drewN {o : Nat} {v0 v1 v2 v3 : Int} (h : Row4 W b o v0 v1 v2 v3) (n : Nat) : Row4 (W.drewN n) b o v0 v1 v2 v3 := h
end
theorem few_yes (a : Option Addr) (len cap : Nat) (h : len ≤ 60) (w : World) : Calls Tryd.prog 15 #[.slice a len cap] w fun e w' => e = .returned (.bool true) ∧ w = w' := by
  go_enter Tryd.func15, Tryd.ntmps15
  go_wp2
  go_ret
  exact ⟨congrArg Ending.returned (congrArg Value.bool (by simp; omega)), rfl⟩
theorem few_no (a : Option Addr) (len cap : Nat) (h : 60 < len) (w : World) : Calls Tryd.prog 15 #[.slice a len cap] w fun e w' => e = .returned (.bool false) ∧ w = w' := by
  go_enter Tryd.func15, Tryd.ntmps15
  go_wp2
  go_ret
  exact ⟨congrArg Ending.returned (congrArg Value.bool (by simp; omega)), rfl⟩
/-- the parameter's box as it is laid -/
theorem lo_mk {w W : World} {b : Nat} {c : Pl.LC} {S : Pl.LS} (l : Below (w.alloc (.cells #[.int .i64 c.lo, .int .i64 c.hi, .int .i64 c.sa, .int .i64 c.so, .int .i64 c.lim] 23)).heap.size (w.alloc (.cells #[.int .i64 c.lo, .int .i64 c.hi, .int .i64 c.sa, .int .i64 c.so, .int .i64 c.lim] 23)) W) (hb : (w.alloc (.cells #[.int .i64 c.lo, .int .i64 c.hi, .int .i64 c.sa, .int .i64 c.so, .int .i64 c.lim] 23)).heap.size ≤ b) (hk : Blk W b 46 (lvA c S)) : Lo w W b c S :=
  ⟨bel_on (bel_bx w _) l, (Blk.new w 23 #[.int .i64 c.lo, .int .i64 c.hi, .int .i64 c.sa, .int .i64 c.so, .int .i64 c.lim]).below_ l, hk, by simpa using hb⟩
end Go.Proofs.YtdjfbghdnkjdoaaDoor
