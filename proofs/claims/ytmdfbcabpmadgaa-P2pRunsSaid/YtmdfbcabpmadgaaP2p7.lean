/- at and one of layer 39's statements. -/
import Derived.Test.YtmdfbcabpmadgaaP2p6
import Derived.Test.YtmdfbcabpmadgaaRowGuard
namespace Go.Proofs.Ytmdfbcabpmadgaa
namespace Pl
def atS (t : Int) : Int := (3900000000000000000 + t) / 1000000000 - 2208988800
def atN (t : Int) : Int := (3900000000000000000 + t) % 1000000000
theorem at_ok {t : Int} (h : rdg t = true) : stOk (atS t) (atN t) = true ∧ tmT (atS t) (atN t) = 3900000000000000000 + t ∧ tmOk (atS t) (atN t) = true := by
  have := rdg_iff.1 h
  have h1 : stOk (atS t) (atN t) = true := stOk_iff.2 (by unfold atS atN; omega)
  have h2 : tmT (atS t) (atN t) = 3900000000000000000 + t := by unfold tmT atS atN; omega
  refine ⟨h1, h2, ?_⟩
  unfold tmOk
  rw [h1, h2]
  simp
  omega
/-- the messages of an exchange -/
def mR (k seq t c : Int) : PM := ⟨k, 0, 0, c, 5, 1, seq, 0, atS t, atN t, 7, 2, 0, 0, 0, 0, 0, 0, 0, 0, 0⟩
theorem mR_ins {k seq t c : Int} (h : rdg t = true) : insB (mR k seq t c) = true ∧ insN (mR k seq t c) = t := by
  obtain ⟨_, h2, h3⟩ := at_ok h
  have e : 3900000000000000000 + t - 3900000000000000000 = t := by omega
  have hb : insB (mR k seq t c) = true := by
    show (tmOk (atS t) (atN t) && rdg (tmT (atS t) (atN t) - 3900000000000000000)) = true
    rw [h3, h2, e, h]
    rfl
  refine ⟨hb, ?_⟩
  unfold insN
  rw [if_pos hb]
  show tmT (atS t) (atN t) - 3900000000000000000 = t
  rw [h2, e]
theorem mR_chk {k seq t c : Int} (hk : k = 3 ∨ k = 10) (hs : 0 ≤ seq ∧ seq ≤ 65535) (h : rdg t = true) : chk (mR k seq t c) = 0 := by
  obtain ⟨h1, _, _⟩ := at_ok h
  have hr : rngs (mR k seq t c) = true := by simp [rngs, rows, mR, inr, hs.1, hs.2, h1]
  unfold chk
  have h0 : szOf (mR k seq t c).k ≠ 0 := by show szOf k ≠ 0; rcases hk with rfl | rfl <;> decide
  have ha : answ (mR k seq t c).k = true := by show answ k = true; rcases hk with rfl | rfl <;> decide
  rw [if_neg h0, hr, if_neg (by simp), ha, if_neg (by simp), if_neg (by simp [annz, mR])]
/-- the state behind a whole exchange -/
def XS.one (x : XS) (seq t1 t2 t3 t4 c : Int) : XS := ((x.reqd seq t1).resp (mR 3 seq t2 c) t4).fol (mR 10 seq t3 0)
variable {x : XS} {seq t1 t2 t3 t4 c : Int}
theorem one_req (hs : 0 ≤ seq ∧ seq ≤ 65535) (h1 : rdg t1 = true) : reqE seq t1 = 0 := by unfold reqE; rw [if_pos (by simp [inr, hs.1, hs.2, h1])]
theorem one_resp (hs : 0 ≤ seq ∧ seq ≤ 65535) (h2 : rdg t2 = true) (h4 : rdg t4 = true) (hd : x.dom = 0) : respE (x.reqd seq t1) (mR 3 seq t2 c) t4 7 2 = 0 := by
  have hc : comE (mR 3 seq t2 c) 3 (x.reqd seq t1).dom = 0 := by
    unfold comE
    rw [if_pos (mR_chk (.inl rfl) hs h2), if_pos (show (mR 3 seq t2 c).k = 3 from rfl), if_pos (show (mR 3 seq t2 c).d = (x.reqd seq t1).dom from (show (0 : Int) = x.dom by omega))]
  unfold respE
  rw [if_pos hc, if_pos (by simp [mineR, XS.reqd, mR]), if_pos (by simp [(mR_ins (k := 3) (seq := seq) (c := c) h2).1, h4])]
theorem one_fol (hs : 0 ≤ seq ∧ seq ≤ 65535) (h3 : rdg t3 = true) (hd : x.dom = 0) : folE ((x.reqd seq t1).resp (mR 3 seq t2 c) t4) (mR 10 seq t3 0) 7 2 = 0 := by
  have hc : comE (mR 10 seq t3 0) 10 ((x.reqd seq t1).resp (mR 3 seq t2 c) t4).dom = 0 := by
    unfold comE
    rw [if_pos (mR_chk (.inr rfl) hs h3), if_pos (show (mR 10 seq t3 0).k = 10 from rfl), if_pos (show (mR 10 seq t3 0).d = ((x.reqd seq t1).resp (mR 3 seq t2 c) t4).dom from (show (0 : Int) = x.dom by omega))]
  unfold folE
  rw [if_pos hc, if_pos (by simp [mineF, XS.reqd, XS.resp, mR]), if_pos (mR_ins h3).1]
theorem XOk.req (h : XOk x) (h1 : rdg t1 = true) : XOk (x.reqd seq t1) := ⟨h.aco, rdg_iff.1 h1, h.a1, h.a2, h.a4, h.cnt, h.dl, h.f1, h.f2, h.l1, h.l2⟩
theorem XOk.resp (h : XOk x) {p : PM} (hp : -9223372036854775808 ≤ p.co ∧ p.co ≤ 9223372036854775807) (h4 : rdg t4 = true) : XOk (x.resp p t4) := ⟨hp, h.t1, h.t1, insN_in, rdg_iff.1 h4, h.cnt, h.dl, h.f1, h.f2, h.l1, h.l2⟩
theorem XOk.fol (h : XOk x) {p : PM} (hc : x.cnt < 1000000000000) : XOk (x.fol p) := by
  have hi := insN_in (p := p)
  have hh : -18014398509481984 ≤ halfN x p ∧ halfN x p ≤ 18014398509481984 := by
    have := sat_in (a := x.aco) (b := p.co)
    have a1 := h.a1
    have a2 := h.a2
    have a4 := h.a4
    unfold halfN
    omega
  refine ⟨by show -9223372036854775808 ≤ (0 : Int) ∧ (0 : Int) ≤ 9223372036854775807; omega, h.t1, by show -4503599627370496 ≤ (0 : Int) ∧ (0 : Int) ≤ 4503599627370496; omega, by show -4503599627370496 ≤ (0 : Int) ∧ (0 : Int) ≤ 4503599627370496; omega, by show -4503599627370496 ≤ (0 : Int) ∧ (0 : Int) ≤ 4503599627370496; omega, ?_, fun i => ?_, ?_, ?_, hi, h.a4⟩
  · show 0 ≤ x.cnt + 1 ∧ x.cnt + 1 ≤ 1000000000000
    have := h.cnt
    omega
  · show 0 ≤ (if i = slot x then max 0 (halfN x p) else x.dl i) ∧ (if i = slot x then max 0 (halfN x p) else x.dl i) ≤ 18014398509481984
    split
    · omega
    · exact h.dl i
  · show -4503599627370496 ≤ (if x.cnt = 0 then insN p else x.f1) ∧ (if x.cnt = 0 then insN p else x.f1) ≤ 4503599627370496
    split
    · exact hi
    · exact h.f1
  · show -4503599627370496 ≤ (if x.cnt = 0 then x.a4 else x.f2) ∧ (if x.cnt = 0 then x.a4 else x.f2) ≤ 4503599627370496
    split
    · exact h.a4
    · exact h.f2
theorem one_ok (h : XOk x) (hc : x.cnt < 1000000000000) (h1 : rdg t1 = true) (h4 : rdg t4 = true) (hp : -9223372036854775808 ≤ c ∧ c ≤ 9223372036854775807) : XOk (x.one seq t1 t2 t3 t4 c) := ((h.req h1).resp hp h4).fol hc
theorem one_dl (h2 : rdg t2 = true) (h3 : rdg t3 = true) (hp : -9223372036854775808 ≤ c ∧ c ≤ 9223372036854775807) (i : Nat) : (x.one seq t1 t2 t3 t4 c).dl i = if i = slot x then max 0 (((t4 - t1) - (t3 - t2) - c / 65536) / 2) else x.dl i := by
  have hs : sat c 0 = c := by unfold sat; rw [Int.add_zero, if_pos (fit_yes hp.1 hp.2)]
  show (if i = slot x then max 0 (((t4 - t1) - (insN (mR 10 seq t3 0) - insN (mR 3 seq t2 c)) - sat c 0 / 65536) / 2) else x.dl i) = _
  rw [(mR_ins h3).2, (mR_ins h2).2, hs]
theorem one_cnt : (x.one seq t1 t2 t3 t4 c).cnt = x.cnt + 1 := rfl
theorem one_dom : (x.one seq t1 t2 t3 t4 c).dom = x.dom := rfl
theorem one_l2 : (x.one seq t1 t2 t3 t4 c).l2 = t4 := rfl
theorem one_f2 : (x.one seq t1 t2 t3 t4 c).f2 = if x.cnt = 0 then t4 else x.f2 := rfl
theorem one_l1 (h3 : rdg t3 = true) : (x.one seq t1 t2 t3 t4 c).l1 = t3 := by show insN (mR 10 seq t3 0) = t3; exact (mR_ins h3).2
theorem one_f1 (h3 : rdg t3 = true) : (x.one seq t1 t2 t3 t4 c).f1 = if x.cnt = 0 then t3 else x.f1 := by show (if x.cnt = 0 then insN (mR 10 seq t3 0) else x.f1) = _; rw [(mR_ins h3).2]
theorem xs0_ok (d : Int) : XOk (xs0 d) := by
  refine ⟨?_, ?_, ?_, ?_, ?_, ?_, fun i => ?_, ?_, ?_, ?_, ?_⟩ <;> simp [xs0]
end Pl
open Go.RowKit Go.Lib Go.Maps
abbrev zA : Array Value := #[.int .i64 0, .int .i64 0, .int .i64 0, .int .i64 0, .int .u64 0, .int .i64 0, .int .i64 0, .int .i64 0, .int .i64 0, .int .i64 0, .int .u64 0, .int .i64 0, .int .i64 0, .int .i64 0, .int .i64 0, .int .i64 0, .int .i64 0, .int .i64 0, .int .u64 0, .int .i64 0, .int .i64 0]
section
variable {w W W' : World} {b : Nat} {t : TypeId} {c : Array Value} {o : Obj} {row : Option Nat}
theorem only_then_new {a b c : World} {row : Option Nat} {x : Nat} (h : a.grownBy b row) (k : b.grownBy c (some x)) (hx : a.heap.size ≤ x) : a.grownBy c row :=
  ⟨k.os.trans h.os, k.tape.trans h.tape, k.output.trans h.output, Nat.le_trans h.size k.size, fun i hi hne => (k.block i (Nat.lt_of_lt_of_le hi h.size) (fun e => by injection e with e; omega)).trans (h.block i hi hne)⟩
theorem blk_S (h : Blk W b t c) (HG : (W.alloc o).grownBy W' (some W.heap.size)) : Blk W' b t c := (h.alloc o).grown HG (fun e => by injection e with e; have := h.lt; omega)
theorem bel_S (B : Below w.heap.size w W) (HG : (W.alloc o).grownBy W' (some W.heap.size)) : Below w.heap.size w W' := Below.only (B.alloc B.size o) HG B.size (by have := B.size; simp; omega)
theorem own_S (B : w.grownBy W row) (HG : (W.alloc o).grownBy W' (some W.heap.size)) : w.grownBy W' row := only_then_new (only_alloc B o) HG B.size
theorem own_below (B : w.grownBy W row) (k : Below W.heap.size W W') : w.grownBy W' row := only_trans B (only_of_below k row)
end
set_option maxRecDepth 100000 in
theorem at_any (t : Int) (h : Pl.rdg t = true) (w : World) : Calls Try.prog 25 #[.int .i64 t] w fun e w' => e = .returned (.agg #[.int .i64 (Pl.atS t), .int .i64 (Pl.atN t)]) ∧ Below w.heap.size w w' := by
  have hr := Pl.rdg_iff.1 h
  have OF := fun W => pof_any (3900000000000000000 + t) (by omega) (by omega) W
  have kw : IntKind.i64.wrap (3900000000000000000 + t) = 3900000000000000000 + t := IntWalk.i64_in _ (by omega)
  replace OF : ∀ W, Calls Try.prog 29 #[.int .i64 (3900000000000000000 + t)] W fun e w' => e = .returned (.tuple #[.agg #[.int .i64 (Pl.atS t), .int .i64 (Pl.atN t)], .int .i64 0]) ∧ Below W.heap.size W w' := OF
  generalize Pl.atS t = P at OF ⊢
  generalize Pl.atN t = Q at OF ⊢
  replace OF := Lib.hid OF
  have K0 := one_mk w 33 #[.int .i64 0, .int .i64 0]
  clear hr h
  go_enter Try.func25, Try.ntmps25
  go_wp2_with fail
  refine (OF.out _).mono ?_
  rintro _ w1 ⟨rfl, l1⟩
  have K1 := K0.on l1
  clear l1 K0
  have hz : w.heap.size < w1.heap.size := K1.2.lt
  go_wp2_with (first | (refine wpList_store_blk rfl 33 _ _ rfl w1.heap.size #[.int .i64 P, .int .i64 Q] rfl rfl 33 #[.int .i64 0, .int .i64 0] (Blk.new _ _ _) (by kernel_rfl) rfl (by kernel_rfl) ?_; intro W2 N2 HG2; have R2 := blk_S K1.2 HG2; have B2 := bel_S K1.1 HG2; clear HG2) | (refine wpList_load_blk rfl 33 _ rfl w1.heap.size rfl 33 #[.int .i64 P, .int .i64 Q] _ N2 Try.underlying33 rfl (by kernel_rfl) ?_) | (refine wpList_store_blk rfl 33 _ _ rfl w.heap.size #[.int .i64 P, .int .i64 Q] rfl rfl 33 #[.int .i64 0, .int .i64 0] R2 (by kernel_rfl) rfl (by kernel_rfl) ?_; intro W3 N3 HG3))
  exact bodyPost_ret (v := .agg #[.int .i64 P, .int .i64 Q]) (results_cell_row rfl _ _ w.heap.size 33 #[.int .i64 P, .int .i64 Q] (0, 0) _ rfl N3 Try.underlying33 rfl (by kernel_rfl)) rfl ⟨rfl, Below.only B2 HG3 (Nat.le_refl _) B2.size⟩
theorem one_set {w : World} {g : Nat} {seq t2 t3 c : Int} (h : Blk w g 38 (pmA (Pl.mR 3 seq t2 c))) :
    Blk ((((w.setCell ⟨g, 0, none⟩ (.int .i64 10)).setCell ⟨g, 8, none⟩ (.int .i64 (Pl.atS t3))).setCell ⟨g, 9, none⟩ (.int .i64 (Pl.atN t3))).setCell ⟨g, 3, none⟩ (.int .i64 0)) g 38 (pmA (Pl.mR 10 seq t3 0)) := by
  have := (((h.set_ 0 (.int .i64 10)).set_ 8 (.int .i64 (Pl.atS t3))).set_ 9 (.int .i64 (Pl.atN t3))).set_ 3 (.int .i64 0)
  refine (congrArg (Blk _ g 38) ?_).mp this
  kernel_rfl
theorem one_far {w : World} {b g : Nat} {t : TypeId} {cs : Array Value} (h : Blk w b t cs) (hn : b ≠ g) (v1 v2 v3 v4 : Value) :
    Blk ((((w.setCell ⟨g, 0, none⟩ v1).setCell ⟨g, 8, none⟩ v2).setCell ⟨g, 9, none⟩ v3).setCell ⟨g, 3, none⟩ v4) b t cs :=
  (((h.far (p := ⟨g, 0, none⟩) hn _).far (p := ⟨g, 8, none⟩) hn _).far (p := ⟨g, 9, none⟩) hn _).far (p := ⟨g, 3, none⟩) hn _
theorem one_own {w W : World} {g : Nat} (h : Below w.heap.size w W) (hn : w.heap.size ≤ g) (v1 v2 v3 v4 : Value) :
    Below w.heap.size w ((((W.setCell ⟨g, 0, none⟩ v1).setCell ⟨g, 8, none⟩ v2).setCell ⟨g, 9, none⟩ v3).setCell ⟨g, 3, none⟩ v4) :=
  Below.setCell (p := ⟨g, 3, none⟩) (Below.setCell (p := ⟨g, 9, none⟩) (Below.setCell (p := ⟨g, 8, none⟩) (Below.setCell (p := ⟨g, 0, none⟩) h hn _) hn _) hn _) hn _
theorem mR_wf {k seq t c : Int} (hk : k = 3 ∨ k = 10) (hs : 0 ≤ seq ∧ seq ≤ 65535) (hp : -9223372036854775808 ≤ c ∧ c ≤ 9223372036854775807) : PmWf (Pl.mR k seq t c) :=
  ⟨by show (Lit.int .i64 k).wf = true; rcases hk with rfl | rfl <;> decide, rfl, rfl, WalkArith.wf_i64 hp, rfl, rfl, WalkArith.wf_i64 (by show _ ∧ _; show -9223372036854775808 ≤ seq ∧ seq ≤ 9223372036854775807; omega)⟩

set_option maxHeartbeats 4000000 in
set_option maxRecDepth 100000 in
theorem one_any (b : Nat) (x : Pl.XS) (seq t1 t2 t3 t4 c : Int) (w : World) (hx : Blk w b 65 (xA x)) (hok : Pl.XOk x) (hd : x.dom = 0) (hs : 0 ≤ seq ∧ seq ≤ 65535) (h1 : Pl.rdg t1 = true) (h2 : Pl.rdg t2 = true) (h3 : Pl.rdg t3 = true) (h4 : Pl.rdg t4 = true) (hp : -9223372036854775808 ≤ c ∧ c ≤ 9223372036854775807) :
    Calls Try.prog 24 #[.pointer (some ⟨b, 0, none⟩), .int .i64 seq, .int .i64 t1, .int .i64 t2, .int .i64 t3, .int .i64 t4, .int .i64 c] w fun e w' => e = .returned (.bool true) ∧ Blk w' b 65 (xA (x.one seq t1 t2 t3 t4 c)) ∧ w.grownBy w' (some b) := by
  have A2 := Lib.hid (fun W => at_any t2 h2 W)
  have A3 := Lib.hid (fun W => at_any t3 h3 W)
  have RQ := fun W h => preq_any b x seq t1 W h
  rw [Pl.reqX, Pl.one_req hs h1, if_pos rfl] at RQ
  have RS := fun W h => presp_any b (x.reqd seq t1) (Pl.mR 3 seq t2 c) t4 7 2 W h (mR_wf (.inl rfl) hs hp).k
  rw [Pl.respX, Pl.one_resp hs h2 h4 hd, if_pos rfl] at RS
  have FO := fun W h => pfol_any b ((x.reqd seq t1).resp (Pl.mR 3 seq t2 c) t4) (Pl.mR 10 seq t3 0) 7 2 W h (mR_wf (.inr rfl) hs (by omega)) ((hok.req h1).resp hp h4)
  rw [Pl.folX, Pl.one_fol hs h3 hd, if_pos rfl] at FO
  replace FO : ∀ W, Blk W b 65 (xA ((x.reqd seq t1).resp (Pl.mR 3 seq t2 c) t4)) → Calls Try.prog 14 #[.pointer (some ⟨b, 0, none⟩), pmV (Pl.mR 10 seq t3 0), .int .u64 7, .int .i64 2] W fun e w' => e = .returned (.int .i64 0) ∧ Blk w' b 65 (xA (x.one seq t1 t2 t3 t4 c)) ∧ W.grownBy w' (some b) := FO
  generalize (x.one seq t1 t2 t3 t4 c) = x4 at FO ⊢
  generalize ((x.reqd seq t1).resp (Pl.mR 3 seq t2 c) t4) = x3 at FO RS
  generalize x.reqd seq t1 = x2 at RQ RS
  replace RQ := Lib.hid RQ
  replace RS := Lib.hid RS
  replace FO := Lib.hid FO
  have X0 := Lib.hid hx
  have hbz := hx.lt
  clear hx hok hd hs h1 h2 h3 h4 hp
  go_enter Try.func24, Try.ntmps24
  go_wp2_with fail
  refine (A2.out _).mono ?_
  rintro _ w1 ⟨rfl, l1⟩
  have B1 := l1
  have hz1 : w.heap.size ≤ w1.heap.size := l1.size
  have X1 := X0.out.below_ l1
  clear l1
  go_wp2_with (first | (refine wpList_store_blk rfl 38 _ _ rfl w1.heap.size (pmA (Pl.mR 3 seq t2 c)) rfl rfl 38 zA (Blk.new _ _ _) (by kernel_rfl) rfl (by kernel_rfl) ?_; intro W2 N2 HG2; have B2 := bel_S B1 HG2; have X2 := blk_S X1 HG2; have hz2 : w1.heap.size < W2.heap.size := N2.lt; clear HG2 B1 X1) | (refine wpList_load_blk rfl 38 _ rfl w1.heap.size rfl 38 (pmA (Pl.mR 3 seq t2 c)) _ N2 Try.underlying38 rfl (by kernel_rfl) ?_) | (refine wpList_store_blk rfl 38 _ _ rfl W2.heap.size (pmA (Pl.mR 3 seq t2 c)) rfl rfl 38 zA (Blk.new _ _ _) (by kernel_rfl) rfl (by kernel_rfl) ?_; intro W3 N3 HG3; have B3 := Lib.hid (bel_S B2 HG3); have X3 := Lib.hid (blk_S X2 HG3); have M3 := Lib.hid (blk_S N2 HG3); clear HG3 B2 X2 N2))
  have N3' := Lib.hid N3
  clear N3
  refine (A3.out _).mono ?_
  rintro _ w4 ⟨rfl, l4⟩
  have B4 := Lib.hid (bel_on B3.out l4)
  have X4 := Lib.hid (X3.out.below_ l4)
  have M4 := Lib.hid (M3.out.below_ l4)
  have N4 := N3'.out.below_ l4
  clear l4 B3 X3 M3 N3'
  have n0 : w4.cell? ⟨W2.heap.size, 0, none⟩ = some (.int .i64 3) := N4.cell 0
  have n3 : w4.cell? ⟨W2.heap.size, 3, none⟩ = some (.int .i64 c) := N4.cell 3
  have n8 : w4.cell? ⟨W2.heap.size, 8, none⟩ = some (.int .i64 (Pl.atS t2)) := N4.cell 8
  have n9 : w4.cell? ⟨W2.heap.size, 9, none⟩ = some (.int .i64 (Pl.atN t2)) := N4.cell 9
  have g0 := N4.frozen 0
  have g3 := N4.frozen 3
  have g8 := N4.frozen 8
  have g9 := N4.frozen 9
  have nz := N4.lt
  replace N4 := Lib.hid N4
  go_wp2_with fail
  have hb1 : b ≠ W2.heap.size := by omega
  have hb2 : w1.heap.size ≠ W2.heap.size := by omega
  have Z : Blk ((((w4.setCell ⟨W2.heap.size, 0, none⟩ (.int .i64 10)).setCell ⟨W2.heap.size, 8, none⟩ (.int .i64 (Pl.atS t3))).setCell ⟨W2.heap.size, 9, none⟩ (.int .i64 (Pl.atN t3))).setCell ⟨W2.heap.size, 3, none⟩ (.int .i64 0)) b 65 (xA x) ∧ Blk ((((w4.setCell ⟨W2.heap.size, 0, none⟩ (.int .i64 10)).setCell ⟨W2.heap.size, 8, none⟩ (.int .i64 (Pl.atS t3))).setCell ⟨W2.heap.size, 9, none⟩ (.int .i64 (Pl.atN t3))).setCell ⟨W2.heap.size, 3, none⟩ (.int .i64 0)) w1.heap.size 38 (pmA (Pl.mR 3 seq t2 c)) ∧ Blk ((((w4.setCell ⟨W2.heap.size, 0, none⟩ (.int .i64 10)).setCell ⟨W2.heap.size, 8, none⟩ (.int .i64 (Pl.atS t3))).setCell ⟨W2.heap.size, 9, none⟩ (.int .i64 (Pl.atN t3))).setCell ⟨W2.heap.size, 3, none⟩ (.int .i64 0)) W2.heap.size 38 (pmA (Pl.mR 10 seq t3 0)) ∧ Below w.heap.size w ((((w4.setCell ⟨W2.heap.size, 0, none⟩ (.int .i64 10)).setCell ⟨W2.heap.size, 8, none⟩ (.int .i64 (Pl.atS t3))).setCell ⟨W2.heap.size, 9, none⟩ (.int .i64 (Pl.atN t3))).setCell ⟨W2.heap.size, 3, none⟩ (.int .i64 0)) :=
    ⟨one_far X4.out hb1 _ _ _ _, one_far M4.out hb2 _ _ _ _, one_set N4.out, one_own B4.out (by omega) _ _ _ _⟩
  clear n0 n3 n8 n9 g0 g3 g8 g9 nz N4 X4 M4 B4
  generalize ((((w4.setCell ⟨W2.heap.size, 0, none⟩ (.int .i64 10)).setCell ⟨W2.heap.size, 8, none⟩ (.int .i64 (Pl.atS t3))).setCell ⟨W2.heap.size, 9, none⟩ (.int .i64 (Pl.atN t3))).setCell ⟨W2.heap.size, 3, none⟩ (.int .i64 0)) = W5 at Z ⊢
  obtain ⟨X5, M5, N5, B5⟩ := Z
  have hb3 : w1.heap.size ≠ b := by omega
  refine (RQ.out _ X5).mono ?_
  rintro _ w6 ⟨rfl, X6, l6⟩
  have G6 := Lib.hid (only_trans (only_of_below B5 (some b)) l6)
  have M6 := M5.grown l6 (fun e => by injection e with e; exact hb3 e)
  have N6 := Lib.hid (N5.grown l6 (fun e => by injection e with e; exact hb1 e.symm))
  have X6' := Lib.hid X6
  clear l6 X5 M5 N5 B5 X6
  go_wp2_with (refine wpList_load_blk_g rfl 38 _ rfl w1.heap.size rfl 38 (pmA (Pl.mR 3 seq t2 c)) _ M6 Try.underlying38 rfl (by kernel_rfl) ?_)
  refine (RS.out _ X6'.out).mono ?_
  rintro _ w7 ⟨rfl, X7, l7⟩
  have G7 := Lib.hid (only_trans G6.out l7)
  have N7 := N6.out.grown l7 (fun e => by injection e with e; exact hb1 e.symm)
  have X7' := Lib.hid X7
  clear l7 G6 M6 N6 X6' X7
  go_wp2_with (refine wpList_load_blk_g rfl 38 _ rfl W2.heap.size rfl 38 (pmA (Pl.mR 10 seq t3 0)) _ N7 Try.underlying38 rfl (by kernel_rfl) ?_)
  refine (FO.out _ X7'.out).mono ?_
  rintro _ w8 ⟨rfl, X8, l8⟩
  go_wp2
  go_ret
  exact ⟨rfl, X8, only_trans G7.out l8⟩
end Go.Proofs.Ytmdfbcabpmadgaa
