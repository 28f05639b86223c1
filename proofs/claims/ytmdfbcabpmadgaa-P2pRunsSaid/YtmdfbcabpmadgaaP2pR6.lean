/- The reference's Follow, when it answers OK and eight delays are kept already. -/
import Derived.Test.YtmdfbcabpmadgaaP2pR5
namespace Go.Proofs.Ytmdfbcabpmadgaa
open Go.RowKit Go.Lib Go.Maps
theorem own_cap {w : World} {B size n c : Nat} {e : TypeId} {a : Option Addr} {xs : List Value} (h : w.ownsRow B e size (.slice a n c) n xs) : n ≤ c := by
  rcases h.2 with ⟨_, h0⟩ | ⟨g, cap, cur, hv, _, _, hn, _⟩
  · omega
  · injection hv with _ _ hc
    omega
theorem tail_news {w : World} {B g c : Nat} {e : TypeId} {x : Value} {xs : List Value} (h : w.ownsRow B e 1 (.slice (some ⟨g, 0, none⟩) 9 c) 9 (x :: xs)) (o : Obj) : ∀ j u, xs[j]? = some u → (w.alloc o).cell? ((⟨g, 1, none⟩ : Addr).add j) = some u := by
  intro j u hj
  rw [Addr.add_mid]
  have hl : xs.length = 8 := by have := h.1; simp at this; omega
  have hj' := (List.getElem?_eq_some_iff.1 hj).1
  rw [(h.alloc o).cellAt (1 + j) (by omega), Nat.add_comm 1 j, List.getElem?_cons_succ]
  exact hj

set_option maxHeartbeats 4000000 in
set_option maxRecDepth 100000 in
theorem yfol_long (B b : Nat) (y : Pl.YS) (a : Option Addr) (c : Nat) (ds : List Int) (p : Pl.PM) (ck po : Int) (w : World) (hy : Blk w b 74 (yA y (.slice a 8 c))) (hB : B ≤ w.heap.size) (hown : w.ownsRow B 3 1 (.slice a 8 c) 8 (ds.map (Value.int .i64))) (hpc : -9223372036854775808 ≤ p.co ∧ p.co ≤ 9223372036854775807) (hok : Pl.YOk y)
    (hc : Pl.comE p 10 y.dom = 0) (hm : Pl.mineFY y p ck po = true) (hi : Pl.insB p = true) :
    Calls Try.prog 20 #[.pointer (some ⟨b, 0, none⟩), pmV p, .int .u64 ck, .int .i64 po] w fun e w' => e = .returned (.int .i64 0) ∧ ∃ (a' : Option Addr) (c' : Nat), Blk w' b 74 (yA (y.fol p) (.slice a' 8 c')) ∧ w'.ownsRow B 3 1 (.slice a' 8 c') 8 ((ds.tail ++ [max 0 (Pl.halfY y p)]).map (Value.int .i64)) ∧ Gr2 w w' b (Value.slice a 8 c).ownBlock := by
  obtain ⟨d0, tl, rfl⟩ : ∃ d0 tl, ds = d0 :: tl := by
    cases ds with
    | nil => have := hown.1; simp at this
    | cons d0 tl => exact ⟨d0, tl, rfl⟩
  have HL : Hid (tl.length = 7) := Lib.hid (by have := hown.1; simp at this; omega)
  have CM := rsuits_any b y (.slice a 8 c) p 10 (w.alloc (.cells (pmA p) 38)) (hy.alloc _)
  rw [hc] at CM
  replace CM : Hid (∀ W, W = w.alloc (.cells (pmA p) 38) → Calls Try.prog 34 #[.pointer (some ⟨b, 0, none⟩), pmV p, .int .i64 10] W fun e w' => e = .returned (.int .i64 0) ∧ Below W.heap.size W w') := Lib.hid (by rintro _ rfl; exact CM)
  have IN := fun W => rinstant_any p W
  rw [hi, ins_val hi] at IN
  have hins := Pl.insN_in (p := p)
  have hF : y.fol p = y.end_ y.r4 (Pl.insN p) := rfl
  have hH0 : Pl.halfY y p = ((y.r4 - y.r1) - (Pl.insN p - y.r2) - Pl.sat y.rs.co p.co / 65536) / 2 := rfl
  obtain ⟨I, hI⟩ : ∃ I, Pl.insN p = I := ⟨_, rfl⟩
  rw [hI] at IN hins hF hH0
  rw [hF]
  replace IN := Lib.hid IN
  have AD := Lib.hid (fun W => raddcorr_any y.rs.co p.co hok.co.1 hok.co.2 hpc.1 hpc.2 W)
  have hsat := Pl.sat_in (a := y.rs.co) (b := p.co)
  obtain ⟨S, hS⟩ : ∃ S, Pl.sat y.rs.co p.co = S := ⟨_, rfl⟩
  obtain ⟨F0, hF0⟩ : ∃ F0, Pl.fit (y.rs.co + p.co) = F0 := ⟨_, rfl⟩
  rw [hS, hF0] at AD
  rw [hS] at hsat hH0
  have NA := Lib.hid (fun W => rnanos_any S hsat.1 hsat.2 W)
  have hN : -140737488355328 ≤ S / 65536 ∧ S / 65536 ≤ 140737488355328 := by omega
  obtain ⟨N, hN'⟩ : ∃ N, S / 65536 = N := ⟨_, rfl⟩
  rw [hN'] at NA hN hH0
  obtain ⟨q1, q2⟩ := hok.r1
  obtain ⟨q3, q4⟩ := hok.r2
  obtain ⟨q5, q6⟩ := hok.r4
  have hcn := hok.cnt
  have kw1 : IntKind.i64.wrap (y.r4 - y.r1) = y.r4 - y.r1 := IntWalk.i64_in _ (by omega)
  have kw2 : IntKind.i64.wrap (I - y.r2) = I - y.r2 := IntWalk.i64_in _ (by omega)
  have kw3 : IntKind.i64.wrap (y.r4 - y.r1 - (I - y.r2)) = y.r4 - y.r1 - (I - y.r2) := IntWalk.i64_in _ (by omega)
  have kw4 : IntKind.i64.wrap (y.r4 - y.r1 - (I - y.r2) - N) = y.r4 - y.r1 - (I - y.r2) - N := IntWalk.i64_in _ (by omega)
  have HF := Lib.hid (fun W => rhalf_any (y.r4 - y.r1 - (I - y.r2) - N) (by omega) (by omega) W)
  obtain ⟨D, hD⟩ : ∃ D, y.r4 - y.r1 - (I - y.r2) - N = D := ⟨_, rfl⟩
  rw [hD] at HF hH0
  replace kw4 := kw4.trans hD
  obtain ⟨V, hV⟩ : ∃ V, max 0 (D / 2) = V := ⟨_, rfl⟩
  rw [hV] at HF
  rw [hH0, hV]
  have kwc : IntKind.i64.wrap (y.cnt + 1) = y.cnt + 1 := IntWalk.i64_in _ (by omega)
  have hm' := hm
  unfold Pl.mineFY at hm'
  simp only [Bool.and_eq_true, beq_iff_eq] at hm'
  obtain ⟨⟨⟨⟨⟨m1, m2⟩, m3⟩, m4⟩, m5⟩, m6⟩ := hm'
  have u1 : (!y.wt) = false := by simp [m1]
  have u2 : (p.sq != y.rs.sq) = false := by simp [m2]
  have u3 : (p.ck != y.rs.ck) = false := by simp [m3]
  have u4 : (p.po != y.rs.po) = false := by simp [m4]
  have u5 : (p.rc != ck) = false := by simp [m5]
  have u6 : (p.rp != po) = false := by simp [m6]
  have K0 := one_mk w 38 (pmA p)
  have K0b := K0.2
  have Y0 := Lib.hid (hy.alloc (.cells (pmA p) 38))
  have hbz := hy.lt
  have hne := own_ne hown hy (by decide)
  have O0 := Lib.hid hown
  have hB0 := Lib.hid hB
  obtain ⟨i0, hi0, hz0, hz1, hz2⟩ := int_info
  have HI := Lib.hid (And.intro hi0 (And.intro hz0 (And.intro hz1 hz2)))
  have hne0 := Lib.hid hne
  clear hi0 hz0 hz1 hz2 hne hown hB m1 m2 m3 m4 m5 m6 hm hc hi hy hsat hN hS hF0 hN' hD hV hH0 hF q1 q2 q3 q4 q5 q6 hins hI hpc hok hcn
  go_enter Try.func20, Try.ntmps20
  go_wp2_with (refine wpList_load_blk rfl 38 _ rfl w.heap.size rfl 38 (pmA p) _ K0b Try.underlying38 rfl (by kernel_rfl) ?_)
  refine (CM.out _ rfl).mono ?_
  rintro _ w1 ⟨rfl, l1⟩
  have K1 := K0.on l1
  have Y1 := Y0.out.below_ l1
  have hab : w.heap.size < w1.heap.size := K1.2.lt
  have hyb : b < w1.heap.size := Y1.lt
  have Y1b := Lib.hid Y1
  have A1 := Lib.hid (Blk.new w1 38 zA2)
  have H1 := Lib.hid (K1.1.alloc K1.1.size (.cells zA2 38))
  have K1b := Lib.hid (K1.2.alloc (.cells zA2 38))
  have Y1c := Lib.hid (Y1.alloc (.cells zA2 38))
  clear l1 K0 K0b Y0 K1 Y1
  go_wp2_with (first | (refine wpList_load_in rfl 38 _ rfl b 5 rfl 74 (yA y (.slice a 8 c)) (pmA y.rs) _ Y1b.out (by kernel_rfl) Try.underlying38 rfl (by kernel_rfl) ?_) | (refine wpList_store_blk rfl 38 _ _ rfl w1.heap.size (pmA y.rs) rfl rfl 38 zA2 A1.out (by kernel_rfl) rfl (by kernel_rfl) ?_; intro W2 A2 HG; have H2 := Lib.hid (Below.only H1.out HG (Nat.le_of_lt hab) H1.out.size); have K2 := K1b.out.grown HG (fun e => by injection e with e; omega); have Y2 := Y1c.out.grown HG (fun e => by injection e with e; omega); have p3 : W2.cell? ⟨w.heap.size, 3, none⟩ = some (.int .i64 p.co) := K2.cell 3; have p4 : W2.cell? ⟨w.heap.size, 4, none⟩ = some (.int .u64 p.ck) := K2.cell 4; have p5 : W2.cell? ⟨w.heap.size, 5, none⟩ = some (.int .i64 p.po) := K2.cell 5; have p6 : W2.cell? ⟨w.heap.size, 6, none⟩ = some (.int .i64 p.sq) := K2.cell 6; have p8 : W2.cell? ⟨w.heap.size, 8, none⟩ = some (.int .i64 p.se) := K2.cell 8; have p9 : W2.cell? ⟨w.heap.size, 9, none⟩ = some (.int .i64 p.na) := K2.cell 9; have p10 : W2.cell? ⟨w.heap.size, 10, none⟩ = some (.int .u64 p.rc) := K2.cell 10; have p11 : W2.cell? ⟨w.heap.size, 11, none⟩ = some (.int .i64 p.rp) := K2.cell 11; have a3 : W2.cell? ⟨w1.heap.size, 3, none⟩ = some (.int .i64 y.rs.co) := A2.cell 3; have a4 : W2.cell? ⟨w1.heap.size, 4, none⟩ = some (.int .u64 y.rs.ck) := A2.cell 4; have a5 : W2.cell? ⟨w1.heap.size, 5, none⟩ = some (.int .i64 y.rs.po) := A2.cell 5; have a6 : W2.cell? ⟨w1.heap.size, 6, none⟩ = some (.int .i64 y.rs.sq) := A2.cell 6; have y4 : W2.cell? ⟨b, 4, none⟩ = some (.bool y.wt) := Y2.cell 4; have pz := K2.lt; have az := A2.lt; have yz := Y2.lt; clear HG H1 K1b Y1c Y1b A1; replace K2 := Lib.hid K2; replace A2 := Lib.hid A2; replace Y2 := Lib.hid Y2) | fail)
  refine (IN.out _).mono ?_
  rintro _ w3 ⟨rfl, l3⟩
  have K3 := K2.out.below_ l3
  have A3 := A2.out.below_ l3
  have Y3 := Y2.out.below_ l3
  have H3 := bel_on H2.out l3
  have O3 := Lib.hid (O0.out.kept (only_of_below H3 none) (by cases a <;> simp [Value.ownBlock]))
  clear p3 p4 p5 p6 p8 p9 p10 p11 a3 a4 a5 a6 y4 pz az yz l3 K2 A2 Y2 H2 O0
  have p3 : w3.cell? ⟨w.heap.size, 3, none⟩ = some (.int .i64 p.co) := K3.cell 3
  have a3 : w3.cell? ⟨w1.heap.size, 3, none⟩ = some (.int .i64 y.rs.co) := A3.cell 3
  have pz := K3.lt
  have az := A3.lt
  have y26 : w3.cell? ⟨b, 26, none⟩ = some (.int .i64 y.r1) := Y3.cell 26
  have y27 : w3.cell? ⟨b, 27, none⟩ = some (.int .i64 y.r2) := Y3.cell 27
  have y28 : w3.cell? ⟨b, 28, none⟩ = some (.int .i64 y.r4) := Y3.cell 28
  have y29 : w3.cell? ⟨b, 29, none⟩ = some ((.slice a 8 c)) := Y3.cell 29
  have f29 := Y3.frozen 29
  have yz := Y3.lt
  have hB3 : Hid (B ≤ w3.heap.size) := Lib.hid (Nat.le_trans hB0.out H3.size)
  replace Y3 := Lib.hid Y3
  replace H3 := Lib.hid H3
  clear K3 A3
  go_wp2_with fail
  refine (AD.out _).mono ?_
  rintro _ w4 ⟨rfl, rfl⟩
  clear p3 a3 pz az
  go_wp2_with fail
  have S4 : Hid ((w3.drew.alloc (.cells #[.int .i64 V] 3)).cell? ⟨b, 26, none⟩ = some (.int .i64 y.r1) ∧ (w3.drew.alloc (.cells #[.int .i64 V] 3)).cell? ⟨b, 27, none⟩ = some (.int .i64 y.r2) ∧ (w3.drew.alloc (.cells #[.int .i64 V] 3)).cell? ⟨b, 28, none⟩ = some (.int .i64 y.r4)) := by
    have q := (Y3.out.drew).alloc (.cells #[.int .i64 V] 3)
    exact Lib.hid ⟨q.cell 26, q.cell 27, q.cell 28⟩
  refine wp_region_held_drew (S := fun w' => w'.cell? ⟨b, 26, none⟩ = some (.int .i64 y.r1) ∧ w'.cell? ⟨b, 27, none⟩ = some (.int .i64 y.r2) ∧ w'.cell? ⟨b, 28, none⟩ = some (.int .i64 y.r4)) (by kernel_rfl) ⟨y26, y27, y28⟩ (fun hHeld => ?_)
  refine wpAnyH_take (i := 0) (oi := _) (v := ?_) rfl (by kernel_rfl) (by kernel_rfl) (by kernel_rfl) (fun _ _ _ h => h) (Or.inl ⟨by rfl, ?_⟩) (by assumption) ?_
  rotate_left
  focus (intro w hSw; (try dsimp only at hSw); go_simp; try with_reducible rfl)
  try simp only [Act.put, List.getElem_toArray, List.getElem_cons_zero, List.getElem_cons_succ, List.setIfInBounds_toArray, List.set_cons_zero, List.set_cons_succ]
  refine wpAnyH_take (i := 1) (oi := _) (v := ?_) rfl (by kernel_rfl) (by kernel_rfl) (by kernel_rfl) (fun _ _ _ h => h) (Or.inl ⟨by rfl, ?_⟩) (by assumption) ?_
  rotate_left
  focus (intro w hSw; (try dsimp only at hSw); go_simp; try with_reducible rfl)
  try simp only [Act.put, List.getElem_toArray, List.getElem_cons_zero, List.getElem_cons_succ, List.setIfInBounds_toArray, List.set_cons_zero, List.set_cons_succ]
  refine wpAnyH_take (i := 2) (oi := _) (v := ?_) rfl (by kernel_rfl) (by kernel_rfl) (by kernel_rfl) (fun _ _ _ h => h) (Or.inl ⟨by rfl, ?_⟩) (by assumption) ?_
  rotate_left
  focus (intro w hSw; (try dsimp only at hSw); go_simp; try with_reducible rfl)
  try simp only [Act.put, List.getElem_toArray, List.getElem_cons_zero, List.getElem_cons_succ, List.setIfInBounds_toArray, List.set_cons_zero, List.set_cons_succ]
  refine wpAnyH_take (i := 3) (oi := _) (v := ?_) rfl (by kernel_rfl) (by kernel_rfl) (by kernel_rfl) (fun _ _ _ h => h) (Or.inl ⟨by rfl, ?_⟩) (by assumption) ?_
  rotate_left
  focus (intro w hSw; (try dsimp only at hSw); go_simp; try with_reducible rfl)
  try simp only [Act.put, List.getElem_toArray, List.getElem_cons_zero, List.getElem_cons_succ, List.setIfInBounds_toArray, List.set_cons_zero, List.set_cons_succ]
  refine wpAnyH_take (i := 5) (oi := _) (v := ?_) rfl (by kernel_rfl) (by kernel_rfl) (by kernel_rfl) (fun _ _ _ h => h) (Or.inl ⟨by rfl, ?_⟩) (by assumption) ?_
  rotate_left
  focus (intro w hSw; (try dsimp only at hSw); go_simp; try with_reducible rfl)
  try simp only [Act.put, List.getElem_toArray, List.getElem_cons_zero, List.getElem_cons_succ, List.setIfInBounds_toArray, List.set_cons_zero, List.set_cons_succ]
  refine wpAnyH_take (i := 6) (oi := _) (v := ?_) rfl (by kernel_rfl) (by kernel_rfl) (by kernel_rfl) (fun _ _ _ h => h) (Or.inl ⟨by rfl, ?_⟩) (by assumption) ?_
  rotate_left
  focus (intro w hSw; (try dsimp only at hSw); go_simp; try with_reducible rfl)
  try simp only [Act.put, List.getElem_toArray, List.getElem_cons_zero, List.getElem_cons_succ, List.setIfInBounds_toArray, List.set_cons_zero, List.set_cons_succ]
  refine wpAnyH_take (i := 7) (oi := _) (v := ?_) rfl (by kernel_rfl) (by kernel_rfl) (by kernel_rfl) (fun _ _ _ h => h) (Or.inl ⟨by rfl, ?_⟩) (by assumption) ?_
  rotate_left
  focus (intro w hSw; (try dsimp only at hSw); go_simp; try with_reducible rfl)
  try simp only [Act.put, List.getElem_toArray, List.getElem_cons_zero, List.getElem_cons_succ, List.setIfInBounds_toArray, List.set_cons_zero, List.set_cons_succ]
  refine wpAnyH_take (i := 8) (oi := _) (v := ?_) rfl (by kernel_rfl) (by kernel_rfl) (by kernel_rfl) (fun _ _ _ h => h) (Or.inl ⟨by rfl, ?_⟩) (by assumption) ?_
  rotate_left
  focus (intro w hSw; (try dsimp only at hSw); go_simp; try with_reducible rfl)
  try simp only [Act.put, List.getElem_toArray, List.getElem_cons_zero, List.getElem_cons_succ, List.setIfInBounds_toArray, List.set_cons_zero, List.set_cons_succ]
  refine wpAnyH_take (i := 9) (oi := _) (v := ?_) rfl (by kernel_rfl) (by kernel_rfl) (by kernel_rfl) (fun _ _ _ h => h) (Or.inl ⟨by rfl, ?_⟩) (by assumption) ?_
  rotate_left
  focus (intro w hSw; (try dsimp only at hSw); go_simp; try with_reducible rfl)
  try simp only [Act.put, List.getElem_toArray, List.getElem_cons_zero, List.getElem_cons_succ, List.setIfInBounds_toArray, List.set_cons_zero, List.set_cons_succ]
  refine wpAnyH_take (i := 10) (oi := _) (v := ?_) rfl (by kernel_rfl) (by kernel_rfl) (by kernel_rfl) (fun _ _ _ h => h) (Or.inl ⟨by rfl, ?_⟩) (by assumption) ?_
  rotate_left
  focus (intro w hSw; (try dsimp only at hSw); go_simp; try with_reducible rfl)
  try simp only [Act.put, List.getElem_toArray, List.getElem_cons_zero, List.getElem_cons_succ, List.setIfInBounds_toArray, List.set_cons_zero, List.set_cons_succ]
  refine wpAnyH_take (i := 11) (oi := _) (v := ?_) rfl (by kernel_rfl) (by kernel_rfl) (by kernel_rfl) (fun _ _ _ h => h) (Or.inl ⟨by rfl, ?_⟩) (by assumption) ?_
  rotate_left
  focus (intro w hSw; (try dsimp only at hSw); go_simp; try with_reducible rfl)
  try simp only [Act.put, List.getElem_toArray, List.getElem_cons_zero, List.getElem_cons_succ, List.setIfInBounds_toArray, List.set_cons_zero, List.set_cons_succ]
  refine wpAnyH_take (i := 12) (oi := _) (v := ?_) rfl (by kernel_rfl) (by kernel_rfl) (by kernel_rfl) (fun _ _ _ h => h) (Or.inl ⟨by rfl, ?_⟩) (by assumption) ?_
  rotate_left
  focus (intro w hSw; (try dsimp only at hSw); go_simp; try with_reducible rfl)
  try simp only [Act.put, List.getElem_toArray, List.getElem_cons_zero, List.getElem_cons_succ, List.setIfInBounds_toArray, List.set_cons_zero, List.set_cons_succ]
  refine wpAnyH_take (i := 13) (oi := _) (v := ?_) rfl (by kernel_rfl) (by kernel_rfl) (by kernel_rfl) (fun _ _ _ h => h) (Or.inl ⟨by rfl, ?_⟩) (by assumption) ?_
  rotate_left
  focus (intro w hSw; (try dsimp only at hSw); go_simp; try with_reducible rfl)
  try simp only [Act.put, List.getElem_toArray, List.getElem_cons_zero, List.getElem_cons_succ, List.setIfInBounds_toArray, List.set_cons_zero, List.set_cons_succ]
  refine wpAnyH_take (i := 14) (oi := _) (v := ?_) rfl (by kernel_rfl) (by kernel_rfl) (by kernel_rfl) (fun _ _ _ h => h) (Or.inl ⟨by rfl, ?_⟩) (by assumption) ?_
  rotate_left
  focus (intro w hSw; (try dsimp only at hSw); go_simp; try with_reducible rfl)
  try simp only [Act.put, List.getElem_toArray, List.getElem_cons_zero, List.getElem_cons_succ, List.setIfInBounds_toArray, List.set_cons_zero, List.set_cons_succ]
  refine wpAnyH_take (i := 15) (oi := _) (v := ?_) rfl (by kernel_rfl) (by kernel_rfl) (by kernel_rfl) (fun _ _ _ h => h) (Or.inl ⟨by rfl, ?_⟩) (by assumption) ?_
  rotate_left
  focus (intro w hSw; (try dsimp only at hSw); go_simp; try with_reducible rfl)
  try simp only [Act.put, List.getElem_toArray, List.getElem_cons_zero, List.getElem_cons_succ, List.setIfInBounds_toArray, List.set_cons_zero, List.set_cons_succ]
  refine wpAnyH_take (i := 16) (oi := _) (v := ?_) rfl (by kernel_rfl) (by kernel_rfl) (by kernel_rfl) (fun _ _ _ h => h) (Or.inl ⟨by rfl, ?_⟩) (by assumption) ?_
  rotate_left
  focus (intro w hSw; (try dsimp only at hSw); go_simp; try with_reducible rfl)
  try simp only [Act.put, List.getElem_toArray, List.getElem_cons_zero, List.getElem_cons_succ, List.setIfInBounds_toArray, List.set_cons_zero, List.set_cons_succ]
  refine wpAnyH_take (i := 17) (oi := _) (v := ?_) rfl (by kernel_rfl) (by kernel_rfl) (by kernel_rfl) (fun _ _ _ h => h) (Or.inl ⟨by rfl, ?_⟩) (by assumption) ?_
  rotate_left
  focus (intro w hSw; (try dsimp only at hSw); go_simp; try with_reducible rfl)
  try simp only [Act.put, List.getElem_toArray, List.getElem_cons_zero, List.getElem_cons_succ, List.setIfInBounds_toArray, List.set_cons_zero, List.set_cons_succ]
  refine wpAnyH_take (i := 18) (oi := _) (v := ?_) rfl (by kernel_rfl) (by kernel_rfl) (by kernel_rfl) (fun _ _ _ h => h) (Or.inl ⟨by rfl, ?_⟩) (by assumption) ?_
  rotate_left
  focus (intro w hSw; (try dsimp only at hSw); go_simp; try with_reducible rfl)
  try simp only [Act.put, List.getElem_toArray, List.getElem_cons_zero, List.getElem_cons_succ, List.setIfInBounds_toArray, List.set_cons_zero, List.set_cons_succ]
  refine wpAnyH_take (i := 19) (oi := _) (v := ?_) rfl (by kernel_rfl) (by kernel_rfl) (by kernel_rfl) (fun _ _ _ h => h) (Or.inl ⟨by rfl, ?_⟩) (by assumption) ?_
  rotate_left
  focus (intro w hSw; (try dsimp only at hSw); go_simp; try with_reducible rfl)
  try simp only [Act.put, List.getElem_toArray, List.getElem_cons_zero, List.getElem_cons_succ, List.setIfInBounds_toArray, List.set_cons_zero, List.set_cons_succ]
  refine wpAnyH_take (i := 20) (oi := _) (v := ?_) rfl (by kernel_rfl) (by kernel_rfl) (by kernel_rfl) (fun _ _ _ h => h) (Or.inl ⟨by rfl, ?_⟩) (by assumption) ?_
  rotate_left
  focus (intro w hSw; (try dsimp only at hSw); go_simp; try with_reducible rfl)
  try simp only [Act.put, List.getElem_toArray, List.getElem_cons_zero, List.getElem_cons_succ, List.setIfInBounds_toArray, List.set_cons_zero, List.set_cons_succ]
  refine wpAnyH_take (i := 21) (oi := _) (v := ?_) rfl (by kernel_rfl) (by kernel_rfl) (by kernel_rfl) (fun _ _ _ h => h) (Or.inl ⟨by rfl, ?_⟩) (by assumption) ?_
  rotate_left
  focus (intro w hSw; (try dsimp only at hSw); go_simp; try with_reducible rfl)
  try simp only [Act.put, List.getElem_toArray, List.getElem_cons_zero, List.getElem_cons_succ, List.setIfInBounds_toArray, List.set_cons_zero, List.set_cons_succ]
  refine wpAnyH_ready (rs := [4, 22]) (by kernel_rfl) (by simp) ?_
  refine AllReadyH.cons rfl (fun K hK => ?_) (AllReadyH.cons rfl (fun K hK => ?_) AllReadyH.nil)
  · go_simp
    refine hK.out _ _ (⟨y26, y27, y28⟩) (fun hHeld2 => ?_)
    clear hK K hHeld
    have hHeld := hHeld2
    clear hHeld2
    try simp only [Act.put, List.getElem_toArray, List.getElem_cons_zero, List.getElem_cons_succ, List.setIfInBounds_toArray, List.set_cons_zero, List.set_cons_succ]
    refine wpAnyH_ready (rs := [22]) (by kernel_rfl) (by simp) ?_
    refine AllReadyH.cons rfl (fun K hK => ?_) AllReadyH.nil
    go_simp
    refine (NA.out _).mono ?_
    rintro _ _ ⟨rfl, rfl⟩
    go_simp
    refine hK.out _ _ (⟨y26, y27, y28⟩) (fun hHeld2 => ?_)
    clear hK K hHeld
    have hHeld := hHeld2
    clear hHeld2
    try simp only [Act.put, List.getElem_toArray, List.getElem_cons_zero, List.getElem_cons_succ, List.setIfInBounds_toArray, List.set_cons_zero, List.set_cons_succ]
    refine wpAnyH_take (i := 23) (oi := _) (v := ?_) rfl (by kernel_rfl) (by kernel_rfl) (by kernel_rfl) (fun _ _ _ h => h) (Or.inl ⟨by rfl, ?_⟩) (by assumption) ?_
    rotate_left
    focus (intro w hSw; (try dsimp only at hSw); go_simp; try with_reducible rfl)
    try simp only [Act.put, List.getElem_toArray, List.getElem_cons_zero, List.getElem_cons_succ, List.setIfInBounds_toArray, List.set_cons_zero, List.set_cons_succ]
    refine wpAnyH_ready (rs := [24]) (by kernel_rfl) (by simp) ?_
    refine AllReadyH.cons rfl (fun K hK => ?_) AllReadyH.nil
    go_simp
    refine (HF.out _).mono ?_
    rintro _ _ ⟨rfl, rfl⟩
    go_simp
    refine hK.out _ _ (⟨y26, y27, y28⟩) (fun hHeld2 => ?_)
    clear hK K hHeld
    have hHeld := hHeld2
    clear hHeld2
    try simp only [Act.put, List.getElem_toArray, List.getElem_cons_zero, List.getElem_cons_succ, List.setIfInBounds_toArray, List.set_cons_zero, List.set_cons_succ]
    refine wpAnyH_ready (rs := [25]) (by kernel_rfl) (by simp) ?_
    refine AllReadyH.cons rfl (fun K hK => ?_) AllReadyH.nil
    go_simp
    refine hK.out _ _ (S4.out) (fun hHeld2 => ?_)
    clear hK K hHeld
    have hHeld := hHeld2
    clear hHeld2
    try simp only [Act.put, List.getElem_toArray, List.getElem_cons_zero, List.getElem_cons_succ, List.setIfInBounds_toArray, List.set_cons_zero, List.set_cons_succ]
    refine wpAnyH_ready (rs := [26]) (by kernel_rfl) (by simp) ?_
    refine AllReadyH.cons rfl (fun K hK => ?_) AllReadyH.nil
    refine step_append_own rfl _ _ 22 rfl B 3 i0 (.int .i64 0) 1 8 Try.underlying22 HI.out.1 HI.out.2.1 HI.out.2.2.1 HI.out.2.2.2 rfl (by decide) (.slice a 8 c) 8 ((d0 :: tl).map (Value.int .i64)) rfl (O3.out.drew.alloc _) _ 1 _ [.int .i64 V] rfl rfl (news_one w3.drew _ _) (by intro u hu; simp at hu; subst hu; rfl) (by unfold maxLen; omega) (by omega) (Nat.le_trans hB3.out (only_alloc (only_refl _ none) _).size) ?_
    rintro v' w5 hown5 hgrow5 -
    obtain ⟨g5, c5, rfl⟩ : ∃ g cap, v' = .slice (some ⟨g, 0, none⟩) 9 cap := own_form hown5 (by omega)
    have Y5 := ((Y3.out.drew).alloc (.cells #[.int .i64 V] 3)).grown hgrow5 hne0.out
    have z29 : w5.cell? ⟨b, 29, none⟩ = some (.slice a 8 c) := Y5.cell 29
    have zf29 := Y5.frozen 29
    have zz := Y5.lt
    have S5 : Hid (w5.cell? ⟨b, 26, none⟩ = some (.int .i64 y.r1) ∧ w5.cell? ⟨b, 27, none⟩ = some (.int .i64 y.r2) ∧ w5.cell? ⟨b, 28, none⟩ = some (.int .i64 y.r4)) := Lib.hid ⟨Y5.cell 26, Y5.cell 27, Y5.cell 28⟩
    have Y6 := Y5.set_ 29 (.slice (some ⟨g5, 0, none⟩) 9 c5)
    have S6 : Hid ((w5.setCell ⟨b, 29, none⟩ (.slice (some ⟨g5, 0, none⟩) 9 c5)).cell? ⟨b, 26, none⟩ = some (.int .i64 y.r1) ∧ (w5.setCell ⟨b, 29, none⟩ (.slice (some ⟨g5, 0, none⟩) 9 c5)).cell? ⟨b, 27, none⟩ = some (.int .i64 y.r2) ∧ (w5.setCell ⟨b, 29, none⟩ (.slice (some ⟨g5, 0, none⟩) 9 c5)).cell? ⟨b, 28, none⟩ = some (.int .i64 y.r4)) := Lib.hid ⟨Y6.cell 26, Y6.cell 27, Y6.cell 28⟩
    have O6 := Lib.hid (hown5.kept (only_setCell (only_refl w5 (some b)) (p := ⟨b, 29, none⟩) (.inl rfl) (.slice (some ⟨g5, 0, none⟩) 9 c5)) (Or.inr (own_ne hown5 Y5 (by decide)).symm))
    have G6 : Hid (Gr2 w (w5.setCell ⟨b, 29, none⟩ (.slice (some ⟨g5, 0, none⟩) 9 c5)) b (Value.slice a 8 c).ownBlock) := Lib.hid (((Gr2.of_below ((H3.out.drew).alloc H3.out.size _)).then_own hgrow5).then_b (only_setCell (only_refl w5 (some b)) (p := ⟨b, 29, none⟩) (.inl rfl) _))
    have Y6h : Hid (Blk (w5.setCell ⟨b, 29, none⟩ (.slice (some ⟨g5, 0, none⟩) 9 c5)) b 74 (yA y (.slice (some ⟨g5, 0, none⟩) 9 c5))) := Lib.hid Y6
    clear Y5 Y6 hown5 hgrow5
    refine hK.out _ _ (S5.out) (fun hHeld2 => ?_)
    clear hK K hHeld
    have hHeld := hHeld2
    clear hHeld2
    try simp only [Act.put, List.getElem_toArray, List.getElem_cons_zero, List.getElem_cons_succ, List.setIfInBounds_toArray, List.set_cons_zero, List.set_cons_succ]
    refine wpAnyH_take (i := 27) (oi := _) (v := ?_) rfl (by kernel_rfl) (by kernel_rfl) (by kernel_rfl) (fun _ _ _ h => h) (Or.inl ⟨by rfl, ?_⟩) (by assumption) ?_
    rotate_left
    focus (intro w hSw; (try dsimp only at hSw); go_simp; try with_reducible rfl)
    try simp only [Act.put, List.getElem_toArray, List.getElem_cons_zero, List.getElem_cons_succ, List.setIfInBounds_toArray, List.set_cons_zero, List.set_cons_succ]
    refine wpAnyH_take (i := 28) (oi := _) (v := ?_) rfl (by kernel_rfl) (by kernel_rfl) (by kernel_rfl) (fun _ _ _ h => h) (Or.inl ⟨by rfl, ?_⟩) (by assumption) ?_
    rotate_left
    focus (intro w hSw; (try dsimp only at hSw); go_simp; try with_reducible rfl)
    try simp only [Act.put, List.getElem_toArray, List.getElem_cons_zero, List.getElem_cons_succ, List.setIfInBounds_toArray, List.set_cons_zero, List.set_cons_succ]
    refine wpAnyH_ready (rs := [29]) (by kernel_rfl) (by simp) ?_
    refine AllReadyH.cons rfl (fun K hK => ?_) AllReadyH.nil
    go_simp
    refine hK.out _ _ (S6.out) (fun hHeld2 => ?_)
    clear hK K hHeld
    have hHeld := hHeld2
    clear hHeld2
    try simp only [Act.put, List.getElem_toArray, List.getElem_cons_zero, List.getElem_cons_succ, List.setIfInBounds_toArray, List.set_cons_zero, List.set_cons_succ]
    refine wpAnyH_done (by kernel_rfl) ?_ _
    clear S4 S5 S6 hHeld z29 zf29 zz y26 y27 y28 y29 f29 yz Y3 H3 O3
    generalize (w5.setCell ⟨b, 29, none⟩ (.slice (some ⟨g5, 0, none⟩) 9 c5)) = w8 at O6 G6 Y6h ⊢
    have el : ((d0 :: tl).map (Value.int .i64) ++ [.int .i64 V]) = .int .i64 d0 :: (tl ++ [V]).map (Value.int .i64) := by simp
    have O8 : Hid (w8.ownsRow B 3 1 (.slice (some ⟨g5, 0, none⟩) 9 c5) 9 (.int .i64 d0 :: (tl ++ [V]).map (Value.int .i64))) := Lib.hid (by rw [← el]; exact O6.out)
    have G8 := G6
    have Y8 := Y6h
    have hB8 : Hid (B ≤ w8.heap.size) := Lib.hid (Nat.le_trans hB0.out G6.out.size)
    clear O6 G6 Y6h el
    have hc5 : 9 ≤ c5 := own_cap O8.out
    have z29 : w8.cell? ⟨b, 29, none⟩ = some (.slice (some ⟨g5, 0, none⟩) 9 c5) := Y8.out.cell 29
    have zf29 := Y8.out.frozen 29
    have zz := Y8.out.lt
    by_cases c1 : y.cnt = 0
    · have t1 : (y.cnt == 0) = true := by simp [c1]
      have c0 := Lib.hid c1
      clear c1
      go_wp2_with (at_builtin; refine wpList_append_own _ rfl _ _ 22 rfl B 3 i0 (.int .i64 0) 1 8 Try.underlying22 HI.out.1 HI.out.2.1 HI.out.2.2.1 HI.out.2.2.2 rfl (by decide) _ _ _ rfl (World.ownsRow_made w8 #[] 0 hB8.out (Nat.zero_le _) rfl) _ 8 _ ((tl ++ [V]).map (Value.int .i64)) rfl (by have := HL.out; simp; omega) (tail_news O8.out _) (by intro u hu; obtain ⟨x, _, rfl⟩ := List.mem_map.1 hu; rfl) (by unfold maxLen; omega) (by omega) (Nat.le_trans hB8.out (only_alloc (only_refl _ none) _).size) ?_; rintro v' w9 hown9 hgrow9 -; obtain ⟨g9, c9, rfl⟩ : ∃ g cap, v' = .slice (some ⟨g, 0, none⟩) 8 cap := own_form hown9 (by omega); have Y9 := (Y8.out.alloc (.cells #[] 3)).grown hgrow9 (by intro e; injection e with e; exact absurd (show b = w8.heap.size from e) (Nat.ne_of_lt zz)); have O9 : Hid (w9.ownsRow B 3 1 (.slice (some ⟨g9, 0, none⟩) 8 c9) 8 ((tl ++ [V]).map (Value.int .i64))) := Lib.hid hown9; have G9 := Lib.hid ((G8.out.then_new (only_alloc (only_refl w8 none) (.cells #[] 3)) (by intro g h; cases h)).then_new hgrow9 (by intro g h; injection h with h; subst h; exact G8.out.size)); have y4 : w9.cell? ⟨b, 4, none⟩ = some (.bool y.wt) := Y9.cell 4; have y28 : w9.cell? ⟨b, 28, none⟩ = some (.int .i64 y.r4) := Y9.cell 28; have y29 : w9.cell? ⟨b, 29, none⟩ = some ((.slice (some ⟨g5, 0, none⟩) 9 c5)) := Y9.cell 29; have y30 : w9.cell? ⟨b, 30, none⟩ = some (.int .i64 y.cnt) := Y9.cell 30; have y31 : w9.cell? ⟨b, 31, none⟩ = some (.int .i64 y.f1) := Y9.cell 31; have y32 : w9.cell? ⟨b, 32, none⟩ = some (.int .i64 y.f2) := Y9.cell 32; have y33 : w9.cell? ⟨b, 33, none⟩ = some (.int .i64 y.l1) := Y9.cell 33; have y34 : w9.cell? ⟨b, 34, none⟩ = some (.int .i64 y.l2) := Y9.cell 34; have g4 := Y9.frozen 4; have g29 := Y9.frozen 29; have g30 := Y9.frozen 30; have g31 := Y9.frozen 31; have g32 := Y9.frozen 32; have g33 := Y9.frozen 33; have g34 := Y9.frozen 34; have yz9 := Y9.lt; have E0 := Lib.hid (yend_x0 (Y9.set_ 29 (.slice (some ⟨g9, 0, none⟩) 8 c9)) y.r4 I c0.out); have Y9h := Lib.hid Y9; clear Y9 hown9 hgrow9)
      go_ret
      exact ⟨rfl, _, _, E0.out, O9.out.kept (only_trans (only_setCell (only_refl w9 (some b)) (p := ⟨b, 29, none⟩) (.inl rfl) (.slice (some ⟨g9, 0, none⟩) 8 c9)) (yend_own0 _ b _ _ _ _ _ _)) (Or.inr (own_ne O9.out Y9h.out (by decide)).symm), G9.out.then_b (only_trans (only_setCell (only_refl w9 (some b)) (p := ⟨b, 29, none⟩) (.inl rfl) (.slice (some ⟨g9, 0, none⟩) 8 c9)) (yend_own0 _ b _ _ _ _ _ _))⟩
    · have t1 : (y.cnt == 0) = false := by simp [c1]
      have c0 := Lib.hid c1
      clear c1
      go_wp2_with (at_builtin; refine wpList_append_own _ rfl _ _ 22 rfl B 3 i0 (.int .i64 0) 1 8 Try.underlying22 HI.out.1 HI.out.2.1 HI.out.2.2.1 HI.out.2.2.2 rfl (by decide) _ _ _ rfl (World.ownsRow_made w8 #[] 0 hB8.out (Nat.zero_le _) rfl) _ 8 _ ((tl ++ [V]).map (Value.int .i64)) rfl (by have := HL.out; simp; omega) (tail_news O8.out _) (by intro u hu; obtain ⟨x, _, rfl⟩ := List.mem_map.1 hu; rfl) (by unfold maxLen; omega) (by omega) (Nat.le_trans hB8.out (only_alloc (only_refl _ none) _).size) ?_; rintro v' w9 hown9 hgrow9 -; obtain ⟨g9, c9, rfl⟩ : ∃ g cap, v' = .slice (some ⟨g, 0, none⟩) 8 cap := own_form hown9 (by omega); have Y9 := (Y8.out.alloc (.cells #[] 3)).grown hgrow9 (by intro e; injection e with e; exact absurd (show b = w8.heap.size from e) (Nat.ne_of_lt zz)); have O9 : Hid (w9.ownsRow B 3 1 (.slice (some ⟨g9, 0, none⟩) 8 c9) 8 ((tl ++ [V]).map (Value.int .i64))) := Lib.hid hown9; have G9 := Lib.hid ((G8.out.then_new (only_alloc (only_refl w8 none) (.cells #[] 3)) (by intro g h; cases h)).then_new hgrow9 (by intro g h; injection h with h; subst h; exact G8.out.size)); have y4 : w9.cell? ⟨b, 4, none⟩ = some (.bool y.wt) := Y9.cell 4; have y28 : w9.cell? ⟨b, 28, none⟩ = some (.int .i64 y.r4) := Y9.cell 28; have y29 : w9.cell? ⟨b, 29, none⟩ = some ((.slice (some ⟨g5, 0, none⟩) 9 c5)) := Y9.cell 29; have y30 : w9.cell? ⟨b, 30, none⟩ = some (.int .i64 y.cnt) := Y9.cell 30; have y31 : w9.cell? ⟨b, 31, none⟩ = some (.int .i64 y.f1) := Y9.cell 31; have y32 : w9.cell? ⟨b, 32, none⟩ = some (.int .i64 y.f2) := Y9.cell 32; have y33 : w9.cell? ⟨b, 33, none⟩ = some (.int .i64 y.l1) := Y9.cell 33; have y34 : w9.cell? ⟨b, 34, none⟩ = some (.int .i64 y.l2) := Y9.cell 34; have g4 := Y9.frozen 4; have g29 := Y9.frozen 29; have g30 := Y9.frozen 30; have g31 := Y9.frozen 31; have g32 := Y9.frozen 32; have g33 := Y9.frozen 33; have g34 := Y9.frozen 34; have yz9 := Y9.lt; have E0 := Lib.hid (yend_x1 (Y9.set_ 29 (.slice (some ⟨g9, 0, none⟩) 8 c9)) y.r4 I c0.out); have Y9h := Lib.hid Y9; clear Y9 hown9 hgrow9)
      go_ret
      exact ⟨rfl, _, _, E0.out, O9.out.kept (only_trans (only_setCell (only_refl w9 (some b)) (p := ⟨b, 29, none⟩) (.inl rfl) (.slice (some ⟨g9, 0, none⟩) 8 c9)) (yend_own1 _ b _ _ _ _)) (Or.inr (own_ne O9.out Y9h.out (by decide)).symm), G9.out.then_b (only_trans (only_setCell (only_refl w9 (some b)) (p := ⟨b, 29, none⟩) (.inl rfl) (.slice (some ⟨g9, 0, none⟩) 8 c9)) (yend_own1 _ b _ _ _ _))⟩
  · go_simp
    refine (NA.out _).mono ?_
    rintro _ _ ⟨rfl, rfl⟩
    go_simp
    refine hK.out _ _ (⟨y26, y27, y28⟩) (fun hHeld2 => ?_)
    clear hK K hHeld
    have hHeld := hHeld2
    clear hHeld2
    try simp only [Act.put, List.getElem_toArray, List.getElem_cons_zero, List.getElem_cons_succ, List.setIfInBounds_toArray, List.set_cons_zero, List.set_cons_succ]
    refine wpAnyH_take (i := 23) (oi := _) (v := ?_) rfl (by kernel_rfl) (by kernel_rfl) (by kernel_rfl) (fun _ _ _ h => h) (Or.inl ⟨by rfl, ?_⟩) (by assumption) ?_
    rotate_left
    focus (intro w hSw; (try dsimp only at hSw); go_simp; try with_reducible rfl)
    try simp only [Act.put, List.getElem_toArray, List.getElem_cons_zero, List.getElem_cons_succ, List.setIfInBounds_toArray, List.set_cons_zero, List.set_cons_succ]
    refine wpAnyH_ready (rs := [4, 24]) (by kernel_rfl) (by simp) ?_
    refine AllReadyH.cons rfl (fun K hK => ?_) (AllReadyH.cons rfl (fun K hK => ?_) AllReadyH.nil)
    · go_simp
      refine hK.out _ _ (⟨y26, y27, y28⟩) (fun hHeld2 => ?_)
      clear hK K hHeld
      have hHeld := hHeld2
      clear hHeld2
      try simp only [Act.put, List.getElem_toArray, List.getElem_cons_zero, List.getElem_cons_succ, List.setIfInBounds_toArray, List.set_cons_zero, List.set_cons_succ]
      refine wpAnyH_ready (rs := [24]) (by kernel_rfl) (by simp) ?_
      refine AllReadyH.cons rfl (fun K hK => ?_) AllReadyH.nil
      go_simp
      refine (HF.out _).mono ?_
      rintro _ _ ⟨rfl, rfl⟩
      go_simp
      refine hK.out _ _ (⟨y26, y27, y28⟩) (fun hHeld2 => ?_)
      clear hK K hHeld
      have hHeld := hHeld2
      clear hHeld2
      try simp only [Act.put, List.getElem_toArray, List.getElem_cons_zero, List.getElem_cons_succ, List.setIfInBounds_toArray, List.set_cons_zero, List.set_cons_succ]
      refine wpAnyH_ready (rs := [25]) (by kernel_rfl) (by simp) ?_
      refine AllReadyH.cons rfl (fun K hK => ?_) AllReadyH.nil
      go_simp
      refine hK.out _ _ (S4.out) (fun hHeld2 => ?_)
      clear hK K hHeld
      have hHeld := hHeld2
      clear hHeld2
      try simp only [Act.put, List.getElem_toArray, List.getElem_cons_zero, List.getElem_cons_succ, List.setIfInBounds_toArray, List.set_cons_zero, List.set_cons_succ]
      refine wpAnyH_ready (rs := [26]) (by kernel_rfl) (by simp) ?_
      refine AllReadyH.cons rfl (fun K hK => ?_) AllReadyH.nil
      refine step_append_own rfl _ _ 22 rfl B 3 i0 (.int .i64 0) 1 8 Try.underlying22 HI.out.1 HI.out.2.1 HI.out.2.2.1 HI.out.2.2.2 rfl (by decide) (.slice a 8 c) 8 ((d0 :: tl).map (Value.int .i64)) rfl (O3.out.drew.alloc _) _ 1 _ [.int .i64 V] rfl rfl (news_one w3.drew _ _) (by intro u hu; simp at hu; subst hu; rfl) (by unfold maxLen; omega) (by omega) (Nat.le_trans hB3.out (only_alloc (only_refl _ none) _).size) ?_
      rintro v' w5 hown5 hgrow5 -
      obtain ⟨g5, c5, rfl⟩ : ∃ g cap, v' = .slice (some ⟨g, 0, none⟩) 9 cap := own_form hown5 (by omega)
      have Y5 := ((Y3.out.drew).alloc (.cells #[.int .i64 V] 3)).grown hgrow5 hne0.out
      have z29 : w5.cell? ⟨b, 29, none⟩ = some (.slice a 8 c) := Y5.cell 29
      have zf29 := Y5.frozen 29
      have zz := Y5.lt
      have S5 : Hid (w5.cell? ⟨b, 26, none⟩ = some (.int .i64 y.r1) ∧ w5.cell? ⟨b, 27, none⟩ = some (.int .i64 y.r2) ∧ w5.cell? ⟨b, 28, none⟩ = some (.int .i64 y.r4)) := Lib.hid ⟨Y5.cell 26, Y5.cell 27, Y5.cell 28⟩
      have Y6 := Y5.set_ 29 (.slice (some ⟨g5, 0, none⟩) 9 c5)
      have S6 : Hid ((w5.setCell ⟨b, 29, none⟩ (.slice (some ⟨g5, 0, none⟩) 9 c5)).cell? ⟨b, 26, none⟩ = some (.int .i64 y.r1) ∧ (w5.setCell ⟨b, 29, none⟩ (.slice (some ⟨g5, 0, none⟩) 9 c5)).cell? ⟨b, 27, none⟩ = some (.int .i64 y.r2) ∧ (w5.setCell ⟨b, 29, none⟩ (.slice (some ⟨g5, 0, none⟩) 9 c5)).cell? ⟨b, 28, none⟩ = some (.int .i64 y.r4)) := Lib.hid ⟨Y6.cell 26, Y6.cell 27, Y6.cell 28⟩
      have O6 := Lib.hid (hown5.kept (only_setCell (only_refl w5 (some b)) (p := ⟨b, 29, none⟩) (.inl rfl) (.slice (some ⟨g5, 0, none⟩) 9 c5)) (Or.inr (own_ne hown5 Y5 (by decide)).symm))
      have G6 : Hid (Gr2 w (w5.setCell ⟨b, 29, none⟩ (.slice (some ⟨g5, 0, none⟩) 9 c5)) b (Value.slice a 8 c).ownBlock) := Lib.hid (((Gr2.of_below ((H3.out.drew).alloc H3.out.size _)).then_own hgrow5).then_b (only_setCell (only_refl w5 (some b)) (p := ⟨b, 29, none⟩) (.inl rfl) _))
      have Y6h : Hid (Blk (w5.setCell ⟨b, 29, none⟩ (.slice (some ⟨g5, 0, none⟩) 9 c5)) b 74 (yA y (.slice (some ⟨g5, 0, none⟩) 9 c5))) := Lib.hid Y6
      clear Y5 Y6 hown5 hgrow5
      refine hK.out _ _ (S5.out) (fun hHeld2 => ?_)
      clear hK K hHeld
      have hHeld := hHeld2
      clear hHeld2
      try simp only [Act.put, List.getElem_toArray, List.getElem_cons_zero, List.getElem_cons_succ, List.setIfInBounds_toArray, List.set_cons_zero, List.set_cons_succ]
      refine wpAnyH_take (i := 27) (oi := _) (v := ?_) rfl (by kernel_rfl) (by kernel_rfl) (by kernel_rfl) (fun _ _ _ h => h) (Or.inl ⟨by rfl, ?_⟩) (by assumption) ?_
      rotate_left
      focus (intro w hSw; (try dsimp only at hSw); go_simp; try with_reducible rfl)
      try simp only [Act.put, List.getElem_toArray, List.getElem_cons_zero, List.getElem_cons_succ, List.setIfInBounds_toArray, List.set_cons_zero, List.set_cons_succ]
      refine wpAnyH_take (i := 28) (oi := _) (v := ?_) rfl (by kernel_rfl) (by kernel_rfl) (by kernel_rfl) (fun _ _ _ h => h) (Or.inl ⟨by rfl, ?_⟩) (by assumption) ?_
      rotate_left
      focus (intro w hSw; (try dsimp only at hSw); go_simp; try with_reducible rfl)
      try simp only [Act.put, List.getElem_toArray, List.getElem_cons_zero, List.getElem_cons_succ, List.setIfInBounds_toArray, List.set_cons_zero, List.set_cons_succ]
      refine wpAnyH_ready (rs := [29]) (by kernel_rfl) (by simp) ?_
      refine AllReadyH.cons rfl (fun K hK => ?_) AllReadyH.nil
      go_simp
      refine hK.out _ _ (S6.out) (fun hHeld2 => ?_)
      clear hK K hHeld
      have hHeld := hHeld2
      clear hHeld2
      try simp only [Act.put, List.getElem_toArray, List.getElem_cons_zero, List.getElem_cons_succ, List.setIfInBounds_toArray, List.set_cons_zero, List.set_cons_succ]
      refine wpAnyH_done (by kernel_rfl) ?_ _
      clear S4 S5 S6 hHeld z29 zf29 zz y26 y27 y28 y29 f29 yz Y3 H3 O3
      generalize (w5.setCell ⟨b, 29, none⟩ (.slice (some ⟨g5, 0, none⟩) 9 c5)) = w8 at O6 G6 Y6h ⊢
      have el : ((d0 :: tl).map (Value.int .i64) ++ [.int .i64 V]) = .int .i64 d0 :: (tl ++ [V]).map (Value.int .i64) := by simp
      have O8 : Hid (w8.ownsRow B 3 1 (.slice (some ⟨g5, 0, none⟩) 9 c5) 9 (.int .i64 d0 :: (tl ++ [V]).map (Value.int .i64))) := Lib.hid (by rw [← el]; exact O6.out)
      have G8 := G6
      have Y8 := Y6h
      have hB8 : Hid (B ≤ w8.heap.size) := Lib.hid (Nat.le_trans hB0.out G6.out.size)
      clear O6 G6 Y6h el
      have hc5 : 9 ≤ c5 := own_cap O8.out
      have z29 : w8.cell? ⟨b, 29, none⟩ = some (.slice (some ⟨g5, 0, none⟩) 9 c5) := Y8.out.cell 29
      have zf29 := Y8.out.frozen 29
      have zz := Y8.out.lt
      by_cases c1 : y.cnt = 0
      · have t1 : (y.cnt == 0) = true := by simp [c1]
        have c0 := Lib.hid c1
        clear c1
        go_wp2_with (at_builtin; refine wpList_append_own _ rfl _ _ 22 rfl B 3 i0 (.int .i64 0) 1 8 Try.underlying22 HI.out.1 HI.out.2.1 HI.out.2.2.1 HI.out.2.2.2 rfl (by decide) _ _ _ rfl (World.ownsRow_made w8 #[] 0 hB8.out (Nat.zero_le _) rfl) _ 8 _ ((tl ++ [V]).map (Value.int .i64)) rfl (by have := HL.out; simp; omega) (tail_news O8.out _) (by intro u hu; obtain ⟨x, _, rfl⟩ := List.mem_map.1 hu; rfl) (by unfold maxLen; omega) (by omega) (Nat.le_trans hB8.out (only_alloc (only_refl _ none) _).size) ?_; rintro v' w9 hown9 hgrow9 -; obtain ⟨g9, c9, rfl⟩ : ∃ g cap, v' = .slice (some ⟨g, 0, none⟩) 8 cap := own_form hown9 (by omega); have Y9 := (Y8.out.alloc (.cells #[] 3)).grown hgrow9 (by intro e; injection e with e; exact absurd (show b = w8.heap.size from e) (Nat.ne_of_lt zz)); have O9 : Hid (w9.ownsRow B 3 1 (.slice (some ⟨g9, 0, none⟩) 8 c9) 8 ((tl ++ [V]).map (Value.int .i64))) := Lib.hid hown9; have G9 := Lib.hid ((G8.out.then_new (only_alloc (only_refl w8 none) (.cells #[] 3)) (by intro g h; cases h)).then_new hgrow9 (by intro g h; injection h with h; subst h; exact G8.out.size)); have y4 : w9.cell? ⟨b, 4, none⟩ = some (.bool y.wt) := Y9.cell 4; have y28 : w9.cell? ⟨b, 28, none⟩ = some (.int .i64 y.r4) := Y9.cell 28; have y29 : w9.cell? ⟨b, 29, none⟩ = some ((.slice (some ⟨g5, 0, none⟩) 9 c5)) := Y9.cell 29; have y30 : w9.cell? ⟨b, 30, none⟩ = some (.int .i64 y.cnt) := Y9.cell 30; have y31 : w9.cell? ⟨b, 31, none⟩ = some (.int .i64 y.f1) := Y9.cell 31; have y32 : w9.cell? ⟨b, 32, none⟩ = some (.int .i64 y.f2) := Y9.cell 32; have y33 : w9.cell? ⟨b, 33, none⟩ = some (.int .i64 y.l1) := Y9.cell 33; have y34 : w9.cell? ⟨b, 34, none⟩ = some (.int .i64 y.l2) := Y9.cell 34; have g4 := Y9.frozen 4; have g29 := Y9.frozen 29; have g30 := Y9.frozen 30; have g31 := Y9.frozen 31; have g32 := Y9.frozen 32; have g33 := Y9.frozen 33; have g34 := Y9.frozen 34; have yz9 := Y9.lt; have E0 := Lib.hid (yend_x0 (Y9.set_ 29 (.slice (some ⟨g9, 0, none⟩) 8 c9)) y.r4 I c0.out); have Y9h := Lib.hid Y9; clear Y9 hown9 hgrow9)
        go_ret
        exact ⟨rfl, _, _, E0.out, O9.out.kept (only_trans (only_setCell (only_refl w9 (some b)) (p := ⟨b, 29, none⟩) (.inl rfl) (.slice (some ⟨g9, 0, none⟩) 8 c9)) (yend_own0 _ b _ _ _ _ _ _)) (Or.inr (own_ne O9.out Y9h.out (by decide)).symm), G9.out.then_b (only_trans (only_setCell (only_refl w9 (some b)) (p := ⟨b, 29, none⟩) (.inl rfl) (.slice (some ⟨g9, 0, none⟩) 8 c9)) (yend_own0 _ b _ _ _ _ _ _))⟩
      · have t1 : (y.cnt == 0) = false := by simp [c1]
        have c0 := Lib.hid c1
        clear c1
        go_wp2_with (at_builtin; refine wpList_append_own _ rfl _ _ 22 rfl B 3 i0 (.int .i64 0) 1 8 Try.underlying22 HI.out.1 HI.out.2.1 HI.out.2.2.1 HI.out.2.2.2 rfl (by decide) _ _ _ rfl (World.ownsRow_made w8 #[] 0 hB8.out (Nat.zero_le _) rfl) _ 8 _ ((tl ++ [V]).map (Value.int .i64)) rfl (by have := HL.out; simp; omega) (tail_news O8.out _) (by intro u hu; obtain ⟨x, _, rfl⟩ := List.mem_map.1 hu; rfl) (by unfold maxLen; omega) (by omega) (Nat.le_trans hB8.out (only_alloc (only_refl _ none) _).size) ?_; rintro v' w9 hown9 hgrow9 -; obtain ⟨g9, c9, rfl⟩ : ∃ g cap, v' = .slice (some ⟨g, 0, none⟩) 8 cap := own_form hown9 (by omega); have Y9 := (Y8.out.alloc (.cells #[] 3)).grown hgrow9 (by intro e; injection e with e; exact absurd (show b = w8.heap.size from e) (Nat.ne_of_lt zz)); have O9 : Hid (w9.ownsRow B 3 1 (.slice (some ⟨g9, 0, none⟩) 8 c9) 8 ((tl ++ [V]).map (Value.int .i64))) := Lib.hid hown9; have G9 := Lib.hid ((G8.out.then_new (only_alloc (only_refl w8 none) (.cells #[] 3)) (by intro g h; cases h)).then_new hgrow9 (by intro g h; injection h with h; subst h; exact G8.out.size)); have y4 : w9.cell? ⟨b, 4, none⟩ = some (.bool y.wt) := Y9.cell 4; have y28 : w9.cell? ⟨b, 28, none⟩ = some (.int .i64 y.r4) := Y9.cell 28; have y29 : w9.cell? ⟨b, 29, none⟩ = some ((.slice (some ⟨g5, 0, none⟩) 9 c5)) := Y9.cell 29; have y30 : w9.cell? ⟨b, 30, none⟩ = some (.int .i64 y.cnt) := Y9.cell 30; have y31 : w9.cell? ⟨b, 31, none⟩ = some (.int .i64 y.f1) := Y9.cell 31; have y32 : w9.cell? ⟨b, 32, none⟩ = some (.int .i64 y.f2) := Y9.cell 32; have y33 : w9.cell? ⟨b, 33, none⟩ = some (.int .i64 y.l1) := Y9.cell 33; have y34 : w9.cell? ⟨b, 34, none⟩ = some (.int .i64 y.l2) := Y9.cell 34; have g4 := Y9.frozen 4; have g29 := Y9.frozen 29; have g30 := Y9.frozen 30; have g31 := Y9.frozen 31; have g32 := Y9.frozen 32; have g33 := Y9.frozen 33; have g34 := Y9.frozen 34; have yz9 := Y9.lt; have E0 := Lib.hid (yend_x1 (Y9.set_ 29 (.slice (some ⟨g9, 0, none⟩) 8 c9)) y.r4 I c0.out); have Y9h := Lib.hid Y9; clear Y9 hown9 hgrow9)
        go_ret
        exact ⟨rfl, _, _, E0.out, O9.out.kept (only_trans (only_setCell (only_refl w9 (some b)) (p := ⟨b, 29, none⟩) (.inl rfl) (.slice (some ⟨g9, 0, none⟩) 8 c9)) (yend_own1 _ b _ _ _ _)) (Or.inr (own_ne O9.out Y9h.out (by decide)).symm), G9.out.then_b (only_trans (only_setCell (only_refl w9 (some b)) (p := ⟨b, 29, none⟩) (.inl rfl) (.slice (some ⟨g9, 0, none⟩) 8 c9)) (yend_own1 _ b _ _ _ _))⟩
    · go_simp
      refine (HF.out _).mono ?_
      rintro _ _ ⟨rfl, rfl⟩
      go_simp
      refine hK.out _ _ (⟨y26, y27, y28⟩) (fun hHeld2 => ?_)
      clear hK K hHeld
      have hHeld := hHeld2
      clear hHeld2
      try simp only [Act.put, List.getElem_toArray, List.getElem_cons_zero, List.getElem_cons_succ, List.setIfInBounds_toArray, List.set_cons_zero, List.set_cons_succ]
      refine wpAnyH_ready (rs := [4, 25]) (by kernel_rfl) (by simp) ?_
      refine AllReadyH.cons rfl (fun K hK => ?_) (AllReadyH.cons rfl (fun K hK => ?_) AllReadyH.nil)
      · go_simp
        refine hK.out _ _ (⟨y26, y27, y28⟩) (fun hHeld2 => ?_)
        clear hK K hHeld
        have hHeld := hHeld2
        clear hHeld2
        try simp only [Act.put, List.getElem_toArray, List.getElem_cons_zero, List.getElem_cons_succ, List.setIfInBounds_toArray, List.set_cons_zero, List.set_cons_succ]
        refine wpAnyH_ready (rs := [25]) (by kernel_rfl) (by simp) ?_
        refine AllReadyH.cons rfl (fun K hK => ?_) AllReadyH.nil
        go_simp
        refine hK.out _ _ (S4.out) (fun hHeld2 => ?_)
        clear hK K hHeld
        have hHeld := hHeld2
        clear hHeld2
        try simp only [Act.put, List.getElem_toArray, List.getElem_cons_zero, List.getElem_cons_succ, List.setIfInBounds_toArray, List.set_cons_zero, List.set_cons_succ]
        refine wpAnyH_ready (rs := [26]) (by kernel_rfl) (by simp) ?_
        refine AllReadyH.cons rfl (fun K hK => ?_) AllReadyH.nil
        refine step_append_own rfl _ _ 22 rfl B 3 i0 (.int .i64 0) 1 8 Try.underlying22 HI.out.1 HI.out.2.1 HI.out.2.2.1 HI.out.2.2.2 rfl (by decide) (.slice a 8 c) 8 ((d0 :: tl).map (Value.int .i64)) rfl (O3.out.drew.alloc _) _ 1 _ [.int .i64 V] rfl rfl (news_one w3.drew _ _) (by intro u hu; simp at hu; subst hu; rfl) (by unfold maxLen; omega) (by omega) (Nat.le_trans hB3.out (only_alloc (only_refl _ none) _).size) ?_
        rintro v' w5 hown5 hgrow5 -
        obtain ⟨g5, c5, rfl⟩ : ∃ g cap, v' = .slice (some ⟨g, 0, none⟩) 9 cap := own_form hown5 (by omega)
        have Y5 := ((Y3.out.drew).alloc (.cells #[.int .i64 V] 3)).grown hgrow5 hne0.out
        have z29 : w5.cell? ⟨b, 29, none⟩ = some (.slice a 8 c) := Y5.cell 29
        have zf29 := Y5.frozen 29
        have zz := Y5.lt
        have S5 : Hid (w5.cell? ⟨b, 26, none⟩ = some (.int .i64 y.r1) ∧ w5.cell? ⟨b, 27, none⟩ = some (.int .i64 y.r2) ∧ w5.cell? ⟨b, 28, none⟩ = some (.int .i64 y.r4)) := Lib.hid ⟨Y5.cell 26, Y5.cell 27, Y5.cell 28⟩
        have Y6 := Y5.set_ 29 (.slice (some ⟨g5, 0, none⟩) 9 c5)
        have S6 : Hid ((w5.setCell ⟨b, 29, none⟩ (.slice (some ⟨g5, 0, none⟩) 9 c5)).cell? ⟨b, 26, none⟩ = some (.int .i64 y.r1) ∧ (w5.setCell ⟨b, 29, none⟩ (.slice (some ⟨g5, 0, none⟩) 9 c5)).cell? ⟨b, 27, none⟩ = some (.int .i64 y.r2) ∧ (w5.setCell ⟨b, 29, none⟩ (.slice (some ⟨g5, 0, none⟩) 9 c5)).cell? ⟨b, 28, none⟩ = some (.int .i64 y.r4)) := Lib.hid ⟨Y6.cell 26, Y6.cell 27, Y6.cell 28⟩
        have O6 := Lib.hid (hown5.kept (only_setCell (only_refl w5 (some b)) (p := ⟨b, 29, none⟩) (.inl rfl) (.slice (some ⟨g5, 0, none⟩) 9 c5)) (Or.inr (own_ne hown5 Y5 (by decide)).symm))
        have G6 : Hid (Gr2 w (w5.setCell ⟨b, 29, none⟩ (.slice (some ⟨g5, 0, none⟩) 9 c5)) b (Value.slice a 8 c).ownBlock) := Lib.hid (((Gr2.of_below ((H3.out.drew).alloc H3.out.size _)).then_own hgrow5).then_b (only_setCell (only_refl w5 (some b)) (p := ⟨b, 29, none⟩) (.inl rfl) _))
        have Y6h : Hid (Blk (w5.setCell ⟨b, 29, none⟩ (.slice (some ⟨g5, 0, none⟩) 9 c5)) b 74 (yA y (.slice (some ⟨g5, 0, none⟩) 9 c5))) := Lib.hid Y6
        clear Y5 Y6 hown5 hgrow5
        refine hK.out _ _ (S5.out) (fun hHeld2 => ?_)
        clear hK K hHeld
        have hHeld := hHeld2
        clear hHeld2
        try simp only [Act.put, List.getElem_toArray, List.getElem_cons_zero, List.getElem_cons_succ, List.setIfInBounds_toArray, List.set_cons_zero, List.set_cons_succ]
        refine wpAnyH_take (i := 27) (oi := _) (v := ?_) rfl (by kernel_rfl) (by kernel_rfl) (by kernel_rfl) (fun _ _ _ h => h) (Or.inl ⟨by rfl, ?_⟩) (by assumption) ?_
        rotate_left
        focus (intro w hSw; (try dsimp only at hSw); go_simp; try with_reducible rfl)
        try simp only [Act.put, List.getElem_toArray, List.getElem_cons_zero, List.getElem_cons_succ, List.setIfInBounds_toArray, List.set_cons_zero, List.set_cons_succ]
        refine wpAnyH_take (i := 28) (oi := _) (v := ?_) rfl (by kernel_rfl) (by kernel_rfl) (by kernel_rfl) (fun _ _ _ h => h) (Or.inl ⟨by rfl, ?_⟩) (by assumption) ?_
        rotate_left
        focus (intro w hSw; (try dsimp only at hSw); go_simp; try with_reducible rfl)
        try simp only [Act.put, List.getElem_toArray, List.getElem_cons_zero, List.getElem_cons_succ, List.setIfInBounds_toArray, List.set_cons_zero, List.set_cons_succ]
        refine wpAnyH_ready (rs := [29]) (by kernel_rfl) (by simp) ?_
        refine AllReadyH.cons rfl (fun K hK => ?_) AllReadyH.nil
        go_simp
        refine hK.out _ _ (S6.out) (fun hHeld2 => ?_)
        clear hK K hHeld
        have hHeld := hHeld2
        clear hHeld2
        try simp only [Act.put, List.getElem_toArray, List.getElem_cons_zero, List.getElem_cons_succ, List.setIfInBounds_toArray, List.set_cons_zero, List.set_cons_succ]
        refine wpAnyH_done (by kernel_rfl) ?_ _
        clear S4 S5 S6 hHeld z29 zf29 zz y26 y27 y28 y29 f29 yz Y3 H3 O3
        generalize (w5.setCell ⟨b, 29, none⟩ (.slice (some ⟨g5, 0, none⟩) 9 c5)) = w8 at O6 G6 Y6h ⊢
        have el : ((d0 :: tl).map (Value.int .i64) ++ [.int .i64 V]) = .int .i64 d0 :: (tl ++ [V]).map (Value.int .i64) := by simp
        have O8 : Hid (w8.ownsRow B 3 1 (.slice (some ⟨g5, 0, none⟩) 9 c5) 9 (.int .i64 d0 :: (tl ++ [V]).map (Value.int .i64))) := Lib.hid (by rw [← el]; exact O6.out)
        have G8 := G6
        have Y8 := Y6h
        have hB8 : Hid (B ≤ w8.heap.size) := Lib.hid (Nat.le_trans hB0.out G6.out.size)
        clear O6 G6 Y6h el
        have hc5 : 9 ≤ c5 := own_cap O8.out
        have z29 : w8.cell? ⟨b, 29, none⟩ = some (.slice (some ⟨g5, 0, none⟩) 9 c5) := Y8.out.cell 29
        have zf29 := Y8.out.frozen 29
        have zz := Y8.out.lt
        by_cases c1 : y.cnt = 0
        · have t1 : (y.cnt == 0) = true := by simp [c1]
          have c0 := Lib.hid c1
          clear c1
          go_wp2_with (at_builtin; refine wpList_append_own _ rfl _ _ 22 rfl B 3 i0 (.int .i64 0) 1 8 Try.underlying22 HI.out.1 HI.out.2.1 HI.out.2.2.1 HI.out.2.2.2 rfl (by decide) _ _ _ rfl (World.ownsRow_made w8 #[] 0 hB8.out (Nat.zero_le _) rfl) _ 8 _ ((tl ++ [V]).map (Value.int .i64)) rfl (by have := HL.out; simp; omega) (tail_news O8.out _) (by intro u hu; obtain ⟨x, _, rfl⟩ := List.mem_map.1 hu; rfl) (by unfold maxLen; omega) (by omega) (Nat.le_trans hB8.out (only_alloc (only_refl _ none) _).size) ?_; rintro v' w9 hown9 hgrow9 -; obtain ⟨g9, c9, rfl⟩ : ∃ g cap, v' = .slice (some ⟨g, 0, none⟩) 8 cap := own_form hown9 (by omega); have Y9 := (Y8.out.alloc (.cells #[] 3)).grown hgrow9 (by intro e; injection e with e; exact absurd (show b = w8.heap.size from e) (Nat.ne_of_lt zz)); have O9 : Hid (w9.ownsRow B 3 1 (.slice (some ⟨g9, 0, none⟩) 8 c9) 8 ((tl ++ [V]).map (Value.int .i64))) := Lib.hid hown9; have G9 := Lib.hid ((G8.out.then_new (only_alloc (only_refl w8 none) (.cells #[] 3)) (by intro g h; cases h)).then_new hgrow9 (by intro g h; injection h with h; subst h; exact G8.out.size)); have y4 : w9.cell? ⟨b, 4, none⟩ = some (.bool y.wt) := Y9.cell 4; have y28 : w9.cell? ⟨b, 28, none⟩ = some (.int .i64 y.r4) := Y9.cell 28; have y29 : w9.cell? ⟨b, 29, none⟩ = some ((.slice (some ⟨g5, 0, none⟩) 9 c5)) := Y9.cell 29; have y30 : w9.cell? ⟨b, 30, none⟩ = some (.int .i64 y.cnt) := Y9.cell 30; have y31 : w9.cell? ⟨b, 31, none⟩ = some (.int .i64 y.f1) := Y9.cell 31; have y32 : w9.cell? ⟨b, 32, none⟩ = some (.int .i64 y.f2) := Y9.cell 32; have y33 : w9.cell? ⟨b, 33, none⟩ = some (.int .i64 y.l1) := Y9.cell 33; have y34 : w9.cell? ⟨b, 34, none⟩ = some (.int .i64 y.l2) := Y9.cell 34; have g4 := Y9.frozen 4; have g29 := Y9.frozen 29; have g30 := Y9.frozen 30; have g31 := Y9.frozen 31; have g32 := Y9.frozen 32; have g33 := Y9.frozen 33; have g34 := Y9.frozen 34; have yz9 := Y9.lt; have E0 := Lib.hid (yend_x0 (Y9.set_ 29 (.slice (some ⟨g9, 0, none⟩) 8 c9)) y.r4 I c0.out); have Y9h := Lib.hid Y9; clear Y9 hown9 hgrow9)
          go_ret
          exact ⟨rfl, _, _, E0.out, O9.out.kept (only_trans (only_setCell (only_refl w9 (some b)) (p := ⟨b, 29, none⟩) (.inl rfl) (.slice (some ⟨g9, 0, none⟩) 8 c9)) (yend_own0 _ b _ _ _ _ _ _)) (Or.inr (own_ne O9.out Y9h.out (by decide)).symm), G9.out.then_b (only_trans (only_setCell (only_refl w9 (some b)) (p := ⟨b, 29, none⟩) (.inl rfl) (.slice (some ⟨g9, 0, none⟩) 8 c9)) (yend_own0 _ b _ _ _ _ _ _))⟩
        · have t1 : (y.cnt == 0) = false := by simp [c1]
          have c0 := Lib.hid c1
          clear c1
          go_wp2_with (at_builtin; refine wpList_append_own _ rfl _ _ 22 rfl B 3 i0 (.int .i64 0) 1 8 Try.underlying22 HI.out.1 HI.out.2.1 HI.out.2.2.1 HI.out.2.2.2 rfl (by decide) _ _ _ rfl (World.ownsRow_made w8 #[] 0 hB8.out (Nat.zero_le _) rfl) _ 8 _ ((tl ++ [V]).map (Value.int .i64)) rfl (by have := HL.out; simp; omega) (tail_news O8.out _) (by intro u hu; obtain ⟨x, _, rfl⟩ := List.mem_map.1 hu; rfl) (by unfold maxLen; omega) (by omega) (Nat.le_trans hB8.out (only_alloc (only_refl _ none) _).size) ?_; rintro v' w9 hown9 hgrow9 -; obtain ⟨g9, c9, rfl⟩ : ∃ g cap, v' = .slice (some ⟨g, 0, none⟩) 8 cap := own_form hown9 (by omega); have Y9 := (Y8.out.alloc (.cells #[] 3)).grown hgrow9 (by intro e; injection e with e; exact absurd (show b = w8.heap.size from e) (Nat.ne_of_lt zz)); have O9 : Hid (w9.ownsRow B 3 1 (.slice (some ⟨g9, 0, none⟩) 8 c9) 8 ((tl ++ [V]).map (Value.int .i64))) := Lib.hid hown9; have G9 := Lib.hid ((G8.out.then_new (only_alloc (only_refl w8 none) (.cells #[] 3)) (by intro g h; cases h)).then_new hgrow9 (by intro g h; injection h with h; subst h; exact G8.out.size)); have y4 : w9.cell? ⟨b, 4, none⟩ = some (.bool y.wt) := Y9.cell 4; have y28 : w9.cell? ⟨b, 28, none⟩ = some (.int .i64 y.r4) := Y9.cell 28; have y29 : w9.cell? ⟨b, 29, none⟩ = some ((.slice (some ⟨g5, 0, none⟩) 9 c5)) := Y9.cell 29; have y30 : w9.cell? ⟨b, 30, none⟩ = some (.int .i64 y.cnt) := Y9.cell 30; have y31 : w9.cell? ⟨b, 31, none⟩ = some (.int .i64 y.f1) := Y9.cell 31; have y32 : w9.cell? ⟨b, 32, none⟩ = some (.int .i64 y.f2) := Y9.cell 32; have y33 : w9.cell? ⟨b, 33, none⟩ = some (.int .i64 y.l1) := Y9.cell 33; have y34 : w9.cell? ⟨b, 34, none⟩ = some (.int .i64 y.l2) := Y9.cell 34; have g4 := Y9.frozen 4; have g29 := Y9.frozen 29; have g30 := Y9.frozen 30; have g31 := Y9.frozen 31; have g32 := Y9.frozen 32; have g33 := Y9.frozen 33; have g34 := Y9.frozen 34; have yz9 := Y9.lt; have E0 := Lib.hid (yend_x1 (Y9.set_ 29 (.slice (some ⟨g9, 0, none⟩) 8 c9)) y.r4 I c0.out); have Y9h := Lib.hid Y9; clear Y9 hown9 hgrow9)
          go_ret
          exact ⟨rfl, _, _, E0.out, O9.out.kept (only_trans (only_setCell (only_refl w9 (some b)) (p := ⟨b, 29, none⟩) (.inl rfl) (.slice (some ⟨g9, 0, none⟩) 8 c9)) (yend_own1 _ b _ _ _ _)) (Or.inr (own_ne O9.out Y9h.out (by decide)).symm), G9.out.then_b (only_trans (only_setCell (only_refl w9 (some b)) (p := ⟨b, 29, none⟩) (.inl rfl) (.slice (some ⟨g9, 0, none⟩) 8 c9)) (yend_own1 _ b _ _ _ _))⟩
      · go_simp
        refine hK.out _ _ (S4.out) (fun hHeld2 => ?_)
        clear hK K hHeld
        have hHeld := hHeld2
        clear hHeld2
        try simp only [Act.put, List.getElem_toArray, List.getElem_cons_zero, List.getElem_cons_succ, List.setIfInBounds_toArray, List.set_cons_zero, List.set_cons_succ]
        refine wpAnyH_ready (rs := [4]) (by kernel_rfl) (by simp) ?_
        refine AllReadyH.cons rfl (fun K hK => ?_) AllReadyH.nil
        go_simp
        refine hK.out _ _ (S4.out) (fun hHeld2 => ?_)
        clear hK K hHeld
        have hHeld := hHeld2
        clear hHeld2
        try simp only [Act.put, List.getElem_toArray, List.getElem_cons_zero, List.getElem_cons_succ, List.setIfInBounds_toArray, List.set_cons_zero, List.set_cons_succ]
        refine wpAnyH_ready (rs := [26]) (by kernel_rfl) (by simp) ?_
        refine AllReadyH.cons rfl (fun K hK => ?_) AllReadyH.nil
        refine step_append_own rfl _ _ 22 rfl B 3 i0 (.int .i64 0) 1 8 Try.underlying22 HI.out.1 HI.out.2.1 HI.out.2.2.1 HI.out.2.2.2 rfl (by decide) (.slice a 8 c) 8 ((d0 :: tl).map (Value.int .i64)) rfl (O3.out.drew.alloc _) _ 1 _ [.int .i64 V] rfl rfl (news_one w3.drew _ _) (by intro u hu; simp at hu; subst hu; rfl) (by unfold maxLen; omega) (by omega) (Nat.le_trans hB3.out (only_alloc (only_refl _ none) _).size) ?_
        rintro v' w5 hown5 hgrow5 -
        obtain ⟨g5, c5, rfl⟩ : ∃ g cap, v' = .slice (some ⟨g, 0, none⟩) 9 cap := own_form hown5 (by omega)
        have Y5 := ((Y3.out.drew).alloc (.cells #[.int .i64 V] 3)).grown hgrow5 hne0.out
        have z29 : w5.cell? ⟨b, 29, none⟩ = some (.slice a 8 c) := Y5.cell 29
        have zf29 := Y5.frozen 29
        have zz := Y5.lt
        have S5 : Hid (w5.cell? ⟨b, 26, none⟩ = some (.int .i64 y.r1) ∧ w5.cell? ⟨b, 27, none⟩ = some (.int .i64 y.r2) ∧ w5.cell? ⟨b, 28, none⟩ = some (.int .i64 y.r4)) := Lib.hid ⟨Y5.cell 26, Y5.cell 27, Y5.cell 28⟩
        have Y6 := Y5.set_ 29 (.slice (some ⟨g5, 0, none⟩) 9 c5)
        have S6 : Hid ((w5.setCell ⟨b, 29, none⟩ (.slice (some ⟨g5, 0, none⟩) 9 c5)).cell? ⟨b, 26, none⟩ = some (.int .i64 y.r1) ∧ (w5.setCell ⟨b, 29, none⟩ (.slice (some ⟨g5, 0, none⟩) 9 c5)).cell? ⟨b, 27, none⟩ = some (.int .i64 y.r2) ∧ (w5.setCell ⟨b, 29, none⟩ (.slice (some ⟨g5, 0, none⟩) 9 c5)).cell? ⟨b, 28, none⟩ = some (.int .i64 y.r4)) := Lib.hid ⟨Y6.cell 26, Y6.cell 27, Y6.cell 28⟩
        have O6 := Lib.hid (hown5.kept (only_setCell (only_refl w5 (some b)) (p := ⟨b, 29, none⟩) (.inl rfl) (.slice (some ⟨g5, 0, none⟩) 9 c5)) (Or.inr (own_ne hown5 Y5 (by decide)).symm))
        have G6 : Hid (Gr2 w (w5.setCell ⟨b, 29, none⟩ (.slice (some ⟨g5, 0, none⟩) 9 c5)) b (Value.slice a 8 c).ownBlock) := Lib.hid (((Gr2.of_below ((H3.out.drew).alloc H3.out.size _)).then_own hgrow5).then_b (only_setCell (only_refl w5 (some b)) (p := ⟨b, 29, none⟩) (.inl rfl) _))
        have Y6h : Hid (Blk (w5.setCell ⟨b, 29, none⟩ (.slice (some ⟨g5, 0, none⟩) 9 c5)) b 74 (yA y (.slice (some ⟨g5, 0, none⟩) 9 c5))) := Lib.hid Y6
        clear Y5 Y6 hown5 hgrow5
        refine hK.out _ _ (S5.out) (fun hHeld2 => ?_)
        clear hK K hHeld
        have hHeld := hHeld2
        clear hHeld2
        try simp only [Act.put, List.getElem_toArray, List.getElem_cons_zero, List.getElem_cons_succ, List.setIfInBounds_toArray, List.set_cons_zero, List.set_cons_succ]
        refine wpAnyH_take (i := 27) (oi := _) (v := ?_) rfl (by kernel_rfl) (by kernel_rfl) (by kernel_rfl) (fun _ _ _ h => h) (Or.inl ⟨by rfl, ?_⟩) (by assumption) ?_
        rotate_left
        focus (intro w hSw; (try dsimp only at hSw); go_simp; try with_reducible rfl)
        try simp only [Act.put, List.getElem_toArray, List.getElem_cons_zero, List.getElem_cons_succ, List.setIfInBounds_toArray, List.set_cons_zero, List.set_cons_succ]
        refine wpAnyH_take (i := 28) (oi := _) (v := ?_) rfl (by kernel_rfl) (by kernel_rfl) (by kernel_rfl) (fun _ _ _ h => h) (Or.inl ⟨by rfl, ?_⟩) (by assumption) ?_
        rotate_left
        focus (intro w hSw; (try dsimp only at hSw); go_simp; try with_reducible rfl)
        try simp only [Act.put, List.getElem_toArray, List.getElem_cons_zero, List.getElem_cons_succ, List.setIfInBounds_toArray, List.set_cons_zero, List.set_cons_succ]
        refine wpAnyH_ready (rs := [29]) (by kernel_rfl) (by simp) ?_
        refine AllReadyH.cons rfl (fun K hK => ?_) AllReadyH.nil
        go_simp
        refine hK.out _ _ (S6.out) (fun hHeld2 => ?_)
        clear hK K hHeld
        have hHeld := hHeld2
        clear hHeld2
        try simp only [Act.put, List.getElem_toArray, List.getElem_cons_zero, List.getElem_cons_succ, List.setIfInBounds_toArray, List.set_cons_zero, List.set_cons_succ]
        refine wpAnyH_done (by kernel_rfl) ?_ _
        clear S4 S5 S6 hHeld z29 zf29 zz y26 y27 y28 y29 f29 yz Y3 H3 O3
        generalize (w5.setCell ⟨b, 29, none⟩ (.slice (some ⟨g5, 0, none⟩) 9 c5)) = w8 at O6 G6 Y6h ⊢
        have el : ((d0 :: tl).map (Value.int .i64) ++ [.int .i64 V]) = .int .i64 d0 :: (tl ++ [V]).map (Value.int .i64) := by simp
        have O8 : Hid (w8.ownsRow B 3 1 (.slice (some ⟨g5, 0, none⟩) 9 c5) 9 (.int .i64 d0 :: (tl ++ [V]).map (Value.int .i64))) := Lib.hid (by rw [← el]; exact O6.out)
        have G8 := G6
        have Y8 := Y6h
        have hB8 : Hid (B ≤ w8.heap.size) := Lib.hid (Nat.le_trans hB0.out G6.out.size)
        clear O6 G6 Y6h el
        have hc5 : 9 ≤ c5 := own_cap O8.out
        have z29 : w8.cell? ⟨b, 29, none⟩ = some (.slice (some ⟨g5, 0, none⟩) 9 c5) := Y8.out.cell 29
        have zf29 := Y8.out.frozen 29
        have zz := Y8.out.lt
        by_cases c1 : y.cnt = 0
        · have t1 : (y.cnt == 0) = true := by simp [c1]
          have c0 := Lib.hid c1
          clear c1
          go_wp2_with (at_builtin; refine wpList_append_own _ rfl _ _ 22 rfl B 3 i0 (.int .i64 0) 1 8 Try.underlying22 HI.out.1 HI.out.2.1 HI.out.2.2.1 HI.out.2.2.2 rfl (by decide) _ _ _ rfl (World.ownsRow_made w8 #[] 0 hB8.out (Nat.zero_le _) rfl) _ 8 _ ((tl ++ [V]).map (Value.int .i64)) rfl (by have := HL.out; simp; omega) (tail_news O8.out _) (by intro u hu; obtain ⟨x, _, rfl⟩ := List.mem_map.1 hu; rfl) (by unfold maxLen; omega) (by omega) (Nat.le_trans hB8.out (only_alloc (only_refl _ none) _).size) ?_; rintro v' w9 hown9 hgrow9 -; obtain ⟨g9, c9, rfl⟩ : ∃ g cap, v' = .slice (some ⟨g, 0, none⟩) 8 cap := own_form hown9 (by omega); have Y9 := (Y8.out.alloc (.cells #[] 3)).grown hgrow9 (by intro e; injection e with e; exact absurd (show b = w8.heap.size from e) (Nat.ne_of_lt zz)); have O9 : Hid (w9.ownsRow B 3 1 (.slice (some ⟨g9, 0, none⟩) 8 c9) 8 ((tl ++ [V]).map (Value.int .i64))) := Lib.hid hown9; have G9 := Lib.hid ((G8.out.then_new (only_alloc (only_refl w8 none) (.cells #[] 3)) (by intro g h; cases h)).then_new hgrow9 (by intro g h; injection h with h; subst h; exact G8.out.size)); have y4 : w9.cell? ⟨b, 4, none⟩ = some (.bool y.wt) := Y9.cell 4; have y28 : w9.cell? ⟨b, 28, none⟩ = some (.int .i64 y.r4) := Y9.cell 28; have y29 : w9.cell? ⟨b, 29, none⟩ = some ((.slice (some ⟨g5, 0, none⟩) 9 c5)) := Y9.cell 29; have y30 : w9.cell? ⟨b, 30, none⟩ = some (.int .i64 y.cnt) := Y9.cell 30; have y31 : w9.cell? ⟨b, 31, none⟩ = some (.int .i64 y.f1) := Y9.cell 31; have y32 : w9.cell? ⟨b, 32, none⟩ = some (.int .i64 y.f2) := Y9.cell 32; have y33 : w9.cell? ⟨b, 33, none⟩ = some (.int .i64 y.l1) := Y9.cell 33; have y34 : w9.cell? ⟨b, 34, none⟩ = some (.int .i64 y.l2) := Y9.cell 34; have g4 := Y9.frozen 4; have g29 := Y9.frozen 29; have g30 := Y9.frozen 30; have g31 := Y9.frozen 31; have g32 := Y9.frozen 32; have g33 := Y9.frozen 33; have g34 := Y9.frozen 34; have yz9 := Y9.lt; have E0 := Lib.hid (yend_x0 (Y9.set_ 29 (.slice (some ⟨g9, 0, none⟩) 8 c9)) y.r4 I c0.out); have Y9h := Lib.hid Y9; clear Y9 hown9 hgrow9)
          go_ret
          exact ⟨rfl, _, _, E0.out, O9.out.kept (only_trans (only_setCell (only_refl w9 (some b)) (p := ⟨b, 29, none⟩) (.inl rfl) (.slice (some ⟨g9, 0, none⟩) 8 c9)) (yend_own0 _ b _ _ _ _ _ _)) (Or.inr (own_ne O9.out Y9h.out (by decide)).symm), G9.out.then_b (only_trans (only_setCell (only_refl w9 (some b)) (p := ⟨b, 29, none⟩) (.inl rfl) (.slice (some ⟨g9, 0, none⟩) 8 c9)) (yend_own0 _ b _ _ _ _ _ _))⟩
        · have t1 : (y.cnt == 0) = false := by simp [c1]
          have c0 := Lib.hid c1
          clear c1
          go_wp2_with (at_builtin; refine wpList_append_own _ rfl _ _ 22 rfl B 3 i0 (.int .i64 0) 1 8 Try.underlying22 HI.out.1 HI.out.2.1 HI.out.2.2.1 HI.out.2.2.2 rfl (by decide) _ _ _ rfl (World.ownsRow_made w8 #[] 0 hB8.out (Nat.zero_le _) rfl) _ 8 _ ((tl ++ [V]).map (Value.int .i64)) rfl (by have := HL.out; simp; omega) (tail_news O8.out _) (by intro u hu; obtain ⟨x, _, rfl⟩ := List.mem_map.1 hu; rfl) (by unfold maxLen; omega) (by omega) (Nat.le_trans hB8.out (only_alloc (only_refl _ none) _).size) ?_; rintro v' w9 hown9 hgrow9 -; obtain ⟨g9, c9, rfl⟩ : ∃ g cap, v' = .slice (some ⟨g, 0, none⟩) 8 cap := own_form hown9 (by omega); have Y9 := (Y8.out.alloc (.cells #[] 3)).grown hgrow9 (by intro e; injection e with e; exact absurd (show b = w8.heap.size from e) (Nat.ne_of_lt zz)); have O9 : Hid (w9.ownsRow B 3 1 (.slice (some ⟨g9, 0, none⟩) 8 c9) 8 ((tl ++ [V]).map (Value.int .i64))) := Lib.hid hown9; have G9 := Lib.hid ((G8.out.then_new (only_alloc (only_refl w8 none) (.cells #[] 3)) (by intro g h; cases h)).then_new hgrow9 (by intro g h; injection h with h; subst h; exact G8.out.size)); have y4 : w9.cell? ⟨b, 4, none⟩ = some (.bool y.wt) := Y9.cell 4; have y28 : w9.cell? ⟨b, 28, none⟩ = some (.int .i64 y.r4) := Y9.cell 28; have y29 : w9.cell? ⟨b, 29, none⟩ = some ((.slice (some ⟨g5, 0, none⟩) 9 c5)) := Y9.cell 29; have y30 : w9.cell? ⟨b, 30, none⟩ = some (.int .i64 y.cnt) := Y9.cell 30; have y31 : w9.cell? ⟨b, 31, none⟩ = some (.int .i64 y.f1) := Y9.cell 31; have y32 : w9.cell? ⟨b, 32, none⟩ = some (.int .i64 y.f2) := Y9.cell 32; have y33 : w9.cell? ⟨b, 33, none⟩ = some (.int .i64 y.l1) := Y9.cell 33; have y34 : w9.cell? ⟨b, 34, none⟩ = some (.int .i64 y.l2) := Y9.cell 34; have g4 := Y9.frozen 4; have g29 := Y9.frozen 29; have g30 := Y9.frozen 30; have g31 := Y9.frozen 31; have g32 := Y9.frozen 32; have g33 := Y9.frozen 33; have g34 := Y9.frozen 34; have yz9 := Y9.lt; have E0 := Lib.hid (yend_x1 (Y9.set_ 29 (.slice (some ⟨g9, 0, none⟩) 8 c9)) y.r4 I c0.out); have Y9h := Lib.hid Y9; clear Y9 hown9 hgrow9)
          go_ret
          exact ⟨rfl, _, _, E0.out, O9.out.kept (only_trans (only_setCell (only_refl w9 (some b)) (p := ⟨b, 29, none⟩) (.inl rfl) (.slice (some ⟨g9, 0, none⟩) 8 c9)) (yend_own1 _ b _ _ _ _)) (Or.inr (own_ne O9.out Y9h.out (by decide)).symm), G9.out.then_b (only_trans (only_setCell (only_refl w9 (some b)) (p := ⟨b, 29, none⟩) (.inl rfl) (.slice (some ⟨g9, 0, none⟩) 8 c9)) (yend_own1 _ b _ _ _ _))⟩
  all_goals done
end Go.Proofs.Ytmdfbcabpmadgaa
