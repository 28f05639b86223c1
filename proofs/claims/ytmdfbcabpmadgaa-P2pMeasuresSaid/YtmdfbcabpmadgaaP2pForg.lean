/- The walk of P2pForgets. -/
import Derived.Test.YtmdfbcabpmadgaaP2pLast
import Derived.Test.YtmdfbcabpmadgaaOpenK
namespace Go.Proofs.Ytmdfbcabpmadgaa
open Go.RowKit Go.Lib Go.Maps
theorem one_of {x x' : Pl.XS} {seq t1 t2 t3 t4 c : Int} (he : x.one seq t1 t2 t3 t4 c = x') (hok : Pl.XOk x) (hd : x.dom = 0) (hs : 0 ≤ seq ∧ seq ≤ 65535) (h1 : Pl.rdg t1 = true) (h2 : Pl.rdg t2 = true) (h3 : Pl.rdg t3 = true) (h4 : Pl.rdg t4 = true) (hp : -9223372036854775808 ≤ c ∧ c ≤ 9223372036854775807) (b : Nat) (w : World) (hx : Blk w b 65 (xA x)) :
    Calls Try.prog 24 #[.pointer (some ⟨b, 0, none⟩), .int .i64 seq, .int .i64 t1, .int .i64 t2, .int .i64 t3, .int .i64 t4, .int .i64 c] w fun e w' => e = .returned (.bool true) ∧ Blk w' b 65 (xA x') ∧ w.grownBy w' (some b) := by
  subst he
  exact one_any b x seq t1 t2 t3 t4 c w hx hok hd hs h1 h2 h3 h4 hp
theorem del_of {x : Pl.XS} {n : Int} (h1 : Pl.delN x = n) (h2 : Pl.delB x = true) (hok : Pl.XOk x) (b : Nat) (w : World) (hx : Blk w b 65 (xA x)) :
    Calls Try.prog 15 #[.pointer (some ⟨b, 0, none⟩)] w fun e w' => e = .returned (.tuple #[.int .i64 n, .bool true]) ∧ ∃ n, w' = w.drewN n := by
  have := pdel_any b x w hx hok
  rw [h1, h2] at this
  exact this
/-- the exchange that the law made -/
def Ex (w W : World) (x : Pl.XS) : Prop := Below w.heap.size w W ∧ Blk W w.heap.size 65 (xA x)
theorem Ex.turn {w W W' : World} {x x' : Pl.XS} (h : Ex w W x) (hb : Blk W' w.heap.size 65 (xA x')) (l : W.grownBy W' (some w.heap.size)) : Ex w W' x' := ⟨Below.only h.1 l (Nat.le_refl _) h.1.size, hb⟩
theorem Ex.drewN {w W : World} {x : Pl.XS} (h : Ex w W x) (n : Nat) : Ex w (W.drewN n) x := ⟨below_drewN h.1 n, h.2.drewN n⟩
set_option maxHeartbeats 4000000 in
set_option maxRecDepth 100000 in
theorem p2pForgets_yes (a : Option Addr) (len cap : Nat) (z : Nat → Int) (w : World) (hl : len ≤ 40) (hcap : len ≤ cap) (hc2 : cap ≤ 9223372036854775807) (hz : IntsK .u32 w a len z) :
    Calls Try.prog 8 #[.slice a len cap] w fun e w' => e = .returned (.bool true) ∧ Below w.heap.size w w' := by
  have hzb : ∀ i, i < len → 0 ≤ z i ∧ z i ≤ 4294967295 := fun i hi => by
    obtain ⟨x, _, _, _, h⟩ := hz i hi
    exact wfu32 h
  have NW := Lib.hid (fun W => pnew_yes 0 (by omega) (by omega) W)
  have HZ := Lib.hid hz
  have HB := Lib.hid hzb
  have tl : decide (40 < (len : Int)) = false := by simp; omega
  clear hz hzb
  go_enter Try.func8, Try.ntmps8
  go_wp2_with fail
  refine (NW.out _).mono ?_
  rintro _ w1 ⟨rfl, X1, l1⟩
  have E1 : Hid (Ex w w1 (Pl.fX z 0)) := Lib.hid ⟨l1, X1⟩
  clear X1 l1
  go_wp2_with fail
  go_loopw [4, 21] (fun t i wr => ∃ j : Nat, i = .int .i64 j ∧ t = .int .i64 (Pl.fT z j) ∧ j ≤ len ∧ Hid (Ex w wr (Pl.fX z j))) (fun _ i _ => len - (RowKit.intOf i).toNat)
  case atStart => exact ⟨0, rfl, rfl, by omega, E1⟩
  case round =>
    obtain ⟨j, rfl, rfl, hj, hE⟩ := hrel
    by_cases hlt : j < len
    · obtain ⟨bx, ox, rfl, hb0, hb1, c1⟩ := intsK_at HZ.out hE.out.1 hlt
      have hT := Pl.fT_in HB.out hl j (by omega)
      have hk := HB.out j hlt
      obtain ⟨r1, r2, r3⟩ := Pl.f_rdg HB.out hl hlt
      obtain ⟨a1, a2, a3⟩ := Pl.fX_all HB.out hl j (by omega)
      obtain ⟨b1, b2, b3⟩ := Pl.fX_all HB.out hl (j + 1) (by omega)
      obtain ⟨d1, d2⟩ := (Pl.fX_runs HB.out hl).del j hlt
      have O := Lib.hid (one_of (c := 0) (x' := Pl.fX z (j + 1)) rfl a1 a2 (seq := j) (by omega) r1 r2 r2 r3 (by omega))
      have D := Lib.hid (del_of d1 d2 b1)
      have hT2 : 0 ≤ Pl.fT z j ∧ Pl.fT z j ≤ 343597383640 := by omega
      have eT : Hid (Pl.fT z (j + 1) = Pl.fT z j + 2 * z j + 1) := Lib.hid rfl
      clear a1 a2 a3 b1 b2 b3 d1 d2 r1 r2 r3 hT
      obtain ⟨T, hTe⟩ : ∃ T, Pl.fT z j = T := ⟨_, rfl⟩
      obtain ⟨k, hke⟩ : ∃ k, z j = k := ⟨_, rfl⟩
      rw [hTe] at O eT hT2 ⊢
      rw [hke] at O eT hk c1
      have kw1 : IntKind.i64.wrap k = k := IntWalk.i64_in _ (by omega)
      have kw2 : IntKind.i64.wrap (T + k) = T + k := IntWalk.i64_in _ (by omega)
      have kw3 : IntKind.i64.wrap (2 * k) = 2 * k := IntWalk.i64_in _ (by omega)
      have kw4 : IntKind.i64.wrap (T + 2 * k) = T + 2 * k := IntWalk.i64_in _ (by omega)
      have t1 : decide ((j : Int) < (len : Int)) = true := by simp [hlt]
      have HE := Lib.hid hTe
      have HK := Lib.hid hke
      obtain ⟨F, hF⟩ : ∃ F : Nat, F = j - 7 := ⟨_, rfl⟩
      have hmx : max 0 ((j : Int) - 7) = (F : Int) := by omega
      have hFj : F ≤ j := by omega
      have hF8 : j + 1 - F ≤ 8 := by omega
      have hFM : j + 1 - F = min (j + 1) 8 := by omega
      rw [← hF] at D
      have hS : Hid (∀ m, m ≤ j + 1 - F → 0 ≤ Pl.sumN z (F + m) - Pl.sumN z F ∧ Pl.sumN z (F + m) - Pl.sumN z F ≤ m * 4294967295) := Lib.hid (fun m => by
        induction m with
        | zero => intro _; simp
        | succ m ih =>
          intro hm
          have := ih (by omega)
          have := HB.out (F + m) (by omega)
          have e : Pl.sumN z (F + (m + 1)) = Pl.sumN z (F + m) + z (F + m) := rfl
          rw [e]
          omega)
      obtain ⟨V, hV⟩ : ∃ V, (Pl.sumN z (j + 1) - Pl.sumN z F) / ((min (j + 1) 8 : Nat) : Int) = V := ⟨_, rfl⟩
      rw [hV] at D
      have kq : (Pl.sumN z (j + 1) - Pl.sumN z F).tdiv ((j : Int) + 1 - (F : Int)) = V := by
        have := hS.out (j + 1 - F) (Nat.le_refl _)
        rw [show F + (j + 1 - F) = j + 1 by omega] at this
        rw [Int.tdiv_eq_ediv_of_nonneg this.1, ← hV, ← hFM]
        congr 1
        omega
      replace kq := Lib.hid kq
      have hVb : 0 ≤ V ∧ V ≤ 34359738360 := by
        have := hS.out (j + 1 - F) (Nat.le_refl _)
        rw [show F + (j + 1 - F) = j + 1 by omega] at this
        rw [← hV, ← hFM]
        have a := Int.ediv_nonneg this.1 (show (0 : Int) ≤ ((j + 1 - F : Nat) : Int) by omega)
        have b := Int.ediv_le_self ((j + 1 - F : Nat) : Int) this.1
        omega
      have hZ2 : Hid (∀ m, m < j + 1 - F → ∀ wr, Below w.heap.size w wr → wr.cell? ⟨bx, ox + F + m, none⟩ = some (.int .u32 (z (F + m)))) := Lib.hid (fun m hm wr hb => by
        obtain ⟨bx', ox', he, _, _, hc⟩ := intsK_at HZ.out hb (show F + m < len by omega)
        injection he with he
        injection he with he1 he2
        subst he1 he2
        rw [Nat.add_assoc]
        exact hc)
      have kw5 : IntKind.i64.wrap ((j : Int) - 7) = (j : Int) - 7 := IntWalk.i64_in _ (by omega)
      have hjl : (j : Int) ≤ 40 := by omega
      have hFi : (F : Int) ≤ (j : Int) := by omega
      have hFi2 : (F : Int) ≤ (j : Int) + 1 := by omega
      have hFi3 : (j : Int) + 1 ≤ (cap : Int) := by omega
      have hnz : ((j : Int) + 1 - (F : Int) == 0) = false := by simp; omega
      have hsz : (j : Int) + 1 - (F : Int) = ((j + 1 - F : Nat) : Int) := by omega
      replace hFM := Lib.hid hFM
      replace hV := Lib.hid hV
      replace hF := Lib.hid hF
      replace hsz := Lib.hid hsz
      clear hTe hke
      go_wp2_with fail
      refine (O.out _ _ hE.out.2).mono ?_
      rintro _ w2 ⟨rfl, X2, l2⟩
      have E2 := Lib.hid (hE.out.turn X2 l2)
      have hb2 : bx < w2.heap.size := Nat.lt_of_lt_of_le hb0 E2.out.1.size
      clear X2 l2 c1
      go_wp2_with fail
      go_loop [9, 57] (fun s i => ∃ m : Nat, i = .int .i64 m ∧ s = .int .i64 (Pl.sumN z (F + m) - Pl.sumN z F) ∧ m ≤ j + 1 - F) (fun _ i => (j + 1 - F) - (RowKit.intOf i).toNat)
      case atStart => exact ⟨0, rfl, by simp, by omega⟩
      case round =>
        obtain ⟨m, rfl, rfl, hm⟩ := hrel
        by_cases hlt2 : m < j + 1 - F
        · have c2 := hZ2.out m hlt2 w2 E2.out.1
          have hk2 := HB.out (F + m) (by omega)
          have s0 := hS.out m hm
          obtain ⟨k2, hk2e⟩ : ∃ k, z (F + m) = k := ⟨_, rfl⟩
          have es : Hid (Pl.sumN z (F + (m + 1)) - Pl.sumN z F = Pl.sumN z (F + m) - Pl.sumN z F + k2) := Lib.hid (by
            have e : Pl.sumN z (F + (m + 1)) = Pl.sumN z (F + m) + z (F + m) := rfl
            rw [e, hk2e]
            omega)
          rw [hk2e] at hk2 c2
          obtain ⟨S, hSe⟩ : ∃ S, Pl.sumN z (F + m) - Pl.sumN z F = S := ⟨_, rfl⟩
          rw [hSe] at es s0 ⊢
          have kx1 : IntKind.i64.wrap k2 = k2 := IntWalk.i64_in _ (by omega)
          have kx2 : IntKind.i64.wrap (S + k2) = S + k2 := IntWalk.i64_in _ (by omega)
          have u1 : decide ((m : Int) < ((j + 1 - F : Nat) : Int)) = true := by simp; omega
          clear hk2e hSe
          go_wp2_with fail
          go_round
          case rel => exact ⟨m + 1, by go_num, by rw [es.out], by omega⟩
          case measure => simp [RowKit.intOf]; omega
        · have hmM : m = j + 1 - F := by omega
          subst hmM
          rw [show F + (j + 1 - F) = j + 1 by omega]
          have kq := kq.out
          obtain ⟨S, hSe⟩ : ∃ S, Pl.sumN z (j + 1) - Pl.sumN z F = S := ⟨_, rfl⟩
          rw [hSe] at kq ⊢
          have u1 : decide (((j + 1 - F : Nat) : Int) < ((j + 1 - F : Nat) : Int)) = false := by simp
          clear hSe
          go_wp2_with fail
          refine (D.out _ _ E2.out.2).mono ?_
          rintro _ w3 ⟨rfl, n3, rfl⟩
          have E3 := Lib.hid (E2.out.drewN n3)
          go_wp2_with fail
          exact ⟨⟨j + 1, by go_num, by rw [eT.out]; go_num, by omega, E3⟩, by simp [RowKit.intOf]; omega⟩
    · obtain rfl : j = len := by omega
      have t1 : decide ((j : Int) < (j : Int)) = false := by simp
      go_wp2_with fail
      refine (pawake_any _).mono ?_
      rintro _ w9 ⟨rfl, l9⟩
      go_wp2
      go_ret
      exact ⟨rfl, bel_on hE.out.1 l9⟩
theorem p2pForgets_walk (a : Option Addr) (len cap : Nat) (z : Nat → Int) (w : World) (h : len ≤ cap ∧ cap ≤ maxLen ∧ IntsK .u32 w a len z) :
    Calls Try.prog 8 #[.slice a len cap] w fun e w' => e = .returned (.bool true) ∧ Below w.heap.size w w' := by
  have hcap : cap ≤ 9223372036854775807 := by simpa [maxLen] using h.2.1
  by_cases hl : len ≤ 40
  · exact p2pForgets_yes a len cap z w hl h.1 hcap h.2.2
  · have tl : decide (40 < (len : Int)) = true := by simp; omega
    clear h
    go_enter Try.func8, Try.ntmps8
    go_wp2_with fail
    refine (pawake_any _).mono ?_
    rintro _ w9 ⟨rfl, l9⟩
    go_wp2
    go_ret
    exact ⟨rfl, l9⟩
end Go.Proofs.Ytmdfbcabpmadgaa
