/- Plain law of layer 39: the exchange and the reference's one go side by side. -/
import Derived.Test.YtmdfbcabpmadgaaP2pR8
import Derived.Test.YtmdfbcabpmadgaaP2pLast
namespace Go.Proofs.Ytmdfbcabpmadgaa
namespace Pl
/-- the delays that an exchange keeps, the oldest first -/
def dsOf (f : Nat → Int) (c n : Nat) : List Int := (List.range n).map (fun i => f ((c - n + i) % 8))
theorem dsOf_len (f : Nat → Int) (c n : Nat) : (dsOf f c n).length = n := by simp [dsOf]
theorem dsOf_at (f : Nat → Int) (c n i : Nat) (h : i < n) : (dsOf f c n)[i]? = some (f ((c - n + i) % 8)) := by
  simp [dsOf, h]
theorem dsOf_mem {f : Nat → Int} {c n : Nat} {M : Int} (h : ∀ i, 0 ≤ f i ∧ f i ≤ M) : ∀ x ∈ dsOf f c n, 0 ≤ x ∧ x ≤ M := by
  intro x hx
  obtain ⟨i, _, rfl⟩ := List.mem_map.1 hx
  exact h _
theorem newD_of (f : Nat → Int) (c : Nat) (v : Int) : newD (dsOf f c (min c 8)) v = dsOf (fun i => if i = c % 8 then v else f i) (c + 1) (min (c + 1) 8) := by
  unfold newD
  rw [dsOf_len]
  by_cases h : c < 8
  · rw [if_pos (by omega)]
    have e1 : min c 8 = c := by omega
    have e2 : min (c + 1) 8 = c + 1 := by omega
    rw [e1, e2]
    apply List.ext_getElem?
    intro i
    by_cases hi : i < c
    · rw [List.getElem?_append_left (by rw [dsOf_len]; exact hi), dsOf_at _ _ _ _ hi, dsOf_at _ _ _ _ (by omega)]
      have a1 : (c - c + i) % 8 = i := by omega
      have a2 : (c + 1 - (c + 1) + i) % 8 = i := by omega
      rw [a1, a2, if_neg (by omega)]
    · by_cases hi2 : i = c
      · subst hi2
        rw [List.getElem?_append_right (by rw [dsOf_len]; omega), dsOf_len, dsOf_at _ _ _ _ (by omega)]
        rw [if_pos (by omega)]
        simp
      · rw [List.getElem?_eq_none (by simp [dsOf_len]; omega), List.getElem?_eq_none (by rw [dsOf_len]; omega)]
  · rw [if_neg (by omega)]
    have e1 : min c 8 = 8 := by omega
    have e2 : min (c + 1) 8 = 8 := by omega
    rw [e1, e2]
    apply List.ext_getElem?
    intro i
    have hl : (dsOf f c 8).tail.length = 7 := by rw [List.length_tail, dsOf_len]
    by_cases hi : i < 7
    · rw [List.getElem?_append_left (by omega), List.getElem?_tail, dsOf_at _ _ _ _ (by omega), dsOf_at _ _ _ _ (by omega)]
      rw [if_neg (by omega)]
      have a1 : (c - 8 + (i + 1)) % 8 = (c + 1 - 8 + i) % 8 := by omega
      rw [a1]
    · by_cases hi2 : i = 7
      · subst hi2
        rw [List.getElem?_append_right (by omega), hl, dsOf_at _ _ _ _ (by omega)]
        rw [if_pos (by omega)]
        simp
      · rw [List.getElem?_eq_none (by rw [List.length_append, hl]; simp; omega), List.getElem?_eq_none (by rw [dsOf_len]; omega)]
theorem sumL_range (f : Nat → Int) : ∀ n, sumL ((List.range n).map f) = sumN f n
  | 0 => rfl
  | n + 1 => by
    rw [List.range_succ, List.map_append, sumL_app, sumL_range f n]
    simp [sumL, sumN]
theorem dsOf_sum (f : Nat → Int) (c : Nat) : sumL (dsOf f c (min c 8)) = sumN f (min c 8) := by
  unfold dsOf
  rw [sumL_range]
  by_cases h : c < 8
  · have e1 : min c 8 = c := by omega
    rw [e1]
    exact sumN_congr (fun i hi => by rw [show (c - c + i) % 8 = i by omega])
  · have e1 : min c 8 = 8 := by omega
    rw [e1]
    have hr : c % 8 = 0 ∨ c % 8 = 1 ∨ c % 8 = 2 ∨ c % 8 = 3 ∨ c % 8 = 4 ∨ c % 8 = 5 ∨ c % 8 = 6 ∨ c % 8 = 7 := by omega
    have e : ∀ r, c % 8 = r → sumN (fun i => f ((c - 8 + i) % 8)) 8 = sumN (fun i => f ((r + i) % 8)) 8 := fun r hr => sumN_congr (fun i hi => by
      show f _ = f _
      rw [show (c - 8 + i) % 8 = (r + i) % 8 by omega])
    rcases hr with h | h | h | h | h | h | h | h <;> (rw [e _ h]; simp [sumN]; try omega)
/-- both exchanges go side by side -/
structure Sim (y : YS) (x : XS) (ds : List Int) : Prop where
  dom : y.dom = x.dom
  pend : y.pend = x.pend
  seq : y.seq = x.seq
  t1 : y.t1 = x.t1
  wt : y.wt = x.wt
  ans : y.wt = true → y.rs.ck = x.ac ∧ y.rs.po = x.ap ∧ y.rs.sq = x.asq ∧ y.rs.co = x.aco ∧ y.r1 = x.a1 ∧ y.r2 = x.a2 ∧ y.r4 = x.a4
  cnt : y.cnt = x.cnt
  f1 : y.f1 = x.f1
  f2 : y.f2 = x.f2
  l1 : y.l1 = x.l1
  l2 : y.l2 = x.l2
  ds : ds = dsOf x.dl x.cnt.toNat (min x.cnt.toNat 8)
  xok : XOk x
  yok : YOk y
section
variable {y : YS} {x : XS} {ds : List Int}
theorem sim_new (d : Int) : Sim (ys0 d) (xs0 d) [] :=
  ⟨rfl, rfl, rfl, rfl, rfl, fun h => (by cases h), rfl, rfl, rfl, rfl, rfl, rfl, xs0_ok d, by constructor <;> simp [ys0, rz0]⟩
theorem Sim.yok2 (h : Sim y x ds) : YOk2 y := ⟨h.f1 ▸ h.xok.f1, h.f2 ▸ h.xok.f2, h.l1 ▸ h.xok.l1, h.l2 ▸ h.xok.l2⟩
theorem Sim.len (h : Sim y x ds) : ds.length = min x.cnt.toNat 8 := by rw [h.ds, dsOf_len]
theorem Sim.mem (h : Sim y x ds) : ∀ d ∈ ds, 0 ≤ d ∧ d ≤ 18014398509481984 := by
  rw [h.ds]
  exact dsOf_mem h.xok.dl
theorem Sim.del (h : Sim y x ds) : delNY ds = delN x ∧ delBY ds = delB x := by
  have hl := h.len
  have hc := h.xok.cnt
  constructor
  · unfold delNY delN
    by_cases c : x.cnt = 0
    · rw [if_pos c, if_pos (by rw [hl, c]; rfl)]
    · have e : min x.cnt.toNat 8 = nD x := by unfold nD; omega
      rw [if_neg c, if_neg (by omega), hl, h.ds, dsOf_sum, e]
  · unfold delBY delB
    rw [hl]
    by_cases c : x.cnt = 0
    · rw [c]; rfl
    · have c1 : (x.cnt == 0) = false := by simp [c]
      have c2 : (min x.cnt.toNat 8 == 0) = false := by simp; omega
      rw [c1, c2]
theorem Sim.rat (h : Sim y x ds) : ratNY y = ratN x ∧ ratBY y = ratB x := by
  have e : ratBY y = ratB x := by unfold ratBY ratB; rw [h.cnt, h.l2, h.f2]
  refine ⟨?_, e⟩
  unfold ratNY ratN ratM
  rw [e, h.l1, h.l2, h.f1, h.f2]
theorem Sim.req (h : Sim y x ds) (s t : Int) : Sim (reqY y s t) (reqX x s t) ds := by
  unfold reqY reqX
  by_cases c : reqE s t = 0
  · rw [if_pos c, if_pos c]
    have hr : rdg t = true := by
      cases q : rdg t with
      | true => rfl
      | false =>
        unfold reqE at c
        rw [q, Bool.and_false, if_neg (by simp)] at c
        cases c
    exact ⟨h.dom, rfl, rfl, rfl, h.wt, h.ans, h.cnt, h.f1, h.f2, h.l1, h.l2, h.ds, h.xok.req hr, ⟨h.yok.co, h.yok.r1, h.yok.r2, h.yok.r4, h.yok.cnt⟩⟩
  · rw [if_neg c, if_neg c]
    exact h
theorem Sim.respE (h : Sim y x ds) (p : PM) (t4 ck po : Int) : respEY y p t4 ck po = respE x p t4 ck po := by
  unfold respEY Pl.respE mineRY mineR
  rw [h.dom, h.pend, h.seq]
theorem Sim.resp (h : Sim y x ds) (p : PM) (t4 ck po : Int) (hp : -9223372036854775808 ≤ p.co ∧ p.co ≤ 9223372036854775807) : Sim (respY y p t4 ck po) (respX x p t4 ck po) ds := by
  unfold respY respX
  rw [h.respE]
  by_cases c : Pl.respE x p t4 ck po = 0
  · rw [if_pos c, if_pos c]
    have hr : rdg t4 = true := by
      cases q : rdg t4 with
      | true => rfl
      | false =>
        unfold Pl.respE at c
        rw [q, Bool.and_false] at c
        split at c
        · split at c
          · rw [if_neg (by simp)] at c
            cases c
          · cases c
        · rename_i h1
          exact absurd c h1
    have h4 := rdg_iff.1 hr
    refine ⟨h.dom, rfl, h.seq, h.t1, rfl, fun _ => ⟨rfl, rfl, rfl, rfl, h.t1, rfl, rfl⟩, h.cnt, h.f1, h.f2, h.l1, h.l2, h.ds, h.xok.resp hp hr, ⟨hp, ?_, insN_in, h4, h.yok.cnt⟩⟩
    show -4503599627370496 ≤ y.t1 ∧ y.t1 ≤ 4503599627370496
    rw [h.t1]
    exact h.xok.t1
  · rw [if_neg c, if_neg c]
    exact h
theorem Sim.mineF (h : Sim y x ds) (p : PM) (ck po : Int) : mineFY y p ck po = mineF x p ck po := by
  unfold mineFY Pl.mineF
  rw [← h.wt]
  cases q : y.wt with
  | false => rfl
  | true =>
    obtain ⟨a1, a2, a3, _⟩ := h.ans q
    rw [a1, a2, a3]
theorem Sim.folE (h : Sim y x ds) (p : PM) (ck po : Int) : folEY y p ck po = folE x p ck po := by
  unfold folEY Pl.folE
  rw [h.dom, h.mineF]
theorem Sim.fol (h : Sim y x ds) (p : PM) (ck po : Int) (hc : x.cnt < 1000000000000) : Sim (folY y p ck po) (folX x p ck po) (folD y p ck po ds) := by
  unfold folY folX folD
  rw [h.folE]
  by_cases c : Pl.folE x p ck po = 0
  · rw [if_pos c, if_pos c, if_pos c]
    have hw : y.wt = true := by
      have hm : Pl.mineF x p ck po = true := by
        cases q : Pl.mineF x p ck po with
        | true => rfl
        | false =>
          unfold Pl.folE at c
          rw [q] at c
          split at c
          · rw [if_neg (by simp)] at c
            cases c
          · rename_i h1
            exact absurd c h1
      rw [← h.mineF] at hm
      unfold mineFY at hm
      simp only [Bool.and_eq_true] at hm
      exact hm.1.1.1.1.1
    obtain ⟨a1, a2, a3, a4, a5, a6, a7⟩ := h.ans hw
    have hh : halfY y p = halfN x p := by unfold halfY halfN; rw [a4, a5, a6, a7]
    have hi := insN_in (p := p)
    have hx := h.xok.cnt
    refine ⟨h.dom, h.pend, h.seq, h.t1, rfl, fun q => (by cases q), ?_, ?_, ?_, rfl, a7, ?_, h.xok.fol hc, ⟨h.yok.co, h.yok.r1, h.yok.r2, h.yok.r4, ?_⟩⟩
    · show y.cnt + 1 = x.cnt + 1
      rw [h.cnt]
    · show (if y.cnt = 0 then insN p else y.f1) = (if x.cnt = 0 then insN p else x.f1)
      rw [h.cnt, h.f1]
    · show (if y.cnt = 0 then y.r4 else y.f2) = (if x.cnt = 0 then x.a4 else x.f2)
      rw [h.cnt, h.f2, a7]
    · show newD ds (max 0 (halfY y p)) = dsOf (fun i => if i = slot x then max 0 (halfN x p) else x.dl i) (x.cnt + 1).toNat (min (x.cnt + 1).toNat 8)
      have e1 : (x.cnt + 1).toNat = x.cnt.toNat + 1 := by omega
      have e2 : slot x = x.cnt.toNat % 8 := by unfold slot; omega
      rw [hh, e1, e2, ← newD_of, ← h.ds]
    · show 0 ≤ y.cnt + 1 ∧ y.cnt + 1 ≤ 1000000000000
      rw [h.cnt]
      omega
  · rw [if_neg c, if_neg c, if_neg c]
    exact h
theorem reqX_cnt (s t : Int) : (reqX x s t).cnt = x.cnt := by unfold reqX; split <;> rfl
theorem respX_cnt (p : PM) (t4 ck po : Int) : (respX x p t4 ck po).cnt = x.cnt := by unfold respX; split <;> rfl
theorem folX_cnt (p : PM) (ck po : Int) : (folX x p ck po).cnt = x.cnt ∨ (folX x p ck po).cnt = x.cnt + 1 := by
  unfold folX
  split
  · exact Or.inr rfl
  · exact Or.inl rfl
end
end Pl
end Go.Proofs.Ytmdfbcabpmadgaa
