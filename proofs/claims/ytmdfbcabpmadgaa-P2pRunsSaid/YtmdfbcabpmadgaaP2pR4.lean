/- The reference's Follow: its laws of memory, its results. -/
import Derived.Test.YtmdfbcabpmadgaaP2pR3
import Derived.Lib.SmallJoins
import Derived.OwnWalk
import Derived.Deep.RegionHeld3
namespace Go.Proofs.Ytmdfbcabpmadgaa
namespace Pl
def mineFY (y : YS) (p : PM) (ck po : Int) : Bool := y.wt && (p.sq == y.rs.sq) && (p.ck == y.rs.ck) && (p.po == y.rs.po) && (p.rc == ck) && (p.rp == po)
def folEY (y : YS) (p : PM) (ck po : Int) : Int := if comE p 10 y.dom = 0 then (if mineFY y p ck po = true then (if insB p = true then 0 else 3) else 11) else comE p 10 y.dom
def halfY (y : YS) (p : PM) : Int := ((y.r4 - y.r1) - (insN p - y.r2) - sat y.rs.co p.co / 65536) / 2
def YS.end_ (y : YS) (t4 t3 : Int) : YS := ⟨y.dom, y.pend, y.seq, y.t1, false, y.rs, y.r1, y.r2, y.r4, (y.cnt + 1), (if y.cnt = 0 then t3 else y.f1), (if y.cnt = 0 then t4 else y.f2), t3, t4⟩
def YS.fol (y : YS) (p : PM) : YS := y.end_ y.r4 (insN p)
def folY (y : YS) (p : PM) (ck po : Int) : YS := if folEY y p ck po = 0 then y.fol p else y
def newD (ds : List Int) (v : Int) : List Int := if ds.length < 8 then ds ++ [v] else ds.tail ++ [v]
def folD (y : YS) (p : PM) (ck po : Int) (ds : List Int) : List Int := if folEY y p ck po = 0 then newD ds (max 0 (halfY y p)) else ds
structure YOk (y : YS) : Prop where
  co : -9223372036854775808 ≤ y.rs.co ∧ y.rs.co ≤ 9223372036854775807
  r1 : -4503599627370496 ≤ y.r1 ∧ y.r1 ≤ 4503599627370496
  r2 : -4503599627370496 ≤ y.r2 ∧ y.r2 ≤ 4503599627370496
  r4 : -4503599627370496 ≤ y.r4 ∧ y.r4 ≤ 4503599627370496
  cnt : 0 ≤ y.cnt ∧ y.cnt ≤ 1000000000000
end Pl
open Go.RowKit Go.Lib Go.Maps
abbrev zA2 : Array Value := #[.int .i64 0, .int .i64 0, .int .i64 0, .int .i64 0, .int .u64 0, .int .i64 0, .int .i64 0, .int .i64 0, .int .i64 0, .int .i64 0, .int .u64 0, .int .i64 0, .int .i64 0, .int .i64 0, .int .i64 0, .int .i64 0, .int .i64 0, .int .i64 0, .int .u64 0, .int .i64 0, .int .i64 0]
/-- of what was there only the block b and one more have turned -/
structure Gr2 (w w' : World) (b : Nat) (o : Option Nat) : Prop where
  os : w'.os = w.os
  tape : w'.tape = w.tape
  output : w'.output = w.output
  size : w.heap.size ≤ w'.heap.size
  block : ∀ k, k < w.heap.size → k ≠ b → some k ≠ o → w'.heap[k]? = w.heap[k]?
theorem Gr2.of_below {w w' : World} {b : Nat} {o : Option Nat} (h : Below w.heap.size w w') : Gr2 w w' b o := ⟨h.os, h.tape, h.output, h.size, fun k hk _ _ => h.block k hk⟩
theorem Gr2.of_only {w w' : World} {b : Nat} {o : Option Nat} (h : w.grownBy w' (some b)) : Gr2 w w' b o := ⟨h.os, h.tape, h.output, h.size, fun k hk hb _ => h.block k hk (fun e => hb (by injection e))⟩
theorem Gr2.then_own {w w1 w2 : World} {b : Nat} {o : Option Nat} (h : Gr2 w w1 b o) (k : w1.grownBy w2 o) : Gr2 w w2 b o :=
  ⟨k.os.trans h.os, k.tape.trans h.tape, k.output.trans h.output, Nat.le_trans h.size k.size, fun i hi hb ho => (k.block i (Nat.lt_of_lt_of_le hi h.size) ho).trans (h.block i hi hb ho)⟩
theorem Gr2.then_b {w w1 w2 : World} {b : Nat} {o : Option Nat} (h : Gr2 w w1 b o) (k : w1.grownBy w2 (some b)) : Gr2 w w2 b o :=
  ⟨k.os.trans h.os, k.tape.trans h.tape, k.output.trans h.output, Nat.le_trans h.size k.size, fun i hi hb ho => (k.block i (Nat.lt_of_lt_of_le hi h.size) (fun e => hb (by injection e))).trans (h.block i hi hb ho)⟩
theorem Gr2.then_new {w w1 w2 : World} {b : Nat} {o o' : Option Nat} (h : Gr2 w w1 b o) (k : w1.grownBy w2 o') (hn : ∀ g, o' = some g → w.heap.size ≤ g) : Gr2 w w2 b o :=
  ⟨k.os.trans h.os, k.tape.trans h.tape, k.output.trans h.output, Nat.le_trans h.size k.size, fun i hi hb ho => (k.block i (Nat.lt_of_lt_of_le hi h.size) (fun e => by have := hn i e.symm; omega)).trans (h.block i hi hb ho)⟩
theorem Blk.gr2 {w w' : World} {b g : Nat} {o : Option Nat} {t : TypeId} {cs : Array Value} (h : Blk w g t cs) (l : Gr2 w w' b o) (h1 : g ≠ b) (h2 : some g ≠ o) : Blk w' g t cs := (l.block g h.lt h1 h2).trans h
theorem own_ne {w : World} {B size n b : Nat} {e t : TypeId} {v : Value} {xs : List Value} {cs : Array Value} (h : w.ownsRow B e size v n xs) (hb : Blk w b t cs) (hne : t ≠ e) : some b ≠ v.ownBlock := by
  intro q
  rcases h.2 with ⟨rfl, _⟩ | ⟨g, cap, cur, rfl, _, hg, _⟩
  · cases q
  · injection q with q
    subst q
    exact hb.ne_ (g' := b) hg hne rfl
theorem news_one (w : World) (t : TypeId) (v : Value) : ∀ j u, [v][j]? = some u → (w.alloc (.cells #[v] t)).cell? ((⟨w.heap.size, 0, none⟩ : Addr).add j) = some u := by
  intro j u hj
  rw [Addr.add_mid]
  cases j with
  | zero =>
    injection hj with hj
    subst hj
    exact (Blk.new w t #[v]).cell 0
  | succ j => cases hj
theorem int_info : ∃ i : TypeInfo, Try.prog.info? 3 = some i ∧ i.zero = some (.int .i64 0) ∧ i.size = 1 ∧ i.bytes = 8 := info_parts (by kernel_rfl)
theorem step_append_own {P : Program} {ops : Array Oper} {o : Oper} {a : Act} {w : World} {K : Act → World → Prop} {Q : Exit → Act → World → Prop} {E : Prop} (hg : o.guard = none) (s x : Operand) (t : TypeId)
    (ho : o.op = .call { callee := .builtin .append, args := #[s, x], argTypes := #[t, t] })
    (base : Nat) (e : TypeId) (i : TypeInfo) (z : Value) (size bytes : Nat) (ht : P.underlying t = some (.slice e)) (hi : P.info? e = some i) (hz : i.zero = some z)
    (hsize : i.size = size) (hby : i.bytes = bytes) (hzs : z.cells.size = size) (hsz : 0 < size)
    (v : Value) (n : Nat) (xs : List Value) (hs : a.eval s = v) (hown : w.ownsRow base e size v n xs)
    (ad : Addr) (m c : Nat) (news : List Value) (hx : a.eval x = .slice (some ad) m c) (hl : news.length = m * size) (hnews : ∀ j u, news[j]? = some u → w.cell? (ad.add j) = some u) (h1 : ∀ u ∈ news, u.oneCell' = true)
    (h63 : n + m ≤ maxLen) (hbytes : (n + m) * bytes ≤ 140737488355328) (hbase : base ≤ w.heap.size)
    (h : ∀ v' w', w'.ownsRow base e size v' (n + m) (xs ++ news) → w.grownBy w' v.ownBlock → (v' = .slice none 0 0 ↔ v = .slice none 0 0 ∧ m = 0) → K (a.put o.dst v') w') :
    if Region.wanted o (yielded ops a.tmps) = true then Oper.wp P o a w K Q else E := by
  have hw : Region.wanted o (yielded ops a.tmps) = true := by simp [Region.wanted, hg]
  rw [if_pos hw]
  exact wp_append_own w s x t ho base e i z size bytes ht hi hz hsize hby hzs hsz v n xs hs hown ad m c news hx hl hnews h1 h63 hbytes hbase h
end Go.Proofs.Ytmdfbcabpmadgaa
