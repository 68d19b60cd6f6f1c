/- A config as plain data; what is wrong with it, rule by rule. -/
import Derived.Test.YtibncdkekceokaaDoorRule3
namespace Go.Proofs.YtibncdkekceokaaDoor
open Go.RowKit

/-- A config's numbers and lists (of a station: at which node, safe, hold). -/
structure Cfg where
  nodes : Int
  long : Int
  miss : Int
  good : Int
  fresh : Int
  ps : List Int
  ss : List Int
  bs : List Int
  ts : List (Int × Int × Int)

/-- What is wrong by a rule. -/
def Cfg.rule (c : Cfg) : Nat → Int
  | 0 => withinE c.nodes 4 16
  | 1 => withinE c.ps.length 2 8
  | 2 => mustE (rule3B c.nodes c.ps)
  | 3 => withinE c.ss.length 1 16
  | 4 => mustE (slotsB c.ss c.ps.length)
  | 5 => withinE c.long (max (3 * c.nodes + 1) (c.nodes + 116)) 4096
  | 6 => firstE [mustE ((c.bs.length : Int) == c.nodes), eachE c.bs 0 4096]
  | 7 => withinE c.ts.length 0 8
  | 8 => stationsE c.nodes c.ts
  | 9 => eachE [c.miss, c.good, c.fresh] 1 100
  | _ => 0
/-- What is wrong first. -/
def Cfg.err (c : Cfg) : Int := firstE ((List.range 10).map c.rule)

theorem firstE_range' (f : Nat → Int) (k : Nat) : ∀ n s, s ≤ k → k < s + n → (∀ j, s ≤ j → j < k → f j = 0) → f k ≠ 0 → firstE ((List.range' s n).map f) = f k := by
  intro n
  induction n with
  | zero => intro s h1 h2; omega
  | succ n ih =>
    intro s h1 h2 h3 h4
    rw [List.range'_succ, List.map_cons, firstE]
    by_cases e : s = k
    · subst e
      rw [if_neg h4]
    · rw [if_pos (h3 s (Nat.le_refl _) (by omega))]
      exact ih (s + 1) (by omega) (by omega) (fun j hj hk => h3 j (by omega) hk) h4
theorem firstE_zero (f : Nat → Int) : ∀ n s, (∀ j, s ≤ j → j < s + n → f j = 0) → firstE ((List.range' s n).map f) = 0 := by
  intro n
  induction n with
  | zero => intro s _; rfl
  | succ n ih =>
    intro s h
    rw [List.range'_succ, List.map_cons, firstE, if_pos (h s (Nat.le_refl _) (by omega))]
    exact ih (s + 1) fun j hj hk => h j (by omega) (by omega)
theorem Cfg.err_at (c : Cfg) (k : Nat) (hk : k < 10) (h : ∀ j, j < k → c.rule j = 0) (hne : c.rule k ≠ 0) : c.err = c.rule k := by
  unfold Cfg.err
  rw [List.range_eq_range']
  exact firstE_range' c.rule k 10 0 (Nat.zero_le _) (by omega) (fun j _ hj => h j hj) hne
theorem Cfg.err_none (c : Cfg) (h : ∀ j, j < 10 → c.rule j = 0) : c.err = 0 := by
  unfold Cfg.err
  rw [List.range_eq_range']
  exact firstE_zero c.rule 10 0 fun j _ hj => h j (by omega)

theorem within_ok {x lo hi : Int} (h : withinE x lo hi = 0) : lo ≤ x ∧ x ≤ hi := by
  unfold withinE at h
  split at h
  · cases h
  · split at h
    · cases h
    · omega
theorem must_ok {b : Bool} (h : mustE b = 0) : b = true := by
  cases b
  · cases h
  · rfl

/-- A config's argument reads as it. -/
structure CfgIn (w : World) (nodes long miss good fresh : Int) (pa sa ba ta : Option Addr) (pn pc sn sc bn bc tn tc : Nat) (ps ss bs : List Int) (ts : List (Int × Int × Int)) : Prop where
  op : SliceOK pa pn pc
  os : SliceOK sa sn sc
  ob : SliceOK ba bn bc
  ot : SliceOK ta tn tc
  rp : Reads w eI pa pn ps
  rs : Reads w eI sa sn ss
  rb : Reads w eI ba bn bs
  rt : ReadsSt w ta tn ts
theorem CfgIn.below {w w' : World} {nodes long miss good fresh : Int} {pa sa ba ta : Option Addr} {pn pc sn sc bn bc tn tc : Nat} {ps ss bs : List Int} {ts : List (Int × Int × Int)} (h : CfgIn w nodes long miss good fresh pa sa ba ta pn pc sn sc bn bc tn tc ps ss bs ts) (hb : Below w.heap.size w w') : CfgIn w' nodes long miss good fresh pa sa ba ta pn pc sn sc bn bc tn tc ps ss bs ts :=
  ⟨h.op, h.os, h.ob, h.ot, h.rp.below hb, h.rs.below hb, h.rb.below hb, h.rt.below hb⟩

/-- The pairs of the nodes when so many halves have been gone through. -/
def pairsUp (n : Nat) (hs : List Int) : Nat → List Int
  | 0 => List.replicate n (-1)
  | k + 1 => (pairsUp n hs k).set (hs.getD k 0).toNat ((k / 2 : Nat) : Int)
theorem pairsUp_length (n : Nat) (hs : List Int) (k : Nat) : (pairsUp n hs k).length = n := by
  induction k with
  | zero => simp [pairsUp]
  | succ k ih => simp [pairsUp, ih]
/-- The pairs of the nodes of a config. -/
def Cfg.pairs (c : Cfg) : List Int := pairsUp c.nodes.toNat (halvesL c.nodes c.ps) (2 * c.ps.length)

/-- A net of a config, in memory: all of it lies in blocks from lo on, below hi. -/
def NetAt (w : World) (lo hi b : Nat) (c : Cfg) : Prop :=
  ∃ pv sv bv tv qv, w.heap[b]? = some (.cells #[.int .i64 c.nodes, pv, sv, .int .i64 c.long, bv, tv, .int .i64 c.miss, .int .i64 c.good, .int .i64 c.fresh, qv] 56 (0, 0)) ∧ lo ≤ b ∧ b < hi ∧ hi ≤ w.heap.size ∧
    OwnIn w lo hi 3 1 pv c.ps.length (c.ps.map eI) ∧ OwnIn w lo hi 3 1 sv c.ss.length (c.ss.map eI) ∧ OwnIn w lo hi 3 1 bv c.bs.length (c.bs.map eI) ∧
    OwnIn w lo hi 53 3 tv c.ts.length (c.ts.flatMap eSt) ∧ OwnIn w lo hi 3 1 qv c.nodes.toNat (c.pairs.map eI)
theorem OwnIn.in_block {w w' : World} {lo hi : Nat} {e : TypeId} {size : Nat} {v : Value} {n : Nat} {cs : List Value} (h : OwnIn w lo hi e size v n cs) (hk : ∀ g, lo ≤ g → g < hi → w'.heap[g]? = w.heap[g]?) : OwnIn w' lo hi e size v n cs := by
  refine ⟨?_, h.2⟩
  rcases h.1 with h1 | ⟨g, cur, rfl, hb, hg, rest⟩
  · exact .inl h1
  · exact .inr ⟨g, cur, rfl, hb, (hk g hb (h.2 g rfl)).trans hg, rest⟩
theorem NetAt.kept {w w' : World} {lo hi b : Nat} {c : Cfg} (h : NetAt w lo hi b c) (hk : ∀ g, lo ≤ g → g < hi → w'.heap[g]? = w.heap[g]?) (hs : w.heap.size ≤ w'.heap.size) : NetAt w' lo hi b c := by
  obtain ⟨pv, sv, bv, tv, qv, h1, h2, h3, h4, p, s, bb, t, q⟩ := h
  exact ⟨pv, sv, bv, tv, qv, (hk b h2 h3).trans h1, h2, h3, by omega, p.in_block hk, s.in_block hk, bb.in_block hk, t.in_block hk, q.in_block hk⟩
theorem NetAt.below {w w' : World} {lo hi b : Nat} {c : Cfg} (h : NetAt w lo hi b c) (hb : Below w.heap.size w w') : NetAt w' lo hi b c := by
  have h4 := h
  obtain ⟨_, _, _, _, _, _, _, _, h4, _⟩ := h4
  exact h.kept (fun g _ hg => hb.block g (by omega)) hb.size
end Go.Proofs.YtibncdkekceokaaDoor
