/- slices.Clone and slices.Clip, at ints and at stations. -/
import Derived.Test.YtibncdkekceokaaDoorBase
namespace Go.Proofs.YtibncdkekceokaaDoor
open Go.RowKit

theorem Tryd.info1 : (Tryd.prog.info? 3).map (fun i => (i.zero, i.size, i.bytes)) = some (some (.int .i64 0), 1, 8) := by kernel_rfl
theorem Tryd.infoSt : (Tryd.prog.info? 53).map (fun i => (i.zero, i.size, i.bytes)) = some (some (.agg #[.int .i64 0, .int .u32 0, .int .i64 0]), 3, 24) := by kernel_rfl

theorem clip_any (a : Option Addr) (n cap : Nat) (w : World) (hs : SliceOK a n cap) :
    Calls Tryd.prog 113 #[.slice a n cap] w fun e w' => e = .returned (.slice a n n) ∧ w = w' := by
  have h1 := hs.le
  go_enter Tryd.func113, Tryd.ntmps113
  go_wp2
  go_ret
  exact ⟨rfl, rfl⟩
set_option maxRecDepth 100000 in
theorem clone_any (a : Option Addr) (n cap : Nat) (xs : List Int) (w : World) (hs : SliceOK a n cap) (hr : Reads w eI a n xs) (hn : n ≤ 1000000) :
    Calls Tryd.prog 114 #[.slice a n cap] w fun e w' => ∃ a' cap', e = .returned (.slice a' n cap') ∧ w'.ownsRow w.heap.size 3 1 (.slice a' n cap') n (xs.map eI) ∧ Below w.heap.size w w' := by
  obtain ⟨i0, hi, hz0, hz1, hz2⟩ := info_parts Tryd.info1
  cases a with
  | none =>
    obtain ⟨rfl, rfl⟩ := hs.nil rfl
    have hx : xs = [] := List.eq_nil_of_length_eq_zero hr.len
    subst hx
    have hq := Lib.run_eql_slice_nil (P := Tryd.prog)
    go_enter Tryd.func114, Tryd.ntmps114
    go_wp2
    go_ret
    exact ⟨_, _, rfl, World.ownsRow_nil _ _ _ _, Below.refl _ _⟩
  | some ad =>
    obtain ⟨b, off, rfl⟩ := hs.addr _ rfl
    have hq := Lib.run_eql_slice_nil (P := Tryd.prog)
    go_enter Tryd.func114, Tryd.ntmps114
    have hb1 := (Below.refl w.heap.size w).alloc (Nat.le_refl _) (.cells #[] 3)
    have HN := (hr.below hb1).news
    have HO := World.ownsRow_made (base := w.heap.size) (e := 3) (size := 1) w #[] 0 (Nat.le_refl _) (Nat.zero_le _) rfl
    go_wp2_with (at_builtin; refine wpList_append_own _ rfl _ _ 22 rfl w.heap.size 3 i0 (.int .i64 0) 1 8 Tryd.underlying22 hi hz0 hz1 hz2 rfl (by decide) _ _ _ rfl HO ⟨b, off, none⟩ n cap (xs.map eI) rfl ?c0 HN ?c2 ?c3 ?c4 ?c5 ?_)
    case c0 => simp [hr.len]
    case c2 => intro u hu; obtain ⟨x, _, rfl⟩ := List.mem_map.1 hu; rfl
    case c3 => unfold maxLen; omega
    case c4 => omega
    case c5 => simp
    intro v' w1 hown' hgrow hnil
    obtain ⟨a', cap', hv, hok⟩ := own_slice hown'
    have R : w1.ownsRow w.heap.size 3 1 v' n (xs.map eI) := by simpa using hown'
    rw [hv] at R ⊢
    have HR := Lib.hid (⟨R, hb1.grown hgrow (by simp) (fun k hk => by simp [Value.ownBlock] at hk; omega)⟩ : _ ∧ Below w.heap.size w w1)
    clear hown' hgrow hnil hv R HO HN hr hb1
    go_wp2
    go_ret
    exact ⟨a', cap', rfl, HR.out.1, HR.out.2⟩

theorem clipSt_any (a : Option Addr) (n cap : Nat) (w : World) (hs : SliceOK a n cap) :
    Calls Tryd.prog 115 #[.slice a n cap] w fun e w' => e = .returned (.slice a n n) ∧ w = w' := by
  have h1 := hs.le
  go_enter Tryd.func115, Tryd.ntmps115
  go_wp2
  go_ret
  exact ⟨rfl, rfl⟩
set_option maxRecDepth 100000 in
theorem cloneSt_any (a : Option Addr) (n cap : Nat) (xs : List (Int × Int × Int)) (w : World) (hs : SliceOK a n cap) (hr : ReadsSt w a n xs) (hn : n ≤ 1000000) :
    Calls Tryd.prog 116 #[.slice a n cap] w fun e w' => ∃ a' cap', e = .returned (.slice a' n cap') ∧ w'.ownsRow w.heap.size 53 3 (.slice a' n cap') n (xs.flatMap eSt) ∧ Below w.heap.size w w' := by
  obtain ⟨i0, hi, hz0, hz1, hz2⟩ := info_parts Tryd.infoSt
  cases a with
  | none =>
    obtain ⟨rfl, rfl⟩ := hs.nil rfl
    have hx : xs = [] := List.eq_nil_of_length_eq_zero hr.len
    subst hx
    have hq := Lib.run_eql_slice_nil (P := Tryd.prog)
    go_enter Tryd.func116, Tryd.ntmps116
    go_wp2
    go_ret
    exact ⟨_, _, rfl, World.ownsRow_nil _ _ _ _, Below.refl _ _⟩
  | some ad =>
    obtain ⟨b, off, rfl⟩ := hs.addr _ rfl
    have hq := Lib.run_eql_slice_nil (P := Tryd.prog)
    go_enter Tryd.func116, Tryd.ntmps116
    have hb1 := (Below.refl w.heap.size w).alloc (Nat.le_refl _) (.cells #[] 53)
    have HN := (hr.below hb1).news
    have HO := World.ownsRow_made (base := w.heap.size) (e := 53) (size := 3) w #[] 0 (Nat.le_refl _) (Nat.zero_le _) rfl
    go_wp2_with (at_builtin; refine wpList_append_own _ rfl _ _ 23 rfl w.heap.size 53 i0 (.agg #[.int .i64 0, .int .u32 0, .int .i64 0]) 3 24 Tryd.underlying23 hi hz0 hz1 hz2 rfl (by decide) _ _ _ rfl HO ⟨b, off, none⟩ n cap (xs.flatMap eSt) rfl ?c0 HN ?c2 ?c3 ?c4 ?c5 ?_)
    case c0 => rw [flat3_length, hr.len]
    case c2 => intro u hu; obtain ⟨x, _, hx⟩ := List.mem_flatMap.1 hu; simp [eSt] at hx; rcases hx with rfl | rfl | rfl <;> rfl
    case c3 => unfold maxLen; omega
    case c4 => omega
    case c5 => simp
    intro v' w1 hown' hgrow hnil
    obtain ⟨a', cap', hv, hok⟩ := own_slice hown'
    have R : w1.ownsRow w.heap.size 53 3 v' n (xs.flatMap eSt) := by simpa using hown'
    rw [hv] at R ⊢
    have HR := Lib.hid (⟨R, hb1.grown hgrow (by simp) (fun k hk => by simp [Value.ownBlock] at hk; omega)⟩ : _ ∧ Below w.heap.size w w1)
    clear hown' hgrow hnil hv R HO HN hr hb1
    go_wp2
    go_ret
    exact ⟨a', cap', rfl, HR.out.1, HR.out.2⟩
end Go.Proofs.YtibncdkekceokaaDoor
