/- The agent's table: New, asks, Asked, Windows, awake. -/
import Derived.Test.YtpgilkemcaipiaaAgA
namespace Go.Proofs.Ytpgilkemcaipiaa
open Go.RowKit

theorem winOk_zero : WinOk Win.zero := by unfold WinOk Win.zero; simp

theorem new_any (w : World) :
    Calls Try.prog 8 #[] w fun e w' => e = .returned (.pointer (some ⟨w.heap.size + 1, 0, none⟩)) ∧ TabAt w' (w.heap.size + 1) w.heap.size (fun _ => Win.zero) 0 ∧ Upd [] w w' := by
  go_enter Try.func8, Try.ntmps8
  go_wp2
  go_ret
  refine ⟨rfl, ⟨?_, ?_, by omega⟩, ((Upd.refl _ _).alloc _).alloc _⟩
  · exact (by simpa using Blk.new (w.alloc _) _ _)
  · exact ((Blk.new w _ _).alloc _)

theorem asks_any {t bw : Nat} {st : Nat → Win} {n : Int} {w : World} (h : TabAt w t bw st n) (a s want : Int) (h1 : 1 ≤ a) (h2 : a ≤ 16) (h3 : 1 ≤ s) (h4 : s ≤ 9007199254740991)
    (hH : ∀ i, WinOk (st i)) :
    Calls Try.prog 26 #[.pointer (some ⟨t, 0, none⟩), .int .i64 a, .int .i64 s, .int .i64 want] w fun e w' =>
      e = .returned (.bool (whatI (st a.toNat).H (st a.toNat).B s == want)) ∧ TabAt w' t bw st (wrap64 (n + 1)) ∧ Upd [t] w w' := by
  cases hb : whatI (st a.toNat).H (st a.toNat).B s == want
  all_goals
    go_enter Try.func26, Try.ntmps26
    go_wp2_with (go_at_call 10; refine (ask_any h a s h1 h2 h3 h4 hH).mono ?_; rintro e w' ⟨rfl, ht, hu⟩)
    go_ret
    exact ⟨rfl, ht, hu⟩

theorem loadint_run (a : Addr) (x : Int) (w : World) (hc : w.cell? a = some (.int .i64 x)) :
    (callFunc 33 #[.pointer (some a)]).run Try.prog w = .ok (.value (.int .i64 x)) w :=
  run_call_load (fn := Try.f33) Try.func33 (by kernel_rfl) (by kernel_rfl) (by kernel_rfl) .i64 (by kernel_rfl) hc

theorem load_any (t o : Nat) (x : Int) (w : World) (hc : w.cell? ⟨t, o, none⟩ = some (.int .i64 x)) :
    Calls Try.prog 30 #[.pointer (some ⟨t, o, none⟩)] w fun e w' => e = .returned (.int .i64 x) ∧ w = w' := by
  have hr := loadint_run ⟨t, o, none⟩ x w hc
  go_enter Try.func30, Try.ntmps30
  go_wp2
  go_ret
  exact ⟨rfl, rfl⟩

theorem asked_any {t bw : Nat} {st : Nat → Win} {n : Int} {w : World} (h : TabAt w t bw st n) :
    Calls Try.prog 21 #[.pointer (some ⟨t, 0, none⟩)] w fun e w' => e = .returned (.int .i64 n) ∧ w = w' := by
  have c1 := h.head.cell 1 rfl
  go_enter Try.func21, Try.ntmps21
  go_wp2_with (first
    | (go_at_call 22; refine (none_no h).mono ?_; rintro e w' ⟨rfl, rfl⟩)
    | (go_at_call 30; refine (load_any t 1 n _ c1).mono ?_; rintro e w' ⟨rfl, rfl⟩))
  go_ret
  exact ⟨rfl, rfl⟩

/-- The windows that tell something, of the first k. -/
def wins (st : Nat → Win) : Nat → List Win
  | 0 => []
  | k + 1 => wins st k ++ (if 0 < (st k).H then [st k] else [])

def winVals (l : List Win) : List Value := l.flatMap fun v => [.int .i64 v.A, .int .i64 v.H, .int .u32 v.B]

theorem wins_le (st : Nat → Win) (k : Nat) : (wins st k).length ≤ k := by
  induction k with
  | zero => simp [wins]
  | succ k ih => unfold wins; rw [List.length_append]; split <;> simp <;> omega

theorem winVals_snoc (l : List Win) (v : Win) : winVals (l ++ [v]) = winVals l ++ [.int .i64 v.A, .int .i64 v.H, .int .u32 v.B] := by simp [winVals]

theorem win_info : (Try.prog.info? 48).map (fun i => (i.zero, i.size, i.bytes)) = some (some (.agg #[.int .i64 0, .int .i64 0, .int .u32 0]), 3, 24) := by kernel_rfl

theorem windows_any {t bw : Nat} {st : Nat → Win} {n : Int} {w : World} (h : TabAt w t bw st n) :
    Calls Try.prog 19 #[.pointer (some ⟨t, 0, none⟩)] w fun e w' =>
      ∃ v, e = .returned v ∧ w'.ownsRow w.heap.size 48 3 v (wins st 17).length (winVals (wins st 17)) ∧ Upd [] w w' := by
  have c0 := h.head.cell 0 rfl
  obtain ⟨i0, hi, hz0, hz1, hz2⟩ := info_parts win_info
  go_enter Try.func19, Try.ntmps19
  go_wp2_with (go_at_call 22; refine (none_no h).mono ?_; rintro e w' ⟨rfl, rfl⟩)
  go_loopw [2, 12] (fun out kv wr => ∃ k : Nat, k ≤ 17 ∧ kv = .int .i64 k ∧ wr.ownsRow w.heap.size 48 3 out (wins st k).length (winVals (wins st k)) ∧ Upd [] w wr) (fun _ kv _ => 17 - (intOf kv).toNat)
  case atStart => exact ⟨0, by omega, rfl, World.ownsRow_nil _ _ _ _, Upd.refl _ _⟩
  case round =>
    obtain ⟨k, hk, rfl, hown, hu⟩ := hrel
    by_cases hlt : k < 17
    · obtain ⟨r0, r1, r2, _, _, _⟩ := (h.upd hu (by simp) (by simp)).at_ k hlt
      have hlen := wins_le st k
      by_cases hH : 0 < (st k).H
      · go_wp2_with (at_builtin; refine wpList_append_own _ rfl _ _ 38 rfl w.heap.size 48 i0 _ 3 24 Try.underlying38 hi hz0 hz1 hz2 rfl (by decide) _ _ _ rfl ((hown.alloc _).alloc _) ⟨wr.heap.size + 1, 0, none⟩ 1 1 [.int .i64 (st k).A, .int .i64 (st k).H, .int .u32 (st k).B] rfl rfl ?c1 ?c2 ?c3 ?c4 ?c5 ?_)
        case c1 => intro j u hj; match j, hj with
          | 0, hj => cases hj; simp [Addr.add, go_sem]
          | 1, hj => cases hj; simp [Addr.add, go_sem]
          | 2, hj => cases hj; simp [Addr.add, go_sem]
        case c2 => intro u hu; simp at hu; rcases hu with rfl | rfl | rfl <;> rfl
        case c3 => simp only [maxLen]; omega
        case c4 => omega
        case c5 => have := hu.size; simp; omega
        intro v' w1 hown1 hgrow1 hnil1
        go_wp2
        have e1 : wins st (k + 1) = wins st k ++ [st k] := by simp [wins, hH]
        exact ⟨⟨k + 1, by omega, by go_num, by rw [e1, winVals_snoc, List.length_append]; exact hown1, ((hu.alloc _).alloc _).grown_own hgrow1 hown⟩, by simp [intOf]; omega⟩
      · go_wp2_with fail
        have e1 : wins st (k + 1) = wins st k := by simp [wins, hH]
        exact ⟨⟨k + 1, by omega, by go_num, by rw [e1]; exact hown.alloc _, hu.alloc _⟩, by simp [intOf]; omega⟩
    · go_wp2_with fail
      go_ret
      exact ⟨_, rfl, (by rw [show k = 17 by omega] at hown; exact hown), hu⟩

end Go.Proofs.Ytpgilkemcaipiaa
