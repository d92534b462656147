/- The chapter's examples of agents: awake returns true. -/
import Derived.Test.YtpgilkemcaipiaaAgB
namespace Go.Proofs.Ytpgilkemcaipiaa
open Go.RowKit

theorem asks_yes {t bw : Nat} {st : Nat → Win} {n : Int} {w : World} (h : TabAt w t bw st n) (a s want : Int) (h1 : 1 ≤ a) (h2 : a ≤ 16) (h3 : 1 ≤ s) (h4 : s ≤ 9007199254740991)
    (hH : ∀ i, WinOk (st i)) (hb : (whatI (st a.toNat).H (st a.toNat).B s == want) = true) (n' : Int) (hn : wrap64 (n + 1) = n') :
    Calls Try.prog 26 #[.pointer (some ⟨t, 0, none⟩), .int .i64 a, .int .i64 s, .int .i64 want] w fun e w' =>
      e = .returned (.bool true) ∧ TabAt w' t bw st n' ∧ Upd [t] w w' :=
  (asks_any h a s want h1 h2 h3 h4 hH).mono fun e w' ⟨h1, h2, h3⟩ => ⟨by rw [h1, hb], by rw [← hn]; exact h2, h3⟩

theorem setW_setW (st : Nat → Win) (i : Nat) (v u : Win) : setW (setW st i v) i u = setW st i u := by
  funext j; unfold setW; split <;> rfl

theorem done_to {t bw : Nat} {st : Nat → Win} {n : Int} {w : World} (h : TabAt w t bw st n) (a s : Int) (h1 : 1 ≤ a) (h2 : a ≤ 16) (h3 : 1 ≤ s) (h4 : s ≤ 9007199254740991)
    (hH : ∀ i, WinOk (st i)) (st' : Nat → Win) (hst : setW st a.toNat (doneV (st a.toNat) a s) = st') :
    Calls Try.prog 11 #[.pointer (some ⟨t, 0, none⟩), .int .i64 a, .int .i64 s] w fun e w' =>
      e = .returned (.int .i64 0) ∧ TabAt w' t bw st' n ∧ Upd [bw] w w' := by
  rw [← hst]; exact done_any h a s h1 h2 h3 h4 hH

def aw0 : Nat → Win := fun _ => Win.zero
def aw1 : Nat → Win := setW aw0 1 ⟨1, 5, 1⟩
def aw2 : Nat → Win := setW aw0 1 ⟨1, 37, 1⟩

theorem setW_ok {st : Nat → Win} (h : ∀ i, WinOk (st i)) (i : Nat) {v : Win} (hv : WinOk v) : ∀ j, WinOk (setW st i v j) := by
  intro j; unfold setW; split
  · exact hv
  · exact h j
theorem aw0_ok : ∀ i, WinOk (aw0 i) := fun _ => winOk_zero
theorem aw1_ok : ∀ i, WinOk (aw1 i) := setW_ok aw0_ok 1 (by unfold WinOk; simp)
theorem aw2_ok : ∀ i, WinOk (aw2 i) := setW_ok aw0_ok 1 (by unfold WinOk; simp)

set_option maxRecDepth 100000 in
theorem awake_true (w : World) :
    Calls Try.prog 12 #[] w fun e w' => e = .returned (.bool true) ∧ Upd [] w w' := by
  go_enter Try.func12, Try.ntmps12
  go_wp2_with fail
  refine (new_any _).mono ?_
  rintro e w1 ⟨rfl, ht1, hu1⟩
  go_wp2_with fail
  refine (asks_yes (st := aw0) ht1 1 5 0 (by omega) (by omega) (by omega) (by omega) aw0_ok (by kernel_rfl) 1 (by kernel_rfl)).mono ?_
  rintro e w2 ⟨rfl, ht2, hu2⟩
  go_wp2_with fail
  refine (done_to ht2 1 5 (by omega) (by omega) (by omega) (by omega) aw0_ok aw1 (by kernel_rfl)).mono ?_
  rintro e w3 ⟨rfl, ht3, hu3⟩
  go_wp2_with fail
  refine (asks_yes ht3 1 5 1 (by omega) (by omega) (by omega) (by omega) aw1_ok (by kernel_rfl) 2 (by kernel_rfl)).mono ?_
  rintro e w4 ⟨rfl, ht4, hu4⟩
  go_wp2_with fail
  refine (asks_yes ht4 1 4 0 (by omega) (by omega) (by omega) (by omega) aw1_ok (by kernel_rfl) 3 (by kernel_rfl)).mono ?_
  rintro e w5 ⟨rfl, ht5, hu5⟩
  go_wp2_with fail
  refine (asks_yes ht5 2 5 0 (by omega) (by omega) (by omega) (by omega) aw1_ok (by kernel_rfl) 4 (by kernel_rfl)).mono ?_
  rintro e w6 ⟨rfl, ht6, hu6⟩
  go_wp2_with fail
  refine (done_to ht6 1 37 (by omega) (by omega) (by omega) (by omega) aw1_ok aw2 (by unfold aw1; show setW (setW aw0 1 _) 1 _ = _; rw [setW_setW]; kernel_rfl)).mono ?_
  rintro e w7 ⟨rfl, ht7, hu7⟩
  go_wp2_with fail
  refine (asks_yes ht7 1 5 2 (by omega) (by omega) (by omega) (by omega) aw2_ok (by kernel_rfl) 5 (by kernel_rfl)).mono ?_
  rintro e w8 ⟨rfl, ht8, hu8⟩
  go_wp2_with fail
  refine (asks_yes ht8 1 6 0 (by omega) (by omega) (by omega) (by omega) aw2_ok (by kernel_rfl) 6 (by kernel_rfl)).mono ?_
  rintro e w9 ⟨rfl, ht9, hu9⟩
  go_wp2_with fail
  refine (asks_yes ht9 1 37 1 (by omega) (by omega) (by omega) (by omega) aw2_ok (by kernel_rfl) 7 (by kernel_rfl)).mono ?_
  rintro e w10 ⟨rfl, ht10, hu10⟩
  go_wp2_with fail
  refine (windows_any ht10).mono ?_
  rintro e w11 ⟨v, rfl, hown, hu11⟩
  have ew : wins aw2 17 = [⟨1, 37, 1⟩] := by kernel_rfl
  rw [ew] at hown
  obtain ⟨g, cap, rfl, hg⟩ : ∃ g cap, v = .slice (some ⟨g, 0, none⟩) 1 cap ∧ ∀ j u, (winVals [⟨1, 37, 1⟩])[j]? = some u → w11.cell? ⟨g, j, none⟩ = some u := by
    rcases hown.2 with ⟨_, h0⟩ | ⟨g, cap, cur, rfl, _, hh, _, _, _, htk⟩
    · cases h0
    · refine ⟨g, cap, rfl, fun j u hu => ?_⟩
      have := hown.cells (g := g) rfl j u hu
      rw [← this]
      unfold Addr.add; split
      · simp_all
      · simp
  have g0 := hg 0 _ rfl
  have g1 := hg 1 _ rfl
  have g2 := hg 2 _ rfl
  clear hg hown
  have ht11 := ht10.upd hu11 (by simp) (by simp)
  go_wp2_with fail
  refine (done_err ht11 0 1 (by kernel_rfl)).mono ?_
  rintro e w12 ⟨rfl, rfl⟩
  go_wp2_with fail
  refine (done_err ht11 1 0 (by kernel_rfl)).mono ?_
  rintro e w12 ⟨rfl, rfl⟩
  go_wp2_with fail
  refine (done_err ht11 17 1 (by kernel_rfl)).mono ?_
  rintro e w12 ⟨rfl, rfl⟩
  go_wp2_with fail
  refine (asked_any ht11).mono ?_
  rintro e w12 ⟨rfl, rfl⟩
  go_wp2_with fail
  go_ret
  have hs := hu1.size
  have u2 := hu1.trans hu2 (by simp)
  have u3 := u2.trans hu3 (by simp)
  have u4 := u3.trans hu4 (by simp)
  have u5 := u4.trans hu5 (by simp)
  have u6 := u5.trans hu6 (by simp)
  have u7 := u6.trans hu7 (by simp)
  have u8 := u7.trans hu8 (by simp)
  have u9 := u8.trans hu9 (by simp)
  have u10 := u9.trans hu10 (by simp)
  exact ⟨rfl, u10.trans hu11 (by simp)⟩

end Go.Proofs.Ytpgilkemcaipiaa
