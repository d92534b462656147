/- mask: AgentKey, SubjectKey. -/
import Derived.Test.YtppbaahaegmgeaaMkL
namespace Go.Proofs.Ytppbaahaegmgeaa
open Go.RowKit

theorem results_cell_tmp {P : Program} {fn : Func} {p q : Tmp} {ty : TypeId} (h : fn.results = #[.cell p ty, .tmp q]) (tmps : Array Value) (w : World) (g : Nat) (t : TypeId) (cs : Array Value) (fr : Nat × Nat) (d : TypeDesc)
    (v : Value) (hp : tmps.getD p undef = .pointer (some ⟨g, 0, none⟩)) (hv : tmps.getD q undef = v) (hg : w.heap[g]? = some (.cells cs t fr))
    (hu : P.underlying ty = some d) (hd : (match d with | .struct _ | .array _ _ => true | _ => false) = true) (hi : (P.info? ty).map (·.size) = some cs.size) :
    (results fn tmps).run P w = .ok (.tuple #[.agg cs, v]) w := by
  subst hv
  have hp' : tmps[p]?.getD undef = .pointer (some ⟨g, 0, none⟩) := by simpa using hp
  simp [results, h, hp', asAddr, run_loadVar_row w g t ty cs fr d hg hu hd hi]

set_option maxRecDepth 100000 in
set_option maxHeartbeats 4000000 in
theorem akey_ok (w : World) (G : Nat → Int) (hG : RngF G) (x : Int) (hx : okU x) : Calls Try.prog 21 #[.agg (row32 G).toArray, .int .i64 x] w fun e w' => e = .returned (.tuple #[agg32 (mac (keyL G) (2 :: rowI x)), .int .i64 0]) ∧ Upd [] w w' := by
  have hz := zeroK
  obtain ⟨m, hm⟩ : ∃ m, (rowI x).length = m := ⟨_, rfl⟩
  have hml := rowI_len hx
  have hU := fun W => uI_ok x hx W
  have hXr := rowI_rng x
  rw [hm] at hU hml
  have Hm := Lib.hid hm
  generalize rowI x = X at *
  obtain ⟨F, hF⟩ : ∃ F, mac (keyL G) (2 :: X) = F := ⟨_, rfl⟩
  rw [hF]
  have HF := Lib.hid hF
  clear hF hm
  go_enter Try.func21, Try.ntmps21
  go_upto_region 1 with fail
  have u1 := ((Upd.refl [] w).alloc (.cells (row32 G).toArray 23)).alloc (.cells (row32 fun _ => 0).toArray 23)
  have hD : Blk ((w.alloc (.cells (row32 G).toArray 23)).alloc (.cells (row32 fun _ => 0).toArray 23)) w.heap.size (row32 G) 23 := Blk.alloc (Blk.new w (row32 G).toArray 23) _
  have hR := Blk.new (w.alloc (.cells (row32 G).toArray 23)) (row32 fun _ => 0).toArray 23
  rw [World.size_alloc] at hR
  generalize (w.alloc (.cells (row32 G).toArray 23)).alloc (.cells (row32 fun _ => 0).toArray 23) = W1 at *
  generalize hd : w.heap.size = D at hD hR ⊢
  go_upto_region 4 with (go_at_call 19; refine (hU W1).mono ?_; rintro e W2 ⟨q, d, rfl, hq, hqd, u2⟩)
  have hD2 := hD.upd_nil u2
  have hR2 := hR.upd_nil u2
  have t2 := u1.trans_nil u2
  have uB := (Upd.refl [] W2).alloc (.cells #[.slice q m d] 26)
  have hB := Blk.new W2 #[.slice q m d] 26
  have hrow := row1 hB Hm.out.symm (hq.upd_nil uB) hXr (by rw [Hm.out]; exact hqd)
  have hof := of_mac _ G hG 2 (by omega) (some ⟨W2.heap.size, 0, none⟩) [X] 1 hrow (by simp) (by simp) (by have := Hm.out; simp; omega)
  have hfl : [X].flatten = X := by simp
  rw [hfl, List.length_singleton, HF.out] at hof
  have hR3 := hR2.upd_nil uB
  clear hrow hB hfl hD hR u1 u2
  go_wp2_with (first
    | (go_at_call 34; refine hof.mono ?_; rintro e W3 ⟨rfl, u3⟩; have hR4 := hR3.upd_nil u3)
    | (refine wpList_store_rowTo rfl _ _ _ rfl rfl _ (row32 F).toArray rfl rfl _ (row32 fun _ => 0).toArray hR4 (infoK _) (size32 _ _) (one32 _) ?_)
    | (refine wpList_load_row rfl _ _ rfl D rfl _ (row32 G).toArray _ _ hD2 Try.underlying23 rfl (infoK G) ?_))
  have hR5 := hR4.setRow (row32 F).toArray
  refine bodyPost_ret (v := .tuple #[agg32 F, .int .i64 0]) (results_cell_tmp rfl _ _ (D + 1) _ _ _ _ _ rfl rfl hR5 Try.underlying23 rfl (infoK F)) rfl ⟨?_, ?_⟩
  · rfl
  · exact ((t2.trans_nil uB).trans_nil u3).setRow (b := D + 1) (Or.inr (by omega)) (row32 F).toArray

set_option maxRecDepth 100000 in
set_option maxHeartbeats 4000000 in
theorem akey_no (w : World) (G : Nat → Int) (x : Int) (hx : ¬ okU x) : Calls Try.prog 21 #[.agg (row32 G).toArray, .int .i64 x] w fun e w' => e = .returned (.tuple #[.agg (row32 fun _ => 0).toArray, .int .i64 9]) ∧ Upd [] w w' := by
  have hz := zeroK
  have hU := fun W => u_no x (by unfold okU at hx; omega) W
  go_enter Try.func21, Try.ntmps21
  go_upto_region 1 with fail
  have u1 := ((Upd.refl [] w).alloc (.cells (row32 G).toArray 23)).alloc (.cells (row32 fun _ => 0).toArray 23)
  have hR := Blk.new (w.alloc (.cells (row32 G).toArray 23)) (row32 fun _ => 0).toArray 23
  rw [World.size_alloc] at hR
  generalize (w.alloc (.cells (row32 G).toArray 23)).alloc (.cells (row32 fun _ => 0).toArray 23) = W1 at *
  generalize hd : w.heap.size = D at hR ⊢
  go_wp2_with (first
    | (refine wpList_store_rowTo rfl _ _ _ rfl rfl _ (row32 fun _ => 0).toArray rfl rfl _ (row32 fun _ => 0).toArray hR (infoK _) (size32 _ _) (one32 _) ?_)
    | (go_at_call 19; refine (hU W1).mono ?_; rintro e W2 ⟨rfl, rfl⟩))
  have hR5 := hR.setRow (row32 fun _ => 0).toArray
  exact bodyPost_ret (v := .tuple #[.agg (row32 fun _ => 0).toArray, .int .i64 9]) (results_cell_tmp rfl _ _ (D + 1) _ _ _ _ _ rfl rfl hR5 Try.underlying23 rfl (infoK _)) rfl ⟨rfl, u1.setRow (b := D + 1) (Or.inr (by omega)) _⟩

end Go.Proofs.Ytppbaahaegmgeaa
