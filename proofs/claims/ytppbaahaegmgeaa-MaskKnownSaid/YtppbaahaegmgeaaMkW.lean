/- mask: Mark of somebody. -/
import Derived.Test.YtppbaahaegmgeaaMkV
namespace Go.Proofs.Ytppbaahaegmgeaa
open Go.RowKit

/-- A whole array out of the head of a row. -/
theorem run_loadVar_head {P : Program} (w : World) (g : Nat) (t ty : TypeId) (cs : List Value) (fr : Nat × Nat) (d : TypeDesc) (n : Nat) (hn : n ≤ cs.length) (hg : w.heap[g]? = some (.cells cs.toArray t fr))
    (hu : P.underlying ty = some d) (hd : (match d with | .struct _ | .array _ _ => true | _ => false) = true) (hi : (P.info? ty).map (·.size) = some n) :
    (loadVar ty ⟨g, 0, none⟩).run P w = .ok (.agg (cs.take n).toArray) w := by
  have hl : (loadCells ⟨g, 0, none⟩ (cs.take n).length).run P w = .ok (cs.take n).toArray w :=
    run_loadCells_list (P := P) w ⟨g, 0, none⟩ (cs.take n) (fun j v hv => by
      have hadd : (⟨g, 0, none⟩ : Addr).add j = ⟨g, j, none⟩ := by unfold Addr.add; split <;> simp_all
      rw [hadd, cell_of_row w g j cs.toArray t fr hg]
      rw [List.getElem?_take] at hv
      split at hv
      · simpa using hv
      · cases hv)
  rw [List.length_take, Nat.min_eq_left hn] at hl
  cases hq : P.info? ty with
  | none => simp [hq] at hi
  | some i =>
    have hs : i.size = n := by simpa [hq] using hi
    have hagg : (isAgg ty).run P w = .ok true w := by
      unfold isAgg
      rw [Sem.run_bind, run_underlying hu w]
      cases d <;> simp_all
    simp [loadVar, hagg, sizeOf, typeInfo, hq, hs, hl]

theorem info16n : (Try.prog.info? 46).map (·.size) = some 16 := by kernel_rfl
theorem len32 (F : Nat → Int) : 16 ≤ (row32 F).length := by simp [row32, row]
theorem at16 (R : Nat) (c : Nat) (w : World) : (Instr.arrayAt 46 (.slice (some ⟨R, 0, none⟩) 16 c)).run Try.prog w = .ok (.pointer (some ⟨R, 0, none⟩)) w := by
  simp [Instr.arrayAt, run_underlying Try.underlying46]

theorem row16_take (F : Nat → Int) : (row32 F).take 16 = row16 F := rfl
/-- Bytes of a text. -/
theorem sconv {w : World} (s : ByteArray) (xs : List Int) (hx : s.data.toList.map (fun b => (b.toNat : Int)) = xs) : ∃ W c, (convert 9 26 (.string s)).run Try.prog w = .ok (.slice (some ⟨w.heap.size, 0, none⟩) xs.length c) W ∧ ByAt W (some ⟨w.heap.size, 0, none⟩) xs ∧ xs.length ≤ c ∧ Upd [] w W := by
  have hl : xs.length = s.size := by rw [← hx, List.length_map]; rfl
  have hr := run_bytes_of_string (P := Try.prog) w 9 26 5 s Try.underlying9 Try.underlying26 Try.underlying5
  rw [← hl] at hr
  refine ⟨_, _, hr, fun i x hi => ⟨w.heap.size, 0, rfl, ?_, ?_⟩, grownCap_ge _ _ _ _, (Upd.refl [] w).drew.alloc _⟩
  · show w.heap.size < (w.drew.heap.push _).size
    show _ < (w.heap.push _).size
    simp
  · have hlt : i < s.data.size := by
      have := (List.getElem?_eq_some_iff.1 hi).1
      rw [hl] at this; exact this
    have hb : (bytesRow s (grownCap w xs.length 0 5))[i]? = some (.int .u8 ((s.data[i]'hlt).toNat : Int)) := by
      unfold bytesRow
      rw [Array.getElem?_append_left (by simpa using hlt), Array.getElem?_map, Array.getElem?_eq_getElem hlt]
      rfl
    have hxi : x = ((s.data[i]'hlt).toNat : Int) := by
      rw [← hx, List.getElem?_map, List.getElem?_eq_getElem (by simpa using hlt)] at hi
      simpa using (Option.some.inj hi).symm
    rw [hxi, ← hb, Nat.zero_add]
    have : ∀ (C : Array Value) (m : Nat × Nat), (w.drew.alloc (.cells C 5 m)).cell? ⟨w.heap.size, i, none⟩ = C[i]? := fun C m => by
      have h1 : (w.drew.alloc (.cells C 5 m)).heap[w.heap.size]? = some (.cells C 5 m) := heap_alloc_new w.drew _
      rw [cell_of_row _ _ i C 5 m h1]
    exact this _ _

theorem wpList_load_head {P : Program} {ops : Array Oper} {rest : List Oper} {o : Oper} {a : Act} {w : World} {Q : Exit → Act → World → Prop} (hgd : o.guard = none) (ty : TypeId) (x : Operand) (ho : o.op = .load ty x)
    (g : Nat) (hx : a.eval x = .pointer (some ⟨g, 0, none⟩)) (t : TypeId) (cs : List Value) (fr : Nat × Nat) (d : TypeDesc) (n : Nat) (hn : n ≤ cs.length) (hg : w.heap[g]? = some (.cells cs.toArray t fr))
    (hu : P.underlying ty = some d) (hd : (match d with | .struct _ | .array _ _ => true | _ => false) = true) (hi : (P.info? ty).map (·.size) = some n)
    (h : wpList P ops Q rest (a.put o.dst (.agg (cs.take n).toArray)) w) : wpList P ops Q (o :: rest) a w :=
  wpList_plain hgd fun K hK => by
    unfold Oper.wp execOp
    simp only [ho, hx, Instr.loadAt, Instr.sureAddr, Sem.run_bind, Sem.run_pure, Result.andThen_ok, run_loadVar_head w g t ty cs fr d n hn hg hu hd hi]
    exact hK _ _ h

set_option maxRecDepth 100000 in
set_option maxHeartbeats 4000000 in
theorem mark_some (w : World) (G : Nat → Int) (hG : RngF G) (s : ByteArray) (xs : List Int) (hx : s.data.toList.map (fun b => (b.toNat : Int)) = xs) (hne : s.toList ≠ []) (hr : Rng xs) (hl : xs.length ≤ 100000) :
    Calls Try.prog 23 #[.agg (row32 G).toArray, .string s] w fun e w' => e = .returned (.agg (row16 (mac (keyL G) (1 :: xs))).toArray) ∧ Upd [] w w' := by
  have hz16 := zero16
  have hz : ∀ w : World, (zeroValue 22).run Try.prog w = .ok (.agg (row32 fun _ => 0).toArray) w := fun w => by kernel_rfl
  have hne2 : ¬ s.toList = [] := hne
  have hne3 : (s.toList == []) = false := by simpa using hne
  have hne4 : s.toList.isEmpty = false := by simpa using hne
  obtain ⟨m, hm⟩ : ∃ m, xs.length = m := ⟨_, rfl⟩
  have Hm := Lib.hid hm
  obtain ⟨F, hF⟩ : ∃ F, mac (keyL G) (1 :: xs) = F := ⟨_, rfl⟩
  rw [hF]
  have HF := Lib.hid hF
  clear hF
  go_enter Try.func23, Try.ntmps23
  go_upto_region 1 with fail
  have u1 := ((Upd.refl [] w).alloc (.cells (row32 G).toArray 23)).alloc (.cells (row16 fun _ => 0).toArray 46)
  have hD : Blk ((w.alloc (.cells (row32 G).toArray 23)).alloc (.cells (row16 fun _ => 0).toArray 46)) w.heap.size (row32 G) 23 := Blk.alloc (Blk.new w (row32 G).toArray 23) _
  have hM := Blk.new (w.alloc (.cells (row32 G).toArray 23)) (row16 fun _ => 0).toArray 46
  rw [World.size_alloc] at hM
  generalize (w.alloc (.cells (row32 G).toArray 23)).alloc (.cells (row16 fun _ => 0).toArray 46) = W1 at *
  generalize hd : w.heap.size = D at hD hM ⊢
  obtain ⟨W2, c, hcv, ha, hlc, u2⟩ := sconv (w := W1) s xs hx
  rw [hm] at hcv hlc
  have hD2 := hD.upd_nil u2
  have hM2 := hM.upd_nil u2
  have uB := (Upd.refl [] W2).alloc (.cells #[.slice (some ⟨W1.heap.size, 0, none⟩) m c] 26)
  have hB := Blk.new W2 #[.slice (some ⟨W1.heap.size, 0, none⟩) m c] 26
  have hrow := row1 hB hm.symm (ha.upd_nil uB) hr (by omega)
  have hof := of_mac _ G hG 1 (by omega) (some ⟨W2.heap.size, 0, none⟩) [xs] 1 hrow (by simp) (by simp) (by simp; omega)
  have hfl : [xs].flatten = xs := by simp
  rw [hfl, List.length_singleton, HF.out] at hof
  have hM3 := hM2.upd_nil uB
  clear hrow hB hfl hm hM hx hr
  go_upto_region 4 with (first
    | (go_at_call 34; refine hof.mono ?_; rintro e W3 ⟨rfl, u3⟩; have hR := Blk.new W3 (row32 fun _ => 0).toArray 22; have hM4 := hM3.upd_nil u3)
    | (refine wpList_store_rowTo rfl _ _ _ rfl rfl _ (row32 F).toArray rfl rfl _ (row32 fun _ => 0).toArray hR (info32 _) (size32 _ _) (one32 _) ?_)
    | (refine wpList_load_row rfl _ _ rfl D rfl _ (row32 G).toArray _ _ hD Try.underlying23 rfl (infoK G) ?_))
  have uR := ((Upd.refl [] W3).alloc (.cells (row32 fun _ => 0).toArray 22)).setRow (b := W3.heap.size) (Or.inr (Nat.le_refl _)) (row32 F).toArray
  have hR5 := hR.setRow (row32 F).toArray
  have hM5 := hM4.upd_nil uR
  have t5 := (((u1.trans_nil u2).trans_nil uB).trans_nil u3).trans_nil uR
  clear hR uR u3 hM4 hof hD2 hM2 hM3 uB u2
  generalize (W3.alloc (.cells (row32 fun _ => 0).toArray 22)).setRow W3.heap.size (row32 F).toArray = W5 at *
  generalize W3.heap.size = R at *
  have hat := at16 R
  go_wp2_with (first
    | (refine wpList_store_rowTo rfl _ _ _ rfl rfl _ (row16 F).toArray rfl rfl _ (row16 fun _ => 0).toArray hM5 (info16 _) (size16 _ _) (one16 _) ?_)
    | (refine wpList_load_head rfl _ _ rfl R rfl _ (row32 F) _ _ 16 (len32 F) hR5 Try.underlying46 rfl info16n ?_; rw [row16_take]))
  have hM6 := hM5.setRow (row16 F).toArray
  refine bodyPost_ret (v := .agg (row16 F).toArray) (results_cell_row rfl _ _ (D + 1) _ _ _ _ rfl hM6 Try.underlying46 rfl (info16 _)) rfl ⟨rfl, t5.setRow (b := D + 1) (Or.inr (by omega)) _⟩

end Go.Proofs.Ytppbaahaegmgeaa
