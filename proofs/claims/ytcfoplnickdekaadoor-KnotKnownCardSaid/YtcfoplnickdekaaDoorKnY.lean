/- KnotKnown: knots that are none; texts that are repeated; known digests. -/
import Derived.Test.YtcfoplnickdekaaDoorKnM
import Derived.Test.YtcfoplnickdekaaDoorHxC
import Derived.Test.YtcfoplnickdekaaDoorKnP
import Derived.Test.YtcfoplnickdekaaDoorKnG
namespace Go.Proofs.YtcfoplnickdekaaDoor
open Go.RowKit

theorem none_zero {w : World} {kb : Nat} (c0 : w.cell? ⟨kb, 0, none⟩ = some (.pointer none)) : Calls Tryd.prog 20 #[.pointer (some ⟨kb, 0, none⟩)] w fun e w' => e = .returned (.bool true) ∧ w = w' := by
  go_enter Tryd.func20, Tryd.ntmps20
  go_wp2_with fail
  go_ret
  exact ⟨rfl, rfl⟩

/-- A knot that is none: nil, or the zero one. -/
def NoneAt (w : World) (v : Value) : Prop := v = .pointer none ∨ ∃ kb, v = .pointer (some ⟨kb, 0, none⟩) ∧ kb < w.heap.size ∧ w.cell? ⟨kb, 0, none⟩ = some (.pointer none)
theorem NoneAt.upd {w w' : World} {v : Value} (h : NoneAt w v) (u : Upd [] w w') : NoneAt w' v := by
  rcases h with h | ⟨kb, h1, h2, h3⟩
  · exact .inl h
  · exact .inr ⟨kb, h1, Nat.lt_of_lt_of_le h2 u.size, (u.cell (a := ⟨kb, 0, none⟩) h2 (by simp)).trans h3⟩
theorem none_at {w : World} {v : Value} (h : NoneAt w v) : Calls Tryd.prog 20 #[v] w fun e w' => e = .returned (.bool true) ∧ w = w' := by
  rcases h with rfl | ⟨kb, rfl, h2, h3⟩
  · exact none_nil w
  · exact none_zero h3

theorem add_none {w : World} {v : Value} (h : NoneAt w v) (b : Value) : Calls Tryd.prog 9 #[v, b] w fun e w' => e = .returned (.tuple #[]) ∧ Upd [] w w' := by
  have hn := none_at h
  go_enter Tryd.func9, Tryd.ntmps9
  go_wp2_with (go_at_call 20; refine hn.mono ?_; rintro e w1 ⟨rfl, rfl⟩)
  exact bodyPost_ret (v := .tuple #[]) (by simp [results, Tryd.results9, go_sem]) rfl ⟨rfl, Upd.refl [] _⟩
theorem len_none {w : World} {v : Value} (h : NoneAt w v) : Calls Tryd.prog 14 #[v] w fun e w' => e = .returned (.int .i64 0) ∧ Upd [] w w' := by
  have hn := none_at h
  go_enter Tryd.func14, Tryd.ntmps14
  go_wp2_with (go_at_call 20; refine hn.mono ?_; rintro e w1 ⟨rfl, rfl⟩)
  go_ret
  exact ⟨rfl, Upd.refl [] _⟩

theorem info32k (f : Nat → Int) : (Tryd.prog.info? 28).map (·.size) = some (row32 f).toArray.size := by kernel_rfl
theorem one32k (f : Nat → Int) : (row32 f).toArray.all (·.oneCell') = true := by kernel_rfl
theorem size32k (f g : Nat → Int) : (row32 f).toArray.size = (row32 g).toArray.size := rfl
set_option maxRecDepth 100000 in
theorem tie_none {w : World} {v : Value} (h : NoneAt w v) : Calls Tryd.prog 10 #[v] w fun e w' => e = .returned (agg32 fun _ => 0) ∧ Upd [] w w' := by
  have hz : ∀ w : World, (zeroValue 28).run Tryd.prog w = .ok (.agg (row32 fun _ => 0).toArray) w := fun w => by kernel_rfl
  go_enter Tryd.func10, Tryd.ntmps10
  go_upto_region 1 with fail
  have u1 := (Upd.refl [] w).alloc (.cells (row32 fun _ => 0).toArray 28)
  have hR := Blk.new w (row32 fun _ => 0).toArray 28
  have hn := none_at (h.upd u1)
  generalize w.alloc (.cells (row32 fun _ => 0).toArray 28) = W1 at *
  obtain ⟨R, hRe⟩ : ∃ R, w.heap.size = R := ⟨_, rfl⟩
  have hRw : w.heap.size ≤ R := by omega
  rw [hRe] at hR ⊢
  simp only [List.toList_toArray] at hR
  clear hRe
  go_wp2_with (first
    | (go_at_call 20; refine hn.mono ?_; rintro e w1 ⟨rfl, rfl⟩)
    | (refine wpList_store_rowTo rfl _ _ _ rfl rfl _ (row32 fun _ => 0).toArray rfl rfl _ (row32 fun _ => 0).toArray hR (info32k _) (size32k _ _) (one32k _) ?_)
    | (refine wpList_load_row rfl _ _ rfl R rfl _ (row32 fun _ => 0).toArray _ _ hR Tryd.underlying28 rfl (info32k _) ?_))
  have hR5 := hR.setRow (row32 fun _ => 0).toArray
  exact bodyPost_ret (v := agg32 fun _ => 0) (results_cell_row rfl _ _ R _ _ _ _ rfl hR5 Tryd.underlying28 rfl (info32k _)) rfl ⟨rfl, u1.setRow (b := R) (Or.inr hRw) _⟩

/-- One byte, so often. -/
theorem rep_one (b : UInt8) : ∀ n, Lib.repeatL [b] n = List.replicate n b
  | 0 => rfl
  | n + 1 => by
    show [b] ++ Lib.repeatL [b] n = _
    rw [rep_one b n]; rfl
theorem rep_bytes (b : UInt8) (n : Nat) (w : World) (hn : n ≤ 100000) : Calls Tryd.prog 18 #[.string ⟨#[b]⟩, .int .i64 (n : Int)] w fun e w' => e = .returned (.string ⟨(List.replicate n b).toArray⟩) ∧ Upd [] w w' := by
  have h := Tryd.strings_Repeat ⟨#[b]⟩ n w (by omega) (by show 1 * n ≤ _; omega)
  have e : (⟨#[b]⟩ : ByteArray).data.toList = [b] := rfl
  rw [e, rep_one] at h
  exact h.mono fun e w' ⟨h1, h2⟩ => ⟨h1, Upd.of_below h2 (Nat.le_refl _) _⟩

/-- Bytes of a text. -/
theorem sconvK {w : World} (s : ByteArray) (xs : List Int) (hx : s.data.toList.map (fun b => (b.toNat : Int)) = xs) : ∃ W c, (convert 9 26 (.string s)).run Tryd.prog w = .ok (.slice (some ⟨w.heap.size, 0, none⟩) xs.length c) W ∧ ByAt W (some ⟨w.heap.size, 0, none⟩) xs ∧ xs.length ≤ c ∧ Upd [] w W := by
  have hl : xs.length = s.size := by rw [← hx, List.length_map]; rfl
  have hr := run_bytes_of_string (P := Tryd.prog) w 9 26 5 s Tryd.underlying9 Tryd.underlying26 Tryd.underlying5
  rw [← hl] at hr
  refine ⟨_, _, hr, fun i x hi => ⟨w.heap.size, 0, rfl, ?_, ?_⟩, grownCap_ge _ _ _ _, (Upd.refl [] w).drew.alloc _⟩
  · show w.heap.size < (w.drew.heap.push _).size
    show _ < (w.heap.push _).size
    simp
  · have hlt : i < s.data.size := by
      have := (List.getElem?_eq_some_iff.1 hi).1
      rw [hl] at this; exact this
    have hb : (bytesRow s (grownCap w xs.length 0 5))[i]? = some (.int .u8 ((s.data[i]'hlt).toNat : Int)) := by
      unfold bytesRow
      rw [Array.getElem?_append_left (by simpa using hlt), Array.getElem?_map, Array.getElem?_eq_getElem hlt]
      rfl
    have hxi : x = ((s.data[i]'hlt).toNat : Int) := by
      rw [← hx, List.getElem?_map, List.getElem?_eq_getElem (by simpa using hlt)] at hi
      simpa using (Option.some.inj hi).symm
    rw [hxi, ← hb, Nat.zero_add]
    have : ∀ (C : Array Value) (m : Nat × Nat), (w.drew.alloc (.cells C 5 m)).cell? ⟨w.heap.size, i, none⟩ = C[i]? := fun C m => by
      have h1 : (w.drew.alloc (.cells C 5 m)).heap[w.heap.size]? = some (.cells C 5 m) := heap_alloc_new w.drew _
      rw [cell_of_row _ _ i C 5 m h1]
    exact this _ _
/-- So many bytes of one kind, as bytes. -/
def allI (b n : Nat) : List Int := List.replicate n (b : Int)
theorem allI_len (b n : Nat) : (allI b n).length = n := List.length_replicate
theorem allI_rng (b n : Nat) (hb : b < 256) : Rng (allI b n) := fun x hx => by
  obtain rfl := (List.mem_replicate.1 hx).2
  omega
theorem allI_add (b n m : Nat) : allI b n ++ allI b m = allI b (n + m) := List.replicate_append_replicate
theorem rconv (w : World) (b : UInt8) (n : Nat) : ∃ W c, (convert 9 26 (.string ⟨(List.replicate n b).toArray⟩)).run Tryd.prog w = .ok (.slice (some ⟨w.heap.size, 0, none⟩) n c) W ∧ ByAt W (some ⟨w.heap.size, 0, none⟩) (allI b.toNat n) ∧ n ≤ c ∧ Upd [] w W := by
  obtain ⟨W, c, h1, h2, h3, h4⟩ := sconvK (w := w) ⟨(List.replicate n b).toArray⟩ (allI b.toNat n) (by
    show (List.replicate n b).toArray.toList.map _ = _
    rw [List.toList_toArray, List.map_replicate]
    rfl)
  rw [allI_len] at h1 h3
  exact ⟨W, c, h1, h2, h3, h4⟩

theorem kconvK (w : World) (cells : Array Value) (n : Nat) : (convert 26 26 (.slice (some ⟨w.heap.size, 0, none⟩) n n)).run Tryd.prog (w.alloc (.cells cells 5)) = .ok (.slice (some ⟨w.heap.size, 0, none⟩) n n) (w.alloc (.cells cells 5 (cells.size, cells.size + 1))) :=
  Lib.run_convert_bytes_const (P := Tryd.prog) w 26 5 cells n n Tryd.underlying26 Tryd.underlying5
theorem lit_atK (w : World) (xs : List Int) (m : Nat × Nat) : ByAt (w.alloc (.cells (u8s xs).toArray 5 m)) (some ⟨w.heap.size, 0, none⟩) xs := fun i x hx => ⟨w.heap.size, 0, rfl, by simp, by
  have e : (w.alloc (.cells (u8s xs).toArray 5 m)).cell? ⟨w.heap.size, 0 + i, none⟩ = (u8s xs)[i]? := by
    simp [World.cell?, World.alloc, -World.alloc_eq]
  rw [e]
  unfold u8s
  rw [List.getElem?_map, hx]
  rfl⟩
theorem kconv2K (w : World) (xs : List Int) : ∃ W, (convert 26 26 (.slice (some ⟨w.heap.size, 0, none⟩) xs.length xs.length)).run Tryd.prog (w.alloc (.cells (u8s xs).toArray 5)) = .ok (.slice (some ⟨w.heap.size, 0, none⟩) xs.length xs.length) W ∧ ByAt W (some ⟨w.heap.size, 0, none⟩) xs ∧ Upd [] w W :=
  ⟨_, kconvK w _ _, lit_atK w xs _, (Upd.refl [] w).alloc _⟩

/-- The bytes of two blocks. -/
def L2 : List Nat := [97, 98, 99, 100, 98, 99, 100, 101, 99, 100, 101, 102, 100, 101, 102, 103, 101, 102, 103, 104, 102, 103, 104, 105, 103, 104, 105, 106, 104, 105, 106, 107, 105, 106, 107, 108, 106, 107, 108, 109, 107, 108, 109, 110, 108, 109, 110, 111, 109, 110, 111, 112, 110, 111, 112, 113]
theorem bdN (L : List Nat) (h : L.all (· < 256) = true) (i : Nat) : L.getD i 0 < 256 := by
  rw [List.getD_eq_getElem?_getD]
  cases hx : L[i]? with
  | none => simp
  | some x => simpa using List.all_eq_true.1 h x (List.mem_of_getElem? hx)
theorem sha_2 : shaN L2 = [36, 141, 106, 97, 210, 6, 56, 184, 229, 192, 38, 147, 12, 62, 96, 57, 163, 60, 228, 89, 100, 255, 33, 103, 246, 236, 237, 212, 25, 219, 6, 193] := by decide +kernel
def t2k : ByteArray := ⟨#[50, 52, 56, 100, 54, 97, 54, 49, 100, 50, 48, 54, 51, 56, 98, 56, 101, 53, 99, 48, 50, 54, 57, 51, 48, 99, 51, 101, 54, 48, 51, 57, 97, 51, 51, 99, 101, 52, 53, 57, 54, 52, 102, 102, 50, 49, 54, 55, 102, 54, 101, 99, 101, 100, 100, 52, 49, 57, 100, 98, 48, 54, 99, 49]⟩
def t3k : ByteArray := ⟨#[99, 100, 99, 55, 54, 101, 53, 99, 57, 57, 49, 52, 102, 98, 57, 50, 56, 49, 97, 49, 99, 55, 101, 50, 56, 52, 100, 55, 51, 101, 54, 55, 102, 49, 56, 48, 57, 97, 52, 56, 97, 52, 57, 55, 50, 48, 48, 101, 48, 52, 54, 100, 51, 57, 99, 99, 99, 55, 49, 49, 50, 99, 100, 48]⟩
theorem hex_2 : (⟨(hexL (sha (toI L2)) 32).toArray⟩ : ByteArray) = t2k := by
  have h := hex_sha L2 _ (bdN L2 (by decide)) sha_2 rfl
  rw [h]
  decide +kernel
theorem hex_3 : (⟨(hexL (sha (allI 97 1000000)) 32).toArray⟩ : ByteArray) = t3k := by
  have h := hex_sha (List.replicate 1000000 97) _ (fun i => by
    rw [List.getD_eq_getElem?_getD]
    rcases Nat.lt_or_ge i 1000000 with hi | hi
    · rw [List.getElem?_replicate, if_pos hi]; decide
    · rw [List.getElem?_replicate, if_neg (by omega)]; decide) sha_mil rfl
  have e : allI 97 1000000 = toI (List.replicate 1000000 97) := by unfold allI toI; rw [List.map_replicate]
  rw [e, h]
  decide +kernel

end Go.Proofs.YtcfoplnickdekaaDoor
