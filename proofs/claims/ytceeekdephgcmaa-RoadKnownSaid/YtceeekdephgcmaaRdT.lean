/- RoadDoes: the walk. -/
import Derived.Test.YtceeekdephgcmaaRdS
import Derived.StillTailTactics
namespace Go.Proofs.Ytceeekdephgcmaa
open Go.RowKit Go.ChangeShapes Go.WideShapes Go.Deep

/-- A row of deeds, read only, of bytes that a machine can bear. -/
def DeedS (w : World) (lt : Nat) (q : Option Addr) (len : Nat) : Prop := ∀ i, i < len → ∃ (b off : Nat) (kd a y c : Int) (dp : Option Addr) (xs : List Int) (dc : Nat), q = some ⟨b, off, none⟩ ∧ b < lt ∧
  w.cell? ⟨b, off + i * 5, none⟩ = some (.int .i64 kd) ∧ w.cell? ⟨b, off + i * 5 + 1, none⟩ = some (.int .i64 a) ∧ w.cell? ⟨b, off + i * 5 + 2, none⟩ = some (.int .i64 y) ∧
  w.cell? ⟨b, off + i * 5 + 3, none⟩ = some (.int .u8 c) ∧ w.cell? ⟨b, off + i * 5 + 4, none⟩ = some (.slice dp xs.length dc) ∧
  (-9223372036854775808 ≤ kd ∧ kd ≤ 9223372036854775807) ∧ (-9223372036854775808 ≤ y ∧ y ≤ 9223372036854775807) ∧ BytesAt w (.slice dp xs.length dc) xs ∧ xs.length ≤ 140737488351232

theorem DeedS.upd {w w' : World} {lt : Nat} {q : Option Addr} {len : Nat} (h : DeedS w lt q len) (hlt : lt ≤ w.heap.size) (u : Upd [] w w') : DeedS w' lt q len := by
  intro i hi
  obtain ⟨b, off, kd, a, y, c, dp, xs, dc, h1, h2, c0, c1, c2, c3, c4, b0, b2, hb, hl⟩ := h i hi
  have k := fun o v (hc : w.cell? ⟨b, o, none⟩ = some v) => (u.cell (a := ⟨b, o, none⟩) (by simp; omega) (by simp)).trans hc
  exact ⟨b, off, kd, a, y, c, dp, xs, dc, h1, h2, k _ _ c0, k _ _ c1, k _ _ c2, k _ _ c3, k _ _ c4, b0, b2, hb.frame u (by simp), hl⟩

theorem open_deeds_s {H : Type} {enc : TypeId × Value → H} {P : Program} {W : World} {held : Bool} {r : Reach} {b0 : Nat} {T E I B S : TypeId} {v : Value} {d : DataW H} {p : List MemPlace} (hT : P.underlying T = some (.slice E)) (hk : P.cellsOf E = 5)
    (c0 : cellTypeAt P 20 E 0 = some I) (c1 : cellTypeAt P 20 E 1 = some I) (c2 : cellTypeAt P 20 E 2 = some I) (c3 : cellTypeAt P 20 E 3 = some B) (c4 : cellTypeAt P 20 E 4 = some S)
    (hI : P.underlying I = some (.int .i64)) (hB : P.underlying B = some (.int .u8)) (hS : P.underlying S = some (.slice B)) (hBc : P.cellsOf B = 1) (hBb : P.bytesOf B = 1)
    (ok : Value.okWide P W r b0 T v) (h : DataW.Trod enc P W 0 (fun _ => true) held T v d p) {ts : List TypeId} {ds : List (DataW H)} (ht : ts[0]? = some T) (hd : ds[0]? = some d) (hsz : (DataW.weightsEach P ts ds).all (· ≤ reachBytes) = true) :
    ∃ q len cap, v = .slice q len cap ∧ len ≤ maxLen ∧ DeedS W W.heap.size q len := by
  have hwt := weigh ht hd hsz
  obtain ⟨q, len, cap, rfl, hm, hx⟩ := open_rows_w hT hk (by omega) ok h
  refine ⟨q, len, cap, rfl, hm, fun i hi => ?_⟩
  obtain ⟨b, off, rfl, hb, hc⟩ := hx i hi
  obtain ⟨u0, _, _, e0, t0, _⟩ := hc 0 I (by omega) c0
  obtain ⟨u1, _, _, e1, t1, _⟩ := hc 1 I (by omega) c1
  obtain ⟨u2, _, _, e2, t2, _⟩ := hc 2 I (by omega) c2
  obtain ⟨u3, _, _, e3, t3, _⟩ := hc 3 B (by omega) c3
  obtain ⟨u4, _, _, e4, t4, w4⟩ := hc 4 S (by omega) c4
  obtain ⟨x0, h0, _, w0⟩ := DataW.trod_int hI t0
  obtain ⟨x1, h1, _, w1⟩ := DataW.trod_int hI t1
  obtain ⟨x2, h2, _, w2⟩ := DataW.trod_int hI t2
  obtain ⟨x3, h3, _, w3⟩ := DataW.trod_int hB t3
  obtain ⟨xs, hbx, hlx, dp, dc, hu4, hdc⟩ := trod_bytes hS hB hBc t4
  obtain rfl : u0 = .int .i64 x0 := by simpa using h0
  obtain rfl : u1 = .int .i64 x1 := by simpa using h1
  obtain rfl : u2 = .int .i64 x2 := by simpa using h2
  obtain rfl : u3 = .int .u8 x3 := by simpa using h3
  have hl : xs.length ≤ 140737488351232 := by
    rcases slice_weight hS hu4 t4 with h | ⟨n, hn, hle⟩
    · omega
    · have := hwt n (w4 n hn)
      rw [hBb] at hle; omega
  subst hu4
  exact ⟨b, off, x0, x1, x2, x3, dp, xs, dc, rfl, hb, e0, e1, e2, e3, e4, wf_i64 w0, wf_i64 w2, hbx, hl⟩

theorem Both.cells {w wr : World} {r1 r2 : Nat} {m1 m2 : List Key} {n1 n2 : Int} {av : List Nat} (h : Both w wr r1 r2 m1 n1 m2 n2 av) : ∃ p c, wr.cell? ⟨r2, 0, none⟩ = some (.slice p m2.length c) ∧ wr.cell? ⟨r2, 1, none⟩ = some (.int .i64 n2) ∧ m2.length ≤ 1024 := by
  obtain ⟨F1, F2, h1, h2, _⟩ := h
  exact h2.cells
theorem Both.len {w wr : World} {r1 r2 : Nat} {m1 m2 : List Key} {n1 n2 : Int} {av : List Nat} (h : Both w wr r1 r2 m1 n1 m2 n2 av) :
    Calls Try.prog 14 #[.pointer (some ⟨r1, 0, none⟩)] wr fun e w' => e = .returned (.int .i64 m1.length) ∧ wr = w' := by
  obtain ⟨F1, F2, h1, h2, _⟩ := h
  exact lenK h1
theorem Both.sent {w wr : World} {r1 r2 : Nat} {m1 m2 : List Key} {n1 n2 : Int} {av : List Nat} (h : Both w wr r1 r2 m1 n1 m2 n2 av) :
    Calls Try.prog 18 #[.pointer (some ⟨r1, 0, none⟩)] wr fun e w' => e = .returned (.int .i64 n1) ∧ wr = w' := by
  obtain ⟨F1, F2, h1, h2, _⟩ := h
  exact sentK h1

/-- A region's condition may be made stronger on the way. -/
theorem wpAnyH_mono {P : Program} {ops : Array Oper} {Q : Exit → Act → World → Prop} {md : Region.Mode} {S S' : World → Prop} (hs : ∀ w, S' w → S w) : ∀ (fuel : Nat) (listed : Array Bool) (a : Act) (w : World), wpAnyH P md ops Q S' fuel listed a w → wpAnyH P md ops Q S fuel listed a w
  | 0, _, _, _, h => h
  | fuel + 1, _, _, _, h => ⟨h.1, fun i hi => wpOp_mono (fun _ _ h' => ⟨hs _ h'.1, wpAnyH_mono hs fuel _ _ _ h'.2⟩) (h.2 i hi)⟩

set_option maxHeartbeats 4000000 in
set_option maxRecDepth 100000 in
theorem does_walk (q : Option Addr) (len cap : Nat) (w : World) (hd : DeedS w w.heap.size q len) (hlen : len ≤ maxLen) :
    Calls Try.prog 5 #[.slice q len cap] w fun e w' => e = .returned (.bool true) ∧ Upd [] w w' := by
  have hlen' : len ≤ 9223372036854775807 := hlen
  go_enter Try.func5, Try.ntmps5
  go_wp2_with fail
  refine (newK w).mono ?_
  rintro e w1 ⟨rfl, hK1, hu1⟩
  have hs1 := hu1.size
  go_upto_block 0 with fail
  have uD : Upd [] w1 (w1.alloc (.cells #[.slice none 0 0, .int .i64 0] 49)) := (Upd.refl [] w1).alloc _
  have hD1 : DocK (w1.alloc (.cells #[.slice none 0 0, .int .i64 0] 49)) [w1.heap.size] w1.heap.size [] 0 := DocK.new _ uD (Blk.new w1 _ _)
  have hlt1 := hK1.lt
  have hB1 : Both w (w1.alloc (.cells #[.slice none 0 0, .int .i64 0] 49)) w.heap.size w1.heap.size [] 0 [] 0 [] :=
    ⟨_, _, hK1.nil uD, hD1, fun k hk hm => by simp at hk hm; subst hk; have := hlt1 w.heap.size (by simp); omega, by simp, by simpa using hs1, hu1.trans_nil uD, by simp⟩
  clear uD hD1 hlt1 hK1 hu1 hs1
  go_cut [5] (fun _ wx => Upd [] w wx)
  case first =>
    generalize w1.heap.size = r2 at *
    go_wp2_with fail
    go_loopw [5] (fun iv wr => ∃ (i : Nat) (m : List Key) (n : Int), i ≤ 60 ∧ iv = .int .i64 i ∧ Both w wr w.heap.size r2 m n m n []) (fun iv _ => 60 - (intOf iv).toNat)
    case atStart => exact ⟨0, [], 0, by omega, rfl, hB1⟩
    case round =>
      clear hB1
      obtain ⟨i, m, n, hi60, rfl, hB⟩ := hrel
      obtain ⟨wo, rfl⟩ : ∃ wo, wo = wr := ⟨_, rfl⟩
      by_cases hil : i < len
      · by_cases hi6 : i < 60
        · obtain ⟨b, off, kd, a, y, c, dp, xs, dc, rfl, hb, e0, e1, e2, e3, e4, kd1, y1, hby, hxs⟩ := hd i hil
          have kk := fun o v (hc : w.cell? ⟨b, o, none⟩ = some v) => (hB.upd.cell (a := ⟨b, o, none⟩) (by simp; omega) (by simp)).trans hc
          have c0 := kk _ _ e0
          have c1 := kk _ _ e1
          have c2 := kk _ _ e2
          have c3 := kk _ _ e3
          have c4 := kk _ _ e4
          clear kk
          go_upto_region 5 with fail
          go_cut [51] (fun s51 wx => s51 = .bool false ∧ ∃ m' n', Both w wx w.heap.size r2 m' n' m' n' [])
          case first =>
            have ud := (Upd.refl [] wo).drew
            have hilI : (i : Int) < (len : Int) := by omega
            refine wp_region_held_drew (S := fun w' => w'.cell? ⟨b, off + i * 5, none⟩ = some (.int .i64 kd) ∧ w'.cell? ⟨b, off + i * 5 + 1, none⟩ = some (.int .i64 a) ∧ w'.cell? ⟨b, off + i * 5 + 2, none⟩ = some (.int .i64 y) ∧ w'.cell? ⟨b, off + i * 5 + 3, none⟩ = some (.int .u8 c) ∧ w'.cell? ⟨b, off + i * 5 + 4, none⟩ = some (.slice dp xs.length dc)) (by kernel_rfl) ⟨c0, c1, c2, c3, c4⟩ (fun hHeld => ?_)
            change wpAnyH _ _ _ _ _ 27 #[false, false, false, false, false, false, false, false, false, false, false, false, false, false, false, false, false, false, false, false, false, false, false, false, false, false, false] _ _
            refine wpAnyH_take (i := 0) (v := ?_) rfl (by kernel_rfl) (by kernel_rfl) (by kernel_rfl) (fun _ _ _ h => h) (Or.inl ⟨by rfl, ?_⟩) (by assumption) ?_
            rotate_left 1
            · intro w hSw; (try dsimp only at hSw); go_simp; try with_reducible rfl
            try simp only [Act.put, List.getElem_toArray, List.getElem_cons_succ, List.getElem_cons_zero, List.setIfInBounds_toArray, List.set_cons_zero, List.set_cons_succ]
            refine wpAnyH_take (i := 1) (v := ?_) rfl (by kernel_rfl) (by kernel_rfl) (by kernel_rfl) (fun _ _ _ h => h) (Or.inl ⟨by rfl, ?_⟩) (by assumption) ?_
            rotate_left 1
            · intro w hSw; (try dsimp only at hSw); go_simp; try with_reducible rfl
            try simp only [Act.put, List.getElem_toArray, List.getElem_cons_succ, List.getElem_cons_zero, List.setIfInBounds_toArray, List.set_cons_zero, List.set_cons_succ]
            refine wpAnyH_take (i := 2) (v := ?_) rfl (by kernel_rfl) (by kernel_rfl) (by kernel_rfl) (fun _ _ _ h => h) (Or.inl ⟨by rfl, ?_⟩) (by assumption) ?_
            rotate_left 1
            · intro w hSw; (try dsimp only at hSw); go_simp; try with_reducible rfl
            try simp only [Act.put, List.getElem_toArray, List.getElem_cons_succ, List.getElem_cons_zero, List.setIfInBounds_toArray, List.set_cons_zero, List.set_cons_succ]
            refine wpAnyH_take (i := 3) (v := ?_) rfl (by kernel_rfl) (by kernel_rfl) (by kernel_rfl) (fun _ _ _ h => h) (Or.inl ⟨by rfl, ?_⟩) (by assumption) ?_
            rotate_left 1
            · intro w hSw; (try dsimp only at hSw); go_simp; try with_reducible rfl
            try simp only [Act.put, List.getElem_toArray, List.getElem_cons_succ, List.getElem_cons_zero, List.setIfInBounds_toArray, List.set_cons_zero, List.set_cons_succ]
            refine wpAnyH_take (i := 4) (v := ?_) rfl (by kernel_rfl) (by kernel_rfl) (by kernel_rfl) (fun _ _ _ h => h) (Or.inl ⟨by rfl, ?_⟩) (by assumption) ?_
            rotate_left 1
            · intro w hSw; (try dsimp only at hSw); go_simp; try with_reducible rfl
            try simp only [Act.put, List.getElem_toArray, List.getElem_cons_succ, List.getElem_cons_zero, List.setIfInBounds_toArray, List.set_cons_zero, List.set_cons_succ]
            refine wpAnyH_take (i := 5) (v := ?_) rfl (by kernel_rfl) (by kernel_rfl) (by kernel_rfl) (fun _ _ _ h => h) (Or.inl ⟨by rfl, ?_⟩) (by assumption) ?_
            rotate_left 1
            · intro w hSw; (try dsimp only at hSw); go_simp; try with_reducible rfl
            try simp only [Act.put, List.getElem_toArray, List.getElem_cons_succ, List.getElem_cons_zero, List.setIfInBounds_toArray, List.set_cons_zero, List.set_cons_succ]
            refine wpAnyH_ready (rs := [6]) (by kernel_rfl) (by simp) (AllReadyH.cons rfl (fun K hK => ?_) AllReadyH.nil)
            go_simp
            refine (step_any (hB.next ud) kd a y c dp dc xs hby hxs kd1 y1).mono ?_
            rintro e w4 ⟨rfl, m', n', hB4⟩
            dsimp only
            obtain ⟨p4, q4, f0, f1, f2⟩ := hB4.cells
            have k4 := fun o v (hc : w.cell? ⟨b, o, none⟩ = some v) => (hB4.upd.cell (a := ⟨b, o, none⟩) (by simp; omega) (by simp)).trans hc
            refine hK.out _ _ ⟨k4 _ _ e0, k4 _ _ e1, k4 _ _ e2, k4 _ _ e3, k4 _ _ e4⟩ (fun _ => ?_)
            refine wpAnyH_mono (S' := fun w' => w' = w4) (fun w' hw' => by subst hw'; exact ⟨k4 _ _ e0, k4 _ _ e1, k4 _ _ e2, k4 _ _ e3, k4 _ _ e4⟩) _ _ _ _ ?_
            clear hK K c0 c1 c2 c3 c4 e0 e1 e2 e3 e4 k4 hHeld
            have hHeld : w4 = w4 := rfl
            try simp only [Act.put, List.getElem_toArray, List.getElem_cons_succ, List.getElem_cons_zero, List.setIfInBounds_toArray, List.set_cons_zero, List.set_cons_succ]
            refine wpAnyH_take (i := 7) (v := ?_) rfl (by kernel_rfl) (by kernel_rfl) (by kernel_rfl) (fun _ _ _ h => h) (Or.inl ⟨by rfl, ?_⟩) (by assumption) ?_
            rotate_left 1
            · intro w hSw; subst hSw; go_simp; try with_reducible rfl
            try simp only [Act.put, List.getElem_toArray, List.getElem_cons_succ, List.getElem_cons_zero, List.setIfInBounds_toArray, List.set_cons_zero, List.set_cons_succ]
            refine wpAnyH_take (i := 8) (v := ?_) rfl (by kernel_rfl) (by kernel_rfl) (by kernel_rfl) (fun _ _ _ h => h) (Or.inl ⟨by rfl, ?_⟩) (by assumption) ?_
            rotate_left 1
            · intro w hSw; subst hSw; go_simp; try with_reducible rfl
            try simp only [Act.put, List.getElem_toArray, List.getElem_cons_succ, List.getElem_cons_zero, List.setIfInBounds_toArray, List.set_cons_zero, List.set_cons_succ]
            refine wpAnyH_take (i := 9) (v := ?_) rfl (by kernel_rfl) (by kernel_rfl) (by kernel_rfl) (fun _ _ _ h => h) (Or.inl ⟨by rfl, ?_⟩) (by assumption) ?_
            rotate_left 1
            · intro w hSw; subst hSw; go_simp; try with_reducible rfl
            try simp only [Act.put, List.getElem_toArray, List.getElem_cons_succ, List.getElem_cons_zero, List.setIfInBounds_toArray, List.set_cons_zero, List.set_cons_succ]
            refine wpAnyH_take (i := 11) (v := ?_) rfl (by kernel_rfl) (by kernel_rfl) (by kernel_rfl) (fun _ _ _ h => h) (Or.inl ⟨by rfl, ?_⟩) (by assumption) ?_
            rotate_left 1
            · intro w hSw; subst hSw; go_simp; try with_reducible rfl
            try simp only [Act.put, List.getElem_toArray, List.getElem_cons_succ, List.getElem_cons_zero, List.setIfInBounds_toArray, List.set_cons_zero, List.set_cons_succ]
            refine wpAnyH_take (i := 12) (v := ?_) rfl (by kernel_rfl) (by kernel_rfl) (by kernel_rfl) (fun _ _ _ h => h) (Or.inl ⟨by rfl, ?_⟩) (by assumption) ?_
            rotate_left 1
            · intro w hSw; subst hSw; go_simp; try with_reducible rfl
            try simp only [Act.put, List.getElem_toArray, List.getElem_cons_succ, List.getElem_cons_zero, List.setIfInBounds_toArray, List.set_cons_zero, List.set_cons_succ]
            refine wpAnyH_take (i := 13) (v := ?_) rfl (by kernel_rfl) (by kernel_rfl) (by kernel_rfl) (fun _ _ _ h => h) (Or.inl ⟨by rfl, ?_⟩) (by assumption) ?_
            rotate_left 1
            · intro w hSw; subst hSw; go_simp; try with_reducible rfl
            try simp only [Act.put, List.getElem_toArray, List.getElem_cons_succ, List.getElem_cons_zero, List.setIfInBounds_toArray, List.set_cons_zero, List.set_cons_succ]
            refine wpAnyH_take (i := 14) (v := ?_) rfl (by kernel_rfl) (by kernel_rfl) (by kernel_rfl) (fun _ _ _ h => h) (Or.inl ⟨by rfl, ?_⟩) (by assumption) ?_
            rotate_left 1
            · intro w hSw; subst hSw; go_simp; try with_reducible rfl
            try simp only [Act.put, List.getElem_toArray, List.getElem_cons_succ, List.getElem_cons_zero, List.setIfInBounds_toArray, List.set_cons_zero, List.set_cons_succ]
            refine wpAnyH_take (i := 15) (v := ?_) rfl (by kernel_rfl) (by kernel_rfl) (by kernel_rfl) (fun _ _ _ h => h) (Or.inl ⟨by rfl, ?_⟩) (by assumption) ?_
            rotate_left 1
            · intro w hSw; subst hSw; go_simp; try with_reducible rfl
            try simp only [Act.put, List.getElem_toArray, List.getElem_cons_succ, List.getElem_cons_zero, List.setIfInBounds_toArray, List.set_cons_zero, List.set_cons_succ]
            refine wpAnyH_ready (rs := [10]) (by kernel_rfl) (by simp) (AllReadyH.cons rfl (fun K hK => ?_) AllReadyH.nil)
            go_simp
            refine hB4.len.mono ?_
            rintro e w5 ⟨rfl, rfl⟩
            dsimp only
            refine hK.out _ _ rfl (fun _ => ?_)
            clear hK K
            try simp only [Act.put, List.getElem_toArray, List.getElem_cons_succ, List.getElem_cons_zero, List.setIfInBounds_toArray, List.set_cons_zero, List.set_cons_succ]
            refine wpAnyH_take (i := 16) (v := ?_) rfl (by kernel_rfl) (by kernel_rfl) (by kernel_rfl) (fun _ _ _ h => h) (Or.inl ⟨by rfl, ?_⟩) (by assumption) ?_
            rotate_left 1
            · intro w hSw; subst hSw; go_simp; try with_reducible rfl
            try simp only [Act.put, List.getElem_toArray, List.getElem_cons_succ, List.getElem_cons_zero, List.setIfInBounds_toArray, List.set_cons_zero, List.set_cons_succ]
            refine wpAnyH_take (i := 17) (v := ?_) rfl (by kernel_rfl) (by kernel_rfl) (by kernel_rfl) (fun _ _ _ h => h) (Or.inl ⟨by rfl, ?_⟩) (by assumption) ?_
            rotate_left 1
            · intro w hSw; subst hSw; go_simp; try with_reducible rfl
            try simp only [Act.put, List.getElem_toArray, List.getElem_cons_succ, List.getElem_cons_zero, List.setIfInBounds_toArray, List.set_cons_zero, List.set_cons_succ]
            refine wpAnyH_take (i := 18) (v := ?_) rfl (by kernel_rfl) (by kernel_rfl) (by kernel_rfl) (fun _ _ _ h => h) (Or.inl ⟨by rfl, ?_⟩) (by assumption) ?_
            rotate_left 1
            · intro w hSw; subst hSw; go_simp; try with_reducible rfl
            try simp only [Act.put, List.getElem_toArray, List.getElem_cons_succ, List.getElem_cons_zero, List.setIfInBounds_toArray, List.set_cons_zero, List.set_cons_succ]
            refine wpAnyH_take (i := 19) (v := ?_) rfl (by kernel_rfl) (by kernel_rfl) (by kernel_rfl) (fun _ _ _ h => h) (Or.inl ⟨by rfl, ?_⟩) (by assumption) ?_
            rotate_left 1
            · intro w hSw; subst hSw; go_simp; try with_reducible rfl
            try simp only [Act.put, List.getElem_toArray, List.getElem_cons_succ, List.getElem_cons_zero, List.setIfInBounds_toArray, List.set_cons_zero, List.set_cons_succ]
            refine wpAnyH_take (i := 21) (v := ?_) rfl (by kernel_rfl) (by kernel_rfl) (by kernel_rfl) (fun _ _ _ h => h) (Or.inl ⟨by rfl, ?_⟩) (by assumption) ?_
            rotate_left 1
            · intro w hSw; subst hSw; go_simp; try with_reducible rfl
            try simp only [Act.put, List.getElem_toArray, List.getElem_cons_succ, List.getElem_cons_zero, List.setIfInBounds_toArray, List.set_cons_zero, List.set_cons_succ]
            refine wpAnyH_take (i := 22) (v := ?_) rfl (by kernel_rfl) (by kernel_rfl) (by kernel_rfl) (fun _ _ _ h => h) (Or.inl ⟨by rfl, ?_⟩) (by assumption) ?_
            rotate_left 1
            · intro w hSw; subst hSw; go_simp; try with_reducible rfl
            try simp only [Act.put, List.getElem_toArray, List.getElem_cons_succ, List.getElem_cons_zero, List.setIfInBounds_toArray, List.set_cons_zero, List.set_cons_succ]
            refine wpAnyH_take (i := 23) (v := ?_) rfl (by kernel_rfl) (by kernel_rfl) (by kernel_rfl) (fun _ _ _ h => h) (Or.inl ⟨by rfl, ?_⟩) (by assumption) ?_
            rotate_left 1
            · intro w hSw; subst hSw; go_simp; try with_reducible rfl
            try simp only [Act.put, List.getElem_toArray, List.getElem_cons_succ, List.getElem_cons_zero, List.setIfInBounds_toArray, List.set_cons_zero, List.set_cons_succ]
            refine wpAnyH_take (i := 24) (v := ?_) rfl (by kernel_rfl) (by kernel_rfl) (by kernel_rfl) (fun _ _ _ h => h) (Or.inl ⟨by rfl, ?_⟩) (by assumption) ?_
            rotate_left 1
            · intro w hSw; subst hSw; go_simp; try with_reducible rfl
            try simp only [Act.put, List.getElem_toArray, List.getElem_cons_succ, List.getElem_cons_zero, List.setIfInBounds_toArray, List.set_cons_zero, List.set_cons_succ]
            refine wpAnyH_ready (rs := [20]) (by kernel_rfl) (by simp) (AllReadyH.cons rfl (fun K hK => ?_) AllReadyH.nil)
            go_simp
            refine hB4.sent.mono ?_
            rintro e w5 ⟨rfl, rfl⟩
            dsimp only
            refine hK.out _ _ rfl (fun _ => ?_)
            clear hK K
            try simp only [Act.put, List.getElem_toArray, List.getElem_cons_succ, List.getElem_cons_zero, List.setIfInBounds_toArray, List.set_cons_zero, List.set_cons_succ]
            refine wpAnyH_take (i := 25) (v := ?_) rfl (by kernel_rfl) (by kernel_rfl) (by kernel_rfl) (fun _ _ _ h => h) (Or.inl ⟨by rfl, ?_⟩) (by assumption) ?_
            rotate_left 1
            · intro w hSw; subst hSw; go_simp; try with_reducible rfl
            try simp only [Act.put, List.getElem_toArray, List.getElem_cons_succ, List.getElem_cons_zero, List.setIfInBounds_toArray, List.set_cons_zero, List.set_cons_succ]
            refine wpAnyH_take (i := 26) (v := ?_) rfl (by kernel_rfl) (by kernel_rfl) (by kernel_rfl) (fun _ _ _ h => h) (Or.inl ⟨by rfl, ?_⟩) (by assumption) ?_
            rotate_left 1
            · intro w hSw; subst hSw; go_simp; try with_reducible rfl
            try simp only [Act.put, List.getElem_toArray, List.getElem_cons_succ, List.getElem_cons_zero, List.setIfInBounds_toArray, List.set_cons_zero, List.set_cons_succ]
            refine wpAnyH_done (by kernel_rfl) ?_ _
            go_wp2_with fail
            go_meet
            exact ⟨rfl, m', n', hB4⟩
          case rest =>
            clear hB c0 c1 c2 c3 c4 e0 e1 e2 e3 e4 hby hxs
            obtain ⟨rfl, m', n', hB⟩ := hcut
            have hml := hB.cells.choose_spec.choose_spec.2.2
            go_wp2_with fail
            go_loopw [6] (fun kv wr => ∃ t : Nat, t ≤ m'.length + 2 ∧ kv = .int .i64 ((t : Int) - 1) ∧ Both w wr w.heap.size r2 m' n' m' n' []) (fun kv _ => m'.length + 2 - (intOf kv + 1).toNat)
            case atStart => exact ⟨0, by omega, rfl, hB⟩
            case round =>
              clear hB
              obtain ⟨t, ht, rfl, hB⟩ := hrel
              obtain ⟨wp, rfl⟩ : ∃ wp, wp = wr := ⟨_, rfl⟩
              obtain ⟨p4, q4, f0, f1, f2⟩ := hB.cells
              by_cases htl : t < m'.length + 2
              · have htl' : (t : Int) - 1 ≤ m'.length := by omega
                go_wp2_with fail
                refine (hB.see _).mono ?_
                generalize hv : seeV m' ((t : Int) - 1) = v
                obtain ⟨A, up, zs⟩ := v
                dsimp only
                rintro e w3 ⟨dv', rfl, hob, hB3, hu3⟩
                obtain ⟨p', c', rfl⟩ := hob.form
                have hzl := hob.len_le
                have hzl' : zs.length ≤ 9223372036854775807 := hzl
                have u4 := (Upd.refl [] w3).alloc (.cells #[.int .i64 A, .bool up, .slice p' zs.length c'] 33)
                have hP4 := Blk.new w3 #[.int .i64 A, .bool up, .slice p' zs.length c'] 33
                have hB4 := hB3.grow u4 [w3.heap.size] (by simp)
                have hob4 := hob.frame u4 (by simp)
                clear hB3 hob f0 f1 hB
                go_wp2_with fail
                refine (hB4.dsee _).mono ?_
                rw [hv]
                dsimp only
                rintro e w5 ⟨dv5, rfl, hob5, hB5, hu5⟩
                obtain ⟨p5, c5, rfl⟩ := hob5.form
                have u6 := (Upd.refl [] w5).alloc (.cells #[.int .i64 A, .bool up, .slice p5 zs.length c5] 51)
                have hP6 := (hP4.upd_nil hu5).upd_nil u6
                have hob6 := (hob4.frame hu5 (by simp)).frame u6 (by simp)
                have hob7 := hob5.frame u6 (by simp)
                have hB6 := hB5.next u6
                have q0 := hP6.cell 0 rfl
                have q1 := hP6.cell 1 rfl
                have q2 := hP6.cell 2 rfl
                clear hob5 hob4 hB5 hB4 hP4
                go_wp2_with (go_at_call 20; refine (like_same A up _ hob6.at_ hob7.at_ hzl).mono ?_; rintro e w8 ⟨rfl, hu8⟩; have hP8 := hP6.upd_nil hu8; have hob8 := hob6.frame hu8 (by simp); have hB8 := hB6.next hu8)
                have hav1 : w3.heap.size ∈ [w3.heap.size] ++ ((Value.slice p' zs.length c').ownBlock.toList ++ []) := by simp
                have hav2 : ∀ k, (Value.slice p' zs.length c').ownBlock = some k → k ∈ [w3.heap.size] ++ ((Value.slice p' zs.length c').ownBlock.toList ++ []) := fun k hk => by simp [hk]
                generalize [w3.heap.size] ++ ((Value.slice p' zs.length c').ownBlock.toList ++ []) = av at hB8 hB6 hav1 hav2
                generalize w3.heap.size = tb at *
                clear hB6 hob6 hob7 hP6 q0 q1 q2 hu8 u6 hu5 u4 hu3
                go_loopw [11] (fun jv wr => ∃ (j : Nat) (ys : List Int), j ≤ zs.length ∧ jv = .int .i64 j ∧ ys.length = zs.length ∧ OwnBytes wr (.slice p' zs.length c') ys ∧ Blk wr tb [.int .i64 A, .bool up, .slice p' zs.length c'] 33 ∧ Both w wr w.heap.size r2 m' n' m' n' av) (fun jv _ => zs.length - (intOf jv).toNat)
                case atStart => exact ⟨0, zs, by omega, rfl, rfl, hob8, hP8, hB8⟩
                case round =>
                  clear hob8 hP8 hB8
                  obtain ⟨j, ys, hj, rfl, hyl, hob, hP, hB⟩ := hrel
                  obtain ⟨wz, rfl⟩ : ∃ wz, wz = wr := ⟨_, rfl⟩
                  have c2 := hP.cell 2 rfl
                  by_cases hjl : j < zs.length
                  · obtain ⟨y, hyj⟩ : ∃ y, ys[j]? = some y := ⟨_, List.getElem?_eq_getElem (by omega)⟩
                    have hown := hob.own
                    rw [hyl] at hown
                    obtain ⟨g, c5, hdd, _, _⟩ := hown.form (by omega)
                    simp only [Value.slice.injEq, true_and] at hdd
                    obtain ⟨rfl, rfl⟩ := hdd
                    have htg : tb ≠ g := fun e => blk_type hP hown (by decide) (by rw [e]; rfl)
                    have hcz : wz.cell? ⟨g, j, none⟩ = some (.int .u8 y) := by rw [hown.cellAt _ (by omega)]; simp [u8s, hyj]
                    have hfz : wz.frozen? ⟨g, j, none⟩ = false := hown.frozenAt _
                    have c2' : wz.drew.cell? _ = _ := c2
                    have hcz' : wz.drew.cell? _ = _ := hcz
                    have hfz' : wz.drew.frozen? _ = _ := hfz
                    have hst : ∀ v, 0 ≤ v ∧ v ≤ 255 → OwnBytes (wz.setCell ⟨g, j, none⟩ (.int .u8 v)).drew (.slice (some ⟨g, 0, none⟩) zs.length c') (ys.set j v) ∧ Blk (wz.setCell ⟨g, j, none⟩ (.int .u8 v)).drew tb [.int .i64 A, .bool up, .slice (some ⟨g, 0, none⟩) zs.length c'] 33 ∧ Both w (wz.setCell ⟨g, j, none⟩ (.int .u8 v)).drew w.heap.size r2 m' n' m' n' av := fun v hv => by
                      refine ⟨OwnBytes.frame (w := wz.setCell ⟨g, j, none⟩ (.int .u8 v)) ⟨?_, fun u hu => ?_⟩ ((Upd.refl [] _).drew) (by simp), (hP.set_ne ⟨g, j, none⟩ htg _).drew, hB.turned (bs := [g]) (((Upd.refl _ _).setCell (Or.inl (by simp)) _).drew) (fun x hx => by simp at hx; subst hx; exact hav2 x rfl)⟩
                      · rw [← u8s_set, List.length_set]
                        rw [hyl]
                        exact (hown.stored j (.int .u8 v)).1
                      · rcases List.mem_or_eq_of_mem_set hu with hu | rfl
                        · exact hob.bd u hu
                        · exact hv
                    have Hst := Lib.hid hst
                    have Hyj := Lib.hid hyj
                    have Hjl := Lib.hid hjl
                    clear hst hB hob hav2 hown hyj
                    go_wp2_with fail
                    go_still_tail 10, (by kernel_rfl)
                    change wpList _ _ _ _ _ wz.drew
                    go_wp2_with fail
                    obtain ⟨ho, hP', hb'⟩ := Hst.out (xorB y 255) (xorB_bd y 255)
                    have hjl2 := Hjl.out
                    exact ⟨⟨j + 1, _, by omega, by go_num, by simpa using hyl, ho, hP', hb'⟩, by simp [intOf]; omega⟩
                  · go_wp2_with fail
                    exact ⟨⟨t + 1, by omega, by go_num, hB.less (by simp)⟩, by simp [intOf]; omega⟩
              · go_wp2_with fail
                exact ⟨⟨i + 1, m', n', by omega, by go_num, hB⟩, by simp [intOf]; omega⟩
        · go_wp2_with fail
          go_meet
          exact hB.upd
      · go_wp2_with fail
        go_meet
        exact hB.upd
  case rest =>
    go_wp2_with (go_at_call 15; refine (awake_any _).mono ?_; rintro e w4 ⟨rfl, hu4⟩)
    go_ret
    exact ⟨rfl, Upd.trans_nil hcut hu4⟩
end Go.Proofs.Ytceeekdephgcmaa
