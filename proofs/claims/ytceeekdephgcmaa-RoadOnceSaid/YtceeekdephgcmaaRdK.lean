/- RoadOnce: the deeds that came in, and the list of what is under way. -/
import Derived.Test.YtceeekdephgcmaaRdJ
import Derived.Test.YtceeekdephgcmaaApp
import Derived.Test.YtceeekdephgcmaaBring
namespace Go.Proofs.Ytceeekdephgcmaa
open Go.RowKit Go.ChangeShapes Go.WideShapes Go.Deep

/-- A row of deeds, read only. -/
def DeedAt (w : World) (lt : Nat) (q : Option Addr) (len : Nat) : Prop := ∀ i, i < len → ∃ (b off : Nat) (kd a y c : Int) (dp : Option Addr) (xs : List Int) (dc : Nat), q = some ⟨b, off, none⟩ ∧ b < lt ∧
  w.cell? ⟨b, off + i * 5, none⟩ = some (.int .i64 kd) ∧ w.cell? ⟨b, off + i * 5 + 1, none⟩ = some (.int .i64 a) ∧ w.cell? ⟨b, off + i * 5 + 2, none⟩ = some (.int .i64 y) ∧
  w.cell? ⟨b, off + i * 5 + 3, none⟩ = some (.int .u8 c) ∧ w.cell? ⟨b, off + i * 5 + 4, none⟩ = some (.slice dp xs.length dc) ∧
  (-9223372036854775808 ≤ kd ∧ kd ≤ 9223372036854775807) ∧ (-9223372036854775808 ≤ a ∧ a ≤ 9223372036854775807) ∧ (-9223372036854775808 ≤ y ∧ y ≤ 9223372036854775807) ∧ (0 ≤ c ∧ c ≤ 255) ∧
  BytesAt w (.slice dp xs.length dc) xs ∧ xs.length ≤ maxLen ∧ xs.length ≤ dc

theorem DeedAt.upd {w w' : World} {lt : Nat} {q : Option Addr} {len : Nat} (h : DeedAt w lt q len) (hlt : lt ≤ w.heap.size) (u : Upd [] w w') : DeedAt w' lt q len := by
  intro i hi
  obtain ⟨b, off, kd, a, y, c, dp, xs, dc, h1, h2, c0, c1, c2, c3, c4, b0, b1, b2, b3, hb, hl⟩ := h i hi
  have k := fun o v (hc : w.cell? ⟨b, o, none⟩ = some v) => (u.cell (a := ⟨b, o, none⟩) (by simp; omega) (by simp)).trans hc
  exact ⟨b, off, kd, a, y, c, dp, xs, dc, h1, h2, k _ _ c0, k _ _ c1, k _ _ c2, k _ _ c3, k _ _ c4, b0, b1, b2, b3, hb.frame u (by simp), hl⟩

theorem open_deeds {H : Type} {enc : TypeId × Value → H} {P : Program} {W : World} {held : Bool} {r : Reach} {b0 : Nat} {T E I B S : TypeId} {v : Value} {d : DataW H} {p : List MemPlace} (hT : P.underlying T = some (.slice E)) (hk : P.cellsOf E = 5)
    (c0 : cellTypeAt P 20 E 0 = some I) (c1 : cellTypeAt P 20 E 1 = some I) (c2 : cellTypeAt P 20 E 2 = some I) (c3 : cellTypeAt P 20 E 3 = some B) (c4 : cellTypeAt P 20 E 4 = some S)
    (hI : P.underlying I = some (.int .i64)) (hB : P.underlying B = some (.int .u8)) (hS : P.underlying S = some (.slice B)) (hBc : P.cellsOf B = 1)
    (ok : Value.okWide P W r b0 T v) (h : DataW.Trod enc P W 0 (fun _ => true) held T v d p) :
    ∃ q len cap, v = .slice q len cap ∧ len ≤ maxLen ∧ DeedAt W W.heap.size q len := by
  obtain ⟨q, len, cap, rfl, hm, hx⟩ := open_rows hT hk (by omega) ok h
  refine ⟨q, len, cap, rfl, hm, fun i hi => ?_⟩
  obtain ⟨b, off, rfl, hb, hc⟩ := hx i hi
  obtain ⟨u0, _, _, e0, t0⟩ := hc 0 I (by omega) c0
  obtain ⟨u1, _, _, e1, t1⟩ := hc 1 I (by omega) c1
  obtain ⟨u2, _, _, e2, t2⟩ := hc 2 I (by omega) c2
  obtain ⟨u3, _, _, e3, t3⟩ := hc 3 B (by omega) c3
  obtain ⟨u4, _, _, e4, t4⟩ := hc 4 S (by omega) c4
  obtain ⟨x0, h0, _, w0⟩ := DataW.trod_int hI t0
  obtain ⟨x1, h1, _, w1⟩ := DataW.trod_int hI t1
  obtain ⟨x2, h2, _, w2⟩ := DataW.trod_int hI t2
  obtain ⟨x3, h3, _, w3⟩ := DataW.trod_int hB t3
  obtain ⟨xs, hbx, hlx, dp, dc, hu4, hdc⟩ := trod_bytes hS hB hBc t4
  obtain rfl : u0 = .int .i64 x0 := by simpa using h0
  obtain rfl : u1 = .int .i64 x1 := by simpa using h1
  obtain rfl : u2 = .int .i64 x2 := by simpa using h2
  obtain rfl : u3 = .int .u8 x3 := by simpa using h3
  subst hu4
  simp [Lit.wf, IntKind.min, IntKind.max, IntKind.signed, IntKind.bits] at w3
  exact ⟨b, off, x0, x1, x2, x3, dp, xs, dc, rfl, hb, e0, e1, e2, e3, e4, wf_i64 w0, wf_i64 w1, wf_i64 w2, by omega, hbx, hlx, hdc⟩

/-- One under way: its number, and how it was turned. -/
abbrev One := Nat × Int
def kOf (u : One) : Key := (1 + (u.1 : Int) % 16, ((u.1 : Int) % 2 == 0), [(u.1 : Int), xorB 7 u.2])
def oneVals (us : List One) : List Value := us.flatMap fun u => [.int .i64 u.1, .int .u8 u.2]
theorem oneVals_cons (u : One) (us : List One) : oneVals (u :: us) = .int .i64 u.1 :: .int .u8 u.2 :: oneVals us := by simp [oneVals]
theorem oneVals_app (us vs : List One) : oneVals (us ++ vs) = oneVals us ++ oneVals vs := by simp [oneVals]
theorem oneVals_len (us : List One) : (oneVals us).length = us.length * 2 := by
  induction us with
  | nil => rfl
  | cons a l ih => rw [oneVals_cons]; simp [ih]; omega
theorem oneVals_get (us : List One) (i : Nat) (u : One) (h : us[i]? = some u) : (oneVals us)[i * 2]? = some (.int .i64 u.1) ∧ (oneVals us)[i * 2 + 1]? = some (.int .u8 u.2) := by
  induction us generalizing i with
  | nil => simp at h
  | cons a l ih =>
    cases i with
    | zero => simp at h; subst h; simp [oneVals_cons]
    | succ i =>
      have := ih i (by simpa using h)
      rw [show (i + 1) * 2 = i * 2 + 1 + 1 by omega, oneVals_cons]
      exact this
theorem oneVals_one (us : List One) : ∀ u ∈ oneVals us, u.oneCell' = true := by
  intro u hu
  simp only [oneVals, List.mem_flatMap] at hu
  obtain ⟨p, _, hu⟩ := hu
  simp at hu
  rcases hu with rfl | rfl <;> rfl
theorem oneVals_set (us : List One) (i n : Nat) (b c : Int) (h : us[i]? = some (n, b)) : (oneVals us).set (i * 2 + 1) (.int .u8 c) = oneVals (us.set i (n, c)) := by
  induction us generalizing i with
  | nil => simp at h
  | cons a l ih =>
    cases i with
    | zero => simp at h; subst h; simp [oneVals_cons]
    | succ i =>
      rw [show (i + 1) * 2 + 1 = i * 2 + 1 + 1 + 1 by omega, oneVals_cons]
      simp only [List.set_cons_succ]
      rw [ih i (by simpa using h), oneVals_cons]

theorem stored_at_ {w : World} {b : Nat} {us : List One} {uv : Value} (h : w.ownsRow b 35 2 uv us.length (oneVals us)) {g cap : Nat} (hg : uv = .slice (some ⟨g, 0, none⟩) us.length cap) {k n : Nat} {y : Int} (hk : us[k]? = some (n, y)) (c : Int) :
    (w.setCell ⟨g, k * 2 + 1, none⟩ (.int .u8 c)).ownsRow b 35 2 uv (us.set k (n, c)).length (oneVals (us.set k (n, c))) := by
  subst hg
  rw [← oneVals_set us k n y c hk, List.length_set]
  exact (h.stored (k * 2 + 1) (.int .u8 c)).1

/-- What holds between two deeds: the road has rs, the list us. -/
structure OnceAt (w wr : World) (uv : Value) (rs us : List One) : Prop where
  road : ∃ F n, RoadK wr F w.heap.size (rs.map kOf) n ∧ ∀ k ∈ F, w.heap.size ≤ k
  row : wr.ownsRow w.heap.size 35 2 uv us.length (oneVals us)
  bd : ∀ u ∈ us, u.1 < 60 ∧ 0 ≤ u.2 ∧ u.2 ≤ 255
  upd : Upd [] w wr

theorem OnceAt.next {w wr wq : World} {uv : Value} {rs us : List One} (h : OnceAt w wr uv rs us) (u : Upd [] wr wq) : OnceAt w wq uv rs us := by
  obtain ⟨F, n, hK, hF⟩ := h.road
  exact ⟨⟨F, n, hK.nil u, hF⟩, own_frame h.row u (by simp), h.bd, h.upd.trans_nil u⟩

theorem OnceAt.form {w wr : World} {uv : Value} {rs us : List One} (h : OnceAt w wr uv rs us) : ∃ p c, uv = .slice p us.length c := by
  rcases h.row.2 with ⟨h1, h2⟩ | ⟨g, cap, cur, h1, _⟩
  · exact ⟨none, 0, by rw [h1, h2]⟩
  · exact ⟨_, cap, h1⟩

theorem OnceAt.cells {w wr : World} {uv : Value} {rs us : List One} (h : OnceAt w wr uv rs us) {k : Nat} {u : One} (hk : us[k]? = some u) : ∃ g c, uv = .slice (some ⟨g, 0, none⟩) us.length c ∧ us.length ≤ c ∧ w.heap.size ≤ g ∧ g < wr.heap.size ∧ wr.cell? ⟨g, k * 2, none⟩ = some (.int .i64 u.1) ∧ wr.cell? ⟨g, k * 2 + 1, none⟩ = some (.int .u8 u.2) ∧ ∀ j, wr.frozen? ⟨g, j, none⟩ = false := by
  have hi : k < us.length := (List.getElem?_eq_some_iff.1 hk).1
  obtain ⟨g, cap, rfl, hg1, hg2⟩ := h.row.form (by omega)
  obtain ⟨h1, h2⟩ := oneVals_get us k u hk
  have hcap : us.length ≤ cap := by
    rcases h.row.2 with ⟨h1, _⟩ | ⟨g', cap', cur, h1, _, _, hnc, _⟩
    · simp at h1
    · simp at h1; omega
  exact ⟨g, cap, rfl, hcap, hg1, hg2, by rw [h.row.cellAt _ (by omega)]; exact h1, by rw [h.row.cellAt _ (by omega)]; exact h2, fun j => h.row.frozenAt _⟩

theorem OnceAt.turnRoad {w wr wq : World} {uv : Value} {rs us rs' : List One} (h : OnceAt w wr uv rs us) {F F' : List Nat} {n : Int} (hF : ∀ k ∈ F, w.heap.size ≤ k) (hK : RoadK wr F w.heap.size (rs.map kOf) n) {n' : Int} (hK' : RoadK wq F' w.heap.size (rs'.map kOf) n')
    (hF' : ∀ k ∈ F', k ∈ F ∨ wr.heap.size ≤ k) (u : Upd F wr wq) : OnceAt w wq uv rs' us :=
  ⟨⟨F', n', hK', fun k hk => (hF' k hk).elim (hF k) (fun h' => Nat.le_trans h.upd.size h')⟩, own_frame h.row u (fun k hk => hK.not_own h.row (by decide) hk), h.bd, h.upd.trans u (fun x hx => .inr (hF x hx))⟩

theorem kOf_new (i : Nat) : kOf (i, 0) = (1 + (i : Int) % 16, ((i : Int) % 2 == 0), [(i : Int), 7]) := by
  unfold kOf
  have : xorB 7 0 = 7 := by decide
  simp only [this]

theorem OnceAt.send {w wr : World} {uv : Value} {rs us : List One} (h : OnceAt w wr uv rs us) (i : Nat) (hl : rs.length ≤ 60) (dv : Value) (hb : BytesAt wr dv [(i : Int), 7]) :
    Calls Try.prog 9 #[.pointer (some ⟨w.heap.size, 0, none⟩), .agg #[.int .i64 (1 + (i : Int) % 16), .bool ((i : Int) % 2 == 0), dv]] wr fun e w' => e = .returned (.int .i64 0) ∧ OnceAt w w' uv (rs ++ [(i, 0)]) us := by
  obtain ⟨F, n, hK, hF⟩ := h.road
  have hc : sendCode (1 + (i : Int) % 16) [(i : Int), 7].length (rs.map kOf).length = 0 := by
    unfold sendCode; rw [if_neg (by omega), if_neg (by simp), if_neg (by simp; omega)]
  refine (sendK hK _ _ dv _ hb (by simp)).mono ?_
  rw [hc]
  rintro e w' ⟨rfl, ⟨F', hK', hF'⟩, hu⟩
  refine ⟨rfl, h.turnRoad hF hK (rs' := rs ++ [(i, 0)]) (by unfold sendM at hK'; rw [if_pos hc] at hK'; rw [List.map_append, List.map_cons, kOf_new]; exact hK') hF' hu⟩

/-- Blocks of other types are as they were. -/
def Keeps (w w' : World) : Prop := ∀ b cs T, Blk w b cs T → (T ≠ 57 ∧ T ≠ 33 ∧ T ≠ 5) → Blk w' b cs T
theorem keeps_of {w w' : World} {F : List Nat} {r : Nat} {m : List Key} {n : Int} (hK : RoadK w F r m n) (u : Upd F w w') : Keeps w w' := by
  intro b cs T hB hT
  refine hB.upd u (fun hm => ?_)
  obtain ⟨cs', T', fr, h1, h2⟩ := hK.types b hm
  unfold Blk at hB
  rw [hB] at h1
  simp at h1
  rcases h2 with h2 | h2 | h2 <;> simp_all

theorem once_see {rs : List One} {k : Nat} {u : One} (hk : rs[k]? = some u) : seeIs (rs.map kOf) (k : Int) = true ∧ seeV (rs.map kOf) (k : Int) = kOf u := by
  have hlt : k < rs.length := (List.getElem?_eq_some_iff.1 hk).1
  have h1 : seeIs (rs.map kOf) (k : Int) = true := by unfold seeIs; simp; omega
  refine ⟨h1, ?_⟩
  unfold seeV; rw [if_pos h1]
  simp [List.getD_eq_getElem?_getD, hk]

theorem OnceAt.takes {w wr : World} {uv : Value} {rs us : List One} (h : OnceAt w wr uv rs us) (k : Nat) (u : One) (hk : rs[k]? = some u) :
    Calls Try.prog 10 #[.pointer (some ⟨w.heap.size, 0, none⟩), .int .i64 k, .int .i64 (1 + (u.1 : Int) % 16), .bool ((u.1 : Int) % 2 == 0), .string (strOfNums [(u.1 : Int), xorB 7 u.2])] wr fun e w' => e = .returned (.bool true) ∧ OnceAt w w' uv (rs.eraseIdx k) us := by
  obtain ⟨F, n, hK, hF⟩ := h.road
  obtain ⟨h1, h2⟩ := once_see hk
  refine (takesK hK k _ _ _ h1 h2).mono ?_
  rintro e w' ⟨rfl, ⟨F', hK', hF'⟩, hu⟩
  refine ⟨rfl, h.turnRoad hF hK (rs' := rs.eraseIdx k) (n' := n) ?_ (fun k hk => .inl (hF' k hk)) hu⟩
  unfold takeM at hK'
  rw [if_pos h1] at hK'
  have e : (rs.map kOf).eraseIdx (k : Int).toNat = (rs.eraseIdx k).map kOf := by
    rw [List.eraseIdx_eq_take_drop_succ, List.eraseIdx_eq_take_drop_succ, List.map_append, List.map_take, List.map_drop]; rfl
  rw [e] at hK'; exact hK'

theorem OnceAt.dbl {w wr : World} {uv : Value} {rs us : List One} (h : OnceAt w wr uv rs us) (k : Nat) (u : One) (hk : rs[k]? = some u) (hl : rs.length ≤ 60) :
    Calls Try.prog 11 #[.pointer (some ⟨w.heap.size, 0, none⟩), .int .i64 k] wr fun e w' => e = .returned (.int .i64 0) ∧ OnceAt w w' uv (rs ++ [u]) us ∧ Keeps wr w' := by
  obtain ⟨F, n, hK, hF⟩ := h.road
  obtain ⟨h1, h2⟩ := once_see hk
  have hc : dblCode (rs.map kOf) (k : Int) = 0 := by unfold dblCode; rw [if_pos h1, if_neg (by simp; omega)]
  refine (dblK hK k).mono ?_
  rw [hc]
  rintro e w' ⟨rfl, ⟨F', hK', hF'⟩, hu⟩
  refine ⟨rfl, h.turnRoad hF hK (rs' := rs ++ [u]) (by unfold dblM at hK'; rw [if_pos hc, h2] at hK'; rw [List.map_append]; exact hK') hF' hu, keeps_of hK hu⟩

theorem xorB_bits (a b c : Int) (ha : 0 ≤ a ∧ a ≤ 255) (hb : 0 ≤ b ∧ b ≤ 255) (hc : 0 ≤ c ∧ c ≤ 255) : xorB (xorB a b) c = xorB a (xorB b c) := by
  obtain ⟨x, rfl⟩ : ∃ x : Nat, a = x := ⟨a.toNat, by omega⟩
  obtain ⟨y, rfl⟩ : ∃ y : Nat, b = y := ⟨b.toNat, by omega⟩
  obtain ⟨z, rfl⟩ : ∃ z : Nat, c = z := ⟨c.toNat, by omega⟩
  have h1 : x ^^^ y < 2 ^ 8 := Nat.xor_lt_two_pow (by omega) (by omega)
  have h2 : y ^^^ z < 2 ^ 8 := Nat.xor_lt_two_pow (by omega) (by omega)
  rw [xorB_nat x y (by omega) (by omega), xorB_nat _ z (by omega) (by omega), xorB_nat y z (by omega) (by omega), xorB_nat x _ (by omega) (by omega), Nat.xor_assoc]

theorem OnceAt.turn {w wr : World} {uv : Value} {rs us : List One} (h : OnceAt w wr uv rs us) (k : Nat) (n : Nat) (b c : Int) (hk : rs[k]? = some (n, b)) (hb : 0 ≤ b ∧ b ≤ 255) (hc : 0 ≤ c ∧ c ≤ 255) :
    Calls Try.prog 12 #[.pointer (some ⟨w.heap.size, 0, none⟩), .int .i64 k, .int .i64 1, .int .u8 c] wr fun e w' => e = .returned (.int .i64 0) ∧ OnceAt w w' uv (rs.set k (n, xorB b c)) us ∧ Keeps wr w' := by
  obtain ⟨F, m, hK, hF⟩ := h.road
  obtain ⟨h1, h2⟩ := once_see hk
  have ht : turnCode (rs.map kOf) (k : Int) 1 = 0 := by unfold turnCode; rw [if_pos ⟨h1, by omega, by rw [h2]; simp [kOf]⟩]
  refine (turnK hK k 1 c).mono ?_
  rw [ht]
  rintro e w' ⟨rfl, ⟨F', hK', hF'⟩, hu⟩
  refine ⟨rfl, h.turnRoad hF hK (rs' := rs.set k (n, xorB b c)) (n' := m) ?_ (fun k hk => .inl (hF' k hk)) hu, keeps_of hK hu⟩
  unfold turnM at hK'
  rw [if_pos ht, h2] at hK'
  have e : (rs.map kOf).set (k : Int).toNat (turnV (kOf (n, b)) 1 c) = (rs.set k (n, xorB b c)).map kOf := by
    rw [List.map_set]
    have : turnV (kOf (n, b)) 1 c = kOf (n, xorB b c) := by
      unfold turnV kOf
      simp [xorB_bits 7 b c (by omega) hb hc]
    rw [this]; rfl
  rw [e] at hK'; exact hK'

theorem OnceAt.see {w wr : World} {uv : Value} {rs us : List One} (h : OnceAt w wr uv rs us) (k : Nat) (u : One) (hk : rs[k]? = some u) :
    Calls Try.prog 13 #[.pointer (some ⟨w.heap.size, 0, none⟩), .int .i64 k] wr fun e w' =>
      (∃ g c, e = .returned (.tuple #[.agg #[.int .i64 (1 + (u.1 : Int) % 16), .bool ((u.1 : Int) % 2 == 0), .slice (some ⟨g, 0, none⟩) 2 c], .bool true]) ∧ w'.cell? ⟨g, 0, none⟩ = some (.int .u8 u.1) ∧ w'.cell? ⟨g, 1, none⟩ = some (.int .u8 (xorB 7 u.2))) ∧ OnceAt w w' uv rs us ∧ Upd [] wr w' := by
  obtain ⟨F, n, hK, hF⟩ := h.road
  obtain ⟨h1, h2⟩ := once_see hk
  have := seeK hK k
  rw [h1, h2] at this
  refine this.mono ?_
  rintro e w' ⟨⟨dv', rfl, hob, hfr⟩, hu⟩
  obtain ⟨g, c, hdv, _, _⟩ := hob.own.form (by simp [kOf])
  subst hdv
  refine ⟨⟨g, c, rfl, ?_, ?_⟩, h.next hu, hu⟩
  · rw [hob.own.cellAt _ (by simp [kOf])]; simp [kOf, u8s]
  · rw [hob.own.cellAt _ (by simp [kOf])]; simp [kOf, u8s]

theorem OnceAt.len {w wr : World} {uv : Value} {rs us : List One} (h : OnceAt w wr uv rs us) :
    Calls Try.prog 14 #[.pointer (some ⟨w.heap.size, 0, none⟩)] wr fun e w' => e = .returned (.int .i64 rs.length) ∧ wr = w' := by
  obtain ⟨F, n, hK, hF⟩ := h.road
  have := lenK hK
  rw [List.length_map] at this
  exact this

theorem OnceAt.push {w wr wq : World} {uv : Value} {rs us : List One} (h : OnceAt w wr uv rs us) (u : One) (hu : u.1 < 60 ∧ 0 ≤ u.2 ∧ u.2 ≤ 255) {p' : Option Addr} {c' : Nat}
    (hown : wq.ownsRow w.heap.size 35 2 (.slice p' (us.length + 1) c') (us.length + 1) (oneVals us ++ [.int .i64 u.1, .int .u8 u.2])) (hg : wr.grownBy wq uv.ownBlock) : OnceAt w wq (.slice p' (us.length + 1) c') rs (us ++ [u]) := by
  obtain ⟨F, n, hK, hF⟩ := h.road
  have ug : Upd uv.ownBlock.toList wr wq := (Upd.refl _ _).grown hg (fun k hk => .inl (by simp [hk]))
  refine ⟨⟨F, n, hK.frame ug (fun k hk hm => hK.not_own h.row (by decide) (by simpa [Option.mem_toList] using hm) hk), hF⟩, ?_, fun v hv => ?_, h.upd.grown_own hg h.row⟩
  · rw [List.length_append, oneVals_app]; exact hown
  · rcases List.mem_append.1 hv with hv | hv
    · exact h.bd v hv
    · simp at hv; subst hv; exact hu

/-- Another row in the list's place. -/
theorem OnceAt.swap {w wr wq : World} {uv uv' : Value} {rs us us' : List One} (h : OnceAt w wr uv rs us) (u : Upd [] wr wq) (hown : wq.ownsRow w.heap.size 35 2 uv' us'.length (oneVals us')) (hs : ∀ v ∈ us', v ∈ us) : OnceAt w wq uv' rs us' := by
  have h' := h.next u
  exact ⟨h'.road, hown, fun v hv => h.bd v (hs v hv), h'.upd⟩

theorem OnceAt.store {w wr : World} {uv : Value} {rs us : List One} (h : OnceAt w wr uv rs us) {k : Nat} {n : Nat} {b c : Int} (hk : us[k]? = some (n, b)) {g cap : Nat} (hg : uv = .slice (some ⟨g, 0, none⟩) us.length cap) (hc : 0 ≤ c ∧ c ≤ 255) :
    OnceAt w (wr.setCell ⟨g, k * 2 + 1, none⟩ (.int .u8 c)) uv rs (us.set k (n, c)) := by
  obtain ⟨F, m, hK, hF⟩ := h.road
  have ug : Upd [g] wr (wr.setCell ⟨g, k * 2 + 1, none⟩ (.int .u8 c)) := (Upd.refl _ _).setCell (Or.inl (by simp)) _
  have hgo : uv.ownBlock = some g := by rw [hg]; rfl
  have hge := (h.row.lt g hgo).1
  refine ⟨⟨F, m, hK.frame ug (fun x hx hm => hK.not_own h.row (by decide) (by simp at hm; rw [hm]; exact hgo) hx), hF⟩, ?_, fun v hv => ?_, h.upd.trans ug (fun x hx => .inr (by simp at hx; omega))⟩
  · exact stored_at_ h.row hg hk c
  · rcases List.mem_or_eq_of_mem_set hv with hv | rfl
    · exact h.bd v hv
    · exact ⟨(h.bd _ (List.mem_of_getElem? hk)).1, hc⟩

theorem oneVals_take (us : List One) (k : Nat) (hk : k ≤ us.length) : oneVals (us.take k) = (oneVals us).take (k * 2) := by
  conv => rhs; rw [← List.take_append_drop k us, oneVals_app]
  rw [List.take_left' (by rw [oneVals_len, List.length_take]; omega)]
theorem oneVals_drop (us : List One) (k : Nat) (hk : k ≤ us.length) : oneVals (us.drop k) = (oneVals us).drop (k * 2) := by
  conv => rhs; rw [← List.take_append_drop k us, oneVals_app]
  rw [List.drop_left' (by rw [oneVals_len, List.length_take]; omega)]

theorem OnceAt.srcTake {w wr : World} {rs us : List One} {g cu : Nat} (h : OnceAt w wr (.slice (some ⟨g, 0, none⟩) us.length cu) rs us) (k : Nat) (hk : k ≤ us.length) : Src wr (some ⟨g, 0, none⟩) k (oneVals (us.take k)) := by
  have := Src.own h.row (off := 0) (m := k) (by omega) g (fun _ => rfl)
  simp only [Nat.zero_mul, List.drop_zero] at this
  rw [oneVals_take us k hk]; exact this
theorem OnceAt.srcDrop {w wr : World} {rs us : List One} {g cu : Nat} (h : OnceAt w wr (.slice (some ⟨g, 0, none⟩) us.length cu) rs us) (k m : Nat) (hk : k + m = us.length) : Src wr (some ⟨g, k * 2, none⟩) m (oneVals (us.drop k)) := by
  have := Src.own h.row (off := k) (m := m) (by omega) g (fun _ => rfl)
  rw [oneVals_drop us k (by omega)]
  rw [List.take_of_length_le (by rw [List.length_drop, oneVals_len]; omega)] at this
  exact this
theorem oneVals_erase (us : List One) (k : Nat) : oneVals (us.take k) ++ oneVals (us.drop (k + 1)) = oneVals (us.eraseIdx k) := by
  rw [← oneVals_app, List.eraseIdx_eq_take_drop_succ]

end Go.Proofs.Ytceeekdephgcmaa
