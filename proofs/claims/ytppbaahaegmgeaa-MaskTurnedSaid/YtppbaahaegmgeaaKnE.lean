/- SHA-256: a knot in memory; New, none, Add. -/
import Derived.Test.YtppbaahaegmgeaaKnD
import Derived.Test.YtppbaahaegmgeaaByt
import Derived.Outline
namespace Go.Proofs.Ytppbaahaegmgeaa
open Go.RowKit

def byteF (l : List Int) (n : Nat) : Nat → Int := fun i => l.getD (64 * n + i) 0
/-- Eight words, n blocks of l on. -/
def comp (s : Nat → Int) (l : List Int) : Nat → (Nat → Int)
  | 0 => s
  | n + 1 => tieF K0 (byteF l n) (comp s l n)
theorem comp_bd (l : List Int) (n j : Nat) : 0 ≤ comp H0 l n j ∧ comp H0 l n j < 4294967296 := by
  cases n with
  | zero => exact H0_bd j
  | succ n => show 0 ≤ tieF _ _ _ j ∧ tieF _ _ _ j < _; unfold tieF; omega

theorem wIn_congr {B C : Nat → Int} : ∀ (n : Nat), n ≤ 64 → (∀ i, i < n → B i = C i) → wIn B n = wIn C n
  | 0, _, _ => rfl
  | n + 1, hn, h => by
    unfold wIn
    rw [wIn_congr n (by omega) (fun i hi => h i (by omega)), h n (by omega)]
theorem tieF_congr {K B C s : Nat → Int} (h : ∀ i, i < 64 → B i = C i) : tieF K B s = tieF K C s := by
  unfold tieF
  rw [wIn_congr 64 (Nat.le_refl _) h]
theorem comp_app (s : Nat → Int) (l xs : List Int) : ∀ n, 64 * n ≤ l.length → comp s (l ++ xs) n = comp s l n
  | 0, _ => rfl
  | n + 1, h => by
    show tieF _ _ _ = tieF _ _ _
    rw [comp_app s l xs n (by omega)]
    refine tieF_congr fun i hi => ?_
    unfold byteF
    rw [List.getD_eq_getElem?_getD, List.getD_eq_getElem?_getD, List.getElem?_append_left (by omega)]

def knotCells (rb : Nat) (s : Nat → Int) (left : Value) (n : Nat) : List Value :=
  [.pointer (some ⟨rb, 0, none⟩), .int .u32 (s 0), .int .u32 (s 1), .int .u32 (s 2), .int .u32 (s 3), .int .u32 (s 4), .int .u32 (s 5), .int .u32 (s 6), .int .u32 (s 7), left, .int .i64 n]

/-- A knot at block kb, of the bytes l; what it has left lies at B or above. -/
structure KnotAt (w : World) (B kb : Nat) (l : List Int) : Prop where
  rng : Rng l
  ex : ∃ rb p c, Blk w kb (knotCells rb (comp H0 l (l.length / 64)) (.slice p (l.length % 64) c) l.length) 87 ∧ Blk w rb (wrow 72 rowsF) 85 ∧
    ByAt w p (l.drop (64 * (l.length / 64))) ∧ (∀ b o, p = some ⟨b, o, none⟩ → B ≤ b) ∧ l.length % 64 ≤ c

theorem KnotAt.lt {w : World} {B kb : Nat} {l : List Int} (h : KnotAt w B kb l) : kb < w.heap.size := by
  obtain ⟨_, rb, p, c, hk, _⟩ := h
  exact hk.lt
theorem blk_ne {w : World} {a b : Nat} {cs ds : List Value} {S T : TypeId} (h : Blk w a cs S) (k : Blk w b ds T) (hne : S ≠ T) : a ≠ b := by
  intro e
  subst e
  unfold Blk at h k
  rw [h] at k
  injection k with k
  injection k with _ k
  exact hne k
/-- What writes below B, and neither the knot nor its rows. -/
theorem KnotAt.upd {w w' : World} {B kb : Nat} {l : List Int} (h : KnotAt w B kb l) {bs : List Nat} (u : Upd bs w w') (hb : ∀ x ∈ bs, x ≠ kb ∧ x < B ∧ ∀ cs, ¬ Blk w x cs 85) : KnotAt w' B kb l := by
  obtain ⟨hr, rb, p, c, h1, h2, h3, h4, h5⟩ := h
  refine ⟨hr, rb, p, c, h1.upd u (fun hx => (hb _ hx).1 rfl), h2.upd u (fun hx => (hb _ hx).2.2 _ h2), h3.upd u (fun b o e hx => ?_), h4, h5⟩
  have := h4 b o e
  have := (hb _ hx).2.1
  omega
theorem KnotAt.upd_nil {w w' : World} {B kb : Nat} {l : List Int} (h : KnotAt w B kb l) (u : Upd [] w w') : KnotAt w' B kb l := h.upd u (fun x hx => absurd hx (by simp))
theorem KnotAt.mono {w : World} {B C kb : Nat} {l : List Int} (h : KnotAt w B kb l) (hc : C ≤ B) : KnotAt w C kb l := by
  obtain ⟨hr, rb, p, c, h1, h2, h3, h4, h5⟩ := h
  exact ⟨hr, rb, p, c, h1, h2, h3, fun b o e => Nat.le_trans hc (h4 b o e), h5⟩

theorem knot_u8 {rb n o : Nat} {s : Nat → Int} {v : Value} {x : Int} (hv : ∀ x, v ≠ .int .u8 x) : (knotCells rb s v n)[o]? ≠ some (.int .u8 x) := by
  intro h
  match o, h with
  | 0, h => simp [knotCells] at h
  | 1, h => simp [knotCells] at h
  | 2, h => simp [knotCells] at h
  | 3, h => simp [knotCells] at h
  | 4, h => simp [knotCells] at h
  | 5, h => simp [knotCells] at h
  | 6, h => simp [knotCells] at h
  | 7, h => simp [knotCells] at h
  | 8, h => simp [knotCells] at h
  | 9, h => simp [knotCells] at h; exact hv x h
  | 10, h => simp [knotCells] at h
  | n + 11, h => simp [knotCells] at h
/-- A row of bytes stands in another block than cells that are no bytes. -/
theorem ByAt.upd_ne {w w' : World} {p : Option Addr} {xs : List Int} (h : ByAt w p xs) {kb : Nat} {cs : List Value} {T : TypeId} (hk : Blk w kb cs T) (hc : ∀ (o : Nat) (x : Int), cs[o]? ≠ some (.int .u8 x)) (u : Upd [kb] w w') : ByAt w' p xs := by
  by_cases h0 : xs.length = 0
  · obtain rfl : xs = [] := List.eq_nil_of_length_eq_zero h0
    exact ByAt.nil _ _
  · refine h.upd u (fun b o e hb => ?_)
    subst e
    obtain rfl : b = kb := by simpa using hb
    have h1 := h.cell 0 (by omega)
    unfold Blk at hk
    simp only [World.cell?, hk, List.size_toArray] at h1
    exact hc _ _ (by simpa using h1)

theorem ByAt.ne {w : World} {g o : Nat} {xs : List Int} (h : ByAt w (some ⟨g, o, none⟩) xs) (h0 : 0 < xs.length) {kb : Nat} {cs : List Value} {T : TypeId} (hk : Blk w kb cs T) (hc : ∀ (o : Nat) (x : Int), cs[o]? ≠ some (.int .u8 x)) : g ≠ kb := by
  intro e
  subst e
  have h1 := h.cell 0 h0
  unfold Blk at hk
  simp only [World.cell?, hk, List.size_toArray] at h1
  exact hc _ _ (by simpa using h1)
theorem wrow_u8 {n o : Nat} {f : Nat → Int} {x : Int} : (wrow n f)[o]? ≠ some (.int .u8 x) := by
  unfold wrow row
  rw [List.getElem?_map]
  cases (List.range n)[o]? <;> simp

theorem none_no {w : World} {kb rb n : Nat} {s : Nat → Int} {v : Value} (h : Blk w kb (knotCells rb s v n) 87) :
    Calls Try.prog 53 #[.pointer (some ⟨kb, 0, none⟩)] w fun e w' => e = .returned (.bool false) ∧ w = w' := by
  have c0 := h.cell 0 rfl
  go_enter Try.func53, Try.ntmps53
  go_wp2_with fail
  go_ret
  exact ⟨rfl, rfl⟩
theorem none_nil (w : World) : Calls Try.prog 53 #[.pointer none] w fun e w' => e = .returned (.bool true) ∧ w = w' := by
  go_enter Try.func53, Try.ntmps53
  go_wp2_with fail
  go_ret
  exact ⟨rfl, rfl⟩

set_option maxHeartbeats 4000000 in
set_option maxRecDepth 100000 in
theorem new_walk (w : World) :
    Calls Try.prog 43 #[] w fun e w' => ∃ kb, e = .returned (.pointer (some ⟨kb, 0, none⟩)) ∧ w.heap.size ≤ kb ∧ Upd [] w w' ∧ ∀ B, KnotAt w' B kb [] := by
  go_enter Try.func43, Try.ntmps43
  go_upto_region 2 with (go_at_call 52; refine (made_walk _).mono ?_; rintro e w1 ⟨rfl, u1, hB⟩)
  have hs := u1.size
  have c0 := hB.cell 0 (wrow_get _ (by omega))
  have c1 := hB.cell 1 (wrow_get _ (by omega))
  have c2 := hB.cell 2 (wrow_get _ (by omega))
  have c3 := hB.cell 3 (wrow_get _ (by omega))
  have c4 := hB.cell 4 (wrow_get _ (by omega))
  have c5 := hB.cell 5 (wrow_get _ (by omega))
  have c6 := hB.cell 6 (wrow_get _ (by omega))
  have c7 := hB.cell 7 (wrow_get _ (by omega))
  go_wp2_with fail
  go_ret
  have hN := Blk.new w1 (knotCells w.heap.size rowsF (.slice none 0 0) 0).toArray 87
  refine ⟨w1.heap.size, rfl, hs, u1.alloc _, fun B => ⟨Rng.nil, w.heap.size, none, 0, hN, hB.alloc _, ByAt.nil _ _, (fun b o e => nomatch e), Nat.le_refl _⟩⟩

def lenOf : Value → Nat
  | .slice _ n _ => n
  | _ => 0

theorem rows_K (i : Nat) (hi : i < 64) : rowsF (8 + i) = K0 i := by
  unfold rowsF mk
  rw [if_neg (by omega), show 8 + i - 8 = i by omega, if_pos hi]

set_option maxHeartbeats 4000000 in
set_option maxRecDepth 100000 in
theorem add_walk {w : World} {B kb : Nat} {l : List Int} (hK : KnotAt w B kb l) (p : Option Addr) (xs : List Int) (c : Nat) (hx : ByAt w p xs) (hr : Rng xs) (hl : l.length + xs.length ≤ 140737488355328) :
    Calls Try.prog 44 #[.pointer (some ⟨kb, 0, none⟩), .slice p xs.length c] w fun e w' => e = .returned (.tuple #[]) ∧ Upd [kb] w w' ∧ KnotAt w' w.heap.size kb (l ++ xs) := by
  obtain ⟨hrl, rb, q, d, hk, hrb, hq, hqB, hd⟩ := hK
  have c9 := hk.cell 9 rfl
  have c10 := hk.cell 10 rfl
  have f10 := hk.free 10
  have hne : rb ≠ kb := blk_ne hrb hk (by decide)
  go_enter Try.func44, Try.ntmps44
  go_upto_region 2 with (go_at_call 53; refine (none_no hk).mono ?_; rintro e w1 ⟨rfl, rfl⟩)
  have u1 := (Upd.refl [kb] w).setCell (p := ⟨kb, 10, none⟩) (Or.inl (by simp)) (.int .i64 ((l.length : Int) + xs.length))
  have hk1 : Blk (w.setCell ⟨kb, 10, none⟩ (.int .i64 ((l.length : Int) + xs.length))) kb (knotCells rb (comp H0 l (l.length / 64)) (.slice q (l.length % 64) d) (l ++ xs).length) 87 := by
    rw [show knotCells rb (comp H0 l (l.length / 64)) (.slice q (l.length % 64) d) (l ++ xs).length = (knotCells rb (comp H0 l (l.length / 64)) (.slice q (l.length % 64) d) l.length).set 10 (.int .i64 ((l.length : Int) + xs.length)) by simp [knotCells]]
    exact hk.set 10 _
  have hrb1 := hrb.upd u1 (by simpa using hne)
  have hq1 := hq.upd_ne hk (fun o x => knot_u8 (by simp)) u1
  have hx1 := hx.upd_ne hk (fun o x => knot_u8 (by simp)) u1
  have hll : (l.drop (64 * (l.length / 64))).length = l.length % 64 := by rw [List.length_drop]; omega
  clear c9 c10 f10 hk
  generalize w.setCell ⟨kb, 10, none⟩ (.int .i64 ((l.length : Int) + xs.length)) = W1 at *
  have c9 := hk1.cell 9 rfl
  have hkl := hk1.lt
  have s1 := u1.size
  have hm64 : l.length % 64 < 64 := Nat.mod_lt _ (by decide)
  generalize hmm : l.length % 64 = m64 at *
  go_upto_region 3 with (first
    | (at_builtin; refine app_bytes rfl _ _ rfl W1.heap.size _ [] rfl (OwnB.nil _ _) q m64 d (l.drop (64 * (l.length / 64))) rfl hll.symm hq1 (by simp; omega) (Nat.le_refl _) ?_; rintro p2 c2 w2 hown2 hgrow2; simp only [List.nil_append, List.length_nil, Nat.zero_add, hll] at hown2)
    | (at_builtin; refine app_bytes rfl _ _ rfl W1.heap.size (.slice p2 m64 c2) (l.drop (64 * (l.length / 64))) rfl hown2 p xs.length c xs rfl rfl (hx1.upd_nil ((Upd.refl [] _).grown hgrow2 (fun k hk => nomatch hk))) (by simp; omega) hgrow2.size ?_; rintro p3 c3 w3 hown3 hgrow3))
  have g3 : Upd [] W1 w3 := ((Upd.refl [] W1).grown hgrow2 (fun k hk => nomatch hk)).grown hgrow3 (fun k hk => .inr (hown2.lt k hk).1)
  have u3 := u1.trans_nil g3
  have hk3 := hk1.upd_nil g3
  have hrb3 := hrb1.upd_nil g3
  have hL : l.drop (64 * (l.length / 64)) ++ xs = (l ++ xs).drop (64 * (l.length / 64)) := by rw [List.drop_append_of_le_length (by omega)]
  rw [hL, show (l.drop (64 * (l.length / 64))).length = m64 from hll] at hown3
  obtain ⟨p3', c3', e3, hc3, hb3⟩ := hown3.form
  have hcomp := comp_app H0 l xs (l.length / 64) (by omega)
  rw [← hcomp] at hk3
  have hLl : (l ++ xs).length = l.length + xs.length := List.length_append
  have hLd : ((l ++ xs).drop (64 * (l.length / 64))).length = m64 + xs.length := by rw [List.length_drop]; omega
  rw [hLd] at e3 hc3
  have hat := hown3.at_
  have hrL : Rng (l ++ xs) := hrl.app hr
  have hm0 : l.length / 64 ≤ (l ++ xs).length / 64 := by omega
  have hlen3 : m64 + xs.length = (l ++ xs).length - 64 * (l.length / 64) := by omega
  generalize hl2 : l ++ xs = L at *
  generalize l.length / 64 = m0 at *
  have hm0l : 64 * m0 ≤ L.length := by omega
  cases e3
  have hb4 : ∀ b o, p3 = some ⟨b, o, none⟩ → W1.heap.size ≤ b := fun b o e => by
    subst e
    exact hown3.ge.1
  clear hown2 hown3 hgrow2 hgrow3 hk1 hrb1 hx1 hq1 hq hll hL hcomp hLd hmm hm64 hd g3 hx hqB hrl hr hrb c9
  rw [hlen3] at hc3 ⊢
  have Hs0 : ∀ j, 0 ≤ comp H0 L m0 j ∧ comp H0 L m0 j < 4294967296 := comp_bd L m0
  have hLb : L.length ≤ 140737488355328 := by omega
  have Hl2 := Lib.hid hl2
  clear Hs0 hm0 hb3 hLl hlen3 hl2
  go_loopw [4] (fun v wr => ∃ (m : Nat) (p' : Option Addr) (c' : Nat), 64 * m ≤ L.length ∧ v = .slice p' (L.length - 64 * m) c' ∧ L.length - 64 * m ≤ c' ∧ ByAt wr p' (L.drop (64 * m)) ∧ (∀ b o, p' = some ⟨b, o, none⟩ → W1.heap.size ≤ b) ∧ Blk wr kb (knotCells rb (comp H0 L m) (.slice q m64 d) L.length) 87 ∧ Blk wr rb (wrow 72 rowsF) 85 ∧ Upd [kb] w wr) (fun v _ => lenOf v)
  case atStart => exact ⟨m0, p3, c3, hm0l, rfl, hc3, hat, hb4, hk3, hrb3, u3⟩
  case round =>
    clear hat hb4 hk3 hrb3 u3 hc3
    obtain ⟨m, p4, c4, hm, rfl, hc4, hat, hge, hk, hrb, hu⟩ := hrel
    obtain ⟨wo, rfl⟩ : ∃ wo, wo = wr := ⟨_, rfl⟩
    by_cases h64 : 64 ≤ L.length - 64 * m
    · obtain ⟨g, o, rfl⟩ := hat.form (by rw [List.length_drop]; omega)
      have hg := hge g o rfl
      have hB : ∀ i, i < 64 → wo.cell? ⟨g, o + i, none⟩ = some (.int .u8 (byteF L m i)) := fun i hi => by
        rw [hat.cell i (by rw [List.length_drop]; omega)]
        unfold byteF
        rw [List.getD_eq_getElem?_getD, List.getD_eq_getElem?_getD, List.getElem?_drop]
      have hbb : ∀ i, 0 ≤ byteF L m i ∧ byteF L m i < 256 := fun i => hrL.getD _
      have hsb := comp_bd L m
      have hKr : ∀ i, i < 64 → wo.cell? ⟨rb, 8 + i, none⟩ = some (.int .u32 (K0 i)) := fun i hi => by
        rw [hrb.cell (8 + i) (wrow_get _ (by omega)), rows_K i hi]
      have hnext : tieF K0 (byteF L m) (comp H0 L m) = comp H0 L (m + 1) := rfl
      have Hnext := Lib.hid hnext
      clear hnext
      generalize comp H0 L m = s at *
      obtain ⟨s', Hs'⟩ : ∃ s', Hid (tieF K0 (byteF L m) s = s') := ⟨_, Lib.hid rfl⟩
      have Hn2 : Hid (s' = comp H0 L (m + 1)) := Lib.hid (Hs'.out.symm.trans Hnext.out)
      clear Hnext
      have hgl := lt_of_cell (hB 0 (by decide))
      have hrl := hrb.lt
      have hgk : g ≠ kb := by omega
      go_upto_region 5 with fail
      refine wp_region_blk [(.eq (.pointer (some ⟨kb, 0, none⟩))), (.eq (.pointer (some ⟨kb, 0, none⟩))), (.eq (.pointer (some ⟨kb, 0, none⟩))), (.eq (.pointer (some ⟨kb, 0, none⟩))), (.eq (.pointer (some ⟨rb, 0, none⟩))), (.eq (.pointer (some ⟨rb, 0, none⟩))), (.eq (.pointer (some ⟨rb, 8, none⟩))), (.eq (.pointer (some ⟨kb, 0, none⟩))), (.eq (.pointer (some ⟨kb, 0, none⟩))), (.eq (.pointer (some ⟨kb, 1, none⟩))), (.eq (.agg #[.int .u32 (s 0), .int .u32 (s 1), .int .u32 (s 2), .int .u32 (s 3), .int .u32 (s 4), .int .u32 (s 5), .int .u32 (s 6), .int .u32 (s 7)])), (.eq (.slice (some ⟨g, o, none⟩) (L.length - 64 * m) c4)), (.eq (.agg #[.int .u32 (s' 0), .int .u32 (s' 1), .int .u32 (s' 2), .int .u32 (s' 3), .int .u32 (s' 4), .int .u32 (s' 5), .int .u32 (s' 6), .int .u32 (s' 7)])), (.eq (.pointer (some ⟨kb, 0, none⟩))), (.eq (.pointer (some ⟨kb, 1, none⟩))), .any] [⟨15, (kb), (knotCells rb s (.slice q m64 d) L.length), (knotCells rb s' (.slice q m64 d) L.length), (87)⟩] (by kernel_rfl) (by kernel_rfl) rfl ?ne ?pre ?step ?fin
      case ne => intro x hx y hy hxy; simp only [List.mem_cons, List.not_mem_nil, or_false] at hx hy; rcases hx with rfl <;> rcases hy with rfl <;> first | (exact absurd rfl hxy) | (dsimp only; omega)
      case pre => intro x hx; simp only [List.mem_cons, List.not_mem_nil, or_false] at hx; rcases hx with rfl <;> assumption
      case step =>
        intro i o ho a w' hS hold hneed hun K' hK
        match i, ho with
        | 0, ho =>
          obtain rfl := Option.some.inj ho
          have q15 := hun 15 (.inr (by kernel_rfl))
          replace hneed := fun j hj => (hneed j hj).2
          replace hK := fun v w1 h u => hK v w1 h trivial u
          clear hun
          have d0 := hold 0 _ (by kernel_rfl) rfl
          clear hold hneed ho
          (go_simp; exact hK _ _ rfl (Upd.refl [] _))
        | 1, ho =>
          obtain rfl := Option.some.inj ho
          have q15 := hun 15 (.inr (by kernel_rfl))
          replace hneed := fun j hj => (hneed j hj).2
          replace hK := fun v w1 h u => hK v w1 h trivial u
          clear hun
          have d0 := hold 0 _ (by kernel_rfl) rfl
          clear hold hneed ho
          (go_simp; exact hK _ _ rfl (Upd.refl [] _))
        | 2, ho =>
          obtain rfl := Option.some.inj ho
          have q15 := hun 15 (.inr (by kernel_rfl))
          replace hneed := fun j hj => (hneed j hj).2
          replace hK := fun v w1 h u => hK v w1 h trivial u
          clear hun
          have d29 := get_of_at (hneed 1 (of_decide_eq_true (by kernel_rfl)) 29 rfl) (by simp [undef])
          clear hold hneed ho
          (go_simp; exact hK _ _ rfl (Upd.refl [] _))
        | 3, ho =>
          obtain rfl := Option.some.inj ho
          have q15 := hun 15 (.inr (by kernel_rfl))
          replace hneed := fun j hj => (hneed j hj).2
          replace hK := fun v w1 h u => hK v w1 h trivial u
          clear hun
          have d30 := get_of_at (hneed 2 (of_decide_eq_true (by kernel_rfl)) 30 rfl) (by simp [undef])
          clear hold hneed ho
          (go_simp; exact hK _ _ rfl (Upd.refl [] _))
        | 4, ho =>
          obtain rfl := Option.some.inj ho
          have q15 := hun 15 (.inr (by kernel_rfl))
          replace hneed := fun j hj => (hneed j hj).2
          replace hK := fun v w1 h u => hK v w1 h trivial u
          clear hun
          have d31 := get_of_at (hneed 3 (of_decide_eq_true (by kernel_rfl)) 31 rfl) (by simp [undef])
          clear hold hneed ho
          (have p0 := q15.cell 0 rfl; go_simp; exact hK _ _ rfl (Upd.refl [] _))
        | 5, ho =>
          obtain rfl := Option.some.inj ho
          have q15 := hun 15 (.inr (by kernel_rfl))
          replace hneed := fun j hj => (hneed j hj).2
          replace hK := fun v w1 h u => hK v w1 h trivial u
          clear hun
          have d32 := get_of_at (hneed 4 (of_decide_eq_true (by kernel_rfl)) 32 rfl) (by simp [undef])
          clear hold hneed ho
          (go_simp; exact hK _ _ rfl (Upd.refl [] _))
        | 6, ho =>
          obtain rfl := Option.some.inj ho
          have q15 := hun 15 (.inr (by kernel_rfl))
          replace hneed := fun j hj => (hneed j hj).2
          replace hK := fun v w1 h u => hK v w1 h trivial u
          clear hun
          have d33 := get_of_at (hneed 5 (of_decide_eq_true (by kernel_rfl)) 33 rfl) (by simp [undef])
          clear hold hneed ho
          (go_simp; exact hK _ _ rfl (Upd.refl [] _))
        | 7, ho =>
          obtain rfl := Option.some.inj ho
          have q15 := hun 15 (.inr (by kernel_rfl))
          replace hneed := fun j hj => (hneed j hj).2
          replace hK := fun v w1 h u => hK v w1 h trivial u
          clear hun
          have d0 := hold 0 _ (by kernel_rfl) rfl
          clear hold hneed ho
          (go_simp; exact hK _ _ rfl (Upd.refl [] _))
        | 8, ho =>
          obtain rfl := Option.some.inj ho
          have q15 := hun 15 (.inr (by kernel_rfl))
          replace hneed := fun j hj => (hneed j hj).2
          replace hK := fun v w1 h u => hK v w1 h trivial u
          clear hun
          have d35 := get_of_at (hneed 7 (of_decide_eq_true (by kernel_rfl)) 35 rfl) (by simp [undef])
          clear hold hneed ho
          (go_simp; exact hK _ _ rfl (Upd.refl [] _))
        | 9, ho =>
          obtain rfl := Option.some.inj ho
          have q15 := hun 15 (.inr (by kernel_rfl))
          replace hneed := fun j hj => (hneed j hj).2
          replace hK := fun v w1 h u => hK v w1 h trivial u
          clear hun
          have d36 := get_of_at (hneed 8 (of_decide_eq_true (by kernel_rfl)) 36 rfl) (by simp [undef])
          clear hold hneed ho
          (go_simp; exact hK _ _ rfl (Upd.refl [] _))
        | 10, ho =>
          obtain rfl := Option.some.inj ho
          have q15 := hun 15 (.inr (by kernel_rfl))
          replace hneed := fun j hj => (hneed j hj).2
          replace hK := fun v w1 h u => hK v w1 h trivial u
          clear hun
          have d37 := get_of_at (hneed 9 (of_decide_eq_true (by kernel_rfl)) 37 rfl) (by simp [undef])
          clear hold hneed ho
          (have p1 := q15.cell 1 rfl; have p2 := q15.cell 2 rfl; have p3 := q15.cell 3 rfl; have p4 := q15.cell 4 rfl; have p5 := q15.cell 5 rfl; have p6 := q15.cell 6 rfl; have p7 := q15.cell 7 rfl; have p8 := q15.cell 8 rfl; go_simp; exact hK _ _ rfl (Upd.refl [] _))
        | 11, ho =>
          obtain rfl := Option.some.inj ho
          have q15 := hun 15 (.inr (by kernel_rfl))
          replace hneed := fun j hj => (hneed j hj).2
          replace hK := fun v w1 h u => hK v w1 h trivial u
          clear hun
          have d4 := hold 4 _ (by kernel_rfl) rfl
          clear hold hneed ho
          (go_simp; exact hK _ _ rfl (Upd.refl [] _))
        | 12, ho =>
          obtain rfl := Option.some.inj ho
          have q15 := hun 15 (.inr (by kernel_rfl))
          replace hneed := fun j hj => (hneed j hj).2
          replace hK := fun v w1 h u => hK v w1 h trivial u
          clear hun
          have d34 := get_of_at (hneed 6 (of_decide_eq_true (by kernel_rfl)) 34 rfl) (by simp [undef])
          have d38 := get_of_at (hneed 10 (of_decide_eq_true (by kernel_rfl)) 38 rfl) (by simp [undef])
          have d39 := get_of_at (hneed 11 (of_decide_eq_true (by kernel_rfl)) 39 rfl) (by simp [undef])
          clear hold hneed ho
          (go_simp; refine (tie_walk rb 8 g o (L.length - 64 * m) c4 K0 (byteF L m) s _ (fun i hi => (hS.cell (a := ⟨rb, 8 + i, none⟩) hrl (by simpa using hne)).trans (hKr i hi)) (fun i hi => (hS.cell (a := ⟨g, o + i, none⟩) hgl (by simpa using hgk)).trans (hB i hi)) hbb hsb h64 (by omega)).mono ?_; rw [Hs'.out]; unfold agg8; rintro e w3 ⟨rfl, hu3⟩; exact hK _ _ rfl hu3)
        | 13, ho =>
          obtain rfl := Option.some.inj ho
          have q15 := hun 15 (.inr (by kernel_rfl))
          replace hneed := fun j hj => (hneed j hj).2
          replace hK := fun v w1 h u => hK v w1 h trivial u
          clear hun
          have d28 := get_of_at (hneed 0 (of_decide_eq_true (by kernel_rfl)) 28 rfl) (by simp [undef])
          clear hold hneed ho
          (go_simp; exact hK _ _ rfl (Upd.refl [] _))
        | 14, ho =>
          obtain rfl := Option.some.inj ho
          have q15 := hun 15 (.inr (by kernel_rfl))
          replace hneed := fun j hj => (hneed j hj).2
          replace hK := fun v w1 h u => hK v w1 h trivial u
          clear hun
          have d41 := get_of_at (hneed 13 (of_decide_eq_true (by kernel_rfl)) 41 rfl) (by simp [undef])
          clear hold hneed ho
          (go_simp; exact hK _ _ rfl (Upd.refl [] _))
        | 15, ho =>
          obtain rfl := Option.some.inj ho
          have q15 := hun 15 (.inl rfl)
          change Blk _ _ _ _ at q15
          replace hneed := fun j hj => (hneed j hj).2
          clear hun
          have d42 := get_of_at (hneed 14 (of_decide_eq_true (by kernel_rfl)) 42 rfl) (by simp [undef])
          have d40 := get_of_at (hneed 12 (of_decide_eq_true (by kernel_rfl)) 40 rfl) (by simp [undef])
          clear hold hneed ho
          (have p1 := q15.cell 1 rfl; have f1 := q15.free 1; have p2 := q15.cell 2 rfl; have f2 := q15.free 2; have p3 := q15.cell 3 rfl; have f3 := q15.free 3; have p4 := q15.cell 4 rfl; have f4 := q15.free 4; have p5 := q15.cell 5 rfl; have f5 := q15.free 5; have p6 := q15.cell 6 rfl; have f6 := q15.free 6; have p7 := q15.cell 7 rfl; have f7 := q15.free 7; have p8 := q15.cell 8 rfl; have f8 := q15.free 8; go_simp; exact hK undef _ trivial ((((((((q15.set 1 (.int .u32 (s' 0))).set 2 (.int .u32 (s' 1))).set 3 (.int .u32 (s' 2))).set 4 (.int .u32 (s' 3))).set 5 (.int .u32 (s' 4))).set 6 (.int .u32 (s' 5))).set 7 (.int .u32 (s' 6))).set 8 (.int .u32 (s' 7))) ((((((((((Upd.refl _ _).setCell (Or.inl (by simp [effOf, BE.eff])) _).setCell (Or.inl (by simp [effOf, BE.eff])) _).setCell (Or.inl (by simp [effOf, BE.eff])) _).setCell (Or.inl (by simp [effOf, BE.eff])) _).setCell (Or.inl (by simp [effOf, BE.eff])) _).setCell (Or.inl (by simp [effOf, BE.eff])) _).setCell (Or.inl (by simp [effOf, BE.eff])) _).setCell (Or.inl (by simp [effOf, BE.eff])) _)))
        | _ + 16, ho => exact absurd ho (by simp)
      case fin =>
        intro a w' hS hsz hdf hold hvals hposts
        have hP15 : Blk w' (kb) (knotCells rb s' (.slice q m64 d) L.length) (87) := hposts 15 (of_decide_eq_true (by kernel_rfl))
        have ha := act_lit hsz hdf (RowIs.cons (at_of_get (hold 0 _ (by kernel_rfl) rfl)) (RowIs.cons (at_of_get (hold 1 _ (by kernel_rfl) rfl)) (RowIs.cons (at_of_get (hold 2 _ (by kernel_rfl) rfl)) (RowIs.cons (at_of_get (hold 3 _ (by kernel_rfl) rfl)) (RowIs.cons (at_of_get (hold 4 _ (by kernel_rfl) rfl)) (RowIs.cons (at_of_get (hold 5 _ (by kernel_rfl) rfl)) (RowIs.cons (at_of_get (hold 6 _ (by kernel_rfl) rfl)) (RowIs.cons (at_of_get (hold 7 _ (by kernel_rfl) rfl)) (RowIs.cons (at_of_get (hold 8 _ (by kernel_rfl) rfl)) (RowIs.cons (at_of_get (hold 9 _ (by kernel_rfl) rfl)) (RowIs.cons (at_of_get (hold 10 _ (by kernel_rfl) rfl)) (RowIs.cons (at_of_get (hold 11 _ (by kernel_rfl) rfl)) (RowIs.cons (at_of_get (hold 12 _ (by kernel_rfl) rfl)) (RowIs.cons (at_of_get (hold 13 _ (by kernel_rfl) rfl)) (RowIs.cons (at_of_get (hold 14 _ (by kernel_rfl) rfl)) (RowIs.cons (at_of_get (hold 15 _ (by kernel_rfl) rfl)) (RowIs.cons (at_of_get (hold 16 _ (by kernel_rfl) rfl)) (RowIs.cons (at_of_get (hold 17 _ (by kernel_rfl) rfl)) (RowIs.cons (at_of_get (hold 18 _ (by kernel_rfl) rfl)) (RowIs.cons (at_of_get (hold 19 _ (by kernel_rfl) rfl)) (RowIs.cons (at_of_get (hold 20 _ (by kernel_rfl) rfl)) (RowIs.cons (at_of_get (hold 21 _ (by kernel_rfl) rfl)) (RowIs.cons (at_of_get (hold 22 _ (by kernel_rfl) rfl)) (RowIs.cons (at_of_get (hold 23 _ (by kernel_rfl) rfl)) (RowIs.cons (at_of_get (hold 24 _ (by kernel_rfl) rfl)) (RowIs.cons (at_of_get (hold 25 _ (by kernel_rfl) rfl)) (RowIs.cons (at_of_get (hold 26 _ (by kernel_rfl) rfl)) (RowIs.cons (at_of_get (hold 27 _ (by kernel_rfl) rfl)) (RowIs.cons (hvals 0 28 rfl) (RowIs.cons (hvals 1 29 rfl) (RowIs.cons (hvals 2 30 rfl) (RowIs.cons (hvals 3 31 rfl) (RowIs.cons (hvals 4 32 rfl) (RowIs.cons (hvals 5 33 rfl) (RowIs.cons (hvals 6 34 rfl) (RowIs.cons (hvals 7 35 rfl) (RowIs.cons (hvals 8 36 rfl) (RowIs.cons (hvals 9 37 rfl) (RowIs.cons (hvals 10 38 rfl) (RowIs.cons (hvals 11 39 rfl) (RowIs.cons (hvals 12 40 rfl) (RowIs.cons (hvals 13 41 rfl) (RowIs.cons (hvals 14 42 rfl) (RowIs.cons (at_of_get (hold 43 _ (by kernel_rfl) rfl)) (RowIs.cons (at_of_get (hold 44 _ (by kernel_rfl) rfl)) (RowIs.cons (at_of_get (hold 45 _ (by kernel_rfl) rfl)) (RowIs.cons (at_of_get (hold 46 _ (by kernel_rfl) rfl)) (RowIs.nil _ _)))))))))))))))))))))))))))))))))))))))))))))))) rfl
        clear hsz hdf hold hvals hposts
        subst ha
        try simp only [List.getElem_toArray, List.getElem_cons_succ, List.getElem_cons_zero]
        have hu2 := hu.trans_same hS
        have hrb2 := hrb.upd hS (by simpa using hne)
        have hat2 := hat.upd hS (fun b o e => by cases e; simpa using hgk)
        clear hS hu hrb hat hB hKr hbb hsb hk
        have hP := hP15
        rw [Hn2.out] at hP
        clear hP15 Hn2 Hs'
        by_cases hc64 : c4 = 64
        · subst hc64
          go_wp2_with fail
          refine ⟨⟨m + 1, _, 0, by omega, by rw [show L.length - 64 * (m + 1) = 0 by omega], by omega, ?_, hge, hP, hrb2, hu2⟩, by simp [lenOf]; omega⟩
          rw [List.drop_of_length_le (by omega)]
          exact ByAt.nil _ _
        · go_wp2_with fail
          refine ⟨⟨m + 1, _, c4 - 64, by omega, by rw [show L.length - 64 * (m + 1) = L.length - 64 * m - 64 by omega], by omega, ?_, fun b o' e => by cases e; exact hg, hP, hrb2, hu2⟩, by simp [lenOf]; omega⟩
          have := hat2.drop 64
          rw [List.drop_drop, show 64 * m + 64 = 64 * (m + 1) by omega] at this
          exact this
    · have c9 := hk.cell 9 rfl
      have f9 := hk.free 9
      go_wp2_with fail
      go_end0
      have em : m = L.length / 64 := by omega
      have er : L.length - 64 * m = L.length % 64 := by omega
      rw [er] at hc4 ⊢
      rw [em] at hat hk
      have u9 := hu.setCell (p := ⟨kb, 9, none⟩) (Or.inl (by simp)) (.slice p4 (L.length % 64) c4)
      refine ⟨rfl, u9, ?_⟩
      rw [Hl2.out]
      have us : Upd [kb] wo (wo.setCell ⟨kb, 9, none⟩ (.slice p4 (L.length % 64) c4)) := (Upd.refl _ _).setCell (Or.inl (by simp)) _
      exact ⟨hrL, rb, p4, c4, hk.set 9 _, hrb.upd us (by simpa using hne), hat.upd_ne hk (fun o x => knot_u8 (by simp)) us, fun b o e => Nat.le_trans s1 (hge b o e), hc4⟩

end Go.Proofs.Ytppbaahaegmgeaa
