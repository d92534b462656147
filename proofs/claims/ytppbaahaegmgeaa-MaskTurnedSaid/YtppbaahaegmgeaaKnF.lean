/- SHA-256: Tie. -/
import Derived.Test.YtppbaahaegmgeaaKnE
import Derived.Laws.Rows
import Derived.Great.BuildSlice
import Derived.Deep.CutBlock
namespace Go.Proofs.Ytppbaahaegmgeaa
open Go.RowKit

/-- How many bytes 0 are put behind n bytes and the mark. -/
def zc (n : Nat) : Nat := (119 - n % 64) % 64
def lenB (n i : Nat) : Int := (n : Int) * 8 / 2 ^ (8 * i) % 256
def lens (n k : Nat) : List Int := (List.range k).map fun j => lenB n (7 - j)
def pad (n : Nat) : List Int := 128 :: (List.replicate (zc n) 0 ++ lens n 8)
theorem pad_len (n : Nat) : (pad n).length = zc n + 9 := by simp [pad, lens]
theorem pad_mod (n : Nat) : (n + (pad n).length) % 64 = 0 := by rw [pad_len]; unfold zc; omega
theorem lenB_bd (n i : Nat) : 0 ≤ lenB n i ∧ lenB n i ≤ 255 := by
  unfold lenB
  have h1 := Int.emod_nonneg ((n : Int) * 8 / 2 ^ (8 * i)) (show (256 : Int) ≠ 0 by decide)
  have h2 := Int.emod_lt_of_pos ((n : Int) * 8 / 2 ^ (8 * i)) (show (0 : Int) < 256 by decide)
  exact ⟨h1, by omega⟩
theorem rng_lens (n k : Nat) : Rng (lens n k) := fun x hx => by
  obtain ⟨j, _, rfl⟩ := List.mem_map.1 hx
  exact lenB_bd _ _
theorem rng_pad (n : Nat) : Rng (pad n) := fun x hx => by
  rcases List.mem_cons.1 hx with rfl | hx
  · omega
  · rcases List.mem_append.1 hx with hx | hx
    · rw [(List.mem_replicate.1 hx).2]; omega
    · exact rng_lens n 8 x hx
theorem lens_snoc (n k : Nat) : lens n (k + 1) = lens n k ++ [lenB n (7 - k)] := by simp [lens, List.range_succ]

def digB (s : Nat → Int) (i : Nat) : Int := s (i / 4) / 2 ^ (8 * (3 - i % 4)) % 256
/-- The digest. -/
def sha (l : List Int) : Nat → Int := digB (comp H0 (l ++ pad l.length) ((l ++ pad l.length).length / 64))
def row32 (f : Nat → Int) : List Value := row 32 fun i => .int .u8 (f i)
def agg32 (f : Nat → Int) : Value := .agg (row32 f).toArray

theorem Blk.setRow {w : World} {b : Nat} {cs : List Value} {T : TypeId} (h : Blk w b cs T) (ds : Array Value) : Blk (w.setRow b ds) b ds.toList T := by
  unfold Blk at h ⊢
  simp [World.setRow, Array.getElem?_modify, h]
theorem Upd.setRow {bs : List Nat} {a w : World} (h : Upd bs a w) {b : Nat} (hp : b ∈ bs ∨ a.heap.size ≤ b) (ds : Array Value) : Upd bs a (w.setRow b ds) :=
  h.trans (cs := [b]) ⟨rfl, rfl, rfl, by simp [World.setRow], fun k _ hn => by
    have : k ≠ b := by simpa using hn
    simp [World.setRow, Array.getElem?_modify, Ne.symm this]⟩ (by simpa using hp)

theorem row32_step (f : Nat → Int) (i : Nat) : (row32 fun j => if j < i then f j else 0).set i (.int .u8 (f i)) = row32 fun j => if j < i + 1 then f j else 0 := by
  unfold row32
  rw [row_set]
  apply row_congr
  intro j _
  unfold put1
  by_cases h : j = i
  · subst h; simp
  · rw [if_neg h]
    dsimp only
    by_cases h2 : j < i
    · rw [if_pos h2, if_pos (by omega)]
    · rw [if_neg h2, if_neg (by omega)]
theorem row32_all (f : Nat → Int) : (row32 fun j => if j < 32 then f j else 0) = row32 f := by
  unfold row32
  exact row_congr fun j hj => by dsimp only; rw [if_pos hj]

set_option maxHeartbeats 4000000 in
set_option maxRecDepth 100000 in
theorem tie_end {w : World} {B kb : Nat} {l : List Int} (hK : KnotAt w B kb l) (hl : l.length ≤ 140737488355328) :
    Calls Try.prog 45 #[.pointer (some ⟨kb, 0, none⟩)] w fun e w' => e = .returned (agg32 (sha l)) ∧ Upd [] w w' := by
  obtain ⟨hrl, rb, q, d, hk, hrb, hq, hqB, hd⟩ := hK
  have hz : ∀ w : World, (zeroValue 22).run Try.prog w = .ok (.agg (row32 fun _ => 0).toArray) w := fun w => by kernel_rfl
  go_enter Try.func45, Try.ntmps45
  go_upto_region 1 with fail
  have u1 := (Upd.refl [] w).alloc (.cells (row32 fun _ => 0).toArray 22)
  have hT := Blk.new w (row32 fun _ => 0).toArray 22
  have hk1 := hk.alloc (.cells (row32 fun _ => 0).toArray 22)
  have hrb1 := hrb.alloc (.cells (row32 fun _ => 0).toArray 22)
  have hq1 := hq.upd_nil u1
  clear hz hqB
  have hkl := hk.lt
  have hrl2 := hrb.lt
  generalize w.alloc (.cells (row32 fun _ => 0).toArray 22) = W1 at *
  generalize hN : w.heap.size = N at *
  have hNl : w.heap.size ≤ N := by omega
  have hW1 := u1.size
  have hll : (l.drop (64 * (l.length / 64))).length = l.length % 64 := by rw [List.length_drop]; omega
  have hm64 : l.length % 64 < 64 := Nat.mod_lt _ (by decide)
  have hLl : (l ++ pad l.length).length = l.length + zc l.length + 9 := by rw [List.length_append, pad_len]; omega
  have hzc : zc l.length < 64 := Nat.mod_lt _ (by decide)
  have hpm := pad_mod l.length
  rw [pad_len] at hpm
  have hrL : Rng (l ++ pad l.length) := hrl.app (rng_pad _)
  have hdrop : (l ++ pad l.length).drop (64 * (l.length / 64)) = l.drop (64 * (l.length / 64)) ++ pad l.length := by rw [List.drop_append_of_le_length (by omega)]
  have hcomp := comp_app H0 l (pad l.length) (l.length / 64) (by omega)
  rw [← hcomp] at hk1
  have c9 := hk1.cell 9 rfl
  have hzm : (l.length % 64 + 1 + zc l.length) % 64 = 56 := by unfold zc; omega
  have hzl : ∀ z, z < zc l.length → (l.length % 64 + 1 + z) % 64 ≠ 56 := fun z hz => by unfold zc at hz; omega
  generalize hn : l.length = n at *
  generalize hm : n % 64 = m64 at *
  have Hdrop := Lib.hid hdrop
  have HLl := Lib.hid hLl
  have Hn := Lib.hid hn
  have HN := Lib.hid hN
  have Hm := Lib.hid hm
  clear hdrop hLl hn hm hN hcomp hk hrb hq hrl
  generalize hle : l.drop (64 * (n / 64)) = left at *
  have Hle := Lib.hid hle
  clear hle
  go_upto_block 0 with (first
    | (go_at_call 53; refine (none_no hk1).mono ?_; rintro e w1 ⟨rfl, rfl⟩)
    | (at_builtin; refine app_bytes rfl _ _ rfl W1.heap.size _ [] rfl (OwnB.nil _ _) q m64 d left rfl hll.symm hq1 (by simp; omega) (Nat.le_refl _) ?_; rintro p2 c2 w2 hown2 hgrow2; simp only [List.nil_append, List.length_nil, Nat.zero_add, hll] at hown2)
    | (at_builtin; refine app_bytes rfl _ _ rfl W1.heap.size (.slice p2 m64 c2) left rfl (hown2.alloc _) (some ⟨w2.heap.size, 0, none⟩) 1 1 [128] rfl rfl (ByAt.one w2 128 _) (by simp; omega) (by have := hgrow2.size; simp; omega) ?_; rintro p3 c3 w3 hown3 hgrow3))
  have u3 : Upd [] W1 w3 := (((Upd.refl [] W1).grown hgrow2 (fun k hk => nomatch hk)).alloc _).grown hgrow3 (fun k hk => .inr (hown2.lt k hk).1)
  clear hgrow2 hgrow3 hown2 hq1 c9
  simp only [hll, List.length_cons, List.length_nil, Nat.zero_add] at hown3
  go_cut [3] (fun s3 wx => ∃ p c, s3 = .slice p (m64 + 1 + zc n) c ∧ OwnB wx W1.heap.size (.slice p (m64 + 1 + zc n) c) (left ++ 128 :: List.replicate (zc n) 0) ∧ Upd [] W1 wx)
  case first =>
    go_wp2_with fail
    go_loopw [3] (fun v wr => ∃ (z : Nat) (p' : Option Addr) (c' : Nat), z ≤ zc n ∧ v = .slice p' (m64 + 1 + z) c' ∧ OwnB wr W1.heap.size (.slice p' (m64 + 1 + z) c') (left ++ 128 :: List.replicate z 0) ∧ Upd [] W1 wr) (fun v _ => 200 - lenOf v)
    case atStart => exact ⟨0, p3, c3, by omega, rfl, hown3, u3⟩
    case round =>
      obtain ⟨z, p4, c4, hz, rfl, hown, hu⟩ := hrel
      clear u3 hown3
      have hln : (left ++ 128 :: List.replicate z 0).length = m64 + 1 + z := by simp [hll]; omega
      by_cases hlt : z < zc n
      · have h56 := hzl z hlt
        have t1 : (((m64 : Int) + 1 + (z : Int)) % 64 == 56) = false := by rw [beq_eq_false_iff_ne]; omega
        have t2 : (((m64 : Int) + 1 + (z : Int)) % 64 != 56) = true := by rw [bne_iff_ne]; omega
        clear h56
        have hsz := hu.size
        go_wp2_with (at_builtin; refine app_bytes rfl _ _ rfl W1.heap.size (.slice p4 (m64 + 1 + z) c4) (left ++ 128 :: List.replicate z 0) rfl (hown.alloc _) (some ⟨wr.heap.size, 0, none⟩) 1 1 [0] rfl rfl (ByAt.one wr 0 _) (by simp only [hln, List.length_cons, List.length_nil]; omega) (by simp; omega) ?_; rintro p5 c5 w5 hown5 hgrow5)
        simp only [hln, List.length_cons, List.length_nil, Nat.zero_add] at hown5
        rw [List.append_assoc, List.cons_append, show List.replicate z (0 : Int) ++ [0] = List.replicate (z + 1) 0 from List.replicate_succ'.symm, show m64 + 1 + z + 1 = m64 + 1 + (z + 1) by omega] at hown5
        exact ⟨⟨z + 1, p5, c5, by omega, by rw [show m64 + 1 + z + 1 = m64 + 1 + (z + 1) by omega], hown5, (hu.alloc _).grown hgrow5 (fun k hk => .inr (hown.lt k hk).1)⟩, by simp [lenOf]; omega⟩
      · obtain rfl : z = zc n := by omega
        have t1 : (((m64 : Int) + 1 + (zc n : Int)) % 64 == 56) = true := by rw [beq_iff_eq]; omega
        have t2 : (((m64 : Int) + 1 + (zc n : Int)) % 64 != 56) = false := by rw [bne_eq_false_iff_eq]; omega
        go_wp2_with fail
        go_meet
        exact ⟨p4, c4, rfl, hown, hu⟩
  case rest =>
    obtain ⟨p6, c6, rfl, hown6, hu6⟩ := hcut
    clear u3 hown3 hzl
    obtain ⟨w6, rfl⟩ : ∃ w6, w6 = wc := ⟨_, rfl⟩
    have hln6 : (left ++ 128 :: List.replicate (zc n) 0).length = m64 + 1 + zc n := by simp [hll]; omega
    generalize hz2 : left ++ 128 :: List.replicate (zc n) 0 = pre at *
    have Hpre := Lib.hid hz2
    clear hz2
    go_upto_block 2 with fail
    go_cut [3, 4] (fun s3 _ wx => ∃ p c, s3 = .slice p (m64 + 1 + zc n + 8) c ∧ OwnB wx W1.heap.size (.slice p (m64 + 1 + zc n + 8) c) (pre ++ lens n 8) ∧ Upd [] W1 wx)
    case first =>
      go_wp2_with fail
      go_loopw [3, 4] (fun v iv wr => ∃ (k : Nat) (p' : Option Addr) (c' : Nat), k ≤ 8 ∧ iv = .int .i64 (7 - (k : Int)) ∧ v = .slice p' (m64 + 1 + zc n + k) c' ∧ OwnB wr W1.heap.size (.slice p' (m64 + 1 + zc n + k) c') (pre ++ lens n k) ∧ Upd [] W1 wr) (fun v _ _ => 200 - lenOf v)
      case atStart => exact ⟨0, p6, c6, by omega, rfl, rfl, by simpa [lens] using hown6, hu6⟩
      case round =>
        obtain ⟨k, p4, c4, hk8, rfl, rfl, hown, hu⟩ := hrel
        clear hu6 hown6
        have hk2 := hk1.upd_nil hu
        have c10 := hk2.cell 10 rfl
        have hsz := hu.size
        by_cases hlt : k < 8
        · have hlnk : (pre ++ lens n k).length = m64 + 1 + zc n + k := by simp [hln6, lens]
          go_wp2_with (at_builtin; refine app_bytes rfl _ _ rfl W1.heap.size (.slice p4 (m64 + 1 + zc n + k) c4) (pre ++ lens n k) rfl (hown.alloc _) (some ⟨wr.heap.size, 0, none⟩) 1 1 [lenB n (7 - k)] rfl rfl (ByAt.one wr (lenB n (7 - k)) _) (by simp only [hlnk, List.length_cons, List.length_nil]; omega) (by simp; omega) ?_; rintro p5 c5 w5 hown5 hgrow5)
          simp only [hlnk, List.length_cons, List.length_nil, Nat.zero_add] at hown5
          rw [List.append_assoc, ← lens_snoc, show m64 + 1 + zc n + k + 1 = m64 + 1 + zc n + (k + 1) by omega] at hown5
          exact ⟨⟨k + 1, p5, c5, by omega, by congr 1; omega, by rw [show m64 + 1 + zc n + k + 1 = m64 + 1 + zc n + (k + 1) by omega], hown5, (hu.alloc _).grown hgrow5 (fun k hk => .inr (hown.lt k hk).1)⟩, by simp [lenOf]; omega⟩
        · obtain rfl : k = 8 := by omega
          go_wp2_with fail
          go_meet
          exact ⟨p4, c4, rfl, hown, hu⟩
    case rest =>
      obtain ⟨p7, c7, rfl, hown7, hu7⟩ := hcut
      clear hu6 hown6
      obtain ⟨w7, rfl⟩ : ∃ w7, w7 = wc := ⟨_, rfl⟩
      have hk7 := hk1.upd_nil hu7
      have hrb7 := hrb1.upd_nil hu7
      have c1 := hk7.cell 1 rfl
      have c2' := hk7.cell 2 rfl
      have c3' := hk7.cell 3 rfl
      have c4 := hk7.cell 4 rfl
      have c5 := hk7.cell 5 rfl
      have c6' := hk7.cell 6 rfl
      have c7' := hk7.cell 7 rfl
      have c8 := hk7.cell 8 rfl
      go_upto_block 4 with fail
      clear c1 c2' c3' c4 c5 c6' c7' c8
      have hall : pre ++ lens n 8 = (l ++ pad n).drop (64 * (n / 64)) := by
        rw [Hdrop.out, ← Hpre.out]; simp [pad]
      rw [hall] at hown7
      have hat7 := hown7.at_
      have hc7 : (l ++ pad n).length - 64 * (n / 64) ≤ c7 := by
        obtain ⟨p', c', e, h1, _⟩ := hown7.form
        have e3 : c7 = c' := by injection e
        rw [List.length_drop] at h1
        rw [e3]; exact h1
      have hL64 : (l ++ pad n).length % 64 = 0 := by rw [HLl.out]; omega
      have hLb : (l ++ pad n).length ≤ 140737488356000 := by rw [HLl.out]; omega
      have hm0 : 64 * (n / 64) ≤ (l ++ pad n).length := by rw [HLl.out]; omega
      rw [show m64 + 1 + zc n + 8 = (l ++ pad n).length - 64 * (n / 64) by rw [HLl.out]; have := Hm.out; omega] at hown7 ⊢
      have hSb := Blk.new w7 (wrow 8 (comp H0 (l ++ pad n) (n / 64))).toArray 82
      have u8 := hu7.alloc (.cells (wrow 8 (comp H0 (l ++ pad n) (n / 64))).toArray 82)
      have hk8 := hk7.alloc (.cells (wrow 8 (comp H0 (l ++ pad n) (n / 64))).toArray 82)
      have hrb8 := hrb7.alloc (.cells (wrow 8 (comp H0 (l ++ pad n) (n / 64))).toArray 82)
      have hat8 := hat7.upd_nil ((Upd.refl [] w7).alloc (.cells (wrow 8 (comp H0 (l ++ pad n) (n / 64))).toArray 82))
      have hsb := hu7.size
      clear hk7 hrb7 hat7 hown7 hall
      change Code.wp _ _ _ _ (w7.alloc (.cells (wrow 8 (comp H0 (l ++ pad n) (n / 64))).toArray 82))
      generalize w7.alloc (.cells (wrow 8 (comp H0 (l ++ pad n) (n / 64))).toArray 82) = W8 at *
      generalize w7.heap.size = sb at *
      generalize hLL : l ++ pad n = L at *
      have HLL := Lib.hid hLL
      clear hLL
      generalize n / 64 = m0 at *
      have hW8 := hT.upd_nil u8
      have hge7 : ∀ b o, p7 = some ⟨b, o, none⟩ → True := fun _ _ _ => trivial
      clear hge7 hu7 hk1 hrb1 hzm hpm
      have hTl := hT.lt
      have hkr : rb ≠ sb := by omega
      have hNs : N ≠ sb := by omega
      have hks : kb ≠ sb := by omega
      go_cut [3] (fun _ wx => Blk wx sb (wrow 8 (comp H0 L (L.length / 64))) 82 ∧ Blk wx N (row32 fun _ => 0) 22 ∧ Upd [] W1 wx)
      case first =>
        go_wp2_with fail
        go_loopw [3] (fun v wr => ∃ (m : Nat) (p' : Option Addr) (c' : Nat), 64 * m ≤ L.length ∧ v = .slice p' (L.length - 64 * m) c' ∧ L.length - 64 * m ≤ c' ∧ ByAt wr p' (L.drop (64 * m)) ∧ Blk wr sb (wrow 8 (comp H0 L m)) 82 ∧ Blk wr kb (knotCells rb (comp H0 L m0) (.slice q m64 d) n) 87 ∧ Blk wr rb (wrow 72 rowsF) 85 ∧ Blk wr N (row32 fun _ => 0) 22 ∧ Upd [] W1 wr) (fun v _ => lenOf v)
        case atStart => exact ⟨m0, p7, c7, hm0, rfl, hc7, hat8, hSb, hk8, hrb8, hW8, u8⟩
        case round =>
          obtain ⟨m, p4, c4, hm, rfl, hc4, hat, hS8, hk, hrb, hTN, hu⟩ := hrel
          clear hat8 hSb hk8 hrb8 hW8 u8 hc7
          obtain ⟨wo, rfl⟩ : ∃ wo, wo = wr := ⟨_, rfl⟩
          by_cases h64 : 64 ≤ L.length - 64 * m
          · obtain ⟨g, o, rfl⟩ := hat.form (by rw [List.length_drop]; omega)
            have hgk : g ≠ sb := hat.ne (by rw [List.length_drop]; omega) hS8 (fun o x => wrow_u8)
            have hB : ∀ i, i < 64 → wo.cell? ⟨g, o + i, none⟩ = some (.int .u8 (byteF L m i)) := fun i hi => by
              rw [hat.cell i (by rw [List.length_drop]; omega)]
              unfold byteF
              rw [List.getD_eq_getElem?_getD, List.getD_eq_getElem?_getD, List.getElem?_drop]
            have hbb : ∀ i, 0 ≤ byteF L m i ∧ byteF L m i < 256 := fun i => hrL.getD _
            have hsb2 := comp_bd L m
            have hKr : ∀ i, i < 64 → wo.cell? ⟨rb, 8 + i, none⟩ = some (.int .u32 (K0 i)) := fun i hi => by
              rw [hrb.cell (8 + i) (wrow_get _ (by omega)), rows_K i hi]
            have hnext : tieF K0 (byteF L m) (comp H0 L m) = comp H0 L (m + 1) := rfl
            have Hnext := Lib.hid hnext
            clear hnext
            generalize comp H0 L m = s at *
            obtain ⟨s', Hs'⟩ : ∃ s', Hid (tieF K0 (byteF L m) s = s') := ⟨_, Lib.hid rfl⟩
            have Hn2 : Hid (s' = comp H0 L (m + 1)) := Lib.hid (Hs'.out.symm.trans Hnext.out)
            clear Hnext
            have hgl := lt_of_cell (hB 0 (by decide))
            have hrl := hrb.lt
            have z0 := hk.cell 0 rfl
            have hkl2 := hk.lt
            go_upto_region 13 with fail
            refine wp_region_blk [(.eq (.pointer (some ⟨kb, 0, none⟩))), (.eq (.pointer (some ⟨kb, 0, none⟩))), (.eq (.pointer (some ⟨kb, 0, none⟩))), (.eq (.pointer (some ⟨rb, 0, none⟩))), (.eq (.pointer (some ⟨rb, 0, none⟩))), (.eq (.pointer (some ⟨rb, 8, none⟩))), (.eq (.agg #[.int .u32 (s 0), .int .u32 (s 1), .int .u32 (s 2), .int .u32 (s 3), .int .u32 (s 4), .int .u32 (s 5), .int .u32 (s 6), .int .u32 (s 7)])), (.eq (.slice (some ⟨g, o, none⟩) (L.length - 64 * m) c4)), (.eq (.agg #[.int .u32 (s' 0), .int .u32 (s' 1), .int .u32 (s' 2), .int .u32 (s' 3), .int .u32 (s' 4), .int .u32 (s' 5), .int .u32 (s' 6), .int .u32 (s' 7)])), .any] [⟨9, (sb), (wrow 8 s), (wrow 8 s'), (82)⟩] (by kernel_rfl) (by kernel_rfl) rfl ?ne ?pre ?step ?fin
            case ne => intro x hx y hy hxy; simp only [List.mem_cons, List.not_mem_nil, or_false] at hx hy; rcases hx with rfl <;> rcases hy with rfl <;> first | (exact absurd rfl hxy) | (dsimp only; omega)
            case pre => intro x hx; simp only [List.mem_cons, List.not_mem_nil, or_false] at hx; rcases hx with rfl <;> assumption
            case step =>
              intro i o ho a w' hS hold hneed hun K' hK
              match i, ho with
              | 0, ho =>
                obtain rfl := Option.some.inj ho
                have q9 := hun 9 (.inr (by kernel_rfl))
                replace hneed := fun j hj => (hneed j hj).2
                replace hK := fun v w1 h u => hK v w1 h trivial u
                clear hun
                have d0 := hold 0 _ (by kernel_rfl) rfl
                clear hold hneed ho
                (go_simp; exact hK _ _ rfl (Upd.refl [] _))
              | 1, ho =>
                obtain rfl := Option.some.inj ho
                have q9 := hun 9 (.inr (by kernel_rfl))
                replace hneed := fun j hj => (hneed j hj).2
                replace hK := fun v w1 h u => hK v w1 h trivial u
                clear hun
                have d50 := get_of_at (hneed 0 (of_decide_eq_true (by kernel_rfl)) 50 rfl) (by simp [undef])
                clear hold hneed ho
                (go_simp; exact hK _ _ rfl (Upd.refl [] _))
              | 2, ho =>
                obtain rfl := Option.some.inj ho
                have q9 := hun 9 (.inr (by kernel_rfl))
                replace hneed := fun j hj => (hneed j hj).2
                replace hK := fun v w1 h u => hK v w1 h trivial u
                clear hun
                have d51 := get_of_at (hneed 1 (of_decide_eq_true (by kernel_rfl)) 51 rfl) (by simp [undef])
                clear hold hneed ho
                (go_simp; exact hK _ _ rfl (Upd.refl [] _))
              | 3, ho =>
                obtain rfl := Option.some.inj ho
                have q9 := hun 9 (.inr (by kernel_rfl))
                replace hneed := fun j hj => (hneed j hj).2
                replace hK := fun v w1 h u => hK v w1 h trivial u
                clear hun
                have d52 := get_of_at (hneed 2 (of_decide_eq_true (by kernel_rfl)) 52 rfl) (by simp [undef])
                clear hold hneed ho
                (have p0 := (hS.cell (a := ⟨kb, 0, none⟩) hkl2 (by simpa using hks)).trans z0; go_simp; exact hK _ _ rfl (Upd.refl [] _))
              | 4, ho =>
                obtain rfl := Option.some.inj ho
                have q9 := hun 9 (.inr (by kernel_rfl))
                replace hneed := fun j hj => (hneed j hj).2
                replace hK := fun v w1 h u => hK v w1 h trivial u
                clear hun
                have d53 := get_of_at (hneed 3 (of_decide_eq_true (by kernel_rfl)) 53 rfl) (by simp [undef])
                clear hold hneed ho
                (go_simp; exact hK _ _ rfl (Upd.refl [] _))
              | 5, ho =>
                obtain rfl := Option.some.inj ho
                have q9 := hun 9 (.inr (by kernel_rfl))
                replace hneed := fun j hj => (hneed j hj).2
                replace hK := fun v w1 h u => hK v w1 h trivial u
                clear hun
                have d54 := get_of_at (hneed 4 (of_decide_eq_true (by kernel_rfl)) 54 rfl) (by simp [undef])
                clear hold hneed ho
                (go_simp; exact hK _ _ rfl (Upd.refl [] _))
              | 6, ho =>
                obtain rfl := Option.some.inj ho
                have q9 := hun 9 (.inr (by kernel_rfl))
                replace hneed := fun j hj => (hneed j hj).2
                replace hK := fun v w1 h u => hK v w1 h trivial u
                clear hun
                have d5 := hold 5 _ (by kernel_rfl) rfl
                clear hold hneed ho
                (have p0 := q9.cell 0 (wrow_get s (by omega)); have p1 := q9.cell 1 (wrow_get s (by omega)); have p2 := q9.cell 2 (wrow_get s (by omega)); have p3 := q9.cell 3 (wrow_get s (by omega)); have p4 := q9.cell 4 (wrow_get s (by omega)); have p5 := q9.cell 5 (wrow_get s (by omega)); have p6 := q9.cell 6 (wrow_get s (by omega)); have p7 := q9.cell 7 (wrow_get s (by omega)); go_simp; exact hK _ _ rfl (Upd.refl [] _))
              | 7, ho =>
                obtain rfl := Option.some.inj ho
                have q9 := hun 9 (.inr (by kernel_rfl))
                replace hneed := fun j hj => (hneed j hj).2
                replace hK := fun v w1 h u => hK v w1 h trivial u
                clear hun
                have d3 := hold 3 _ (by kernel_rfl) rfl
                clear hold hneed ho
                (go_simp; exact hK _ _ rfl (Upd.refl [] _))
              | 8, ho =>
                obtain rfl := Option.some.inj ho
                have q9 := hun 9 (.inr (by kernel_rfl))
                replace hneed := fun j hj => (hneed j hj).2
                replace hK := fun v w1 h u => hK v w1 h trivial u
                clear hun
                have d55 := get_of_at (hneed 5 (of_decide_eq_true (by kernel_rfl)) 55 rfl) (by simp [undef])
                have d56 := get_of_at (hneed 6 (of_decide_eq_true (by kernel_rfl)) 56 rfl) (by simp [undef])
                have d57 := get_of_at (hneed 7 (of_decide_eq_true (by kernel_rfl)) 57 rfl) (by simp [undef])
                clear hold hneed ho
                (go_simp; refine (tie_walk rb 8 g o (L.length - 64 * m) c4 K0 (byteF L m) s _ (fun i hi => (hS.cell (a := ⟨rb, 8 + i, none⟩) hrl (by simpa using hkr)).trans (hKr i hi)) (fun i hi => (hS.cell (a := ⟨g, o + i, none⟩) hgl (by simpa using hgk)).trans (hB i hi)) hbb hsb2 h64 (by omega)).mono ?_; rw [Hs'.out]; unfold agg8; rintro e w3 ⟨rfl, hu3⟩; exact hK _ _ rfl hu3)
              | 9, ho =>
                obtain rfl := Option.some.inj ho
                have q9 := hun 9 (.inl rfl)
                change Blk _ _ _ _ at q9
                replace hneed := fun j hj => (hneed j hj).2
                clear hun
                have d5 := hold 5 _ (by kernel_rfl) rfl
                have d58 := get_of_at (hneed 8 (of_decide_eq_true (by kernel_rfl)) 58 rfl) (by simp [undef])
                clear hold hneed ho
                (have p0 := q9.cell 0 (wrow_get s (by omega)); have f0 := q9.free 0; have p1 := q9.cell 1 (wrow_get s (by omega)); have f1 := q9.free 1; have p2 := q9.cell 2 (wrow_get s (by omega)); have f2 := q9.free 2; have p3 := q9.cell 3 (wrow_get s (by omega)); have f3 := q9.free 3; have p4 := q9.cell 4 (wrow_get s (by omega)); have f4 := q9.free 4; have p5 := q9.cell 5 (wrow_get s (by omega)); have f5 := q9.free 5; have p6 := q9.cell 6 (wrow_get s (by omega)); have f6 := q9.free 6; have p7 := q9.cell 7 (wrow_get s (by omega)); have f7 := q9.free 7; have hq := (((((((q9.set 0 (.int .u32 (s' 0))).set 1 (.int .u32 (s' 1))).set 2 (.int .u32 (s' 2))).set 3 (.int .u32 (s' 3))).set 4 (.int .u32 (s' 4))).set 5 (.int .u32 (s' 5))).set 6 (.int .u32 (s' 6))).set 7 (.int .u32 (s' 7)); rw [eight_set] at hq; go_simp; exact hK undef _ trivial hq ((((((((((Upd.refl _ _).setCell (Or.inl (by simp [effOf, BE.eff])) _).setCell (Or.inl (by simp [effOf, BE.eff])) _).setCell (Or.inl (by simp [effOf, BE.eff])) _).setCell (Or.inl (by simp [effOf, BE.eff])) _).setCell (Or.inl (by simp [effOf, BE.eff])) _).setCell (Or.inl (by simp [effOf, BE.eff])) _).setCell (Or.inl (by simp [effOf, BE.eff])) _).setCell (Or.inl (by simp [effOf, BE.eff])) _)))
              | _ + 10, ho => exact absurd ho (by simp)
            case fin =>
              intro a w' hS hsz hdf hold hvals hposts
              have hP9 : Blk w' (sb) (wrow 8 s') (82) := hposts 9 (of_decide_eq_true (by kernel_rfl))
              have ha := act_lit hsz hdf (RowIs.cons (at_of_get (hold 0 _ (by kernel_rfl) rfl)) (RowIs.cons (at_of_get (hold 1 _ (by kernel_rfl) rfl)) (RowIs.cons (at_of_get (hold 2 _ (by kernel_rfl) rfl)) (RowIs.cons (at_of_get (hold 3 _ (by kernel_rfl) rfl)) (RowIs.cons (at_of_get (hold 4 _ (by kernel_rfl) rfl)) (RowIs.cons (at_of_get (hold 5 _ (by kernel_rfl) rfl)) (RowIs.cons (at_of_get (hold 6 _ (by kernel_rfl) rfl)) (RowIs.cons (at_of_get (hold 7 _ (by kernel_rfl) rfl)) (RowIs.cons (at_of_get (hold 8 _ (by kernel_rfl) rfl)) (RowIs.cons (at_of_get (hold 9 _ (by kernel_rfl) rfl)) (RowIs.cons (at_of_get (hold 10 _ (by kernel_rfl) rfl)) (RowIs.cons (at_of_get (hold 11 _ (by kernel_rfl) rfl)) (RowIs.cons (at_of_get (hold 12 _ (by kernel_rfl) rfl)) (RowIs.cons (at_of_get (hold 13 _ (by kernel_rfl) rfl)) (RowIs.cons (at_of_get (hold 14 _ (by kernel_rfl) rfl)) (RowIs.cons (at_of_get (hold 15 _ (by kernel_rfl) rfl)) (RowIs.cons (at_of_get (hold 16 _ (by kernel_rfl) rfl)) (RowIs.cons (at_of_get (hold 17 _ (by kernel_rfl) rfl)) (RowIs.cons (at_of_get (hold 18 _ (by kernel_rfl) rfl)) (RowIs.cons (at_of_get (hold 19 _ (by kernel_rfl) rfl)) (RowIs.cons (at_of_get (hold 20 _ (by kernel_rfl) rfl)) (RowIs.cons (at_of_get (hold 21 _ (by kernel_rfl) rfl)) (RowIs.cons (at_of_get (hold 22 _ (by kernel_rfl) rfl)) (RowIs.cons (at_of_get (hold 23 _ (by kernel_rfl) rfl)) (RowIs.cons (at_of_get (hold 24 _ (by kernel_rfl) rfl)) (RowIs.cons (at_of_get (hold 25 _ (by kernel_rfl) rfl)) (RowIs.cons (at_of_get (hold 26 _ (by kernel_rfl) rfl)) (RowIs.cons (at_of_get (hold 27 _ (by kernel_rfl) rfl)) (RowIs.cons (at_of_get (hold 28 _ (by kernel_rfl) rfl)) (RowIs.cons (at_of_get (hold 29 _ (by kernel_rfl) rfl)) (RowIs.cons (at_of_get (hold 30 _ (by kernel_rfl) rfl)) (RowIs.cons (at_of_get (hold 31 _ (by kernel_rfl) rfl)) (RowIs.cons (at_of_get (hold 32 _ (by kernel_rfl) rfl)) (RowIs.cons (at_of_get (hold 33 _ (by kernel_rfl) rfl)) (RowIs.cons (at_of_get (hold 34 _ (by kernel_rfl) rfl)) (RowIs.cons (at_of_get (hold 35 _ (by kernel_rfl) rfl)) (RowIs.cons (at_of_get (hold 36 _ (by kernel_rfl) rfl)) (RowIs.cons (at_of_get (hold 37 _ (by kernel_rfl) rfl)) (RowIs.cons (at_of_get (hold 38 _ (by kernel_rfl) rfl)) (RowIs.cons (at_of_get (hold 39 _ (by kernel_rfl) rfl)) (RowIs.cons (at_of_get (hold 40 _ (by kernel_rfl) rfl)) (RowIs.cons (at_of_get (hold 41 _ (by kernel_rfl) rfl)) (RowIs.cons (at_of_get (hold 42 _ (by kernel_rfl) rfl)) (RowIs.cons (at_of_get (hold 43 _ (by kernel_rfl) rfl)) (RowIs.cons (at_of_get (hold 44 _ (by kernel_rfl) rfl)) (RowIs.cons (at_of_get (hold 45 _ (by kernel_rfl) rfl)) (RowIs.cons (at_of_get (hold 46 _ (by kernel_rfl) rfl)) (RowIs.cons (at_of_get (hold 47 _ (by kernel_rfl) rfl)) (RowIs.cons (at_of_get (hold 48 _ (by kernel_rfl) rfl)) (RowIs.cons (at_of_get (hold 49 _ (by kernel_rfl) rfl)) (RowIs.cons (hvals 0 50 rfl) (RowIs.cons (hvals 1 51 rfl) (RowIs.cons (hvals 2 52 rfl) (RowIs.cons (hvals 3 53 rfl) (RowIs.cons (hvals 4 54 rfl) (RowIs.cons (hvals 5 55 rfl) (RowIs.cons (hvals 6 56 rfl) (RowIs.cons (hvals 7 57 rfl) (RowIs.cons (hvals 8 58 rfl) (RowIs.cons (at_of_get (hold 59 _ (by kernel_rfl) rfl)) (RowIs.cons (at_of_get (hold 60 _ (by kernel_rfl) rfl)) (RowIs.cons (at_of_get (hold 61 _ (by kernel_rfl) rfl)) (RowIs.cons (at_of_get (hold 62 _ (by kernel_rfl) rfl)) (RowIs.cons (at_of_get (hold 63 _ (by kernel_rfl) rfl)) (RowIs.cons (at_of_get (hold 64 _ (by kernel_rfl) rfl)) (RowIs.cons (at_of_get (hold 65 _ (by kernel_rfl) rfl)) (RowIs.cons (at_of_get (hold 66 _ (by kernel_rfl) rfl)) (RowIs.cons (at_of_get (hold 67 _ (by kernel_rfl) rfl)) (RowIs.cons (at_of_get (hold 68 _ (by kernel_rfl) rfl)) (RowIs.cons (at_of_get (hold 69 _ (by kernel_rfl) rfl)) (RowIs.cons (at_of_get (hold 70 _ (by kernel_rfl) rfl)) (RowIs.cons (at_of_get (hold 71 _ (by kernel_rfl) rfl)) (RowIs.cons (at_of_get (hold 72 _ (by kernel_rfl) rfl)) (RowIs.cons (at_of_get (hold 73 _ (by kernel_rfl) rfl)) (RowIs.cons (at_of_get (hold 74 _ (by kernel_rfl) rfl)) (RowIs.cons (at_of_get (hold 75 _ (by kernel_rfl) rfl)) (RowIs.nil _ _))))))))))))))))))))))))))))))))))))))))))))))))))))))))))))))))))))))))))))) rfl
              clear hsz hdf hold hvals hposts
              subst ha
              try simp only [List.getElem_toArray, List.getElem_cons_succ, List.getElem_cons_zero]
              have hu2 := hu.trans_nil' hS (by simpa using hsb)
              have hrb2 := hrb.upd hS (by simpa using hkr)
              have hk2 := hk.upd hS (by simpa using hks)
              have hTN2 := hTN.upd hS (by simpa using hNs)
              have hat2 := hat.upd hS (fun b o e => by cases e; simpa using hgk)
              have hP := hP9
              rw [Hn2.out] at hP
              clear hP9 Hn2 Hs' hS hu hrb hat hB hKr hbb hsb2 hk hS8 hTN z0
              by_cases hc64 : c4 = 64
              · subst hc64
                go_wp2_with fail
                refine ⟨⟨m + 1, _, 0, by omega, by rw [show L.length - 64 * (m + 1) = 0 by omega], by omega, ?_, hP, hk2, hrb2, hTN2, hu2⟩, by simp [lenOf]; omega⟩
                rw [List.drop_of_length_le (by omega)]
                exact ByAt.nil _ _
              · go_wp2_with fail
                refine ⟨⟨m + 1, _, c4 - 64, by omega, by rw [show L.length - 64 * (m + 1) = L.length - 64 * m - 64 by omega], by omega, ?_, hP, hk2, hrb2, hTN2, hu2⟩, by simp [lenOf]; omega⟩
                have := hat2.drop 64
                rw [List.drop_drop, show 64 * m + 64 = 64 * (m + 1) by omega] at this
                exact this
          · have em : m = L.length / 64 := by omega
            have e0 : L.length - 64 * m = 0 := by omega
            rw [e0]
            go_wp2_with fail
            go_meet
            exact ⟨by rw [← em]; exact hS8, hTN, hu⟩
      case rest =>
        obtain ⟨hS9, hT9, u9⟩ := hcut
        clear hat8 hSb hk8 hrb8 hW8 u8 hc7
        obtain ⟨w9, rfl⟩ : ∃ w9, w9 = wc := ⟨_, rfl⟩
        have hsbd := comp_bd L (L.length / 64)
        have hend : ∀ i, digB (comp H0 L (L.length / 64)) i = sha l i := fun i => by
          unfold sha
          rw [Hn.out, HLL.out]
        have Hend := Lib.hid hend
        clear hend
        generalize comp H0 L (L.length / 64) = s at *
        have U9 := u1.trans_nil u9
        clear u9 u1 hT hm0 hLb hL64 hsb
        go_wp2_with fail
        go_loopw [59] (fun iv wr => ∃ i : Nat, i ≤ 32 ∧ iv = .int .i64 i ∧ Blk wr N (row32 fun j => if j < i then sha l j else 0) 22 ∧ Blk wr sb (wrow 8 s) 82 ∧ Upd [] w wr) (fun iv _ => 32 - (intOf iv).toNat)
        case atStart => exact ⟨0, by omega, rfl, by simpa using hT9, hS9, U9⟩
        case round =>
          obtain ⟨i, hi, rfl, hTi, hSi, hu⟩ := hrel
          clear hT9 hS9 U9
          obtain ⟨wo, rfl⟩ : ∃ wo, wo = wr := ⟨_, rfl⟩
          by_cases hlt : i < 32
          · have c1 := hSi.cell (i / 4) (wrow_get s (by omega))
            have cN := hTi.cell i (v := .int .u8 (if i < i then sha l i else 0)) (row_get _ hlt)
            have fN := hTi.free i
            obtain ⟨b1, b2⟩ := hsbd (i / 4)
            go_wp2_with fail
            have hv : s (i / 4) / 2 ^ (8 * (3 - i % 4)) % 256 = sha l i := Hend.out i
            rw [hv]
            have hN := hTi.set i (.int .u8 (sha l i))
            rw [row32_step] at hN
            exact ⟨⟨i + 1, by omega, by go_num, hN, hSi.set_ne _ (Ne.symm hNs) _, hu.setCell (Or.inr hNl) _⟩, by simp [intOf]; omega⟩
          · obtain rfl : i = 32 := by omega
            rw [row32_all] at hTi
            have hi : (Try.prog.info? 22).map (·.size) = some (row32 (sha l)).toArray.size := by kernel_rfl
            go_wp2_with (first
              | (refine wpList_load_row rfl _ _ rfl N rfl _ (row32 (sha l)).toArray _ _ hTi Try.underlying22 rfl hi ?_)
              | (refine wpList_store_rowTo rfl _ _ _ rfl rfl N (row32 (sha l)).toArray rfl rfl _ (row32 (sha l)).toArray hTi hi rfl (by kernel_rfl) ?_))
            have hT2 := hTi.setRow (row32 (sha l)).toArray
            refine bodyPost_ret (v := agg32 (sha l)) (results_cell_row rfl _ _ N _ _ _ _ rfl hT2 Try.underlying22 rfl hi) rfl ⟨rfl, hu.setRow (Or.inr hNl) _⟩

set_option maxRecDepth 100000 in
theorem of_walk (w : World) (p : Option Addr) (xs : List Int) (c : Nat) (hx : ByAt w p xs) (hr : Rng xs) (hl : xs.length ≤ 140737488355328) :
    Calls Try.prog 41 #[.slice p xs.length c] w fun e w' => e = .returned (agg32 (sha xs)) ∧ Upd [] w w' := by
  have hz : ∀ w : World, (zeroValue 22).run Try.prog w = .ok (.agg (row32 fun _ => 0).toArray) w := fun w => by kernel_rfl
  go_enter Try.func41, Try.ntmps41
  go_upto_region 1 with fail
  have u1 := (Upd.refl [] w).alloc (.cells (row32 fun _ => 0).toArray 22)
  have hT := Blk.new w (row32 fun _ => 0).toArray 22
  have hx1 := hx.upd_nil u1
  clear hz
  generalize w.alloc (.cells (row32 fun _ => 0).toArray 22) = W1 at *
  have hNl : w.heap.size ≤ w.heap.size := Nat.le_refl _
  generalize hg : w.heap.size = N at hT hNl ⊢
  have hNl2 : w.heap.size ≤ N := by omega
  clear hg hNl
  go_upto_region 2 with (go_at_call 43; refine (new_walk _).mono ?_; rintro e w2 ⟨kb, rfl, hkb, u2, hK⟩)
  have hK2 := hK 0
  have hx2 := hx1.upd_nil u2
  go_upto_region 3 with (go_at_call 44; refine (add_walk hK2 p xs c hx2 hr (by simp; omega)).mono ?_; rintro e w3 ⟨rfl, u3, hK3⟩)
  have hT3 := (hT.upd_nil u2).upd u3 (by have := hT.lt; simp; omega)
  have hi : (Try.prog.info? 22).map (·.size) = some (row32 (sha xs)).toArray.size := by kernel_rfl
  go_wp2_with (first
    | (go_at_call 45; refine (tie_end hK3 (by simpa using hl)).mono ?_; rintro e w4 ⟨rfl, u4⟩)
    | (refine wpList_store_rowTo rfl _ _ _ rfl rfl N (row32 (sha xs)).toArray rfl rfl _ (row32 fun _ => 0).toArray (hT3.upd_nil u4) hi rfl (by kernel_rfl) ?_))
  have hT5 := (hT3.upd_nil u4).setRow (row32 (sha xs)).toArray
  have u5 := (((u1.trans_nil u2).trans_nil' u3 (by have := u1.size; simp; omega)).trans_nil u4).setRow (Or.inr hNl2) (row32 (sha xs)).toArray
  exact bodyPost_ret (v := agg32 (sha xs)) (results_cell_row rfl _ _ N _ _ _ _ rfl hT5 Try.underlying22 rfl hi) rfl ⟨rfl, u5⟩

end Go.Proofs.Ytppbaahaegmgeaa
