/- A deed of both roads. -/
import Derived.Test.YtceeekdephgcmaaRdR
namespace Go.Proofs.Ytceeekdephgcmaa
open Go.RowKit

set_option maxHeartbeats 4000000 in
set_option maxRecDepth 100000 in
theorem step_any {w wr : World} {r1 r2 : Nat} {m : List Key} {n : Int} (h : Both w wr r1 r2 m n m n []) (kd a y c : Int) (dp : Option Addr) (dc : Nat) (xs : List Int) (hb : BytesAt w (.slice dp xs.length dc) xs) (hx : xs.length ≤ 140737488351232)
    (k1 : -9223372036854775808 ≤ kd ∧ kd ≤ 9223372036854775807) (y1 : -9223372036854775808 ≤ y ∧ y ≤ 9223372036854775807) :
    Calls Try.prog 17 #[.pointer (some ⟨r1, 0, none⟩), .pointer (some ⟨r2, 0, none⟩), .agg #[.int .i64 kd, .int .i64 a, .int .i64 y, .int .u8 c, .slice dp xs.length dc]] wr fun e w' =>
      e = .returned (.bool true) ∧ ∃ m' n', Both w w' r1 r2 m' n' m' n' [] := by
  obtain ⟨k4, hk4⟩ : ∃ k4, kd % 4 = k4 := ⟨_, rfl⟩
  have hkb := bring_bd kd 4 (by omega)
  rw [hk4] at hkb
  have ub := (Upd.refl [] wr).alloc (.cells #[.int .i64 kd, .int .i64 a, .int .i64 y, .int .u8 c, .slice dp xs.length dc] 28)
  have hB0 : Blk (wr.alloc (.cells #[.int .i64 kd, .int .i64 a, .int .i64 y, .int .u8 c, .slice dp xs.length dc] 28)) wr.heap.size [.int .i64 kd, .int .i64 a, .int .i64 y, .int .u8 c, .slice dp xs.length dc] 28 := Blk.new wr _ _
  have h0 := h.grow ub [wr.heap.size] (by simp)
  go_enter Try.func17, Try.ntmps17
  go_wp2_with fail
  refine (bring_any kd 4 _ (by omega) (by omega) k1.1 k1.2).mono ?_
  rw [hk4]
  rintro e w2 ⟨rfl, rfl⟩
  generalize wr.alloc (.cells #[.int .i64 kd, .int .i64 a, .int .i64 y, .int .u8 c, .slice dp xs.length dc] 28) = w2 at *
  generalize wr.heap.size = tb at *
  clear ub h
  have d1 := hB0.cell 1 rfl
  have d2 := hB0.cell 2 rfl
  have d3 := hB0.cell 3 rfl
  have d4 := hB0.cell 4 rfl
  by_cases e0 : k4 = 0
  · subst e0
    have hb2 := hb.frame h0.upd (by simp)
    go_upto_region 4 with (go_at_call 26; refine (copy_any hb2 hx).mono ?_; rintro e w3 ⟨⟨dv', rfl, hob, hfr⟩, hu3⟩; obtain ⟨p', c', rfl⟩ := hob.form)
    have hB3 := h0.grow hu3 (Value.slice p' xs.length c').ownBlock.toList (fun g hg => by
      have hg' : (Value.slice p' xs.length c').ownBlock = some g := by simpa [Option.mem_toList] using hg
      exact ⟨hfr g hg', (hob.own.lt g hg').2⟩)
    have hT3 := hB0.upd_nil hu3
    generalize hav : (Value.slice p' xs.length c').ownBlock.toList ++ ([tb] ++ []) = av at hB3
    have hin : ∀ k, (Value.slice p' xs.length c').ownBlock = some k → k ∈ av := fun k hk => by rw [← hav]; simp [hk]
    have htb : tb ∈ av := by rw [← hav]; simp
    clear h0 hb2 hu3 hB0 d1 d2 d3 d4 hfr hav
    go_cut [8] (fun s8 wx => s8 = .int .i64 (sendCode a xs.length m.length) ∧ Both w wx r1 r2 (sendM m a (y % 2 == 1) xs) (sendN m a xs n) m n av ∧ OwnBytes wx (.slice p' xs.length c') xs ∧ Blk wx tb [.int .i64 kd, .int .i64 a, .int .i64 y, .int .u8 c, .slice dp xs.length dc] 28)
    case first =>
      have hT3' := hT3.drew
      have d1 := hT3'.cell 1 rfl
      have d2 := hT3'.cell 2 rfl
      have ud := (Upd.refl [] w3).drew
      go_region_held3 (fun w' => w'.cell? ⟨tb, 1, none⟩ = some (.int .i64 a) ∧ w'.cell? ⟨tb, 2, none⟩ = some (.int .i64 y)) (go_keep)
        (first
        | (go_at_call 8; go_must (refine (bring_any y 2 _ (by omega) (by omega) y1.1 y1.2).mono ?_); rintro e w4 ⟨rfl, rfl⟩)
        | (go_at_call 9; go_must (refine ((hB3.next ud).send a (y % 2 == 1) _ xs (hob.frame ud (by simp)).at_ (by omega)).mono ?_); rintro e w4 ⟨rfl, hB4, hs4⟩; have e1 := (hs4.blk hT3' htb).cell 1 rfl; have e2 := (hs4.blk hT3' htb).cell 2 rfl))
      go_wp2_with fail
      go_meet
      exact ⟨rfl, hB4, hs4.own (hob.frame ud (by simp)) hin, hs4.blk hT3' htb⟩
    case rest =>
      clear hB3 hob hT3
      obtain ⟨rfl, hB4, hob4, hT4⟩ := hcut
      go_upto_region 5 with fail
      go_cut [9] (fun s9 wx => s9 = .int .i64 (sendCode a xs.length m.length) ∧ Both w wx r1 r2 (sendM m a (y % 2 == 1) xs) (sendN m a xs n) (sendM m a (y % 2 == 1) xs) (sendN m a xs n) av ∧ OwnBytes wx (.slice p' xs.length c') xs ∧ Blk wx tb [.int .i64 kd, .int .i64 a, .int .i64 y, .int .u8 c, .slice dp xs.length dc] 28)
      case first =>
        have hT3' := hT4.drew
        have d1 := hT3'.cell 1 rfl
        have d2 := hT3'.cell 2 rfl
        have d4 := hT3'.cell 4 rfl
        have ud := (Upd.refl [] wc).drew
        go_region_held3 (fun w' => w'.cell? ⟨tb, 1, none⟩ = some (.int .i64 a) ∧ w'.cell? ⟨tb, 2, none⟩ = some (.int .i64 y) ∧ w'.cell? ⟨tb, 4, none⟩ = some (.slice dp xs.length dc)) (go_keep)
          (first
          | (go_at_call 8; go_must (refine (bring_any y 2 _ (by omega) (by omega) y1.1 y1.2).mono ?_); rintro e w4 ⟨rfl, rfl⟩)
          | (go_at_call 27; go_must (refine ((hB4.next ud).dsend a (y % 2 == 1) _ xs (hb.frame (hB4.next ud).upd (by simp)) (by omega)).mono ?_); rintro e w4 ⟨rfl, hB5, hs4⟩; have e1 := (hs4.blk hT3' htb).cell 1 rfl; have e2 := (hs4.blk hT3' htb).cell 2 rfl; have e4 := (hs4.blk hT3' htb).cell 4 rfl))
        go_wp2_with fail
        go_meet
        exact ⟨rfl, hB5, hs4.own (hob4.frame ud (by simp)) hin, hs4.blk hT3' htb⟩
      case rest =>
        clear hB4 hob4 hT4
        obtain ⟨rfl, hB5, hob5, hT5⟩ := hcut
        have d4 := hT5.cell 4 rfl
        go_wp2_with (go_at_call 16; refine (eq_any hob5.at_ (hb.frame hB5.upd (by simp)) (by simp only [maxLen]; omega)).mono ?_; rw [decide_eq_true (rfl : xs = xs)]; rintro e w7 ⟨rfl, hu7⟩)
        have hB7 := hB5.next hu7
        have hob7 := hob5.frame hu7 (by simp)
        clear hB5 hob5 hT5 d4 hu7
        go_loopw [11] (fun kv wr => ∃ (k : Nat) (zs : List Int), k ≤ xs.length ∧ kv = .int .i64 k ∧ zs.length = xs.length ∧ OwnBytes wr (.slice p' xs.length c') zs ∧ Both w wr r1 r2 (sendM m a (y % 2 == 1) xs) (sendN m a xs n) (sendM m a (y % 2 == 1) xs) (sendN m a xs n) av) (fun kv _ => xs.length - (intOf kv).toNat)
        case atStart => exact ⟨0, xs, by omega, rfl, rfl, hob7, hB7⟩
        case round =>
          clear hob7 hB7
          obtain ⟨k, zs, hk, rfl, hzl, hob, hB⟩ := hrel
          obtain ⟨wo, rfl⟩ : ∃ wo, wo = wr := ⟨_, rfl⟩
          by_cases hkl : k < xs.length
          · obtain ⟨z, hzk⟩ : ∃ z, zs[k]? = some z := ⟨_, List.getElem?_eq_getElem (by omega)⟩
            have hzb := hob.bd z (List.mem_of_getElem? hzk)
            have hown := hob.own
            rw [hzl] at hown
            obtain ⟨g, c5, hdd, _, _⟩ := hown.form (by omega)
            simp only [Value.slice.injEq, true_and] at hdd
            obtain ⟨rfl, rfl⟩ := hdd
            have hcz : wo.cell? ⟨g, k, none⟩ = some (.int .u8 z) := by rw [hown.cellAt _ (by omega)]; simp [u8s, hzk]
            have hfz : wo.frozen? ⟨g, k, none⟩ = false := hown.frozenAt _
            have hst : ∀ v, 0 ≤ v ∧ v ≤ 255 → OwnBytes (wo.setCell ⟨g, k, none⟩ (.int .u8 v)) (.slice (some ⟨g, 0, none⟩) xs.length c') (zs.set k v) ∧ Both w (wo.setCell ⟨g, k, none⟩ (.int .u8 v)) r1 r2 (sendM m a (y % 2 == 1) xs) (sendN m a xs n) (sendM m a (y % 2 == 1) xs) (sendN m a xs n) av := fun v hv => by
              refine ⟨⟨?_, fun u hu => ?_⟩, hB.turned (bs := [g]) ((Upd.refl _ _).setCell (Or.inl (by simp)) _) (fun x hx => by simp at hx; subst hx; exact hin x rfl)⟩
              · rw [← u8s_set, List.length_set]
                rw [hzl]
                exact (hown.stored k (.int .u8 v)).1
              · rcases List.mem_or_eq_of_mem_set hu with hu | rfl
                · exact hob.bd u hu
                · exact hv
            have Hst := Lib.hid hst
            clear hst hB hob hin hown
            have Hzk := Lib.hid hzk; clear hzk
            go_wp2_with fail
            obtain ⟨ho, hb'⟩ := Hst.out ((z + 1) % 256) (by omega)
            exact ⟨⟨k + 1, _, by omega, by go_num, by simpa using hzl, ho, hb'⟩, by simp [intOf]; omega⟩
          · go_wp2_with fail
            go_ret
            exact ⟨ret_bool (by simp), _, _, hB.less (by simp)⟩
  · by_cases e1 : k4 = 1
    · subst e1
      go_wp2_with fail
      refine (h0.take a).mono ?_
      generalize hv : seeV m a = v
      obtain ⟨A, up, zs⟩ := v
      dsimp only
      rintro e w3 ⟨dv', rfl, hob, hB3, hs3⟩
      obtain ⟨p', c', rfl⟩ := hob.form
      have hzl := hob.len_le
      have u4 := (Upd.refl [] w3).alloc (.cells #[.int .i64 A, .bool up, .slice p' zs.length c'] 33)
      have hT3 := (hs3.blk hB0 (by simp)).upd_nil u4
      have hP4 := Blk.new w3 #[.int .i64 A, .bool up, .slice p' zs.length c'] 33
      have hB4 := hB3.grow u4 [w3.heap.size] (by simp)
      have hob4 := hob.frame u4 (by simp)
      have c1 := hT3.cell 1 rfl
      clear d1 d2 d3 d4 hB3
      go_wp2_with fail
      refine (hB4.dtake a).mono ?_
      rw [hv]
      dsimp only
      rintro e w5 ⟨dv5, rfl, hob5, hB5, hs5⟩
      obtain ⟨p5, c5, rfl⟩ := hob5.form
      have u6 := (Upd.refl [] w5).alloc (.cells #[.int .i64 A, .bool up, .slice p5 zs.length c5] 51)
      have hP6 := (hs5.blk hP4 (by simp)).upd_nil u6
      have hob6 := (hs5.own hob4 (fun k hk => by simp [hk])).frame u6 (by simp)
      have hob7 := hob5.frame u6 (by simp)
      have hB6 := hB5.next u6
      have q0 := hP6.cell 0 rfl
      have q1 := hP6.cell 1 rfl
      have q2 := hP6.cell 2 rfl
      clear c1
      go_wp2_with (go_at_call 20; refine (like_same A up (seeIs m a) hob6.at_ hob7.at_ hzl).mono ?_; rintro e w8 ⟨rfl, hu8⟩)
      go_ret
      exact ⟨rfl, _, _, (hB6.next hu8).less (by simp)⟩
    · have e0' : (k4 == 0) = false := by simpa using e0
      have e1' : (k4 == 1) = false := by simpa using e1
      by_cases e2 : k4 = 2
      · subst e2
        go_upto_region 17 with fail
        have ud := (Upd.refl [] w2).drew
        have hT := hB0.drew
        have c1 := hT.cell 1 rfl
        clear d1 d2 d3 d4
        go_region_held3 (fun w' => w'.cell? ⟨tb, 1, none⟩ = some (.int .i64 a)) (go_keep)
          (first
          | (go_at_call 11; go_must (refine ((h0.next ud).dbl a).mono ?_); rintro e w4 ⟨rfl, hB4, hs4⟩; have c4 := (hs4.blk hT (by simp)).cell 1 rfl)
          | (go_at_call 29; go_must (refine (hB4.ddbl a).mono ?_); rintro e w5 ⟨rfl, hB5, hs5⟩; have c5 := (hs5.blk (hs4.blk hT (by simp)) (by simp)).cell 1 rfl))
        go_wp2_with fail
        go_ret
        exact ⟨ret_bool (by simp), _, _, hB5.less (by simp)⟩
      · have e2' : (k4 == 2) = false := by simpa using e2
        go_upto_region 18 with fail
        have ud := (Upd.refl [] w2).drew
        have hT := hB0.drew
        have c1 := hT.cell 1 rfl
        have c2 := hT.cell 2 rfl
        have c3 := hT.cell 3 rfl
        clear d1 d2 d3 d4
        go_region_held3 (fun w' => w'.cell? ⟨tb, 1, none⟩ = some (.int .i64 a) ∧ w'.cell? ⟨tb, 2, none⟩ = some (.int .i64 y) ∧ w'.cell? ⟨tb, 3, none⟩ = some (.int .u8 c)) (go_keep)
          (first
          | (go_at_call 12; go_must (refine ((h0.next ud).turn a y c).mono ?_); rintro e w4 ⟨rfl, hB4, hs4⟩; have hT4 := hs4.blk hT (by simp); have f1 := hT4.cell 1 rfl; have f2 := hT4.cell 2 rfl; have f3 := hT4.cell 3 rfl)
          | (go_at_call 30; go_must (refine (hB4.dturn a y c).mono ?_); rintro e w5 ⟨rfl, hB5, hs5⟩; have hT5 := hs5.blk hT4 (by simp); have g1 := hT5.cell 1 rfl; have g2 := hT5.cell 2 rfl; have g3 := hT5.cell 3 rfl))
        go_wp2_with fail
        go_ret
        exact ⟨ret_bool (by simp), _, _, hB5.less (by simp)⟩
end Go.Proofs.Ytceeekdephgcmaa
