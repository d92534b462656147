/- AgentDoes: its walk. -/
import Derived.Test.YtpgilkemcaipiaaAgK
namespace Go.Proofs.Ytpgilkemcaipiaa
open Go.RowKit

theorem ask_same {t bw : Nat} {st : Nat → Win} {n : Int} {w : World} (h : TabAt w t bw st n) (a s : Int) (hH : ∀ i, WinOk (st i)) :
    Calls Try.prog 10 #[.pointer (some ⟨t, 0, none⟩), .int .i64 a, .int .i64 s] w fun e w' =>
      e = .returned (.tuple #[.int .i64 (askV st a s), .int .i64 (codeOf (mayB a s))]) ∧ TabAt w' t bw st (if mayB a s then wrap64 (n + 1) else n) ∧ Upd [t] w w' := by
  unfold askV codeOf
  cases hm : mayB a s
  · refine (ask_err h a s hm).mono fun e w' ⟨h1, h2⟩ => ?_
    subst h2
    exact ⟨h1, h, Upd.refl _ _⟩
  · obtain ⟨h1, h2, h3, h4⟩ := may_bd hm
    exact (ask_any h a s h1 h2 h3 h4 hH).mono fun e w' ⟨h1, h2, h3⟩ => ⟨h1, h2, h3⟩

theorem winVals_cons (a : Win) (l : List Win) : winVals (a :: l) = .int .i64 a.A :: .int .i64 a.H :: .int .u32 a.B :: winVals l := by simp [winVals]
theorem winVals_setH (us : List Win) (i : Nat) (v : Win) (h : us[i]? = some v) (x : Int) : (winVals us).set (i * 3 + 1) (.int .i64 x) = winVals (us.set i ⟨v.A, x, v.B⟩) := by
  induction us generalizing i with
  | nil => simp at h
  | cons a l ih =>
    cases i with
    | zero => simp at h; subst h; simp [winVals_cons]
    | succ i =>
      have := ih i (by simpa using h)
      rw [show (i + 1) * 3 + 1 = (i * 3 + 1) + 1 + 1 + 1 by omega, winVals_cons, List.set_cons_succ, List.set_cons_succ, List.set_cons_succ, this, List.set_cons_succ, winVals_cons]
theorem winVals_setB (us : List Win) (i : Nat) (v : Win) (h : us[i]? = some v) (x : Int) : (winVals us).set (i * 3 + 2) (.int .u32 x) = winVals (us.set i ⟨v.A, v.H, x⟩) := by
  induction us generalizing i with
  | nil => simp at h
  | cons a l ih =>
    cases i with
    | zero => simp at h; subst h; simp [winVals_cons]
    | succ i =>
      have := ih i (by simpa using h)
      rw [show (i + 1) * 3 + 2 = (i * 3 + 2) + 1 + 1 + 1 by omega, winVals_cons, List.set_cons_succ, List.set_cons_succ, List.set_cons_succ, this, List.set_cons_succ, winVals_cons]

/-- A row of windows that is the call's own: its cells. -/
theorem own_at {w : World} {base g n cap : Nat} {e : TypeId} {us : List Win} (h : w.ownsRow base e 3 (.slice (some ⟨g, 0, none⟩) n cap) n (winVals us)) {i : Nat} {v : Win} (hv : us[i]? = some v) (hn : us.length = n) :
    w.cell? ⟨g, i * 3, none⟩ = some (.int .i64 v.A) ∧ w.cell? ⟨g, i * 3 + 1, none⟩ = some (.int .i64 v.H) ∧ w.cell? ⟨g, i * 3 + 2, none⟩ = some (.int .u32 v.B) ∧ w.frozen? ⟨g, i * 3 + 1, none⟩ = false ∧ w.frozen? ⟨g, i * 3 + 2, none⟩ = false := by
  obtain ⟨h1, h2, h3⟩ := winVals_get us i v hv
  have hi : i < us.length := (List.getElem?_eq_some_iff.1 hv).1
  exact ⟨by rw [h.cellAt _ (by omega)]; exact h1, by rw [h.cellAt _ (by omega)]; exact h2, by rw [h.cellAt _ (by omega)]; exact h3, h.frozenAt _, h.frozenAt _⟩

theorem WinsAt.wide {w : World} {B B' : Nat} {p : Option Addr} {ws : List Win} (h : WinsAt w B p ws) (hB : B ≤ B') : WinsAt w B' p ws := fun i v hi => by
  obtain ⟨h1, b, off, h2, h3, h4⟩ := h i v hi
  exact ⟨h1, b, off, h2, by omega, h4⟩

theorem windows_own {t bw : Nat} {st : Nat → Win} {n : Int} {w : World} (h : TabAt w t bw st n) (hinv : StInv st) :
    Calls Try.prog 19 #[.pointer (some ⟨t, 0, none⟩)] w fun e w' =>
      (∃ q cap us, e = .returned (.slice q us.length cap) ∧ w'.ownsRow w.heap.size 48 3 (.slice q us.length cap) us.length (winVals us) ∧ WinsAt w' w'.heap.size q us ∧ us.length ≤ 17 ∧ Hid (wins st 17 = us)) ∧ Upd [] w w' := by
  refine (windows_any h).mono fun e w' ⟨v, he, hown, hu⟩ => ⟨?_, hu⟩
  obtain ⟨q, qc, rfl, hws, hqn⟩ := winsAt_of_own hown hinv.fit
  exact ⟨q, qc, _, he, hown, hws, wins_le st 17, Lib.hid rfl⟩

theorem rwindows_ws {w : World} {m base L : Nat} {cm : Nat → Value} {st : Nat → Win} {n : Int} {Ls : Nat → List Int} (h : RTab w m base L cm st n Ls) (hL : L ≤ 1000) (hr : Rel st Ls) (us : List Win) (hus : Hid (wins st 17 = us)) :
    Calls Try.prog 20 #[.pointer (some ⟨m, 0, none⟩)] w fun e w' =>
      (∃ q cap, e = .returned (.slice q us.length cap) ∧ WinsAt w' w'.heap.size q us) ∧ Upd [] w w' := by
  refine (rwindows_any h hL hr).mono fun e w' ⟨v, he, hown, hu⟩ => ⟨?_, hu⟩
  obtain ⟨q, qc, rfl, hws, hqn⟩ := winsAt_of_own hown hr.inv.fit
  rw [hus.out] at he hws
  exact ⟨q, qc, he, hws⟩

/-- What stands while the answers are compared. -/
structure Cmp (w8 : World) (t bw m base L : Nat) (cm : Nat → Value) (st : Nat → Win) (n : Int) (Ls : Nat → List Int) (q8 : Option Addr) (us : List Win) (w : World) : Prop where
  tab : TabAt w t bw st n
  ref : RTab w m base L cm st n Ls
  wins : WinsAt w w8.heap.size q8 us
  upd : Upd [] w8 w
theorem Cmp.next {w8 : World} {t bw m base L : Nat} {cm : Nat → Value} {st : Nat → Win} {n : Int} {Ls : Nat → List Int} {q8 : Option Addr} {us : List Win} {w w' : World} (h : Cmp w8 t bw m base L cm st n Ls q8 us w) (u : Upd [] w w') : Cmp w8 t bw m base L cm st n Ls q8 us w' :=
  ⟨h.tab.upd u (by simp) (by simp), h.ref.upd u (by simp), h.wins.upd h.upd.size u (by simp), h.upd.trans_nil u⟩

set_option maxHeartbeats 8000000 in
set_option maxRecDepth 100000 in
theorem does_walk (p : Option Addr) (cap : Nat) (ws : List Win) (p2 : Option Addr) (len2 cap2 : Nat) (w : World) (hl : WinsAt w w.heap.size p ws) (hreach : ws.length * 24 ≤ 140737488351232) (hl2 : Ints3 w w.heap.size p2 len2) (hlen2 : len2 ≤ maxLen) :
    Calls Try.prog 5 #[.slice p ws.length cap, .slice p2 len2 cap2] w fun e w' => e = .returned (.bool true) ∧ Upd [] w w' := by
  unfold maxLen at hlen2
  have hfit : ∀ v ∈ ws, WinFit v := fun v hv => by
    obtain ⟨i, hi⟩ := List.getElem?_of_mem hv
    exact (hl i v hi).1
  go_enter Try.func5, Try.ntmps5
  go_wp2_with fail
  refine (windows_copy p cap ws w hl hreach).mono ?_
  rintro e w1 ⟨v1, rfl, hown1, hu1⟩
  obtain ⟨q, qc, rfl, hin, _⟩ := winsAt_of_own hown1 hfit
  go_wp2_with fail
  refine (of_any q qc ws w1 hin (by omega)).mono ?_
  rintro e w2 ⟨hof, hu2⟩
  have hl' := (hl.upd (Nat.le_refl _) hu1 (by simp))
  have hs1 := hu1.size
  have hs2 := hu2.size
  have hw2 : WinsAt w2 w2.heap.size p ws := fun i v hi => by
    obtain ⟨h1, b, off, h2, h3, h4, h5, h6⟩ := (hl.upd (Nat.le_refl _) (hu1.trans_nil hu2) (by simp)) i v hi
    exact ⟨h1, b, off, h2, by omega, h4, h5, h6⟩
  have hin2 : WinsAt w2 w2.heap.size q ws := fun i v hi => by
    obtain ⟨h1, b, off, h2, h3, h4, h5, h6⟩ := (hin.upd (Nat.le_refl _) hu2 (by simp)) i v hi
    exact ⟨h1, b, off, h2, by omega, h4, h5, h6⟩
  cases hto : ofTo ws ws.length
  · unfold OfPost at hof
    rw [hto] at hof
    subst hof
    have Hto := Lib.hid hto; clear hto
    go_wp2_with fail
    refine (rof_any p cap ws w2 hw2 (by omega)).mono ?_
    rintro e w3 ⟨hrof, hu3⟩
    unfold ROfPost at hrof
    rw [Hto.out] at hrof
    subst hrof
    have hs3 := hu3.size
    have hw3 : WinsAt w3 w3.heap.size p ws := fun i v hi => by
      obtain ⟨h1, b, off, h2, h3, h4, h5, h6⟩ := (hw2.upd (Nat.le_refl _) hu3 (by simp)) i v hi
      exact ⟨h1, b, off, h2, by omega, h4, h5, h6⟩
    have hin3 : WinsAt w3 w3.heap.size q ws := fun i v hi => by
      obtain ⟨h1, b, off, h2, h3, h4, h5, h6⟩ := (hin2.upd (Nat.le_refl _) hu3 (by simp)) i v hi
      exact ⟨h1, b, off, h2, by omega, h4, h5, h6⟩
    go_wp2_with (first
      | (go_at_call 16; refine (same_yes q qc p cap ws _ hin3 hw3 (by omega)).mono ?_; rintro e w4 ⟨rfl, hu4⟩)
      | (go_at_call 12; refine (awake_true _).mono ?_; rintro e w5 ⟨rfl, hu5⟩))
    go_ret
    exact ⟨rfl, (((hu1.trans_nil hu2).trans_nil hu3).trans_nil hu4).trans_nil hu5⟩
  · rename_i ls
    obtain ⟨last, st⟩ := ls
    unfold OfPost at hof
    rw [hto] at hof
    obtain ⟨t, bw, ht0, hbw0, rfl, htab⟩ := hof
    have ltt := htab.head.lt
    have ltb := htab.rows.lt
    have Hto := Lib.hid hto; clear hto
    go_wp2_with fail
    refine (rof_any p cap ws w2 hw2 (by omega)).mono ?_
    rintro e w3 ⟨hrof, hu3⟩
    unfold ROfPost at hrof
    rw [Hto.out] at hrof
    obtain ⟨m, cm, Ls, rfl, hR, hr⟩ := hrof
    have hs3 := hu3.size
    have hw3 : WinsAt w3 w3.heap.size p ws := fun i v hi => by
      obtain ⟨h1, b, off, h2, h3, h4, h5, h6⟩ := (hw2.upd (Nat.le_refl _) hu3 (by simp)) i v hi
      exact ⟨h1, b, off, h2, by omega, h4, h5, h6⟩
    have hin3 : WinsAt w3 w3.heap.size q ws := fun i v hi => by
      obtain ⟨h1, b, off, h2, h3, h4, h5, h6⟩ := (hin2.upd (Nat.le_refl _) hu3 (by simp)) i v hi
      exact ⟨h1, b, off, h2, by omega, h4, h5, h6⟩
    go_wp2_with (go_at_call 16; refine (same_yes q qc p cap ws _ hin3 hw3 (by omega)).mono ?_; rintro e w4 ⟨rfl, hu4⟩)
    have hg : ∀ x ∈ (Value.slice q ws.length qc).ownBlock.toList, w.heap.size ≤ x ∧ x < w1.heap.size := fun x hx => hown1.lt x (by simpa [Option.mem_toList] using hx)
    obtain ⟨bs, hbs⟩ : ∃ bs, (Value.slice q ws.length qc).ownBlock.toList = bs := ⟨_, rfl⟩
    rw [hbs] at hg
    have u4 : Upd [] w w4 := ((hu1.trans_nil hu2).trans_nil hu3).trans_nil hu4
    have hs4 := hu4.size
    have hown4 := own_upd (own_upd (own_upd hown1 hu2 (by simp)) hu3 (by simp)) hu4 (by simp)
    have htab4 := (htab.upd hu3 (by simp) (by simp)).upd hu4 (by simp) (by simp)
    have hR4 := hR.upd hu4 (by simp)
    have hl24 := hl2.upd (Nat.le_refl _) u4
    clear hown1 htab hR hin hin2 hin3 hw2 hw3 hl' hl
    go_loopw [10] (fun iv wr => ∃ (i : Nat) (us : List Win), i ≤ ws.length ∧ iv = .int .i64 i ∧ us.length = ws.length ∧ wr.ownsRow w.heap.size 48 3 (.slice q ws.length qc) ws.length (winVals us) ∧ Upd bs w4 wr)
      (fun iv _ => ws.length - (intOf iv).toNat)
    case atStart => exact ⟨0, ws, by omega, rfl, rfl, hown4, Upd.refl _ _⟩
    case round =>
      obtain ⟨i, us, hi, rfl, hul, hown, hu⟩ := hrel
      by_cases hlt : i < ws.length
      · obtain ⟨v, hv⟩ : ∃ v, us[i]? = some v := ⟨_, List.getElem?_eq_getElem (by omega)⟩
        obtain ⟨g, cp, hqe, hg1, hg2⟩ := hown.form (by omega)
        obtain ⟨rfl, rfl⟩ : q = some ⟨g, 0, none⟩ ∧ qc = cp := by simpa using hqe
        obtain ⟨_, e1, _, f1, _⟩ := own_at hown hv hul
        have hst := hown.stored (i * 3 + 1) (.int .i64 (wrap64 (v.H + 1)))
        rw [winVals_setH us i v hv] at hst
        have Hv := Lib.hid hv; clear hv
        go_wp2_with fail
        exact ⟨⟨i + 1, _, by omega, by go_num, by simpa using hul, hst.1, hu.setCell (Or.inl (by rw [← hbs]; simp [Value.ownBlock])) _⟩, by simp [intOf]; omega⟩
      · have hx : ∀ x ∈ bs, x < w2.heap.size := fun x hx => by have := hg x hx; omega
        have htab5 := htab4.upd hu (fun h => by have := hg t h; omega) (fun h => by have := hg bw h; omega)
        have hR5 := hR4.upd hu hx
        have u5' : Upd [] w wr := u4.trans hu (fun x hx => .inr (hg x hx).1)
        have hl25 := hl2.upd (Nat.le_refl _) u5'
        clear htab4 hR4 hown hown4 hu4
        go_wp2_with fail
        clear hu
        go_loopw [11] (fun iv wr => ∃ (i : Nat) (cm : Nat → Value) (st : Nat → Win) (n : Int) (Ls : Nat → List Int), i ≤ 200 ∧ iv = .int .i64 i ∧ TabAt wr t bw st n ∧ RTab wr m w2.heap.size (32 + i) cm st n Ls ∧ Rel st Ls ∧ Upd [] w wr)
          (fun iv _ => 200 - (intOf iv).toNat)
        case atStart => exact ⟨0, cm, st, 0, Ls, by omega, rfl, htab5, hR5, hr, u5'⟩
        case round =>
          clear htab5 hR5 hr u5' Hto
          obtain ⟨i, cm, st, n, Ls, hi, rfl, ht, hR, hr, hu⟩ := hrel
          obtain ⟨wo, rfl⟩ : ∃ wo, wo = wr := ⟨_, rfl⟩
          have hlow := hR.low
          have hwo := hu.size
          have lm := hR.blk.lt
          have l1 := ht.head.lt
          have l2 := ht.rows.lt
          by_cases hgo : i < len2 ∧ i < 200
          · obtain ⟨hil, hi200⟩ := hgo
            obtain ⟨b, off, kd, a, s, rfl, hb, c0, c1, c2, x1, _⟩ := (hl2.upd (Nat.le_refl _) hu) i hil
            have hB := Blk.new wo #[.int .i64 kd, .int .i64 a, .int .i64 s] 35
            have b0 := hB.cell 0 rfl
            have ua : Upd [] wo (wo.alloc (.cells #[.int .i64 kd, .int .i64 a, .int .i64 s] 35)) := (Upd.refl [] _).alloc _
            go_upto_if 83 with fail
            go_cut [13, 14, 15, 16] (fun s13 s14 s15 s16 wx => ∃ (cm : Nat → Value) (st : Nat → Win) (n : Int) (Ls : Nat → List Int), TabAt wx t bw st n ∧ RTab wx m w2.heap.size (32 + (i + 1)) cm st n Ls ∧ Rel st Ls ∧ Upd [] w wx)
            case first =>
              by_cases hk0 : kd.tmod 2 = 0
              · have e0 : (kd.tmod 2 == 0) = true := by simp [hk0]
                clear hk0
                go_wp2_with fail
                refine (ask_same (ht.upd ua (by simp) (by simp)) a s hr.inv.ok).mono ?_
                rintro e w5 ⟨rfl, ht5, hu5⟩
                have hB5 := hB.upd hu5 (by simp; omega)
                have b1 := hB5.cell 1 rfl
                have b2 := hB5.cell 2 rfl
                go_wp2_with fail
                refine (rask_all ((hR.upd ua (by simp)).upd hu5 (by simp; omega)) (by omega) hr a s).mono ?_
                rintro e w6 ⟨rfl, hR6, hu6⟩
                go_wp2_with fail
                go_meet
                exact ⟨cm, st, _, Ls, ht5.upd hu6 (by simp; omega) (by simp; omega), ⟨hR6.blk, fun j hj => (hR6.lists j hj).more (by omega), hlow⟩, hr, ((hu.trans_nil ua).trans hu5 (by simp; omega)).trans hu6 (by simp; omega)⟩
              · have e0 : (kd.tmod 2 == 0) = false := by simp [hk0]
                clear hk0
                have hb1 := hB.cell 1 rfl
                have hb2 := hB.cell 2 rfl
                go_upto_region 21 with fail
                go_cut [122] (fun s122 wx => s122 = .bool false ∧ (∃ (cm : Nat → Value) (Ls : Nat → List Int), RTab wx m w2.heap.size (32 + (i + 1)) cm (stepSt st a s) n Ls ∧ Rel (stepSt st a s) Ls) ∧ TabAt wx t bw (stepSt st a s) n ∧ Upd [] w wx)
                case first =>
                  go_region_held3 (fun w' => w'.cell? ⟨wo.heap.size, 1, none⟩ = some (.int .i64 a) ∧ w'.cell? ⟨wo.heap.size, 2, none⟩ = some (.int .i64 s)) (go_keep)
                    (first
                      | (go_at_call_of 11 t; go_must (refine (done_all (st := st) (n := n) ((ht.upd ua (by simp) (by simp)).heap (by rfl)) a s hr.inv.ok).mono ?_); rintro e w6 ⟨rfl, ht6, hu6⟩; have hB6 := (Blk.of_heap hB (by rfl)).upd hu6 (by simp; omega); have k1 := hB6.cell 1 rfl; have k2 := hB6.cell 2 rfl)
                      | (go_at_call_of 18 m; go_must (refine (rdone_all (st := st) (n := n) ((hR.upd ua.drew (by simp)).upd hu6 (by simp; omega)) (by omega) hr a s).mono ?_); rintro e w7 ⟨rfl, hr7u⟩; have hB7 := (Blk.of_heap hB6 (by rfl)).upd hr7u.2 (by simp; omega); have l1 := hB7.cell 1 rfl; have l2 := hB7.cell 2 rfl))
                  go_wp2_with fail
                  go_meet
                  obtain ⟨⟨cm', Ls', hR7, hr7⟩, hu7⟩ := hr7u
                  exact ⟨rfl, ⟨cm', Ls', ⟨hR7.blk, fun j hj => (hR7.lists j hj).more (by omega), hR7.low⟩, hr7⟩, ht6.upd hu7 (by simp; omega) (by simp; omega), ((hu.trans_nil ua.drew).trans hu6 (by simp; omega)).trans hu7 (by simp; omega)⟩
                case rest =>
                  obtain ⟨rfl, ⟨cm', Ls', hR7, hr7⟩, ht7, u7⟩ := hcut
                  go_wp2_with fail
                  go_meet
                  exact ⟨cm', _, n, Ls', ht7, hR7, hr7, u7⟩
            case rest =>
              clear ht hR hr hu b0 hB ua
              obtain ⟨cm, st, n, Ls, ht, hR, hr, hu⟩ := hcut
              have lm := hR.blk.lt
              have l1 := ht.head.lt
              have l2 := ht.rows.lt
              have hwx := hu.size
              obtain ⟨w7, rfl⟩ : ∃ w7, w7 = wc := ⟨_, rfl⟩
              go_wp2_with fail
              refine (windows_own ht hr.inv).mono ?_
              rintro e w8 ⟨⟨q8, c8, us, rfl, hown8, hws8, hn8, Hus⟩, hu8⟩
              have hC8 : Cmp w8 t bw m w2.heap.size (32 + (i + 1)) cm st n Ls q8 us w8 := ⟨ht.upd hu8 (by simp) (by simp), hR.upd hu8 (by simp), hws8, Upd.refl _ _⟩
              have ca := hC8.ref.asked
              go_upto_region 24 with fail
              go_cut [138] (fun s138 wx => s138 = .bool false ∧ Cmp w8 t bw m w2.heap.size (32 + (i + 1)) cm st n Ls q8 us wx)
              case first =>
                go_region_held3 (fun w' => w'.cell? ⟨m, 34, none⟩ = some (.int .i64 n) ∧ Cmp w8 t bw m w2.heap.size (32 + (i + 1)) cm st n Ls q8 us w')
                  (first
                    | exact ⟨ca, hC8⟩
                    | exact ⟨ca, hC8.next ((Upd.refl [] _).drew)⟩
                    | exact ⟨(Cmp.next (And.right (by assumption)) hu10).ref.asked, Cmp.next (And.right (by assumption)) hu10⟩
                    | exact ⟨(Cmp.next (And.right (by assumption)) hu9).ref.asked, Cmp.next (And.right (by assumption)) hu9⟩
                    | assumption)
                  (first
                    | (go_at_call 20; go_must (refine (rwindows_ws (Cmp.ref (w8 := w8) (And.right (by assumption))) (by omega) hr us Hus).mono ?_); rintro e w9 ⟨⟨q9, c9, rfl, hws9⟩, hu9⟩)
                    | (go_at_call 16; go_must (refine (same_yes q8 c8 q9 c9 us _ (WinsAt.wide (Cmp.wins (And.right (by assumption))) (Upd.size (Cmp.upd (And.right (by assumption))))) hws9 (by omega)).mono ?_); rintro e w10 ⟨rfl, hu10⟩)
                    | (go_at_call 21; go_must (refine (asked_any (Cmp.tab (w8 := w8) (And.right (by assumption)))).mono ?_); rintro e w' ⟨rfl, rfl⟩))
                all_goals go_wp2_with fail
                all_goals go_meet
                all_goals exact ⟨rfl, And.right (by assumption)⟩
              case rest =>
                obtain ⟨rfl, hC⟩ := hcut
                have hown9 := own_upd hown8 hC.upd (by simp)
                have hg8 : ∀ x ∈ (Value.slice q8 us.length c8).ownBlock.toList, w7.heap.size ≤ x := fun x hx => (hown8.lt x (by simpa [Option.mem_toList] using hx)).1
                obtain ⟨b8, hb8⟩ : ∃ b8, (Value.slice q8 us.length c8).ownBlock.toList = b8 := ⟨_, rfl⟩
                rw [hb8] at hg8
                have u9 : Upd [] w7 wc := hu8.trans_nil hC.upd
                obtain ⟨w9, rfl⟩ : ∃ w9, w9 = wc := ⟨_, rfl⟩
                obtain ⟨N, hN⟩ : ∃ N, us.length = N := ⟨_, rfl⟩
                rw [hN] at hown9 hb8
                clear hown8 hws8 Hus hC hC8 ca hu8
                rw [hN]
                go_wp2_with fail
                go_loopw [18] (fun kv wr => ∃ (k : Nat) (vs : List Win), k ≤ N ∧ kv = .int .i64 k ∧ vs.length = N ∧ wr.ownsRow w7.heap.size 48 3 (.slice q8 N c8) N (winVals vs) ∧ Upd b8 w9 wr)
                  (fun kv _ => N - (intOf kv).toNat)
                case atStart => exact ⟨0, us, by omega, rfl, hN, hown9, Upd.refl _ _⟩
                case round =>
                  obtain ⟨k, vs, hk, rfl, hvl, hown, hu9⟩ := hrel
                  by_cases hkN : k < N
                  · obtain ⟨v, hv⟩ : ∃ v, vs[k]? = some v := ⟨_, List.getElem?_eq_getElem (by omega)⟩
                    obtain ⟨g, cp, hqe, hg1, hg2⟩ := hown.form (by omega)
                    obtain ⟨rfl, rfl⟩ : q8 = some ⟨g, 0, none⟩ ∧ c8 = cp := by simpa using hqe
                    obtain ⟨_, _, e2, _, f2⟩ := own_at hown hv hvl
                    have hst := hown.stored (k * 3 + 2) (.int .u32 0)
                    rw [winVals_setB vs k v hv] at hst
                    have Hv := Lib.hid hv; clear hv
                    go_wp2_with fail
                    exact ⟨⟨k + 1, _, by omega, by go_num, by simpa using hvl, hst.1, hu9.setCell (Or.inl (by rw [← hb8]; simp [Value.ownBlock])) _⟩, by simp [intOf]; omega⟩
                  · have uall : Upd [] w7 wr := u9.trans hu9 (fun x hx => .inr (hg8 x hx))
                    have ht' := ht.upd uall (by simp) (by simp)
                    have hR' := hR.upd uall (by simp)
                    have hu' := hu.trans_nil uall
                    clear ht hR hu hown hown9 hu9 u9 uall
                    go_wp2_with fail
                    exact ⟨⟨i + 1, cm, st, n, Ls, by omega, by go_num, ht', hR', hr, hu'⟩, by simp [intOf]; omega⟩
          · by_cases hil : i < len2
            all_goals
              first
                | (have hi200 : ¬ i < 200 := fun h => hgo ⟨hil, h⟩)
                | skip
              go_wp2_with fail
              refine (windows_own ht hr.inv).mono ?_
              rintro e w8 ⟨⟨q8, c8, us, rfl, hown8, hws8, hn8, Hus⟩, hu8⟩
              go_wp2_with fail
              refine (rwindows_ws (hR.upd hu8 (by simp)) (by omega) hr us Hus).mono ?_
              rintro e w9 ⟨⟨q9, c9, rfl, hws9⟩, hu9⟩
              go_wp2_with fail
              refine (same_yes q8 c8 q9 c9 us _ (WinsAt.wide (hws8.upd (Nat.le_refl _) hu9 (by simp)) hu9.size) hws9 (by omega)).mono ?_
              rintro e w10 ⟨rfl, hu10⟩
              go_wp2_with (go_at_call 12; refine (awake_true _).mono ?_; rintro e w11 ⟨rfl, hu11⟩)
              go_ret
              exact ⟨rfl, (((hu.trans_nil hu8).trans_nil hu9).trans_nil hu10).trans_nil hu11⟩

end Go.Proofs.Ytpgilkemcaipiaa
