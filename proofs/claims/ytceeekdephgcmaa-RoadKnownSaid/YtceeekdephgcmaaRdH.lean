/- The chapter's examples. -/
import Derived.Test.YtceeekdephgcmaaRdG
import Derived.Lib.SlBytesConst
namespace Go.Proofs.Ytceeekdephgcmaa
open Go.RowKit

theorem const_at (w : World) (x : Int) (hx : 0 ≤ x ∧ x ≤ 255) (T : TypeId) (fr : Nat × Nat) (n : Nat) (hn : n = w.heap.size) : BytesAt (w.alloc (.cells #[.int .u8 x] T fr)) (.slice (some ⟨n, 0, none⟩) 1 1) [x] := by
  subst hn
  refine ⟨by simpa using hx, .inr ⟨_, _, rfl, fun i hi => ?_⟩⟩
  obtain rfl : i = 0 := by simpa using hi
  simp [World.cell?, World.alloc, Addr.add, -World.alloc_eq]

theorem kconst (w : World) (x : Int) : (convert 26 26 (.slice (some ⟨w.heap.size, 0, none⟩) 1 1)).run Try.prog (w.alloc (.cells #[.int .u8 x] 5)) = .ok (.slice (some ⟨w.heap.size, 0, none⟩) 1 1) (w.alloc (.cells #[.int .u8 x] 5 (1, 2))) :=
  Lib.run_convert_bytes_const (P := Try.prog) w 26 5 #[.int .u8 x] 1 1 Try.underlying26 Try.underlying5

/-- Since b nothing that was there was turned, and at r stands a road, laid since, that has m. -/
def St (b w : World) (r : Nat) (m : List Key) : Prop := ∃ F n, RoadK w F r m n ∧ (∀ k ∈ F, b.heap.size ≤ k) ∧ Upd [] b w

theorem St.upd {b w : World} {r : Nat} {m : List Key} (h : St b w r m) : Upd [] b w := by
  obtain ⟨F, n, hK, hF, hu⟩ := h; exact hu
theorem St.next {b w w' : World} {r : Nat} {m : List Key} (h : St b w r m) (u : Upd [] w w') : St b w' r m := by
  obtain ⟨F, n, hK, hF, hu⟩ := h; exact ⟨F, n, hK.nil u, hF, hu.trans_nil u⟩

theorem newS (w : World) : Calls Try.prog 7 #[] w fun e w' => e = .returned (.pointer (some ⟨w.heap.size, 0, none⟩)) ∧ St w w' w.heap.size [] :=
  (newK w).mono fun e w' ⟨h1, h2, h3⟩ => ⟨h1, _, _, h2, by simp, h3⟩

theorem sendS {b w : World} {r : Nat} {m : List Key} (h : St b w r m) (A : Int) (up : Bool) (dv : Value) (xs : List Int) (hb : BytesAt w dv xs) (hsz : xs.length ≤ 9223372036854775807) (c : Int) (m' : List Key) (h1 : sendCode A xs.length m.length = c) (h2 : sendM m A up xs = m') :
    Calls Try.prog 9 #[.pointer (some ⟨r, 0, none⟩), .agg #[.int .i64 A, .bool up, dv]] w fun e w' => e = .returned (.int .i64 c) ∧ St b w' r m' := by
  subst h1; subst h2
  obtain ⟨F, n, hK, hF, hu⟩ := h
  refine (sendK hK A up dv xs hb hsz).mono ?_
  rintro e w' ⟨rfl, ⟨F', hK', hF'⟩, hu'⟩
  exact ⟨rfl, F', _, hK', fun k hk => (hF' k hk).elim (hF k) (fun h => Nat.le_trans hu.size h), hu.trans hu' (fun x hx => .inr (hF x hx))⟩

theorem dblS {b w : World} {r : Nat} {m : List Key} (h : St b w r m) (i c : Int) (m' : List Key) (h1 : dblCode m i = c) (h2 : dblM m i = m') :
    Calls Try.prog 11 #[.pointer (some ⟨r, 0, none⟩), .int .i64 i] w fun e w' => e = .returned (.int .i64 c) ∧ St b w' r m' := by
  subst h1; subst h2
  obtain ⟨F, n, hK, hF, hu⟩ := h
  refine (dblK hK i).mono ?_
  rintro e w' ⟨rfl, ⟨F', hK', hF'⟩, hu'⟩
  exact ⟨rfl, F', _, hK', fun k hk => (hF' k hk).elim (hF k) (fun h => Nat.le_trans hu.size h), hu.trans hu' (fun x hx => .inr (hF x hx))⟩

theorem turnS {b w : World} {r : Nat} {m : List Key} (h : St b w r m) (i a y c : Int) (m' : List Key) (h1 : turnCode m i a = c) (h2 : turnM m i a y = m') :
    Calls Try.prog 12 #[.pointer (some ⟨r, 0, none⟩), .int .i64 i, .int .i64 a, .int .u8 y] w fun e w' => e = .returned (.int .i64 c) ∧ St b w' r m' := by
  subst h1; subst h2
  obtain ⟨F, n, hK, hF, hu⟩ := h
  refine (turnK hK i a y).mono ?_
  rintro e w' ⟨rfl, ⟨F', hK', hF'⟩, hu'⟩
  exact ⟨rfl, F', _, hK', fun k hk => hF k (hF' k hk), hu.trans hu' (fun x hx => .inr (hF x hx))⟩

theorem lenS {b w : World} {r : Nat} {m : List Key} (h : St b w r m) (k : Int) (hk : (m.length : Int) = k) :
    Calls Try.prog 14 #[.pointer (some ⟨r, 0, none⟩)] w fun e w' => e = .returned (.int .i64 k) ∧ w = w' := by
  subst hk
  obtain ⟨F, n, hK, hF, hu⟩ := h
  exact lenK hK

theorem seeS {b w : World} {r : Nat} {m : List Key} (h : St b w r m) (i A : Int) (up : Bool) (xs : List Int) (is : Bool) (his : seeIs m i = is) (hv : seeV m i = (A, up, xs)) :
    Calls Try.prog 13 #[.pointer (some ⟨r, 0, none⟩), .int .i64 i] w fun e w' =>
      (∃ dv', e = .returned (.tuple #[.agg #[.int .i64 A, .bool up, dv'], .bool is]) ∧ OwnBytes w' dv' xs ∧ ∀ k, dv'.ownBlock = some k → w.heap.size ≤ k) ∧ St b w' r m ∧ Upd [] w w' := by
  have h' := h
  obtain ⟨F, n, hK, hF, hu⟩ := h
  have := seeK hK i
  rw [his, hv] at this
  exact this.mono fun e w' ⟨h1, h2⟩ => ⟨h1, h'.next h2, h2⟩

theorem takeS {b w : World} {r : Nat} {m : List Key} (h : St b w r m) (i A : Int) (up : Bool) (xs : List Int) (is : Bool) (m' : List Key) (his : seeIs m i = is) (hv : seeV m i = (A, up, xs)) (hm : takeM m i = m') :
    Calls Try.prog 21 #[.pointer (some ⟨r, 0, none⟩), .int .i64 i] w fun e w' =>
      (∃ dv', e = .returned (.tuple #[.agg #[.int .i64 A, .bool up, dv'], .bool is]) ∧ OwnBytes w' dv' xs ∧ ∀ k, dv'.ownBlock = some k → w.heap.size ≤ k) ∧ St b w' r m' := by
  subst hm
  obtain ⟨F, n, hK, hF, hu⟩ := h
  have := takeK hK i
  rw [his, hv] at this
  refine this.mono ?_
  rintro e w' ⟨⟨dv', h1, h2, h3, F', hK', hF'⟩, hu'⟩
  exact ⟨⟨dv', h1, h2, h3⟩, F', _, hK', fun k hk => hF k (hF' k hk), hu.trans hu' (fun x hx => .inr (hF x hx))⟩

theorem takesS {b w : World} {r : Nat} {m : List Key} (h : St b w r m) (i A : Int) (up : Bool) (xs : List Int) (s : ByteArray) (m' : List Key) (hs : s = strOfNums xs) (his : seeIs m i = true) (hv : seeV m i = (A, up, xs)) (hm : takeM m i = m') :
    Calls Try.prog 10 #[.pointer (some ⟨r, 0, none⟩), .int .i64 i, .int .i64 A, .bool up, .string s] w fun e w' => e = .returned (.bool true) ∧ St b w' r m' := by
  subst hm; subst hs
  obtain ⟨F, n, hK, hF, hu⟩ := h
  refine (takesK hK i A up xs his hv).mono ?_
  rintro e w' ⟨rfl, ⟨F', hK', hF'⟩, hu'⟩
  exact ⟨rfl, F', _, hK', fun k hk => hF k (hF' k hk), hu.trans hu' (fun x hx => .inr (hF x hx))⟩

set_option maxHeartbeats 2000000 in
set_option maxRecDepth 100000 in
theorem awake_any (w : World) : Calls Try.prog 15 #[] w fun e w' => e = .returned (.bool true) ∧ Upd [] w w' := by
  go_enter Try.func15, Try.ntmps15
  go_wp2_with fail
  refine (newS w).mono ?_
  rintro e w1 ⟨rfl, hS1⟩
  have u1 := (Upd.refl [] w1).alloc (.cells #[.int .u8 97] 5 (1, 2))
  have hb1 := const_at w1 97 (by omega) 5 (1, 2) _ rfl
  have kc1 := kconst w1 97
  go_wp2_with fail
  refine (sendS (hS1.next u1) 1 true _ [97] hb1 (by decide) 0 [(1, true, [97])] rfl rfl).mono ?_
  rintro e w2 ⟨rfl, hS2⟩
  have u2 := (Upd.refl [] w2).alloc (.cells #[.int .u8 98] 5 (1, 2))
  have hb2 := const_at w2 98 (by omega) 5 (1, 2) _ rfl
  have kc2 := kconst w2 98
  go_wp2_with fail
  refine (sendS (hS2.next u2) 2 false _ [98] hb2 (by decide) 0 [(1, true, [97]), (2, false, [98])] rfl rfl).mono ?_
  rintro e w3 ⟨rfl, hS3⟩
  go_wp2_with fail
  refine (dblS hS3 0 0 [(1, true, [97]), (2, false, [98]), (1, true, [97])] rfl rfl).mono ?_
  rintro e w4 ⟨rfl, hS4⟩
  go_wp2_with fail
  refine (turnS hS4 0 0 3 0 [(1, true, [98]), (2, false, [98]), (1, true, [97])] rfl (by decide)).mono ?_
  rintro e w5 ⟨rfl, hS5⟩
  go_wp2_with fail
  refine (lenS hS5 3 rfl).mono ?_
  rintro e w5' ⟨rfl, rfl⟩
  go_wp2_with fail
  refine (takesS hS5 1 2 false [98] _ [(1, true, [98]), (1, true, [97])] (by decide) rfl rfl rfl).mono ?_
  rintro e w6 ⟨rfl, hS6⟩
  go_wp2_with fail
  refine (takesS hS6 0 1 true [98] _ [(1, true, [97])] (by decide) rfl rfl rfl).mono ?_
  rintro e w7 ⟨rfl, hS7⟩
  go_wp2_with fail
  refine (takesS hS7 0 1 true [97] _ [] (by decide) rfl rfl rfl).mono ?_
  rintro e w8 ⟨rfl, hS8⟩
  go_wp2_with fail
  refine (takeS hS8 0 0 false [] false [] rfl rfl rfl).mono ?_
  rintro e w9 ⟨⟨dv', rfl, hob9, hfr9⟩, hS9⟩
  obtain ⟨p', c', rfl⟩ := hob9.form
  have u9 := (Upd.refl [] w9).alloc (.cells #[.int .i64 0, .bool false, .slice p' 0 c'] 33)
  go_wp2_with fail
  refine (sendS (hS9.next u9) 0 true _ [] ⟨by simp, .inl ⟨rfl, rfl⟩⟩ (by decide) 2 [] rfl rfl).mono ?_
  rintro e w10 ⟨rfl, hS10⟩
  go_wp2_with fail
  refine (dblS hS10 0 9 [] rfl rfl).mono ?_
  rintro e w11 ⟨rfl, hS11⟩
  go_wp2_with fail
  refine (turnS hS11 0 0 1 9 [] rfl rfl).mono ?_
  rintro e w12 ⟨rfl, hS12⟩
  go_wp2_with fail
  go_ret
  exact ⟨rfl, hS12.upd⟩

end Go.Proofs.Ytceeekdephgcmaa
