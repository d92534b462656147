/- Both roads side by side. -/
import Derived.Test.YtceeekdephgcmaaRdQ
import Derived.Test.YtceeekdephgcmaaBring
import Derived.Test.YtceeekdephgcmaaNest
import Derived.Test.YtceeekdephgcmaaScal
namespace Go.Proofs.Ytceeekdephgcmaa
open Go.RowKit

set_option maxRecDepth 100000 in
theorem like_same {w : World} (A : Int) (up b : Bool) {u v : Value} {xs : List Int} (hu : BytesAt w u xs) (hv : BytesAt w v xs) (hx : xs.length ≤ maxLen) :
    Calls Try.prog 20 #[.agg #[.int .i64 A, .bool up, u], .bool b, .agg #[.int .i64 A, .bool up, v], .bool b] w fun e w' => e = .returned (.bool true) ∧ Upd [] w w' := by
  obtain ⟨p, c, rfl⟩ := hu.form
  obtain ⟨q, d, rfl⟩ := hv.form
  have u1 := ((Upd.refl [] w).alloc (.cells #[.int .i64 A, .bool up, .slice p xs.length c] 33)).alloc (.cells #[.int .i64 A, .bool up, .slice q xs.length d] 51)
  have hu1 := hu.frame u1 (by simp)
  have hv1 := hv.frame u1 (by simp)
  go_enter Try.func20, Try.ntmps20
  go_wp2_with (go_at_call 16; refine (eq_any hu1 hv1 hx).mono ?_; rw [decide_eq_true (rfl : xs = xs)]; rintro e w7 ⟨rfl, hu7⟩)
  go_ret
  exact ⟨rfl, u1.trans_nil hu7⟩

/-- The road at r1, the document's at r2; they share no block, nor have any of av. -/
def Both (w wr : World) (r1 r2 : Nat) (m1 : List Key) (n1 : Int) (m2 : List Key) (n2 : Int) (av : List Nat) : Prop :=
  ∃ F1 F2, RoadK wr F1 r1 m1 n1 ∧ DocK wr F2 r2 m2 n2 ∧ (∀ k ∈ F1, k ∉ F2) ∧ (∀ k ∈ F1, w.heap.size ≤ k) ∧ (∀ k ∈ F2, w.heap.size ≤ k) ∧ Upd [] w wr ∧ ∀ g ∈ av, w.heap.size ≤ g ∧ g < wr.heap.size ∧ g ∉ F1 ∧ g ∉ F2

/-- A step that turns no block of av. -/
def Spares (w w' : World) (av : List Nat) : Prop := ∃ bs, Upd bs w w' ∧ ∀ g ∈ av, g ∉ bs

section
variable {w wr wq : World} {r1 r2 : Nat} {m1 m2 : List Key} {n1 n2 : Int} {av : List Nat}

theorem Both.upd (h : Both w wr r1 r2 m1 n1 m2 n2 av) : Upd [] w wr := by obtain ⟨F1, F2, _, _, _, _, _, hu, _⟩ := h; exact hu
theorem Both.next (h : Both w wr r1 r2 m1 n1 m2 n2 av) (u : Upd [] wr wq) : Both w wq r1 r2 m1 n1 m2 n2 av := by
  obtain ⟨F1, F2, h1, h2, hd, a1, a2, hu, ha⟩ := h
  exact ⟨F1, F2, h1.nil u, h2.nil u, hd, a1, a2, hu.trans_nil u, fun g hg => ⟨(ha g hg).1, Nat.lt_of_lt_of_le (ha g hg).2.1 u.size, (ha g hg).2.2⟩⟩
theorem Both.grow (h : Both w wr r1 r2 m1 n1 m2 n2 av) (u : Upd [] wr wq) (bs : List Nat) (hb : ∀ g ∈ bs, wr.heap.size ≤ g ∧ g < wq.heap.size) : Both w wq r1 r2 m1 n1 m2 n2 (bs ++ av) := by
  obtain ⟨F1, F2, h1, h2, hd, a1, a2, hu, ha⟩ := h
  refine ⟨F1, F2, h1.nil u, h2.nil u, hd, a1, a2, hu.trans_nil u, fun g hg => ?_⟩
  rcases List.mem_append.1 hg with hg | hg
  · have := hb g hg
    exact ⟨Nat.le_trans hu.size this.1, this.2, fun hm => by have := h1.lt g hm; omega, fun hm => by have := h2.lt g hm; omega⟩
  · exact ⟨(ha g hg).1, Nat.lt_of_lt_of_le (ha g hg).2.1 u.size, (ha g hg).2.2⟩
theorem Both.less (h : Both w wr r1 r2 m1 n1 m2 n2 av) {av' : List Nat} (hs : ∀ g ∈ av', g ∈ av) : Both w wr r1 r2 m1 n1 m2 n2 av' := by
  obtain ⟨F1, F2, h1, h2, hd, a1, a2, hu, ha⟩ := h
  exact ⟨F1, F2, h1, h2, hd, a1, a2, hu, fun g hg => ha g (hs g hg)⟩
theorem Both.turned (h : Both w wr r1 r2 m1 n1 m2 n2 av) {bs : List Nat} (u : Upd bs wr wq) (hb : ∀ g ∈ bs, g ∈ av) : Both w wq r1 r2 m1 n1 m2 n2 av := by
  obtain ⟨F1, F2, h1, h2, hd, a1, a2, hu, ha⟩ := h
  exact ⟨F1, F2, h1.frame u (fun k hk hm => (ha k (hb k hm)).2.2.1 hk), h2.frame u (fun k hk hm => (ha k (hb k hm)).2.2.2 hk), hd, a1, a2, hu.trans u (fun g hg => .inr (ha g (hb g hg)).1), fun g hg => ⟨(ha g hg).1, Nat.lt_of_lt_of_le (ha g hg).2.1 u.size, (ha g hg).2.2⟩⟩

theorem Both.first {m n} (h : Both w wr r1 r2 m1 n1 m2 n2 av) {F1 F2 F : List Nat} (h1 : RoadK wr F1 r1 m1 n1) (h2 : DocK wr F2 r2 m2 n2) (hd : ∀ k ∈ F1, k ∉ F2) (a1 : ∀ k ∈ F1, w.heap.size ≤ k) (a2 : ∀ k ∈ F2, w.heap.size ≤ k) (ha : ∀ g ∈ av, w.heap.size ≤ g ∧ g < wr.heap.size ∧ g ∉ F1 ∧ g ∉ F2)
    (h1' : RoadK wq F r1 m n) (hF : ∀ k ∈ F, k ∈ F1 ∨ wr.heap.size ≤ k) (u : Upd F1 wr wq) : Both w wq r1 r2 m n m2 n2 av ∧ Spares wr wq av := by
  have hu := h.upd
  refine ⟨⟨F, F2, h1', h2.frame u (fun k hk hm => hd k hm hk), fun k hk hm => ?_, fun k hk => ?_, a2, hu.trans u (fun x hx => .inr (a1 x hx)), fun g hg => ?_⟩, ⟨F1, u, fun g hg => (ha g hg).2.2.1⟩⟩
  · rcases hF k hk with h | h
    · exact hd k h hm
    · have := h2.lt k hm; omega
  · rcases hF k hk with h | h
    · exact a1 k h
    · have := hu.size; omega
  · have := ha g hg
    refine ⟨this.1, Nat.lt_of_lt_of_le this.2.1 u.size, fun hm => ?_, this.2.2.2⟩
    rcases hF g hm with h | h
    · exact this.2.2.1 h
    · omega

theorem Both.second {m n} (h : Both w wr r1 r2 m1 n1 m2 n2 av) {F1 F2 F : List Nat} (h1 : RoadK wr F1 r1 m1 n1) (h2 : DocK wr F2 r2 m2 n2) (hd : ∀ k ∈ F1, k ∉ F2) (a1 : ∀ k ∈ F1, w.heap.size ≤ k) (a2 : ∀ k ∈ F2, w.heap.size ≤ k) (ha : ∀ g ∈ av, w.heap.size ≤ g ∧ g < wr.heap.size ∧ g ∉ F1 ∧ g ∉ F2)
    (h2' : DocK wq F r2 m n) (hF : ∀ k ∈ F, k ∈ F2 ∨ wr.heap.size ≤ k) (u : Upd F2 wr wq) : Both w wq r1 r2 m1 n1 m n av ∧ Spares wr wq av := by
  have hu := h.upd
  refine ⟨⟨F1, F, h1.frame u (fun k hk hm => hd k hk hm), h2', fun k hk hm => ?_, a1, fun k hk => ?_, hu.trans u (fun x hx => .inr (a2 x hx)), fun g hg => ?_⟩, ⟨F2, u, fun g hg => (ha g hg).2.2.2⟩⟩
  · rcases hF k hm with h | h
    · exact hd k hk h
    · have := h1.lt k hk; omega
  · rcases hF k hk with h | h
    · exact a2 k h
    · have := hu.size; omega
  · have := ha g hg
    refine ⟨this.1, Nat.lt_of_lt_of_le this.2.1 u.size, this.2.2.1, fun hm => ?_⟩
    rcases hF g hm with h | h
    · exact this.2.2.2 h
    · omega

theorem Both.send (h : Both w wr r1 r2 m1 n1 m2 n2 av) (A : Int) (up : Bool) (dv : Value) (xs : List Int) (hb : BytesAt wr dv xs) (hsz : xs.length ≤ 9223372036854775807) :
    Calls Try.prog 9 #[.pointer (some ⟨r1, 0, none⟩), .agg #[.int .i64 A, .bool up, dv]] wr fun e w' =>
      e = .returned (.int .i64 (sendCode A xs.length m1.length)) ∧ Both w w' r1 r2 (sendM m1 A up xs) (sendN m1 A xs n1) m2 n2 av ∧ Spares wr w' av := by
  obtain ⟨F1, F2, h1, h2, hd, a1, a2, hu, ha⟩ := id h
  refine (sendK h1 A up dv xs hb hsz).mono ?_
  rintro e w' ⟨rfl, ⟨F, hK, hF⟩, hu'⟩
  exact ⟨rfl, h.first h1 h2 hd a1 a2 ha hK hF hu'⟩
theorem Both.dsend (h : Both w wr r1 r2 m1 n1 m2 n2 av) (A : Int) (up : Bool) (dv : Value) (xs : List Int) (hb : BytesAt wr dv xs) (hsz : xs.length ≤ 9223372036854775807) :
    Calls Try.prog 27 #[.pointer (some ⟨r2, 0, none⟩), .agg #[.int .i64 A, .bool up, dv]] wr fun e w' =>
      e = .returned (.int .i64 (sendCode A xs.length m2.length)) ∧ Both w w' r1 r2 m1 n1 (sendM m2 A up xs) (sendN m2 A xs n2) av ∧ Spares wr w' av := by
  obtain ⟨F1, F2, h1, h2, hd, a1, a2, hu, ha⟩ := id h
  refine (dsendK h2 A up dv xs hb hsz).mono ?_
  rintro e w' ⟨rfl, ⟨F, hK, hF⟩, hu'⟩
  exact ⟨rfl, h.second h1 h2 hd a1 a2 ha hK hF hu'⟩
theorem Both.dbl (h : Both w wr r1 r2 m1 n1 m2 n2 av) (i : Int) :
    Calls Try.prog 11 #[.pointer (some ⟨r1, 0, none⟩), .int .i64 i] wr fun e w' =>
      e = .returned (.int .i64 (dblCode m1 i)) ∧ Both w w' r1 r2 (dblM m1 i) n1 m2 n2 av ∧ Spares wr w' av := by
  obtain ⟨F1, F2, h1, h2, hd, a1, a2, hu, ha⟩ := id h
  refine (dblK h1 i).mono ?_
  rintro e w' ⟨rfl, ⟨F, hK, hF⟩, hu'⟩
  exact ⟨rfl, h.first h1 h2 hd a1 a2 ha hK hF hu'⟩
theorem Both.ddbl (h : Both w wr r1 r2 m1 n1 m2 n2 av) (i : Int) :
    Calls Try.prog 29 #[.pointer (some ⟨r2, 0, none⟩), .int .i64 i] wr fun e w' =>
      e = .returned (.int .i64 (dblCode m2 i)) ∧ Both w w' r1 r2 m1 n1 (dblM m2 i) n2 av ∧ Spares wr w' av := by
  obtain ⟨F1, F2, h1, h2, hd, a1, a2, hu, ha⟩ := id h
  refine (ddblK h2 i).mono ?_
  rintro e w' ⟨rfl, ⟨F, hK, hF⟩, hu'⟩
  exact ⟨rfl, h.second h1 h2 hd a1 a2 ha hK hF hu'⟩
theorem Both.turn (h : Both w wr r1 r2 m1 n1 m2 n2 av) (i a b : Int) :
    Calls Try.prog 12 #[.pointer (some ⟨r1, 0, none⟩), .int .i64 i, .int .i64 a, .int .u8 b] wr fun e w' =>
      e = .returned (.int .i64 (turnCode m1 i a)) ∧ Both w w' r1 r2 (turnM m1 i a b) n1 m2 n2 av ∧ Spares wr w' av := by
  obtain ⟨F1, F2, h1, h2, hd, a1, a2, hu, ha⟩ := id h
  refine (turnK h1 i a b).mono ?_
  rintro e w' ⟨rfl, ⟨F, hK, hF⟩, hu'⟩
  exact ⟨rfl, h.first h1 h2 hd a1 a2 ha hK (fun k hk => .inl (hF k hk)) hu'⟩
theorem Both.dturn (h : Both w wr r1 r2 m1 n1 m2 n2 av) (i a b : Int) :
    Calls Try.prog 30 #[.pointer (some ⟨r2, 0, none⟩), .int .i64 i, .int .i64 a, .int .u8 b] wr fun e w' =>
      e = .returned (.int .i64 (turnCode m2 i a)) ∧ Both w w' r1 r2 m1 n1 (turnM m2 i a b) n2 av ∧ Spares wr w' av := by
  obtain ⟨F1, F2, h1, h2, hd, a1, a2, hu, ha⟩ := id h
  refine (dturnK h2 i a b).mono ?_
  rintro e w' ⟨rfl, ⟨F, hK, hF⟩, hu'⟩
  exact ⟨rfl, h.second h1 h2 hd a1 a2 ha hK hF hu'⟩

/-- A result in memory of its own: its block joins those that are spared. -/
theorem Both.take (h : Both w wr r1 r2 m1 n1 m2 n2 av) (i : Int) :
    Calls Try.prog 21 #[.pointer (some ⟨r1, 0, none⟩), .int .i64 i] wr fun e w' =>
      ∃ dv', e = .returned (.tuple #[.agg #[.int .i64 (seeV m1 i).1, .bool (seeV m1 i).2.1, dv'], .bool (seeIs m1 i)]) ∧ OwnBytes w' dv' (seeV m1 i).2.2 ∧ Both w w' r1 r2 (takeM m1 i) n1 m2 n2 (dv'.ownBlock.toList ++ av) ∧ Spares wr w' av := by
  obtain ⟨F1, F2, h1, h2, hd, a1, a2, hu, ha⟩ := id h
  refine (takeK h1 i).mono ?_
  rintro e w' ⟨⟨dv', rfl, hob, hfr, F, hK, hF⟩, hu'⟩
  obtain ⟨⟨F1', F2', _⟩, hs⟩ := h.first h1 h2 hd a1 a2 ha hK (fun k hk => .inl (hF k hk)) hu'
  refine ⟨dv', rfl, hob, ⟨F, F2, hK, h2.frame hu' (fun k hk hm => hd k hm hk), fun k hk => hd k (hF k hk), fun k hk => a1 k (hF k hk), a2, hu.trans hu' (fun x hx => .inr (a1 x hx)), fun g hg => ?_⟩, hs⟩
  rcases List.mem_append.1 hg with hg | hg
  · have hg' : dv'.ownBlock = some g := by simpa [Option.mem_toList] using hg
    have h3 := hfr g hg'
    have h4 := hu.size
    exact ⟨by omega, (hob.own.lt g hg').2, fun hm => by have := h1.lt g (hF g hm); omega, fun hm => by have := h2.lt g hm; omega⟩
  · have := ha g hg
    exact ⟨this.1, Nat.lt_of_lt_of_le this.2.1 hu'.size, fun hm => this.2.2.1 (hF g hm), this.2.2.2⟩
theorem Both.dtake (h : Both w wr r1 r2 m1 n1 m2 n2 av) (i : Int) :
    Calls Try.prog 28 #[.pointer (some ⟨r2, 0, none⟩), .int .i64 i] wr fun e w' =>
      ∃ dv', e = .returned (.tuple #[.agg #[.int .i64 (seeV m2 i).1, .bool (seeV m2 i).2.1, dv'], .bool (seeIs m2 i)]) ∧ OwnBytes w' dv' (seeV m2 i).2.2 ∧ Both w w' r1 r2 m1 n1 (takeM m2 i) n2 av ∧ Spares wr w' av := by
  obtain ⟨F1, F2, h1, h2, hd, a1, a2, hu, ha⟩ := id h
  refine (dtakeK h2 i).mono ?_
  rintro e w' ⟨⟨dv', rfl, hob, hfr, F, hK, hF⟩, hu'⟩
  obtain ⟨hB, hs⟩ := h.second h1 h2 hd a1 a2 ha hK hF hu'
  exact ⟨dv', rfl, hob, hB, hs⟩
theorem Both.see (h : Both w wr r1 r2 m1 n1 m2 n2 av) (i : Int) :
    Calls Try.prog 13 #[.pointer (some ⟨r1, 0, none⟩), .int .i64 i] wr fun e w' =>
      ∃ dv', e = .returned (.tuple #[.agg #[.int .i64 (seeV m1 i).1, .bool (seeV m1 i).2.1, dv'], .bool (seeIs m1 i)]) ∧ OwnBytes w' dv' (seeV m1 i).2.2 ∧ Both w w' r1 r2 m1 n1 m2 n2 (dv'.ownBlock.toList ++ av) ∧ Upd [] wr w' := by
  obtain ⟨F1, F2, h1, h2, hd, a1, a2, hu, ha⟩ := id h
  refine (seeK h1 i).mono ?_
  rintro e w' ⟨⟨dv', rfl, hob, hfr⟩, hu'⟩
  exact ⟨dv', rfl, hob, h.grow hu' _ (fun g hg => by
    have hg' : dv'.ownBlock = some g := by simpa [Option.mem_toList] using hg
    exact ⟨hfr g hg', (hob.own.lt g hg').2⟩), hu'⟩
theorem Both.dsee (h : Both w wr r1 r2 m1 n1 m2 n2 av) (i : Int) :
    Calls Try.prog 19 #[.pointer (some ⟨r2, 0, none⟩), .int .i64 i] wr fun e w' =>
      ∃ dv', e = .returned (.tuple #[.agg #[.int .i64 (seeV m2 i).1, .bool (seeV m2 i).2.1, dv'], .bool (seeIs m2 i)]) ∧ OwnBytes w' dv' (seeV m2 i).2.2 ∧ Both w w' r1 r2 m1 n1 m2 n2 av ∧ Upd [] wr w' := by
  obtain ⟨F1, F2, h1, h2, hd, a1, a2, hu, ha⟩ := id h
  refine (dseeK h2 i).mono ?_
  rintro e w' ⟨⟨dv', rfl, hob, hfr⟩, hu'⟩
  exact ⟨dv', rfl, hob, h.next hu', hu'⟩
end

theorem OwnBytes.len_le {w : World} {v : Value} {xs : List Int} (h : OwnBytes w v xs) : xs.length ≤ maxLen := by
  rcases h.own.2 with ⟨_, h2⟩ | ⟨g, cap, cur, _, _, _, hnc, hcm, _⟩
  · rw [h2]; exact Nat.zero_le _
  · omega

theorem Spares.own {w w' : World} {av : List Nat} (s : Spares w w' av) {v : Value} {xs : List Int} (h : OwnBytes w v xs) (hv : ∀ k, v.ownBlock = some k → k ∈ av) : OwnBytes w' v xs := by
  obtain ⟨bs, u, hb⟩ := s
  exact h.frame u (fun k hk => hb k (hv k hk))
theorem Spares.blk {w w' : World} {av : List Nat} (s : Spares w w' av) {b : Nat} {cs : List Value} {T : TypeId} (h : Blk w b cs T) (hv : b ∈ av) : Blk w' b cs T := by
  obtain ⟨bs, u, hb⟩ := s
  exact h.upd u (hb b hv)

end Go.Proofs.Ytceeekdephgcmaa
