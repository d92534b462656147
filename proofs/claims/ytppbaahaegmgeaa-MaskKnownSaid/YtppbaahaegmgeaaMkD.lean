/- mask: a nonce's bytes; Sign, Signed. -/
import Derived.Test.YtppbaahaegmgeaaMkC
import Derived.Test.YtppbaahaegmgeaaWxD
namespace Go.Proofs.Ytppbaahaegmgeaa
open Go.RowKit

def okU (n : Int) : Prop := 0 ≤ n ∧ n ≤ 9007199254740991
instance (n : Int) : Decidable (okU n) := by unfold okU; exact inferInstance
def rowI (n : Int) : List Int := rowU n.toNat
theorem rowI_rng (n : Int) : Rng (rowI n) := rowU_rng _
theorem rowI_len {n : Int} (h : okU n) : (rowI n).length ≤ 8 := by
  unfold rowI
  rw [rowU_len]
  exact (szU_bd _ (by unfold okU at h; omega)).2
def rowsI (ns : List Int) : List Int := (ns.map rowI).flatten
theorem rowsI_step {ns : List Int} {j : Nat} {x : Int} (h : ns[j]? = some x) : rowsI (ns.take (j + 1)) = rowsI (ns.take j) ++ rowI x := by
  unfold rowsI
  rw [List.take_add_one, h]
  simp
def NonceOk (ns : List Int) : Prop := ∀ x ∈ ns, okU x
theorem rowsI_len {ns : List Int} (h : NonceOk ns) : (rowsI ns).length ≤ 8 * ns.length := by
  induction ns with
  | nil => simp [rowsI]
  | cons x l ih =>
    have h1 := rowI_len (h x (by simp))
    have h2 := ih (fun y hy => h y (by simp [hy]))
    unfold rowsI at h2 ⊢
    simp only [List.map_cons, List.flatten_cons, List.length_append, List.length_cons]
    omega
theorem rowsI_rng (ns : List Int) : Rng (rowsI ns) := fun x hx => by
  unfold rowsI at hx
  obtain ⟨l, hl, hxl⟩ := List.mem_flatten.1 hx
  obtain ⟨n, _, rfl⟩ := List.mem_map.1 hl
  exact rowI_rng n x hxl

theorem uI_ok (n : Int) (hn : okU n) (w : World) : Calls Try.prog 19 #[.int .i64 n] w fun e w' => ∃ p c, e = .returned (.tuple #[.slice p (rowI n).length c, .int .i64 0]) ∧ ByAt w' p (rowI n) ∧ (rowI n).length ≤ c ∧ Upd [] w w' := by
  unfold okU at hn
  obtain ⟨m, rfl⟩ := Int.eq_ofNat_of_zero_le hn.1
  refine (u_ok m (by omega) w).mono ?_
  rintro e w' ⟨g, rfl, _, hb, hu⟩
  refine ⟨some ⟨g, 0, none⟩, szU m, ?_, ?_, ?_, hu⟩
  · unfold rowI; rw [rowU_len]; rfl
  · refine ByAt.of_blk hb (fun i x hx => ?_)
    unfold u8s
    rw [Nat.zero_add, List.getElem?_map]
    unfold rowI at hx
    rw [Int.toNat_natCast] at hx
    rw [hx]; rfl
  · unfold rowI; rw [rowU_len]; exact Nat.le_refl _

theorem OwnB.ne_blk {w : World} {base : Nat} {v : Value} {xs : List Int} {b : Nat} {cs : List Value} {T : TypeId} (h : OwnB w base v xs) (hb : Blk w b cs T) (hT : T ≠ 5) : some b ≠ v.ownBlock := by
  intro hb2
  rcases h.2 with ⟨rfl, _⟩ | ⟨g, cap, cur, rfl, _, hg, _⟩
  · simp [Value.ownBlock] at hb2
  · simp only [Value.ownBlock, Option.some.injEq] at hb2
    subst hb2
    unfold Blk at hb
    rw [hb] at hg
    simp only [Option.some.injEq, Obj.cells.injEq] at hg
    exact hT hg.2.1

set_option maxRecDepth 100000 in
set_option maxHeartbeats 4000000 in
theorem nrow_walk (w : World) (a s r : Int) : Calls Try.prog 32 #[.agg #[.int .i64 a, .int .i64 s, .int .i64 r]] w fun e w' => (NonceOk [a, s, r] → ∃ p c, e = .returned (.tuple #[.slice p (rowsI [a, s, r]).length c, .int .i64 0]) ∧ OwnB w' w.heap.size (.slice p (rowsI [a, s, r]).length c) (rowsI [a, s, r])) ∧
    (¬ NonceOk [a, s, r] → e = .returned (.tuple #[.slice none 0 0, .int .i64 9])) ∧ Upd [] w w' := by
  obtain ⟨ns, hns⟩ : ∃ ns, [a, s, r] = ns := ⟨_, rfl⟩
  have hlen : ns.length = 3 := by rw [← hns]; rfl
  have hcells : ∀ (j : Nat) x, ns[j]? = some x → [Value.int .i64 a, .int .i64 s, .int .i64 r][j]? = some (.int .i64 x) := fun j x h => by
    subst hns
    match j, h with
    | 0, h => obtain rfl : a = x := by simpa using h
              rfl
    | 1, h => obtain rfl : s = x := by simpa using h
              rfl
    | 2, h => obtain rfl : r = x := by simpa using h
              rfl
    | j + 3, h => simp at h
  rw [hns]
  clear hns
  go_enter Try.func32, Try.ntmps32
  go_upto_region 2 with fail
  go_wp2_with fail
  have u1 := ((Upd.refl [] w).alloc (.cells #[.int .i64 a, .int .i64 s, .int .i64 r] 25)).alloc (.cells #[.int .i64 a, .int .i64 s, .int .i64 r] 3)
  have hB := Blk.new (w.alloc (.cells #[.int .i64 a, .int .i64 s, .int .i64 r] 25)) #[.int .i64 a, .int .i64 s, .int .i64 r] 3
  rw [World.size_alloc] at hB
  generalize (w.alloc (.cells #[.int .i64 a, .int .i64 s, .int .i64 r] 25)).alloc (.cells #[.int .i64 a, .int .i64 s, .int .i64 r] 3) = W1 at *
  generalize hbn : w.heap.size + 1 = B at *
  clear hbn
  go_loopw [4, 17] (fun rv kv wr => ∃ (j : Nat) (p : Option Addr) (c : Nat) (X : List Int), j ≤ 3 ∧ kv = .int .i64 (j : Int) ∧ Hid (rowsI (ns.take j) = X) ∧ X.length ≤ 8 * j ∧ rv = .slice p X.length c ∧ (∀ x ∈ ns.take j, okU x) ∧ OwnB wr w.heap.size (.slice p X.length c) X ∧ Upd [] w wr ∧ Blk wr B [.int .i64 a, .int .i64 s, .int .i64 r] 3) (fun _ kv _ => 3 - (intOf kv).toNat)
  case atStart => exact ⟨0, none, 0, [], by omega, rfl, Lib.hid (by simp [rowsI]), by simp, rfl, by simp, OwnB.nil _ _, u1, hB⟩
  case round =>
    clear u1 hB
    obtain ⟨j, p, c, X, hj, rfl, HX, hXl, rfl, hok, ho, hu, hB⟩ := hrel
    obtain ⟨wp, rfl⟩ : ∃ wp, wp = wr := ⟨_, rfl⟩
    rcases Nat.lt_or_ge j 3 with hlt | hge
    · have hlt' : j < ns.length := by omega
      obtain ⟨x, hx⟩ : ∃ x, ns[j]? = some x := ⟨_, List.getElem?_eq_getElem hlt'⟩
      have hstep := rowsI_step hx
      rw [HX.out] at hstep
      have HS := Lib.hid hstep
      have hcell := hB.cell j (hcells j x hx)
      have hmem : x ∈ ns := List.mem_of_getElem? hx
      have htk : ns.take (j + 1) = ns.take j ++ [x] := by rw [List.take_add_one, hx]; rfl
      have HTK := Lib.hid htk
      have g3 : (0 : Int) ≤ j := by omega
      have g4 : (j : Int) < 3 := by omega
      have hbl := hB.lt
      clear hstep htk
      by_cases hxo : okU x
      · have hc := uI_ok x hxo wp
        have hrl := rowI_len hxo
        have hlX : X.length + (rowI x).length ≤ 140737488355328 := by omega
        generalize rowI x = R at *
        go_wp2_with (first
          | (at_builtin; refine app_bytes rfl _ _ rfl w.heap.size _ X rfl o1 p1 R.length c1 R rfl rfl a1 hlX z1 ?_; rintro p3 c3 w3 hown3 hgrow3; have hu3 := hu1.grown_own hgrow3 o1; have hB3 := hB1.of_heap (hgrow3.block _ hB1.lt (fun e => by have := OwnB.ne_blk o1 hB1 (by decide); exact this e)); rw [← List.length_append] at hown3 ⊢)
          | (go_at_call 19; refine hc.mono ?_; rintro e w1 ⟨p1, c1, rfl, a1, l1, u1⟩; have o1 := ho.upd_nil u1; have hu1 := hu.trans_nil u1; have hB1 := hB.upd_nil u1; have z1 := hu1.size))
        exact ⟨⟨j + 1, p3, c3, X ++ R, by omega, by go_num, HS, by rw [List.length_append]; omega, by rw [List.length_append], by rw [HTK.out]; intro y hy; rcases List.mem_append.1 hy with h | h; exact hok y h; (obtain rfl : y = x := by simpa using h); exact hxo, hown3, hu3, hB3⟩, by simp [intOf]; omega⟩
      · have hc := u_no x (by unfold okU at hxo; omega) wp
        go_wp2_with (go_at_call 19; refine hc.mono ?_; rintro e w1 ⟨rfl, rfl⟩)
        go_ret2
        refine ⟨fun h => absurd (h x hmem) hxo, fun _ => rfl, hu⟩
    · obtain rfl : j = 3 := by omega
      have hall : ns.take 3 = ns := by rw [← hlen]; exact List.take_length
      rw [hall] at hok HX
      have hX : X = rowsI ns := HX.out.symm
      subst hX
      obtain ⟨L, hL⟩ : ∃ L, (rowsI ns).length = L := ⟨_, rfl⟩
      rw [hL] at ho ⊢
      have HL := Lib.hid hL
      clear hL hXl hcells
      go_wp2_with fail
      go_ret2
      refine ⟨fun _ => ⟨p, c, by rw [HL.out]; rfl, by rw [HL.out]; exact ho⟩, fun h => absurd hok h, hu⟩

end Go.Proofs.Ytppbaahaegmgeaa
