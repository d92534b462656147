/- The law's same and windows; an argument of windows. -/
import Derived.Test.YtpgilkemcaipiaaAgI
import Derived.Test.YtpgilkemcaipiaaSized
import Derived.BigRegion
namespace Go.Proofs.Ytpgilkemcaipiaa
open Go.RowKit Go.ChangeShapes Go.WideShapes Go.Deep

theorem wf_u32 {x : Int} (h : (Lit.int .u32 x).wf = true) : 0 ≤ x ∧ x ≤ 4294967295 := by
  simp [Lit.wf, IntKind.min, IntKind.max, IntKind.signed, IntKind.bits] at h
  exact ⟨by omega, by omega⟩

theorem open_wins {H : Type} {enc : TypeId × Value → H} {P : Program} {W : World} {held : Bool} {b0 : Nat} {r : Reach} {T E I U : TypeId} {v : Value} {d : DataW H} {p : List MemPlace} (hT : P.underlying T = some (.slice E)) (hk : P.cellsOf E = 3)
    (c0 : cellTypeAt P 20 E 0 = some I) (c1 : cellTypeAt P 20 E 1 = some I) (c2 : cellTypeAt P 20 E 2 = some U) (hI : P.underlying I = some (.int .i64)) (hU : P.underlying U = some (.int .u32))
    (ok : Value.okWide P W r b0 T v) (h : DataW.Trod enc P W 0 (fun _ => true) held T v d p) :
    ∃ q len cap, v = .slice q len cap ∧ len ≤ maxLen ∧ ∃ ws, ws.length = len ∧ WinsAt W W.heap.size q ws := by
  obtain ⟨q, len, cap, rfl, hm, hx⟩ := open_rows hT hk (by omega) ok h
  refine ⟨q, len, cap, rfl, hm, ?_⟩
  exact list_of_each (Q := fun i v => WinFit v ∧ ∃ b off, q = some ⟨b, off, none⟩ ∧ b < W.heap.size ∧ W.cell? ⟨b, off + i * 3, none⟩ = some (.int .i64 v.A) ∧ W.cell? ⟨b, off + i * 3 + 1, none⟩ = some (.int .i64 v.H) ∧ W.cell? ⟨b, off + i * 3 + 2, none⟩ = some (.int .u32 v.B)) len (fun i hi => by
    obtain ⟨b, off, rfl, hb, hc⟩ := hx i hi
    obtain ⟨u0, _, _, e0, t0⟩ := hc 0 I (by omega) c0
    obtain ⟨u1, _, _, e1, t1⟩ := hc 1 I (by omega) c1
    obtain ⟨u2, _, _, e2, t2⟩ := hc 2 U (by omega) c2
    obtain ⟨x0, h0, _, w0⟩ := DataW.trod_int hI t0
    obtain ⟨x1, h1, _, w1⟩ := DataW.trod_int hI t1
    obtain ⟨x2, h2, _, w2⟩ := DataW.trod_int hU t2
    obtain rfl : u0 = .int .i64 x0 := by simpa using h0
    obtain rfl : u1 = .int .i64 x1 := by simpa using h1
    obtain rfl : u2 = .int .u32 x2 := by simpa using h2
    exact ⟨⟨x0, x1, x2⟩, ⟨(wf_i64 w0).1, (wf_i64 w0).2, (wf_i64 w1).1, (wf_i64 w1).2, (wf_u32 w2).1, (wf_u32 w2).2⟩, b, off, rfl, hb, e0, e1, e2⟩)

set_option maxRecDepth 100000 in
set_option maxHeartbeats 2000000 in
theorem same_yes (p : Option Addr) (cap : Nat) (p2 : Option Addr) (cap2 : Nat) (ws : List Win) (w : World) (h1 : WinsAt w w.heap.size p ws) (h2 : WinsAt w w.heap.size p2 ws) (hlen : ws.length ≤ 9223372036854775807) :
    Calls Try.prog 16 #[.slice p ws.length cap, .slice p2 ws.length cap2] w fun e w' => e = .returned (.bool true) ∧ Upd [] w w' := by
  go_enter Try.func16, Try.ntmps16
  go_wp2_with fail
  go_loopw [5] (fun iv wr => ∃ i : Nat, i ≤ ws.length ∧ iv = .int .i64 i ∧ Upd [] w wr) (fun iv _ => ws.length - (intOf iv).toNat)
  case atStart => exact ⟨0, by omega, rfl, Upd.refl _ _⟩
  case round =>
    obtain ⟨i, hi, rfl, hu⟩ := hrel
    by_cases hlt : i < ws.length
    · obtain ⟨v, b1, o1, hv, rfl, hb1, a0, a1, a2⟩ := wins_nil_or (h1.upd (Nat.le_refl _) hu (by simp)) hlt
      obtain ⟨v', b2, o2, hv', rfl, hb2, c0, c1, c2⟩ := wins_nil_or (h2.upd (Nat.le_refl _) hu (by simp)) hlt
      obtain rfl : v' = v := by rw [hv] at hv'; exact (Option.some.inj hv').symm
      clear hv hv'
      go_upto_region 6 with fail
      go_quiet (fail)
      go_wp2_with fail
      exact ⟨⟨i + 1, by omega, by go_num, hu.of_drewN _⟩, by simp [intOf]; omega⟩
    · go_wp2_with fail
      go_ret
      exact ⟨rfl, hu⟩

set_option maxRecDepth 100000 in
set_option maxHeartbeats 4000000 in
theorem windows_copy (p : Option Addr) (cap : Nat) (ws : List Win) (w : World) (hl : WinsAt w w.heap.size p ws) (hreach : ws.length * 24 ≤ 140737488351232) :
    Calls Try.prog 13 #[.slice p ws.length cap] w fun e w' =>
      ∃ v, e = .returned v ∧ w'.ownsRow w.heap.size 48 3 v ws.length (winVals ws) ∧ Upd [] w w' := by
  obtain ⟨i0, hi, hz0, hz1, hz2⟩ := info_parts win_info
  go_enter Try.func13, Try.ntmps13
  go_wp2_with fail
  go_loopw [3, 4] (fun out kv wr => ∃ k : Nat, k ≤ ws.length ∧ kv = .int .i64 k ∧ wr.ownsRow w.heap.size 48 3 out k (winVals (ws.take k)) ∧ Upd [] w wr) (fun _ kv _ => ws.length - (intOf kv).toNat)
  case atStart => exact ⟨0, by omega, rfl, World.ownsRow_nil _ _ _ _, Upd.refl _ _⟩
  case round =>
    obtain ⟨k, hk, rfl, hown, hu⟩ := hrel
    by_cases hlt : k < ws.length
    · obtain ⟨v, b, o, hv, rfl, hb, a0, a1, a2⟩ := wins_nil_or (hl.upd (Nat.le_refl _) hu (by simp)) hlt
      have htk : ws.take (k + 1) = ws.take k ++ [v] := by rw [List.take_add_one, hv]; rfl
      have Htk := Lib.hid htk; clear htk hv
      obtain ⟨A, H, B⟩ := v
      dsimp only at a0 a1 a2
      have hs := hu.size
      have hbl : b < w.heap.size := by omega
      go_wp2_with fail
      go_region_held3 (fun w' => w'.cell? ⟨b, o + k * 3, none⟩ = some (.int .i64 A) ∧ w'.cell? ⟨b, o + k * 3 + 1, none⟩ = some (.int .i64 H) ∧ w'.cell? ⟨b, o + k * 3 + 2, none⟩ = some (.int .u32 B))
        (first
          | go_keep
          | (go_split_ands
             refine ⟨?_, ?_, ?_⟩ <;> (rw [hgrow.cell_far _ (by simp; omega) (fun e => absurd hbl (Nat.not_lt.2 (hown.lt _ e.symm).1))]; assumption)))
        ((refine step_append_lies _ (by rfl) _ _ _ (by rfl) w.heap.size 48 i0 _ 3 24 Try.underlying38 hi hz0 hz1 hz2 rfl (by omega) u3 k (winVals (ws.take k)) (by rfl) ((hown.alloc _).drew)
              ⟨wr.heap.size, 0, none⟩ 1 1 [.int .i64 A, .int .i64 H, .int .u32 B] (by rfl) (by rfl) (World.news_of_block (cs := #[.int .i64 A, .int .i64 H, .int .u32 B]) (t := 48) (fr := (0, 0)) (heap_alloc_new wr _)) (by simp [Value.oneCell'])
              (by omega) (by simp only [maxLen]; omega) (by omega) (by simp; omega) (wr.heap.size + 1) (by simp) ?_; intro gg cap w1 hown1 hgrow hat hlt1))
      go_wp2_with fail
      refine ⟨⟨k + 1, by omega, by go_num, by rw [Htk.out, winVals_snoc]; exact hown1, ?_⟩, by simp [intOf]; omega⟩
      exact (hu.alloc _).drew.grown hgrow (fun j hj => .inr (hown.lt j hj).1)
    · obtain rfl : k = ws.length := by omega
      go_wp2_with fail
      go_ret
      exact ⟨_, rfl, (by rw [List.take_length] at hown; exact hown), hu⟩

end Go.Proofs.Ytpgilkemcaipiaa
