/- SHA-256 over natural numbers, each step made at once: what the kernel can count. Plain; and that it is the walk's. -/
import Derived.Test.YtppbaahaegmgeaaKnF
namespace Go.Proofs.Ytppbaahaegmgeaa
open Go.RowKit

/-- x is counted first. -/
def now {α : Type} (x : Nat) (k : Nat → α) : α := Nat.rec (motive := fun _ => α) (k 0) (fun n _ => k (Nat.succ n)) x
theorem now_eq {α : Type} (x : Nat) (k : Nat → α) : now x k = k x := by cases x <;> rfl

def rotN (x n : Nat) : Nat := (x * 2 ^ (32 - n)) % 4294967296 ||| x / 2 ^ n
theorem rot_eq (x n : Nat) (hx : x < 4294967296) (hn : n ≤ 32) : rotr (x : Int) n = (rotN x n : Int) := by
  unfold rotr rotN
  have h1 : shl32 (x : Int) (32 - n : Int) = (((x * 2 ^ (32 - n)) % 4294967296 : Nat) : Int) := by
    unfold shl32
    rw [IntKind.wrap_u32, show min ((32 : Int) - (n : Int)).toNat 32 = 32 - n by omega, Int.natCast_emod, Int.natCast_mul, Int.natCast_pow]
    rfl
  have h2 : (x : Int) / 2 ^ n = ((x / 2 ^ n : Nat) : Int) := by rw [Int.natCast_ediv, Int.natCast_pow]; rfl
  have h3 : x / 2 ^ n < 4294967296 := Nat.lt_of_le_of_lt (Nat.div_le_self _ _) hx
  have h4 : ((32 : Int) - (n : Int)) = (((32 - n : Nat)) : Int) := by omega
  rw [show shl32 (x : Int) (32 - (n : Nat)) = shl32 (x : Int) ((32 : Int) - (n : Int)) from rfl, h1, h2, u32_or_nat _ _ (by omega) h3]
theorem rotN_lt (x n : Nat) (hx : x < 4294967296) : rotN x n < 4294967296 := by
  unfold rotN
  exact Nat.or_lt_two_pow (n := 32) (Nat.mod_lt _ (by decide)) (Nat.lt_of_le_of_lt (Nat.div_le_self _ _) hx)

def newN (w0 w1 w9 w14 : Nat) : Nat :=
  (w0 + w9 + (rotN w1 7 ^^^ rotN w1 18 ^^^ w1 / 8) + (rotN w14 17 ^^^ rotN w14 19 ^^^ w14 / 1024)) % 4294967296

/-- The words of the rounds, the newest first. -/
def extN : Nat → List Nat → List Nat
  | 0, l => l
  | k + 1, l => now (newN (l.getD 15 0) (l.getD 14 0) (l.getD 6 0) (l.getD 1 0)) fun x => extN k (x :: l)

def rndN : List Nat → List Nat → Nat → Nat → Nat → Nat → Nat → Nat → Nat → Nat → List Nat
  | k :: ks, w :: ws, a, b, c, d, e, f, g, h =>
    now ((h + (rotN e 6 ^^^ rotN e 11 ^^^ rotN e 25) + (g ^^^ (e &&& (f ^^^ g))) + k + w) % 4294967296) fun t =>
    now ((t + ((rotN a 2 ^^^ rotN a 13 ^^^ rotN a 22) + (a &&& b ^^^ a &&& c ^^^ b &&& c))) % 4294967296) fun x =>
    now ((d + t) % 4294967296) fun y => rndN ks ws x a b c y e f g
  | _, _, a, b, c, d, e, f, g, h => [a, b, c, d, e, f, g, h]

def wordsN : Nat → List Nat → List Nat → List Nat
  | 0, _, acc => acc
  | k + 1, a :: b :: c :: d :: l, acc => now (a * 16777216 + b * 65536 + c * 256 + d) fun x => wordsN k l (x :: acc)
  | _, _, acc => acc

def KN : List Nat := rt3.map (· % 4294967296)
def HN : List Nat := rt2.map (· % 4294967296)
def add8 (s v : List Nat) : List Nat := List.zipWith (fun x y => (x + y) % 4294967296) s v
def tieN (s : List Nat) (b : List Nat) : List Nat :=
  add8 s (rndN KN (extN 48 (wordsN 16 b [])).reverse (s.getD 0 0) (s.getD 1 0) (s.getD 2 0) (s.getD 3 0) (s.getD 4 0) (s.getD 5 0) (s.getD 6 0) (s.getD 7 0))
def nowL {α : Type} : List Nat → (List Nat → α) → α
  | [], k => k []
  | x :: l, k => now x fun y => nowL l fun m => k (y :: m)
theorem nowL_eq {α : Type} (l : List Nat) (k : List Nat → α) : nowL l k = k l := by
  induction l generalizing k with
  | nil => rfl
  | cons x l ih => unfold nowL; rw [now_eq, ih]
def compN : Nat → List Nat → List Nat → List Nat
  | 0, s, _ => s
  | n + 1, s, l => nowL (tieN s (l.take 64)) fun s' => compN n s' (l.drop 64)
def digN (s : List Nat) : List Nat := s.flatMap fun x => [x / 16777216 % 256, x / 65536 % 256, x / 256 % 256, x % 256]
def padN (n : Nat) : List Nat := 128 :: (List.replicate (zc n) 0 ++ (List.range 8).map fun j => n * 8 / 2 ^ (8 * (7 - j)) % 256)
def shaN (l : List Nat) : List Nat := digN (compN ((l.length + zc l.length + 9) / 64) HN (l ++ padN l.length))

/-- Natural numbers as a function. -/
def toF (l : List Nat) (j : Nat) : Int := ((l.getD j 0 : Nat) : Int)
def Bd (l : List Nat) : Prop := ∀ x ∈ l, x < 4294967296
theorem Bd.getD {l : List Nat} (h : Bd l) (j : Nat) : l.getD j 0 < 4294967296 := by
  rw [List.getD_eq_getElem?_getD]
  cases hx : l[j]? with
  | none => simp
  | some x => simpa using h x (List.mem_of_getElem? hx)

theorem xor3_eq (x y z : Nat) (hx : x < 4294967296) (hy : y < 4294967296) (hz : z < 4294967296) : bits BinOp.xor IntKind.u32 (bits BinOp.xor IntKind.u32 (x : Int) (y : Int)) (z : Int) = ((x ^^^ y ^^^ z : Nat) : Int) := by
  have e : (2 : Nat) ^ 32 = 4294967296 := by decide
  have h : x ^^^ y < 4294967296 := by
    have := Nat.xor_lt_two_pow (n := 32) (x := x) (y := y) (by rw [e]; exact hx) (by rw [e]; exact hy)
    rw [e] at this
    exact this
  rw [u32_xor_nat _ _ hx hy, u32_xor_nat _ _ h hz]
theorem sum4_eq (a c x y : Nat) : ((((a : Int) + (c : Int)) % 4294967296 + (x : Int)) % 4294967296 + (y : Int)) % 4294967296 = (((a + c + x + y) % 4294967296 : Nat) : Int) := by
  rw [Int.emod_add_emod ((a : Int) + c), Int.emod_add_emod ((a : Int) + c + x), Int.natCast_emod, Int.natCast_add, Int.natCast_add, Int.natCast_add]
  rfl
theorem new_eq (a b c d : Nat) (hb : b < 4294967296) (hd : d < 4294967296) :
    ((((a : Int) + (c : Int)) % 4294967296 + bits BinOp.xor IntKind.u32 (bits BinOp.xor IntKind.u32 (rotr (b : Int) 7) (rotr (b : Int) 18)) ((b : Int) / 8)) % 4294967296 +
      bits BinOp.xor IntKind.u32 (bits BinOp.xor IntKind.u32 (rotr (d : Int) 17) (rotr (d : Int) 19)) ((d : Int) / 1024)) % 4294967296 = (newN a b c d : Int) := by
  have e8 : (b : Int) / 8 = ((b / 8 : Nat) : Int) := by omega
  have e10 : (d : Int) / 1024 = ((d / 1024 : Nat) : Int) := by omega
  have l8 : b / 8 < 4294967296 := by omega
  have l10 : d / 1024 < 4294967296 := by omega
  rw [rot_eq b 7 hb (by omega), rot_eq b 18 hb (by omega), rot_eq d 17 hd (by omega), rot_eq d 19 hd (by omega), e8, e10,
    xor3_eq _ _ _ (rotN_lt b 7 hb) (rotN_lt b 18 hb) l8, xor3_eq _ _ _ (rotN_lt d 17 hd) (rotN_lt d 19 hd) l10, sum4_eq]
  rfl
theorem newN_lt (a b c d : Nat) : newN a b c d < 4294967296 := Nat.mod_lt _ (by decide)

/-- The words, the newest first, are the walk's. -/
structure ExtR (f : Nat → Int) (k : Nat) (l : List Nat) : Prop where
  len : l.length = 16 + k
  bd : Bd l
  eq : ∀ j, j < 16 + k → ((l.getD (15 + k - j) 0 : Nat) : Int) = wExt f k j
theorem ExtR.newW {f : Nat → Int} {k : Nat} {l : List Nat} (h : ExtR f k l) : ((newN (l.getD 15 0) (l.getD 14 0) (l.getD 6 0) (l.getD 1 0) : Nat) : Int) = newW (wExt f k) k := by
  have e0 := h.eq k (Nat.lt_add_of_pos_left (by decide))
  have e1 := h.eq (k + 1) (by clear e0; omega)
  have e9 := h.eq (k + 9) (by clear e0 e1; omega)
  have e14 := h.eq (k + 14) (by clear e0 e1 e9; omega)
  rw [show 15 + k - k = 15 from Nat.add_sub_cancel ..] at e0
  rw [show 15 + k - (k + 1) = 14 from by clear e0 e1 e9 e14; omega] at e1
  rw [show 15 + k - (k + 9) = 6 from by clear e0 e1 e9 e14; omega] at e9
  rw [show 15 + k - (k + 14) = 1 from by clear e0 e1 e9 e14; omega] at e14
  unfold Go.Proofs.Ytppbaahaegmgeaa.newW
  rw [← e0, ← e1, ← e9, ← e14]
  exact (new_eq _ _ _ _ (h.bd.getD _) (h.bd.getD _)).symm
theorem ExtR.step {f : Nat → Int} {k : Nat} {l : List Nat} (h : ExtR f k l) : ExtR f (k + 1) (newN (l.getD 15 0) (l.getD 14 0) (l.getD 6 0) (l.getD 1 0) :: l) := by
  have hn := h.newW
  have hl : newN (l.getD 15 0) (l.getD 14 0) (l.getD 6 0) (l.getD 1 0) < 4294967296 := newN_lt _ _ _ _
  generalize newN (l.getD 15 0) (l.getD 14 0) (l.getD 6 0) (l.getD 1 0) = x at hn hl
  refine ⟨by rw [List.length_cons, h.len]; omega, fun y hy => ?_, fun j hj => ?_⟩
  · rcases List.mem_cons.1 hy with rfl | hy
    · exact hl
    · exact h.bd y hy
  · have e : wExt f (k + 1) j = upd1 (wExt f k) (k + 16) (Go.Proofs.Ytppbaahaegmgeaa.newW (wExt f k) k) j := rfl
    rw [e, ← hn]
    unfold upd1
    clear e hn hl
    by_cases hj2 : j = k + 16
    · rw [if_pos hj2, show 15 + (k + 1) - j = 0 by omega, List.getD_cons_zero]
    · rw [if_neg hj2, show 15 + (k + 1) - j = (15 + k - j) + 1 by omega, List.getD_cons_succ]
      exact h.eq j (by omega)
theorem extN_R {f : Nat → Int} : ∀ (n k : Nat) (l : List Nat), ExtR f k l → ExtR f (k + n) (extN n l)
  | 0, _, _, h => h
  | n + 1, k, l, h => by
    unfold extN
    rw [now_eq, show k + (n + 1) = k + 1 + n by omega]
    exact extN_R n (k + 1) _ h.step

theorem wIn_keep (B : Nat → Int) (j : Nat) : ∀ (k n : Nat), (∀ i, n ≤ i → i < n + k → i / 4 ≠ j) → wIn B (n + k) j = wIn B n j
  | 0, _, _ => rfl
  | k + 1, n, h => by
    show upd1 (wIn B (n + k)) ((n + k) / 4) _ j = _
    unfold upd1
    rw [if_neg (fun e => h (n + k) (by omega) (by omega) e.symm)]
    exact wIn_keep B j k n (fun i h1 h2 => h i h1 (by omega))
theorem wIn_zero (B : Nat → Int) (j : Nat) : wIn B (4 * j) j = 0 := by
  have := wIn_keep B j (4 * j) 0 (fun i _ h => by omega)
  rw [Nat.zero_add] at this
  rw [this]; rfl
theorem or_byte (x y : Nat) (hx : x < 16777216) (hy : y < 256) : bits BinOp.or IntKind.u32 ((x : Int) * 256 % 4294967296) (y : Int) = ((x * 256 + y : Nat) : Int) := by
  rw [show (x : Int) * 256 % 4294967296 = ((x * 256 : Nat) : Int) by omega, u32_or_nat _ _ (by omega) (by omega), nat_join 8 _ _ (by omega) (by omega)]
theorem wIn_word (b : Nat → Nat) (hb : ∀ i, b i < 256) (j : Nat) (hj : j < 16) :
    wIn (fun i => (b i : Int)) 64 j = ((b (4 * j) * 16777216 + b (4 * j + 1) * 65536 + b (4 * j + 2) * 256 + b (4 * j + 3) : Nat) : Int) := by
  have h0 := hb (4 * j)
  have h1 := hb (4 * j + 1)
  have h2 := hb (4 * j + 2)
  have h3 := hb (4 * j + 3)
  have k1 : wIn (fun i => (b i : Int)) (4 * j + 1) j = ((0 * 256 + b (4 * j) : Nat) : Int) := by
    show upd1 _ (4 * j / 4) _ j = _
    rw [show 4 * j / 4 = j by omega]
    unfold upd1
    rw [if_pos rfl, wIn_zero]
    exact or_byte 0 _ (by omega) h0
  have k2 : wIn (fun i => (b i : Int)) (4 * j + 2) j = (((0 * 256 + b (4 * j)) * 256 + b (4 * j + 1) : Nat) : Int) := by
    show upd1 _ ((4 * j + 1) / 4) _ j = _
    rw [show (4 * j + 1) / 4 = j by omega]
    unfold upd1
    rw [if_pos rfl, k1]
    exact or_byte _ _ (by omega) h1
  have k3 : wIn (fun i => (b i : Int)) (4 * j + 3) j = ((((0 * 256 + b (4 * j)) * 256 + b (4 * j + 1)) * 256 + b (4 * j + 2) : Nat) : Int) := by
    show upd1 _ ((4 * j + 2) / 4) _ j = _
    rw [show (4 * j + 2) / 4 = j by omega]
    unfold upd1
    rw [if_pos rfl, k2]
    exact or_byte _ _ (by omega) h2
  have k4 : wIn (fun i => (b i : Int)) (4 * j + 4) j = (((((0 * 256 + b (4 * j)) * 256 + b (4 * j + 1)) * 256 + b (4 * j + 2)) * 256 + b (4 * j + 3) : Nat) : Int) := by
    show upd1 _ ((4 * j + 3) / 4) _ j = _
    rw [show (4 * j + 3) / 4 = j by omega]
    unfold upd1
    rw [if_pos rfl, k3]
    exact or_byte _ _ (by omega) h3
  have := wIn_keep (fun i => (b i : Int)) j (60 - 4 * j) (4 * j + 4) (fun i h1 h2 => by omega)
  rw [show 4 * j + 4 + (60 - 4 * j) = 64 by omega] at this
  rw [this, k4]
  exact congrArg Nat.cast (by omega)

theorem wordsN_at : ∀ (k : Nat) (l acc : List Nat), l.length = 4 * k → (∀ j, j < k → (wordsN k l acc).getD (k - 1 - j) 0 = l.getD (4 * j) 0 * 16777216 + l.getD (4 * j + 1) 0 * 65536 + l.getD (4 * j + 2) 0 * 256 + l.getD (4 * j + 3) 0) ∧
    (wordsN k l acc).length = k + acc.length ∧ ∀ j, (wordsN k l acc).getD (k + j) 0 = acc.getD j 0
  | 0, l, acc, h => ⟨fun j hj => by omega, by simp [wordsN], fun j => by simp [wordsN]⟩
  | k + 1, l, acc, h => by
    match l, h with
    | a :: b :: c :: d :: l, h =>
      unfold wordsN
      rw [now_eq]
      obtain ⟨h1, h2, h3⟩ := wordsN_at k l ((a * 16777216 + b * 65536 + c * 256 + d) :: acc) (by simp at h; omega)
      refine ⟨fun j hj => ?_, by rw [h2]; simp; omega, fun j => ?_⟩
      · cases j with
        | zero =>
          have := h3 0
          rw [Nat.add_zero] at this
          rw [show k + 1 - 1 - 0 = k by omega, this]
          rfl
        | succ j =>
          rw [show k + 1 - 1 - (j + 1) = k - 1 - j by omega, h1 j (by omega), show 4 * (j + 1) = 4 * j + 4 by omega]
          rfl
      · have := h3 (j + 1)
        rw [show k + 1 + j = k + (j + 1) by omega, this]
        rfl

end Go.Proofs.Ytppbaahaegmgeaa

/- SHA-256 over natural numbers is the walk's. -/
namespace Go.Proofs.Ytppbaahaegmgeaa
open Go.RowKit

/-- Eight words as a list. -/
structure R8 (v : Nat → Int) (l : List Nat) : Prop where
  len : l.length = 8
  bd : Bd l
  eq : ∀ j, j < 8 → ((l.getD j 0 : Nat) : Int) = v j

theorem and_lt {x y : Nat} (hx : x < 4294967296) : x &&& y < 4294967296 := Nat.lt_of_le_of_lt Nat.and_le_left hx
theorem xor_lt {x y : Nat} (hx : x < 4294967296) (hy : y < 4294967296) : x ^^^ y < 4294967296 :=
  Nat.xor_lt_two_pow (n := 32) hx hy

theorem sumT_eq (h e f g k w : Nat) (he : e < 4294967296) (hf : f < 4294967296) (hg : g < 4294967296) :
    ((h : Int) + bits BinOp.xor IntKind.u32 (bits BinOp.xor IntKind.u32 (rotr (e : Int) 6) (rotr (e : Int) 11)) (rotr (e : Int) 25) +
      bits BinOp.xor IntKind.u32 (g : Int) (bits BinOp.and IntKind.u32 (e : Int) (bits BinOp.xor IntKind.u32 (f : Int) (g : Int))) + (k : Int) + (w : Int)) % 4294967296 =
    (((h + (rotN e 6 ^^^ rotN e 11 ^^^ rotN e 25) + (g ^^^ (e &&& (f ^^^ g))) + k + w) % 4294967296 : Nat) : Int) := by
  rw [rot_eq e 6 he (by decide), rot_eq e 11 he (by decide), rot_eq e 25 he (by decide), xor3_eq _ _ _ (rotN_lt e 6 he) (rotN_lt e 11 he) (rotN_lt e 25 he),
    u32_xor_nat _ _ hf hg, u32_and_nat _ _ he (xor_lt hf hg), u32_xor_nat _ _ hg (and_lt he), Int.natCast_emod, Int.natCast_add, Int.natCast_add, Int.natCast_add, Int.natCast_add]
  rfl
theorem sumU_eq (t a b c : Nat) (ha : a < 4294967296) (hb : b < 4294967296) (hc : c < 4294967296) :
    ((t : Int) + (bits BinOp.xor IntKind.u32 (bits BinOp.xor IntKind.u32 (rotr (a : Int) 2) (rotr (a : Int) 13)) (rotr (a : Int) 22) +
      bits BinOp.xor IntKind.u32 (bits BinOp.xor IntKind.u32 (bits BinOp.and IntKind.u32 (a : Int) (b : Int)) (bits BinOp.and IntKind.u32 (a : Int) (c : Int))) (bits BinOp.and IntKind.u32 (b : Int) (c : Int))) % 4294967296) % 4294967296 =
    (((t + ((rotN a 2 ^^^ rotN a 13 ^^^ rotN a 22) + (a &&& b ^^^ a &&& c ^^^ b &&& c))) % 4294967296 : Nat) : Int) := by
  rw [rot_eq a 2 ha (by decide), rot_eq a 13 ha (by decide), rot_eq a 22 ha (by decide), xor3_eq _ _ _ (rotN_lt a 2 ha) (rotN_lt a 13 ha) (rotN_lt a 22 ha),
    u32_and_nat _ _ ha hb, u32_and_nat _ _ ha hc, u32_and_nat _ _ hb hc, xor3_eq _ _ _ (and_lt ha) (and_lt ha) (and_lt hb), ← Nat.add_mod_mod, Int.natCast_emod, Int.natCast_add, Int.natCast_emod, Int.natCast_add]
  rfl
theorem sumV_eq (d t : Nat) : ((d : Int) + (t : Int)) % 4294967296 = (((d + t) % 4294967296 : Nat) : Int) := by
  rw [Int.natCast_emod, Int.natCast_add]
  rfl

theorem Bd.eight {a b c d e f g h : Nat} (ha : a < 4294967296) (hb : b < 4294967296) (hc : c < 4294967296) (hd : d < 4294967296) (he : e < 4294967296) (hf : f < 4294967296) (hg : g < 4294967296) (hh : h < 4294967296) :
    Bd [a, b, c, d, e, f, g, h] := by
  intro x hx
  rcases List.mem_cons.1 hx with rfl | hx
  · exact ha
  rcases List.mem_cons.1 hx with rfl | hx
  · exact hb
  rcases List.mem_cons.1 hx with rfl | hx
  · exact hc
  rcases List.mem_cons.1 hx with rfl | hx
  · exact hd
  rcases List.mem_cons.1 hx with rfl | hx
  · exact he
  rcases List.mem_cons.1 hx with rfl | hx
  · exact hf
  rcases List.mem_cons.1 hx with rfl | hx
  · exact hg
  rcases List.mem_cons.1 hx with rfl | hx
  · exact hh
  · exact absurd hx (List.not_mem_nil)

theorem R8.mk8 {v : Nat → Int} {a b c d e f g h : Nat} (hb : Bd [a, b, c, d, e, f, g, h]) (h0 : (a : Int) = v 0) (h1 : (b : Int) = v 1) (h2 : (c : Int) = v 2) (h3 : (d : Int) = v 3) (h4 : (e : Int) = v 4)
    (h5 : (f : Int) = v 5) (h6 : (g : Int) = v 6) (h7 : (h : Int) = v 7) : R8 v [a, b, c, d, e, f, g, h] :=
  ⟨rfl, hb, fun j hj => by
    match j, hj with
    | 0, _ => exact h0
    | 1, _ => exact h1
    | 2, _ => exact h2
    | 3, _ => exact h3
    | 4, _ => exact h4
    | 5, _ => exact h5
    | 6, _ => exact h6
    | 7, _ => exact h7
    | j + 8, h => exact absurd h (by omega)⟩

theorem R8.rnd {K F v : Nat → Int} {i a b c d e f g h k w t x y : Nat} (H : R8 v [a, b, c, d, e, f, g, h]) (hk : (k : Int) = K i) (hw : (w : Int) = F i)
    (ht : (h + (rotN e 6 ^^^ rotN e 11 ^^^ rotN e 25) + (g ^^^ (e &&& (f ^^^ g))) + k + w) % 4294967296 = t)
    (hx : (t + ((rotN a 2 ^^^ rotN a 13 ^^^ rotN a 22) + (a &&& b ^^^ a &&& c ^^^ b &&& c))) % 4294967296 = x) (hy : (d + t) % 4294967296 = y) :
    R8 (Go.Proofs.Ytppbaahaegmgeaa.rnd (sumT K F v i) (sumU v) v) [x, a, b, c, y, e, f, g] := by
  have h0 : (a : Int) = v 0 := H.eq 0 (by decide)
  have h1 : (b : Int) = v 1 := H.eq 1 (by decide)
  have h2 : (c : Int) = v 2 := H.eq 2 (by decide)
  have h3 : (d : Int) = v 3 := H.eq 3 (by decide)
  have h4 : (e : Int) = v 4 := H.eq 4 (by decide)
  have h5 : (f : Int) = v 5 := H.eq 5 (by decide)
  have h6 : (g : Int) = v 6 := H.eq 6 (by decide)
  have h7 : (h : Int) = v 7 := H.eq 7 (by decide)
  have la : a < 4294967296 := H.bd.getD 0
  have lb : b < 4294967296 := H.bd.getD 1
  have lc : c < 4294967296 := H.bd.getD 2
  have le : e < 4294967296 := H.bd.getD 4
  have lf : f < 4294967296 := H.bd.getD 5
  have lg : g < 4294967296 := H.bd.getD 6
  have lx : x < 4294967296 := hx ▸ Nat.mod_lt _ (by decide)
  have ly : y < 4294967296 := hy ▸ Nat.mod_lt _ (by decide)
  have eT : sumT K F v i = (t : Int) := by
    unfold sumT
    rw [← h4, ← h5, ← h6, ← h7, ← hk, ← hw, sumT_eq _ _ _ _ _ _ le lf lg, ht]
  have eU : ((t : Int) + sumU v) % 4294967296 = (x : Int) := by
    unfold sumU
    rw [← h0, ← h1, ← h2, sumU_eq _ _ _ _ la lb lc, hx]
  rw [eT]
  refine R8.mk8 (Bd.eight lx la lb lc ly le lf lg) eU.symm h0 h1 h2 ?_ h4 h5 h6
  show (y : Int) = (v 3 + (t : Int)) % 4294967296
  rw [← h3, sumV_eq, hy]

theorem rndN_R {K F s : Nat → Int} : ∀ (n i : Nat) (ks ws : List Nat) (a b c d e f g h : Nat), ks.length = n → ws.length = n →
    (∀ j, j < n → ((ks.getD j 0 : Nat) : Int) = K (i + j)) → (∀ j, j < n → ((ws.getD j 0 : Nat) : Int) = F (i + j)) →
    R8 (rounds K F s i) [a, b, c, d, e, f, g, h] → R8 (rounds K F s (i + n)) (rndN ks ws a b c d e f g h)
  | 0, i, ks, ws, a, b, c, d, e, f, g, h, hk, _, _, _, H => by
    match ks, hk with
    | [], _ => exact H
  | n + 1, i, ks, ws, a, b, c, d, e, f, g, h, hk, hw, hK, hF, H => by
    match ks, hk, ws, hw with
    | k :: ks, hk, w :: ws, hw =>
      unfold rndN
      rw [now_eq, now_eq, now_eq, show i + (n + 1) = i + 1 + n by omega]
      have e0 : (k : Int) = K i := hK 0 (by omega)
      have e1 : (w : Int) = F i := hF 0 (by omega)
      refine rndN_R n (i + 1) ks ws _ _ _ _ _ _ _ _ (Nat.succ.inj hk) (Nat.succ.inj hw) (fun j hj => ?_) (fun j hj => ?_) (H.rnd e0 e1 rfl rfl rfl)
      · have := hK (j + 1) (by omega)
        rw [show i + 1 + j = i + (j + 1) by omega, ← this, List.getD_cons_succ]
      · have := hF (j + 1) (by omega)
        rw [show i + 1 + j = i + (j + 1) by omega, ← this, List.getD_cons_succ]

theorem KN_at : ∀ i, i < 64 → KN.getD i 0 = rt3.getD i 0 % 4294967296 := by decide +kernel
theorem HN_at : ∀ i, i < 8 → HN.getD i 0 = rt2.getD i 0 % 4294967296 := by decide +kernel
theorem KN_len : KN.length = 64 := by decide +kernel
theorem HN_R : R8 H0 HN := ⟨by decide +kernel, by unfold Bd; decide +kernel, fun j hj => by rw [HN_at j hj]; rfl⟩

theorem getD_rev (l : List Nat) (n j : Nat) (hl : l.length = n + 1) (hj : j ≤ n) : l.reverse.getD j 0 = l.getD (n - j) 0 := by
  rw [List.getD_eq_getElem?_getD, List.getD_eq_getElem?_getD, List.getElem?_reverse (by omega), hl]
  rw [show n + 1 - 1 - j = n - j by omega]

theorem words_R (b : List Nat) (hl : b.length = 64) (hb : ∀ i, b.getD i 0 < 256) : ExtR (wIn (fun i => ((b.getD i 0 : Nat) : Int)) 64) 0 (wordsN 16 b []) := by
  obtain ⟨h1, h2, _⟩ := wordsN_at 16 b [] hl
  have hlen : (wordsN 16 b []).length = 16 := h2
  have hv : ∀ j, j < 16 → (wordsN 16 b []).getD (15 - j) 0 < 4294967296 := fun j hj => by
    rw [h1 j hj]
    have := hb (4 * j)
    have := hb (4 * j + 1)
    have := hb (4 * j + 2)
    have := hb (4 * j + 3)
    omega
  refine ⟨hlen, fun x hx => ?_, fun j hj => ?_⟩
  · obtain ⟨i, hi, rfl⟩ := List.getElem_of_mem hx
    have := hv (15 - i) (by omega)
    rw [show 15 - (15 - i) = i by omega, List.getD_eq_getElem?_getD, List.getElem?_eq_getElem hi] at this
    exact this
  · have := h1 j hj
    show (((wordsN 16 b []).getD (15 + 0 - j) 0 : Nat) : Int) = wIn _ 64 j
    rw [show 15 + 0 - j = 16 - 1 - j by omega, this, wIn_word (fun i => b.getD i 0) hb j hj]

theorem getD_some {l : List Nat} {j : Nat} (h : j < l.length) : l[j]? = some (l.getD j 0) := by
  rw [List.getD_eq_getElem?_getD, List.getElem?_eq_getElem h]; rfl

theorem add8_R {s v u : Nat → Int} {l m : List Nat} (H : R8 s l) (hr : R8 v m) (hu : ∀ j, u j = (s j + v j) % 4294967296) : R8 u (add8 l m) := by
  have hat : ∀ j, j < 8 → (add8 l m)[j]? = some ((l.getD j 0 + m.getD j 0) % 4294967296) := fun j hj => by
    have h1 := getD_some (show j < l.length by rw [H.len]; exact hj)
    have h2 := getD_some (show j < m.length by rw [hr.len]; exact hj)
    generalize l.getD j 0 = a at h1 ⊢
    generalize m.getD j 0 = b at h2 ⊢
    unfold add8
    rw [List.getElem?_zipWith, h1, h2]
  have hlen : (add8 l m).length = 8 := by unfold add8; rw [List.length_zipWith, H.len, hr.len]; rfl
  refine ⟨hlen, fun x hx => ?_, fun j hj => ?_⟩
  · obtain ⟨i, hi, rfl⟩ := List.getElem_of_mem hx
    have := hat i (by omega)
    rw [List.getElem?_eq_getElem hi] at this
    rw [Option.some.inj this]
    exact Nat.mod_lt _ (by decide)
  · rw [List.getD_eq_getElem?_getD, hat j hj, Option.getD_some, hu, ← H.eq j hj, ← hr.eq j hj, sumV_eq]
theorem ext_at {f : Nat → Int} {l : List Nat} (hx : ExtR f 48 l) (j : Nat) (hj : j < 64) : ((l.reverse.getD j 0 : Nat) : Int) = wExt f 48 j := by
  have hl : l.length = 63 + 1 := hx.len
  have h := hx.eq j (by omega)
  rw [show 15 + 48 - j = 63 - j by omega] at h
  rw [getD_rev l 63 j hl (by omega), h]
theorem R8.get8 {s : Nat → Int} {l : List Nat} (H : R8 s l) : R8 s [l.getD 0 0, l.getD 1 0, l.getD 2 0, l.getD 3 0, l.getD 4 0, l.getD 5 0, l.getD 6 0, l.getD 7 0] :=
  R8.mk8 (Bd.eight (H.bd.getD _) (H.bd.getD _) (H.bd.getD _) (H.bd.getD _) (H.bd.getD _) (H.bd.getD _) (H.bd.getD _) (H.bd.getD _))
      (H.eq 0 (by decide)) (H.eq 1 (by decide)) (H.eq 2 (by decide)) (H.eq 3 (by decide)) (H.eq 4 (by decide)) (H.eq 5 (by decide)) (H.eq 6 (by decide)) (H.eq 7 (by decide))
theorem K0_at (j : Nat) (hj : j < 64) : ((KN.getD j 0 : Nat) : Int) = K0 (0 + j) := by rw [KN_at j hj, Nat.zero_add, K0]
theorem rnd64_R {s f : Nat → Int} {l x : List Nat} (H : R8 s l) (hx : ExtR f 48 x) :
    R8 (rounds K0 (wExt f 48) s 64) (rndN KN x.reverse (l.getD 0 0) (l.getD 1 0) (l.getD 2 0) (l.getD 3 0) (l.getD 4 0) (l.getD 5 0) (l.getD 6 0) (l.getD 7 0)) := by
  have hl : x.reverse.length = 64 := by rw [List.length_reverse, hx.len]
  have h0 : R8 (rounds K0 (wExt f 48) s 0) [l.getD 0 0, l.getD 1 0, l.getD 2 0, l.getD 3 0, l.getD 4 0, l.getD 5 0, l.getD 6 0, l.getD 7 0] := H.get8
  have hr := rndN_R (K := K0) (F := wExt f 48) (s := s) 64 0 KN x.reverse _ _ _ _ _ _ _ _ KN_len hl K0_at (fun j hj => by rw [Nat.zero_add]; exact ext_at hx j hj) h0
  rw [Nat.zero_add] at hr
  exact hr
theorem tieN_R {s : Nat → Int} {l b : List Nat} (H : R8 s l) (hl : b.length = 64) (hb : ∀ i, b.getD i 0 < 256) :
    R8 (tieF K0 (fun i => ((b.getD i 0 : Nat) : Int)) s) (tieN l b) := by
  have hx := extN_R 48 0 _ (words_R b hl hb)
  rw [Nat.zero_add] at hx
  have hr := rnd64_R H hx
  unfold tieN
  exact add8_R H hr (fun j => rfl)

/-- As the walk has them. -/
def toI (l : List Nat) : List Int := l.map fun (x : Nat) => (x : Int)
theorem toI_getD (l : List Nat) (i : Nat) : (toI l).getD i 0 = ((l.getD i 0 : Nat) : Int) := by
  unfold toI
  rw [List.getD_eq_getElem?_getD, List.getD_eq_getElem?_getD, List.getElem?_map]
  cases l[i]? <;> rfl

theorem take_getD (l : List Nat) (i n : Nat) (h : i < n) : (l.take n).getD i 0 = l.getD i 0 := by
  rw [List.getD_eq_getElem?_getD, List.getD_eq_getElem?_getD, List.getElem?_take_of_lt h]
theorem drop_getD (l : List Nat) (i n : Nat) : (l.drop n).getD i 0 = l.getD (n + i) 0 := by
  rw [List.getD_eq_getElem?_getD, List.getD_eq_getElem?_getD, List.getElem?_drop]
theorem take_bd {l : List Nat} (h : ∀ i, l.getD i 0 < 256) (n i : Nat) : (l.take n).getD i 0 < 256 := by
  by_cases hi : i < n
  · rw [take_getD _ _ _ hi]; exact h i
  · rw [List.getD_eq_getElem?_getD, List.getElem?_eq_none (by rw [List.length_take]; omega)]; decide

theorem compN_R {L : List Nat} (hL : ∀ i, L.getD i 0 < 256) : ∀ (n k : Nat) (s : List Nat), 64 * (k + n) ≤ L.length → R8 (comp H0 (toI L) k) s →
    R8 (comp H0 (toI L) (k + n)) (compN n s (L.drop (64 * k)))
  | 0, _, _, _, H => H
  | n + 1, k, s, hl, H => by
    unfold compN
    rw [nowL_eq, List.drop_drop, show k + (n + 1) = k + 1 + n by omega, show 64 * k + 64 = 64 * (k + 1) by omega]
    refine compN_R hL n (k + 1) _ (by omega) ?_
    have hd : ∀ i, (L.drop (64 * k)).getD i 0 < 256 := fun i => by rw [drop_getD]; exact hL _
    have := tieN_R H (b := (L.drop (64 * k)).take 64) (by rw [List.length_take, List.length_drop]; omega) (take_bd hd 64)
    have e : tieF K0 (fun i => ((((L.drop (64 * k)).take 64).getD i 0 : Nat) : Int)) (comp H0 (toI L) k) = comp H0 (toI L) (k + 1) := by
      show _ = tieF K0 (byteF (toI L) k) _
      refine tieF_congr fun i hi => ?_
      unfold byteF
      rw [take_getD _ _ _ hi, drop_getD, toI_getD]
    rw [e] at this
    exact this

theorem digN_at : ∀ (l : List Nat) (q r : Nat), r < 4 → q < l.length → (digN l)[4 * q + r]? = some (l.getD q 0 / 2 ^ (8 * (3 - r)) % 256)
  | [], _, _, _, h => absurd h (Nat.not_lt_zero _)
  | x :: l, 0, r, hr, _ => by
    match r, hr with
    | 0, _ => rfl
    | 1, _ => rfl
    | 2, _ => rfl
    | 3, _ => show some _ = some (x / 2 ^ 0 % 256); rw [Nat.pow_zero, Nat.div_one]
    | r + 4, h => exact absurd h (by omega)
  | x :: l, q + 1, r, hr, h => by
    rw [show 4 * (q + 1) + r = 4 * q + r + 4 by omega, List.getD_cons_succ]
    exact digN_at l q r hr (Nat.lt_of_succ_lt_succ h)

theorem pad_eq (n : Nat) : pad n = toI (padN n) := by
  unfold pad padN toI lens
  rw [List.map_cons, List.map_append, List.map_replicate, List.map_map]
  refine congr (congrArg List.cons rfl) (congr (congrArg HAppend.hAppend rfl) (List.map_congr_left fun j _ => ?_))
  unfold lenB
  show _ = (((n * 8 / 2 ^ (8 * (7 - j)) % 256 : Nat)) : Int)
  rw [Int.natCast_emod, Int.natCast_ediv, Int.natCast_pow, Int.natCast_mul]
  rfl

theorem sha_eq (L : List Nat) (hL : ∀ i, L.getD i 0 < 256) (j : Nat) (hj : j < 32) : (shaN L)[j]? = some (sha (toI L) j).toNat := by
  have hlen : (padN L.length).length = zc L.length + 9 := by
    have := pad_len L.length
    rw [pad_eq] at this
    rw [← this]; unfold toI; rw [List.length_map]
  have hpl : ∀ i, (L ++ padN L.length).getD i 0 < 256 := fun i => by
    rw [List.getD_eq_getElem?_getD]
    by_cases hi : i < L.length
    · rw [List.getElem?_append_left hi, ← List.getD_eq_getElem?_getD]; exact hL i
    · rw [List.getElem?_append_right (by omega), ← List.getD_eq_getElem?_getD]
      have h1 : (((padN L.length).getD (i - L.length) 0 : Nat) : Int) = (pad L.length).getD (i - L.length) 0 := by rw [pad_eq, toI_getD]
      have h2 := (rng_pad L.length).getD (i - L.length)
      rw [← h1] at h2
      omega
  have hsh : sha (toI L) = digB (comp H0 (toI (L ++ padN L.length)) ((L.length + zc L.length + 9) / 64)) := by
    unfold sha
    have e1 : toI L ++ pad (toI L).length = toI (L ++ padN L.length) := by
      rw [pad_eq]; unfold toI; rw [List.length_map, List.map_append]
    rw [e1]
    have e2 : (toI (L ++ padN L.length)).length = L.length + zc L.length + 9 := by
      unfold toI; rw [List.length_map, List.length_append, hlen, Nat.add_assoc]
    rw [e2]
  have hmod := pad_mod L.length
  rw [pad_len] at hmod
  have H := compN_R hpl ((L.length + zc L.length + 9) / 64) 0 HN (by rw [List.length_append, hlen]; omega) HN_R
  rw [Nat.zero_add, Nat.mul_zero, List.drop_zero] at H
  unfold shaN
  have := digN_at (compN ((L.length + zc L.length + 9) / 64) HN (L ++ padN L.length)) (j / 4) (j % 4) (by omega) (by rw [H.len]; omega)
  rw [show 4 * (j / 4) + j % 4 = j by omega] at this
  rw [this, hsh]
  unfold digB
  rw [← H.eq (j / 4) (by omega)]
  generalize (compN ((L.length + zc L.length + 9) / 64) HN (L ++ padN L.length)).getD (j / 4) 0 = x
  have hp : ((2 : Int) ^ (8 * (3 - j % 4))) = ((2 ^ (8 * (3 - j % 4)) : Nat) : Int) := by rw [Int.natCast_pow]; rfl
  rw [hp, ← Int.natCast_ediv, show (256 : Int) = ((256 : Nat) : Int) from rfl, ← Int.natCast_emod, Int.toNat_natCast]

end Go.Proofs.Ytppbaahaegmgeaa
