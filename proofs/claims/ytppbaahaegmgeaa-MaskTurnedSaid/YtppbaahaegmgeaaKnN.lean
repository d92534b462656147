/- SHA-256 over natural numbers, each step made at once: what the kernel can count. Plain; and that it is the walk's. -/
import Derived.Test.YtppbaahaegmgeaaKnF
namespace Go.Proofs.Ytppbaahaegmgeaa
open Go.RowKit

/-- x is counted first. -/
def now {α : Type} (x : Nat) (k : Nat → α) : α := Nat.rec (motive := fun _ => α) (k 0) (fun n _ => k (Nat.succ n)) x
theorem now_eq {α : Type} (x : Nat) (k : Nat → α) : now x k = k x := by cases x <;> rfl

def rotN (x n : Nat) : Nat := (x * 2 ^ (32 - n)) % 4294967296 ||| x / 2 ^ n
theorem rot_eq (x n : Nat) (hx : x < 4294967296) (hn : n ≤ 32) : rotr (x : Int) n = (rotN x n : Int) := by
  unfold rotr rotN
  have h1 : shl32 (x : Int) (32 - n : Int) = (((x * 2 ^ (32 - n)) % 4294967296 : Nat) : Int) := by
    unfold shl32
    rw [IntKind.wrap_u32, show min ((32 : Int) - (n : Int)).toNat 32 = 32 - n by omega, Int.natCast_emod, Int.natCast_mul, Int.natCast_pow]
    rfl
  have h2 : (x : Int) / 2 ^ n = ((x / 2 ^ n : Nat) : Int) := by rw [Int.natCast_ediv, Int.natCast_pow]; rfl
  have h3 : x / 2 ^ n < 4294967296 := Nat.lt_of_le_of_lt (Nat.div_le_self _ _) hx
  have h4 : ((32 : Int) - (n : Int)) = (((32 - n : Nat)) : Int) := by omega
  rw [show shl32 (x : Int) (32 - (n : Nat)) = shl32 (x : Int) ((32 : Int) - (n : Int)) from rfl, h1, h2, u32_or_nat _ _ (by omega) h3]
theorem rotN_lt (x n : Nat) (hx : x < 4294967296) : rotN x n < 4294967296 := by
  unfold rotN
  exact Nat.or_lt_two_pow (n := 32) (Nat.mod_lt _ (by decide)) (Nat.lt_of_le_of_lt (Nat.div_le_self _ _) hx)

def newN (w0 w1 w9 w14 : Nat) : Nat :=
  (w0 + w9 + (rotN w1 7 ^^^ rotN w1 18 ^^^ w1 / 8) + (rotN w14 17 ^^^ rotN w14 19 ^^^ w14 / 1024)) % 4294967296

/-- The words of the rounds, the newest first. -/
def extN : Nat → List Nat → List Nat
  | 0, l => l
  | k + 1, l => now (newN (l.getD 15 0) (l.getD 14 0) (l.getD 6 0) (l.getD 1 0)) fun x => extN k (x :: l)

def rndN : List Nat → List Nat → Nat → Nat → Nat → Nat → Nat → Nat → Nat → Nat → List Nat
  | k :: ks, w :: ws, a, b, c, d, e, f, g, h =>
    now ((h + (rotN e 6 ^^^ rotN e 11 ^^^ rotN e 25) + (g ^^^ (e &&& (f ^^^ g))) + k + w) % 4294967296) fun t =>
    now ((t + ((rotN a 2 ^^^ rotN a 13 ^^^ rotN a 22) + (a &&& b ^^^ a &&& c ^^^ b &&& c))) % 4294967296) fun x =>
    now ((d + t) % 4294967296) fun y => rndN ks ws x a b c y e f g
  | _, _, a, b, c, d, e, f, g, h => [a, b, c, d, e, f, g, h]

def wordsN : Nat → List Nat → List Nat → List Nat
  | 0, _, acc => acc
  | k + 1, a :: b :: c :: d :: l, acc => now (a * 16777216 + b * 65536 + c * 256 + d) fun x => wordsN k l (x :: acc)
  | _, _, acc => acc

def KN : List Nat := rt3.map (· % 4294967296)
def HN : List Nat := rt2.map (· % 4294967296)
def add8 (s v : List Nat) : List Nat := List.zipWith (fun x y => (x + y) % 4294967296) s v
def tieN (s : List Nat) (b : List Nat) : List Nat :=
  add8 s (rndN KN (extN 48 (wordsN 16 b [])).reverse (s.getD 0 0) (s.getD 1 0) (s.getD 2 0) (s.getD 3 0) (s.getD 4 0) (s.getD 5 0) (s.getD 6 0) (s.getD 7 0))
def nowL {α : Type} : List Nat → (List Nat → α) → α
  | [], k => k []
  | x :: l, k => now x fun y => nowL l fun m => k (y :: m)
theorem nowL_eq {α : Type} (l : List Nat) (k : List Nat → α) : nowL l k = k l := by
  induction l generalizing k with
  | nil => rfl
  | cons x l ih => unfold nowL; rw [now_eq, ih]
def compN : Nat → List Nat → List Nat → List Nat
  | 0, s, _ => s
  | n + 1, s, l => nowL (tieN s (l.take 64)) fun s' => compN n s' (l.drop 64)
def digN (s : List Nat) : List Nat := s.flatMap fun x => [x / 16777216 % 256, x / 65536 % 256, x / 256 % 256, x % 256]
def padN (n : Nat) : List Nat := 128 :: (List.replicate (zc n) 0 ++ (List.range 8).map fun j => n * 8 / 2 ^ (8 * (7 - j)) % 256)
def shaN (l : List Nat) : List Nat := digN (compN ((l.length + zc l.length + 9) / 64) HN (l ++ padN l.length))

/-- Natural numbers as a function. -/
def toF (l : List Nat) (j : Nat) : Int := ((l.getD j 0 : Nat) : Int)
def Bd (l : List Nat) : Prop := ∀ x ∈ l, x < 4294967296
theorem Bd.getD {l : List Nat} (h : Bd l) (j : Nat) : l.getD j 0 < 4294967296 := by
  rw [List.getD_eq_getElem?_getD]
  cases hx : l[j]? with
  | none => simp
  | some x => simpa using h x (List.mem_of_getElem? hx)

theorem xor3_eq (x y z : Nat) (hx : x < 4294967296) (hy : y < 4294967296) (hz : z < 4294967296) : bits BinOp.xor IntKind.u32 (bits BinOp.xor IntKind.u32 (x : Int) (y : Int)) (z : Int) = ((x ^^^ y ^^^ z : Nat) : Int) := by
  have e : (2 : Nat) ^ 32 = 4294967296 := by decide
  have h : x ^^^ y < 4294967296 := by
    have := Nat.xor_lt_two_pow (n := 32) (x := x) (y := y) (by rw [e]; exact hx) (by rw [e]; exact hy)
    rw [e] at this
    exact this
  rw [u32_xor_nat _ _ hx hy, u32_xor_nat _ _ h hz]
theorem sum4_eq (a c x y : Nat) : ((((a : Int) + (c : Int)) % 4294967296 + (x : Int)) % 4294967296 + (y : Int)) % 4294967296 = (((a + c + x + y) % 4294967296 : Nat) : Int) := by
  rw [Int.emod_add_emod ((a : Int) + c), Int.emod_add_emod ((a : Int) + c + x), Int.natCast_emod, Int.natCast_add, Int.natCast_add, Int.natCast_add]
  rfl
theorem new_eq (a b c d : Nat) (hb : b < 4294967296) (hd : d < 4294967296) :
    ((((a : Int) + (c : Int)) % 4294967296 + bits BinOp.xor IntKind.u32 (bits BinOp.xor IntKind.u32 (rotr (b : Int) 7) (rotr (b : Int) 18)) ((b : Int) / 8)) % 4294967296 +
      bits BinOp.xor IntKind.u32 (bits BinOp.xor IntKind.u32 (rotr (d : Int) 17) (rotr (d : Int) 19)) ((d : Int) / 1024)) % 4294967296 = (newN a b c d : Int) := by
  have e8 : (b : Int) / 8 = ((b / 8 : Nat) : Int) := by omega
  have e10 : (d : Int) / 1024 = ((d / 1024 : Nat) : Int) := by omega
  have l8 : b / 8 < 4294967296 := by omega
  have l10 : d / 1024 < 4294967296 := by omega
  rw [rot_eq b 7 hb (by omega), rot_eq b 18 hb (by omega), rot_eq d 17 hd (by omega), rot_eq d 19 hd (by omega), e8, e10,
    xor3_eq _ _ _ (rotN_lt b 7 hb) (rotN_lt b 18 hb) l8, xor3_eq _ _ _ (rotN_lt d 17 hd) (rotN_lt d 19 hd) l10, sum4_eq]
  rfl
theorem newN_lt (a b c d : Nat) : newN a b c d < 4294967296 := Nat.mod_lt _ (by decide)

/-- The words, the newest first, are the walk's. -/
structure ExtR (f : Nat → Int) (k : Nat) (l : List Nat) : Prop where
  len : l.length = 16 + k
  bd : Bd l
  eq : ∀ j, j < 16 + k → ((l.getD (15 + k - j) 0 : Nat) : Int) = wExt f k j
theorem ExtR.newW {f : Nat → Int} {k : Nat} {l : List Nat} (h : ExtR f k l) : ((newN (l.getD 15 0) (l.getD 14 0) (l.getD 6 0) (l.getD 1 0) : Nat) : Int) = newW (wExt f k) k := by
  have e0 := h.eq k (Nat.lt_add_of_pos_left (by decide))
  have e1 := h.eq (k + 1) (by clear e0; omega)
  have e9 := h.eq (k + 9) (by clear e0 e1; omega)
  have e14 := h.eq (k + 14) (by clear e0 e1 e9; omega)
  rw [show 15 + k - k = 15 from Nat.add_sub_cancel ..] at e0
  rw [show 15 + k - (k + 1) = 14 from by clear e0 e1 e9 e14; omega] at e1
  rw [show 15 + k - (k + 9) = 6 from by clear e0 e1 e9 e14; omega] at e9
  rw [show 15 + k - (k + 14) = 1 from by clear e0 e1 e9 e14; omega] at e14
  unfold Go.Proofs.Ytppbaahaegmgeaa.newW
  rw [← e0, ← e1, ← e9, ← e14]
  exact (new_eq _ _ _ _ (h.bd.getD _) (h.bd.getD _)).symm
theorem ExtR.step {f : Nat → Int} {k : Nat} {l : List Nat} (h : ExtR f k l) : ExtR f (k + 1) (newN (l.getD 15 0) (l.getD 14 0) (l.getD 6 0) (l.getD 1 0) :: l) := by
  have hn := h.newW
  have hl : newN (l.getD 15 0) (l.getD 14 0) (l.getD 6 0) (l.getD 1 0) < 4294967296 := newN_lt _ _ _ _
  generalize newN (l.getD 15 0) (l.getD 14 0) (l.getD 6 0) (l.getD 1 0) = x at hn hl
  refine ⟨by rw [List.length_cons, h.len]; omega, fun y hy => ?_, fun j hj => ?_⟩
  · rcases List.mem_cons.1 hy with rfl | hy
    · exact hl
    · exact h.bd y hy
  · have e : wExt f (k + 1) j = upd1 (wExt f k) (k + 16) (Go.Proofs.Ytppbaahaegmgeaa.newW (wExt f k) k) j := rfl
    rw [e, ← hn]
    unfold upd1
    clear e hn hl
    by_cases hj2 : j = k + 16
    · rw [if_pos hj2, show 15 + (k + 1) - j = 0 by omega, List.getD_cons_zero]
    · rw [if_neg hj2, show 15 + (k + 1) - j = (15 + k - j) + 1 by omega, List.getD_cons_succ]
      exact h.eq j (by omega)
theorem extN_R {f : Nat → Int} : ∀ (n k : Nat) (l : List Nat), ExtR f k l → ExtR f (k + n) (extN n l)
  | 0, _, _, h => h
  | n + 1, k, l, h => by
    unfold extN
    rw [now_eq, show k + (n + 1) = k + 1 + n by omega]
    exact extN_R n (k + 1) _ h.step

theorem wIn_keep (B : Nat → Int) (j : Nat) : ∀ (k n : Nat), (∀ i, n ≤ i → i < n + k → i / 4 ≠ j) → wIn B (n + k) j = wIn B n j
  | 0, _, _ => rfl
  | k + 1, n, h => by
    show upd1 (wIn B (n + k)) ((n + k) / 4) _ j = _
    unfold upd1
    rw [if_neg (fun e => h (n + k) (by omega) (by omega) e.symm)]
    exact wIn_keep B j k n (fun i h1 h2 => h i h1 (by omega))
theorem wIn_zero (B : Nat → Int) (j : Nat) : wIn B (4 * j) j = 0 := by
  have := wIn_keep B j (4 * j) 0 (fun i _ h => by omega)
  rw [Nat.zero_add] at this
  rw [this]; rfl
theorem or_byte (x y : Nat) (hx : x < 16777216) (hy : y < 256) : bits BinOp.or IntKind.u32 ((x : Int) * 256 % 4294967296) (y : Int) = ((x * 256 + y : Nat) : Int) := by
  rw [show (x : Int) * 256 % 4294967296 = ((x * 256 : Nat) : Int) by omega, u32_or_nat _ _ (by omega) (by omega), nat_join 8 _ _ (by omega) (by omega)]
theorem wIn_word (b : Nat → Nat) (hb : ∀ i, b i < 256) (j : Nat) (hj : j < 16) :
    wIn (fun i => (b i : Int)) 64 j = ((b (4 * j) * 16777216 + b (4 * j + 1) * 65536 + b (4 * j + 2) * 256 + b (4 * j + 3) : Nat) : Int) := by
  have h0 := hb (4 * j)
  have h1 := hb (4 * j + 1)
  have h2 := hb (4 * j + 2)
  have h3 := hb (4 * j + 3)
  have k1 : wIn (fun i => (b i : Int)) (4 * j + 1) j = ((0 * 256 + b (4 * j) : Nat) : Int) := by
    show upd1 _ (4 * j / 4) _ j = _
    rw [show 4 * j / 4 = j by omega]
    unfold upd1
    rw [if_pos rfl, wIn_zero]
    exact or_byte 0 _ (by omega) h0
  have k2 : wIn (fun i => (b i : Int)) (4 * j + 2) j = (((0 * 256 + b (4 * j)) * 256 + b (4 * j + 1) : Nat) : Int) := by
    show upd1 _ ((4 * j + 1) / 4) _ j = _
    rw [show (4 * j + 1) / 4 = j by omega]
    unfold upd1
    rw [if_pos rfl, k1]
    exact or_byte _ _ (by omega) h1
  have k3 : wIn (fun i => (b i : Int)) (4 * j + 3) j = ((((0 * 256 + b (4 * j)) * 256 + b (4 * j + 1)) * 256 + b (4 * j + 2) : Nat) : Int) := by
    show upd1 _ ((4 * j + 2) / 4) _ j = _
    rw [show (4 * j + 2) / 4 = j by omega]
    unfold upd1
    rw [if_pos rfl, k2]
    exact or_byte _ _ (by omega) h2
  have k4 : wIn (fun i => (b i : Int)) (4 * j + 4) j = (((((0 * 256 + b (4 * j)) * 256 + b (4 * j + 1)) * 256 + b (4 * j + 2)) * 256 + b (4 * j + 3) : Nat) : Int) := by
    show upd1 _ ((4 * j + 3) / 4) _ j = _
    rw [show (4 * j + 3) / 4 = j by omega]
    unfold upd1
    rw [if_pos rfl, k3]
    exact or_byte _ _ (by omega) h3
  have := wIn_keep (fun i => (b i : Int)) j (60 - 4 * j) (4 * j + 4) (fun i h1 h2 => by omega)
  rw [show 4 * j + 4 + (60 - 4 * j) = 64 by omega] at this
  rw [this, k4]
  exact congrArg Nat.cast (by omega)

theorem wordsN_at : ∀ (k : Nat) (l acc : List Nat), l.length = 4 * k → (∀ j, j < k → (wordsN k l acc).getD (k - 1 - j) 0 = l.getD (4 * j) 0 * 16777216 + l.getD (4 * j + 1) 0 * 65536 + l.getD (4 * j + 2) 0 * 256 + l.getD (4 * j + 3) 0) ∧
    (wordsN k l acc).length = k + acc.length ∧ ∀ j, (wordsN k l acc).getD (k + j) 0 = acc.getD j 0
  | 0, l, acc, h => ⟨fun j hj => by omega, by simp [wordsN], fun j => by simp [wordsN]⟩
  | k + 1, l, acc, h => by
    match l, h with
    | a :: b :: c :: d :: l, h =>
      unfold wordsN
      rw [now_eq]
      obtain ⟨h1, h2, h3⟩ := wordsN_at k l ((a * 16777216 + b * 65536 + c * 256 + d) :: acc) (by simp at h; omega)
      refine ⟨fun j hj => ?_, by rw [h2]; simp; omega, fun j => ?_⟩
      · cases j with
        | zero =>
          have := h3 0
          rw [Nat.add_zero] at this
          rw [show k + 1 - 1 - 0 = k by omega, this]
          rfl
        | succ j =>
          rw [show k + 1 - 1 - (j + 1) = k - 1 - j by omega, h1 j (by omega), show 4 * (j + 1) = 4 * j + 4 by omega]
          rfl
      · have := h3 (j + 1)
        rw [show k + 1 + j = k + (j + 1) by omega, this]
        rfl

end Go.Proofs.Ytppbaahaegmgeaa
