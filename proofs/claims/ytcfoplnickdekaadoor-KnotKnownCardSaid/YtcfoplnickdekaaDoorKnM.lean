/- The digest of a million bytes 'a', counted by the kernel in parts (written by mkmil.py). -/
import Derived.Test.YtcfoplnickdekaaDoorKnO
namespace Go.Proofs.YtcfoplnickdekaaDoor
open Go.RowKit

/-- The rounds over known words, in few steps. -/
def rdM : List Nat → Nat → Nat → Nat → Nat → Nat → Nat → Nat → Nat → List Nat
  | kw :: ks, a, b, c, d, e, f, g, h =>
    now (Nat.mul e 4294967297) fun ee =>
    now (Nat.mod (Nat.add (Nat.add h (Nat.xor (Nat.xor (Nat.shiftRight ee 6) (Nat.shiftRight ee 11)) (Nat.shiftRight ee 25))) (Nat.add (Nat.xor g (Nat.land e (Nat.xor f g))) kw)) 4294967296) fun t =>
    now (Nat.mul a 4294967297) fun aa =>
    now (Nat.mod (Nat.add t (Nat.add (Nat.xor (Nat.xor (Nat.shiftRight aa 2) (Nat.shiftRight aa 13)) (Nat.shiftRight aa 22)) (Nat.xor (Nat.land a (Nat.xor b c)) (Nat.land b c)))) 4294967296) fun x =>
    now (Nat.mod (Nat.add d t) 4294967296) fun y => rdM ks x a b c y e f g
  | [], a, b, c, d, e, f, g, h => [a, b, c, d, e, f, g, h]
/-- The words of a block of 64 bytes 'a', with the rounds' numbers added. -/
def KWa : List Nat := [2750124281, 3533219314, 4683095344, 5554781446, 2595759036, 3142742866, 4087407621, 4504535094, 5258152953, 1944370274, 2240997151, 3060653860, 3558850261, 3795850079, 4248659976, 4881994453, 7962470397, 8149304770, 1109373709, 1449834259, 1332383432, 1811277571, 5697566716, 4336890837, 4651386783, 7023905028, 4167673427, 6075095564, 3506461443, 6222891004, 3100717738, 957412701, 3211936012, 2525724465, 5192624004, 2750766458, 3733122911, 5785415788, 5302099131, 4510137934, 4494867471, 3051847127, 6841751890, 5493434369, 5416391400, 6288792078, 4206943767, 1385611443, 2838015846, 4615462549, 2870002303, 4911289699, 3868675357, 5105900214, 4192983651, 4114851946, 2567787456, 3518289627, 3043469264, 3431775655, 2875437985, 3700493388, 7133747437, 3572068108]
def addM : List Nat → List Nat → List Nat
  | [a, b, c, d, e, f, g, h], [a', b', c', d', e', f', g', h'] =>
      now (Nat.mod (Nat.add a a') 4294967296) fun a => now (Nat.mod (Nat.add b b') 4294967296) fun b => now (Nat.mod (Nat.add c c') 4294967296) fun c => now (Nat.mod (Nat.add d d') 4294967296) fun d =>
      now (Nat.mod (Nat.add e e') 4294967296) fun e => now (Nat.mod (Nat.add f f') 4294967296) fun f => now (Nat.mod (Nat.add g g') 4294967296) fun g => now (Nat.mod (Nat.add h h') 4294967296) fun h => [a, b, c, d, e, f, g, h]
  | _, _ => []
def stM : List Nat → List Nat
  | [a, b, c, d, e, f, g, h] => addM [a, b, c, d, e, f, g, h] (rdM KWa a b c d e f g h)
  | _ => []
def itM : Nat → List Nat → List Nat
  | 0, s => s
  | n + 1, s => itM n (stM s)
theorem itM_add : ∀ (n m : Nat) (s : List Nat), itM (n + m) s = itM m (itM n s)
  | 0, m, s => by rw [Nat.zero_add]; rfl
  | n + 1, m, s => by
    rw [show n + 1 + m = (n + m) + 1 by omega]
    exact itM_add n m (stM s)

theorem rotM (x n : Nat) (hx : x < 4294967296) (hn : n ≤ 32) : x * 4294967297 / 2 ^ n % 4294967296 = rotN x n := by
  have e32 : (2 : Nat) ^ n * 2 ^ (32 - n) = 4294967296 := by rw [← Nat.pow_add, show n + (32 - n) = 32 by omega]
  have hp : 0 < 2 ^ n := Nat.two_pow_pos n
  have hq : 0 < 2 ^ (32 - n) := Nat.two_pow_pos _
  have h1 : x * 4294967297 / 2 ^ n = x * 2 ^ (32 - n) + x / 2 ^ n := by
    have : x * 4294967297 = 2 ^ n * (x * 2 ^ (32 - n)) + x := by
      rw [Nat.mul_left_comm, e32]; omega
    rw [this, Nat.mul_add_div hp]
  have hd := Nat.div_add_mod x (2 ^ n)
  have hr := Nat.mod_lt x hp
  generalize hqq : x / 2 ^ n = q at *
  generalize hrr : x % 2 ^ n = r at *
  have hq2 : q < 2 ^ (32 - n) := by
    rw [← hqq]
    exact Nat.div_lt_of_lt_mul (by rw [e32]; exact hx)
  have h2 : x * 2 ^ (32 - n) = 4294967296 * q + r * 2 ^ (32 - n) := by
    rw [← hd, Nat.add_mul, ← e32]
    congr 1
    rw [Nat.mul_assoc, Nat.mul_assoc, Nat.mul_comm q]
  have h3 : r * 2 ^ (32 - n) + q < 4294967296 := by
    have : r * 2 ^ (32 - n) + 2 ^ (32 - n) ≤ 2 ^ n * 2 ^ (32 - n) := by
      rw [← Nat.succ_mul]
      exact Nat.mul_le_mul_right _ hr
    rw [e32] at this
    omega
  have h4 : x * 2 ^ (32 - n) % 4294967296 = r * 2 ^ (32 - n) := by
    rw [h2, Nat.mul_add_mod]
    exact Nat.mod_eq_of_lt (by omega)
  unfold rotN
  rw [h1, hqq, h4, h2, Nat.add_assoc, Nat.mul_add_mod, Nat.mod_eq_of_lt h3, Nat.mul_comm r]
  exact Nat.two_pow_add_eq_or_of_lt hq2 r

theorem xorM (x y : Nat) : (x ^^^ y) % 4294967296 = x % 4294967296 ^^^ y % 4294967296 := Nat.xor_mod_two_pow (a := x) (b := y) (n := 32)
theorem bigM (x i j k : Nat) (hx : x < 4294967296) (hi : i ≤ 32) (hj : j ≤ 32) (hk : k ≤ 32) :
    (Nat.xor (Nat.xor (Nat.shiftRight (Nat.mul x 4294967297) i) (Nat.shiftRight (Nat.mul x 4294967297) j)) (Nat.shiftRight (Nat.mul x 4294967297) k)) % 4294967296 = rotN x i ^^^ rotN x j ^^^ rotN x k := by
  show ((x * 4294967297) >>> i ^^^ (x * 4294967297) >>> j ^^^ (x * 4294967297) >>> k) % 4294967296 = _
  rw [xorM, xorM, Nat.shiftRight_eq_div_pow, Nat.shiftRight_eq_div_pow, Nat.shiftRight_eq_div_pow, rotM x i hx hi, rotM x j hx hj, rotM x k hx hk]
theorem roundT (h X S C k w : Nat) (hX : X % 4294967296 = S) : (h + X + (C + (k + w))) % 4294967296 = (h + S + C + k + w) % 4294967296 := by
  rw [← hX]; omega
theorem roundX (t X S C : Nat) (hX : X % 4294967296 = S) : (t + (X + C)) % 4294967296 = (t + (S + C)) % 4294967296 := by
  rw [← hX]; omega
theorem majM (a b c : Nat) : (a &&& (b ^^^ c)) ^^^ (b &&& c) = a &&& b ^^^ a &&& c ^^^ b &&& c := by rw [Nat.and_xor_distrib_left]

theorem rdM_eq : ∀ (ks ws : List Nat) (a b c d e f g h : Nat), ks.length = ws.length → a < 4294967296 → e < 4294967296 →
    rdM (List.zipWith (· + ·) ks ws) a b c d e f g h = rndN ks ws a b c d e f g h
  | [], [], _, _, _, _, _, _, _, _, _, _, _ => rfl
  | k :: ks, w :: ws, a, b, c, d, e, f, g, h, hl, ha, he => by
    rw [List.zipWith_cons_cons]
    unfold rdM rndN
    simp only [now_eq]
    have hT : Nat.mod (Nat.add (Nat.add h (Nat.xor (Nat.xor (Nat.shiftRight (Nat.mul e 4294967297) 6) (Nat.shiftRight (Nat.mul e 4294967297) 11)) (Nat.shiftRight (Nat.mul e 4294967297) 25))) (Nat.add (Nat.xor g (Nat.land e (Nat.xor f g))) (k + w))) 4294967296 =
        (h + (rotN e 6 ^^^ rotN e 11 ^^^ rotN e 25) + (g ^^^ (e &&& (f ^^^ g))) + k + w) % 4294967296 := roundT h _ _ (g ^^^ (e &&& (f ^^^ g))) k w (bigM e 6 11 25 he (by omega) (by omega) (by omega))
    rw [hT]
    generalize (h + (rotN e 6 ^^^ rotN e 11 ^^^ rotN e 25) + (g ^^^ (e &&& (f ^^^ g))) + k + w) % 4294967296 = t
    have hX : Nat.mod (Nat.add t (Nat.add (Nat.xor (Nat.xor (Nat.shiftRight (Nat.mul a 4294967297) 2) (Nat.shiftRight (Nat.mul a 4294967297) 13)) (Nat.shiftRight (Nat.mul a 4294967297) 22)) (Nat.xor (Nat.land a (Nat.xor b c)) (Nat.land b c)))) 4294967296 =
        (t + ((rotN a 2 ^^^ rotN a 13 ^^^ rotN a 22) + (a &&& b ^^^ a &&& c ^^^ b &&& c))) % 4294967296 := by
      rw [← majM a b c]
      exact roundX t _ _ ((a &&& (b ^^^ c)) ^^^ (b &&& c)) (bigM a 2 13 22 ha (by omega) (by omega) (by omega))
    rw [hX]
    exact rdM_eq ks ws _ _ _ _ _ _ _ _ (Nat.succ.inj hl) (Nat.mod_lt _ (by decide)) (Nat.mod_lt _ (by decide))
theorem rndN_eight : ∀ (ks ws : List Nat) (a b c d e f g h : Nat), ∃ a' b' c' d' e' f' g' h', rndN ks ws a b c d e f g h = [a', b', c', d', e', f', g', h']
  | [], _, _, _, _, _, _, _, _, _ => ⟨_, _, _, _, _, _, _, _, by unfold rndN; rfl⟩
  | _ :: _, [], _, _, _, _, _, _, _, _ => ⟨_, _, _, _, _, _, _, _, by unfold rndN; rfl⟩
  | k :: ks, w :: ws, a, b, c, d, e, f, g, h => by
    unfold rndN
    simp only [now_eq]
    exact rndN_eight ks ws _ _ _ _ _ _ _ _

def Ba : List Nat := List.replicate 64 97
theorem KWa_eq : KWa = List.zipWith (· + ·) KN (extN 48 (wordsN 16 Ba [])).reverse := by decide +kernel
theorem KWa_len : KN.length = (extN 48 (wordsN 16 Ba [])).reverse.length := by decide +kernel
/-- Eight words. -/
def Eight (s : List Nat) : Prop := s.length = 8 ∧ Bd s
theorem modadd (x y : Nat) : Nat.mod (Nat.add x y) 4294967296 = (x + y) % 4294967296 := rfl
theorem addM_eq (a b c d e f g h a' b' c' d' e' f' g' h' : Nat) : addM [a, b, c, d, e, f, g, h] [a', b', c', d', e', f', g', h'] =
    [(a + a') % 4294967296, (b + b') % 4294967296, (c + c') % 4294967296, (d + d') % 4294967296, (e + e') % 4294967296, (f + f') % 4294967296, (g + g') % 4294967296, (h + h') % 4294967296] := by
  simp only [addM, now_eq, modadd]
theorem stM_eq (s : List Nat) (hs : Eight s) : stM s = tieN s Ba ∧ Eight (stM s) := by
  obtain ⟨hl, hb⟩ := hs
  match s, hl with
  | [a, b, c, d, e, f, g, h], _ =>
    have ha : a < 4294967296 := hb.getD 0
    have he : e < 4294967296 := hb.getD 4
    obtain ⟨a', b', c', d', e', f', g', h', hr⟩ := rndN_eight KN (extN 48 (wordsN 16 Ba [])).reverse a b c d e f g h
    have hm : rdM KWa a b c d e f g h = [a', b', c', d', e', f', g', h'] := by rw [KWa_eq, rdM_eq _ _ _ _ _ _ _ _ _ _ KWa_len ha he, hr]
    have h1 : stM [a, b, c, d, e, f, g, h] = [(a + a') % 4294967296, (b + b') % 4294967296, (c + c') % 4294967296, (d + d') % 4294967296, (e + e') % 4294967296, (f + f') % 4294967296, (g + g') % 4294967296, (h + h') % 4294967296] := by
      have e0 : stM [a, b, c, d, e, f, g, h] = addM [a, b, c, d, e, f, g, h] (rdM KWa a b c d e f g h) := rfl
      rw [e0, hm]
      exact addM_eq a b c d e f g h a' b' c' d' e' f' g' h'
    have h2 : tieN [a, b, c, d, e, f, g, h] Ba = [(a + a') % 4294967296, (b + b') % 4294967296, (c + c') % 4294967296, (d + d') % 4294967296, (e + e') % 4294967296, (f + f') % 4294967296, (g + g') % 4294967296, (h + h') % 4294967296] := by
      unfold tieN
      simp only [List.getD_cons_zero, List.getD_cons_succ]
      rw [hr]
      rfl
    refine ⟨h1.trans h2.symm, ?_⟩
    rw [h1]
    exact ⟨rfl, Bd.eight (Nat.mod_lt _ (by decide)) (Nat.mod_lt _ (by decide)) (Nat.mod_lt _ (by decide)) (Nat.mod_lt _ (by decide)) (Nat.mod_lt _ (by decide)) (Nat.mod_lt _ (by decide)) (Nat.mod_lt _ (by decide)) (Nat.mod_lt _ (by decide))⟩
theorem compN_it (m : Nat) (rest : List Nat) : ∀ (n : Nat) (s : List Nat), Eight s → compN (n + m) s (List.replicate (64 * n) 97 ++ rest) = compN m (itM n s) rest
  | 0, s, _ => by rw [Nat.zero_add]; rfl
  | n + 1, s, hs => by
    obtain ⟨h1, h2⟩ := stM_eq s hs
    have e : List.replicate (64 * (n + 1)) 97 ++ rest = Ba ++ (List.replicate (64 * n) 97 ++ rest) := by
      unfold Ba
      rw [← List.append_assoc, List.replicate_append_replicate, show 64 + 64 * n = 64 * (n + 1) by omega]
    have ih := compN_it m rest n (stM s) h2
    rw [show n + 1 + m = (n + m) + 1 by omega, e]
    generalize List.replicate (64 * n) 97 ++ rest = R at ih ⊢
    have hB : Ba.length = 64 := List.length_replicate
    have hc : compN (n + m + 1) s (Ba ++ R) = nowL (tieN s ((Ba ++ R).take 64)) fun s' => compN (n + m) s' ((Ba ++ R).drop 64) := rfl
    rw [hc, nowL_eq, List.take_left' hB, List.drop_left' hB, ← h1]
    exact ih

theorem itM_0 : itM 625 [1779033703, 3144134277, 1013904242, 2773480762, 1359893119, 2600822924, 528734635, 1541459225] = [2980184124, 4055252723, 380558326, 3848951136, 619917395, 3724953604, 1241085446, 2795455954] := by decide +kernel
theorem itM_1 : itM 625 [2980184124, 4055252723, 380558326, 3848951136, 619917395, 3724953604, 1241085446, 2795455954] = [3480499010, 1333227246, 884393318, 2192927904, 2339805852, 2416519719, 2298295811, 2434603153] := by decide +kernel
theorem itM_2 : itM 625 [3480499010, 1333227246, 884393318, 2192927904, 2339805852, 2416519719, 2298295811, 2434603153] = [3817410241, 129848790, 4156440462, 740622841, 449295930, 2859383890, 2573751462, 4092511495] := by decide +kernel
theorem itM_3 : itM 625 [3817410241, 129848790, 4156440462, 740622841, 449295930, 2859383890, 2573751462, 4092511495] = [2480449054, 887052842, 3735950646, 2529967085, 2552717231, 2132796822, 2247734032, 1574115203] := by decide +kernel
theorem itM_4 : itM 625 [2480449054, 887052842, 3735950646, 2529967085, 2552717231, 2132796822, 2247734032, 1574115203] = [316970583, 4221150854, 311357983, 64105143, 1164177717, 1807858894, 2571004778, 2276785209] := by decide +kernel
theorem itM_5 : itM 625 [316970583, 4221150854, 311357983, 64105143, 1164177717, 1807858894, 2571004778, 2276785209] = [3451735173, 1992480860, 4114376705, 4207124144, 1301879602, 2314567675, 2863845554, 413343649] := by decide +kernel
theorem itM_6 : itM 625 [3451735173, 1992480860, 4114376705, 4207124144, 1301879602, 2314567675, 2863845554, 413343649] = [25303342, 1446205656, 22677385, 2976249951, 462609797, 3758847419, 1575596734, 4081208719] := by decide +kernel
theorem itM_7 : itM 625 [25303342, 1446205656, 22677385, 2976249951, 462609797, 3758847419, 1575596734, 4081208719] = [4101075154, 129573525, 758111687, 2809097055, 2946173745, 4125254953, 3590949913, 2694474649] := by decide +kernel
theorem itM_8 : itM 625 [4101075154, 129573525, 758111687, 2809097055, 2946173745, 4125254953, 3590949913, 2694474649] = [249274935, 97276911, 2625192275, 852671802, 2930304310, 3421827650, 450703807, 2891257336] := by decide +kernel
theorem itM_9 : itM 625 [249274935, 97276911, 2625192275, 852671802, 2930304310, 3421827650, 450703807, 2891257336] = [3950689631, 1183676483, 523787800, 1079288165, 3531020339, 1967142716, 4113132345, 1750149100] := by decide +kernel
theorem itM_10 : itM 625 [3950689631, 1183676483, 523787800, 1079288165, 3531020339, 1967142716, 4113132345, 1750149100] = [92662511, 2039292810, 2812368728, 1398842276, 369889284, 3416214735, 196742846, 4050250501] := by decide +kernel
theorem itM_11 : itM 625 [92662511, 2039292810, 2812368728, 1398842276, 369889284, 3416214735, 196742846, 4050250501] = [3644021289, 3318186913, 3635780383, 3250820814, 1352957489, 568761720, 3897415568, 2084911344] := by decide +kernel
theorem itM_12 : itM 625 [3644021289, 3318186913, 3635780383, 3250820814, 1352957489, 568761720, 3897415568, 2084911344] = [2770629724, 3718244748, 1426248302, 1485112788, 2393428728, 2730147097, 2068496129, 955849718] := by decide +kernel
theorem itM_13 : itM 625 [2770629724, 3718244748, 1426248302, 1485112788, 2393428728, 2730147097, 2068496129, 955849718] = [1991337870, 2309255265, 3993853711, 1510319335, 975131125, 1966570908, 2691746226, 549922638] := by decide +kernel
theorem itM_14 : itM 625 [1991337870, 2309255265, 3993853711, 1510319335, 975131125, 1966570908, 2691746226, 549922638] = [2229091582, 1247898798, 3129489793, 801003700, 3664384409, 2135943812, 1655664929, 4043692830] := by decide +kernel
theorem itM_15 : itM 625 [2229091582, 1247898798, 3129489793, 801003700, 3664384409, 2135943812, 1655664929, 4043692830] = [1482359619, 3053920332, 2218581276, 956914467, 3284847132, 1532092920, 4107310820, 2931061524] := by decide +kernel
theorem itM_16 : itM 625 [1482359619, 3053920332, 2218581276, 956914467, 3284847132, 1532092920, 4107310820, 2931061524] = [2671872303, 3494736969, 250824018, 496096432, 3522633456, 3909563648, 361649023, 839489138] := by decide +kernel
theorem itM_17 : itM 625 [2671872303, 3494736969, 250824018, 496096432, 3522633456, 3909563648, 361649023, 839489138] = [185797383, 1717202109, 1189823254, 219299165, 1089675585, 3146653644, 666783934, 2760782249] := by decide +kernel
theorem itM_18 : itM 625 [185797383, 1717202109, 1189823254, 219299165, 1089675585, 3146653644, 666783934, 2760782249] = [3420580859, 3753318278, 2910203626, 3238094755, 2261397776, 2929822888, 3194009251, 2296366361] := by decide +kernel
theorem itM_19 : itM 625 [3420580859, 3753318278, 2910203626, 3238094755, 2261397776, 2929822888, 3194009251, 2296366361] = [1527903575, 643982266, 137930256, 1901535836, 1469484063, 211280277, 2609170097, 3664365886] := by decide +kernel
theorem itM_20 : itM 625 [1527903575, 643982266, 137930256, 1901535836, 1469484063, 211280277, 2609170097, 3664365886] = [1782389935, 2251650807, 681093295, 2649148146, 1901012235, 2437441946, 16189232, 3449983928] := by decide +kernel
theorem itM_21 : itM 625 [1782389935, 2251650807, 681093295, 2649148146, 1901012235, 2437441946, 16189232, 3449983928] = [1569553612, 654178797, 3862343199, 1717473844, 141936283, 2363548559, 2018722472, 3397912081] := by decide +kernel
theorem itM_22 : itM 625 [1569553612, 654178797, 3862343199, 1717473844, 141936283, 2363548559, 2018722472, 3397912081] = [1965015889, 2320629160, 4007832554, 3991684233, 1295030224, 2131979557, 1814944490, 3770481227] := by decide +kernel
theorem itM_23 : itM 625 [1965015889, 2320629160, 4007832554, 3991684233, 1295030224, 2131979557, 1814944490, 3770481227] = [3286924927, 1855780753, 2608627564, 176370035, 705989294, 1480277143, 2994088020, 951416902] := by decide +kernel
theorem itM_24 : itM 625 [3286924927, 1855780753, 2608627564, 176370035, 705989294, 1480277143, 2994088020, 951416902] = [2061136107, 1745259042, 791610055, 2140370626, 1884297759, 3529239238, 671294972, 693152569] := by decide +kernel
theorem upM_0 : itM 625 [1779033703, 3144134277, 1013904242, 2773480762, 1359893119, 2600822924, 528734635, 1541459225] = [2980184124, 4055252723, 380558326, 3848951136, 619917395, 3724953604, 1241085446, 2795455954] := itM_0
theorem upM_1 : itM 1250 [1779033703, 3144134277, 1013904242, 2773480762, 1359893119, 2600822924, 528734635, 1541459225] = [3480499010, 1333227246, 884393318, 2192927904, 2339805852, 2416519719, 2298295811, 2434603153] := by rw [show 1250 = 625 + 625 from rfl, itM_add, upM_0, itM_1]
theorem upM_2 : itM 1875 [1779033703, 3144134277, 1013904242, 2773480762, 1359893119, 2600822924, 528734635, 1541459225] = [3817410241, 129848790, 4156440462, 740622841, 449295930, 2859383890, 2573751462, 4092511495] := by rw [show 1875 = 1250 + 625 from rfl, itM_add, upM_1, itM_2]
theorem upM_3 : itM 2500 [1779033703, 3144134277, 1013904242, 2773480762, 1359893119, 2600822924, 528734635, 1541459225] = [2480449054, 887052842, 3735950646, 2529967085, 2552717231, 2132796822, 2247734032, 1574115203] := by rw [show 2500 = 1875 + 625 from rfl, itM_add, upM_2, itM_3]
theorem upM_4 : itM 3125 [1779033703, 3144134277, 1013904242, 2773480762, 1359893119, 2600822924, 528734635, 1541459225] = [316970583, 4221150854, 311357983, 64105143, 1164177717, 1807858894, 2571004778, 2276785209] := by rw [show 3125 = 2500 + 625 from rfl, itM_add, upM_3, itM_4]
theorem upM_5 : itM 3750 [1779033703, 3144134277, 1013904242, 2773480762, 1359893119, 2600822924, 528734635, 1541459225] = [3451735173, 1992480860, 4114376705, 4207124144, 1301879602, 2314567675, 2863845554, 413343649] := by rw [show 3750 = 3125 + 625 from rfl, itM_add, upM_4, itM_5]
theorem upM_6 : itM 4375 [1779033703, 3144134277, 1013904242, 2773480762, 1359893119, 2600822924, 528734635, 1541459225] = [25303342, 1446205656, 22677385, 2976249951, 462609797, 3758847419, 1575596734, 4081208719] := by rw [show 4375 = 3750 + 625 from rfl, itM_add, upM_5, itM_6]
theorem upM_7 : itM 5000 [1779033703, 3144134277, 1013904242, 2773480762, 1359893119, 2600822924, 528734635, 1541459225] = [4101075154, 129573525, 758111687, 2809097055, 2946173745, 4125254953, 3590949913, 2694474649] := by rw [show 5000 = 4375 + 625 from rfl, itM_add, upM_6, itM_7]
theorem upM_8 : itM 5625 [1779033703, 3144134277, 1013904242, 2773480762, 1359893119, 2600822924, 528734635, 1541459225] = [249274935, 97276911, 2625192275, 852671802, 2930304310, 3421827650, 450703807, 2891257336] := by rw [show 5625 = 5000 + 625 from rfl, itM_add, upM_7, itM_8]
theorem upM_9 : itM 6250 [1779033703, 3144134277, 1013904242, 2773480762, 1359893119, 2600822924, 528734635, 1541459225] = [3950689631, 1183676483, 523787800, 1079288165, 3531020339, 1967142716, 4113132345, 1750149100] := by rw [show 6250 = 5625 + 625 from rfl, itM_add, upM_8, itM_9]
theorem upM_10 : itM 6875 [1779033703, 3144134277, 1013904242, 2773480762, 1359893119, 2600822924, 528734635, 1541459225] = [92662511, 2039292810, 2812368728, 1398842276, 369889284, 3416214735, 196742846, 4050250501] := by rw [show 6875 = 6250 + 625 from rfl, itM_add, upM_9, itM_10]
theorem upM_11 : itM 7500 [1779033703, 3144134277, 1013904242, 2773480762, 1359893119, 2600822924, 528734635, 1541459225] = [3644021289, 3318186913, 3635780383, 3250820814, 1352957489, 568761720, 3897415568, 2084911344] := by rw [show 7500 = 6875 + 625 from rfl, itM_add, upM_10, itM_11]
theorem upM_12 : itM 8125 [1779033703, 3144134277, 1013904242, 2773480762, 1359893119, 2600822924, 528734635, 1541459225] = [2770629724, 3718244748, 1426248302, 1485112788, 2393428728, 2730147097, 2068496129, 955849718] := by rw [show 8125 = 7500 + 625 from rfl, itM_add, upM_11, itM_12]
theorem upM_13 : itM 8750 [1779033703, 3144134277, 1013904242, 2773480762, 1359893119, 2600822924, 528734635, 1541459225] = [1991337870, 2309255265, 3993853711, 1510319335, 975131125, 1966570908, 2691746226, 549922638] := by rw [show 8750 = 8125 + 625 from rfl, itM_add, upM_12, itM_13]
theorem upM_14 : itM 9375 [1779033703, 3144134277, 1013904242, 2773480762, 1359893119, 2600822924, 528734635, 1541459225] = [2229091582, 1247898798, 3129489793, 801003700, 3664384409, 2135943812, 1655664929, 4043692830] := by rw [show 9375 = 8750 + 625 from rfl, itM_add, upM_13, itM_14]
theorem upM_15 : itM 10000 [1779033703, 3144134277, 1013904242, 2773480762, 1359893119, 2600822924, 528734635, 1541459225] = [1482359619, 3053920332, 2218581276, 956914467, 3284847132, 1532092920, 4107310820, 2931061524] := by rw [show 10000 = 9375 + 625 from rfl, itM_add, upM_14, itM_15]
theorem upM_16 : itM 10625 [1779033703, 3144134277, 1013904242, 2773480762, 1359893119, 2600822924, 528734635, 1541459225] = [2671872303, 3494736969, 250824018, 496096432, 3522633456, 3909563648, 361649023, 839489138] := by rw [show 10625 = 10000 + 625 from rfl, itM_add, upM_15, itM_16]
theorem upM_17 : itM 11250 [1779033703, 3144134277, 1013904242, 2773480762, 1359893119, 2600822924, 528734635, 1541459225] = [185797383, 1717202109, 1189823254, 219299165, 1089675585, 3146653644, 666783934, 2760782249] := by rw [show 11250 = 10625 + 625 from rfl, itM_add, upM_16, itM_17]
theorem upM_18 : itM 11875 [1779033703, 3144134277, 1013904242, 2773480762, 1359893119, 2600822924, 528734635, 1541459225] = [3420580859, 3753318278, 2910203626, 3238094755, 2261397776, 2929822888, 3194009251, 2296366361] := by rw [show 11875 = 11250 + 625 from rfl, itM_add, upM_17, itM_18]
theorem upM_19 : itM 12500 [1779033703, 3144134277, 1013904242, 2773480762, 1359893119, 2600822924, 528734635, 1541459225] = [1527903575, 643982266, 137930256, 1901535836, 1469484063, 211280277, 2609170097, 3664365886] := by rw [show 12500 = 11875 + 625 from rfl, itM_add, upM_18, itM_19]
theorem upM_20 : itM 13125 [1779033703, 3144134277, 1013904242, 2773480762, 1359893119, 2600822924, 528734635, 1541459225] = [1782389935, 2251650807, 681093295, 2649148146, 1901012235, 2437441946, 16189232, 3449983928] := by rw [show 13125 = 12500 + 625 from rfl, itM_add, upM_19, itM_20]
theorem upM_21 : itM 13750 [1779033703, 3144134277, 1013904242, 2773480762, 1359893119, 2600822924, 528734635, 1541459225] = [1569553612, 654178797, 3862343199, 1717473844, 141936283, 2363548559, 2018722472, 3397912081] := by rw [show 13750 = 13125 + 625 from rfl, itM_add, upM_20, itM_21]
theorem upM_22 : itM 14375 [1779033703, 3144134277, 1013904242, 2773480762, 1359893119, 2600822924, 528734635, 1541459225] = [1965015889, 2320629160, 4007832554, 3991684233, 1295030224, 2131979557, 1814944490, 3770481227] := by rw [show 14375 = 13750 + 625 from rfl, itM_add, upM_21, itM_22]
theorem upM_23 : itM 15000 [1779033703, 3144134277, 1013904242, 2773480762, 1359893119, 2600822924, 528734635, 1541459225] = [3286924927, 1855780753, 2608627564, 176370035, 705989294, 1480277143, 2994088020, 951416902] := by rw [show 15000 = 14375 + 625 from rfl, itM_add, upM_22, itM_23]
theorem upM_24 : itM 15625 [1779033703, 3144134277, 1013904242, 2773480762, 1359893119, 2600822924, 528734635, 1541459225] = [2061136107, 1745259042, 791610055, 2140370626, 1884297759, 3529239238, 671294972, 693152569] := by rw [show 15625 = 15000 + 625 from rfl, itM_add, upM_23, itM_24]
theorem HN_lit : HN = [1779033703, 3144134277, 1013904242, 2773480762, 1359893119, 2600822924, 528734635, 1541459225] := by decide +kernel
def Dmil : List Nat := [205, 199, 110, 92, 153, 20, 251, 146, 129, 161, 199, 226, 132, 215, 62, 103, 241, 128, 154, 72, 164, 151, 32, 14, 4, 109, 57, 204, 199, 17, 44, 208]
theorem lastM : digN (compN 1 [2061136107, 1745259042, 791610055, 2140370626, 1884297759, 3529239238, 671294972, 693152569] (padN 1000000)) = Dmil := by decide +kernel
theorem sha_mil : shaN (List.replicate 1000000 97) = Dmil := by
  have e : List.replicate 1000000 97 = List.replicate (64 * 15625) 97 := congrArg (fun n => List.replicate n 97) (show (1000000 : Nat) = 64 * 15625 by decide)
  unfold shaN
  rw [List.length_replicate, show (1000000 + zc 1000000 + 9) / 64 = 15625 + 1 by decide, e, compN_it 1 _ 15625 HN ⟨by rw [HN_lit]; rfl, by rw [HN_lit]; unfold Bd; decide⟩, HN_lit, upM_24]
  exact lastM

end Go.Proofs.YtcfoplnickdekaaDoor
