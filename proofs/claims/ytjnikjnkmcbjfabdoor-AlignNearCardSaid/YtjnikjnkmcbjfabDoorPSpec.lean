/- The plain law: the bits of masks; a class's text, and what is read of a text; letters' signs, the nearest letter, letters of a class, the least class. No program in sight. -/
import Derived.Test.YtjnikjnkmcbjfabDoorGNear
import Derived.Test.YtjnikjnkmcbjfabDoorGOf
import Derived.IntWalk
namespace Go.Proofs.YtjnikjnkmcbjfabDoor.X
open Go.RowKit Go.Proofs.YtjnikjnkmcbjfabDoorW.PrintWords Go.Proofs.YtjnikjnkmcbjfabDoorW.PrintLast Go.Proofs.YtjnikjnkmcbjfabDoorW.PrintMore
/-! ### bits -/
theorem ofInt32 (n : Nat) (h : n < 4294967296) : (BitVec.ofInt 32 (n : Int)).toNat = n := by
  rw [BitVec.ofInt_natCast, BitVec.toNat_ofNat]
  exact Nat.mod_eq_of_lt (by omega)
theorem wrap_u32_nat (n : Nat) (h : n < 4294967296) : IntKind.u32.wrap (n : Int) = (n : Int) := by rw [IntKind.wrap_u32]; omega
theorem and_nat (a b : Nat) (ha : a < 4294967296) (hb : b < 4294967296) : Go.bits .and .u32 (a : Int) (b : Int) = ((a &&& b : Nat) : Int) := by
  have h2 : a &&& b < 4294967296 := Nat.lt_of_le_of_lt Nat.and_le_left ha
  show IntKind.u32.wrap ((BitVec.ofInt 32 (a : Int) &&& BitVec.ofInt 32 (b : Int)).toNat : Int) = _
  rw [BitVec.toNat_and, ofInt32 a ha, ofInt32 b hb, wrap_u32_nat _ h2]
theorem or_nat (a b : Nat) (ha : a < 4294967296) (hb : b < 4294967296) : Go.bits .or .u32 (a : Int) (b : Int) = ((a ||| b : Nat) : Int) := by
  have h2 : a ||| b < 2 ^ 32 := Nat.or_lt_two_pow (by omega) (by omega)
  show IntKind.u32.wrap ((BitVec.ofInt 32 (a : Int) ||| BitVec.ofInt 32 (b : Int)).toNat : Int) = _
  rw [BitVec.toNat_or, ofInt32 a ha, ofInt32 b hb, wrap_u32_nat _ (by omega)]
theorem xor_nat (a b : Nat) (ha : a < 4294967296) (hb : b < 4294967296) : Go.bits .xor .u32 (a : Int) (b : Int) = ((a ^^^ b : Nat) : Int) := by
  have h2 : a ^^^ b < 2 ^ 32 := Nat.xor_lt_two_pow (by omega) (by omega)
  show IntKind.u32.wrap ((BitVec.ofInt 32 (a : Int) ^^^ BitVec.ofInt 32 (b : Int)).toNat : Int) = _
  rw [BitVec.toNat_xor, ofInt32 a ha, ofInt32 b hb, wrap_u32_nat _ (by omega)]
theorem andNot_nat (a b : Nat) (ha : a < 4294967296) (hb : b < 4294967296) : ∃ c : Nat, Go.bits .andNot .u32 (a : Int) (b : Int) = (c : Int) ∧ c < 4294967296 ∧ ∀ i, c.testBit i = (a.testBit i && !b.testBit i) := by
  refine ⟨(BitVec.ofInt 32 (a : Int) &&& ~~~BitVec.ofInt 32 (b : Int)).toNat, ?_, (BitVec.ofInt 32 (a : Int) &&& ~~~BitVec.ofInt 32 (b : Int)).isLt, fun i => ?_⟩
  · show IntKind.u32.wrap ((BitVec.ofInt 32 (a : Int) &&& ~~~BitVec.ofInt 32 (b : Int)).toNat : Int) = _
    exact wrap_u32_nat _ (BitVec.isLt _)
  · rw [BitVec.testBit_toNat, BitVec.getLsbD_and, BitVec.getLsbD_not, ← BitVec.testBit_toNat, ← BitVec.testBit_toNat, ofInt32 a ha, ofInt32 b hb]
    rcases Nat.lt_or_ge i 32 with h | h
    · simp [h]
    · have : a.testBit i = false := Nat.testBit_lt_two_pow (Nat.lt_of_lt_of_le (by omega : a < 2 ^ 32) (Nat.pow_le_pow_right (by omega) h))
      simp [this]
/-- How many of a number's 32 bits are set. -/
theorem pop8_bits : ∀ n : Fin 256, Lib.pop8 (n.val : Int) = (((List.range 8).countP (fun i => n.val.testBit i) : Nat) : Int) := by decide +kernel
theorem pop8_nat (n : Nat) (h : n < 256) : Lib.pop8 (n : Int) = (((List.range 8).countP (fun i => n.testBit i) : Nat) : Int) := pop8_bits ⟨n, h⟩
theorem byte_bits (a k : Nat) : (List.range 8).countP (fun i => (a / 2 ^ k % 256).testBit i) = (List.range 8).countP (fun i => a.testBit (k + i)) := by
  refine List.countP_congr fun i hi => ?_
  have hi8 : i < 8 := List.mem_range.1 hi
  rw [show (256 : Nat) = 2 ^ 8 from rfl, Nat.testBit_mod_two_pow, Nat.testBit_div_two_pow, decide_eq_true hi8, Bool.true_and, Nat.add_comm]
theorem range_split (p : Nat → Bool) : (List.range 32).countP p = (List.range 8).countP (fun i => p (24 + i)) + (List.range 8).countP (fun i => p (16 + i)) + (List.range 8).countP (fun i => p (8 + i)) + (List.range 8).countP (fun i => p (0 + i)) := by
  have e : List.range 32 = (List.range 8).map (0 + ·) ++ (List.range 8).map (8 + ·) ++ (List.range 8).map (16 + ·) ++ (List.range 8).map (24 + ·) := by decide
  rw [e]
  simp only [List.countP_append, List.countP_map]
  simp only [Function.comp_def]
  omega
theorem ones_nat (a : Nat) (h : a < 4294967296) : bits_OnesCount32.f (a : Int) = some (((List.range 32).countP (fun i => a.testBit i) : Nat) : Int) := by
  have b0 := byte_bits a 0
  have b1 := byte_bits a 8
  have b2 := byte_bits a 16
  have b3 := byte_bits a 24
  have e3 : a / 2 ^ 24 % 256 = a / 16777216 := by omega
  have e0 : a / 2 ^ 0 % 256 = a % 256 := by omega
  have c0 := pop8_nat (a % 256) (by omega)
  have c1 := pop8_nat (a / 256 % 256) (by omega)
  have c2 := pop8_nat (a / 65536 % 256) (by omega)
  have c3 := pop8_nat (a / 16777216) (by omega)
  rw [e3] at b3
  rw [e0] at b0
  have g : (if 0 ≤ (a : Int) ∧ (a : Int) < 4294967296 then some (Lib.pop8 ((a : Int) / 16777216) + Lib.pop8 ((a : Int) / 65536 % 256) + Lib.pop8 ((a : Int) / 256 % 256) + Lib.pop8 ((a : Int) % 256)) else none) = some (((List.range 32).countP (fun i => a.testBit i) : Nat) : Int) := by
    rw [if_pos (by omega), range_split]
    rw [show (a : Int) / 16777216 = ((a / 16777216 : Nat) : Int) from by omega, show (a : Int) / 65536 % 256 = ((a / 65536 % 256 : Nat) : Int) from by omega, show (a : Int) / 256 % 256 = ((a / 256 % 256 : Nat) : Int) from by omega, show (a : Int) % 256 = ((a % 256 : Nat) : Int) from by omega]
    rw [c0, c1, c2, c3, b3, show (65536 : Nat) = 2 ^ 16 from rfl, b2, show a / 256 % 256 = a / 2 ^ 8 % 256 from rfl, b1, b0]
    simp only [Int.natCast_add]
  exact g
/-- In how many of the first k features two letters' signs are unlike. -/
def cnt (k p m q n : Nat) : Nat := (List.range k).countP (fun i => (p.testBit i != q.testBit i) || (m.testBit i != n.testBit i))
theorem unl_nat (p m q n : Nat) (hp : p < 4294967296) (hm : m < 4294967296) (hq : q < 4294967296) (hn : n < 4294967296) : unl (p : Int) (m : Int) (q : Int) (n : Int) = (cnt 32 p m q n : Int) := by
  have h1 : p ^^^ q < 2 ^ 32 := Nat.xor_lt_two_pow (by omega) (by omega)
  have h2 : m ^^^ n < 2 ^ 32 := Nat.xor_lt_two_pow (by omega) (by omega)
  have h3 : (p ^^^ q) ||| (m ^^^ n) < 2 ^ 32 := Nat.or_lt_two_pow h1 h2
  unfold unl
  rw [xor_nat p q hp hq, xor_nat m n hm hn, or_nat _ _ (by omega) (by omega), ones_nat _ (by omega), Option.getD_some]
  refine congrArg (fun n : Nat => (n : Int)) (List.countP_congr fun i _ => ?_)
  rw [Nat.testBit_or, Nat.testBit_xor, Nat.testBit_xor]
theorem bit_high {p k i : Nat} (hp : p < 2 ^ k) (hi : k ≤ i) : p.testBit i = false := Nat.testBit_lt_two_pow (Nat.lt_of_lt_of_le hp (Nat.pow_le_pow_right (by omega) hi))
theorem cnt_cut (a k p m q n : Nat) (hak : a ≤ k) (hp : p < 2 ^ a) (hm : m < 2 ^ a) (hq : q < 2 ^ a) (hn : n < 2 ^ a) : cnt k p m q n = cnt a p m q n := by
  obtain ⟨d, rfl⟩ := Nat.exists_eq_add_of_le hak
  unfold cnt
  rw [List.range_add, List.countP_append]
  have : ((List.range d).map (a + ·)).countP (fun i => (p.testBit i != q.testBit i) || (m.testBit i != n.testBit i)) = 0 := by
    rw [List.countP_eq_zero]
    intro x hx
    obtain ⟨j, _, rfl⟩ := List.mem_map.1 hx
    rw [bit_high hp (Nat.le_add_right a j), bit_high hm (Nat.le_add_right a j), bit_high hq (Nat.le_add_right a j), bit_high hn (Nat.le_add_right a j)]
    decide
  omega
theorem cnt_le (k p m q n : Nat) : cnt k p m q n ≤ k := by
  unfold cnt
  have := List.countP_le_length (p := fun i => (p.testBit i != q.testBit i) || (m.testBit i != n.testBit i)) (l := List.range k)
  rw [List.length_range] at this
  exact this
theorem cnt_comm (k p m q n : Nat) : cnt k p m q n = cnt k q n p m := by
  unfold cnt
  refine List.countP_congr fun i _ => ?_
  cases p.testBit i <;> cases q.testBit i <;> cases m.testBit i <;> cases n.testBit i <;> decide
theorem cnt_tri (p m q n x y : Nat) : ∀ k, cnt k p m q n ≤ cnt k p m x y + cnt k x y q n := by
  intro k
  unfold cnt
  induction k with
  | zero => simp
  | succ k ih =>
    simp only [List.range_succ, List.countP_append, List.countP_singleton]
    cases p.testBit k <;> cases q.testBit k <;> cases m.testBit k <;> cases n.testBit k <;> cases x.testBit k <;> cases y.testBit k <;> simp <;> omega
theorem cnt_zero (k p m q n : Nat) (hp : p < 2 ^ k) (hm : m < 2 ^ k) (hq : q < 2 ^ k) (hn : n < 2 ^ k) : cnt k p m q n = 0 ↔ p = q ∧ m = n := by
  unfold cnt
  rw [List.countP_eq_zero]
  constructor
  · intro h
    have hh : ∀ i, p.testBit i = q.testBit i ∧ m.testBit i = n.testBit i := fun i => by
      rcases Nat.lt_or_ge i k with hi | hi
      · have := h i (List.mem_range.2 hi)
        revert this
        cases p.testBit i <;> cases q.testBit i <;> cases m.testBit i <;> cases n.testBit i <;> decide
      · rw [bit_high hp hi, bit_high hm hi, bit_high hq hi, bit_high hn hi]
        exact ⟨rfl, rfl⟩
    exact ⟨Nat.eq_of_testBit_eq fun i => (hh i).1, Nat.eq_of_testBit_eq fun i => (hh i).2⟩
  · rintro ⟨rfl, rfl⟩ i _
    simp
/-! ### texts -/
theorem shr_nat (p i : Nat) (hi : i ≤ 32) : shr .u32 (p : Int) (i : Int) = ((p / 2 ^ i : Nat) : Int) := by
  unfold shr
  have : min (i : Int).toNat IntKind.u32.bits = i := by simp [IntKind.bits]; omega
  rw [this]
  norm_cast
theorem shl_nat (i : Nat) (hi : i < 32) : shl .u32 1 (i : Int) = ((2 ^ i : Nat) : Int) := by
  unfold shl
  have h1 : min (i : Int).toNat IntKind.u32.bits = i := by simp [IntKind.bits]; omega
  have h2 : 2 ^ i < 2 ^ 32 := Nat.pow_lt_pow_right (by omega) hi
  rw [h1, Int.one_mul, show ((2 : Int) ^ i) = ((2 ^ i : Nat) : Int) from by norm_cast]
  exact wrap_u32_nat _ (by omega)
theorem bit_and (p i : Nat) (hp : p < 4294967296) (hi : i ≤ 32) : Go.bits .and .u32 (shr .u32 (p : Int) (i : Int)) 1 = if p.testBit i then 1 else 0 := by
  rw [shr_nat p i hi, show (1 : Int) = ((1 : Nat) : Int) from rfl, and_nat _ _ (Nat.lt_of_le_of_lt (Nat.div_le_self _ _) hp) (by omega), Nat.and_one_is_mod, Nat.testBit_eq_decide_div_mod_eq]
  rcases Nat.mod_two_eq_zero_or_one (p / 2 ^ i) with h | h <;> simp [h]
theorem bit_nat (p i : Nat) (hp : p < 4294967296) (hi : i ≤ 32) : bitB (p : Int) (i : Int) = p.testBit i := by
  unfold bitB
  rw [bit_and p i hp hi]
  cases p.testBit i <;> rfl
theorem within_nat (F : List ByteArray) (p m : Nat) (hF : F.length ≤ 24) (hp : p < 4294967296) (hm : m < 4294967296) : withinB F (p : Int) (m : Int) = true ↔ p < 2 ^ F.length ∧ m < 2 ^ F.length ∧ p &&& m = 0 := by
  unfold withinB
  have h2 : p ||| m < 2 ^ 32 := Nat.or_lt_two_pow (by omega) (by omega)
  rw [or_nat p m hp hm, shr_nat _ _ (by omega), and_nat p m hp hm, Bool.and_eq_true, beq_iff_eq, beq_iff_eq]
  have h3 : 0 < 2 ^ F.length := Nat.pow_pos (by omega)
  constructor
  · rintro ⟨h4, h5⟩
    have h6 : (p ||| m) / 2 ^ F.length = 0 := by omega
    have h7 : p ||| m < 2 ^ F.length := by
      rcases Nat.div_eq_zero_iff.1 h6 with h8 | h8
      · omega
      · exact h8
    exact ⟨Nat.lt_of_le_of_lt Nat.left_le_or h7, Nat.lt_of_le_of_lt Nat.right_le_or h7, by omega⟩
  · rintro ⟨h4, h5, h6⟩
    have h7 : p ||| m < 2 ^ F.length := Nat.or_lt_two_pow h4 h5
    rw [Nat.div_eq_of_lt h7, h6]
    exact ⟨rfl, rfl⟩
/-- What is written of d features from one on. -/
def tailL (F : List ByteArray) (p m : Int) : Nat → Nat → List UInt8
  | 0, _ => []
  | d + 1, n => signL F p m n ++ tailL F p m d (n + 1)
theorem text_tail (F : List ByteArray) (p m : Int) : ∀ d n, textL F p m n ++ tailL F p m d n = textL F p m (n + d)
  | 0, n => by simp [tailL]
  | d + 1, n => by
    have h := text_tail F p m d (n + 1)
    simp only [textL] at h
    rw [tailL, ← List.append_assoc, h, show n + 1 + d = n + (d + 1) from by omega]
theorem tail_head (F : List ByteArray) (p m : Int) : ∀ d n, tailL F p m d n = [] ∨ ∃ c t, tailL F p m d n = c :: t ∧ abcB c = false
  | 0, _ => Or.inl rfl
  | d + 1, n => by
    unfold tailL signL
    split
    · exact Or.inr ⟨_, _, rfl, by decide⟩
    · split
      · exact Or.inr ⟨_, _, rfl, by decide⟩
      · exact tail_head F p m d (n + 1)
theorem take_abc (f r : List UInt8) (hf : ∀ b ∈ f, abcB b = true) (hr : r = [] ∨ ∃ c t, r = c :: t ∧ abcB c = false) : (f ++ r).takeWhile abcB = f := by
  induction f with
  | nil =>
    rcases hr with rfl | ⟨c, t, rfl, hc⟩
    · rfl
    · simp [hc]
  | cons b f ih =>
    rw [List.cons_append, List.takeWhile_cons, if_pos (hf b (by simp)), ih (fun x hx => hf x (by simp [hx]))]
/-- The names of an alphabet that may be. -/
def namesOk (F : List ByteArray) : Prop := F.length ≤ 24 ∧ (∀ j, j < F.length → ∀ b ∈ (rdOf ByteArray.empty F j).data.toList, abcB b = true) ∧ ∀ i j, i < j → j < F.length → (rdOf ByteArray.empty F i).data.toList ≠ (rdOf ByteArray.empty F j).data.toList
theorem idxS_self {F : List ByteArray} (h : namesOk F) (n : Nat) (hn : n < F.length) : idxS F (rdOf ByteArray.empty F n).data.toList = n := by
  rcases idxS_cases F (rdOf ByteArray.empty F n).data.toList with ⟨_, h1⟩ | ⟨i, hi, he, h1, h2⟩
  · exact absurd rfl (h1 n hn)
  · rw [he]
    rcases Nat.lt_trichotomy i n with h3 | h3 | h3
    · exact absurd h1 (h.2.2 i n h3 hn)
    · rw [h3]
    · exact absurd rfl (h2 n h3)
theorem mod_bit_yes (p n : Nat) (h : p.testBit n = true) : p % 2 ^ n ||| 2 ^ n = p % 2 ^ (n + 1) := by
  refine Nat.eq_of_testBit_eq fun i => ?_
  rw [Nat.testBit_or, Nat.testBit_mod_two_pow, Nat.testBit_mod_two_pow, Nat.testBit_two_pow]
  rcases Nat.lt_trichotomy i n with h1 | h1 | h1
  · simp [h1, show i < n + 1 by omega, show ¬ n = i by omega]
  · subst h1
    simp [h]
  · simp [show ¬ i < n by omega, show ¬ i < n + 1 by omega, show ¬ n = i by omega]
theorem mod_bit_no (p n : Nat) (h : p.testBit n = false) : p % 2 ^ n = p % 2 ^ (n + 1) := by
  refine Nat.eq_of_testBit_eq fun i => ?_
  rw [Nat.testBit_mod_two_pow, Nat.testBit_mod_two_pow]
  rcases Nat.lt_trichotomy i n with h1 | h1 | h1
  · simp [h1, show i < n + 1 by omega]
  · subst h1
    simp [h]
  · simp [show ¬ i < n by omega, show ¬ i < n + 1 by omega]
theorem and_bit {p m : Nat} (h : p &&& m = 0) (i : Nat) : ¬ (p.testBit i = true ∧ m.testBit i = true) := by
  rintro ⟨h1, h2⟩
  have := congrArg (fun x => Nat.testBit x i) h
  simp [Nat.testBit_and, h1, h2] at this
theorem parse_tail (F : List ByteArray) (hN : namesOk F) (p m : Nat) (hp : p < 2 ^ F.length) (hm : m < 2 ^ F.length) (hd : p &&& m = 0) : ∀ (d n k : Nat), n + d = F.length → (tailL F p m d n).length < k → ∀ at_ : Int,
    parseL F k (tailL F p m d n) at_ ((p % 2 ^ n : Nat) : Int) ((m % 2 ^ n : Nat) : Int) = ((p : Int), (m : Int), 0, 0) := by
  have h24 : 2 ^ F.length ≤ 2 ^ 24 := Nat.pow_le_pow_right (by omega) hN.1
  have hN1 := hN.1
  intro d
  induction d with
  | zero =>
    intro n k hn hk at_
    obtain rfl : n = F.length := by omega
    obtain ⟨k, rfl⟩ : ∃ q, k = q + 1 := ⟨k - 1, by omega⟩
    rw [Nat.mod_eq_of_lt hp, Nat.mod_eq_of_lt hm]
    rfl
  | succ d ih =>
    intro n k hn hk at_
    have b1 := bit_nat p n (by omega) (by omega)
    have b2 := bit_nat m n (by omega) (by omega)
    have q1 : p % 2 ^ n < 2 ^ 24 := Nat.lt_of_le_of_lt (Nat.mod_le _ _) (by omega)
    have q2 : m % 2 ^ n < 2 ^ 24 := Nat.lt_of_le_of_lt (Nat.mod_le _ _) (by omega)
    have q3 : 2 ^ n < 2 ^ 32 := Nat.pow_lt_pow_right (by omega) (by omega)
    have hidx := idxS_self hN n (by omega)
    have htw := take_abc (rdOf ByteArray.empty F n).data.toList (tailL F p m d (n + 1)) (hN.2.1 n (by omega)) (tail_head F p m d (n + 1))
    have hbit : bitB (Go.bits .or .u32 ((p % 2 ^ n : Nat) : Int) ((m % 2 ^ n : Nat) : Int)) (n : Int) = false := by
      rw [or_nat _ _ (by omega) (by omega), bit_nat _ _ (by have : p % 2 ^ n ||| m % 2 ^ n < 2 ^ 24 := Nat.or_lt_two_pow q1 q2; omega) (by omega), Nat.testBit_or, Nat.testBit_mod_two_pow, Nat.testBit_mod_two_pow]
      simp
    rw [tailL] at hk ⊢
    unfold signL at hk ⊢
    rw [b1, b2] at hk ⊢
    cases hpn : p.testBit n with
    | true =>
      rw [hpn] at hk
      simp only [if_true, List.cons_append, List.length_cons] at hk ⊢
      obtain ⟨k, rfl⟩ : ∃ q, k = q + 1 := ⟨k - 1, by omega⟩
      rw [parseL, htw, hidx, hbit, if_pos ⟨Or.inl rfl, by omega, rfl⟩, if_pos rfl, List.drop_left, shl_nat n (by omega), or_nat _ _ (by omega) (by omega), mod_bit_yes p n hpn]
      have hmn : m.testBit n = false := by
        cases e : m.testBit n with
        | false => rfl
        | true => exact absurd ⟨hpn, e⟩ (and_bit hd n)
      rw [mod_bit_no m n hmn]
      exact ih (n + 1) k (by omega) (by rw [List.length_append] at hk; omega) _
    | false =>
      rw [hpn] at hk
      rw [mod_bit_no p n hpn]
      cases hmn : m.testBit n with
      | true =>
        rw [hmn] at hk
        simp only [Bool.false_eq_true, if_true, if_false, List.cons_append, List.length_cons] at hk ⊢
        obtain ⟨k, rfl⟩ : ∃ q, k = q + 1 := ⟨k - 1, by omega⟩
        rw [mod_bit_no p n hpn] at hbit
        rw [parseL, htw, hidx, hbit, if_pos ⟨Or.inr rfl, by omega, rfl⟩, if_neg (by decide), List.drop_left, shl_nat n (by omega), or_nat _ _ (by omega) (by omega), mod_bit_yes m n hmn]
        exact ih (n + 1) k (by omega) (by rw [List.length_append] at hk; omega) _
      | false =>
        rw [hmn] at hk
        simp only [Bool.false_eq_true, if_false, List.nil_append] at hk ⊢
        rw [mod_bit_no m n hmn]
        exact ih (n + 1) k (by omega) hk _
/-- What is read: a class that may be, or a place in the text. -/
theorem parse_good (F : List ByteArray) (hF : F.length ≤ 24) : ∀ (k : Nat) (l : List UInt8) (at_ : Int) (p m : Nat), p < 2 ^ F.length → m < 2 ^ F.length → p &&& m = 0 →
    (∃ p' m' : Nat, p' < 2 ^ F.length ∧ m' < 2 ^ F.length ∧ p' &&& m' = 0 ∧ parseL F k l at_ (p : Int) (m : Int) = ((p' : Int), (m' : Int), 0, 0)) ∨ ∃ a : Int, at_ ≤ a ∧ a ≤ at_ + l.length ∧ parseL F k l at_ (p : Int) (m : Int) = (0, 0, a, 20) := by
  have h24 : 2 ^ F.length ≤ 2 ^ 24 := Nat.pow_le_pow_right (by omega) hF
  intro k
  induction k with
  | zero => exact fun l at_ p m _ _ _ => Or.inr ⟨at_, by omega, by omega, rfl⟩
  | succ k ih =>
    intro l at_ p m hp hm hd
    cases l with
    | nil => exact Or.inl ⟨p, m, hp, hm, hd, rfl⟩
    | cons c t =>
      rw [parseL]
      split
      · rename_i h
        obtain ⟨_, h0, hb⟩ := h
        rcases idxS_cases F (t.takeWhile abcB) with ⟨he, _⟩ | ⟨i, hi, he, _, _⟩
        · omega
        · rw [he] at hb ⊢
          have q3 : 2 ^ i < 2 ^ F.length := Nat.pow_lt_pow_right (by omega) hi
          have hor : p ||| m < 2 ^ F.length := Nat.or_lt_two_pow hp hm
          rw [or_nat p m (by omega) (by omega), bit_nat _ _ (by omega) (by omega), Nat.testBit_or, Bool.or_eq_false_iff] at hb
          have hle : (t.takeWhile abcB).length ≤ t.length := (List.takeWhile_sublist _).length_le
          have hz : ∀ (a b : Nat), a &&& b = 0 → b.testBit i = false → (a ||| 2 ^ i) &&& b = 0 := fun a b h1 h2 => by
            refine Nat.eq_of_testBit_eq fun j => ?_
            have h3 := and_bit h1 j
            rw [Nat.testBit_and, Nat.testBit_or, Nat.testBit_two_pow, Nat.zero_testBit]
            by_cases hij : i = j
            · subst hij
              simp [h2]
            · simp only [hij, decide_false, Bool.or_false]
              cases ha : a.testBit j <;> cases hb : b.testBit j <;> simp_all
          have hlen : (List.drop (t.takeWhile abcB).length t).length = t.length - (t.takeWhile abcB).length := List.length_drop
          split
          · rw [shl_nat i (by omega), or_nat _ _ (by omega) (by omega)]
            have hor2 : p ||| 2 ^ i < 2 ^ F.length := Nat.or_lt_two_pow hp q3
            rcases ih (List.drop (t.takeWhile abcB).length t) (at_ + 1 + (t.takeWhile abcB).length) (p ||| 2 ^ i) m hor2 hm (hz p m hd hb.2) with h1 | ⟨a, h1, h2, h3⟩
            · exact Or.inl h1
            · exact Or.inr ⟨a, by omega, by rw [List.length_cons]; omega, h3⟩
          · rw [shl_nat i (by omega), or_nat _ _ (by omega) (by omega)]
            have hor2 : m ||| 2 ^ i < 2 ^ F.length := Nat.or_lt_two_pow hm q3
            have hd2 : p &&& (m ||| 2 ^ i) = 0 := by
              rw [Nat.and_comm]
              exact hz m p (by rw [Nat.and_comm]; exact hd) hb.1
            rcases ih (List.drop (t.takeWhile abcB).length t) (at_ + 1 + (t.takeWhile abcB).length) p (m ||| 2 ^ i) hp hor2 hd2 with h1 | ⟨a, h1, h2, h3⟩
            · exact Or.inl h1
            · exact Or.inr ⟨a, by omega, by rw [List.length_cons]; omega, h3⟩
      · exact Or.inr ⟨at_, by omega, by rw [List.length_cons]; omega, rfl⟩
/-! ### the nearest -/
/-- A number of 32 bits. -/
def U32 (x : Int) : Prop := 0 ≤ x ∧ x < 4294967296
theorem u32_nat {x : Int} (h : U32 x) : ∃ n : Nat, x = (n : Int) ∧ n < 4294967296 := ⟨x.toNat, by have := h.1; omega, by have := h.1; have := h.2; omega⟩
theorem u32_of_wf {x : Int} (h : (Lit.int .u32 x).wf = true) : U32 x := by
  simp [Lit.wf, IntKind.min, IntKind.max, IntKind.signed, IntKind.bits] at h
  unfold U32
  omega
/-- All letters' signs are numbers of 32 bits. -/
def WfL (L : List S91) : Prop := ∀ y ∈ L, (Lit.int .i32 y.f0).wf = true ∧ (Lit.int .u32 y.f1).wf = true ∧ (Lit.int .u32 y.f2).wf = true
theorem rd_mem (L : List S91) (j : Nat) (hj : j < L.length) : rd_T91 L (j : Int) ∈ L := by
  have : rd_T91 L (j : Int) = L[j] := by simp [rd_T91, hj]
  rw [this]
  exact List.getElem_mem hj
theorem letter_signs {F : List ByteArray} {L : List S91} (h : checkB F L = true) (hw : WfL L) (j : Nat) (hj : j < L.length) : ∃ p m : Nat, (rd_T91 L (j : Int)).f1 = (p : Int) ∧ (rd_T91 L (j : Int)).f2 = (m : Int) ∧ p < 2 ^ F.length ∧ m < 2 ^ F.length ∧ p &&& m = 0 := by
  obtain ⟨_, h1, h2⟩ := hw _ (rd_mem L j hj)
  obtain ⟨p, ep, hp⟩ := u32_nat (u32_of_wf h1)
  obtain ⟨m, em, hm⟩ := u32_nat (u32_of_wf h2)
  have hF := (check_feats h).1
  have hwi : withinB F (rd_T91 L (j : Int)).f1 (rd_T91 L (j : Int)).f2 = true := by
    simp only [checkB, Bool.and_eq_true] at h
    have h3 := h.2
    simp only [lettersB, List.all_eq_true, List.mem_range] at h3
    have h4 := h3 j hj
    simp only [Bool.and_eq_true] at h4
    exact h4.2
  rw [ep, em, within_nat F p m hF hp hm] at hwi
  exact ⟨p, m, ep, em, hwi⟩
theorem runes_apart {F : List ByteArray} {L : List S91} (h : checkB F L = true) (i j : Nat) (hij : i < j) (hj : j < L.length) : (rd_T91 L (i : Int)).f0 ≠ (rd_T91 L (j : Int)).f0 := by
  simp only [checkB, Bool.and_eq_true] at h
  have h3 := h.2
  simp only [lettersB, List.all_eq_true, List.mem_range] at h3
  have h4 := h3 j hj
  simp only [Bool.and_eq_true, Bool.not_eq_true', decide_eq_false_iff_not] at h4
  intro e
  refine h4.1.2 (List.mem_map.2 ⟨rd_T91 L (i : Int), ?_, e⟩)
  have : rd_T91 L (i : Int) = L[i]'(by omega) := by simp [rd_T91, show i < L.length by omega]
  rw [this]
  exact List.mem_of_getElem? (i := i) (by rw [List.getElem?_take]; simp [hij, show i < L.length by omega])
theorem idxR_at {F : List ByteArray} {L : List S91} (h : checkB F L = true) (b : Nat) (hb : b < L.length) : idxR L (rd_T91 L (b : Int)).f0 = b :=
  idxR_some hb rfl fun j hj => runes_apart h j b hj hb
/-- The first of the least far. -/
theorem min_spec (L : List S91) (z1 z2 : Int) : ∀ n : Nat, ∃ b : Nat, b ≤ n ∧ minN L z1 z2 n = rd_T91 L (b : Int) ∧
    (∀ j : Nat, j ≤ n → unl (rd_T91 L (b : Int)).f1 (rd_T91 L (b : Int)).f2 z1 z2 ≤ unl (rd_T91 L (j : Int)).f1 (rd_T91 L (j : Int)).f2 z1 z2) ∧
    ∀ j : Nat, j < b → unl (rd_T91 L (b : Int)).f1 (rd_T91 L (b : Int)).f2 z1 z2 < unl (rd_T91 L (j : Int)).f1 (rd_T91 L (j : Int)).f2 z1 z2 := by
  intro n
  induction n with
  | zero =>
    refine ⟨0, Nat.le_refl _, rfl, fun j hj => ?_, fun j hj => absurd hj (Nat.not_lt_zero _)⟩
    obtain rfl : j = 0 := Nat.le_zero.1 hj
    exact Int.le_refl _
  | succ n ih =>
    obtain ⟨b, h1, h2, h3, h4⟩ := ih
    unfold minN
    rw [h2]
    split
    · rename_i hlt
      refine ⟨n + 1, Nat.le_refl _, rfl, fun j hj => ?_, fun j hj => ?_⟩
      · rcases Nat.lt_or_ge j (n + 1) with h | h
        · have := h3 j (by omega)
          omega
        · obtain rfl : j = n + 1 := by omega
          exact Int.le_refl _
      · have := h3 j (by omega)
        omega
    · rename_i hge
      refine ⟨b, by omega, rfl, fun j hj => ?_, h4⟩
      rcases Nat.lt_or_ge j (n + 1) with h | h
      · exact h3 j (by omega)
      · obtain rfl : j = n + 1 := by omega
        omega
/-- The signs that are wanted: a letter's, with a class's features turned. -/
theorem want_nat (a b c : Nat) (N : Nat) (hN : N ≤ 24) (ha : a < 2 ^ N) (hb : b < 4294967296) (hc : c < 2 ^ N) : ∃ d : Nat, Go.bits .or .u32 (Go.bits .andNot .u32 (a : Int) (b : Int)) (c : Int) = (d : Int) ∧ d < 2 ^ N ∧ ∀ i, d.testBit i = ((a.testBit i && !b.testBit i) || c.testBit i) := by
  have h24 : 2 ^ N ≤ 2 ^ 24 := Nat.pow_le_pow_right (by omega) hN
  obtain ⟨e, he, hlt, hb2⟩ := andNot_nat a b (by omega) hb
  have he2 : e < 2 ^ N := by
    refine Nat.lt_pow_two_of_testBit _ fun i hi => ?_
    rw [hb2, bit_high ha hi, Bool.false_and]
  refine ⟨e ||| c, ?_, Nat.or_lt_two_pow he2 hc, fun i => by rw [Nat.testBit_or, hb2]⟩
  rw [he, or_nat e c hlt (by omega)]
/-! ### classes -/
/-- Has a letter a class? -/
def likeB (x : S91) (p m : Int) : Bool := (Go.bits .andNot .u32 p x.f1 == 0) && (Go.bits .andNot .u32 m x.f2 == 0)
theorem sub_iff (a b : Nat) : a &&& b = a ↔ ∀ i, a.testBit i = true → b.testBit i = true := by
  constructor
  · intro h i hi
    have := congrArg (fun x => Nat.testBit x i) h
    simp only [Nat.testBit_and, hi, Bool.true_and] at this
    exact this
  · intro h
    refine Nat.eq_of_testBit_eq fun i => ?_
    rw [Nat.testBit_and]
    cases e : a.testBit i with
    | false => rfl
    | true => rw [h i e]; rfl
theorem andNot_zero (a b : Nat) (ha : a < 4294967296) (hb : b < 4294967296) : (Go.bits .andNot .u32 (a : Int) (b : Int) == 0) = decide (a &&& b = a) := by
  obtain ⟨c, hc, _, ht⟩ := andNot_nat a b ha hb
  rw [hc, Bool.eq_iff_iff, beq_iff_eq, decide_eq_true_iff, sub_iff]
  constructor
  · intro h i hi
    obtain rfl : c = 0 := by omega
    have := ht i
    rw [Nat.zero_testBit, hi, Bool.true_and] at this
    cases e : b.testBit i with
    | true => rfl
    | false => rw [e] at this; cases this
  · intro h
    have : c = 0 := Nat.eq_of_testBit_eq fun i => by
      rw [ht, Nat.zero_testBit]
      cases e : a.testBit i with
      | false => rfl
      | true => rw [h i e]; rfl
    omega
theorem like_nat (x : S91) (a b p m : Nat) (e1 : x.f1 = (a : Int)) (e2 : x.f2 = (b : Int)) (ha : a < 4294967296) (hb : b < 4294967296) (hp : p < 4294967296) (hm : m < 4294967296) : likeB x (p : Int) (m : Int) = (decide (p &&& a = p) && decide (m &&& b = m)) := by
  unfold likeB
  rw [e1, e2, andNot_zero p a hp ha, andNot_zero m b hm hb]
/-- What feature.Of tells. -/
def ofV (F : List ByteArray) (L : List S91) (r : Int) : Int × Int × Int × Int := (feature_Of.f F L r).getD (0, 0, 0, 0)
theorem of_eq (F : List ByteArray) (L : List S91) (r : Int) : feature_Of.f F L r = some (ofV F L r) := by
  unfold ofV feature_Of.f
  split
  · split <;> rfl
  · rfl
theorem of_cases (F : List ByteArray) (L : List S91) (r : Int) : (checkB F L = false ∧ ofV F L r = (0, 0, 0, 7)) ∨ (checkB F L = true ∧ (∀ j : Nat, j < L.length → (rd_T91 L (j : Int)).f0 ≠ r) ∧ ofV F L r = (0, 0, 0, 5)) ∨
    (checkB F L = true ∧ ∃ i : Nat, i < L.length ∧ (rd_T91 L (i : Int)).f0 = r ∧ ofV F L r = ((rd_T91 L (i : Int)).f0, (rd_T91 L (i : Int)).f1, (rd_T91 L (i : Int)).f2, 0)) := by
  unfold ofV feature_Of.f
  rcases hc : checkB F L with _ | _
  · exact Or.inl ⟨rfl, rfl⟩
  · rcases idxR_cases L r with ⟨he, hn⟩ | ⟨i, hi, he, hr, _⟩
    · exact Or.inr (Or.inl ⟨rfl, hn, by rw [he]; rfl⟩)
    · exact Or.inr (Or.inr ⟨rfl, i, hi, hr, by rw [he, if_pos rfl, if_neg (by omega)]; rfl⟩)
/-- What feature.Has tells. -/
def hasV (F : List ByteArray) (L : List S91) (r p m : Int) : Bool × Int :=
  if (ofV F L r).2.2.2 = 0 then (if withinB F p m = true then (likeB ⟨(ofV F L r).1, (ofV F L r).2.1, (ofV F L r).2.2.1⟩ p m, 0) else (false, 20)) else (false, (ofV F L r).2.2.2)
/-- What feature.Class tells. -/
def classV (F : List ByteArray) (L : List S91) (p m : Int) : List Int × Int :=
  if checkB F L = true then (if withinB F p m = true then ((L.filter (fun x => likeB x p m)).map (·.f0), 0) else ([], 20)) else ([], 7)
/-- What feature.Far tells. -/
def farV (F : List ByteArray) (L : List S91) (x y : Int) : Int × Int :=
  if (ofV F L x).2.2.2 = 0 then (if (ofV F L y).2.2.2 = 0 then (unl (ofV F L x).2.1 (ofV F L x).2.2.1 (ofV F L y).2.1 (ofV F L y).2.2.1, 0) else (0, (ofV F L y).2.2.2)) else (0, (ofV F L x).2.2.2)
/-- What feature.Near tells. -/
def nearV (F : List ByteArray) (L : List S91) (r p m : Int) : Int × Int :=
  if (ofV F L r).2.2.2 = 0 then (if withinB F p m = true then ((minN L (Go.bits .or .u32 (Go.bits .andNot .u32 (ofV F L r).2.1 m) p) (Go.bits .or .u32 (Go.bits .andNot .u32 (ofV F L r).2.2.1 p) m) (L.length - 1)).f0, 0) else (0, 20)) else (0, (ofV F L r).2.2.2)
/-- The least class of letters behind others, of which it is known. -/
def leastL (F : List ByteArray) (L : List S91) : List Int → Int → Int → Int × Int × Int
  | [], p, m => (p, m, 0)
  | r :: l, p, m => if (ofV F L r).2.2.2 = 0 then leastL F L l (Go.bits .and .u32 p (ofV F L r).2.1) (Go.bits .and .u32 m (ofV F L r).2.2.1) else (0, 0, (ofV F L r).2.2.2)
/-- What feature.Least tells. -/
def leastV (F : List ByteArray) (L : List S91) (l : List Int) : Int × Int × Int :=
  if checkB F L = true then (if 128 < l.length then (0, 0, 4) else if l.length = 0 then (0, 0, 8) else leastL F L l 16777215 16777215) else (0, 0, 7)
/-- What feature.Bit tells. -/
def featBitV (F : List ByteArray) (L : List S91) (s : ByteArray) : Int × Int :=
  if checkB F L = true then (if idxS F s.data.toList < 0 then (0, 8) else (shl .u32 1 (idxS F s.data.toList), 0)) else (0, 7)
end Go.Proofs.YtjnikjnkmcbjfabDoor.X
