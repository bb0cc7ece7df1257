/- The plain law: the document's answer for an alphabet (package cognateref02) computes what the program's does. No program in sight. -/
import Derived.Test.YtjnikjnkmcbjfaaDoorGCheck
import Derived.Test.YtjnikjnkmcbjfaaDoorPEv
import Derived.Test.YtjnikjnkmcbjfaaDoorX6
import Derived.IntWalk
namespace Go.Proofs.YtjnikjnkmcbjfaaDoor.X
open Go.RowKit Go.Proofs.YtjnikjnkmcbjfaaDoorW.PrintWords Go.Proofs.YtjnikjnkmcbjfaaDoorW.PrintLast Go.Proofs.YtjnikjnkmcbjfaaDoorW.PrintMore
/-! ### a name, a letter, a class -/
theorem bt_nat (s : ByteArray) (i : Nat) (h : i < s.size) : bt s (i : Int) = ((s[i]'h).toNat : Int) := by simp [bt, h]
theorem name_l0 (s : ByteArray) (hs : s.size ≤ 1000000) : ∀ (d i : Nat), s.size - i = d → i ≤ s.size → Ev (fun k => cognateref02_name.l0 k s (i : Int)) ((s.data.toList.drop i).all fun b => decide (97 ≤ b.toNat ∧ b.toNat ≤ 122)) := by
  intro d
  induction d with
  | zero =>
    intro i hd hi
    refine Ev.step (fun k => by rw [cognateref02_name.l0]) (Ev.ifn (by omega) (Ev.ret ?_))
    rw [List.drop_eq_nil_of_le (by simp only [Array.length_toList]; show s.size ≤ i; omega)]
    rfl
  | succ d ih =>
    intro i hd hi
    have hi2 : i < s.data.toList.length := by rw [Array.length_toList]; show i < s.size; omega
    have he : s.data.toList.drop i = s[i]'(by omega) :: s.data.toList.drop (i + 1) := by
      rw [List.drop_eq_getElem_cons hi2]
      rfl
    rw [he, List.all_cons]
    refine Ev.step (fun k => by rw [cognateref02_name.l0]) (Ev.ifp (by omega) (Ev.ifp (by omega) ?_))
    rw [bt_nat s i (by omega)]
    by_cases h1 : ((s[i]'(by omega)).toNat : Int) < 97
    · exact Ev.ifp h1 (Ev.ret (by simp; omega))
    · by_cases h2 : ((s[i]'(by omega)).toNat : Int) > 122
      · exact Ev.ifn h1 (Ev.ifp h2 (Ev.ret (by simp; omega)))
      · refine Ev.ifn h1 (Ev.ifn h2 ?_)
        rw [w64s (by omega)]
        have : decide (97 ≤ (s[i]'(by omega)).toNat ∧ (s[i]'(by omega)).toNat ≤ 122) = true := by simp; omega
        rw [this, Bool.true_and]
        exact ih (i + 1) (by omega) (by omega)
theorem all_dropWhile {α : Type} (p : α → Bool) (l : List α) : l.dropWhile p = [] ↔ ∀ x ∈ l, p x = true := by
  induction l with
  | nil => simp
  | cons a l ih =>
    rw [List.dropWhile_cons]
    cases h : p a with
    | true => simp [h, ih]
    | false => simp [h]
theorem trimS_nil (l cs : List UInt8) : Lib.trimS l cs = [] ↔ ∀ b ∈ l, cs.contains b = true := by
  unfold Lib.trimS Lib.trimLeftS Lib.trimRightS
  constructor
  · intro h
    rw [all_dropWhile] at h
    rcases e : (l.reverse.dropWhile (cs.contains ·)) with _ | ⟨x, t⟩
    · rw [all_dropWhile] at e
      exact fun b hb => e b (List.mem_reverse.2 hb)
    · have hx := h x (by rw [e]; simp)
      have : ¬ (cs.contains x = true) := by
        have h3 := List.head?_dropWhile_not (cs.contains ·) l.reverse
        rw [e] at h3
        simpa using h3
      exact absurd hx this
  · intro h
    have : l.reverse.dropWhile (cs.contains ·) = [] := (all_dropWhile _ _).2 fun b hb => h b (List.mem_reverse.1 hb)
    rw [this]
    rfl
theorem abc_contains (b : UInt8) : [97, 98, 99, 100, 101, 102, 103, 104, 105, 106, 107, 108, 109, 110, 111, 112, 113, 114, 115, 116, 117, 118, 119, 120, 121, 122].contains b = decide (97 ≤ b.toNat ∧ b.toNat ≤ 122) := by
  have : ∀ b : Fin 256, [97, 98, 99, 100, 101, 102, 103, 104, 105, 106, 107, 108, 109, 110, 111, 112, 113, 114, 115, 116, 117, 118, 119, 120, 121, 122].contains (UInt8.ofFin b) = decide (97 ≤ b.val ∧ b.val ≤ 122) := by decide +kernel
  have h := this b.toFin
  simpa using h
theorem nameB_eq (s : ByteArray) : nameB s = (decide (1 ≤ s.size) && decide (s.size ≤ 32) && s.data.toList.all fun b => decide (97 ≤ b.toNat ∧ b.toNat ≤ 122)) := by
  have hz : s.toList = [] ↔ s.size = 0 := by
    rw [ByteArray.toList_eq]
    constructor
    · intro h
      have : s.data.toList.length = 0 := by rw [h]; rfl
      simpa using this
    · intro h
      exact List.eq_nil_of_length_eq_zero (by simpa using h)
  unfold nameB feature_named.f
  by_cases h0 : s.size = 0
  · rw [if_pos (hz.2 h0)]
    simp [h0]
  · rw [if_neg (fun h => h0 (hz.1 h))]
    by_cases h1 : s.size ≤ 32
    · rw [if_pos (by omega)]
      have ht : strings_Trim.f s (⟨#[97, 98, 99, 100, 101, 102, 103, 104, 105, 106, 107, 108, 109, 110, 111, 112, 113, 114, 115, 116, 117, 118, 119, 120, 121, 122]⟩ : ByteArray) = some ⟨(Lib.trimS s.data.toList [97, 98, 99, 100, 101, 102, 103, 104, 105, 106, 107, 108, 109, 110, 111, 112, 113, 114, 115, 116, 117, 118, 119, 120, 121, 122]).toArray⟩ := by
        unfold strings_Trim.f
        rw [if_pos ⟨by omega, by decide⟩]
      rw [ht]
      simp only [Option.bind_some, Option.getD_some, ByteArray.toList_mk]
      rw [decide_eq_true (show 1 ≤ s.size by omega), decide_eq_true h1, Bool.true_and, Bool.true_and]
      rw [Bool.eq_iff_iff, beq_iff_eq, trimS_nil, List.all_eq_true]
      simp only [abc_contains]
    · rw [if_neg (by omega)]
      simp [h1]
theorem name_ev (s : ByteArray) : Ev (fun k => cognateref02_name.f k s) (nameB s) := by
  rw [nameB_eq]
  by_cases h0 : (s.size : Int) < 1
  · refine Ev.ifp h0 (Ev.step (fun k => by rw [cognateref02_name.j0]) (Ev.ifp rfl (Ev.ret ?_)))
    rw [decide_eq_false (by omega)]
    rfl
  · refine Ev.ifn h0 (Ev.step (fun k => by rw [cognateref02_name.j0]) ?_)
    by_cases h1 : (s.size : Int) > 32
    · refine Ev.ifp (by simpa using h1) (Ev.ret ?_)
      rw [decide_eq_false (show ¬ s.size ≤ 32 by omega)]
      simp
    · refine Ev.ifn (by simpa using h1) ?_
      rw [decide_eq_true (show 1 ≤ s.size by omega), decide_eq_true (show s.size ≤ 32 by omega), Bool.true_and, Bool.true_and]
      have := name_l0 s (by omega) s.size 0 (by omega) (by omega)
      simpa using this
theorem letter_eq (r : Int) : cognateref02_letter.f r = some (letterB r) := by
  unfold cognateref02_letter.f letterB
  repeat' split
  all_goals simp only [Option.some.injEq, ge_iff_le, gt_iff_lt] at *
  all_goals first | (refine Eq.symm ?_; simp only [Bool.or_eq_true, decide_eq_true_eq]; omega) | (refine Eq.symm ?_; simp only [Bool.or_eq_false_iff, decide_eq_false_iff_not]; omega) | (rw [Bool.eq_iff_iff]; simp only [Bool.or_eq_true, decide_eq_true_eq]; omega)
theorem and_u32_nat (a b : Nat) (ha : a < 4294967296) (hb : b < 4294967296) : Go.bits .and .u32 (a : Int) (b : Int) = ((a &&& b : Nat) : Int) := by
  have h1 : ∀ n : Nat, n < 4294967296 → (BitVec.ofInt 32 (n : Int)).toNat = n := fun n hn => by
    rw [BitVec.ofInt_natCast, BitVec.toNat_ofNat]; exact Nat.mod_eq_of_lt (by omega)
  have h2 : a &&& b < 4294967296 := Nat.lt_of_le_of_lt Nat.and_le_left ha
  show IntKind.u32.wrap ((BitVec.ofInt 32 (a : Int) &&& BitVec.ofInt 32 (b : Int)).toNat : Int) = _
  rw [IntKind.wrap_u32, BitVec.toNat_and, h1 a ha, h1 b hb]
  omega
theorem bits_u32_range' (op : BinOp) (a b : Int) : 0 ≤ Go.bits op .u32 a b ∧ Go.bits op .u32 a b < 4294967296 := by
  have hw : ∀ n : Int, 0 ≤ IntKind.u32.wrap n ∧ IntKind.u32.wrap n < 4294967296 := fun n => by rw [IntKind.wrap_u32]; omega
  unfold Go.bits
  split <;> exact hw _
theorem all_eq (F : List ByteArray) (L : List S53) (hF : F.length ≤ 24) : cognateref02_all.f F L = some ((2 ^ F.length - 1 : Nat) : Int) := by
  unfold cognateref02_all.f
  have h1 : IntKind.u64.wrap (F.length : Int) = (F.length : Int) := IntWalk.u64_in _ (by omega)
  have h2 : 2 ^ F.length ≤ 2 ^ 24 := Nat.pow_le_pow_right (by omega) hF
  have h3 : 0 < 2 ^ F.length := Nat.pow_pos (by omega)
  rw [h1, if_pos (by omega)]
  have h4 : shl .u32 1 (F.length : Int) = ((2 ^ F.length : Nat) : Int) := by
    unfold shl
    have : min (F.length : Int).toNat IntKind.u32.bits = F.length := by simp [IntKind.bits]; omega
    rw [this, IntKind.wrap_u32]
    have h5 : (1 : Int) * 2 ^ F.length = ((2 ^ F.length : Nat) : Int) := by rw [Int.one_mul]; norm_cast
    rw [h5]
    omega
  rw [h4]
  congr 1
  omega
theorem may_eq (F : List ByteArray) (L : List S53) (p m : Int) (hF : F.length ≤ 24) : cognateref02_May.f F L p m = some (withinB F p m) := by
  unfold cognateref02_May.f withinB
  rw [all_eq F L hF, Option.bind_some]
  have h := bits_u32_range' .or p m
  obtain ⟨a, ha⟩ : ∃ a : Nat, Go.bits .or .u32 p m = (a : Int) := ⟨(Go.bits .or .u32 p m).toNat, by omega⟩
  rw [ha] at h ⊢
  have h2 : 2 ^ F.length ≤ 2 ^ 24 := Nat.pow_le_pow_right (by omega) hF
  have h3 : 0 < 2 ^ F.length := Nat.pow_pos (by omega)
  rw [and_u32_nat a _ (by omega) (by omega), Nat.and_two_pow_sub_one_eq_mod]
  have h4 : shr .u32 (a : Int) (F.length : Int) = ((a / 2 ^ F.length : Nat) : Int) := by
    unfold shr
    have : min (F.length : Int).toNat IntKind.u32.bits = F.length := by simp [IntKind.bits]; omega
    rw [this]
    norm_cast
  rw [h4]
  by_cases hlt : a < 2 ^ F.length
  · rw [Nat.mod_eq_of_lt hlt, if_pos rfl, Nat.div_eq_of_lt hlt]
    rfl
  · have h5 : a % 2 ^ F.length < 2 ^ F.length := Nat.mod_lt _ h3
    have h6 : 0 < a / 2 ^ F.length := Nat.div_pos (by omega) h3
    rw [if_neg (by omega)]
    have : (((a / 2 ^ F.length : Nat) : Int) == 0) = false := beq_eq_false_iff_ne.2 (by omega)
    rw [this, Bool.false_and]
/-! ### Check -/
theorem check_l1 (C : Prop) (F : List ByteArray) (L : List S53) (i : Nat) (hi : i < F.length) (hF : F.length ≤ 24) (r : Int)
    (hyes : C → (∀ j, j < i → (rdOf ByteArray.empty F (j : Int)).toList ≠ (rdOf ByteArray.empty F (i : Int)).toList) → Ev (fun k => cognateref02_Check.l0 k ((i + 1 : Nat) : Int) F L) r) :
    ∀ (d j : Nat) (ok : Bool), i - j = d → j ≤ i → (ok = false → r = 7) → (ok = true → C ∧ ∀ q, q < j → (rdOf ByteArray.empty F (q : Int)).toList ≠ (rdOf ByteArray.empty F (i : Int)).toList) →
      ((∃ q, q < i ∧ (rdOf ByteArray.empty F (q : Int)).toList = (rdOf ByteArray.empty F (i : Int)).toList) → r = 7) →
      Ev (fun k => cognateref02_Check.l1 k (i : Int) ok (j : Int) F L) r := by
  intro d
  induction d with
  | zero =>
    intro j ok hd hj h0 h1 h2
    obtain rfl : j = i := by omega
    refine Ev.step (fun k => by rw [cognateref02_Check.l1]) (Ev.ifn (by omega) ?_)
    cases ok with
    | false => exact Ev.ifn (by simp) (Ev.ret (h0 rfl).symm)
    | true =>
      refine Ev.ifp rfl ?_
      rw [w64s (by omega)]
      exact hyes (h1 rfl).1 (h1 rfl).2
  | succ d ih =>
    intro j ok hd hj h0 h1 h2
    refine Ev.step (fun k => by rw [cognateref02_Check.l1]) (Ev.ifp (by omega) ?_)
    cases ok with
    | false =>
      refine Ev.ifn (by simp) ?_
      rw [w64s (by omega)]
      exact ih (j + 1) false (by omega) (by omega) h0 (by simp) h2
    | true =>
      refine Ev.ifp rfl (Ev.ifp (by omega) (Ev.ifp (by omega) (Ev.ifp (by omega) (Ev.ifp (by omega) ?_))))
      rw [w64s (by omega)]
      refine ih (j + 1) _ (by omega) (by omega) (fun h => h2 ⟨j, by omega, by simpa using h⟩) (fun h => ⟨(h1 rfl).1, fun q hq => ?_⟩) h2
      rcases Nat.lt_or_ge q j with h3 | h3
      · exact (h1 rfl).2 q h3
      · obtain rfl : q = j := by omega
        simpa using h
theorem dupB_iff (F : List ByteArray) (i : Nat) (hi : i < F.length) : dupB F i = true ↔ ∃ q, q < i ∧ (rdOf ByteArray.empty F (q : Int)).toList = (rdOf ByteArray.empty F (i : Int)).toList := by
  unfold dupB
  rw [List.any_eq_true]
  constructor
  · rintro ⟨x, hx, he⟩
    obtain ⟨q, hq, rfl⟩ := List.getElem_of_mem hx
    rw [List.length_take] at hq
    refine ⟨q, by omega, ?_⟩
    have : rdOf ByteArray.empty F (q : Int) = F[q] := by simp [rdOf, show q < F.length by omega]
    rw [this, ByteArray.toList_eq, ByteArray.toList_eq]
    simpa using he
  · rintro ⟨q, hq, he⟩
    refine ⟨F[q], List.mem_of_getElem? (i := q) (by rw [List.getElem?_take]; simp [hq, show q < F.length by omega]), ?_⟩
    have : rdOf ByteArray.empty F (q : Int) = F[q] := by simp [rdOf, show q < F.length by omega]
    rw [this, ByteArray.toList_eq, ByteArray.toList_eq] at he
    simpa using he
theorem check_l3 (C : Prop) (F : List ByteArray) (L : List S53) (i : Nat) (hi : i < L.length) (hL : L.length ≤ 128) (p m r : Int)
    (hyes : C → (∀ j, j < i → (rd_T53 L (j : Int)).f0 ≠ (rd_T53 L (i : Int)).f0) → Ev (fun k => cognateref02_Check.l2 k ((i + 1 : Nat) : Int) F L) r) :
    ∀ (d j : Nat) (ok : Bool), i - j = d → j ≤ i → (ok = false → r = 7) → (ok = true → C ∧ ∀ q, q < j → (rd_T53 L (q : Int)).f0 ≠ (rd_T53 L (i : Int)).f0) →
      ((∃ q, q < i ∧ (rd_T53 L (q : Int)).f0 = (rd_T53 L (i : Int)).f0) → r = 7) →
      Ev (fun k => cognateref02_Check.l3 k (i : Int) ok (j : Int) F L (rd_T53 L (i : Int)).f0 p m) r := by
  intro d
  induction d with
  | zero =>
    intro j ok hd hj h0 h1 h2
    obtain rfl : j = i := by omega
    refine Ev.step (fun k => by rw [cognateref02_Check.l3]) (Ev.ifn (by omega) ?_)
    cases ok with
    | false => exact Ev.ifn (by simp) (Ev.ret (h0 rfl).symm)
    | true =>
      refine Ev.ifp rfl ?_
      rw [w64s (by omega)]
      exact hyes (h1 rfl).1 (h1 rfl).2
  | succ d ih =>
    intro j ok hd hj h0 h1 h2
    refine Ev.step (fun k => by rw [cognateref02_Check.l3]) (Ev.ifp (by omega) ?_)
    cases ok with
    | false =>
      refine Ev.ifn (by simp) ?_
      rw [w64s (by omega)]
      exact ih (j + 1) false (by omega) (by omega) h0 (by simp) h2
    | true =>
      refine Ev.ifp rfl (Ev.ifp (by omega) (Ev.ifp (by omega) ?_))
      rw [w64s (by omega)]
      refine ih (j + 1) _ (by omega) (by omega) (fun h => h2 ⟨j, by omega, by simpa using h⟩) (fun h => ⟨(h1 rfl).1, fun q hq => ?_⟩) h2
      rcases Nat.lt_or_ge q j with h3 | h3
      · exact (h1 rfl).2 q h3
      · obtain rfl : q = j := by omega
        simpa using h
theorem mem_take_runes (L : List S53) (i : Nat) (hi : i < L.length) (x : Int) : x ∈ (L.take i).map (·.f0) ↔ ∃ q, q < i ∧ (rd_T53 L (q : Int)).f0 = x := by
  rw [mem_runes]
  constructor
  · rintro ⟨q, hq, e⟩
    rw [List.length_take] at hq
    refine ⟨q, by omega, ?_⟩
    simpa [rd_T53, List.getElem?_take, show q < i by omega] using e
  · rintro ⟨q, hq, e⟩
    refine ⟨q, by rw [List.length_take]; omega, ?_⟩
    simpa [rd_T53, List.getElem?_take, hq] using e
theorem check_l2 (F : List ByteArray) (L : List S53) (hF : F.length ≤ 24) (hL : L.length ≤ 128) : ∀ (d i : Nat), L.length - i = d → i ≤ L.length → lettersB F L i = true → Ev (fun k => cognateref02_Check.l2 k (i : Int) F L) (if lettersB F L L.length then 0 else 7) := by
  intro d
  induction d with
  | zero =>
    intro i hd hi h
    obtain rfl : i = L.length := by omega
    exact Ev.step (fun k => by rw [cognateref02_Check.l2]) (Ev.ifn (by omega) (Ev.ret (by rw [h]; rfl)))
  | succ d ih =>
    intro i hd hi h
    have hs := lettersB_succ F L i
    rw [h, Bool.true_and] at hs
    have hbad : lettersB F L (i + 1) = false → (if lettersB F L L.length then (0 : Int) else 7) = 7 := fun hf => by
      rw [if_neg]
      intro hc
      rw [lettersB_mono F L (by omega) hc] at hf
      cases hf
    refine Ev.step (fun k => by rw [cognateref02_Check.l2]) (Ev.ifp (by omega) (Ev.ifp (by omega) ?_))
    refine Ev.someb (a := letterB (rd_T53 L (i : Int)).f0) (fun _ => letter_eq _) ?_
    have key : ∀ ok : Bool, (ok = true ↔ letterB (rd_T53 L (i : Int)).f0 = true ∧ withinB F (rd_T53 L (i : Int)).f1 (rd_T53 L (i : Int)).f2 = true) →
        Ev (fun k => cognateref02_Check.j4 k (i : Int) ok F L (rd_T53 L (i : Int)).f0 (rd_T53 L (i : Int)).f1 (rd_T53 L (i : Int)).f2) (if lettersB F L L.length then 0 else 7) := by
      intro ok hok
      refine Ev.step (fun k => by rw [cognateref02_Check.j4]) ?_
      refine check_l3 (ok = true) F L i (by omega) hL _ _ _ (fun hk hn => ?_) i 0 ok (by omega) (by omega) (fun hf => hbad ?_) (fun h => ⟨h, fun q hq => absurd hq (by omega)⟩) (fun hx => hbad ?_)
      · have := hok.1 hk
        refine ih (i + 1) (by omega) (by omega) ?_
        rw [hs, this.1, this.2, Bool.true_and, Bool.and_true, Bool.not_eq_true', decide_eq_false_iff_not, mem_take_runes L i (by omega)]
        rintro ⟨q, hq, e⟩
        exact hn q hq e
      · rw [hs]
        rw [hf] at hok
        have : ¬ (letterB (rd_T53 L (i : Int)).f0 = true ∧ withinB F (rd_T53 L (i : Int)).f1 (rd_T53 L (i : Int)).f2 = true) := fun h => by simpa using hok.2 h
        rcases h1 : letterB (rd_T53 L (i : Int)).f0 with _ | _
        · simp
        · rcases h2 : withinB F (rd_T53 L (i : Int)).f1 (rd_T53 L (i : Int)).f2 with _ | _
          · simp
          · exact absurd ⟨h1, h2⟩ this
      · rw [hs, decide_eq_true ((mem_take_runes L i (by omega) _).2 hx)]
        simp
    rcases h1 : letterB (rd_T53 L (i : Int)).f0 with _ | _
    · exact Ev.ifn (by simp) (key false (by simp [h1]))
    · refine Ev.ifp rfl (Ev.someb (a := withinB F (rd_T53 L (i : Int)).f1 (rd_T53 L (i : Int)).f2) (fun _ => may_eq F L _ _ hF) ?_)
      exact key _ (by simp [h1])
theorem check_l0 (F : List ByteArray) (L : List S53) (hF : F.length ≤ 24) (hL : L.length ≤ 128) : ∀ (d i : Nat), F.length - i = d → i ≤ F.length → featsB F i = true → Ev (fun k => cognateref02_Check.l0 k (i : Int) F L) (if featsB F F.length && lettersB F L L.length then 0 else 7) := by
  intro d
  induction d with
  | zero =>
    intro i hd hi h
    obtain rfl : i = F.length := by omega
    rw [h, Bool.true_and]
    refine Ev.step (fun k => by rw [cognateref02_Check.l0]) (Ev.ifn (by omega) ?_)
    exact check_l2 F L hF hL L.length 0 (by omega) (by omega) rfl
  | succ d ih =>
    intro i hd hi h
    have hs := featsB_succ F i
    rw [h, Bool.true_and] at hs
    have hbad : featsB F (i + 1) = false → (if featsB F F.length && lettersB F L L.length then (0 : Int) else 7) = 7 := fun hf => by
      have : featsB F F.length = false := by
        rcases hc : featsB F F.length with _ | _
        · rfl
        · rw [featsB_mono F (by omega) hc] at hf
          cases hf
      rw [this]
      rfl
    refine Ev.step (fun k => by rw [cognateref02_Check.l0]) (Ev.ifp (by omega) (Ev.ifp (by omega) ?_))
    refine Ev.bind (name_ev _) ?_
    refine check_l1 (nameB (rdOf ByteArray.empty F (i : Int)) = true) F L i (by omega) hF _ (fun hk hn => ?_) i 0 _ (by omega) (by omega) (fun hf => hbad ?_) (fun h => ⟨h, fun q hq => absurd hq (by omega)⟩) (fun hx => hbad ?_)
    · refine ih (i + 1) (by omega) (by omega) ?_
      rw [hs, hk, Bool.true_and, Bool.not_eq_true']
      rcases hd : dupB F i with _ | _
      · rfl
      · obtain ⟨q, hq, e⟩ := (dupB_iff F i (by omega)).1 hd
        exact absurd e (hn q hq)
    · rw [hs, hf, Bool.false_and]
    · rw [hs, (dupB_iff F i (by omega)).2 hx]
      simp
theorem check_ev (F : List ByteArray) (L : List S53) : Ev (fun k => cognateref02_Check.f k F L) (if checkB F L then 0 else 7) := by
  unfold checkB
  by_cases h1 : (F.length : Int) > 24
  · refine Ev.ifp h1 (Ev.step (fun k => by rw [cognateref02_Check.j0]) (Ev.ifp rfl (Ev.ret ?_)))
    rw [decide_eq_false (show ¬ F.length ≤ 24 by omega)]
    simp
  · refine Ev.ifn h1 ?_
    by_cases h2 : (L.length : Int) < 1
    · refine Ev.ifp h2 (Ev.step (fun k => by rw [cognateref02_Check.j0]) (Ev.ifp rfl (Ev.ret ?_)))
      rw [decide_eq_false (show ¬ 1 ≤ L.length by omega)]
      simp
    · refine Ev.ifn h2 (Ev.step (fun k => by rw [cognateref02_Check.j0]) ?_)
      by_cases h3 : (L.length : Int) > 128
      · refine Ev.ifp (by simpa using h3) (Ev.ret ?_)
        rw [decide_eq_false (show ¬ L.length ≤ 128 by omega)]
        simp
      · refine Ev.ifn (by simpa using h3) ?_
        rw [decide_eq_true (show F.length ≤ 24 by omega), decide_eq_true (show 1 ≤ L.length by omega), decide_eq_true (show L.length ≤ 128 by omega), Bool.true_and, Bool.true_and, Bool.true_and]
        exact check_l0 F L (by omega) (by omega) F.length 0 (by omega) (by omega) rfl
end Go.Proofs.YtjnikjnkmcbjfaaDoor.X
