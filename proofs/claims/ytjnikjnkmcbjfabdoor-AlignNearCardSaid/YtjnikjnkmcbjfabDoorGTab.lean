/- align.filled, walked: the table of the least costs of what is left of two words, and of how many alignments have them. -/
import Derived.Test.YtjnikjnkmcbjfabDoorPAli
import Derived.Test.YtjnikjnkmcbjfabDoorPFar
import Derived.Test.YtjnikjnkmcbjfabDoorX23
import Derived.Deep.RegionHeld3
import Derived.BigRegion
import Derived.Laws.Cover1
import Derived.RegionTactic
import Derived.ChangeAlike
namespace Go.Proofs.YtjnikjnkmcbjfabDoor.X
open Go.RowKit Go.Proofs.YtjnikjnkmcbjfabDoorW.PrintWords Go.Proofs.YtjnikjnkmcbjfabDoorW.PrintLast Go.Proofs.YtjnikjnkmcbjfabDoorW.PrintMore
set_option linter.unusedVariables false
set_option linter.unusedSimpArgs false
def isz : Value → Bool
  | .int .i64 n => n == 0
  | _ => false
theorem isz_eq {v : Value} (h : isz v = true) : v = .int .i64 0 := by
  unfold isz at h
  split at h
  · rw [beq_iff_eq.1 h]
  · cases h
theorem zeros_size : Tryd.zeroCells78.size = 8452 := by kernel_rfl
theorem zeros_all : (Tryd.zeroCells78.toList.drop 2).all isz = true := by kernel_rfl
theorem zeros_at (i : Nat) (h2 : 2 ≤ i) (h : i < 8452) : Tryd.zeroCells78[i]? = some (.int .i64 0) := by
  have ha := zeros_all
  have hs := zeros_size
  generalize Tryd.zeroCells78 = z at ha hs ⊢
  rw [List.all_eq_true] at ha
  have hlt : i < z.size := by omega
  rw [Array.getElem?_eq_getElem hlt]
  refine congrArg some (isz_eq (ha _ ?_))
  have hl2 : i - 2 < (z.toList.drop 2).length := by rw [List.length_drop, Array.length_toList, hs]; omega
  have e : (z.toList.drop 2)[i - 2]'hl2 = z[i] := by
    rw [List.getElem_drop, Array.getElem_toList]
    have e2 : 2 + (i - 2) = i := by omega
    simp only [e2]
  rw [← e]
  exact List.getElem_mem hl2
/-- What a letter over a letter costs. -/
def dd (F : List ByteArray) (L : List S91) (x y : Int) : Int := if x = y then 0 else 2 + (farV F L x y).1
theorem farV_in (F : List ByteArray) (L : List S91) (x y : Int) : 0 ≤ (farV F L x y).1 ∧ (farV F L x y).1 ≤ 32 := by
  unfold farV
  split
  · split
    · have h := unl_range (ofV F L x).2.1 (ofV F L x).2.2.1 (ofV F L y).2.1 (ofV F L y).2.2.1
      generalize unl (ofV F L x).2.1 (ofV F L x).2.2.1 (ofV F L y).2.1 (ofV F L y).2.2.1 = z at h ⊢
      exact h
    · exact ⟨Int.le_refl _, by omega⟩
  · exact ⟨Int.le_refl _, by omega⟩
theorem dd_in (F : List ByteArray) (L : List S91) (x y : Int) : 0 ≤ dd F L x y ∧ dd F L x y ≤ 34 := by
  have := farV_in F L x y
  unfold dd
  split <;> omega
theorem far3_eq (F : List ByteArray) (L : List S91) (x y : Int) (hx : x ≠ 0) (hy : y ≠ 0) : align_far.f F L x y = some (dd F L x y) := by
  unfold align_far.f dd
  have := farV_in F L x y
  by_cases h : x = y
  · rw [if_pos h, if_pos h]
  · rw [if_neg h, if_neg h, if_neg hx, if_neg hy, far_eq, Option.bind_some, w64 (by omega)]
/-- A table as far as it is filled. -/
structure TabOk (d : Int → Int → Int) (l m : List Int) (arr : Array Value) (u v : Value) (dn : Nat → Nat → Prop) : Prop where
  size : arr.size = 8452
  left : arr[0]? = some u
  right : arr[1]? = some v
  cost : ∀ p q : Nat, p ≤ l.length → q ≤ m.length → dn p q → arr[2 + p * 65 + q]? = some (.int .i64 (cst d (l.drop p) (m.drop q)))
  many : ∀ p q : Nat, p ≤ l.length → q ≤ m.length → dn p q → arr[4227 + p * 65 + q]? = some (.int .i64 (mny d (l.drop p) (m.drop q)))
theorem TabOk.weak {d : Int → Int → Int} {l m : List Int} {arr : Array Value} {u v : Value} {dn dn' : Nat → Nat → Prop} (h : TabOk d l m arr u v dn) (hd : ∀ p q : Nat, p ≤ l.length → q ≤ m.length → dn' p q → dn p q) : TabOk d l m arr u v dn' :=
  ⟨h.size, h.left, h.right, fun p q hp hq k => h.cost p q hp hq (hd p q hp hq k), fun p q hp hq k => h.many p q hp hq (hd p q hp hq k)⟩
theorem TabOk.start {d : Int → Int → Int} {l m : List Int} {u v : Value} (hl : l.length ≤ 64) (hm : m.length ≤ 64) : TabOk d l m (((Tryd.zeroCells78.setIfInBounds 0 u).setIfInBounds 1 v).setIfInBounds (4227 + l.length * 65 + m.length) (.int .i64 1)) u v (fun p q => p = l.length ∧ q = m.length) := by
  have hs := zeros_size
  have hz := zeros_at
  generalize Tryd.zeroCells78 = z at hs hz ⊢
  refine ⟨by simp [hs], ?_, ?_, ?_, ?_⟩
  · rw [Array.getElem?_setIfInBounds_ne (by omega), Array.getElem?_setIfInBounds_ne (by omega), Array.getElem?_setIfInBounds_self_of_lt (by omega)]
  · rw [Array.getElem?_setIfInBounds_ne (by omega), Array.getElem?_setIfInBounds_self_of_lt (by rw [Array.size_setIfInBounds]; omega)]
  · rintro p q hp hq ⟨rfl, rfl⟩
    rw [Array.getElem?_setIfInBounds_ne (by omega), Array.getElem?_setIfInBounds_ne (by omega), Array.getElem?_setIfInBounds_ne (by omega), hz _ (by omega) (by omega), List.drop_length, List.drop_length, cst_nn]
  · rintro p q hp hq ⟨rfl, rfl⟩
    rw [Array.getElem?_setIfInBounds_self_of_lt (by rw [Array.size_setIfInBounds, Array.size_setIfInBounds]; omega), List.drop_length, List.drop_length, mny_nn]
theorem TabOk.put {d : Int → Int → Int} {l m : List Int} {arr : Array Value} {u v : Value} {dn : Nat → Nat → Prop} (h : TabOk d l m arr u v dn) (hl : l.length ≤ 64) (hm : m.length ≤ 64) {i k : Nat} (hi : i ≤ l.length) (hk : k ≤ m.length) {c n : Int} (hc : c = cst d (l.drop i) (m.drop k)) (hn : n = mny d (l.drop i) (m.drop k)) :
    TabOk d l m ((arr.setIfInBounds (2 + i * 65 + k) (.int .i64 c)).setIfInBounds (4227 + i * 65 + k) (.int .i64 n)) u v (fun p q => dn p q ∨ (p = i ∧ q = k)) := by
  have hs := h.size
  refine ⟨by simp [hs], ?_, ?_, ?_, ?_⟩
  · rw [Array.getElem?_setIfInBounds_ne (by omega), Array.getElem?_setIfInBounds_ne (by omega)]
    exact h.left
  · rw [Array.getElem?_setIfInBounds_ne (by omega), Array.getElem?_setIfInBounds_ne (by omega)]
    exact h.right
  · intro p q hp hq hd
    rw [Array.getElem?_setIfInBounds_ne (by omega)]
    by_cases e : p = i ∧ q = k
    · obtain ⟨rfl, rfl⟩ := e
      rw [Array.getElem?_setIfInBounds_self_of_lt (by omega), hc]
    · rw [Array.getElem?_setIfInBounds_ne (by omega)]
      exact h.cost p q hp hq (hd.elim id (fun k => absurd k e))
  · intro p q hp hq hd
    by_cases e : p = i ∧ q = k
    · obtain ⟨rfl, rfl⟩ := e
      rw [Array.getElem?_setIfInBounds_self_of_lt (by rw [Array.size_setIfInBounds]; omega), hn]
    · rw [Array.getElem?_setIfInBounds_ne (by omega), Array.getElem?_setIfInBounds_ne (by omega)]
      exact h.many p q hp hq (hd.elim id (fun k => absurd k e))
theorem min3_run {P : Program} {W : World} (ts : Array TypeId) (t : TypeId) (x y z r : Int) (h : r = min (min x y) z) : (Builtin.min_ ts t #[.int .i64 x, .int .i64 y, .int .i64 z]).run P W = .ok (.int .i64 r) W := by
  rw [run_min_int3, h]
  congr 2
  split <;> split <;> omega
theorem min2_run {P : Program} {W : World} (ts : Array TypeId) (t : TypeId) (x y r : Int) (h : r = min x y) : (Builtin.min_ ts t #[.int .i64 x, .int .i64 y]).run P W = .ok (.int .i64 r) W := by
  rw [run_min_int2, h]
  congr 2
  split <;> omega
theorem mny_step (d : Int → Int → Int) {x y : Int} {xs ys : List Int} {r c11 c10 c01 n11 n10 n01 vb vl vr g z : Int} {b1 b2 b3 : Bool} (hr : r = d x y) (h1 : c11 = cst d xs ys) (h2 : c10 = cst d xs (y :: ys)) (h3 : c01 = cst d (x :: xs) ys) (m1 : n11 = mny d xs ys) (m2 : n10 = mny d xs (y :: ys)) (m3 : n01 = mny d (x :: xs) ys)
    (hb : vb = r + c11) (hl : vl = 5 + c10) (hv : vr = 5 + c01) (hg : g = cst d (x :: xs) (y :: ys)) (f1 : (vb == g) = b1) (f2 : (vl == g) = b2) (f3 : (vr == g) = b3) (hz : z = min ((if b1 = true then n11 else 0) + (if b2 = true then n10 else 0) + (if b3 = true then n01 else 0)) 1048577) : z = mny d (x :: xs) (y :: ys) := by
  rw [mny_cc, ← h1, ← h2, ← h3, ← m1, ← m2, ← m3, ← hg, ← hr, ← hb, ← hl, ← hv, hz, ← f1, ← f2, ← f3]
  simp only [beq_iff_eq]
/-- What stays while one cell's three ways are reckoned. -/
def FSt (w : World) (A0 : Option Addr) (n0 c0 : Nat) (A1 : Option Addr) (n1 c1 : Nat) (px py pc : Addr) (x y c : Int) (arr : Array Value) (w' : World) : Prop :=
  w'.cell? ⟨w.heap.size, 0, none⟩ = some (.slice A0 n0 c0) ∧ w'.cell? ⟨w.heap.size, 1, none⟩ = some (.slice A1 n1 c1) ∧ w'.cell? px = some (.int .i32 x) ∧ w'.cell? py = some (.int .i32 y) ∧ w'.cell? pc = some (.int .i64 c) ∧ w'.heap[w.heap.size + 1]? = some (.cells arr 78 (0, 0)) ∧ w'.heap[w.heap.size]? = some (.cells #[.slice A0 n0 c0, .slice A1 n1 c1] 25 (0, 0)) ∧ Below w.heap.size w w'
theorem FSt.step {w : World} {A0 : Option Addr} {n0 c0 : Nat} {A1 : Option Addr} {n1 c1 : Nat} {px py pc : Addr} {x y c : Int} {arr : Array Value} {w' w2 : World} (h : FSt w A0 n0 c0 A1 n1 c1 px py pc x y c arr w') (hb : Below w'.heap.size w' w2) : FSt w A0 n0 c0 A1 n1 c1 px py pc x y c arr w2 := by
  obtain ⟨h1, h2, h3, h4, h5, h6, h7, h8⟩ := h
  exact ⟨pw_cell_below hb h1, pw_cell_below hb h2, pw_cell_below hb h3, pw_cell_below hb h4, pw_cell_below hb h5, blk_below h6 hb, blk_below h7 hb, below_step h8 hb⟩
theorem far_litS {w : World} {A0_0 : Option Addr} {c0_0 : Nat} {F : List ByteArray} {A0_1 : Option Addr} {c0_1 : Nat} {L : List S91} {px py pc : Addr} {x y c : Int} {arr : Array Value} {w' : World} (h : FSt w A0_0 F.length c0_0 A0_1 L.length c0_1 px py pc x y c arr w') (hr0 : Kd.C Kd.string w A0_0 F.length F) (hc0 : F.length ≤ c0_0) (hr1 : Kd.C k91 w A0_1 L.length L) (hc1 : L.length ≤ c0_1) (hx : x ≠ 0) (hy : y ≠ 0) :
    Calls Tryd.prog 51 #[.agg #[.slice A0_0 F.length c0_0, .slice A0_1 L.length c0_1], .int .i32 x, .int .i32 y] w' fun e w2 => e = .returned (.int .i64 (dd F L x y)) ∧ Below w'.heap.size w' w2 :=
  align_far.calls A0_0 c0_0 F A0_1 c0_1 L x y _ w' (Kd.C_below hr0 h.2.2.2.2.2.2.2) hc0 (Kd.C_below hr1 h.2.2.2.2.2.2.2) hc1 (far3_eq F L x y hx hy)
set_option maxHeartbeats 8000000 in
set_option maxRecDepth 100000 in
theorem filled_any (A0_0 : Option Addr) (c0_0 : Nat) (F : List ByteArray) (A0_1 : Option Addr) (c0_1 : Nat) (L : List S91) (Ax : Option Addr) (cx : Nat) (l : List Int) (Ay : Option Addr) (cy : Nat) (m : List Int) (w : World)
    (hr0_0 : Kd.C Kd.string w A0_0 F.length F) (hc0_0 : F.length ≤ c0_0) (hr0_1 : Kd.C k91 w A0_1 L.length L) (hc0_1 : L.length ≤ c0_1) (hrx : Kd.C (Kd.int .i32) w Ax l.length l) (hcx : l.length ≤ cx) (hry : Kd.C (Kd.int .i32) w Ay m.length m) (hcy : m.length ≤ cy)
    (hlx : l.length ≤ 64) (hly : m.length ≤ 64) (hzx : ∀ x ∈ l, x ≠ 0) (hzy : ∀ y ∈ m, y ≠ 0) :
    Calls Tryd.prog 56 #[.agg #[.slice A0_0 F.length c0_0, .slice A0_1 L.length c0_1], .slice Ax l.length cx, .slice Ay m.length cy] w fun e w' => ∃ (b : Nat) (arr : Array Value), e = .returned (.pointer (some ⟨b, 0, none⟩)) ∧ w.heap.size ≤ b ∧ w'.heap[b]? = some (.cells arr 78 (0, 0)) ∧ TabOk (dd F L) l m arr (.slice Ax l.length cx) (.slice Ay m.length cy) (fun _ _ => True) ∧ Below w.heap.size w w' := by
  have HR0 := Aside0.mk hr0_0
  have HC0 := Aside0.mk hc0_0
  have HR1 := Aside0.mk hr0_1
  have HC1 := Aside0.mk hc0_1
  have HX := Aside0.mk hrx
  have HCX := Aside0.mk hcx
  have HY := Aside0.mk hry
  have HCY := Aside0.mk hcy
  have ZX := Aside0.mk hzx
  have ZY := Aside0.mk hzy
  have LX := Aside0.mk hlx
  have LY := Aside0.mk hly
  have p1 : (0 : Int) ≤ (l.length : Int) := by omega
  have p2 : (l.length : Int) < 65 := by omega
  have p3 : (0 : Int) ≤ (m.length : Int) := by omega
  have p4 : (m.length : Int) < 65 := by omega
  have KA := Aside0.mk (blk_new w (.cells #[.slice A0_0 F.length c0_0, .slice A0_1 L.length c0_1] 25))
  have HB := Aside0.mk (below_alloc (Below.refl _ w) (.cells #[.slice A0_0 F.length c0_0, .slice A0_1 L.length c0_1] 25))
  obtain ⟨w1, hw1⟩ : ∃ w1, w1 = w.alloc (.cells #[.slice A0_0 F.length c0_0, .slice A0_1 L.length c0_1] 25) := ⟨_, rfl⟩
  obtain ⟨s1, hs1⟩ : ∃ s1, s1 = w.heap.size + 1 := ⟨_, rfl⟩
  obtain ⟨arr0, harr⟩ : ∃ a, a = ((Tryd.zeroCells78.setIfInBounds 0 (.slice Ax l.length cx)).setIfInBounds 1 (.slice Ay m.length cy)).setIfInBounds (4227 + l.length * 65 + m.length) (.int .i64 1) := ⟨_, rfl⟩
  have TK := Aside0.mk (TabOk.start (d := dd F L) (u := .slice Ax l.length cx) (v := .slice Ay m.length cy) hlx hly)
  rw [← harr] at TK
  have hz1 : w1.heap.size = s1 := by rw [hw1, hs1, World.size_alloc]
  have KT := Aside0.mk (blk_new w1 (.cells arr0 78))
  rw [hz1] at KT
  rw [← hw1] at HB KA
  rw [hs1] at KT
  have KA2 := Aside0.mk (blk_alloc KA.out (.cells arr0 78))
  have HB2 := Aside0.mk (below_alloc HB.out (.cells arr0 78))
  have S1 := Aside0.mk hs1
  have N1 := Aside0.mk hw1
  have NA := Aside0.mk harr
  clear hr0_0 hc0_0 hr0_1 hc0_1 hrx hcx hry hcy hzx hzy hlx hly KA HB hs1 hw1 hz1 harr
  have hcell : ((w.alloc (.cells #[.slice A0_0 F.length c0_0, .slice A0_1 L.length c0_1] 25)).alloc (.cells ((Tryd.zeroCells78.setIfInBounds 0 (.slice Ax l.length cx)).setIfInBounds 1 (.slice Ay m.length cy)) 78)).cell? ⟨w.heap.size + 1, 4227 + l.length * 65 + m.length, none⟩ = some (.int .i64 0) := by
    have hb := blk_new (w.alloc (.cells #[.slice A0_0 F.length c0_0, .slice A0_1 L.length c0_1] 25)) (.cells ((Tryd.zeroCells78.setIfInBounds 0 (.slice Ax l.length cx)).setIfInBounds 1 (.slice Ay m.length cy)) 78)
    rw [World.size_alloc] at hb
    rw [blk_cell hb, Array.getElem?_setIfInBounds_ne (by omega), Array.getElem?_setIfInBounds_ne (by omega), zeros_at _ (by omega) (by omega)]
  have hfroz : ((w.alloc (.cells #[.slice A0_0 F.length c0_0, .slice A0_1 L.length c0_1] 25)).alloc (.cells ((Tryd.zeroCells78.setIfInBounds 0 (.slice Ax l.length cx)).setIfInBounds 1 (.slice Ay m.length cy)) 78)).frozen? ⟨w.heap.size + 1, 4227 + l.length * 65 + m.length, none⟩ = false := by
    have hb := blk_new (w.alloc (.cells #[.slice A0_0 F.length c0_0, .slice A0_1 L.length c0_1] 25)) (.cells ((Tryd.zeroCells78.setIfInBounds 0 (.slice Ax l.length cx)).setIfInBounds 1 (.slice Ay m.length cy)) 78)
    rw [World.size_alloc] at hb
    exact blk_frozen hb _
  go_enter Tryd.func56, Tryd.ntmps56
  go_wp2
  go_loopw [8] (fun v w' => ∃ (i : Nat) (arr : Array Value), v = .int .i64 ((i : Int) - 1) ∧ Aside0 (i ≤ l.length + 1) ∧ Aside0 (w'.heap[w.heap.size + 1]? = some (.cells arr 78 (0, 0))) ∧ Aside0 (w'.heap[w.heap.size]? = some (.cells #[.slice A0_0 F.length c0_0, .slice A0_1 L.length c0_1] 25 (0, 0))) ∧ Aside0 (TabOk (dd F L) l m arr (.slice Ax l.length cx) (.slice Ay m.length cy) (fun p q => i ≤ p ∨ (p = l.length ∧ q = m.length))) ∧ Aside0 (Below w.heap.size w w')) (fun v _ => (intOf v + 1).toNat)
  case atStart => exact ⟨l.length + 1, arr0, by congr 1; omega, ⟨Nat.le_refl _⟩, by rw [← N1.out, ← NA.out]; exact KT, by rw [← N1.out, ← NA.out]; exact KA2, ⟨TK.out.weak (fun p q hp hq h => h.elim (fun h => by omega) id)⟩, by rw [← N1.out, ← NA.out]; exact HB2⟩
  case round =>
    clear KT KA2 TK HB2 NA N1 hcell hfroz S1
    obtain ⟨i, arr, hv, HI, HK, HA, HT, HB⟩ := hrel
    rcases i with _ | i
    · replace hv := hv.trans (show Value.int .i64 (((0 : Nat) : Int) - 1) = .int .i64 (-1) from by congr 1)
      subst hv
      go_wp2
      go_ret
      exact ⟨w.heap.size + 1, arr, rfl, by omega, HK.out, HT.out.weak (fun p q _ _ _ => Or.inl (Nat.zero_le _)), HB.out⟩
    · replace hv := hv.trans (show Value.int .i64 (((i + 1 : Nat) : Int) - 1) = .int .i64 (i : Int) from by congr 1; omega)
      subst hv
      have i0 : decide ((i : Int) ≥ 0) = true := decide_eq_true (by omega)
      go_wp2
      obtain ⟨wi, hwi⟩ : ∃ wi : World, wi = wr := ⟨_, rfl⟩
      subst hwi
      go_loopw [9] (fun v w' => ∃ (k : Nat) (arr : Array Value), v = .int .i64 ((k : Int) - 1) ∧ Aside0 (k ≤ m.length + 1) ∧ Aside0 (w'.heap[w.heap.size + 1]? = some (.cells arr 78 (0, 0))) ∧ Aside0 (w'.heap[w.heap.size]? = some (.cells #[.slice A0_0 F.length c0_0, .slice A0_1 L.length c0_1] 25 (0, 0))) ∧ Aside0 (TabOk (dd F L) l m arr (.slice Ax l.length cx) (.slice Ay m.length cy) (fun p q => i + 1 ≤ p ∨ (p = i ∧ k ≤ q) ∨ (p = l.length ∧ q = m.length))) ∧ Aside0 (Below w.heap.size w w')) (fun v _ => (intOf v + 1).toNat)
      case atStart => exact ⟨m.length + 1, arr, by congr 1; omega, ⟨Nat.le_refl _⟩, HK, HA, ⟨HT.out.weak (fun p q hp hq h => by omega)⟩, HB⟩
      case round =>
        clear HK HA HT HB arr
        obtain ⟨k, arr, hv, HJ, HK, HA, HT, HB⟩ := hrel
        rcases k with _ | k
        · replace hv := hv.trans (show Value.int .i64 (((0 : Nat) : Int) - 1) = .int .i64 (-1) from by congr 1)
          subst hv
          have hw : wrap64 ((i : Int) - 1) = (i : Int) - 1 := w64 (by have := HI.out; omega)
          have HW := Aside0.mk hw
          clear hw
          go_wp2
          go_roundw
          case rel => exact ⟨i, arr, by rw [HW.out], ⟨by have := HI.out; omega⟩, HK, HA, ⟨HT.out.weak (fun p q hp hq h => by omega)⟩, HB⟩
          case measure =>
            simp only [intOf]
            rw [HW.out]
            omega
        · replace hv := hv.trans (show Value.int .i64 (((k + 1 : Nat) : Int) - 1) = .int .i64 (k : Int) from by congr 1; omega)
          subst hv
          have k0 : decide ((k : Int) ≥ 0) = true := decide_eq_true (by omega)
          have hw : wrap64 ((k : Int) - 1) = (k : Int) - 1 := w64 (by have := HJ.out; omega)
          have HW := Aside0.mk hw
          clear hw
          have hi := HI.out
          have hk := HJ.out
          have hl := LX.out
          have hm := LY.out
          by_cases ei : i = l.length
          · have e1 : ((i : Int) == (l.length : Int)) = true := beq_iff_eq.2 (by omega)
            have e3 : decide (i < l.length) = false := decide_eq_false (by omega)
            by_cases ek : k = m.length
            · have e2 : ((k : Int) == (m.length : Int)) = true := beq_iff_eq.2 (by omega)
              have EI := Aside0.mk ei
              have EK := Aside0.mk ek
              clear ei ek hi hk hl hm
              go_wp2
              go_roundw
              case rel => exact ⟨k, arr, (by first | rfl | rw [HW.out]), ⟨by have := HJ.out; omega⟩, HK, HA, ⟨HT.out.weak (fun p q hp hq h => by have := EI.out; have := EK.out; omega)⟩, HB⟩
              case measure =>
                simp only [intOf]
                first | omega | (rw [HW.out]; omega)
            · have e2 : ((k : Int) == (m.length : Int)) = false := beq_eq_false_iff_ne.2 (by omega)
              have e4 : decide (k < m.length) = true := decide_eq_true (by omega)
              have q1 : (0 : Int) ≤ (i : Int) := by omega
              have q2 : (i : Int) < 65 := by omega
              have q5 : (0 : Int) ≤ (k : Int) := by omega
              have q6 : (k : Int) < 65 := by omega
              have q3 : (0 : Int) ≤ (k : Int) + 1 := by omega
              have q4 : (k : Int) + 1 < 65 := by omega
              have hc := (blk_cell HK.out (2 + i * 65 + (k + 1))).trans (HT.out.cost (i) (k + 1) (by omega) (by omega) (by omega))
              have hn := (blk_cell HK.out (4227 + i * 65 + (k + 1))).trans (HT.out.many (i) (k + 1) (by omega) (by omega) (by omega))
              have bc := cst_le (dd F L) (l.drop (i)) (m.drop (k + 1))
              have bn := cst_ge (dd F L) (fun x y => (dd_in F L x y).1) (l.drop (i)) (m.drop (k + 1))
              have bm := mny_in (dd F L) _ (l.drop (i)) (m.drop (k + 1)) (Nat.le_refl _)
              rw [List.length_drop, List.length_drop] at bc
              obtain ⟨c, hcc⟩ : ∃ c, c = cst (dd F L) (l.drop (i)) (m.drop (k + 1)) := ⟨_, rfl⟩
              obtain ⟨n, hnn⟩ : ∃ n, n = mny (dd F L) (l.drop (i)) (m.drop (k + 1)) := ⟨_, rfl⟩
              rw [← hcc] at hc bc bn
              rw [← hnn] at hn bm
              have CC := Aside0.mk hcc
              have NN := Aside0.mk hnn
              have BM := Aside0.mk bm
              clear hcc hnn
              obtain ⟨g, hg⟩ : ∃ g, g = 5 + c := ⟨_, rfl⟩
              have hwg : wrap64 (5 + c) = g := by rw [w64 (by omega)]; omega
              have hm3 := fun W => min3_run (P := Tryd.prog) (W := W) #[3, 3, 3] 3 1073741824 1073741824 g g (by omega)
              have f1 : ((1073741824 : Int) == g) = false := beq_eq_false_iff_ne.2 (by omega)
              have hwn : wrap64 n = n := w64 (by omega)
              have hm2 := fun W => min2_run (P := Tryd.prog) (W := W) #[3, 3] 3 n 1048577 n (by omega)
              obtain ⟨v1, hv1⟩ : ∃ v, arr[2 + i * 65 + k]? = some v := ⟨_, Array.getElem?_eq_getElem (by have := HT.out.size; omega)⟩
              obtain ⟨v2, hv2⟩ : ∃ v, arr[4227 + i * 65 + k]? = some v := ⟨_, Array.getElem?_eq_getElem (by have := HT.out.size; omega)⟩
              have st1 := (blk_cell HK.out (2 + i * 65 + k)).trans hv1
              have hf := blk_frozen HK.out
              have hk2 := blk_set HK.out (2 + i * 65 + k) (.int .i64 g)
              have st2 := (blk_cell hk2 (4227 + i * 65 + k)).trans ((Array.getElem?_setIfInBounds_ne (by omega)).trans hv2)
              have hf2 := blk_frozen hk2
              clear hv1 hv2 hk2
              have G := Aside0.mk hg
              have EI := Aside0.mk ei
              have EK := Aside0.mk ek
              clear ei ek hi hk hl hm bc bn bm hg
              go_wp2
              go_region
              go_wp2
              have HC := Aside0.mk (show g = cst (dd F L) (l.drop i) (m.drop k) from by
                rw [EI.out, List.drop_length, List.drop_eq_getElem_cons (show k < m.length by have := EK.out; have := HJ.out; omega), cst_nc, G.out, CC.out, EI.out, List.drop_length])
              have HN := Aside0.mk (show n = mny (dd F L) (l.drop i) (m.drop k) from by
                rw [NN.out, EI.out, List.drop_length, List.drop_eq_getElem_cons (show k < m.length by have := EK.out; have := HJ.out; omega), mny_nc])
              go_roundw
              case rel => exact ⟨k, ((arr.setIfInBounds (2 + i * 65 + k) (.int .i64 g)).setIfInBounds (4227 + i * 65 + k) (.int .i64 n)), (by first | rfl | rw [HW.out]), ⟨by have := HJ.out; omega⟩, ⟨blk_drew (blk_set (blk_set HK.out _ _) _ _)⟩, ⟨blk_drew (blk_far (blk_far HA.out (by simp) _) (by simp) _)⟩, ⟨(HT.out.put LX.out LY.out (by have := HI.out; omega) (by have := HJ.out; omega) HC.out HN.out).weak (fun p q hp hq h => by omega)⟩, ⟨below_drew1 (below_set (below_set HB.out (by omega)) (by omega))⟩⟩
              case measure =>
                simp only [intOf]
                first | omega | (rw [HW.out]; omega)
          · have e1 : ((i : Int) == (l.length : Int)) = false := beq_eq_false_iff_ne.2 (by omega)
            have e3 : decide (i < l.length) = true := decide_eq_true (by omega)
            by_cases ek : k = m.length
            · have e4 : decide (k < m.length) = false := decide_eq_false (by omega)
              have q1 : (0 : Int) ≤ (i : Int) := by omega
              have q2 : (i : Int) < 65 := by omega
              have q5 : (0 : Int) ≤ (k : Int) := by omega
              have q6 : (k : Int) < 65 := by omega
              have q7 : (0 : Int) ≤ (i : Int) + 1 := by omega
              have q8 : (i : Int) + 1 < 65 := by omega
              have hc := (blk_cell HK.out (2 + (i + 1) * 65 + k)).trans (HT.out.cost (i + 1) (k) (by omega) (by omega) (by omega))
              have hn := (blk_cell HK.out (4227 + (i + 1) * 65 + k)).trans (HT.out.many (i + 1) (k) (by omega) (by omega) (by omega))
              have bc := cst_le (dd F L) (l.drop (i + 1)) (m.drop (k))
              have bn := cst_ge (dd F L) (fun x y => (dd_in F L x y).1) (l.drop (i + 1)) (m.drop (k))
              have bm := mny_in (dd F L) _ (l.drop (i + 1)) (m.drop (k)) (Nat.le_refl _)
              rw [List.length_drop, List.length_drop] at bc
              obtain ⟨c, hcc⟩ : ∃ c, c = cst (dd F L) (l.drop (i + 1)) (m.drop (k)) := ⟨_, rfl⟩
              obtain ⟨n, hnn⟩ : ∃ n, n = mny (dd F L) (l.drop (i + 1)) (m.drop (k)) := ⟨_, rfl⟩
              rw [← hcc] at hc bc bn
              rw [← hnn] at hn bm
              have CC := Aside0.mk hcc
              have NN := Aside0.mk hnn
              have BM := Aside0.mk bm
              clear hcc hnn
              obtain ⟨g, hg⟩ : ∃ g, g = 5 + c := ⟨_, rfl⟩
              have hwg : wrap64 (5 + c) = g := by rw [w64 (by omega)]; omega
              have hm3 := fun W => min3_run (P := Tryd.prog) (W := W) #[3, 3, 3] 3 1073741824 g 1073741824 g (by omega)
              have f1 : ((1073741824 : Int) == g) = false := beq_eq_false_iff_ne.2 (by omega)
              have hwn : wrap64 n = n := w64 (by omega)
              have hm2 := fun W => min2_run (P := Tryd.prog) (W := W) #[3, 3] 3 n 1048577 n (by omega)
              obtain ⟨v1, hv1⟩ : ∃ v, arr[2 + i * 65 + k]? = some v := ⟨_, Array.getElem?_eq_getElem (by have := HT.out.size; omega)⟩
              obtain ⟨v2, hv2⟩ : ∃ v, arr[4227 + i * 65 + k]? = some v := ⟨_, Array.getElem?_eq_getElem (by have := HT.out.size; omega)⟩
              have st1 := (blk_cell HK.out (2 + i * 65 + k)).trans hv1
              have hf := blk_frozen HK.out
              have hk2 := blk_set HK.out (2 + i * 65 + k) (.int .i64 g)
              have st2 := (blk_cell hk2 (4227 + i * 65 + k)).trans ((Array.getElem?_setIfInBounds_ne (by omega)).trans hv2)
              have hf2 := blk_frozen hk2
              clear hv1 hv2 hk2
              have G := Aside0.mk hg
              have EI := Aside0.mk ei
              have EK := Aside0.mk ek
              clear ei ek hi hk hl hm bc bn bm hg
              go_wp2
              go_region
              go_wp2
              have HC := Aside0.mk (show g = cst (dd F L) (l.drop i) (m.drop k) from by
                rw [EK.out, List.drop_length, List.drop_eq_getElem_cons (show i < l.length by have := EI.out; have := HI.out; omega), cst_cn, G.out, CC.out, EK.out, List.drop_length])
              have HN := Aside0.mk (show n = mny (dd F L) (l.drop i) (m.drop k) from by
                rw [NN.out, EK.out, List.drop_length, List.drop_eq_getElem_cons (show i < l.length by have := EI.out; have := HI.out; omega), mny_cn])
              go_roundw
              case rel => exact ⟨k, ((arr.setIfInBounds (2 + i * 65 + k) (.int .i64 g)).setIfInBounds (4227 + i * 65 + k) (.int .i64 n)), (by first | rfl | rw [HW.out]), ⟨by have := HJ.out; omega⟩, ⟨blk_drew (blk_set (blk_set HK.out _ _) _ _)⟩, ⟨blk_drew (blk_far (blk_far HA.out (by simp) _) (by simp) _)⟩, ⟨(HT.out.put LX.out LY.out (by have := HI.out; omega) (by have := HJ.out; omega) HC.out HN.out).weak (fun p q hp hq h => by omega)⟩, ⟨below_drew1 (below_set (below_set HB.out (by omega)) (by omega))⟩⟩
              case measure =>
                simp only [intOf]
                first | omega | (rw [HW.out]; omega)
            · have e4 : decide (k < m.length) = true := decide_eq_true (by omega)
              have q1 : (0 : Int) ≤ (i : Int) := by omega
              have q2 : (i : Int) < 65 := by omega
              have q5 : (0 : Int) ≤ (k : Int) := by omega
              have q6 : (k : Int) < 65 := by omega
              have q7 : (0 : Int) ≤ (i : Int) + 1 := by omega
              have q8 : (i : Int) + 1 < 65 := by omega
              have q3 : (0 : Int) ≤ (k : Int) + 1 := by omega
              have q4 : (k : Int) + 1 < 65 := by omega
              have bc11 := cst_le (dd F L) (l.drop (i + 1)) (m.drop (k + 1))
              have bn11 := cst_ge (dd F L) (fun x y => (dd_in F L x y).1) (l.drop (i + 1)) (m.drop (k + 1))
              have bm11 := mny_in (dd F L) _ (l.drop (i + 1)) (m.drop (k + 1)) (Nat.le_refl _)
              rw [List.length_drop, List.length_drop] at bc11
              obtain ⟨c11, hcc11⟩ : ∃ c, c = cst (dd F L) (l.drop (i + 1)) (m.drop (k + 1)) := ⟨_, rfl⟩
              obtain ⟨n11, hnn11⟩ : ∃ n, n = mny (dd F L) (l.drop (i + 1)) (m.drop (k + 1)) := ⟨_, rfl⟩
              rw [← hcc11] at bc11 bn11
              rw [← hnn11] at bm11
              have CC11 := Aside0.mk hcc11
              have NN11 := Aside0.mk hnn11
              have BM11 := Aside0.mk bm11
              have TC11 := Aside0.mk (show arr[2 + (i + 1) * 65 + (k + 1)]? = some (.int .i64 c11) by rw [hcc11]; exact HT.out.cost (i + 1) (k + 1) (by omega) (by omega) (by omega))
              have TN11 := Aside0.mk (show arr[4227 + (i + 1) * 65 + (k + 1)]? = some (.int .i64 n11) by rw [hnn11]; exact HT.out.many (i + 1) (k + 1) (by omega) (by omega) (by omega))
              clear hcc11 hnn11 bm11
              have bc10 := cst_le (dd F L) (l.drop (i + 1)) (m.drop (k))
              have bn10 := cst_ge (dd F L) (fun x y => (dd_in F L x y).1) (l.drop (i + 1)) (m.drop (k))
              have bm10 := mny_in (dd F L) _ (l.drop (i + 1)) (m.drop (k)) (Nat.le_refl _)
              rw [List.length_drop, List.length_drop] at bc10
              obtain ⟨c10, hcc10⟩ : ∃ c, c = cst (dd F L) (l.drop (i + 1)) (m.drop (k)) := ⟨_, rfl⟩
              obtain ⟨n10, hnn10⟩ : ∃ n, n = mny (dd F L) (l.drop (i + 1)) (m.drop (k)) := ⟨_, rfl⟩
              rw [← hcc10] at bc10 bn10
              rw [← hnn10] at bm10
              have CC10 := Aside0.mk hcc10
              have NN10 := Aside0.mk hnn10
              have BM10 := Aside0.mk bm10
              have TC10 := Aside0.mk (show arr[2 + (i + 1) * 65 + k]? = some (.int .i64 c10) by rw [hcc10]; exact HT.out.cost (i + 1) (k) (by omega) (by omega) (by omega))
              have TN10 := Aside0.mk (show arr[4227 + (i + 1) * 65 + k]? = some (.int .i64 n10) by rw [hnn10]; exact HT.out.many (i + 1) (k) (by omega) (by omega) (by omega))
              clear hcc10 hnn10 bm10
              have bc01 := cst_le (dd F L) (l.drop (i)) (m.drop (k + 1))
              have bn01 := cst_ge (dd F L) (fun x y => (dd_in F L x y).1) (l.drop (i)) (m.drop (k + 1))
              have bm01 := mny_in (dd F L) _ (l.drop (i)) (m.drop (k + 1)) (Nat.le_refl _)
              rw [List.length_drop, List.length_drop] at bc01
              obtain ⟨c01, hcc01⟩ : ∃ c, c = cst (dd F L) (l.drop (i)) (m.drop (k + 1)) := ⟨_, rfl⟩
              obtain ⟨n01, hnn01⟩ : ∃ n, n = mny (dd F L) (l.drop (i)) (m.drop (k + 1)) := ⟨_, rfl⟩
              rw [← hcc01] at bc01 bn01
              rw [← hnn01] at bm01
              have CC01 := Aside0.mk hcc01
              have NN01 := Aside0.mk hnn01
              have BM01 := Aside0.mk bm01
              have TC01 := Aside0.mk (show arr[2 + i * 65 + (k + 1)]? = some (.int .i64 c01) by rw [hcc01]; exact HT.out.cost (i) (k + 1) (by omega) (by omega) (by omega))
              have TN01 := Aside0.mk (show arr[4227 + i * 65 + (k + 1)]? = some (.int .i64 n01) by rw [hnn01]; exact HT.out.many (i) (k + 1) (by omega) (by omega) (by omega))
              clear hcc01 hnn01 bm01
              have hc11 := (blk_cell HK.out (2 + (i + 1) * 65 + (k + 1))).trans TC11.out
              have hix : i < l.length := by omega
              have hky : k < m.length := by omega
              have r2 : (i : Int) < (l.length : Int) := by omega
              have r4 : (k : Int) < (m.length : Int) := by omega
              obtain ⟨px, ea, hx⟩ := Kd.at_int HX.out (i : Int) q1 r2
              cases ea
              replace hx := (HB.out.cell (World.block_lt_of_cell? w _ hx)).trans hx
              rw [Int.toNat_natCast] at hx
              obtain ⟨py, ea, hy⟩ := Kd.at_int HY.out (k : Int) q5 r4
              cases ea
              replace hy := (HB.out.cell (World.block_lt_of_cell? w _ hy)).trans hy
              rw [Int.toNat_natCast] at hy
              have a0 : wr.cell? ⟨w.heap.size, 0, none⟩ = some (.slice A0_0 F.length c0_0) := (blk_cell HA.out 0).trans rfl
              have a1 : wr.cell? ⟨w.heap.size, 1, none⟩ = some (.slice A0_1 L.length c0_1) := (blk_cell HA.out 1).trans rfl
              obtain ⟨x, hxe⟩ : ∃ x, x = rd l (i : Int) := ⟨_, rfl⟩
              obtain ⟨y, hye⟩ : ∃ y, y = rd m (k : Int) := ⟨_, rfl⟩
              rw [← hxe] at hx
              rw [← hye] at hy
              rw [rdn l i hix] at hxe
              rw [rdn m k hky] at hye
              have X0 := Aside0.mk (show x ≠ 0 by rw [hxe]; exact ZX.out _ (List.getElem_mem hix))
              have Y0 := Aside0.mk (show y ≠ 0 by rw [hye]; exact ZY.out _ (List.getElem_mem hky))
              have DX := Aside0.mk (show l.drop i = x :: l.drop (i + 1) by rw [hxe]; exact List.drop_eq_getElem_cons hix)
              have DY := Aside0.mk (show m.drop k = y :: m.drop (k + 1) by rw [hye]; exact List.drop_eq_getElem_cons hky)
              have bd := dd_in F L x y
              obtain ⟨r, hr⟩ : ∃ r, r = dd F L x y := ⟨_, rfl⟩
              rw [← hr] at bd
              obtain ⟨vb, hvb⟩ : ∃ v, v = r + c11 := ⟨_, rfl⟩
              obtain ⟨vl, hvl⟩ : ∃ v, v = 5 + c10 := ⟨_, rfl⟩
              obtain ⟨vr, hvr⟩ : ∃ v, v = 5 + c01 := ⟨_, rfl⟩
              obtain ⟨g, hg⟩ : ∃ g, g = min (min vb vl) vr := ⟨_, rfl⟩
              have SV1 : Aside0 (∃ v, arr[2 + i * 65 + k]? = some v) := ⟨⟨_, Array.getElem?_eq_getElem (by have := HT.out.size; omega)⟩⟩
              have SV2 : Aside0 (∃ v, arr[4227 + i * 65 + k]? = some v) := ⟨⟨_, Array.getElem?_eq_getElem (by have := HT.out.size; omega)⟩⟩
              have SNE := Aside0.mk (show 2 + i * 65 + k ≠ 4227 + i * 65 + k by omega)
              have LI := Aside0.mk (show i ≤ l.length by omega)
              have LK := Aside0.mk (show k ≤ m.length by omega)
              have OW0 := Aside0.mk (show -9223372036854775808 ≤ n11 ∧ n11 ≤ 9223372036854775807 by have := BM11.out; have := BM10.out; have := BM01.out; omega)
              have OW1 := Aside0.mk (show -9223372036854775808 ≤ n10 ∧ n10 ≤ 9223372036854775807 by have := BM11.out; have := BM10.out; have := BM01.out; omega)
              have OW2 := Aside0.mk (show -9223372036854775808 ≤ n01 ∧ n01 ≤ 9223372036854775807 by have := BM11.out; have := BM10.out; have := BM01.out; omega)
              have OW3 := Aside0.mk (show -9223372036854775808 ≤ n11 + n10 ∧ n11 + n10 ≤ 9223372036854775807 by have := BM11.out; have := BM10.out; have := BM01.out; omega)
              have OW4 := Aside0.mk (show -9223372036854775808 ≤ n11 + n01 ∧ n11 + n01 ≤ 9223372036854775807 by have := BM11.out; have := BM10.out; have := BM01.out; omega)
              have OW5 := Aside0.mk (show -9223372036854775808 ≤ n10 + n01 ∧ n10 + n01 ≤ 9223372036854775807 by have := BM11.out; have := BM10.out; have := BM01.out; omega)
              have OW6 := Aside0.mk (show -9223372036854775808 ≤ n11 + n10 + n01 ∧ n11 + n10 + n01 ≤ 9223372036854775807 by have := BM11.out; have := BM10.out; have := BM01.out; omega)
              have o1 : -9223372036854775808 ≤ dd F L x y + c11 ∧ dd F L x y + c11 ≤ 9223372036854775807 := by rw [← hr]; omega
              have o2 : -9223372036854775808 ≤ 5 + c10 ∧ 5 + c10 ≤ 9223372036854775807 := by omega
              have o3 : -9223372036854775808 ≤ 5 + c01 ∧ 5 + c01 ≤ 9223372036854775807 := by omega
              have o4 : -9223372036854775808 ≤ (i : Int) + 1 ∧ (i : Int) + 1 ≤ 9223372036854775807 := by omega
              have o5 : -9223372036854775808 ≤ (k : Int) + 1 ∧ (k : Int) + 1 ≤ 9223372036854775807 := by omega
              have o6 : dd F L x y + c11 = vb := by rw [hvb, hr]
              have hm3 := fun W => min3_run (P := Tryd.prog) (W := W) #[3, 3, 3] 3 vb vl vr g hg
              have HG := Aside0.mk (show g = cst (dd F L) (l.drop i) (m.drop k) by
                rw [hg, hvb, hvl, hvr, DX.out, DY.out, cst_cc, hr, CC11.out, CC10.out, CC01.out, DX.out, DY.out])
              have HM := Aside0.mk (show ¬ (vb ≠ g ∧ vl ≠ g ∧ vr ≠ g) by omega)
              have VB := Aside0.mk hvb
              have VL := Aside0.mk hvl
              have VR := Aside0.mk hvr
              have R0 := Aside0.mk hr
              have EI := Aside0.mk ei
              have EK := Aside0.mk ek
              have KK := HK.out
              have AA := HA.out
              have BB := HB.out
              have hwb : wrap64 (dd F L x y + c11) = vb := (w64 o1).trans o6
              have hwl : wrap64 (5 + c10) = vl := (w64 o2).trans hvl.symm
              have hwr : wrap64 (5 + c01) = vr := (w64 o3).trans hvr.symm
              have hwi : wrap64 ((i : Int) + 1) = (i : Int) + 1 := w64 o4
              have hwk : wrap64 ((k : Int) + 1) = (k : Int) + 1 := w64 o5
              have hwi2 : IntKind.i64.wrap ((i : Int) + 1) = (i : Int) + 1 := (i64_w _).trans hwi
              have hwk2 : IntKind.i64.wrap ((k : Int) + 1) = (k : Int) + 1 := (i64_w _).trans hwk
              have hwb2 : IntKind.i64.wrap (dd F L x y + c11) = vb := (i64_w _).trans hwb
              clear o1 o2 o3 o4 o5 o6
              clear hxe hye hr hvb hvl hvr hg bc11 bn11 bc10 bn10 bc01 bn01 bd ei ek hi hk hl hm hix hky
              go_wp2
              go_region_held3 (fun w' => w'.cell? ⟨w.heap.size, 0, none⟩ = some (.slice A0_0 F.length c0_0) ∧ w'.cell? ⟨w.heap.size, 1, none⟩ = some (.slice A0_1 L.length c0_1) ∧ w'.cell? (px.add i) = some (.int .i32 x) ∧ w'.cell? (py.add k) = some (.int .i32 y) ∧ w'.cell? ⟨w.heap.size + 1, 2 + (i + 1) * 65 + (k + 1), none⟩ = some (.int .i64 c11) ∧ w'.heap[w.heap.size + 1]? = some (.cells arr 78 (0, 0)) ∧ w'.heap[w.heap.size]? = some (.cells #[.slice A0_0 F.length c0_0, .slice A0_1 L.length c0_1] 25 (0, 0)) ∧ Below w.heap.size w w') (first | exact ⟨a0, a1, hx, hy, hc11, KK, AA, below_drew1 BB⟩ | exact FSt.step (A0 := A0_0) (n0 := F.length) (c0 := c0_0) (A1 := A0_1) (n1 := L.length) (c1 := c0_1) (px := px.add i) (py := py.add k) (pc := ⟨w.heap.size + 1, 2 + (i + 1) * 65 + (k + 1), none⟩) (x := x) (y := y) (c := c11) (arr := arr) (by unfold FSt; with_reducible assumption) hb) ((go_at_call 51; refine (far_litS (px := px.add i) (py := py.add k) (pc := ⟨w.heap.size + 1, 2 + (i + 1) * 65 + (k + 1), none⟩) (c := c11) (arr := arr) (w := w) ?cS HR0.out HC0.out HR1.out HC1.out X0.out Y0.out).mono ?_; (case cS => unfold FSt; with_reducible assumption); rintro e w2 ⟨rfl, hb⟩))
              have hS : FSt w A0_0 F.length c0_0 A0_1 L.length c0_1 (px.add i) (py.add k) ⟨w.heap.size + 1, 2 + (i + 1) * 65 + (k + 1), none⟩ x y c11 arr w2 := by unfold FSt; with_reducible assumption
              have KK2 := Aside0.mk hS.2.2.2.2.2.1
              have AA2 := Aside0.mk hS.2.2.2.2.2.2.1
              have BB2 := Aside0.mk hS.2.2.2.2.2.2.2
              have hc10 := (blk_cell KK2.out (2 + (i + 1) * 65 + k)).trans TC10.out
              have hc01 := (blk_cell KK2.out (2 + i * 65 + (k + 1))).trans TC01.out
              have hn11 := (blk_cell KK2.out (4227 + (i + 1) * 65 + (k + 1))).trans TN11.out
              have hn10 := (blk_cell KK2.out (4227 + (i + 1) * 65 + k)).trans TN10.out
              have hn01 := (blk_cell KK2.out (4227 + i * 65 + (k + 1))).trans TN01.out
              obtain ⟨v1, hv1⟩ := SV1.out
              obtain ⟨v2, hv2⟩ := SV2.out
              have st1 := (blk_cell KK2.out (2 + i * 65 + k)).trans hv1
              have hf := blk_frozen KK2.out
              have hk2 := blk_set KK2.out (2 + i * 65 + k) (.int .i64 g)
              have st2 := (blk_cell hk2 (4227 + i * 65 + k)).trans ((Array.getElem?_setIfInBounds_ne SNE.out).trans hv2)
              have hf2 := blk_frozen hk2
              clear hv1 hv2 hk2 hS KK AA BB HK HA HB hb TC11 TC10 TC01 TN11 TN10 TN01
              clear hc11 hx hy a0 a1
              by_cases t1 : vb = g
              · have f1 : (vb == g) = true := beq_iff_eq.2 t1
                by_cases t2 : vl = g
                · have f2 : (vl == g) = true := beq_iff_eq.2 t2
                  by_cases t3 : vr = g
                  · have f3 : (vr == g) = true := beq_iff_eq.2 t3
                    clear t1 t2 t3
                    obtain ⟨z, hz⟩ : ∃ z, z = min (n11 + n10 + n01) 1048577 := ⟨_, rfl⟩
                    have HZ := Aside0.mk (show z = mny (dd F L) (l.drop i) (m.drop k) from by
                      rw [DX.out, DY.out]
                      refine mny_step (dd F L) (n11 := n11) (n10 := n10) (n01 := n01) R0.out CC11.out (by rw [CC10.out, DY.out]) (by rw [CC01.out, DX.out]) NN11.out (by rw [NN10.out, DY.out]) (by rw [NN01.out, DX.out]) VB.out VL.out VR.out (by rw [HG.out, DX.out, DY.out]) f1 f2 f3 ?_
                      rw [hz]
                      simp)
                    have hm2 := fun W => min2_run (P := Tryd.prog) (W := W) #[3, 3] 3 (n11 + n10 + n01) 1048577 z hz
                    have hw0 : wrap64 (n11) = n11 := w64 OW0.out
                    have hw1 : wrap64 (n11 + n10) = n11 + n10 := w64 OW3.out
                    have hw2 : wrap64 (n11 + n10 + n01) = n11 + n10 + n01 := w64 OW6.out
                    clear hz
                    go_wp2
                    go_region
                    clear hwb hwl hwr hwi hwk hwi2 hwk2 hwb2 hm2 hm3 f1 f2 f3 hc10 hc01 hn11 hn10 hn01 st1 st2 hf hf2 hw0 hw1 hw2
                    go_wp2
                    go_roundw
                    case rel => exact ⟨k, ((arr.setIfInBounds (2 + i * 65 + k) (.int .i64 g)).setIfInBounds (4227 + i * 65 + k) (.int .i64 z)), (by first | rfl | rw [HW.out]), ⟨by have := HJ.out; omega⟩, ⟨blk_drew (blk_set (blk_set KK2.out _ _) _ _)⟩, ⟨blk_drew (blk_far (blk_far AA2.out (by simp) _) (by simp) _)⟩, ⟨(HT.out.put LX.out LY.out LI.out LK.out HG.out HZ.out).weak (fun p q hp hq h => by omega)⟩, ⟨below_drew1 (below_set (below_set BB2.out (by omega)) (by omega))⟩⟩
                    case measure =>
                      simp only [intOf]
                      first | omega | (rw [HW.out]; omega)
                  · have f3 : (vr == g) = false := beq_eq_false_iff_ne.2 t3
                    clear t1 t2 t3
                    obtain ⟨z, hz⟩ : ∃ z, z = min (n11 + n10) 1048577 := ⟨_, rfl⟩
                    have HZ := Aside0.mk (show z = mny (dd F L) (l.drop i) (m.drop k) from by
                      rw [DX.out, DY.out]
                      refine mny_step (dd F L) (n11 := n11) (n10 := n10) (n01 := n01) R0.out CC11.out (by rw [CC10.out, DY.out]) (by rw [CC01.out, DX.out]) NN11.out (by rw [NN10.out, DY.out]) (by rw [NN01.out, DX.out]) VB.out VL.out VR.out (by rw [HG.out, DX.out, DY.out]) f1 f2 f3 ?_
                      rw [hz]
                      simp)
                    have hm2 := fun W => min2_run (P := Tryd.prog) (W := W) #[3, 3] 3 (n11 + n10) 1048577 z hz
                    have hw0 : wrap64 (n11) = n11 := w64 OW0.out
                    have hw1 : wrap64 (n11 + n10) = n11 + n10 := w64 OW3.out
                    clear hz
                    go_wp2
                    go_region
                    clear hwb hwl hwr hwi hwk hwi2 hwk2 hwb2 hm2 hm3 f1 f2 f3 hc10 hc01 hn11 hn10 hn01 st1 st2 hf hf2 hw0 hw1
                    go_wp2
                    go_roundw
                    case rel => exact ⟨k, ((arr.setIfInBounds (2 + i * 65 + k) (.int .i64 g)).setIfInBounds (4227 + i * 65 + k) (.int .i64 z)), (by first | rfl | rw [HW.out]), ⟨by have := HJ.out; omega⟩, ⟨blk_drew (blk_set (blk_set KK2.out _ _) _ _)⟩, ⟨blk_drew (blk_far (blk_far AA2.out (by simp) _) (by simp) _)⟩, ⟨(HT.out.put LX.out LY.out LI.out LK.out HG.out HZ.out).weak (fun p q hp hq h => by omega)⟩, ⟨below_drew1 (below_set (below_set BB2.out (by omega)) (by omega))⟩⟩
                    case measure =>
                      simp only [intOf]
                      first | omega | (rw [HW.out]; omega)
                · have f2 : (vl == g) = false := beq_eq_false_iff_ne.2 t2
                  by_cases t3 : vr = g
                  · have f3 : (vr == g) = true := beq_iff_eq.2 t3
                    clear t1 t2 t3
                    obtain ⟨z, hz⟩ : ∃ z, z = min (n11 + n01) 1048577 := ⟨_, rfl⟩
                    have HZ := Aside0.mk (show z = mny (dd F L) (l.drop i) (m.drop k) from by
                      rw [DX.out, DY.out]
                      refine mny_step (dd F L) (n11 := n11) (n10 := n10) (n01 := n01) R0.out CC11.out (by rw [CC10.out, DY.out]) (by rw [CC01.out, DX.out]) NN11.out (by rw [NN10.out, DY.out]) (by rw [NN01.out, DX.out]) VB.out VL.out VR.out (by rw [HG.out, DX.out, DY.out]) f1 f2 f3 ?_
                      rw [hz]
                      simp)
                    have hm2 := fun W => min2_run (P := Tryd.prog) (W := W) #[3, 3] 3 (n11 + n01) 1048577 z hz
                    have hw0 : wrap64 (n11) = n11 := w64 OW0.out
                    have hw1 : wrap64 (n11 + n01) = n11 + n01 := w64 OW4.out
                    clear hz
                    go_wp2
                    go_region
                    clear hwb hwl hwr hwi hwk hwi2 hwk2 hwb2 hm2 hm3 f1 f2 f3 hc10 hc01 hn11 hn10 hn01 st1 st2 hf hf2 hw0 hw1
                    go_wp2
                    go_roundw
                    case rel => exact ⟨k, ((arr.setIfInBounds (2 + i * 65 + k) (.int .i64 g)).setIfInBounds (4227 + i * 65 + k) (.int .i64 z)), (by first | rfl | rw [HW.out]), ⟨by have := HJ.out; omega⟩, ⟨blk_drew (blk_set (blk_set KK2.out _ _) _ _)⟩, ⟨blk_drew (blk_far (blk_far AA2.out (by simp) _) (by simp) _)⟩, ⟨(HT.out.put LX.out LY.out LI.out LK.out HG.out HZ.out).weak (fun p q hp hq h => by omega)⟩, ⟨below_drew1 (below_set (below_set BB2.out (by omega)) (by omega))⟩⟩
                    case measure =>
                      simp only [intOf]
                      first | omega | (rw [HW.out]; omega)
                  · have f3 : (vr == g) = false := beq_eq_false_iff_ne.2 t3
                    clear t1 t2 t3
                    obtain ⟨z, hz⟩ : ∃ z, z = min (n11) 1048577 := ⟨_, rfl⟩
                    have HZ := Aside0.mk (show z = mny (dd F L) (l.drop i) (m.drop k) from by
                      rw [DX.out, DY.out]
                      refine mny_step (dd F L) (n11 := n11) (n10 := n10) (n01 := n01) R0.out CC11.out (by rw [CC10.out, DY.out]) (by rw [CC01.out, DX.out]) NN11.out (by rw [NN10.out, DY.out]) (by rw [NN01.out, DX.out]) VB.out VL.out VR.out (by rw [HG.out, DX.out, DY.out]) f1 f2 f3 ?_
                      rw [hz]
                      simp)
                    have hm2 := fun W => min2_run (P := Tryd.prog) (W := W) #[3, 3] 3 (n11) 1048577 z hz
                    have hw0 : wrap64 (n11) = n11 := w64 OW0.out
                    clear hz
                    go_wp2
                    go_region
                    clear hwb hwl hwr hwi hwk hwi2 hwk2 hwb2 hm2 hm3 f1 f2 f3 hc10 hc01 hn11 hn10 hn01 st1 st2 hf hf2 hw0
                    go_wp2
                    go_roundw
                    case rel => exact ⟨k, ((arr.setIfInBounds (2 + i * 65 + k) (.int .i64 g)).setIfInBounds (4227 + i * 65 + k) (.int .i64 z)), (by first | rfl | rw [HW.out]), ⟨by have := HJ.out; omega⟩, ⟨blk_drew (blk_set (blk_set KK2.out _ _) _ _)⟩, ⟨blk_drew (blk_far (blk_far AA2.out (by simp) _) (by simp) _)⟩, ⟨(HT.out.put LX.out LY.out LI.out LK.out HG.out HZ.out).weak (fun p q hp hq h => by omega)⟩, ⟨below_drew1 (below_set (below_set BB2.out (by omega)) (by omega))⟩⟩
                    case measure =>
                      simp only [intOf]
                      first | omega | (rw [HW.out]; omega)
              · have f1 : (vb == g) = false := beq_eq_false_iff_ne.2 t1
                by_cases t2 : vl = g
                · have f2 : (vl == g) = true := beq_iff_eq.2 t2
                  by_cases t3 : vr = g
                  · have f3 : (vr == g) = true := beq_iff_eq.2 t3
                    clear t1 t2 t3
                    obtain ⟨z, hz⟩ : ∃ z, z = min (n10 + n01) 1048577 := ⟨_, rfl⟩
                    have HZ := Aside0.mk (show z = mny (dd F L) (l.drop i) (m.drop k) from by
                      rw [DX.out, DY.out]
                      refine mny_step (dd F L) (n11 := n11) (n10 := n10) (n01 := n01) R0.out CC11.out (by rw [CC10.out, DY.out]) (by rw [CC01.out, DX.out]) NN11.out (by rw [NN10.out, DY.out]) (by rw [NN01.out, DX.out]) VB.out VL.out VR.out (by rw [HG.out, DX.out, DY.out]) f1 f2 f3 ?_
                      rw [hz]
                      simp)
                    have hm2 := fun W => min2_run (P := Tryd.prog) (W := W) #[3, 3] 3 (n10 + n01) 1048577 z hz
                    have hw0 : wrap64 (n10) = n10 := w64 OW1.out
                    have hw1 : wrap64 (n10 + n01) = n10 + n01 := w64 OW5.out
                    clear hz
                    go_wp2
                    go_region
                    clear hwb hwl hwr hwi hwk hwi2 hwk2 hwb2 hm2 hm3 f1 f2 f3 hc10 hc01 hn11 hn10 hn01 st1 st2 hf hf2 hw0 hw1
                    go_wp2
                    go_roundw
                    case rel => exact ⟨k, ((arr.setIfInBounds (2 + i * 65 + k) (.int .i64 g)).setIfInBounds (4227 + i * 65 + k) (.int .i64 z)), (by first | rfl | rw [HW.out]), ⟨by have := HJ.out; omega⟩, ⟨blk_drew (blk_set (blk_set KK2.out _ _) _ _)⟩, ⟨blk_drew (blk_far (blk_far AA2.out (by simp) _) (by simp) _)⟩, ⟨(HT.out.put LX.out LY.out LI.out LK.out HG.out HZ.out).weak (fun p q hp hq h => by omega)⟩, ⟨below_drew1 (below_set (below_set BB2.out (by omega)) (by omega))⟩⟩
                    case measure =>
                      simp only [intOf]
                      first | omega | (rw [HW.out]; omega)
                  · have f3 : (vr == g) = false := beq_eq_false_iff_ne.2 t3
                    clear t1 t2 t3
                    obtain ⟨z, hz⟩ : ∃ z, z = min (n10) 1048577 := ⟨_, rfl⟩
                    have HZ := Aside0.mk (show z = mny (dd F L) (l.drop i) (m.drop k) from by
                      rw [DX.out, DY.out]
                      refine mny_step (dd F L) (n11 := n11) (n10 := n10) (n01 := n01) R0.out CC11.out (by rw [CC10.out, DY.out]) (by rw [CC01.out, DX.out]) NN11.out (by rw [NN10.out, DY.out]) (by rw [NN01.out, DX.out]) VB.out VL.out VR.out (by rw [HG.out, DX.out, DY.out]) f1 f2 f3 ?_
                      rw [hz]
                      simp)
                    have hm2 := fun W => min2_run (P := Tryd.prog) (W := W) #[3, 3] 3 (n10) 1048577 z hz
                    have hw0 : wrap64 (n10) = n10 := w64 OW1.out
                    clear hz
                    go_wp2
                    go_region
                    clear hwb hwl hwr hwi hwk hwi2 hwk2 hwb2 hm2 hm3 f1 f2 f3 hc10 hc01 hn11 hn10 hn01 st1 st2 hf hf2 hw0
                    go_wp2
                    go_roundw
                    case rel => exact ⟨k, ((arr.setIfInBounds (2 + i * 65 + k) (.int .i64 g)).setIfInBounds (4227 + i * 65 + k) (.int .i64 z)), (by first | rfl | rw [HW.out]), ⟨by have := HJ.out; omega⟩, ⟨blk_drew (blk_set (blk_set KK2.out _ _) _ _)⟩, ⟨blk_drew (blk_far (blk_far AA2.out (by simp) _) (by simp) _)⟩, ⟨(HT.out.put LX.out LY.out LI.out LK.out HG.out HZ.out).weak (fun p q hp hq h => by omega)⟩, ⟨below_drew1 (below_set (below_set BB2.out (by omega)) (by omega))⟩⟩
                    case measure =>
                      simp only [intOf]
                      first | omega | (rw [HW.out]; omega)
                · have f2 : (vl == g) = false := beq_eq_false_iff_ne.2 t2
                  by_cases t3 : vr = g
                  · have f3 : (vr == g) = true := beq_iff_eq.2 t3
                    clear t1 t2 t3
                    obtain ⟨z, hz⟩ : ∃ z, z = min (n01) 1048577 := ⟨_, rfl⟩
                    have HZ := Aside0.mk (show z = mny (dd F L) (l.drop i) (m.drop k) from by
                      rw [DX.out, DY.out]
                      refine mny_step (dd F L) (n11 := n11) (n10 := n10) (n01 := n01) R0.out CC11.out (by rw [CC10.out, DY.out]) (by rw [CC01.out, DX.out]) NN11.out (by rw [NN10.out, DY.out]) (by rw [NN01.out, DX.out]) VB.out VL.out VR.out (by rw [HG.out, DX.out, DY.out]) f1 f2 f3 ?_
                      rw [hz]
                      simp)
                    have hm2 := fun W => min2_run (P := Tryd.prog) (W := W) #[3, 3] 3 (n01) 1048577 z hz
                    have hw0 : wrap64 (n01) = n01 := w64 OW2.out
                    clear hz
                    go_wp2
                    go_region
                    clear hwb hwl hwr hwi hwk hwi2 hwk2 hwb2 hm2 hm3 f1 f2 f3 hc10 hc01 hn11 hn10 hn01 st1 st2 hf hf2 hw0
                    go_wp2
                    go_roundw
                    case rel => exact ⟨k, ((arr.setIfInBounds (2 + i * 65 + k) (.int .i64 g)).setIfInBounds (4227 + i * 65 + k) (.int .i64 z)), (by first | rfl | rw [HW.out]), ⟨by have := HJ.out; omega⟩, ⟨blk_drew (blk_set (blk_set KK2.out _ _) _ _)⟩, ⟨blk_drew (blk_far (blk_far AA2.out (by simp) _) (by simp) _)⟩, ⟨(HT.out.put LX.out LY.out LI.out LK.out HG.out HZ.out).weak (fun p q hp hq h => by omega)⟩, ⟨below_drew1 (below_set (below_set BB2.out (by omega)) (by omega))⟩⟩
                    case measure =>
                      simp only [intOf]
                      first | omega | (rw [HW.out]; omega)
                  · have f3 : (vr == g) = false := beq_eq_false_iff_ne.2 t3
                    exact absurd ⟨t1, t2, t3⟩ HM.out
end Go.Proofs.YtjnikjnkmcbjfabDoor.X
