/- (*align.table).first, walked: the first alignment that costs the least, out of a filled table. -/
import Derived.Test.YtjnikjnkmcbjfabDoorGTab
import Derived.BigQuiet
import Derived.Deep.QuietTactic
namespace Go.Proofs.YtjnikjnkmcbjfabDoor.X
open Go.RowKit Go.Proofs.YtjnikjnkmcbjfabDoorW.PrintWords Go.Proofs.YtjnikjnkmcbjfabDoorW.PrintLast Go.Proofs.YtjnikjnkmcbjfabDoorW.PrintMore
set_option linter.unusedVariables false
set_option linter.unusedSimpArgs false
def prs (l : List (Int × Int)) : List S44 := l.map fun p => ⟨p.1, p.2⟩
theorem prs_cons (p : Int × Int) (l : List (Int × Int)) : prs (p :: l) = ⟨p.1, p.2⟩ :: prs l := rfl
/-- What stays while a cell's ways are asked. -/
def FS2 (u : World) (ab : Nat) (A0 : Option Addr) (n0 c0 : Nat) (A1 : Option Addr) (n1 c1 : Nat) (px py p0 p1 pc : Addr) (x y c : Int) (s0 s1 : Value) (w' : World) : Prop :=
  w'.cell? ⟨ab, 0, none⟩ = some (.slice A0 n0 c0) ∧ w'.cell? ⟨ab, 1, none⟩ = some (.slice A1 n1 c1) ∧ w'.cell? px = some (.int .i32 x) ∧ w'.cell? py = some (.int .i32 y) ∧ w'.cell? p0 = some s0 ∧ w'.cell? p1 = some s1 ∧ w'.cell? pc = some (.int .i64 c) ∧ Below u.heap.size u w'
theorem FS2.step {u : World} {ab : Nat} {A0 : Option Addr} {n0 c0 : Nat} {A1 : Option Addr} {n1 c1 : Nat} {px py p0 p1 pc : Addr} {x y c : Int} {s0 s1 : Value} {w' w2 : World} (h : FS2 u ab A0 n0 c0 A1 n1 c1 px py p0 p1 pc x y c s0 s1 w') (hb : Below w'.heap.size w' w2) : FS2 u ab A0 n0 c0 A1 n1 c1 px py p0 p1 pc x y c s0 s1 w2 := by
  obtain ⟨h1, h2, h3, h4, h5, h6, h7, h8⟩ := h
  exact ⟨pw_cell_below hb h1, pw_cell_below hb h2, pw_cell_below hb h3, pw_cell_below hb h4, pw_cell_below hb h5, pw_cell_below hb h6, pw_cell_below hb h7, below_step h8 hb⟩
theorem far_lit2 {u : World} {ab : Nat} {A0_0 : Option Addr} {c0_0 : Nat} {F : List ByteArray} {A0_1 : Option Addr} {c0_1 : Nat} {L : List S91} {px py p0 p1 pc : Addr} {x y c : Int} {s0 s1 : Value} {w' : World} (h : FS2 u ab A0_0 F.length c0_0 A0_1 L.length c0_1 px py p0 p1 pc x y c s0 s1 w') (hr0 : Kd.C Kd.string u A0_0 F.length F) (hc0 : F.length ≤ c0_0) (hr1 : Kd.C k91 u A0_1 L.length L) (hc1 : L.length ≤ c0_1) (hx : x ≠ 0) (hy : y ≠ 0) :
    Calls Tryd.prog 51 #[.agg #[.slice A0_0 F.length c0_0, .slice A0_1 L.length c0_1], .int .i32 x, .int .i32 y] w' fun e w2 => e = .returned (.int .i64 (dd F L x y)) ∧ Below w'.heap.size w' w2 :=
  align_far.calls A0_0 c0_0 F A0_1 c0_1 L x y _ w' (Kd.C_below hr0 h.2.2.2.2.2.2.2) hc0 (Kd.C_below hr1 h.2.2.2.2.2.2.2) hc1 (far3_eq F L x y hx hy)
def firstT : Bool × List (List Nat × List Nat) := (true, [([], []), ([], []), ([1], [1]), ([2], [2]), ([3], [3]), ([], []), ([4, 5], [4, 5]), ([6], [6]), ([], []), ([8], [8]), ([9], [9]), ([10], [10]), ([], []), ([11, 12], [11, 12]), ([13], [13]), ([7, 14], [7, 14]), ([15], [15]), ([0, 16], [0, 16]), ([17, 17, 0, 1, 2, 3, 4, 5, 6, 7, 8, 9, 10, 11, 12, 13, 14, 15, 16, 17], [0, 17])])
def firstTB : List Nat := [0, 0, 2, 6, 14, 0, 62, 126, 0, 256, 768, 1792, 0, 7936, 16128, 32766, 65534, 131071, 262143]
theorem firstT_t : rtab .any (opsOf Tryd.f60 8) = firstT := by kernel_rfl
theorem firstT_b : waitsOk firstT.2 firstTB = true := by kernel_rfl
set_option maxHeartbeats 8000000 in
set_option maxRecDepth 100000 in
theorem first_any (A0_0 : Option Addr) (c0_0 : Nat) (F : List ByteArray) (A0_1 : Option Addr) (c0_1 : Nat) (L : List S91) (Ax : Option Addr) (cx : Nat) (l : List Int) (Ay : Option Addr) (cy : Nat) (m : List Int) (b : Nat) (arr : Array Value) (w : World)
    (hr0_0 : Kd.C Kd.string w A0_0 F.length F) (hc0_0 : F.length ≤ c0_0) (hr0_1 : Kd.C k91 w A0_1 L.length L) (hc0_1 : L.length ≤ c0_1) (hrx : Kd.C (Kd.int .i32) w Ax l.length l) (hry : Kd.C (Kd.int .i32) w Ay m.length m)
    (hlx : l.length ≤ 64) (hly : m.length ≤ 64) (hzx : ∀ x ∈ l, x ≠ 0) (hzy : ∀ y ∈ m, y ≠ 0) (hk : w.heap[b]? = some (.cells arr 78 (0, 0))) (ht : TabOk (dd F L) l m arr (.slice Ax l.length cx) (.slice Ay m.length cy) (fun _ _ => True)) :
    Calls Tryd.prog 60 #[.pointer (some ⟨b, 0, none⟩), .agg #[.slice A0_0 F.length c0_0, .slice A0_1 L.length c0_1]] w fun e w' => ∃ v : Value, e = .returned v ∧ Kd.R k44 44 w' w.heap.size (fun _ => True) v (prs (fstA (dd F L) l m)) ∧ Below w.heap.size w w' := by
  have HR0 := Aside0.mk hr0_0
  have HC0 := Aside0.mk hc0_0
  have HR1 := Aside0.mk hr0_1
  have HC1 := Aside0.mk hc0_1
  have HX := Aside0.mk hrx
  have HY := Aside0.mk hry
  have ZX := Aside0.mk hzx
  have ZY := Aside0.mk hzy
  have LX := Aside0.mk hlx
  have LY := Aside0.mk hly
  have HK := Aside0.mk hk
  have HT := Aside0.mk ht
  have KA := Aside0.mk (blk_new w (.cells #[.slice A0_0 F.length c0_0, .slice A0_1 L.length c0_1] 25))
  have HB := Aside0.mk (below_alloc (Below.refl _ w) (.cells #[.slice A0_0 F.length c0_0, .slice A0_1 L.length c0_1] 25))
  obtain ⟨w1, hw1⟩ : ∃ w1, w1 = w.alloc (.cells #[.slice A0_0 F.length c0_0, .slice A0_1 L.length c0_1] 25) := ⟨_, rfl⟩
  have N1 := Aside0.mk hw1
  rw [← hw1] at KA HB
  clear hr0_0 hc0_0 hr0_1 hc0_1 hrx hry hzx hzy hlx hly hk ht hw1
  go_enter Tryd.func60, Tryd.ntmps60
  go_wp2
  go_loopw [5, 6, 7] (fun v5 v6 v7 w' => ∃ (i k : Nat) (o : List S44), v6 = .int .i64 (i : Int) ∧ v7 = .int .i64 (k : Int) ∧ Aside0 (i ≤ l.length) ∧ Aside0 (k ≤ m.length) ∧ Aside0 (prs (fstA (dd F L) l m) = o ++ prs (fstA (dd F L) (l.drop i) (m.drop k))) ∧ Aside0 (o.length ≤ i + k) ∧ Aside0 (Kd.R k44 44 w' w.heap.size (fun _ => True) v5 o) ∧ Aside0 (w'.heap[w.heap.size]? = some (.cells #[.slice A0_0 F.length c0_0, .slice A0_1 L.length c0_1] 25 (0, 0))) ∧ Aside0 (Below w.heap.size w w')) (fun _ v6 v7 _ => (l.length - (intOf v6).toNat) + (m.length - (intOf v7).toNat))
  case atStart => exact ⟨0, 0, [], rfl, rfl, ⟨Nat.zero_le _⟩, ⟨Nat.zero_le _⟩, ⟨rfl⟩, ⟨Nat.le_refl _⟩, ⟨Kd.R_nil _ _ _ _ _⟩, by rw [← N1.out]; exact KA, by rw [← N1.out]; exact HB⟩
  case round =>
    clear KA HB N1
    obtain ⟨i, k, o, rfl, rfl, HI, HJ, HE, HN, HO, HA, HB⟩ := hrel
    obtain ⟨Ao, co, eo, -, -⟩ := Kd.R_reads HO.out
    cases eo
    have KK := Aside0.mk (blk_below HK.out (Below.refl _ _) |> fun h => (HB.out.block b (blk_lt HK.out)).trans h)
    have t0 : wr.cell? ⟨b, 0, none⟩ = some (.slice Ax l.length cx) := (blk_cell KK.out 0).trans HT.out.left
    have t1 : wr.cell? ⟨b, 1, none⟩ = some (.slice Ay m.length cy) := (blk_cell KK.out 1).trans HT.out.right
    have a0 : wr.cell? ⟨w.heap.size, 0, none⟩ = some (.slice A0_0 F.length c0_0) := (blk_cell HA.out 0).trans rfl
    have a1 : wr.cell? ⟨w.heap.size, 1, none⟩ = some (.slice A0_1 L.length c0_1) := (blk_cell HA.out 1).trans rfl
    have hi := HI.out
    have hk := HJ.out
    have hl := LX.out
    have hm := LY.out
    obtain ⟨c, hcc⟩ : ∃ c, c = cst (dd F L) (l.drop i) (m.drop k) := ⟨_, rfl⟩
    have hc : wr.cell? ⟨b, 2 + i * 65 + k, none⟩ = some (.int .i64 c) := by rw [hcc]; exact (blk_cell KK.out (2 + i * 65 + k)).trans (HT.out.cost i k hi hk trivial)
    have q1 : (0 : Int) ≤ (i : Int) := by omega
    have q2 : (i : Int) < 65 := by omega
    have q5 : (0 : Int) ≤ (k : Int) := by omega
    have q6 : (k : Int) < 65 := by omega
    by_cases ei : i = l.length
    · have e1 : decide (i < l.length) = false := decide_eq_false (by omega)
      by_cases ek : k = m.length
      · have e2 : decide (k < m.length) = false := decide_eq_false (by omega)
        have he := HE.out
        rw [ei, ek, List.drop_length, List.drop_length, fst_nn] at he
        have RO := Aside0.mk (show Kd.R k44 44 wr w.heap.size (fun _ => True) (.slice Ao o.length co) (prs (fstA (dd F L) l m)) by rw [he, show prs [] = [] from rfl, List.append_nil]; exact HO.out)
        clear ei ek hi hk hl hm he hcc
        go_wp2
        go_ret
        exact ⟨_, rfl, RO.out, HB.out⟩
      · have e2 : decide (k < m.length) = true := decide_eq_true (by omega)
        have hylt : k < m.length := by omega
        have ry : (k : Int) < (m.length : Int) := by omega
        obtain ⟨py, ea, hy⟩ := Kd.at_int HY.out (k : Int) q5 ry
        cases ea
        replace hy := (HB.out.cell (World.block_lt_of_cell? w _ hy)).trans hy
        rw [Int.toNat_natCast] at hy
        obtain ⟨y, hye⟩ : ∃ z, z = rd m (k : Int) := ⟨_, rfl⟩
        rw [← hye] at hy
        rw [rdn m k hylt] at hye
        have Ny := Aside0.mk (show y ≠ 0 by rw [hye]; exact ZY.out _ (List.getElem_mem hylt))
        have Dy := Aside0.mk (show m.drop k = y :: m.drop (k + 1) by rw [hye]; exact List.drop_eq_getElem_cons hylt)
        have EI := Aside0.mk (show i = l.length from ei)
        have EK := Aside0.mk (show k < m.length from hylt)
        clear ei ek hi hk hl hm hcc hye hylt
        go_wp2
        go_quiet (fail)
        go_wp2_with ((with_reducible refine gate_builtin (b := .append) (xs := #[.tmp 33, .tmp 42]) rfl ?_); at_builtin; refine Kd.R_append k44 (w0 := w) w.heap.size rfl (.tmp 33) (.tmp 42) 33 44 (.agg #[(.int .i32 0), (.int .i32 0)]) 8 rfl Tryd.underlying33 info44 rfl (by decide) (by omega) (.slice Ao o.length co) o (⟨0, y⟩ : S44) [.int .i32 0, .int .i32 y] (fun _ => True) (fun _ => False) rfl rfl ?aP (fun _ hk => hk.elim) ?aF ?aO ?aB ?aS ?aL ?_; (case aP => exact k44_mkM _ _ _ (⟨0, y⟩ : S44)); (case aB => exact (by repeat (first | exact HB.out | (with_reducible first | apply pw_below_drewN | apply below_drew1)))); (case aF => exact (fun _ _ => trivial)); (case aO => exact (by repeat (first | exact HO.out | (with_reducible first | apply Kd.R_drewN | apply Kd.R_drew)))); (case aS => exact (below_size (by repeat (first | exact HB.out | (with_reducible first | apply pw_below_drewN | apply below_drew1))))); (case aL => have z1 := HN.out; have z2 := HI.out; have z3 := HJ.out; have z4 := LX.out; have z5 := LY.out; omega); intro v1 w9 ho hb hg hat; have OX := Aside0.mk ho; have BX := Aside0.mk hb; have AX := Aside0.mk (blk_grown (by repeat (first | exact HA.out | (with_reducible first | apply blk_drewN | apply blk_drew))) hg (Kd.R_ne HO.out HA.out (by decide))); clear ho hb hg hat)
        go_roundw
        case rel =>
          refine ⟨i, k + 1, o ++ [(⟨0, y⟩ : S44)], (by go_num), (by go_num), ⟨by have := EI.out; have := HI.out; omega⟩, ⟨by have := EK.out; have := HJ.out; omega⟩, ⟨?_⟩, ⟨?_⟩, OX, AX, BX⟩
          · rw [HE.out]
            rw [Dy.out, EI.out, List.drop_length, fst_nc]
            rw [prs_cons, List.append_assoc]
            rfl
          · have := HN.out
            rw [List.length_append]
            simp only [List.length_cons, List.length_nil]
            omega
        case measure =>
          have z1 := EI.out
          have z2 := EK.out
          have z3 := HI.out
          have z4 := HJ.out
          simp [intOf]
          omega
    · have e1 : decide (i < l.length) = true := decide_eq_true (by omega)
      by_cases ek : k = m.length
      · have e2 : decide (k < m.length) = false := decide_eq_false (by omega)
        have hxlt : i < l.length := by omega
        have rx : (i : Int) < (l.length : Int) := by omega
        obtain ⟨px, ea, hx⟩ := Kd.at_int HX.out (i : Int) q1 rx
        cases ea
        replace hx := (HB.out.cell (World.block_lt_of_cell? w _ hx)).trans hx
        rw [Int.toNat_natCast] at hx
        obtain ⟨x, hxe⟩ : ∃ z, z = rd l (i : Int) := ⟨_, rfl⟩
        rw [← hxe] at hx
        rw [rdn l i hxlt] at hxe
        have Nx := Aside0.mk (show x ≠ 0 by rw [hxe]; exact ZX.out _ (List.getElem_mem hxlt))
        have Dx := Aside0.mk (show l.drop i = x :: l.drop (i + 1) by rw [hxe]; exact List.drop_eq_getElem_cons hxlt)
        have q7 : (0 : Int) ≤ (i : Int) + 1 := by omega
        have q8 : (i : Int) + 1 < 65 := by omega
        obtain ⟨c10, hcc10⟩ : ∃ c, c = cst (dd F L) (l.drop (i + 1)) (m.drop k) := ⟨_, rfl⟩
        have hc10 : wr.cell? ⟨b, 2 + (i + 1) * 65 + k, none⟩ = some (.int .i64 c10) := by rw [hcc10]; exact (blk_cell KK.out (2 + (i + 1) * 65 + k)).trans (HT.out.cost (i + 1) k (by omega) hk trivial)
        have b10 := cst_le (dd F L) (l.drop (i + 1)) (m.drop k)
        have n10 := cst_ge (dd F L) (fun x y => (dd_in F L x y).1) (l.drop (i + 1)) (m.drop k)
        rw [← hcc10, List.length_drop, List.length_drop] at b10
        rw [← hcc10] at n10
        have o2 : -9223372036854775808 ≤ 5 + c10 ∧ 5 + c10 ≤ 9223372036854775807 := by omega
        have e5 : 5 + c10 = c := by rw [hcc, hcc10, Dx.out, ek, List.drop_length, cst_cn]
        have EI := Aside0.mk (show i < l.length from hxlt)
        have EK := Aside0.mk (show k = m.length from ek)
        have hw5 : wrap64 (5 + c10) = c := (w64 o2).trans e5
        clear o2 e5 b10 n10 hcc10 ei ek hi hk hl hm hcc hxe hxlt
        go_wp2
        go_quiet (fail)
        go_wp2_with ((with_reducible refine gate_builtin (b := .append) (xs := #[.tmp 138, .tmp 147]) rfl ?_); at_builtin; refine Kd.R_append k44 (w0 := w) w.heap.size rfl (.tmp 138) (.tmp 147) 33 44 (.agg #[(.int .i32 0), (.int .i32 0)]) 8 rfl Tryd.underlying33 info44 rfl (by decide) (by omega) (.slice Ao o.length co) o (⟨x, 0⟩ : S44) [.int .i32 x, .int .i32 0] (fun _ => True) (fun _ => False) rfl rfl ?aP (fun _ hk => hk.elim) ?aF ?aO ?aB ?aS ?aL ?_; (case aP => exact k44_mkM _ _ _ (⟨x, 0⟩ : S44)); (case aB => exact (by repeat (first | exact HB.out | (with_reducible first | apply pw_below_drewN | apply below_drew1)))); (case aF => exact (fun _ _ => trivial)); (case aO => exact (by repeat (first | exact HO.out | (with_reducible first | apply Kd.R_drewN | apply Kd.R_drew)))); (case aS => exact (below_size (by repeat (first | exact HB.out | (with_reducible first | apply pw_below_drewN | apply below_drew1))))); (case aL => have z1 := HN.out; have z2 := HI.out; have z3 := HJ.out; have z4 := LX.out; have z5 := LY.out; omega); intro v1 w9 ho hb hg hat; have OX := Aside0.mk ho; have BX := Aside0.mk hb; have AX := Aside0.mk (blk_grown (by repeat (first | exact HA.out | (with_reducible first | apply blk_drewN | apply blk_drew))) hg (Kd.R_ne HO.out HA.out (by decide))); clear ho hb hg hat)
        go_roundw
        case rel =>
          refine ⟨i + 1, k, o ++ [(⟨x, 0⟩ : S44)], (by go_num), (by go_num), ⟨by have := EI.out; have := HI.out; omega⟩, ⟨by have := EK.out; have := HJ.out; omega⟩, ⟨?_⟩, ⟨?_⟩, OX, AX, BX⟩
          · rw [HE.out]
            rw [Dx.out, EK.out, List.drop_length, fst_cn]
            rw [prs_cons, List.append_assoc]
            rfl
          · have := HN.out
            rw [List.length_append]
            simp only [List.length_cons, List.length_nil]
            omega
        case measure =>
          have z1 := EI.out
          have z2 := EK.out
          have z3 := HI.out
          have z4 := HJ.out
          simp [intOf]
          omega
      · have e2 : decide (k < m.length) = true := decide_eq_true (by omega)
        have hxlt : i < l.length := by omega
        have rx : (i : Int) < (l.length : Int) := by omega
        obtain ⟨px, ea, hx⟩ := Kd.at_int HX.out (i : Int) q1 rx
        cases ea
        replace hx := (HB.out.cell (World.block_lt_of_cell? w _ hx)).trans hx
        rw [Int.toNat_natCast] at hx
        obtain ⟨x, hxe⟩ : ∃ z, z = rd l (i : Int) := ⟨_, rfl⟩
        rw [← hxe] at hx
        rw [rdn l i hxlt] at hxe
        have Nx := Aside0.mk (show x ≠ 0 by rw [hxe]; exact ZX.out _ (List.getElem_mem hxlt))
        have Dx := Aside0.mk (show l.drop i = x :: l.drop (i + 1) by rw [hxe]; exact List.drop_eq_getElem_cons hxlt)
        have hylt : k < m.length := by omega
        have ry : (k : Int) < (m.length : Int) := by omega
        obtain ⟨py, ea, hy⟩ := Kd.at_int HY.out (k : Int) q5 ry
        cases ea
        replace hy := (HB.out.cell (World.block_lt_of_cell? w _ hy)).trans hy
        rw [Int.toNat_natCast] at hy
        obtain ⟨y, hye⟩ : ∃ z, z = rd m (k : Int) := ⟨_, rfl⟩
        rw [← hye] at hy
        rw [rdn m k hylt] at hye
        have Ny := Aside0.mk (show y ≠ 0 by rw [hye]; exact ZY.out _ (List.getElem_mem hylt))
        have Dy := Aside0.mk (show m.drop k = y :: m.drop (k + 1) by rw [hye]; exact List.drop_eq_getElem_cons hylt)
        have q7 : (0 : Int) ≤ (i : Int) + 1 := by omega
        have q8 : (i : Int) + 1 < 65 := by omega
        obtain ⟨c10, hcc10⟩ : ∃ c, c = cst (dd F L) (l.drop (i + 1)) (m.drop k) := ⟨_, rfl⟩
        have hc10 : wr.cell? ⟨b, 2 + (i + 1) * 65 + k, none⟩ = some (.int .i64 c10) := by rw [hcc10]; exact (blk_cell KK.out (2 + (i + 1) * 65 + k)).trans (HT.out.cost (i + 1) k (by omega) hk trivial)
        have b10 := cst_le (dd F L) (l.drop (i + 1)) (m.drop k)
        have n10 := cst_ge (dd F L) (fun x y => (dd_in F L x y).1) (l.drop (i + 1)) (m.drop k)
        rw [← hcc10, List.length_drop, List.length_drop] at b10
        rw [← hcc10] at n10
        have o2 : -9223372036854775808 ≤ 5 + c10 ∧ 5 + c10 ≤ 9223372036854775807 := by omega
        have q3 : (0 : Int) ≤ (k : Int) + 1 := by omega
        have q4 : (k : Int) + 1 < 65 := by omega
        obtain ⟨c11, hcc11⟩ : ∃ c, c = cst (dd F L) (l.drop (i + 1)) (m.drop (k + 1)) := ⟨_, rfl⟩
        have hc11 : wr.cell? ⟨b, 2 + (i + 1) * 65 + (k + 1), none⟩ = some (.int .i64 c11) := by rw [hcc11]; exact (blk_cell KK.out (2 + (i + 1) * 65 + (k + 1))).trans (HT.out.cost (i + 1) (k + 1) (by omega) (by omega) trivial)
        have b11 := cst_le (dd F L) (l.drop (i + 1)) (m.drop (k + 1))
        have n11 := cst_ge (dd F L) (fun x y => (dd_in F L x y).1) (l.drop (i + 1)) (m.drop (k + 1))
        rw [← hcc11, List.length_drop, List.length_drop] at b11
        rw [← hcc11] at n11
        have bd := dd_in F L x y
        have o1 : -9223372036854775808 ≤ dd F L x y + c11 ∧ dd F L x y + c11 ≤ 9223372036854775807 := by omega
        have o4 : -9223372036854775808 ≤ (i : Int) + 1 ∧ (i : Int) + 1 ≤ 9223372036854775807 := by omega
        have o5 : -9223372036854775808 ≤ (k : Int) + 1 ∧ (k : Int) + 1 ≤ 9223372036854775807 := by omega
        obtain ⟨vb, hvb⟩ : ∃ v, v = dd F L x y + c11 := ⟨_, rfl⟩
        obtain ⟨vl, hvl⟩ : ∃ v, v = 5 + c10 := ⟨_, rfl⟩
        have FB := Aside0.mk (show fstA (dd F L) (l.drop i) (m.drop k) = if c = vb then (x, y) :: fstA (dd F L) (l.drop (i + 1)) (m.drop (k + 1)) else if c = vl then (x, 0) :: fstA (dd F L) (l.drop (i + 1)) (m.drop k) else (0, y) :: fstA (dd F L) (l.drop i) (m.drop (k + 1)) by
          rw [hcc, hvb, hvl, hcc11, hcc10, Dx.out, Dy.out, fst_cc])
        have EI := Aside0.mk (show i < l.length from hxlt)
        have EK := Aside0.mk (show k < m.length from hylt)
        have AA := HA.out
        have R0 := Aside0.mk (Kd.C_below HR0.out HB.out)
        have R1 := Aside0.mk (Kd.C_below HR1.out HB.out)
        have UU := Below.refl wr.heap.size wr
        have hwb : wrap64 (dd F L x y + c11) = vb := (w64 o1).trans hvb.symm
        have hwl : wrap64 (5 + c10) = vl := (w64 o2).trans hvl.symm
        have hwi : wrap64 ((i : Int) + 1) = (i : Int) + 1 := w64 o4
        have hwk : wrap64 ((k : Int) + 1) = (k : Int) + 1 := w64 o5
        have hwb2 : IntKind.i64.wrap (dd F L x y + c11) = vb := (i64_w _).trans hwb
        have hwi2 : IntKind.i64.wrap ((i : Int) + 1) = (i : Int) + 1 := (i64_w _).trans hwi
        have hwk2 : IntKind.i64.wrap ((k : Int) + 1) = (k : Int) + 1 := (i64_w _).trans hwk
        clear o1 o2 o4 o5 b10 n10 hcc10 b11 n11 hcc11 bd hvb hvl ei ek hi hk hl hm hcc hxe hxlt hye hylt
        go_wp2
        by_cases hA : c = vb
        · have f1 : (c == vb) = true := beq_iff_eq.2 hA
          have FA := Aside0.mk hA
          clear hA
          go_region_held3 (fun w' => w'.cell? ⟨w.heap.size, 0, none⟩ = some (.slice A0_0 F.length c0_0) ∧ w'.cell? ⟨w.heap.size, 1, none⟩ = some (.slice A0_1 L.length c0_1) ∧ w'.cell? (px.add i) = some (.int .i32 x) ∧ w'.cell? (py.add k) = some (.int .i32 y) ∧ w'.cell? ⟨b, 0, none⟩ = some (.slice (some px) l.length cx) ∧ w'.cell? ⟨b, 1, none⟩ = some (.slice (some py) m.length cy) ∧ w'.cell? ⟨b, 2 + (i + 1) * 65 + (k + 1), none⟩ = some (.int .i64 c11) ∧ Below wr.heap.size wr w') (first | exact ⟨a0, a1, hx, hy, t0, t1, hc11, below_drew1 UU⟩ | exact FS2.step (A0 := A0_0) (n0 := F.length) (c0 := c0_0) (A1 := A0_1) (n1 := L.length) (c1 := c0_1) (x := x) (y := y) (ab := w.heap.size) (px := px.add i) (py := py.add k) (p0 := ⟨b, 0, none⟩) (p1 := ⟨b, 1, none⟩) (pc := ⟨b, 2 + (i + 1) * 65 + (k + 1), none⟩) (c := c11) (s0 := .slice (some px) l.length cx) (s1 := .slice (some py) m.length cy) (u := wr) (by unfold FS2; with_reducible assumption) hb) ((go_at_call 51; refine (far_lit2 (ab := w.heap.size) (px := px.add i) (py := py.add k) (p0 := ⟨b, 0, none⟩) (p1 := ⟨b, 1, none⟩) (pc := ⟨b, 2 + (i + 1) * 65 + (k + 1), none⟩) (c := c11) (s0 := .slice (some px) l.length cx) (s1 := .slice (some py) m.length cy) (u := wr) ?cS R0.out HC0.out R1.out HC1.out Nx.out Ny.out).mono ?_; (case cS => unfold FS2; with_reducible assumption); rintro e w2 ⟨rfl, hb⟩))
          have hS : FS2 wr w.heap.size A0_0 F.length c0_0 A0_1 L.length c0_1 (px.add i) (py.add k) ⟨b, 0, none⟩ ⟨b, 1, none⟩ ⟨b, 2 + (i + 1) * 65 + (k + 1), none⟩ x y c11 (.slice (some px) l.length cx) (.slice (some py) m.length cy) w2 := by unfold FS2; with_reducible assumption
          obtain ⟨-, -, hx2, hy2, t02, t12, -, hu⟩ := hS
          have HO2 := Aside0.mk (Kd.R_below HO.out hu)
          have HB2 := Aside0.mk (below_step HB.out hu)
          have HA2 := Aside0.mk (blk_below HA.out hu)
          have KK2 := Aside0.mk (blk_below KK.out hu)
          have hc102 := pw_cell_below hu hc10
          clear hb hu a0 a1 hx hy t0 t1 hc11 hc10 UU AA hc HO HB HA
          clear hc102
          go_wp2
          have HO3 := Aside0.mk (Kd.R_drew HO2.out)
          have HB3 := Aside0.mk (below_drew1 HB2.out)
          have HA3 := Aside0.mk (blk_drew HA2.out)
          clear KK2 HO2 HB2 HA2
          refine start_ (n := 19) (S := fun w' => w'.cell? (px.add i) = some (.int .i32 x) ∧ w'.cell? (py.add k) = some (.int .i32 y) ∧ w'.cell? ⟨b, 0, none⟩ = some (.slice (some px) l.length cx) ∧ w'.cell? ⟨b, 1, none⟩ = some (.slice (some py) m.length cy)) (ds := [16, 17]) #[false, false, false, false, false, false, false, false, false, false, false, false, false, false, false, false, false, false, false] (by kernel_rfl) rfl rfl ⟨hx2, hy2, t02, t12⟩ (fun hHeld => ?_)
          refine with_tabW firstT_t firstT_b (fun HT_ HW_ => ?_)
          generalize w2.drew = wd at HO3 HB3 HA3 hHeld ⊢
          refine pure_ (i := 0) (N := some 94) (v := ?_) (a' := ?_) #[true, false, false, false, false, false, false, false, false, false, false, false, false, false, false, false, false, false, false] rfl rfl (any_of HT_.out (by kernel_rfl)) (fun _ _ _ h => h) (Or.inl ⟨by rfl, ?_⟩) ?_ ?_
          rotate_left
          · intro w'
            go_simp
            with_reducible rfl
          rotate_left
          · simp only [Act.put, List.setIfInBounds_toArray, List.set_cons_zero, List.set_cons_succ, i64_w, i32_w]
            rfl
          refine pure_ (i := 1) (N := some 95) (v := ?_) (a' := ?_) #[true, true, false, false, false, false, false, false, false, false, false, false, false, false, false, false, false, false, false] rfl rfl (any_of HT_.out (by kernel_rfl)) (fun _ _ _ h => h) (Or.inl ⟨by rfl, ?_⟩) ?_ ?_
          rotate_left
          · intro w'
            go_simp
            with_reducible rfl
          rotate_left
          · simp only [Act.put, List.setIfInBounds_toArray, List.set_cons_zero, List.set_cons_succ, i64_w, i32_w]
            rfl
          refine pure_ (i := 2) (N := some 96) (v := ?_) (a' := ?_) #[true, true, true, false, false, false, false, false, false, false, false, false, false, false, false, false, false, false, false] rfl rfl (any_of HT_.out (by kernel_rfl)) (fun _ _ _ h => h) (Or.inl ⟨by rfl, ?_⟩) ?_ ?_
          rotate_left
          · intro w'
            go_simp
            with_reducible rfl
          rotate_left
          · simp only [Act.put, List.setIfInBounds_toArray, List.set_cons_zero, List.set_cons_succ, i64_w, i32_w]
            rfl
          refine pure_ (i := 3) (N := some 97) (v := ?_) (a' := ?_) #[true, true, true, true, false, false, false, false, false, false, false, false, false, false, false, false, false, false, false] rfl rfl (any_of HT_.out (by kernel_rfl)) (fun _ _ _ h => h) (Or.inl ⟨by rfl, ?_⟩) ?_ ?_
          rotate_left
          · intro w'
            go_simp
            with_reducible rfl
          rotate_left
          · simp only [Act.put, List.setIfInBounds_toArray, List.set_cons_zero, List.set_cons_succ, i64_w, i32_w]
            rfl
          refine take_ (i := 4) (N := some 98) (v := ?_) (a' := ?_) #[true, true, true, true, true, false, false, false, false, false, false, false, false, false, false, false, false, false, false] rfl rfl (take_ofW HT_.out HW_.out (by kernel_rfl)) (fun _ _ _ h => h) (Or.inl ⟨by rfl, ?_⟩) hHeld ?_ ?_
          rotate_left
          · rintro w' ⟨s0, s1, s2, s3⟩
            go_simp
            with_reducible rfl
          rotate_left
          · simp only [Act.put, List.setIfInBounds_toArray, List.set_cons_zero, List.set_cons_succ, i64_w, i32_w]
            rfl
          refine pure_ (i := 5) (N := some 99) (v := ?_) (a' := ?_) #[true, true, true, true, true, true, false, false, false, false, false, false, false, false, false, false, false, false, false] rfl rfl (any_of HT_.out (by kernel_rfl)) (fun _ _ _ h => h) (Or.inl ⟨by rfl, ?_⟩) ?_ ?_
          rotate_left
          · intro w'
            go_simp
            with_reducible rfl
          rotate_left
          · simp only [Act.put, List.setIfInBounds_toArray, List.set_cons_zero, List.set_cons_succ, i64_w, i32_w]
            rfl
          refine pure_ (i := 6) (N := some 100) (v := ?_) (a' := ?_) #[true, true, true, true, true, true, true, false, false, false, false, false, false, false, false, false, false, false, false] rfl rfl (any_of HT_.out (by kernel_rfl)) (fun _ _ _ h => h) (Or.inl ⟨by rfl, ?_⟩) ?_ ?_
          rotate_left
          · intro w'
            go_simp
            with_reducible rfl
          rotate_left
          · simp only [Act.put, List.setIfInBounds_toArray, List.set_cons_zero, List.set_cons_succ, i64_w, i32_w]
            rfl
          refine take_ (i := 7) (N := some 101) (v := ?_) (a' := ?_) #[true, true, true, true, true, true, true, true, false, false, false, false, false, false, false, false, false, false, false] rfl rfl (take_ofW HT_.out HW_.out (by kernel_rfl)) (fun _ _ _ h => h) (Or.inl ⟨by rfl, ?_⟩) hHeld ?_ ?_
          rotate_left
          · rintro w' ⟨s0, s1, s2, s3⟩
            go_simp
            with_reducible rfl
          rotate_left
          · simp only [Act.put, List.setIfInBounds_toArray, List.set_cons_zero, List.set_cons_succ, i64_w, i32_w]
            rfl
          refine pure_ (i := 8) (N := some 102) (v := ?_) (a' := ?_) #[true, true, true, true, true, true, true, true, true, false, false, false, false, false, false, false, false, false, false] rfl rfl (any_of HT_.out (by kernel_rfl)) (fun _ _ _ h => h) (Or.inl ⟨by rfl, ?_⟩) ?_ ?_
          rotate_left
          · intro w'
            go_simp
            with_reducible rfl
          rotate_left
          · simp only [Act.put, List.setIfInBounds_toArray, List.set_cons_zero, List.set_cons_succ, i64_w, i32_w]
            rfl
          refine pure_ (i := 9) (N := some 103) (v := ?_) (a' := ?_) #[true, true, true, true, true, true, true, true, true, true, false, false, false, false, false, false, false, false, false] rfl rfl (any_of HT_.out (by kernel_rfl)) (fun _ _ _ h => h) (Or.inl ⟨by rfl, ?_⟩) ?_ ?_
          rotate_left
          · intro w'
            go_simp
            with_reducible rfl
          rotate_left
          · simp only [Act.put, List.setIfInBounds_toArray, List.set_cons_zero, List.set_cons_succ, i64_w, i32_w]
            rfl
          refine pure_ (i := 10) (N := some 104) (v := ?_) (a' := ?_) #[true, true, true, true, true, true, true, true, true, true, true, false, false, false, false, false, false, false, false] rfl rfl (any_of HT_.out (by kernel_rfl)) (fun _ _ _ h => h) (Or.inl ⟨by rfl, ?_⟩) ?_ ?_
          rotate_left
          · intro w'
            go_simp
            with_reducible rfl
          rotate_left
          · simp only [Act.put, List.setIfInBounds_toArray, List.set_cons_zero, List.set_cons_succ, i64_w, i32_w]
            rfl
          refine take_ (i := 11) (N := some 105) (v := ?_) (a' := ?_) #[true, true, true, true, true, true, true, true, true, true, true, true, false, false, false, false, false, false, false] rfl rfl (take_ofW HT_.out HW_.out (by kernel_rfl)) (fun _ _ _ h => h) (Or.inl ⟨by rfl, ?_⟩) hHeld ?_ ?_
          rotate_left
          · rintro w' ⟨s0, s1, s2, s3⟩
            go_simp
            with_reducible rfl
          rotate_left
          · simp only [Act.put, List.setIfInBounds_toArray, List.set_cons_zero, List.set_cons_succ, i64_w, i32_w]
            rfl
          refine pure_ (i := 12) (N := some 106) (v := ?_) (a' := ?_) #[true, true, true, true, true, true, true, true, true, true, true, true, true, false, false, false, false, false, false] rfl rfl (any_of HT_.out (by kernel_rfl)) (fun _ _ _ h => h) (Or.inl ⟨by rfl, ?_⟩) ?_ ?_
          rotate_left
          · intro w'
            go_simp
            with_reducible rfl
          rotate_left
          · simp only [Act.put, List.setIfInBounds_toArray, List.set_cons_zero, List.set_cons_succ, i64_w, i32_w]
            rfl
          refine pure_ (i := 13) (N := some 107) (v := ?_) (a' := ?_) #[true, true, true, true, true, true, true, true, true, true, true, true, true, true, false, false, false, false, false] rfl rfl (any_of HT_.out (by kernel_rfl)) (fun _ _ _ h => h) (Or.inl ⟨by rfl, ?_⟩) ?_ ?_
          rotate_left
          · intro w'
            go_simp
            with_reducible rfl
          rotate_left
          · simp only [Act.put, List.setIfInBounds_toArray, List.set_cons_zero, List.set_cons_succ, i64_w, i32_w]
            rfl
          refine take_ (i := 14) (N := some 108) (v := ?_) (a' := ?_) #[true, true, true, true, true, true, true, true, true, true, true, true, true, true, true, false, false, false, false] rfl rfl (take_ofW HT_.out HW_.out (by kernel_rfl)) (fun _ _ _ h => h) (Or.inl ⟨by rfl, ?_⟩) hHeld ?_ ?_
          rotate_left
          · rintro w' ⟨s0, s1, s2, s3⟩
            go_simp
            with_reducible rfl
          rotate_left
          · simp only [Act.put, List.setIfInBounds_toArray, List.set_cons_zero, List.set_cons_succ, i64_w, i32_w]
            rfl
          refine pure_ (i := 15) (N := some 109) (v := ?_) (a' := ?_) #[true, true, true, true, true, true, true, true, true, true, true, true, true, true, true, true, false, false, false] rfl rfl (any_of HT_.out (by kernel_rfl)) (fun _ _ _ h => h) (Or.inl ⟨by rfl, ?_⟩) ?_ ?_
          rotate_left
          · intro w'
            go_simp
            with_reducible rfl
          rotate_left
          · simp only [Act.put, List.setIfInBounds_toArray, List.set_cons_zero, List.set_cons_succ, i64_w, i32_w]
            rfl
          refine last_ (i := 16) (N := some 110) #[true, true, true, true, true, true, true, true, true, true, true, true, true, true, true, true, true, false, false] rfl rfl (one_of HT_.out (by kernel_rfl)) (by decide) (fun K_ hK => ?_)
          refine value_ (w1 := ?_) (v := ?_) (by rfl) rfl ?_ ?_
          rotate_left 2
          · go_simp
            constructor
            · rfl
            · rfl
          refine hK.out _ _ ?_
          clear hK K_
          refine norm_ (a' := ?_) ?_ ?_
          rotate_left
          · show Act.put _ (some 110) _ = _
            simp only [Act.put, List.setIfInBounds_toArray, List.set_cons_zero, List.set_cons_succ, i64_w, i32_w]
            rfl
          refine last_ (i := 17) (N := some 111) #[true, true, true, true, true, true, true, true, true, true, true, true, true, true, true, true, true, true, false] rfl rfl (one_of HT_.out (by kernel_rfl)) (by decide) (fun K_ hK => ?_)
          refine Kd.R_append_step k44 (w0 := w) w.heap.size (by rfl) (.tmp 94) (.tmp 110) 33 44 (.agg #[(.int .i32 0), (.int .i32 0)]) 8 rfl Tryd.underlying33 info44 rfl (by decide) (by omega) (.slice Ao o.length co) o (⟨x, y⟩ : S44) [.int .i32 x, .int .i32 y] (fun _ => True) (fun _ => False) rfl rfl ?aP (fun _ hk => hk.elim) ?aF ?aO ?aB ?aS ?aL ?_
          (case aP => exact k44_mkM _ _ _ (⟨x, y⟩ : S44))
          (case aB => exact HB3.out)
          (case aF => exact (fun _ _ => trivial))
          (case aO => exact HO3.out)
          (case aS => exact (below_size HB3.out))
          (case aL => have z1 := HN.out; have z2 := HI.out; have z3 := HJ.out; have z4 := LX.out; have z5 := LY.out; omega)
          intro v1 w9 ho hb hg hat
          have OX := Aside0.mk ho
          have BX := Aside0.mk hb
          have AX := Aside0.mk (blk_grown HA3.out hg (Kd.R_ne HO3.out HA3.out (by decide)))
          clear ho hb hg hat HO3 HB3 HA3
          refine hK.out _ _ ?_
          clear hK K_
          refine norm_ (a' := ?_) ?_ ?_
          rotate_left
          · show Act.put _ (some 111) _ = _
            simp only [Act.put, List.setIfInBounds_toArray, List.set_cons_zero, List.set_cons_succ, i64_w, i32_w]
            rfl
          refine pure_ (i := 18) (N := some 5) (v := ?_) (a' := ?_) #[true, true, true, true, true, true, true, true, true, true, true, true, true, true, true, true, true, true, true] rfl rfl (any_of HT_.out (by kernel_rfl)) (fun _ _ _ h => h) (Or.inl ⟨by rfl, ?_⟩) ?_ ?_
          rotate_left
          · intro w'
            go_simp
            with_reducible rfl
          rotate_left
          · simp only [Act.put, List.setIfInBounds_toArray, List.set_cons_zero, List.set_cons_succ, i64_w, i32_w]
            rfl
          refine done_ (done_of HT_.out (by kernel_rfl)) ?_
          clear hwb hwl hwi hwk hwb2 hwi2 hwk2 hx2 hy2 t02 t12 hHeld HT_ HW_
          try go_wp2
          go_roundw
          case rel =>
            refine ⟨i + 1, k + 1, o ++ [(⟨x, y⟩ : S44)], (by go_num), (by go_num), ⟨by have := EI.out; have := HI.out; omega⟩, ⟨by have := EK.out; have := HJ.out; omega⟩, ⟨?_⟩, ⟨?_⟩, OX, AX, BX⟩
            · rw [HE.out]
              rw [FB.out, if_pos FA.out]
              rw [prs_cons, List.append_assoc]
              rfl
            · have := HN.out
              rw [List.length_append]
              simp only [List.length_cons, List.length_nil]
              omega
          case measure =>
            have z1 := EI.out
            have z2 := EK.out
            have z3 := HI.out
            have z4 := HJ.out
            simp [intOf]
            omega
        · have f1 : (c == vb) = false := beq_eq_false_iff_ne.2 hA
          have FA := Aside0.mk hA
          clear hA
          by_cases hL : c = vl
          · have f2 : (c == vl) = true := beq_iff_eq.2 hL
            have FL := Aside0.mk hL
            clear hL
            go_region_held3 (fun w' => w'.cell? ⟨w.heap.size, 0, none⟩ = some (.slice A0_0 F.length c0_0) ∧ w'.cell? ⟨w.heap.size, 1, none⟩ = some (.slice A0_1 L.length c0_1) ∧ w'.cell? (px.add i) = some (.int .i32 x) ∧ w'.cell? (py.add k) = some (.int .i32 y) ∧ w'.cell? ⟨b, 0, none⟩ = some (.slice (some px) l.length cx) ∧ w'.cell? ⟨b, 1, none⟩ = some (.slice (some py) m.length cy) ∧ w'.cell? ⟨b, 2 + (i + 1) * 65 + (k + 1), none⟩ = some (.int .i64 c11) ∧ Below wr.heap.size wr w') (first | exact ⟨a0, a1, hx, hy, t0, t1, hc11, below_drew1 UU⟩ | exact FS2.step (A0 := A0_0) (n0 := F.length) (c0 := c0_0) (A1 := A0_1) (n1 := L.length) (c1 := c0_1) (x := x) (y := y) (ab := w.heap.size) (px := px.add i) (py := py.add k) (p0 := ⟨b, 0, none⟩) (p1 := ⟨b, 1, none⟩) (pc := ⟨b, 2 + (i + 1) * 65 + (k + 1), none⟩) (c := c11) (s0 := .slice (some px) l.length cx) (s1 := .slice (some py) m.length cy) (u := wr) (by unfold FS2; with_reducible assumption) hb) ((go_at_call 51; refine (far_lit2 (ab := w.heap.size) (px := px.add i) (py := py.add k) (p0 := ⟨b, 0, none⟩) (p1 := ⟨b, 1, none⟩) (pc := ⟨b, 2 + (i + 1) * 65 + (k + 1), none⟩) (c := c11) (s0 := .slice (some px) l.length cx) (s1 := .slice (some py) m.length cy) (u := wr) ?cS R0.out HC0.out R1.out HC1.out Nx.out Ny.out).mono ?_; (case cS => unfold FS2; with_reducible assumption); rintro e w2 ⟨rfl, hb⟩))
            have hS : FS2 wr w.heap.size A0_0 F.length c0_0 A0_1 L.length c0_1 (px.add i) (py.add k) ⟨b, 0, none⟩ ⟨b, 1, none⟩ ⟨b, 2 + (i + 1) * 65 + (k + 1), none⟩ x y c11 (.slice (some px) l.length cx) (.slice (some py) m.length cy) w2 := by unfold FS2; with_reducible assumption
            obtain ⟨-, -, hx2, hy2, t02, t12, -, hu⟩ := hS
            have HO2 := Aside0.mk (Kd.R_below HO.out hu)
            have HB2 := Aside0.mk (below_step HB.out hu)
            have HA2 := Aside0.mk (blk_below HA.out hu)
            have KK2 := Aside0.mk (blk_below KK.out hu)
            have hc102 := pw_cell_below hu hc10
            clear hb hu a0 a1 hx hy t0 t1 hc11 hc10 UU AA hc HO HB HA
            go_wp2_with ((with_reducible refine gate_builtin (b := .append) (xs := #[.tmp 138, .tmp 147]) rfl ?_); at_builtin; refine Kd.R_append k44 (w0 := w) w.heap.size rfl (.tmp 138) (.tmp 147) 33 44 (.agg #[(.int .i32 0), (.int .i32 0)]) 8 rfl Tryd.underlying33 info44 rfl (by decide) (by omega) (.slice Ao o.length co) o (⟨x, 0⟩ : S44) [.int .i32 x, .int .i32 0] (fun _ => True) (fun _ => False) rfl rfl ?aP (fun _ hk => hk.elim) ?aF ?aO ?aB ?aS ?aL ?_; (case aP => exact k44_mkM _ _ _ (⟨x, 0⟩ : S44)); (case aB => exact (by repeat (first | exact HB2.out | (with_reducible first | apply pw_below_drewN | apply below_drew1)))); (case aF => exact (fun _ _ => trivial)); (case aO => exact (by repeat (first | exact HO2.out | (with_reducible first | apply Kd.R_drewN | apply Kd.R_drew)))); (case aS => exact (below_size (by repeat (first | exact HB2.out | (with_reducible first | apply pw_below_drewN | apply below_drew1))))); (case aL => have z1 := HN.out; have z2 := HI.out; have z3 := HJ.out; have z4 := LX.out; have z5 := LY.out; omega); intro v1 w9 ho hb hg hat; have OX := Aside0.mk ho; have BX := Aside0.mk hb; have AX := Aside0.mk (blk_grown (by repeat (first | exact HA2.out | (with_reducible first | apply blk_drewN | apply blk_drew))) hg (Kd.R_ne HO2.out HA2.out (by decide))); clear ho hb hg hat)
            clear hwb hwl hwi hwk hwb2 hwi2 hwk2
            go_roundw
            case rel =>
              refine ⟨i + 1, k, o ++ [(⟨x, 0⟩ : S44)], (by go_num), (by go_num), ⟨by have := EI.out; have := HI.out; omega⟩, ⟨by have := EK.out; have := HJ.out; omega⟩, ⟨?_⟩, ⟨?_⟩, OX, AX, BX⟩
              · rw [HE.out]
                rw [FB.out, if_neg FA.out, if_pos FL.out]
                rw [prs_cons, List.append_assoc]
                rfl
              · have := HN.out
                rw [List.length_append]
                simp only [List.length_cons, List.length_nil]
                omega
            case measure =>
              have z1 := EI.out
              have z2 := EK.out
              have z3 := HI.out
              have z4 := HJ.out
              simp [intOf]
              omega
          · have f2 : (c == vl) = false := beq_eq_false_iff_ne.2 hL
            have FL := Aside0.mk hL
            clear hL
            go_region_held3 (fun w' => w'.cell? ⟨w.heap.size, 0, none⟩ = some (.slice A0_0 F.length c0_0) ∧ w'.cell? ⟨w.heap.size, 1, none⟩ = some (.slice A0_1 L.length c0_1) ∧ w'.cell? (px.add i) = some (.int .i32 x) ∧ w'.cell? (py.add k) = some (.int .i32 y) ∧ w'.cell? ⟨b, 0, none⟩ = some (.slice (some px) l.length cx) ∧ w'.cell? ⟨b, 1, none⟩ = some (.slice (some py) m.length cy) ∧ w'.cell? ⟨b, 2 + (i + 1) * 65 + (k + 1), none⟩ = some (.int .i64 c11) ∧ Below wr.heap.size wr w') (first | exact ⟨a0, a1, hx, hy, t0, t1, hc11, below_drew1 UU⟩ | exact FS2.step (A0 := A0_0) (n0 := F.length) (c0 := c0_0) (A1 := A0_1) (n1 := L.length) (c1 := c0_1) (x := x) (y := y) (ab := w.heap.size) (px := px.add i) (py := py.add k) (p0 := ⟨b, 0, none⟩) (p1 := ⟨b, 1, none⟩) (pc := ⟨b, 2 + (i + 1) * 65 + (k + 1), none⟩) (c := c11) (s0 := .slice (some px) l.length cx) (s1 := .slice (some py) m.length cy) (u := wr) (by unfold FS2; with_reducible assumption) hb) ((go_at_call 51; refine (far_lit2 (ab := w.heap.size) (px := px.add i) (py := py.add k) (p0 := ⟨b, 0, none⟩) (p1 := ⟨b, 1, none⟩) (pc := ⟨b, 2 + (i + 1) * 65 + (k + 1), none⟩) (c := c11) (s0 := .slice (some px) l.length cx) (s1 := .slice (some py) m.length cy) (u := wr) ?cS R0.out HC0.out R1.out HC1.out Nx.out Ny.out).mono ?_; (case cS => unfold FS2; with_reducible assumption); rintro e w2 ⟨rfl, hb⟩))
            have hS : FS2 wr w.heap.size A0_0 F.length c0_0 A0_1 L.length c0_1 (px.add i) (py.add k) ⟨b, 0, none⟩ ⟨b, 1, none⟩ ⟨b, 2 + (i + 1) * 65 + (k + 1), none⟩ x y c11 (.slice (some px) l.length cx) (.slice (some py) m.length cy) w2 := by unfold FS2; with_reducible assumption
            obtain ⟨-, -, hx2, hy2, t02, t12, -, hu⟩ := hS
            have HO2 := Aside0.mk (Kd.R_below HO.out hu)
            have HB2 := Aside0.mk (below_step HB.out hu)
            have HA2 := Aside0.mk (blk_below HA.out hu)
            have KK2 := Aside0.mk (blk_below KK.out hu)
            have hc102 := pw_cell_below hu hc10
            clear hb hu a0 a1 hx hy t0 t1 hc11 hc10 UU AA hc HO HB HA
            go_wp2_with ((with_reducible refine gate_builtin (b := .append) (xs := #[.tmp 33, .tmp 42]) rfl ?_); at_builtin; refine Kd.R_append k44 (w0 := w) w.heap.size rfl (.tmp 33) (.tmp 42) 33 44 (.agg #[(.int .i32 0), (.int .i32 0)]) 8 rfl Tryd.underlying33 info44 rfl (by decide) (by omega) (.slice Ao o.length co) o (⟨0, y⟩ : S44) [.int .i32 0, .int .i32 y] (fun _ => True) (fun _ => False) rfl rfl ?aP (fun _ hk => hk.elim) ?aF ?aO ?aB ?aS ?aL ?_; (case aP => exact k44_mkM _ _ _ (⟨0, y⟩ : S44)); (case aB => exact (by repeat (first | exact HB2.out | (with_reducible first | apply pw_below_drewN | apply below_drew1)))); (case aF => exact (fun _ _ => trivial)); (case aO => exact (by repeat (first | exact HO2.out | (with_reducible first | apply Kd.R_drewN | apply Kd.R_drew)))); (case aS => exact (below_size (by repeat (first | exact HB2.out | (with_reducible first | apply pw_below_drewN | apply below_drew1))))); (case aL => have z1 := HN.out; have z2 := HI.out; have z3 := HJ.out; have z4 := LX.out; have z5 := LY.out; omega); intro v1 w9 ho hb hg hat; have OX := Aside0.mk ho; have BX := Aside0.mk hb; have AX := Aside0.mk (blk_grown (by repeat (first | exact HA2.out | (with_reducible first | apply blk_drewN | apply blk_drew))) hg (Kd.R_ne HO2.out HA2.out (by decide))); clear ho hb hg hat)
            clear hwb hwl hwi hwk hwb2 hwi2 hwk2
            go_roundw
            case rel =>
              refine ⟨i, k + 1, o ++ [(⟨0, y⟩ : S44)], (by go_num), (by go_num), ⟨by have := EI.out; have := HI.out; omega⟩, ⟨by have := EK.out; have := HJ.out; omega⟩, ⟨?_⟩, ⟨?_⟩, OX, AX, BX⟩
              · rw [HE.out]
                rw [FB.out, if_neg FA.out, if_neg FL.out]
                rw [prs_cons, List.append_assoc]
                rfl
              · have := HN.out
                rw [List.length_append]
                simp only [List.length_cons, List.length_nil]
                omega
            case measure =>
              have z1 := EI.out
              have z2 := EK.out
              have z3 := HI.out
              have z4 := HJ.out
              simp [intOf]
              omega
end Go.Proofs.YtjnikjnkmcbjfabDoor.X
