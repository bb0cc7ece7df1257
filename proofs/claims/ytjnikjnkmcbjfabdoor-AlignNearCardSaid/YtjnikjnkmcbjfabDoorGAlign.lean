/- align.tabled, align.Words and align.Many, walked. -/
import Derived.Test.YtjnikjnkmcbjfabDoorGFirst
import Derived.Test.YtjnikjnkmcbjfabDoorPWord
namespace Go.Proofs.YtjnikjnkmcbjfabDoor.X
open Go.RowKit Go.Proofs.YtjnikjnkmcbjfabDoorW.PrintWords Go.Proofs.YtjnikjnkmcbjfabDoorW.PrintLast Go.Proofs.YtjnikjnkmcbjfabDoorW.PrintMore
set_option linter.unusedVariables false
set_option linter.unusedSimpArgs false
theorem letter_ne {x : Int} (h : letterB x = true) : x ≠ 0 := by
  rintro rfl
  exact absurd h (by decide)
theorem lettersV_ne (F : List ByteArray) (L : List S91) (s : ByteArray) : ∀ x ∈ (lettersV F L s).1, x ≠ 0 := fun x hx => letter_ne (lettersV_letter F L s x hx)
/-- What align.Words tells. -/
def wordsV (F : List ByteArray) (L : List S91) (s t : ByteArray) : Int × List S44 × Int :=
  if (lettersV F L s).2 = 0 then (if (lettersV F L t).2 = 0 then (cst (dd F L) (lettersV F L s).1 (lettersV F L t).1, prs (fstA (dd F L) (lettersV F L s).1 (lettersV F L t).1), 0) else (0, [], (lettersV F L t).2)) else (0, [], (lettersV F L s).2)
/-- What align.Many tells. -/
def manyV (F : List ByteArray) (L : List S91) (s t : ByteArray) (q : Int) : Int × Int :=
  if (lettersV F L s).2 = 0 then (if (lettersV F L t).2 = 0 then (if q < 0 ∨ 1048576 < q then (0, 2) else (min (mny (dd F L) (lettersV F L s).1 (lettersV F L t).1) q, 0)) else (0, (lettersV F L t).2)) else (0, (lettersV F L s).2)
def align_Words.f (F : List ByteArray) (L : List S91) (s t : ByteArray) : Option (Int × List S44 × Int) := some (wordsV F L s t)
def align_Many.f (F : List ByteArray) (L : List S91) (s t : ByteArray) (q : Int) : Option (Int × Int) := some (manyV F L s t q)
set_option maxHeartbeats 2000000 in
set_option maxRecDepth 100000 in
theorem tabled_any (A0_0 : Option Addr) (c0_0 : Nat) (l0_0 : List ByteArray) (A0_1 : Option Addr) (c0_1 : Nat) (l0_1 : List S91) (a1 : ByteArray) (a2 : ByteArray) (w : World) (hT0 : Tabs w) (hr0_0 : Kd.C Kd.string w A0_0 l0_0.length l0_0) (hc0_0 : l0_0.length ≤ c0_0) (hr0_1 : Kd.C k91 w A0_1 l0_1.length l0_1) (hc0_1 : l0_1.length ≤ c0_1) :
    Calls Tryd.prog 59 #[.agg #[.slice A0_0 l0_0.length c0_0, .slice A0_1 l0_1.length c0_1], .string a1, .string a2] w fun e w' => Below w.heap.size w w' ∧ ((lettersV l0_0 l0_1 a1).2 ≠ 0 ∧ e = .returned (.tuple #[.pointer none, .int .i64 (lettersV l0_0 l0_1 a1).2]) ∨ (lettersV l0_0 l0_1 a1).2 = 0 ∧ (lettersV l0_0 l0_1 a2).2 ≠ 0 ∧ e = .returned (.tuple #[.pointer none, .int .i64 (lettersV l0_0 l0_1 a2).2]) ∨
      (lettersV l0_0 l0_1 a1).2 = 0 ∧ (lettersV l0_0 l0_1 a2).2 = 0 ∧ ∃ (b : Nat) (arr : Array Value) (Ax : Option Addr) (cx : Nat) (Ay : Option Addr) (cy : Nat), e = .returned (.tuple #[.pointer (some ⟨b, 0, none⟩), .int .i64 0]) ∧ w'.heap[b]? = some (.cells arr 78 (0, 0)) ∧ TabOk (dd l0_0 l0_1) (lettersV l0_0 l0_1 a1).1 (lettersV l0_0 l0_1 a2).1 arr (.slice Ax (lettersV l0_0 l0_1 a1).1.length cx) (.slice Ay (lettersV l0_0 l0_1 a2).1.length cy) (fun _ _ => True) ∧ Kd.C (Kd.int .i32) w' Ax (lettersV l0_0 l0_1 a1).1.length (lettersV l0_0 l0_1 a1).1 ∧ Kd.C (Kd.int .i32) w' Ay (lettersV l0_0 l0_1 a2).1.length (lettersV l0_0 l0_1 a2).1) := by
  have HR0 := Aside0.mk hr0_0
  have HC0 := Aside0.mk hc0_0
  have HR1 := Aside0.mk hr0_1
  have HC1 := Aside0.mk hc0_1
  have HT := Aside0.mk hT0
  have KA := Aside0.mk (blk_new w (.cells #[.slice A0_0 l0_0.length c0_0, .slice A0_1 l0_1.length c0_1] 25))
  have HB := Aside0.mk (below_alloc (Below.refl _ w) (.cells #[.slice A0_0 l0_0.length c0_0, .slice A0_1 l0_1.length c0_1] 25))
  have h1 := lettersV_len l0_0 l0_1 a1
  have h2 := lettersV_len l0_0 l0_1 a2
  have z1 := lettersV_ne l0_0 l0_1 a1
  have z2 := lettersV_ne l0_0 l0_1 a2
  have hl1 : word_Letters.f l0_0 l0_1 a1 = some ((lettersV l0_0 l0_1 a1).1, (lettersV l0_0 l0_1 a1).2) := letters_eq l0_0 l0_1 a1
  have hl2 : word_Letters.f l0_0 l0_1 a2 = some ((lettersV l0_0 l0_1 a2).1, (lettersV l0_0 l0_1 a2).2) := letters_eq l0_0 l0_1 a2
  generalize (lettersV l0_0 l0_1 a1).1 = l at h1 z1 hl1 ⊢
  generalize (lettersV l0_0 l0_1 a2).1 = m at h2 z2 hl2 ⊢
  generalize (lettersV l0_0 l0_1 a1).2 = e1 at hl1 ⊢
  generalize (lettersV l0_0 l0_1 a2).2 = e2 at hl2 ⊢
  have HL1 := Aside0.mk hl1
  have HL2 := Aside0.mk hl2
  have LX := Aside0.mk h1
  have LY := Aside0.mk h2
  have ZX := Aside0.mk z1
  have ZY := Aside0.mk z2
  clear hr0_0 hc0_0 hr0_1 hc0_1 hT0 h1 h2 z1 z2 hl1 hl2
  by_cases he1 : e1 = 0
  · have b1 : (e1 != 0) = false := bne_eq_false_iff_eq.mpr he1
    have E1 := Aside0.mk he1
    clear he1
    by_cases he2 : e2 = 0
    · have b2 : (e2 != 0) = false := bne_eq_false_iff_eq.mpr he2
      have E2 := Aside0.mk he2
      clear he2
      go_enter Tryd.func59, Tryd.ntmps59
      go_wp2_with fail
      refine (word_Letters.calls _ _ l0_0 _ _ l0_1 a1 l e1 _ (HT.out.below HB.out) (Kd.C_below HR0.out HB.out) HC0.out (Kd.C_below HR1.out HB.out) HC1.out HL1.out).mono ?_
      rintro e w2 ⟨v, rfl, hv, hb⟩
      obtain ⟨Ax, cx, rfl, hlc, hC⟩ := Kd.R_reads hv
      have n_ := Aside0.mk (below_step HB.out hb)
      clear HB
      have HB := n_
      clear n_
      have n_ := Aside0.mk (blk_below KA.out hb)
      clear KA
      have KA := n_
      clear n_
      have LC1 := Aside0.mk hlc
      have CX := Aside0.mk hC
      clear hv hb hlc hC
      have k0 : w2.cell? ⟨w.heap.size, 0, none⟩ = some (.slice A0_0 l0_0.length c0_0) := (blk_cell KA.out 0).trans rfl
      have k1 : w2.cell? ⟨w.heap.size, 1, none⟩ = some (.slice A0_1 l0_1.length c0_1) := (blk_cell KA.out 1).trans rfl
      go_wp2_with fail
      refine (word_Letters.calls _ _ l0_0 _ _ l0_1 a2 m e2 _ (HT.out.below HB.out) (Kd.C_below HR0.out HB.out) HC0.out (Kd.C_below HR1.out HB.out) HC1.out HL2.out).mono ?_
      rintro e w3 ⟨v, rfl, hv, hb⟩
      obtain ⟨Ay, cy, rfl, hlc, hC⟩ := Kd.R_reads hv
      have n_ := Aside0.mk (below_step HB.out hb)
      clear HB
      have HB := n_
      clear n_
      have n_ := Aside0.mk (blk_below KA.out hb)
      clear KA
      have KA := n_
      clear n_
      have LC2 := Aside0.mk hlc
      have CY := Aside0.mk hC
      have CX2 := Aside0.mk (Kd.C_below CX.out hb)
      clear hv hb hlc hC k0 k1 CX
      have k0 : w3.cell? ⟨w.heap.size, 0, none⟩ = some (.slice A0_0 l0_0.length c0_0) := (blk_cell KA.out 0).trans rfl
      have k1 : w3.cell? ⟨w.heap.size, 1, none⟩ = some (.slice A0_1 l0_1.length c0_1) := (blk_cell KA.out 1).trans rfl
      go_wp2_with fail
      refine (filled_any _ _ l0_0 _ _ l0_1 _ _ l _ _ m _ (Kd.C_below HR0.out HB.out) HC0.out (Kd.C_below HR1.out HB.out) HC1.out CX2.out LC1.out CY.out LC2.out LX.out LY.out ZX.out ZY.out).mono ?_
      rintro e w4 ⟨b, arr, rfl, hsz, hk, ht, hb⟩
      have HK := Aside0.mk hk
      have HQ := Aside0.mk ht
      have CX3 := Aside0.mk (Kd.C_below CX2.out hb)
      have CY3 := Aside0.mk (Kd.C_below CY.out hb)
      have B4 := Aside0.mk (below_step HB.out hb)
      clear hsz hk ht hb k0 k1
      go_wp2
      go_ret2
      exact ⟨B4.out, Or.inr (Or.inr ⟨E1.out, E2.out, b, arr, _, _, _, _, rfl, HK.out, HQ.out, CX3.out, CY3.out⟩)⟩
    · have b2 : (e2 != 0) = true := bne_iff_ne.mpr he2
      have E2 := Aside0.mk he2
      clear he2
      go_enter Tryd.func59, Tryd.ntmps59
      go_wp2_with fail
      refine (word_Letters.calls _ _ l0_0 _ _ l0_1 a1 l e1 _ (HT.out.below HB.out) (Kd.C_below HR0.out HB.out) HC0.out (Kd.C_below HR1.out HB.out) HC1.out HL1.out).mono ?_
      rintro e w2 ⟨v, rfl, hv, hb⟩
      obtain ⟨Ax, cx, rfl, hlc, hC⟩ := Kd.R_reads hv
      have n_ := Aside0.mk (below_step HB.out hb)
      clear HB
      have HB := n_
      clear n_
      have n_ := Aside0.mk (blk_below KA.out hb)
      clear KA
      have KA := n_
      clear n_
      clear hv hb hlc hC
      have k0 : w2.cell? ⟨w.heap.size, 0, none⟩ = some (.slice A0_0 l0_0.length c0_0) := (blk_cell KA.out 0).trans rfl
      have k1 : w2.cell? ⟨w.heap.size, 1, none⟩ = some (.slice A0_1 l0_1.length c0_1) := (blk_cell KA.out 1).trans rfl
      go_wp2_with fail
      refine (word_Letters.calls _ _ l0_0 _ _ l0_1 a2 m e2 _ (HT.out.below HB.out) (Kd.C_below HR0.out HB.out) HC0.out (Kd.C_below HR1.out HB.out) HC1.out HL2.out).mono ?_
      rintro e w3 ⟨v, rfl, hv, hb⟩
      obtain ⟨Ay, cy, rfl, hlc, hC⟩ := Kd.R_reads hv
      have n_ := Aside0.mk (below_step HB.out hb)
      clear HB
      have HB := n_
      clear n_
      have n_ := Aside0.mk (blk_below KA.out hb)
      clear KA
      have KA := n_
      clear n_
      clear hv hb hlc hC k0 k1
      go_wp2
      go_ret2
      exact ⟨HB.out, Or.inr (Or.inl ⟨E1.out, E2.out, rfl⟩)⟩
  · have b1 : (e1 != 0) = true := bne_iff_ne.mpr he1
    have E1 := Aside0.mk he1
    clear he1
    go_enter Tryd.func59, Tryd.ntmps59
    go_wp2_with fail
    refine (word_Letters.calls _ _ l0_0 _ _ l0_1 a1 l e1 _ (HT.out.below HB.out) (Kd.C_below HR0.out HB.out) HC0.out (Kd.C_below HR1.out HB.out) HC1.out HL1.out).mono ?_
    rintro e w2 ⟨v, rfl, hv, hb⟩
    obtain ⟨Ax, cx, rfl, hlc, hC⟩ := Kd.R_reads hv
    have n_ := Aside0.mk (below_step HB.out hb)
    clear HB
    have HB := n_
    clear n_
    have n_ := Aside0.mk (blk_below KA.out hb)
    clear KA
    have KA := n_
    clear n_
    clear hv hb hlc hC
    go_wp2
    go_ret2
    exact ⟨HB.out, Or.inl ⟨E1.out, rfl⟩⟩
/-- What stays while the first alignment is made. -/
def AS (u : World) (ab : Nat) (A0 : Option Addr) (n0 c0 : Nat) (A1 : Option Addr) (n1 c1 : Nat) (pc : Addr) (c : Int) (w' : World) : Prop :=
  w'.cell? ⟨ab, 0, none⟩ = some (.slice A0 n0 c0) ∧ w'.cell? ⟨ab, 1, none⟩ = some (.slice A1 n1 c1) ∧ w'.cell? pc = some (.int .i64 c) ∧ Below u.heap.size u w'
theorem AS.step {u : World} {ab : Nat} {A0 : Option Addr} {n0 c0 : Nat} {A1 : Option Addr} {n1 c1 : Nat} {pc : Addr} {c : Int} {w' w2 : World} (h : AS u ab A0 n0 c0 A1 n1 c1 pc c w') (hb : Below w'.heap.size w' w2) : AS u ab A0 n0 c0 A1 n1 c1 pc c w2 :=
  ⟨pw_cell_below hb h.1, pw_cell_below hb h.2.1, pw_cell_below hb h.2.2.1, below_step h.2.2.2 hb⟩
theorem AS.step' {u : World} {ab : Nat} {A0 : Option Addr} {n0 c0 : Nat} {A1 : Option Addr} {n1 c1 : Nat} {pc : Addr} {c : Int} {w' : World} (h : AS u ab A0 n0 c0 A1 n1 c1 pc c w') : Below u.heap.size u w' := h.2.2.2
set_option maxHeartbeats 4000000 in
set_option maxRecDepth 100000 in
theorem align_Words.calls (A0_0 : Option Addr) (c0_0 : Nat) (l0_0 : List ByteArray) (A0_1 : Option Addr) (c0_1 : Nat) (l0_1 : List S91) (a1 : ByteArray) (a2 : ByteArray) (r1 : Int) (r2 : List S44) (r3 : Int) (w : World) (hT0 : Tabs w) (hr0_0 : Kd.C Kd.string w A0_0 l0_0.length l0_0) (hc0_0 : l0_0.length ≤ c0_0) (hr0_1 : Kd.C k91 w A0_1 l0_1.length l0_1) (hc0_1 : l0_1.length ≤ c0_1) (h : align_Words.f l0_0 l0_1 a1 a2 = some (r1, r2, r3)) :
    Calls Tryd.prog 20 #[.agg #[.slice A0_0 l0_0.length c0_0, .slice A0_1 l0_1.length c0_1], .string a1, .string a2] w fun e w' => ∃ v1_ : Value, e = .returned (.tuple #[.int .i64 r1, v1_, .int .i64 r3]) ∧ Kd.R k44 44 w' w.heap.size (fun _ => True) v1_ r2 ∧ Below w.heap.size w w' := by
  have HR0 := Aside0.mk hr0_0
  have HC0 := Aside0.mk hc0_0
  have HR1 := Aside0.mk hr0_1
  have HC1 := Aside0.mk hc0_1
  have HT := Aside0.mk hT0
  have KA := Aside0.mk (blk_new w (.cells #[.slice A0_0 l0_0.length c0_0, .slice A0_1 l0_1.length c0_1] 25))
  have HB := Aside0.mk (below_alloc (Below.refl _ w) (.cells #[.slice A0_0 l0_0.length c0_0, .slice A0_1 l0_1.length c0_1] 25))
  have HV := Aside0.mk (Option.some.inj h)
  have CT := Aside0.mk (fun (W : World) (hb : Below w.heap.size w W) => tabled_any _ _ l0_0 _ _ l0_1 a1 a2 W (HT.out.below hb) (Kd.C_below HR0.out hb) HC0.out (Kd.C_below HR1.out hb) HC1.out)
  clear hr0_0 hc0_0 hr0_1 hc0_1 hT0 h
  go_enter Tryd.func20, Tryd.ntmps20
  go_wp2_with fail
  refine (CT.out _ HB.out).mono ?_
  rintro e w2 ⟨hb, ⟨he, rfl⟩ | ⟨he, he2, rfl⟩ | ⟨he, he2, b, arr, Ax, cx, Ay, cy, rfl, hk, ht, hx, hy⟩⟩
  · have hv := HV.out
    unfold wordsV at hv
    rw [if_neg he] at hv
    obtain ⟨rfl, rfl, rfl⟩ := Prod.mk.inj hv |>.imp id Prod.mk.inj
    have B2 := Aside0.mk (below_step HB.out hb)
    have b1 : ((lettersV l0_0 l0_1 a1).2 != 0) = true := bne_iff_ne.mpr he
    clear he hv hb
    go_wp2
    go_ret3
    exact ⟨_, rfl, Kd.R_nil _ _ _ _ _, B2.out⟩
  · have hv := HV.out
    unfold wordsV at hv
    rw [if_pos he, if_neg he2] at hv
    obtain ⟨rfl, rfl, rfl⟩ := Prod.mk.inj hv |>.imp id Prod.mk.inj
    have B2 := Aside0.mk (below_step HB.out hb)
    have b1 : ((lettersV l0_0 l0_1 a2).2 != 0) = true := bne_iff_ne.mpr he2
    clear he he2 hv hb
    go_wp2
    go_ret3
    exact ⟨_, rfl, Kd.R_nil _ _ _ _ _, B2.out⟩
  · have hv := HV.out
    unfold wordsV at hv
    rw [if_pos he, if_pos he2] at hv
    obtain ⟨rfl, rfl, rfl⟩ := Prod.mk.inj hv |>.imp id Prod.mk.inj
    have B2 := Aside0.mk (below_step HB.out hb)
    have KA2 := blk_below KA.out hb
    have k0 : w2.cell? ⟨w.heap.size, 0, none⟩ = some (.slice A0_0 l0_0.length c0_0) := (blk_cell KA2 0).trans rfl
    have k1 : w2.cell? ⟨w.heap.size, 1, none⟩ = some (.slice A0_1 l0_1.length c0_1) := (blk_cell KA2 1).trans rfl
    have hc : w2.cell? ⟨b, 2, none⟩ = some (.int .i64 (cst (dd l0_0 l0_1) (lettersV l0_0 l0_1 a1).1 (lettersV l0_0 l0_1 a2).1)) := (blk_cell hk 2).trans (ht.cost 0 0 (Nat.zero_le _) (Nat.zero_le _) trivial)
    have UU := Below.refl w2.heap.size w2
    have CF := Aside0.mk (fun (W : World) (hu : Below w2.heap.size w2 W) => first_any A0_0 c0_0 l0_0 A0_1 c0_1 l0_1 Ax cx _ Ay cy _ b arr W (Kd.C_below (Kd.C_below HR0.out B2.out) hu) HC0.out (Kd.C_below (Kd.C_below HR1.out B2.out) hu) HC1.out (Kd.C_below hx hu) (Kd.C_below hy hu) (lettersV_len _ _ _) (lettersV_len _ _ _) (lettersV_ne _ _ _) (lettersV_ne _ _ _) (blk_below hk hu) ht)
    have SZ := Aside0.mk (below_size B2.out)
    clear he he2 hv hb KA2 hk ht hx hy HV
    obtain ⟨c, hcq⟩ : ∃ c, cst (dd l0_0 l0_1) (lettersV l0_0 l0_1 a1).1 (lettersV l0_0 l0_1 a2).1 = c := ⟨_, rfl⟩
    rw [hcq] at hc
    have CQ := Aside0.mk hcq
    clear hcq
    go_wp2
    go_region_held3 (fun w' => w'.cell? ⟨w.heap.size, 0, none⟩ = some (.slice A0_0 l0_0.length c0_0) ∧ w'.cell? ⟨w.heap.size, 1, none⟩ = some (.slice A0_1 l0_1.length c0_1) ∧ w'.cell? ⟨b, 2, none⟩ = some (.int .i64 c) ∧ Below w2.heap.size w2 w') (first | exact ⟨k0, k1, hc, below_drew1 UU⟩ | exact AS.step (u := w2) (ab := w.heap.size) (A0 := A0_0) (n0 := l0_0.length) (c0 := c0_0) (A1 := A0_1) (n1 := l0_1.length) (c1 := c0_1) (pc := ⟨b, 2, none⟩) (c := c) (by unfold AS; with_reducible assumption) hb) ((go_at_call 60; refine (CF.out _ (AS.step' (ab := w.heap.size) (A0 := A0_0) (n0 := l0_0.length) (c0 := c0_0) (A1 := A0_1) (n1 := l0_1.length) (c1 := c0_1) (pc := ⟨b, 2, none⟩) (c := c) ?cS)).mono ?_; (case cS => unfold AS; with_reducible assumption); rintro e w5 ⟨v, rfl, hv, hb⟩))
    have hS : AS w2 w.heap.size A0_0 l0_0.length c0_0 A0_1 l0_1.length c0_1 ⟨b, 2, none⟩ c w5 := by unfold AS; with_reducible assumption
    have B5 := Aside0.mk (below_step B2.out hS.2.2.2)
    have RV := Aside0.mk (Kd.R_lower hv SZ.out)
    clear hS hv hb
    go_wp2
    go_ret3
    rw [CQ.out]
    exact ⟨_, rfl, RV.out, B5.out⟩
set_option maxHeartbeats 4000000 in
set_option maxRecDepth 100000 in
theorem align_Many.calls (A0_0 : Option Addr) (c0_0 : Nat) (l0_0 : List ByteArray) (A0_1 : Option Addr) (c0_1 : Nat) (l0_1 : List S91) (a1 : ByteArray) (a2 : ByteArray) (a3 : Int) (r1 : Int) (r2 : Int) (w : World) (hT0 : Tabs w) (hr0_0 : Kd.C Kd.string w A0_0 l0_0.length l0_0) (hc0_0 : l0_0.length ≤ c0_0) (hr0_1 : Kd.C k91 w A0_1 l0_1.length l0_1) (hc0_1 : l0_1.length ≤ c0_1) (h : align_Many.f l0_0 l0_1 a1 a2 a3 = some (r1, r2)) :
    Calls Tryd.prog 22 #[.agg #[.slice A0_0 l0_0.length c0_0, .slice A0_1 l0_1.length c0_1], .string a1, .string a2, .int .i64 a3] w fun e w' => e = .returned (.tuple #[.int .i64 r1, .int .i64 r2]) ∧ Below w.heap.size w w' := by
  have HR0 := Aside0.mk hr0_0
  have HC0 := Aside0.mk hc0_0
  have HR1 := Aside0.mk hr0_1
  have HC1 := Aside0.mk hc0_1
  have HT := Aside0.mk hT0
  have KA := Aside0.mk (blk_new w (.cells #[.slice A0_0 l0_0.length c0_0, .slice A0_1 l0_1.length c0_1] 25))
  have HB := Aside0.mk (below_alloc (Below.refl _ w) (.cells #[.slice A0_0 l0_0.length c0_0, .slice A0_1 l0_1.length c0_1] 25))
  have HV := Aside0.mk (Option.some.inj h)
  have CT := Aside0.mk (fun (W : World) (hb : Below w.heap.size w W) => tabled_any _ _ l0_0 _ _ l0_1 a1 a2 W (HT.out.below hb) (Kd.C_below HR0.out hb) HC0.out (Kd.C_below HR1.out hb) HC1.out)
  clear hr0_0 hc0_0 hr0_1 hc0_1 hT0 h
  go_enter Tryd.func22, Tryd.ntmps22
  go_wp2_with fail
  refine (CT.out _ HB.out).mono ?_
  rintro e w2 ⟨hb, ⟨he, rfl⟩ | ⟨he, he2, rfl⟩ | ⟨he, he2, b, arr, Ax, cx, Ay, cy, rfl, hk, ht, hx, hy⟩⟩
  · have hv := HV.out
    unfold manyV at hv
    rw [if_neg he] at hv
    obtain ⟨rfl, rfl⟩ := Prod.mk.inj hv
    have B2 := Aside0.mk (below_step HB.out hb)
    have b1 : ((lettersV l0_0 l0_1 a1).2 != 0) = true := bne_iff_ne.mpr he
    clear he hv hb
    go_wp2
    go_ret2
    exact ⟨rfl, B2.out⟩
  · have hv := HV.out
    unfold manyV at hv
    rw [if_pos he, if_neg he2] at hv
    obtain ⟨rfl, rfl⟩ := Prod.mk.inj hv
    have B2 := Aside0.mk (below_step HB.out hb)
    have b1 : ((lettersV l0_0 l0_1 a2).2 != 0) = true := bne_iff_ne.mpr he2
    clear he he2 hv hb
    go_wp2
    go_ret2
    exact ⟨rfl, B2.out⟩
  · have hv := HV.out
    unfold manyV at hv
    rw [if_pos he, if_pos he2] at hv
    have B2 := Aside0.mk (below_step HB.out hb)
    have hn : w2.cell? ⟨b, 4227, none⟩ = some (.int .i64 (mny (dd l0_0 l0_1) (lettersV l0_0 l0_1 a1).1 (lettersV l0_0 l0_1 a2).1)) := (blk_cell hk 4227).trans (ht.many 0 0 (Nat.zero_le _) (Nat.zero_le _) trivial)
    clear he he2 hb hk ht hx hy HV
    generalize mny (dd l0_0 l0_1) (lettersV l0_0 l0_1 a1).1 (lettersV l0_0 l0_1 a2).1 = n at hn hv
    by_cases hq : a3 < 0
    · rw [if_pos (Or.inl hq)] at hv
      obtain ⟨rfl, rfl⟩ := Prod.mk.inj hv
      have b1 : decide (a3 < 0) = true := decide_eq_true hq
      clear hq hv
      go_wp2
      go_ret2
      exact ⟨rfl, B2.out⟩
    · have b1 : decide (a3 < 0) = false := decide_eq_false hq
      by_cases hq2 : 1048576 < a3
      · rw [if_pos (Or.inr hq2)] at hv
        obtain ⟨rfl, rfl⟩ := Prod.mk.inj hv
        have b2 : decide (a3 > 1048576) = true := decide_eq_true hq2
        have b3 : decide (1048576 < a3) = true := decide_eq_true hq2
        clear hq hq2 hv
        go_wp2
        go_ret2
        exact ⟨rfl, B2.out⟩
      · rw [if_neg (by omega)] at hv
        obtain ⟨rfl, rfl⟩ := Prod.mk.inj hv
        have b2 : decide (a3 > 1048576) = false := decide_eq_false hq2
        have b3 : decide (1048576 < a3) = false := decide_eq_false hq2
        have hm2 := fun W => min2_run (P := Tryd.prog) (W := W) #[3, 3] 3 n a3 (min n a3) rfl
        clear hq hq2 hv
        go_wp2
        go_ret2
        exact ⟨rfl, B2.out⟩
end Go.Proofs.YtjnikjnkmcbjfabDoor.X
