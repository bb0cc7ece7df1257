/- runes.Pieces, walked: a text's runes, each broken byte as one broken rune. -/
import Derived.Test.YtjnikjnkmcbjfabDoorT1
import Derived.Test.YtjnikjnkmcbjfabDoorGDecode
import Derived.Test.YtjnikjnkmcbjfabDoorX2
import Derived.Laws.RangeAny
import Derived.Lib.OthersKept
import Derived.Lib.RuneCountTail
namespace Go.Proofs.YtjnikjnkmcbjfabDoor.X
open Go.RowKit Go.Proofs.YtjnikjnkmcbjfabDoorW.PrintWords Go.Proofs.YtjnikjnkmcbjfabDoorW.PrintLast Go.Proofs.YtjnikjnkmcbjfabDoorW.PrintMore
/-- A piece. -/
structure Pc where
  r : Int
  a : Int
  l : Int
  b : Bool
def kPc : Kd Pc := Kd.iso (Kd.pair (Kd.int .i32) (Kd.pair (Kd.int .i64) (Kd.pair (Kd.int .i64) Kd.bool))) (fun x : Pc => (x.r, x.a, x.l, x.b))
theorem kPc_open {w : World} {x : Pc} {cs : List Value} (h : kPc.K w x cs) : cs = [.int .i32 x.r, .int .i64 x.a, .int .i64 x.l, .bool x.b] := by
  obtain ⟨_, _, rfl, rfl, ⟨_, _, rfl, rfl, ⟨_, _, rfl, rfl, rfl⟩⟩⟩ := h
  exact rfl
theorem kPc_mkM (w : World) (base : Nat) (ok : Nat → Prop) (x : Pc) : kPc.M w base ok x [.int .i32 x.r, .int .i64 x.a, .int .i64 x.l, .bool x.b] := ⟨[.int .i32 x.r], [.int .i64 x.a, .int .i64 x.l, .bool x.b], rfl, rfl, ⟨[.int .i64 x.a], [.int .i64 x.l, .bool x.b], rfl, rfl, ⟨[.int .i64 x.l], [.bool x.b], rfl, rfl, rfl⟩⟩⟩
theorem infoPc : (Tryd.prog.info? 134).map (fun i => (i.zero, i.size, i.bytes)) = some (some (.agg #[(.int .i32 0), (.int .i64 0), (.int .i64 0), (.bool false)]), 4, 32) := by kernel_rfl
/-- What the closure leaves of all that is no row of cells. -/
def Rest (w w' : World) : Prop := w.heap.size ≤ w'.heap.size ∧ ∀ (i : Nat) (o : Obj), w.heap[i]? = some o → (∀ c t f, o ≠ Obj.cells c t f) → w'.heap[i]? = some o
set_option maxHeartbeats 2000000 in
set_option maxRecDepth 100000 in
/-- The literal 'l = append(l, p); return true'. -/
theorem pc_lit (x : Pc) (B base : Nat) (w0 w : World) (v : Value) (ps : List Pc) (hB : w.heap[B]? = some (.cells #[v] 130 (0, 0))) (hv : kPc.R 134 w base (fun _ => True) v ps) (hw : Below base w0 w) (hbB : base ≤ B) (hbw : base ≤ w.heap.size) (hl : (ps.length + 1) * 32 ≤ 140737488355328) :
    Calls Tryd.prog 111 #[.agg #[.int .i32 x.r, .int .i64 x.a, .int .i64 x.l, .bool x.b], .pointer (some ⟨B, 0, none⟩)] w fun e w' => e = .returned (.bool true) ∧ ∃ v1, w'.heap[B]? = some (.cells #[v1] 130 (0, 0)) ∧ kPc.R 134 w' base (fun _ => True) v1 (ps ++ [x]) ∧ Below base w0 w' ∧ Rest w w' := by
  obtain ⟨r, a, l, b⟩ := x
  obtain ⟨A, c, rfl, hlc, -⟩ := Kd.R_reads hv
  have hk := blk_alloc hB (.cells #[.int .i32 r, .int .i64 a, .int .i64 l, .bool b] 134)
  have hn := blk_new w (.cells #[.int .i32 r, .int .i64 a, .int .i64 l, .bool b] 134)
  have c0 : (w.alloc (.cells #[.int .i32 r, .int .i64 a, .int .i64 l, .bool b] 134)).cell? ⟨B, 0, none⟩ = some (.slice A ps.length c) := (blk_cell hk 0).trans rfl
  have d0 : (w.alloc (.cells #[.int .i32 r, .int .i64 a, .int .i64 l, .bool b] 134)).cell? ⟨w.heap.size, 0, none⟩ = some (.int .i32 r) := (blk_cell hn 0).trans rfl
  have d1 : (w.alloc (.cells #[.int .i32 r, .int .i64 a, .int .i64 l, .bool b] 134)).cell? ⟨w.heap.size, 1, none⟩ = some (.int .i64 a) := (blk_cell hn 1).trans rfl
  have d2 : (w.alloc (.cells #[.int .i32 r, .int .i64 a, .int .i64 l, .bool b] 134)).cell? ⟨w.heap.size, 2, none⟩ = some (.int .i64 l) := (blk_cell hn 2).trans rfl
  have d3 : (w.alloc (.cells #[.int .i32 r, .int .i64 a, .int .i64 l, .bool b] 134)).cell? ⟨w.heap.size, 3, none⟩ = some (.bool b) := (blk_cell hn 3).trans rfl
  have hv1 := Kd.R_alloc hv (.cells #[.int .i32 r, .int .i64 a, .int .i64 l, .bool b] 134)
  have hw1 : Below base w0 (w.alloc (.cells #[.int .i32 r, .int .i64 a, .int .i64 l, .bool b] 134)) := hw.alloc hbw _
  have hz1 : base ≤ (w.alloc (.cells #[.int .i32 r, .int .i64 a, .int .i64 l, .bool b] 134)).heap.size := by rw [World.size_alloc]; omega
  have HV := Aside0.mk hv1
  have HW := Aside0.mk hw1
  have HZ := Aside0.mk hz1
  have HK := Aside0.mk hk
  have HL := Aside0.mk hl
  have HBB := Aside0.mk hbB
  have HE := Aside0.mk (show Rest w (w.alloc (.cells #[.int .i32 r, .int .i64 a, .int .i64 l, .bool b] 134)) from ⟨by rw [World.size_alloc]; omega, fun i o h _ => blk_alloc h _⟩)
  clear hv hw hbw hB hl hk hn hv1 hw1 hz1 hbB
  go_enter Tryd.func111, Tryd.ntmps111
  go_wp2_with (first | ((with_reducible refine gate_builtin (b := .append) (xs := #[.tmp 4, .tmp 6]) rfl ?_); at_builtin; refine Kd.R_append kPc (w0 := w0) base rfl (.tmp 4) (.tmp 6) 130 134 (.agg #[(.int .i32 0), (.int .i64 0), (.int .i64 0), (.bool false)]) 32 rfl Tryd.underlying130 infoPc rfl (by decide) (by omega) (.slice A ps.length c) ps (⟨r, a, l, b⟩ : Pc) [.int .i32 r, .int .i64 a, .int .i64 l, .bool b] (fun _ => True) (fun _ => False) rfl (by rw [World.size_alloc]; rfl) ?aP (fun _ hk => hk.elim) ?aF ?aO ?aB ?aS ?aL ?_; (case aP => exact kPc_mkM _ _ _ (⟨r, a, l, b⟩ : Pc)); (case aB => first | exact HW.out | exact HW.out.drew); (case aF => exact (fun _ _ => trivial)); (case aO => first | exact HV.out | exact Kd.R_drew HV.out); (case aS => exact HZ.out); (case aL => exact HL.out); intro v1 w1 ho hb hg hat; obtain ⟨A1, cc1, rfl, -, -⟩ := Kd.R_reads ho; have hk1 := blk_grown (g := B) (o := .cells #[.slice A ps.length c] 130 (0, 0)) HK.out hg (Kd.R_ne HV.out HK.out (by decide)); have c1 : w1.cell? ⟨B, 0, none⟩ = some (.slice A ps.length c) := (blk_cell hk1 0).trans rfl; have f1 := blk_frozen hk1 0; have H1 := Aside0.mk hk1; have O1 := Aside0.mk ho; have B1 := Aside0.mk hb; have G1 := Aside0.mk hg; clear hk1 ho hb hg hat))
  go_ret
  refine ⟨rfl, _, ?_, Kd.R_set O1.out H1.out (by decide) 0 _, B1.out.setCell HBB.out _, ?_⟩
  · simpa using blk_set H1.out 0 (.slice A1 (ps ++ [(⟨r, a, l, b⟩ : Pc)]).length cc1)
  · refine ⟨by have := G1.out.size; have := HE.out.1; simp only [World.size_setCell]; omega, fun i o h hc => ?_⟩
    have h1 := HE.out.2 i o h hc
    have hi : i ≠ B := fun e => by
      subst e
      rw [HK.out] at h1
      exact hc _ _ _ (Option.some.inj h1).symm
    refine (Below.heap_setCell _ _ _ i (by simpa using hi)).trans ((G1.out.block i (blk_lt h1) (fun e => ?_)).trans h1)
    obtain ⟨inner, hown⟩ := Kd.R_own HV.out
    obtain ⟨cells, hcc⟩ := own_typed hown i e.symm
    rw [hcc] at h1
    exact hc _ _ _ (Option.some.inj h1).symm
/-- The piece at a place. -/
def pieceAt (s : ByteArray) (pos : Nat) : Pc :=
  ⟨((Utf8.decode s pos).1 : Int), (pos : Int), if (Utf8.decode s pos).1 = 65533 ∧ (Utf8.decode s pos).2 = 1 then 1 else (utf8_RuneLen.f 1 ((Utf8.decode s pos).1 : Int)).getD 0, decide ((Utf8.decode s pos).1 = 65533 ∧ (Utf8.decode s pos).2 = 1)⟩
/-- The pieces from a place on, of at most so many bytes. -/
def piecesOf (s : ByteArray) : Nat → Nat → List Pc
  | 0, _ => []
  | k + 1, pos => if pos < s.size then pieceAt s pos :: piecesOf s k (pos + (Utf8.decode s pos).2) else []
/-- A text's pieces. -/
def pieces (s : ByteArray) : List Pc := piecesOf s s.size 0
theorem runeLen_eq (r : Int) : utf8_RuneLen.f 1 r = some ((utf8_RuneLen.f 1 r).getD 0) := by
  have : ∃ k, utf8_RuneLen.f 1 r = some k := by
    unfold utf8_RuneLen.f
    simp only [utf8_RuneLen.j0]
    repeat' split
    all_goals exact ⟨_, rfl⟩
  obtain ⟨k, hk⟩ := this
  rw [hk]
  rfl
theorem decode_wide (s : ByteArray) (pos : Nat) (h : pos < s.size) : 1 ≤ (Utf8.decode s pos).2 := by
  by_cases ha : (s[pos]'h).toNat < 128
  · rw [decode_ascii s pos h ha]
    exact Nat.le_refl _
  · exact (decode_high s pos h (by omega)).2
theorem decodeGo_at (s : ByteArray) (pos : Nat) (h : pos < s.size) : Lib.decodeGo (s.extract pos s.size) = Utf8.decode s pos := by
  have e : Lib.decodeGo (s.extract pos s.size) = if (s.extract pos s.size).size = 0 then (65533, 0) else Utf8.decode (s.extract pos s.size) 0 := rfl
  rw [e, if_neg (by rw [ByteArray.size_extract]; omega), Lib.tail_decode]
  rfl
theorem piecesOf_end (s : ByteArray) (k pos : Nat) (h : ¬ pos < s.size) : piecesOf s k pos = [] := by
  cases k with
  | zero => rfl
  | succ k => simp [piecesOf, h]
theorem Rest.alloc {w W : World} (h : Rest w W) (o : Obj) : Rest w (W.alloc o) := ⟨by rw [World.size_alloc]; have := h.1; omega, fun i o' hi hc => blk_alloc (h.2 i o' hi hc) o⟩
/-- A new block of four cells, written. -/
theorem stored4 (W : World) (nd : Nat) (t : TypeId) (z0 z1 z2 z3 a b c d : Value) :
    Below W.heap.size W ((((((W.drewN nd).alloc (.cells #[z0, z1, z2, z3] t)).setCell ⟨W.heap.size, 0, none⟩ a).setCell ⟨W.heap.size, 1, none⟩ b).setCell ⟨W.heap.size, 2, none⟩ c).setCell ⟨W.heap.size, 3, none⟩ d) ∧
    ((((((W.drewN nd).alloc (.cells #[z0, z1, z2, z3] t)).setCell ⟨W.heap.size, 0, none⟩ a).setCell ⟨W.heap.size, 1, none⟩ b).setCell ⟨W.heap.size, 2, none⟩ c).setCell ⟨W.heap.size, 3, none⟩ d).heap[W.heap.size]? = some (.cells #[a, b, c, d] t (0, 0)) := by
  refine ⟨below_set (below_set (below_set (below_set (below_alloc (pw_below_drewN (Below.refl _ W) nd) _) (Nat.le_refl _)) (Nat.le_refl _)) (Nat.le_refl _)) (Nat.le_refl _), ?_⟩
  exact blk_put (cs := #[a, b, c, z3]) (blk_put (cs := #[a, b, z2, z3]) (blk_put (cs := #[a, z1, z2, z3]) (blk_put (cs := #[z0, z1, z2, z3]) (blk_new (W.drewN nd) (.cells #[z0, z1, z2, z3] t)) 0 _ rfl) 1 _ rfl) 2 _ rfl) 3 _ rfl
set_option maxHeartbeats 4000000 in
set_option maxRecDepth 100000 in
theorem each_pc (s : ByteArray) (B : Nat) (w0 w : World) (hs : s.size ≤ 65536) (hT : Tabs w0) (hB : w.heap[B]? = some (.cells #[.slice none 0 0] 130 (0, 0))) (hw : Below w0.heap.size w0 w) (hbB : w0.heap.size ≤ B) :
    Calls Tryd.prog 110 #[.string s, .func (.func 111) #[] #[.pointer (some ⟨B, 0, none⟩)]] w fun e w' => e = .returned (.tuple #[]) ∧ ∃ v1, w'.heap[B]? = some (.cells #[v1] 130 (0, 0)) ∧ kPc.R 134 w' w0.heap.size (fun _ => True) v1 (pieces s) ∧ Below w0.heap.size w0 w' := by
  have HS := Aside0.mk hs
  have HT := Aside0.mk hT
  have K0 := Aside0.mk (show (w.iter s 0).heap[B]? = some (.cells #[.slice none 0 0] 130 (0, 0)) from blk_alloc hB _)
  have B0 := Aside0.mk (show Below w0.heap.size w0 (w.iter s 0) from hw.alloc hw.size _)
  have I0 := Aside0.mk (show (w.iter s 0).heap[w.heap.size]? = some (.stringIter s 0) from blk_new w _)
  have ZZ := Aside0.mk (show B ≠ w.heap.size from Nat.ne_of_lt (blk_lt hB))
  have ZW := Aside0.mk hw.size
  have HBB := Aside0.mk hbB
  clear hs hT hB hw hbB
  go_enter Tryd.func110, Tryd.ntmps110
  go_wp2
  go_loopw [11] (fun _ w' => ∃ (pos b : Nat) (ps : List Pc) (v : Value), Aside0 (w'.heap[w.heap.size]? = some (.stringIter s pos)) ∧ Aside0 (w'.heap[B]? = some (.cells #[v] 130 (0, 0))) ∧ Aside0 (kPc.R 134 w' w0.heap.size (fun _ => True) v ps) ∧ Aside0 (Below w0.heap.size w0 w') ∧ Aside0 (ps ++ piecesOf s b pos = pieces s) ∧ Aside0 (s.size ≤ pos + b ∧ ps.length ≤ pos)) (fun _ w' => s.size - w'.iterPos w.heap.size)
  case atStart => exact ⟨0, s.size, [], _, I0, K0, ⟨Kd.R_nil _ _ _ _ _⟩, B0, ⟨rfl⟩, ⟨by omega, Nat.le_refl _⟩⟩
  case round =>
    clear I0 K0 B0
    obtain ⟨pos, b, ps, v, HI, HK, HV, HB, HP, HN⟩ := hrel
    by_cases hlt : pos < s.size
    · obtain ⟨b, rfl⟩ : ∃ b', b = b' + 1 := ⟨b - 1, by have := HN.out.1; omega⟩
      have hnx := fun ty => Lib.run_next_any_at (P := Tryd.prog) wr _ s pos ty HI.out hlt
      have hsz1 : (wr.iterAt w.heap.size s (pos + (Utf8.decode s pos).2)).heap.size = wr.heap.size := Lib.iterAt_size _ _ _ _
      have hI1 := Lib.iterAt_heap wr w.heap.size s pos (pos + (Utf8.decode s pos).2) HI.out
      have hoth : ∀ i, i ≠ w.heap.size → (wr.iterAt w.heap.size s (pos + (Utf8.decode s pos).2)).heap[i]? = wr.heap[i]? := fun i hi => Lib.iterAt_other wr _ i s _ hi
      have hK1 := (hoth B ZZ.out).trans HK.out
      have hB1 := Lib.below_iterAt HB.out ZW.out s (pos + (Utf8.decode s pos).2)
      have hV1 : kPc.R 134 (wr.iterAt w.heap.size s (pos + (Utf8.decode s pos).2)) w0.heap.size (fun _ => True) v ps := by
        refine Kd.R_mono (Kd.R_move (Kd.R_bound HV.out) (fun k hk => hoth k (fun e => ?_))) (fun _ _ => trivial)
        obtain ⟨_, _, _, q, _, cells, hc⟩ := hk
        rw [e, HI.out] at hc
        cases hc
      obtain ⟨W1, hW1⟩ : ∃ W1, W1 = wr.iterAt w.heap.size s (pos + (Utf8.decode s pos).2) := ⟨_, rfl⟩
      rw [← hW1] at hsz1 hI1 hK1 hB1 hV1
      simp only [← hW1] at hnx
      obtain ⟨d1, hd1⟩ : ∃ d1, (Utf8.decode s pos).1 = d1 := ⟨_, rfl⟩
      obtain ⟨d2, hd2⟩ : ∃ d2, (Utf8.decode s pos).2 = d2 := ⟨_, rfl⟩
      have hw2 := decode_wide s pos hlt
      have hgo := decodeGo_at s pos hlt
      have hgo2 : Lib.decodeGo (s.extract pos s.size) = (d1, d2) := by rw [hgo, ← hd1, ← hd2]
      rw [hd2] at hw2
      rw [hd1] at hnx
      obtain ⟨x, hx⟩ : ∃ x, x = (utf8_RuneLen.f 1 (d1 : Int)).getD 0 := ⟨_, rfl⟩
      have hrl := runeLen_eq (d1 : Int)
      have hpa : pieceAt s pos = ⟨(d1 : Int), (pos : Int), if d1 = 65533 ∧ d2 = 1 then 1 else x, decide (d1 = 65533 ∧ d2 = 1)⟩ := by
        unfold pieceAt
        rw [hd1, hd2, hx]
      rw [← hx] at hrl
      have PA := Aside0.mk hpa
      clear hpa
      rw [hd2] at hI1
      have RL := Aside0.mk hrl
      have GO := Aside0.mk hgo2
      have I1 := Aside0.mk hI1
      have K1 := Aside0.mk hK1
      have B1 := Aside0.mk hB1
      have V1 := Aside0.mk hV1
      have W2 := Aside0.mk hw2
      have S1 := Aside0.mk hsz1
      have D2 := Aside0.mk hd2
      have hps : 0 ≤ (pos : Int) ∧ (pos : Int) ≤ (s.size : Int) := by omega
      have TA := Aside0.mk (HT.out.below hB1)
      have HX := Aside0.mk hlt
      clear hrl hgo hgo2 hI1 hK1 hB1 hV1 hw2 hsz1 hW1 hx hd1 hd2 hoth HK HV HB hlt
      by_cases e1 : d1 = 65533
      · subst e1
        go_wp2_with (first | (go_at_call 121; refine (utf8_RuneLen.calls 1 _ x _ RL.out).mono ?_; rintro e w2 ⟨rfl, ⟨nd, rfl⟩⟩; have hz := blk_new (W1.drewN nd) (.cells #[.int .i32 0, .int .i64 0, .int .i64 0, .bool false] 134); have z0 : ((W1.drewN nd).alloc (.cells #[.int .i32 0, .int .i64 0, .int .i64 0, .bool false] 134)).cell? ⟨W1.heap.size, 0, none⟩ = some (.int .i32 0) := (blk_cell hz 0).trans rfl; have z1 : ((W1.drewN nd).alloc (.cells #[.int .i32 0, .int .i64 0, .int .i64 0, .bool false] 134)).cell? ⟨W1.heap.size, 1, none⟩ = some (.int .i64 0) := (blk_cell hz 1).trans rfl; have z2 : ((W1.drewN nd).alloc (.cells #[.int .i32 0, .int .i64 0, .int .i64 0, .bool false] 134)).cell? ⟨W1.heap.size, 2, none⟩ = some (.int .i64 0) := (blk_cell hz 2).trans rfl; have z3 : ((W1.drewN nd).alloc (.cells #[.int .i32 0, .int .i64 0, .int .i64 0, .bool false] 134)).cell? ⟨W1.heap.size, 3, none⟩ = some (.bool false) := (blk_cell hz 3).trans rfl; have f0 : ((W1.drewN nd).alloc (.cells #[.int .i32 0, .int .i64 0, .int .i64 0, .bool false] 134)).frozen? ⟨W1.heap.size, 0, none⟩ = false := blk_frozen hz 0; have f1 : ((W1.drewN nd).alloc (.cells #[.int .i32 0, .int .i64 0, .int .i64 0, .bool false] 134)).frozen? ⟨W1.heap.size, 1, none⟩ = false := blk_frozen hz 1; have f2 : ((W1.drewN nd).alloc (.cells #[.int .i32 0, .int .i64 0, .int .i64 0, .bool false] 134)).frozen? ⟨W1.heap.size, 2, none⟩ = false := blk_frozen hz 2; have f3 : ((W1.drewN nd).alloc (.cells #[.int .i32 0, .int .i64 0, .int .i64 0, .bool false] 134)).frozen? ⟨W1.heap.size, 3, none⟩ = false := blk_frozen hz 3; clear hz) | fail)
        have hst := stored4 W1 nd 134 (.int .i32 0) (.int .i64 0) (.int .i64 0) (.bool false) (.int .i32 65533) (.int .i64 pos) (.int .i64 x) (.bool false)
        obtain ⟨hb2, hz2⟩ := hst
        have hdec : utf8_DecodeRuneInString.f (s.extract pos s.size) = some (65533, (d2 : Int)) := by simp [utf8_DecodeRuneInString.f, GO.out]
        generalize ((((((W1.drewN nd).alloc (.cells #[.int .i32 0, .int .i64 0, .int .i64 0, .bool false] 134)).setCell ⟨W1.heap.size, 0, none⟩ (.int .i32 65533)).setCell ⟨W1.heap.size, 1, none⟩ (.int .i64 pos)).setCell ⟨W1.heap.size, 2, none⟩ (.int .i64 x)).setCell ⟨W1.heap.size, 3, none⟩ (.bool false)) = WS at hb2 hz2 ⊢
        refine (utf8_DecodeRuneInString.calls _ 65533 (d2 : Int) WS (TA.out.below hb2) hdec).mono ?_
        rintro e w3 ⟨rfl, hb3⟩
        have hz3 := blk_below hz2 hb3
        have hb5 := below_step hb2 hb3
        have c0 : w3.cell? ⟨W1.heap.size, 0, none⟩ = some (.int .i32 65533) := (blk_cell hz3 0).trans rfl
        have c1 : w3.cell? ⟨W1.heap.size, 1, none⟩ = some (.int .i64 pos) := (blk_cell hz3 1).trans rfl
        have c2 : w3.cell? ⟨W1.heap.size, 2, none⟩ = some (.int .i64 x) := (blk_cell hz3 2).trans rfl
        have c3 : w3.cell? ⟨W1.heap.size, 3, none⟩ = some (.bool false) := (blk_cell hz3 3).trans rfl
        have f2 : w3.frozen? ⟨W1.heap.size, 2, none⟩ = false := blk_frozen hz3 2
        have f3 : w3.frozen? ⟨W1.heap.size, 3, none⟩ = false := blk_frozen hz3 3
        clear hdec hz3 hb3 hz2 hb2
        by_cases e2 : d2 = 1
        · subst e2
          go_wp2_with fail
          have hpa : pieceAt s pos = ⟨65533, pos, 1, true⟩ := by rw [PA.out]; simp
          have hb6 := below_set (below_set hb5 (Nat.le_refl W1.heap.size) (j := 2) (v := .int .i64 1)) (Nat.le_refl W1.heap.size) (j := 3) (v := .bool true)
          refine (pc_lit ⟨65533, pos, 1, true⟩ B w0.heap.size w0 _ v ps (blk_below K1.out hb6) (Kd.R_below V1.out hb6) (below_step B1.out hb6) HBB.out (below_step B1.out hb6).size (by have := HN.out.2; have := HX.out; have := HS.out; omega)).mono ?_
          rintro e w4 ⟨rfl, v1, hk4, hv4, hb4, hr4⟩
          have hi2 := blk_below I1.out hb6
          go_wp2
          go_roundw
          case rel =>
            refine ⟨pos + 1, b, ps ++ [⟨65533, pos, 1, true⟩], v1, ⟨?_⟩, ⟨hk4⟩, ⟨hv4⟩, ⟨hb4⟩, ⟨?_⟩, ⟨?_⟩⟩
            · exact hr4.2 _ _ hi2 (fun _ _ _ h => by cases h)
            · have h := HP.out
              simp only [piecesOf, if_pos HX.out, D2.out, hpa] at h
              rw [List.append_assoc]
              exact h
            · have := HN.out
              have := W2.out
              rw [List.length_append]
              simp only [List.length_cons, List.length_nil]
              omega
          case measure =>
            have m1 : w4.iterPos w.heap.size = pos + 1 := by simp [World.iterPos, hr4.2 _ _ hi2 (fun _ _ _ h => by cases h)]
            have m2 : wr.iterPos w.heap.size = pos := by simp [World.iterPos, HI.out]
            have := W2.out
            have := HX.out
            rw [m1, m2]
            omega
        · have n2 : ((d2 : Int) == 1) = false := beq_eq_false_iff_ne.2 (by omega)
          go_wp2_with fail
          have hpa : pieceAt s pos = ⟨65533, pos, x, false⟩ := by rw [PA.out, if_neg (fun h => e2 h.2), decide_eq_false (fun h => e2 h.2)]; rfl
          refine (pc_lit ⟨65533, pos, x, false⟩ B w0.heap.size w0 _ v ps (blk_below K1.out hb5) (Kd.R_below V1.out hb5) (below_step B1.out hb5) HBB.out (below_step B1.out hb5).size (by have := HN.out.2; have := HX.out; have := HS.out; omega)).mono ?_
          rintro e w4 ⟨rfl, v1, hk4, hv4, hb4, hr4⟩
          have hi2 := blk_below I1.out hb5
          go_wp2
          go_roundw
          case rel =>
            refine ⟨pos + d2, b, ps ++ [⟨65533, pos, x, false⟩], v1, ⟨?_⟩, ⟨hk4⟩, ⟨hv4⟩, ⟨hb4⟩, ⟨?_⟩, ⟨?_⟩⟩
            · exact hr4.2 _ _ hi2 (fun _ _ _ h => by cases h)
            · have h := HP.out
              simp only [piecesOf, if_pos HX.out, D2.out, hpa] at h
              rw [List.append_assoc]
              exact h
            · have := HN.out
              have := W2.out
              rw [List.length_append]
              simp only [List.length_cons, List.length_nil]
              omega
          case measure =>
            have m1 : w4.iterPos w.heap.size = pos + d2 := by simp [World.iterPos, hr4.2 _ _ hi2 (fun _ _ _ h => by cases h)]
            have m2 : wr.iterPos w.heap.size = pos := by simp [World.iterPos, HI.out]
            have := W2.out
            have := HX.out
            rw [m1, m2]
            omega
      · have n1 : ((d1 : Int) == 65533) = false := beq_eq_false_iff_ne.2 (by omega)
        go_wp2_with (first | (go_at_call 121; refine (utf8_RuneLen.calls 1 _ x _ RL.out).mono ?_; rintro e w2 ⟨rfl, ⟨nd, rfl⟩⟩; have hz := blk_new (W1.drewN nd) (.cells #[.int .i32 0, .int .i64 0, .int .i64 0, .bool false] 134); have z0 : ((W1.drewN nd).alloc (.cells #[.int .i32 0, .int .i64 0, .int .i64 0, .bool false] 134)).cell? ⟨W1.heap.size, 0, none⟩ = some (.int .i32 0) := (blk_cell hz 0).trans rfl; have z1 : ((W1.drewN nd).alloc (.cells #[.int .i32 0, .int .i64 0, .int .i64 0, .bool false] 134)).cell? ⟨W1.heap.size, 1, none⟩ = some (.int .i64 0) := (blk_cell hz 1).trans rfl; have z2 : ((W1.drewN nd).alloc (.cells #[.int .i32 0, .int .i64 0, .int .i64 0, .bool false] 134)).cell? ⟨W1.heap.size, 2, none⟩ = some (.int .i64 0) := (blk_cell hz 2).trans rfl; have z3 : ((W1.drewN nd).alloc (.cells #[.int .i32 0, .int .i64 0, .int .i64 0, .bool false] 134)).cell? ⟨W1.heap.size, 3, none⟩ = some (.bool false) := (blk_cell hz 3).trans rfl; have f0 : ((W1.drewN nd).alloc (.cells #[.int .i32 0, .int .i64 0, .int .i64 0, .bool false] 134)).frozen? ⟨W1.heap.size, 0, none⟩ = false := blk_frozen hz 0; have f1 : ((W1.drewN nd).alloc (.cells #[.int .i32 0, .int .i64 0, .int .i64 0, .bool false] 134)).frozen? ⟨W1.heap.size, 1, none⟩ = false := blk_frozen hz 1; have f2 : ((W1.drewN nd).alloc (.cells #[.int .i32 0, .int .i64 0, .int .i64 0, .bool false] 134)).frozen? ⟨W1.heap.size, 2, none⟩ = false := blk_frozen hz 2; have f3 : ((W1.drewN nd).alloc (.cells #[.int .i32 0, .int .i64 0, .int .i64 0, .bool false] 134)).frozen? ⟨W1.heap.size, 3, none⟩ = false := blk_frozen hz 3; clear hz) | fail)
        have hst := stored4 W1 nd 134 (.int .i32 0) (.int .i64 0) (.int .i64 0) (.bool false) (.int .i32 (d1 : Int)) (.int .i64 pos) (.int .i64 x) (.bool false)
        obtain ⟨hb2, -⟩ := hst
        generalize ((((((W1.drewN nd).alloc (.cells #[.int .i32 0, .int .i64 0, .int .i64 0, .bool false] 134)).setCell ⟨W1.heap.size, 0, none⟩ (.int .i32 (d1 : Int))).setCell ⟨W1.heap.size, 1, none⟩ (.int .i64 pos)).setCell ⟨W1.heap.size, 2, none⟩ (.int .i64 x)).setCell ⟨W1.heap.size, 3, none⟩ (.bool false)) = WS at hb2 ⊢
        have hpa : pieceAt s pos = ⟨(d1 : Int), pos, x, false⟩ := by rw [PA.out, if_neg (fun h => e1 h.1), decide_eq_false (fun h => e1 h.1)]
        refine (pc_lit ⟨(d1 : Int), pos, x, false⟩ B w0.heap.size w0 WS v ps (blk_below K1.out hb2) (Kd.R_below V1.out hb2) (below_step B1.out hb2) HBB.out (below_step B1.out hb2).size (by have := HN.out.2; have := HX.out; have := HS.out; omega)).mono ?_
        rintro e w3 ⟨rfl, v1, hk3, hv3, hb3, hr3⟩
        have hi2 := blk_below I1.out hb2
        go_wp2
        go_roundw
        case rel =>
          refine ⟨pos + d2, b, ps ++ [⟨(d1 : Int), pos, x, false⟩], v1, ⟨?_⟩, ⟨hk3⟩, ⟨hv3⟩, ⟨hb3⟩, ⟨?_⟩, ⟨?_⟩⟩
          · exact hr3.2 _ _ hi2 (fun _ _ _ h => by cases h)
          · have h := HP.out
            simp only [piecesOf, if_pos HX.out, D2.out, hpa] at h
            rw [List.append_assoc]
            exact h
          · have := HN.out
            have := W2.out
            rw [List.length_append]
            simp only [List.length_cons, List.length_nil]
            omega
        case measure =>
          have m1 : w3.iterPos w.heap.size = pos + d2 := by simp [World.iterPos, hr3.2 _ _ hi2 (fun _ _ _ h => by cases h)]
          have m2 : wr.iterPos w.heap.size = pos := by simp [World.iterPos, HI.out]
          have := W2.out
          have := HX.out
          rw [m1, m2]
          omega
    · have hnx := fun ty => Lib.run_next_end_at (P := Tryd.prog) wr _ s pos ty HI.out hlt
      go_wp2
      first | go_ret | go_end0
      refine ⟨rfl, v, HK.out, ?_, HB.out⟩
      have := HP.out
      rw [piecesOf_end s b pos hlt, List.append_nil] at this
      rw [← this]
      exact HV.out
set_option maxHeartbeats 2000000 in
set_option maxRecDepth 100000 in
theorem pieces_of (s : ByteArray) (w : World) (hs : s.size ≤ 65536) (hT : Tabs w) :
    Calls Tryd.prog 99 #[.string s] w fun e w' => ∃ v1, e = .returned (.tuple #[v1, .int .i64 0]) ∧ kPc.R 134 w' w.heap.size (fun _ => True) v1 (pieces s) ∧ Below w.heap.size w w' := by
  have hlg : runes_long.f s = some 0 := by
    unfold runes_long.f
    rw [if_neg (by omega)]
  have HL := Aside0.mk hlg
  have HS := Aside0.mk hs
  have HT := Aside0.mk hT
  clear hlg hs hT
  go_enter Tryd.func99, Tryd.ntmps99
  go_wp2_with (first | (go_at_call 109; refine (runes_long.calls _ _ _ HL.out).mono ?_; rintro e w2 ⟨rfl, ⟨nd, rfl⟩⟩) | fail)
  refine (each_pc s (w.drewN nd).heap.size w _ HS.out HT.out (blk_new (w.drewN nd) _) (below_alloc (pw_below_drewN (Below.refl _ w) nd) _) (Nat.le_refl _)).mono ?_
  rintro e w3 ⟨rfl, v1, hk3, hv3, hb3⟩
  have c1 : w3.cell? ⟨w.heap.size, 0, none⟩ = some v1 := (blk_cell hk3 0).trans rfl
  obtain ⟨A, c, rfl, -, -⟩ := Kd.R_reads hv3
  have V3 := Aside0.mk hv3
  have B3 := Aside0.mk hb3
  clear hk3 hv3 hb3
  go_wp2
  go_ret2
  exact ⟨_, rfl, V3.out, B3.out⟩
end Go.Proofs.YtjnikjnkmcbjfabDoor.X
