/- Words beside the printed ones: utf8's two tables as laid; the string of a row of runes. -/
import Derived.Test.YtjnikjnkmcbjfabDoorProg
import Derived.Test.YtjnikjnkmcbjfabDoorWAll
import Derived.Shelf.Unicode.DecodeSlow
import Derived.Laws.Cover4
import Derived.Below
namespace Go.Proofs.YtjnikjnkmcbjfabDoor.X
open Go.RowKit Go.Proofs.YtjnikjnkmcbjfabDoorW.PrintWords

/-- utf8's two tables lie in the world as their initialisers lay them. -/
def Tabs (w : World) : Prop := Lib.Utf8Tabs 0 1 w
theorem Tabs.below {w w1 : World} (h : Tabs w) (hb : Below w.heap.size w w1) : Tabs w1 := by
  refine ⟨fun c hc => ?_, fun i hi => ⟨?_, ?_⟩⟩
  · have := h.1 c hc
    exact (hb.cell (World.block_lt_of_cell? w _ this)).trans this
  · have := (h.2 i hi).1
    exact (hb.cell (World.block_lt_of_cell? w _ this)).trans this
  · have := (h.2 i hi).2
    exact (hb.cell (World.block_lt_of_cell? w _ this)).trans this

theorem Tabs.size1 (b : UInt8) : (⟨#[b]⟩ : ByteArray).size = 1 := rfl
theorem Tabs.size0 : (⟨#[]⟩ : ByteArray).size = 0 := rfl
theorem Tabs.C_len {α : Type} {d : Kd α} {w : World} {A : Option Addr} {n m : Nat} {xs : List α} (hn : n = m) (h : d.C w A n xs) : d.C w A m xs := hn ▸ h
theorem runes_of_reads {P : Program} {w : World} {src dst e : TypeId} {A : Option Addr} {n c : Nat} {xs : List Int} (hs : P.underlying src = some (.slice e)) (he : P.underlying e = some (.int .i32)) (hd : P.underlying dst = some .string)
    (h : ReadsInt w .i32 A n xs) : (convert src dst (.slice A n c)).run P w = .ok (.string (runesBytes xs)) w := by
  have hn : xs.length = n := h.1
  rcases A with _ | ad
  · have h0 : n = 0 := by
      rcases Nat.eq_zero_or_pos n with h0 | h0
      · exact h0
      · obtain ⟨ad, h', _⟩ := h.2.2 h0
        cases h'
    obtain rfl : xs = [] := List.eq_nil_of_length_eq_zero (by omega)
    exact run_convert_runes_nil w src dst e n c hs he hd
  · have hc : ∀ j, j < xs.length → w.cell? (ad.add j) = some (.int .i32 (xs.getD j 0)) := fun j hj => by
      obtain ⟨ad', h', hcell⟩ := h.2.2 (by omega)
      cases h'
      exact hcell j (by omega)
    have := run_convert_runes (P := P) w src dst e ad n c xs (by omega) hs he hd hc
    rw [← hn, List.take_length] at this
    rw [← hn]
    exact this
theorem Tabs.C_runes {P : Program} {w : World} {src dst e : TypeId} {A : Option Addr} {n c : Nat} {xs : List Int} (hs : P.underlying src = some (.slice e)) (he : P.underlying e = some (.int .i32)) (hd : P.underlying dst = some .string)
    (h : (Kd.int .i32).C w A n xs) : (convert src dst (.slice A n c)).run P w = .ok (.string (runesBytes xs)) w :=
  runes_of_reads hs he hd (Kd.reads_of_C (enc := Value.int .i32) (d := (0 : Int)) (h1 := fun _ => rfl) h)
theorem Tabs.own_runes {P : Program} {w : World} {base n : Nat} {e' src dst e : TypeId} {v : Value} {xs : List Int} (hs : P.underlying src = some (.slice e)) (he : P.underlying e = some (.int .i32)) (hd : P.underlying dst = some .string)
    (h : w.ownsRow base e' 1 v n (nums .i32 xs)) : (convert src dst v).run P w = .ok (.string (runesBytes xs)) w := by
  obtain ⟨A, c, rfl, hr⟩ := own_reads h
  exact runes_of_reads hs he hd hr
end Go.Proofs.YtjnikjnkmcbjfabDoor.X
