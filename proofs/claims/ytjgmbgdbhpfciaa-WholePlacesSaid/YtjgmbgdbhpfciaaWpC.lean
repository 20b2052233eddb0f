/- WholePlaces: the arena's calls, as the law meets them. -/
import Derived.Test.YtjgmbgdbhpfciaaWpP
namespace Go.Proofs.Ytjgmbgdbhpfciaa
open Go.RowKit

theorem pl_check {A : ArenaV} (ok : A.Ok) {v : Int} (h0 : 0 ≤ v) (h1 : v < 64) : A.checkE v 0 1 = 0 := by
  have := ok.tk01
  unfold ArenaV.checkE
  rw [if_neg (by omega), this.1, this.2]
  simp

theorem pl_alloc {w wr : World} {s8 s9 : Value} {n b : Nat} {R : List Nat} {V : List Int} {A : ArenaV} {F : List Nat} (hW : PlW w wr s8 s9 b R V A F) (hI : PlInv n R V A)
    (hn : ¬ R.length + 2 = n) (v : Int) (h0 : 0 ≤ v) (h1 : v < 64) :
    Calls Try.prog 13 #[.pointer (some ⟨b, 0, none⟩), .agg #[.int .i64 v, .int .u32 0, .int .u32 1]] wr fun e w' =>
      ∃ r A' F', e = .returned (.tuple #[.int .u32 (r : Nat), .int .i64 0]) ∧ r ∉ R ∧ 2 ≤ r ∧ PlW w w' s8 s9 b R V A' F' ∧ PlInv n (R ++ [r]) (V ++ [v]) A' := by
  have ok := hW.ar.ok
  have hc := pl_check ok h0 h1
  rcases hI.room ok hn with ⟨fr, r, hf⟩ | ⟨hf, hl⟩
  · obtain ⟨g1, g2, g3⟩ := hI.put ok hf v
    refine (alloc_free b F v 0 1 r fr A wr hW.ar (by omega) (by omega) hf hc).mono ?_
    rintro e w' ⟨rfl, ha, hu⟩
    exact ⟨r, _, F, rfl, g1, g2, hW.arena ha hu (Sub.refl _ _), g3⟩
  · obtain ⟨g1, g2, g3⟩ := hI.push ok v
    refine (alloc_push b F v 0 1 A wr hW.ar (by omega) (by omega) hf hl hc).mono ?_
    rintro e w' ⟨rfl, F', ha, hu, hs⟩
    exact ⟨_, _, F', rfl, g1, g2, hW.arena ha hu hs, g3⟩

theorem pl_full {w wr : World} {s8 s9 : Value} {n b : Nat} {R : List Nat} {V : List Int} {A : ArenaV} {F : List Nat} (hW : PlW w wr s8 s9 b R V A F) (hI : PlInv n R V A)
    (hn : R.length + 2 = n) (v : Int) (h0 : 0 ≤ v) (h1 : v < 64) :
    Calls Try.prog 13 #[.pointer (some ⟨b, 0, none⟩), .agg #[.int .i64 v, .int .u32 0, .int .u32 1]] wr fun e w' =>
      e = .returned (.tuple #[.int .u32 0, .int .i64 9]) ∧ PlW w w' s8 s9 b R V A F := by
  have ok := hW.ar.ok
  obtain ⟨g1, g2⟩ := hI.full ok hn
  refine (alloc_full b F v 0 1 A wr hW.ar (by omega) (by omega) g1 g2 (pl_check ok h0 h1)).mono ?_
  rintro e w' ⟨rfl, hu⟩
  exact ⟨rfl, hW.upd hu⟩

theorem pl_free {w wr : World} {s8 s9 : Value} {n b r : Nat} {R : List Nat} {V : List Int} {A : ArenaV} {F : List Nat} (hW : PlW w wr s8 s9 b R V A F) (hI : PlInv n R V A) (hr : r ∈ R) :
    Calls Try.prog 14 #[.pointer (some ⟨b, 0, none⟩), .int .u32 r] wr fun e w' =>
      e = .returned (.int .i64 0) ∧ 1 ≤ A.used ∧ ∃ F', PlW w w' s8 s9 b R V (A.drop r) F' := by
  obtain ⟨j, hj⟩ := List.mem_iff_getElem?.1 hr
  obtain ⟨v, h1, h2, h3⟩ := hI.at_ j r hj
  have hlt := (List.getElem?_eq_some_iff.1 h2).1
  have ok := hW.ar.ok
  have := ok.lp
  have := ok.pm
  refine (free_ok b F r A wr hW.ar (by omega) h3 (ArenaV.tk_iff.2 ⟨_, h2, rfl⟩)).mono ?_
  rintro e w' ⟨rfl, F', ha, hu, hs⟩
  exact ⟨rfl, by rw [hI.us]; omega, F', hW.arena ha hu hs⟩

theorem pl_again {w wr : World} {s8 s9 : Value} {b r : Nat} {R : List Nat} {V : List Int} {A : ArenaV} {F : List Nat} (hW : PlW w wr s8 s9 b R V (A.drop r) F) (hr : r ≤ 4294967295) :
    Calls Try.prog 14 #[.pointer (some ⟨b, 0, none⟩), .int .u32 r] wr fun e w' => e = .returned (.int .i64 3) ∧ wr = w' :=
  free_err b F r _ wr hW.ar hr drop_tk
end Go.Proofs.Ytjgmbgdbhpfciaa
