/- The heap: the contract of Move. -/
import Derived.Test.YtjgmbgdbhpfciaaHpQ
namespace Go.Proofs.Ytjgmbgdbhpfciaa
open Go.RowKit Go.Maps Go.WideShapes

theorem KOk.setk {K : List It} {i : Nat} {x k k' : Int} (h : KOk K) (hi : K[i]? = some ⟨x, k⟩) : KOk (K.set i ⟨x, k'⟩) := by
  have hm : (K.set i ⟨x, k'⟩).map It.x = K.map It.x := by
    rw [List.map_set]
    apply List.ext_getElem?
    intro j
    by_cases e : i = j
    · subst e
      rw [List.getElem?_set_self (by simpa using (List.getElem?_eq_some_iff.1 hi).1), List.getElem?_map, hi]; rfl
    · rw [List.getElem?_set_ne e]
  refine ⟨by rw [hm]; exact h.nd, fun a ha => ?_⟩
  have : a.x ∈ (K.set i ⟨x, k'⟩).map It.x := List.mem_map.2 ⟨a, ha, rfl⟩
  rw [hm] at this
  obtain ⟨c, hc, e⟩ := List.mem_map.1 this
  rw [← e]; exact h.wf c hc

theorem MapIs.setk {D : DM} {K : List It} {i : Nat} {x k k' : Int} (h : MapIs D K) (hi : K[i]? = some ⟨x, k⟩) : MapIs D (K.set i ⟨x, k'⟩) := by
  have hlt := (List.getElem?_eq_some_iff.1 hi).1
  refine ⟨fun l hl => ?_, fun j a hj => ?_⟩
  · obtain ⟨a, ha, e⟩ := h.dom l hl
    obtain ⟨j, hj⟩ := List.mem_iff_getElem?.1 ha
    by_cases e2 : i = j
    · subst e2; rw [hi] at hj; cases hj
      exact ⟨⟨x, k'⟩, List.mem_of_getElem? (List.getElem?_set_self hlt), e⟩
    · exact ⟨a, List.mem_of_getElem? (i := j) (by rw [List.getElem?_set_ne e2]; exact hj), e⟩
  · by_cases e2 : i = j
    · subst e2; rw [List.getElem?_set_self hlt] at hj; cases hj
      exact h.at_ i ⟨x, k⟩ hi
    · rw [List.getElem?_set_ne e2] at hj; exact h.at_ j a hj

theorem move_mem {w : World} {b mb g cap i : Nat} {x k k' : Int} {K : List It} {D : DM} {F : List Nat}
    (h1 : w.heap[b]? = some (.cells #[.slice (some ⟨g, 0, none⟩) K.length cap, .map (some mb)] 52 (0, 0))) (h2 : w.ownsRow 0 55 2 (.slice (some ⟨g, 0, none⟩) K.length cap) K.length (flatIts K))
    (h3 : w.ownsMap Try.prog 3 (plainElem Try.prog 3) mb (Maps.size D) D) (hF : F = [b, mb, g]) (hbm : b ≠ mb) (hbg : b ≠ g) (hmg : mb ≠ g) (hbd : K.length ≤ 2147483647) (hi : K[i]? = some ⟨x, k⟩) :
    HpMem (w.setCell ⟨g, i * 2 + 1, none⟩ (.int .i64 k')) b (K.set i ⟨x, k'⟩) D F ∧ Upd F w (w.setCell ⟨g, i * 2 + 1, none⟩ (.int .i64 k')) := by
  have hlt := (List.getElem?_eq_some_iff.1 hi).1
  refine ⟨⟨⟨.slice (some ⟨g, 0, none⟩) K.length cap, mb, ?_, ?_, own_keep h3 (heap_set_ne hmg), by simpa [Value.ownBlock] using hF, hbm, by simpa [Value.ownBlock] using hbg, by simpa [Value.ownBlock] using hmg⟩, by simpa using hbd⟩, (Upd.refl F w).setCell (by simp [hF]) _⟩
  · rw [heap_set_ne hbg]; exact h1
  · rw [List.length_set, its_set]
    have e : (flatIts K).set (i * 2) (.int .i64 x) = flatIts K := by
      apply List.ext_getElem?
      intro j
      rw [List.getElem?_set]
      split
      · rename_i e; subst e
        rw [(its_get K i).1, hi]
        split
        · rfl
        · rename_i hn
          have : (flatIts K).length = K.length * 2 := by
            clear h2 hi hlt hn h1
            induction K with
            | nil => simp [flatIts]
            | cons a t ih => 
              have := ih (by simp at hbd; omega)
              simp [flatIts] at this ⊢; omega
          omega
      · rfl
    rw [e]
    exact row_set h2 (by omega) _

set_option maxHeartbeats 800000 in
theorem move_spec (b i : Nat) (x k k' : Int) (K : List It) (F : List Nat) (w : World) (h : HpAt w b K F) (hi : K[i]? = some ⟨x, k⟩) :
    Calls Try.prog 9 #[.pointer (some ⟨b, 0, none⟩), .int .i64 x, .int .i64 k'] w fun e w' => e = .returned (.int .i64 0) ∧ ∃ K', HpAt w' b K' F ∧ K'.Perm (K.set i ⟨x, k'⟩) ∧ Upd F w w' := by
  obtain ⟨D, hm, hd⟩ := h.ex
  obtain ⟨lv, mb, h1, h2, h3, hF, hbm, hbl, hml⟩ := hm.cells
  have hlt := (List.getElem?_eq_some_iff.1 hi).1
  obtain ⟨g, cap, rfl, _, hg⟩ := World.ownsRow.form h2 (by omega)
  simp [Value.ownBlock] at hF hbl hml
  have hbd := hm.bd
  have hwf := h.ok.wf _ (List.mem_of_getElem? hi)
  have hc0 : w.cell? ⟨b, 0, none⟩ = some (.slice (some ⟨g, 0, none⟩) K.length cap) := cell_at h1 rfl
  have hc1 : w.cell? ⟨b, 1, none⟩ = some (.map (some mb)) := cell_at h1 rfl
  have g1 : w.cell? ⟨g, i * 2 + 1, none⟩ = some (.int .i64 k) := row_cell h2 (by rw [(its_get K i).2, hi]; rfl)
  have z1 := row_frozen h2 (i * 2 + 1)
  obtain ⟨v, ps, hrun, hv⟩ := h3.look_ok intKeyed Try.underlying50 (zeroInt w) (plainElem_int (H := Unit) Try.underlying3 (wf64 (n := 0) (by omega) (by omega))) (keyOf_int_mk Try.underlying3 hwf)
  obtain ⟨hh, hat⟩ := hd.at_ i _ hi
  rw [hh] at hrun
  rw [hat] at hv
  obtain ⟨c, rfl, hcv, _⟩ := plainElem_int_inv Try.underlying3 hv
  have hci : c = (i : Int) := by simpa using congrArg Prod.fst hcv.symm
  subst hci
  obtain ⟨m1, m2⟩ := move_mem (k' := k') h1 h2 h3 hF hbm hbl hml hbd hi
  have HM := Lib.hid m1
  have HU := Lib.hid m2
  have HOK := Lib.hid (h.ok.setk (k' := k') hi)
  have HD := Lib.hid (hd.setk (k' := k') hi)
  have HMid := Lib.hid (h.hp.set_mid i ⟨x, k'⟩)
  have HW := Lib.hid hwf
  have hib : i ≤ 2147483647 := by omega
  have hgi : (K.set i ⟨x, k'⟩)[i]? = some ⟨x, k'⟩ := List.getElem?_set_self hlt
  have HG := Lib.hid hgi
  clear h1 h2 h3 hm h hd hF hi hwf hv hcv hh hat m1 m2 hgi
  go_enter Try.func9, Try.ntmps9
  go_wp2_with fail
  refine (up_spec b i ⟨x, k'⟩ _ D F _ HM.out HG.out HOK.out HMid.out (HD.out.but i)).mono ?_
  rintro e w5 ⟨rfl, hp5⟩
  obtain ⟨K2, i2, D2, u1, u2, u3, u4, u5, u6, _⟩ := hp5.ex
  obtain ⟨lv, mb2, e1, e2, e3, _⟩ := u1.cells
  have hc15 : w5.cell? ⟨b, 1, none⟩ = some (.map (some mb2)) := cell_at e1 rfl
  obtain ⟨c2, hrun2, hat2, _⟩ := e3.lookup_int intKeyed Try.underlying50 Try.underlying3 (zeroInt w5) (keyOf_int_mk Try.underlying3 HW.out)
  have hci2 : c2 = (i2 : Int) := by
    have := (u2.at_ i2 _ u4).2 (.lit (.int .i64 0))
    rw [this] at hat2
    simpa using hat2.symm
  have HU5 := Lib.hid hp5.up
  have H5 := Lib.hid (And.intro u1 (And.intro u2 (And.intro u3 (And.intro u4 (And.intro u5 u6)))))
  have HC2 := Lib.hid hci2
  clear e1 e2 e3 u1 u2 u3 u4 u5 u6 hp5 hat2 hci2
  go_wp2_with fail
  obtain ⟨u1, u2, u3, u4, u5, u6⟩ := H5.out
  have hk2 := HOK.out.perm u3
  refine (down_spec b i2 c2 HC2.out ⟨x, k'⟩ K2 D2 F w5 u1 u4 hk2 u5 u6 (u2.but i2)).mono ?_
  rintro e w6 ⟨rfl, hp6⟩
  have HE : Hid (∃ K', HpAt w6 b K' F ∧ K'.Perm (K.set i ⟨x, k'⟩) ∧ Upd F w w6) := by
    obtain ⟨K', g1, g2⟩ := hp6.heap hk2
    exact ⟨K', g1, g2.trans u3, (HU.out.trans HU5.out).trans hp6.up⟩
  clear hp6 hk2 u1 u2 u3 u4 u5 u6
  go_wp2_with fail
  go_ret
  exact ⟨rfl, HE.out⟩
end Go.Proofs.Ytjgmbgdbhpfciaa
