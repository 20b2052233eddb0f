/- The kernel's calls that hold and let go. -/
import Derived.Test.YtnenhecnkidnpaaKU
import Derived.Test.YtnenhecnkidnpaaKO
namespace Go.Proofs.Ytnenhecnkidnpaa
open Go.RowKit Go.Maps Go.ChangeMaps Go.WideShapes

/-- a kernel in memory, sound -/
structure KerIn (w : World) (b : Nat) (K : KV) (T : List DM) (q : KPtr) : Prop where
  mem : KerMem w b K T q
  ti : TInv T K []
  ok : K.Ok

def KerAt (w : World) (b : Nat) (K : KV) (F : List Nat) : Prop := ∃ T q, KerIn w b K T q ∧ F = q.all b

theorem KerIn.upd {w w' : World} {b : Nat} {K : KV} {T : List DM} {q : KPtr} {S : List Nat} (h : KerIn w b K T q) (u : Upd S w w') (hd : ∀ k, k ∈ q.all b → k ∉ S) : KerIn w' b K T q := ⟨h.mem.upd u hd, h.ti, h.ok⟩
theorem KerAt.upd {w w' : World} {b : Nat} {K : KV} {F S : List Nat} (h : KerAt w b K F) (u : Upd S w w') (hd : ∀ k, k ∈ F → k ∉ S) : KerAt w' b K F := by
  obtain ⟨T, q, h, rfl⟩ := h
  exact ⟨T, q, h.upd u hd, rfl⟩
theorem KerAt.ok {w : World} {b : Nat} {K : KV} {F : List Nat} (h : KerAt w b K F) : K.Ok := by obtain ⟨T, q, h, rfl⟩ := h; exact h.ok
theorem KerAt.lt {w : World} {b : Nat} {K : KV} {F : List Nat} (h : KerAt w b K F) : ∀ k, k ∈ F → k < w.heap.size := by obtain ⟨T, q, h, rfl⟩ := h; exact h.mem.lt
theorem KerAt.memb {w : World} {b : Nat} {K : KV} {F : List Nat} (h : KerAt w b K F) : b ∈ F := by obtain ⟨T, q, h, rfl⟩ := h; exact KPtr.mem.2 (.inl rfl)

theorem Upd.trans0 {S : List Nat} {w w1 w2 : World} (h : Upd [] w w1) (k : Upd S w1 w2) : Upd S w w2 := (h.mono (by simp)).trans k

theorem KV.Wf.tk_lt {K : KV} {P : List Nat} (h : K.Wf P) {r : Nat} (h2 : 2 ≤ r) (ht : K.A.tk r = true) : r < K.uses.length ∧ r < K.holds.length ∧ K.uses.length ≤ 1048576 ∧ K.holds.length ≤ 1048576 := by
  have h1 := h.tu r h2 ht
  have h3 := h.len
  have h4 := h.ul
  have h5 := h.ok.lp
  have h6 := h.ok.pm
  omega

theorem TInv.uni {T : List DM} {K : KV} {P : List Nat} (h : TInv T K []) (hw : K.Wf P) : K.Uni :=
  fun r s p c h2 h3 hp hc hpt hct e1 e2 e3 => h.uniq hw h2 h3 hp hc hpt hct (by simp) (by simp) (by simp [nkp, e1, e2, e3])

theorem KerAt.uni {w : World} {b : Nat} {K : KV} {F : List Nat} (h : KerAt w b K F) : K.Uni := by obtain ⟨T, q, h, rfl⟩ := h; exact h.ti.uni h.ok.wf

/-- the end of Keep in memory, all its ways -/
theorem KerMem.keep0 {w : World} {b r : Nat} {K : KV} {T : List DM} {q : KPtr} (h : KerMem w b K T q) (hr : r < 2) :
    ∃ q', KerMem (w.setCell ⟨b, 7, none⟩ (.slice none 0 0)) b (K.keepK r) T q' ∧ Upd (q.all b) w (w.setCell ⟨b, 7, none⟩ (.slice none 0 0)) ∧ ∀ k, k ∈ q'.all b → k ∈ q.all b := by
  have hbm : b ∈ q.all b := KPtr.mem.2 (.inl rfl)
  have e : K.keepK r = { K with trail := [] } := by unfold KV.keepK; rw [if_neg (by omega)]
  refine ⟨{ q with tv := .slice none 0 0 }, ?_, (Upd.refl _ _).setCell (p := ⟨b, 7, none⟩) (.inl hbm) _, ?_⟩
  · rw [e]; exact h.noTrail
  · intro k hk
    simp only [KPtr.mem, Value.ownBlock] at hk ⊢
    simp at hk
    rcases hk with hk | hk | hk | hk | hk | hk | hk <;> simp [hk]

theorem KerMem.keep1 {w : World} {b r g n c : Nat} {K : KV} {T : List DM} {q : KPtr} (h : KerMem w b K T q) (hw : K.Wf []) (hr : 2 ≤ r) (ht : K.A.tk r = true) (hq : q.hv = .slice (some ⟨g, 0, none⟩) n c) (h0 : 0 < K.hold r) :
    ∃ q', KerMem ((w.setCell ⟨g, r, none⟩ (.int .i32 ((K.hold r + 1 : Nat) : Int))).setCell ⟨b, 7, none⟩ (.slice none 0 0)) b (K.keepK r) T q' ∧ Upd (q.all b) w ((w.setCell ⟨g, r, none⟩ (.int .i32 ((K.hold r + 1 : Nat) : Int))).setCell ⟨b, 7, none⟩ (.slice none 0 0)) ∧ ∀ k, k ∈ q'.all b → k ∈ q.all b := by
  have hbm : b ∈ q.all b := KPtr.mem.2 (.inl rfl)
  have e : K.keepK r = { ({ K with holds := K.holds.set r (K.hold r + 1) } : KV) with trail := [] } := by unfold KV.keepK; rw [if_pos hr, if_neg (by omega)]
  have hg : g ∈ q.all b := KPtr.mem.2 (.inr (.inr (.inr (.inr (.inl (by rw [hq]; rfl))))))
  refine ⟨{ q with tv := .slice none 0 0 }, ?_, ((Upd.refl _ _).setCell (p := ⟨g, r, none⟩) (.inl hg) _).setCell (p := ⟨b, 7, none⟩) (.inl hbm) _, ?_⟩
  · rw [e]; exact (h.setHold hq (hw.tk_lt hr ht).2.1).noTrail
  · intro k hk
    simp only [KPtr.mem, Value.ownBlock] at hk ⊢
    simp at hk
    rcases hk with hk | hk | hk | hk | hk | hk | hk <;> simp [hk]

theorem KerMem.keep2 {w : World} {b r g n c gu nu cu : Nat} {K : KV} {T : List DM} {q : KPtr} (h : KerMem w b K T q) (hw : K.Wf []) (hr : 2 ≤ r) (ht : K.A.tk r = true) (hq : q.hv = .slice (some ⟨g, 0, none⟩) n c) (hqu : q.uv = .slice (some ⟨gu, 0, none⟩) nu cu) (h0 : K.hold r = 0) :
    ∃ q', KerMem (((w.setCell ⟨g, r, none⟩ (.int .i32 1)).setCell ⟨gu, r, none⟩ (.int .i32 ((K.use r + 1 : Nat) : Int))).setCell ⟨b, 7, none⟩ (.slice none 0 0)) b (K.keepK r) T q' ∧ Upd (q.all b) w (((w.setCell ⟨g, r, none⟩ (.int .i32 1)).setCell ⟨gu, r, none⟩ (.int .i32 ((K.use r + 1 : Nat) : Int))).setCell ⟨b, 7, none⟩ (.slice none 0 0)) ∧ ∀ k, k ∈ q'.all b → k ∈ q.all b := by
  have hbm : b ∈ q.all b := KPtr.mem.2 (.inl rfl)
  have e : K.keepK r = { ({ ({ K with holds := K.holds.set r 1 } : KV) with uses := K.uses.set r (K.use r + 1) }) with trail := [] } := by unfold KV.keepK; rw [if_pos hr, if_pos h0, h0]
  have hg : g ∈ q.all b := KPtr.mem.2 (.inr (.inr (.inr (.inr (.inl (by rw [hq]; rfl))))))
  have hg2 : gu ∈ q.all b := KPtr.mem.2 (.inr (.inr (.inr (.inl (by rw [hqu]; rfl)))))
  refine ⟨{ q with tv := .slice none 0 0 }, ?_, (((Upd.refl _ _).setCell (p := ⟨g, r, none⟩) (.inl hg) _).setCell (p := ⟨gu, r, none⟩) (.inl hg2) _).setCell (p := ⟨b, 7, none⟩) (.inl hbm) _, ?_⟩
  · rw [e]; exact ((h.setHold (n := 1) hq (hw.tk_lt hr ht).2.1).setUse hqu (hw.tk_lt hr ht).1).noTrail
  · intro k hk
    simp only [KPtr.mem, Value.ownBlock] at hk ⊢
    simp at hk
    rcases hk with hk | hk | hk | hk | hk | hk | hk <;> simp [hk]

set_option maxRecDepth 100000 in
set_option maxHeartbeats 800000 in
/-- Keep of a Ref that is not live. -/
theorem keep_no (b r : Nat) (K : KV) (T : List DM) (q : KPtr) (w : World) (h : KerIn w b K T q) (hr : r ≤ 4294967295) (ht : K.A.tk r = false) :
    Calls Try.prog 39 #[.pointer (some ⟨b, 0, none⟩), .int .u32 r] w fun e w' => e = .returned (.int .i64 3) ∧ Upd [] w w' := by
  have HT := Lib.hid ht
  have HM := Lib.hid h.mem
  clear h ht
  go_enter Try.func39, Try.ntmps39
  go_wp2_with fail
  refine (live_spec b r K T q _ HM.out hr).mono ?_
  rintro e w1 ⟨rfl, hu⟩
  rw [HT.out]
  have HU := Lib.hid hu
  clear hu
  go_wp2_with fail
  go_ret
  exact ⟨rfl, HU.out⟩

set_option maxRecDepth 100000 in
set_option maxHeartbeats 800000 in
/-- Keep of a Ref that is held as often as can be. -/
theorem keep_full (b r : Nat) (K : KV) (T : List DM) (q : KPtr) (w : World) (h : KerIn w b K T q) (hr : r ≤ 4294967295) (ht : K.A.tk r = true) (hf : K.hold r = 65535) :
    Calls Try.prog 39 #[.pointer (some ⟨b, 0, none⟩), .int .u32 r] w fun e w' => e = .returned (.int .i64 8) ∧ Upd [] w w' := by
  have h2 := (h.ok.wf.ht r (by omega)).1
  have hl := h.ok.wf.tk_lt h2 ht
  have hd : (1 : Int) < (r : Int) := by omega
  have HT := Lib.hid ht
  have HM := Lib.hid h.mem
  have HF := Lib.hid hf
  clear h ht hf
  go_enter Try.func39, Try.ntmps39
  go_wp2_with fail
  refine (live_spec b r K T q _ HM.out hr).mono ?_
  rintro e w1 ⟨rfl, hu⟩
  rw [HT.out]
  have m1 := HM.out.upd hu (by simp)
  obtain ⟨gh, ch, hqh, c3, ch1, fh1, hgh⟩ := m1.holdCell hl.2.1
  rw [HF.out] at ch1
  have hrl : (r : Int) < (K.holds.length : Int) := by omega
  have HU := Lib.hid hu
  clear hu m1 hqh hgh
  go_wp2_with fail
  go_ret
  exact ⟨rfl, HU.out⟩

set_option maxRecDepth 100000 in
set_option maxHeartbeats 1600000 in
/-- Keep of a Ref that is live. -/
theorem keep_yes (b r : Nat) (K : KV) (T : List DM) (q : KPtr) (w : World) (h : KerMem w b K T q) (hw : K.Wf []) (hr : r ≤ 4294967295) (ht : K.A.tk r = true) (hf : K.hold r < 65535) :
    Calls Try.prog 39 #[.pointer (some ⟨b, 0, none⟩), .int .u32 r] w fun e w' => e = .returned (.int .i64 0) ∧ ∃ q', KerMem w' b (K.keepK r) T q' ∧ Upd (q.all b) w w' ∧ ∀ k, k ∈ q'.all b → k ∈ q.all b := by
  have HT := Lib.hid ht
  have HM := Lib.hid h
  have HW := Lib.hid hw
  by_cases h2 : 2 ≤ r
  · have hl := hw.tk_lt h2 ht
    have hd : (1 : Int) < (r : Int) := by omega
    have hub : K.use r + 1 ≤ 2147483647 := by have := hw.use_le h2 ht; simp at this; omega
    clear h hw ht
    by_cases h0 : K.hold r = 0
    · have H0 := Lib.hid h0
      go_enter Try.func39, Try.ntmps39
      go_wp2_with fail
      refine (live_spec b r K T q _ HM.out hr).mono ?_
      rintro e w1 ⟨rfl, hu⟩
      rw [HT.out]
      have m1 := HM.out.upd hu (by simp)
      obtain ⟨gh, ch, hqh, c3, ch1, fh1, hgh⟩ := m1.holdCell hl.2.1
      obtain ⟨gu, cu, hqu, c2, cu1, fu1, hgu⟩ := m1.useCell hl.1
      rw [H0.out] at ch1
      have hb := m1.blk
      have fb := frozen_at 7 hb
      have c7 : w1.cell? ⟨b, 7, none⟩ = some q.tv := cell_at hb rfl
      have ngh : gu ≠ gh := by
        rintro rfl
        have e1 := m1.ou gu (by rw [hqu]; rfl)
        have e2 := m1.oh gu (by rw [hqh]; rfl)
        omega
      have nbu : b ≠ gu := by
        rintro rfl
        have e1 := m1.ou b (by rw [hqu]; rfl)
        have e2 := m1.ob
        omega
      have nbh : b ≠ gh := by
        rintro rfl
        have e1 := m1.oh b (by rw [hqh]; rfl)
        have e2 := m1.ob
        omega
      have hrl : (r : Int) < (K.holds.length : Int) := by omega
      have hrl2 : (r : Int) < (K.uses.length : Int) := by omega
      have HU := Lib.hid hu
      have HE := Lib.hid (m1.keep2 HW.out h2 HT.out hqh hqu h0)
      clear hu m1 hqh hgh hqu hgu hb
      go_wp2_with fail
      go_ret
      obtain ⟨q', a1, a2, a3⟩ := HE.out
      exact ⟨rfl, q', by simpa using a1, by simpa using HU.out.trans0 a2, a3⟩
    · go_enter Try.func39, Try.ntmps39
      go_wp2_with fail
      refine (live_spec b r K T q _ HM.out hr).mono ?_
      rintro e w1 ⟨rfl, hu⟩
      rw [HT.out]
      have m1 := HM.out.upd hu (by simp)
      obtain ⟨gh, ch, hqh, c3, ch1, fh1, hgh⟩ := m1.holdCell hl.2.1
      have hb := m1.blk
      have fb := frozen_at 7 hb
      have c7 : w1.cell? ⟨b, 7, none⟩ = some q.tv := cell_at hb rfl
      have nbh : b ≠ gh := by
        rintro rfl
        have e1 := m1.oh b (by rw [hqh]; rfl)
        have e2 := m1.ob
        omega
      have hrl : (r : Int) < (K.holds.length : Int) := by omega
      have hn1 : decide ((K.hold r : Int) = 65535) = false := by simp; omega
      have hn2 : decide ((K.hold r : Int) + 1 = 1) = false := by simp; omega
      have hn3 : ¬ ((K.hold r : Int) = 65535) := by omega
      have hn4 : ¬ ((K.hold r : Int) + 1 = 1) := by omega
      have HU := Lib.hid hu
      have HE := Lib.hid (m1.keep1 HW.out h2 HT.out hqh (by omega))
      clear hu m1 hqh hgh hb
      go_wp2_with fail
      go_ret
      obtain ⟨q', a1, a2, a3⟩ := HE.out
      exact ⟨rfl, q', by simpa using a1, by simpa using HU.out.trans0 a2, a3⟩
  · have hd : decide ((1 : Int) < (r : Int)) = false := by simp; omega
    have hd2 : decide (1 < r) = false := by simp; omega
    have hr2 : r < 2 := by omega
    clear h hw ht h2
    go_enter Try.func39, Try.ntmps39
    go_wp2_with fail
    refine (live_spec b r K T q _ HM.out hr).mono ?_
    rintro e w1 ⟨rfl, hu⟩
    rw [HT.out]
    have m1 := HM.out.upd hu (by simp)
    have hb := m1.blk
    have fb := frozen_at 7 hb
    have c7 : w1.cell? ⟨b, 7, none⟩ = some q.tv := cell_at hb rfl
    have HU := Lib.hid hu
    have HE := Lib.hid (m1.keep0 hr2)
    clear hu m1 hb
    go_wp2_with fail
    go_ret
    obtain ⟨q', a1, a2, a3⟩ := HE.out
    exact ⟨rfl, q', a1, HU.out.trans0 a2, a3⟩

/-- Keep of a Ref that is live, whatever its holds. -/
theorem keep_any (b r : Nat) (K : KV) (T : List DM) (q : KPtr) (w : World) (h : KerIn w b K T q) (hr : r ≤ 4294967295) (ht : K.A.tk r = true) :
    Calls Try.prog 39 #[.pointer (some ⟨b, 0, none⟩), .int .u32 r] w fun e w' => ∃ (code : Int) (K' : KV) (q' : KPtr), e = .returned (.int .i64 code) ∧ ((code = 8 ∧ K.hold r = 65535 ∧ K' = K) ∨ (code = 0 ∧ K.hold r < 65535 ∧ K' = K.keepK r)) ∧
      KerIn w' b K' T q' ∧ Upd (q.all b) w w' ∧ ∀ k, k ∈ q'.all b → k ∈ q.all b := by
  have hm := h.ok.wf.hm r
  by_cases hf : K.hold r = 65535
  · refine (keep_full b r K T q w h hr ht hf).mono ?_
    rintro e w1 ⟨rfl, hu⟩
    exact ⟨8, K, q, rfl, .inl ⟨rfl, hf, rfl⟩, h.upd hu (by simp), hu.mono (by simp), fun k hk => hk⟩
  · refine (keep_yes b r K T q w h.mem h.ok.wf hr ht (by omega)).mono ?_
    rintro e w1 ⟨rfl, q', a1, a2, a3⟩
    have hk := h.ok.kept ht (by omega)
    exact ⟨0, K.keepK r, q', rfl, .inr ⟨rfl, by omega, rfl⟩, ⟨a1, h.ti.same (K.keepK_A r) (K.keepK_vars r), hk.1⟩, a2, a3⟩
end Go.Proofs.Ytnenhecnkidnpaa
