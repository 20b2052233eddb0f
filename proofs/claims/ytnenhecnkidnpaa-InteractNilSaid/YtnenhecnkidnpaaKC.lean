/- The kernel's Drop. -/
import Derived.Test.YtnenhecnkidnpaaKB
namespace Go.Proofs.Ytnenhecnkidnpaa
open Go.RowKit Go.Maps Go.ChangeMaps Go.WideShapes

def KV.endTrail (K : KV) : KV := { K with trail := [] }

theorem KV.Ok.dropped {K K1 : KV} {r : Nat} (h : K.Ok) (hh : 0 < K.hold r) (hw : K1.Wf []) (hle : K1.Le (K.dropH r)) (hp : K1.Pos) : K1.endTrail.Ok ∧ K.Dropped r K1.endTrail := by
  have h2 := (h.wf.ht r hh).1
  have e0 : K1.Ext K := ⟨hle.nd, hle.pl.symm, hle.vr.symm, hle.od.symm, hle.lv.symm⟩
  have ho := e0.ord_down hw h.ord
  refine ⟨⟨⟨hw.ok, hw.len, hw.ul, hw.tu, hw.ht, hw.hm, hw.eq, hw.pt, hw.cl, hw.vr, hw.vs⟩, hp, ho.same rfl rfl rfl rfl, by simp [KV.endTrail]⟩, ⟨e0.nd, e0.pl, e0.vr, e0.od, e0.lv⟩, ?_, rfl, hle.us⟩
  intro x
  have e1 : K1.endTrail.hold x = (K.dropH r).hold x := by show K1.holds.getD x 0 = (K.dropH r).holds.getD x 0; rw [hle.hd]
  rw [e1, h.wf.dropH_hold hh]
  by_cases e : x = r
  · subst e; simp [h2]
  · simp [e]

theorem KV.dropH_pos {K : KV} (h : K.Pos) (r : Nat) : (K.dropH r).Pos := h

theorem KerMem.endTrail {w : World} {b : Nat} {K : KV} {T : List DM} {q : KPtr} (h : KerMem w b K T q) :
    ∃ q', KerMem (w.setCell ⟨b, 7, none⟩ (.slice none 0 0)) b K.endTrail T q' ∧ ∀ k, k ∈ q'.all b → k ∈ q.all b := by
  refine ⟨{ q with tv := .slice none 0 0 }, h.noTrail, ?_⟩
  intro k hk
  simp only [KPtr.mem, Value.ownBlock] at hk ⊢
  simp at hk
  rcases hk with hk | hk | hk | hk | hk | hk | hk <;> simp [hk]

set_option maxRecDepth 100000 in
set_option maxHeartbeats 1600000 in
theorem drop_spec (b r : Nat) (K : KV) (T : List DM) (q : KPtr) (w : World) (h : KerIn w b K T q) (hr : r ≤ 4294967295) :
    Calls Try.prog 60 #[.pointer (some ⟨b, 0, none⟩), .int .u32 r] w fun e w' =>
      ∃ (code : Int) (K' : KV) (T' : List DM) (q' : KPtr), e = .returned (.int .i64 code) ∧ ((code = 3 ∧ 2 ≤ r ∧ K.hold r = 0 ∧ K' = K) ∨ (code = 0 ∧ (2 ≤ r → 0 < K.hold r) ∧ K.Dropped r K')) ∧ KerIn w' b K' T' q' ∧ Upd (q.all b) w w' ∧ Sub (q.all b) w (q'.all b) := by
  have HK := Lib.hid h
  have hhl := h.ok.wf.ok.lp
  have hhm := h.ok.wf.ok.pm
  have hul := h.ok.wf.ul
  have hlen := h.ok.wf.len
  have hm := h.ok.wf.hm r
  have hsz : K.holds.length ≤ 1048576 := by omega
  by_cases h2 : 2 ≤ r
  · have hd : (1 : Int) < (r : Int) := by omega
    by_cases h0 : K.hold r = 0
    · have H0 := Lib.hid h0
      clear h
      go_enter Try.func60, Try.ntmps60
      go_wp2_with fail
      refine (held_spec b r K T q w HK.out.mem hsz hm hr).mono ?_
      rintro e w1 ⟨rfl, rfl⟩
      rw [H0.out]
      go_wp2_with fail
      go_ret
      exact ⟨3, K, T, q, rfl, .inl ⟨rfl, h2, H0.out, rfl⟩, HK.out, Upd.refl _ _, Sub.refl _ _⟩
    · obtain ⟨ht2, ht⟩ := h.ok.wf.ht r (by omega)
      have hl := h.ok.wf.tk_lt h2 ht
      obtain ⟨gh, ch, hqh, c3, ch1, fh1, hgh⟩ := h.mem.holdCell hl.2.1
      have hb := h.mem.blk
      have fb := frozen_at 7 hb
      have c7 : w.cell? ⟨b, 7, none⟩ = some q.tv := cell_at hb rfl
      have nbh : b ≠ gh := by
        rintro rfl
        have e1 := h.mem.oh b (by rw [hqh]; rfl)
        have e2 := h.mem.ob
        omega
      have hrl : (r : Int) < (K.holds.length : Int) := by omega
      have hne0 : ¬ ((K.hold r : Int) = 0) := by omega
      have hne1 : decide ((K.hold r : Int) = 0) = false := by simp; omega
      have H0 := Lib.hid (show 0 < K.hold r by omega)
      have HQ := Lib.hid (And.intro hqh hgh)
      have hbm : b ∈ q.all b := KPtr.mem.2 (.inl rfl)
      have e32 : ((K.hold r - 1 : Nat) : Int) = (K.hold r : Int) - 1 := by omega
      have HM1 := h.mem.setHold (n := K.hold r - 1) hqh hl.2.1
      rw [e32] at HM1
      have HM1 : Hid (KerMem (w.setCell ⟨gh, r, none⟩ (.int .i32 ((K.hold r : Int) - 1))) b (K.dropH r) T q) := HM1
      by_cases h1 : K.hold r = 1
      · have H1 := Lib.hid h1
        have hw1 := h.ok.wf.dropH (r := r) (by omega)
        rw [if_pos h1] at hw1
        have HW1 := Lib.hid hw1
        rw [h1] at ch1 hne0 hne1 HM1
        clear h hb hqh hgh hw1 h0 h1 e32
        go_enter Try.func60, Try.ntmps60
        go_wp2_with fail
        refine (held_spec b r K T q w HK.out.mem hsz hm hr).mono ?_
        rintro e w1 ⟨rfl, rfl⟩
        rw [H1.out]
        go_wp2_with fail
        refine (release_spec b r (K.dropH r) [] T q _ HM1.out HW1.out (HK.out.ti.same rfl rfl) (by simp) hr).mono ?_
        rintro e w2 ⟨rfl, K1, T1, q1, hR⟩
        obtain ⟨q2, m2, s2⟩ := hR.mem.endTrail
        have hb2 := hR.mem.blk
        have fb2 := frozen_at 7 hb2
        have c72 : w2.cell? ⟨b, 7, none⟩ = some q1.tv := cell_at hb2 rfl
        have HE : Hid (K.Dropped r K1.endTrail ∧ KerIn (w2.setCell ⟨b, 7, none⟩ (.slice none 0 0)) b K1.endTrail T1 q2 ∧ Upd (q.all b) w1 (w2.setCell ⟨b, 7, none⟩ (.slice none 0 0)) ∧ Sub (q.all b) w1 (q2.all b)) := by
          have hok := HK.out.ok.dropped H0.out (by simpa using hR.wf) hR.le (hR.pos (KV.dropH_pos HK.out.ok.pos r))
          have hs : Sub (q.all b) w1 (q1.all b) := by
            intro k hk
            rcases hR.sub k hk with h | h
            · exact .inl h
            · right; simpa [World.setCell] using h
          refine ⟨hok.2, ⟨m2, hR.ti.same rfl rfl, hok.1⟩, ?_, fun k hk => hs k (s2 k hk)⟩
          have u1 : Upd (q.all b) w1 (w1.setCell ⟨gh, r, none⟩ (.int .i32 (1 - 1))) := (Upd.refl _ _).setCell (p := ⟨gh, r, none⟩) (.inl HQ.out.2) _
          exact (u1.trans hR.up).setCell (p := ⟨b, 7, none⟩) (.inl hbm) _
        clear hR m2 s2 hb2
        go_wp2_with fail
        go_ret
        obtain ⟨a1, a2, a3, a4⟩ := HE.out
        exact ⟨0, _, _, _, rfl, .inr ⟨rfl, fun _ => H0.out, a1⟩, a2, a3, a4⟩
      · have hw1 := h.ok.wf.dropH (r := r) (by omega)
        rw [if_neg h1] at hw1
        have HW1 := Lib.hid hw1
        have hne2 : ¬ ((K.hold r : Int) - 1 = 0) := by omega
        clear h hb hqh hgh hw1 h0 e32
        go_enter Try.func60, Try.ntmps60
        go_wp2_with fail
        refine (held_spec b r K T q w HK.out.mem hsz hm hr).mono ?_
        rintro e w1 ⟨rfl, rfl⟩
        go_wp2_with fail
        go_ret
        obtain ⟨q2, m2, s2⟩ := HM1.out.endTrail
        have hok := HK.out.ok.dropped H0.out HW1.out (.refl _) (KV.dropH_pos HK.out.ok.pos r)
        exact ⟨0, _, T, q2, rfl, .inr ⟨rfl, fun _ => H0.out, hok.2⟩, ⟨m2, HK.out.ti.same rfl rfl, hok.1⟩, ((Upd.refl _ _).setCell (p := ⟨gh, r, none⟩) (.inl HQ.out.2) _).setCell (p := ⟨b, 7, none⟩) (.inl hbm) _, Sub.of_old s2⟩
  · have hd : decide ((1 : Int) < (r : Int)) = false := by simp; omega
    have hd2 : decide (1 < r) = false := by simp; omega
    have hb := h.mem.blk
    have fb := frozen_at 7 hb
    have c7 : w.cell? ⟨b, 7, none⟩ = some q.tv := cell_at hb rfl
    have hbm : b ∈ q.all b := KPtr.mem.2 (.inl rfl)
    clear h hb
    go_enter Try.func60, Try.ntmps60
    go_wp2_with fail
    go_ret
    obtain ⟨q2, m2, s2⟩ := HK.out.mem.endTrail
    have hok := HK.out.ok
    refine ⟨0, K.endTrail, T, q2, rfl, .inr ⟨rfl, fun h => absurd h h2, ⟨⟨fun _ _ h _ => h, rfl, rfl, rfl, rfl⟩, fun x => ?_, rfl, Nat.le_refl _⟩⟩, ⟨m2, HK.out.ti.same rfl rfl, ⟨⟨hok.wf.ok, hok.wf.len, hok.wf.ul, hok.wf.tu, hok.wf.ht, hok.wf.hm, hok.wf.eq, hok.wf.pt, hok.wf.cl, hok.wf.vr, hok.wf.vs⟩, hok.pos, hok.ord.same rfl rfl rfl rfl, by simp [KV.endTrail]⟩⟩, (Upd.refl _ _).setCell (p := ⟨b, 7, none⟩) (.inl hbm) _, Sub.of_old s2⟩
    rw [if_neg (by intro e; exact h2 e.2)]; rfl
end Go.Proofs.Ytnenhecnkidnpaa
