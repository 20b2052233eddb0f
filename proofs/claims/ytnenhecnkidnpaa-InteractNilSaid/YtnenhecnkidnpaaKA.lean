/- The kernel's seek, Make and Find. -/
import Derived.Test.YtnenhecnkidnpaaKZ
namespace Go.Proofs.Ytnenhecnkidnpaa
open Go.RowKit Go.Maps Go.ChangeMaps Go.WideShapes

/-- the node (v, lo, hi) stands at r -/
def KV.At (K : KV) (r v lo hi : Nat) : Prop := 2 ≤ r ∧ ∃ p, K.A.list[r]? = some p ∧ p.taken = true ∧ p.var = (v : Int) ∧ p.lo = lo ∧ p.hi = hi

theorem KV.At.tk {K : KV} {r v lo hi : Nat} (h : K.At r v lo hi) : K.A.tk r = true := by
  obtain ⟨_, p, hp, hpt, _⟩ := h
  exact ArenaV.tk_iff.2 ⟨p, hp, hpt⟩

theorem KV.At.lt {K : KV} {P : List Nat} {r v lo hi : Nat} (h : K.At r v lo hi) (hw : K.Wf P) : r ≤ 1048575 := by
  have h1 := hw.tu r h.1 h.tk
  have h4 := hw.ul
  have h5 := hw.ok.lp
  have h6 := hw.ok.pm
  omega

/-- what the table says of a node -/
theorem TInv.look {T : List DM} {K : KV} {P : List Nat} {v lo hi : Nat} {D : DM} (h : TInv T K []) (hw : K.Wf P) (hv : v < K.vars) (hD : T[v]? = some D) (h1 : lo ≤ 4294967295) (h2 : hi ≤ 4294967295) {c : Int} (hc : D.atKey (nk v lo hi) (.lit (.int .u32 0)) = .lit (.int .u32 c)) :
    (Maps.has D (nk v lo hi) = true ∧ ∃ r : Nat, c = (r : Int) ∧ K.At r v lo hi) ∨ (Maps.has D (nk v lo hi) = false ∧ c = 0 ∧ ∀ r, ¬ K.At r v lo hi) := by
  have hvs := hw.vs
  cases hh : Maps.has D (nk v lo hi) with
  | true =>
    left
    obtain ⟨r, p, hr, hp, hpt, hpv, hk, _⟩ := h.dom v D _ hD hh
    have h4 := hw.ok.u32 p (List.mem_of_getElem? hp)
    have hvr := hw.vr r p hr hp hpt
    obtain ⟨e1, e2, e3⟩ := nk_inj (wfI (by omega) (by omega)) (wfR h1) (wfR h2) (wfI (by omega) (by omega)) (wfR h4.1) (wfR h4.2.1) hk
    have hat := (h.at_ r p D hr hp hpt (by simp) (by rw [hpv]; exact hD)).2 (.lit (.int .u32 0))
    rw [← hk, hc] at hat
    simp at hat
    exact ⟨rfl, r, hat, hr, p, hp, hpt, hpv, e2.symm, e3.symm⟩
  | false =>
    right
    rw [atKey_of_not_has hh] at hc
    simp at hc
    refine ⟨rfl, hc.symm, ?_⟩
    rintro r ⟨hr, p, hp, hpt, e1, e2, e3⟩
    have := (h.at_ r p D hr hp hpt (by simp) (by rw [e1]; exact hD)).1
    rw [show nkp p = nk v lo hi by simp [nkp, e1, e2, e3], hh] at this
    cases this

theorem TInv.not_has {T : List DM} {K : KV} {v lo hi : Nat} {D : DM} (h : TInv T K []) (hD : T[v]? = some D) (hno : ∀ r, ¬ K.At r v lo hi) (hw : K.Wf []) (hv : v < K.vars) (h1 : lo ≤ 4294967295) (h2 : hi ≤ 4294967295) : Maps.has D (nk v lo hi) = false := by
  have hvs := hw.vs
  cases hh : Maps.has D (nk v lo hi) with
  | false => rfl
  | true =>
    exfalso
    obtain ⟨r, p, hr, hp, hpt, hpv, hk, _⟩ := h.dom v D _ hD hh
    have h4 := hw.ok.u32 p (List.mem_of_getElem? hp)
    have hvr := hw.vr r p hr hp hpt
    obtain ⟨e1, e2, e3⟩ := nk_inj (wfI (by omega) (by omega)) (wfR h1) (wfR h2) (wfI (by omega) (by omega)) (wfR h4.1) (wfR h4.2.1) hk
    exact hno r ⟨hr, p, hp, hpt, hpv, e2.symm, e3.symm⟩

set_option maxRecDepth 100000 in
theorem seek_same (b r : Nat) (v : Int) (w : World) :
    Calls Try.prog 51 #[.pointer (some ⟨b, 0, none⟩), .int .i64 v, .int .u32 r, .int .u32 r] w fun e w' => e = .returned (.tuple #[.int .u32 r, .bool true]) ∧ w' = w := by
  go_enter Try.func51, Try.ntmps51
  go_wp2_with fail
  go_ret2
  exact ⟨rfl, rfl⟩

set_option maxRecDepth 100000 in
theorem seek_spec (b v lo hi : Nat) (K : KV) (T : List DM) (q : KPtr) (w : World) (h : KerMem w b K T q) (hw : K.Wf []) (ht : TInv T K []) (hv : v < K.vars) (h1 : lo ≤ 4294967295) (h2 : hi ≤ 4294967295) (hne : lo ≠ hi) :
    Calls Try.prog 51 #[.pointer (some ⟨b, 0, none⟩), .int .i64 v, .int .u32 lo, .int .u32 hi] w fun e w' =>
      Upd [] w w' ∧ ((∃ r : Nat, e = .returned (.tuple #[.int .u32 r, .bool true]) ∧ K.At r v lo hi) ∨ (e = .returned (.tuple #[.int .u32 0, .bool false]) ∧ ∀ r, ¬ K.At r v lo hi)) := by
  have hlen := ht.len
  have hD : T[v]? = some (T[v]'(by omega)) := List.getElem?_eq_getElem (by omega)
  generalize T[v]'(by omega) = D at hD
  have c1 : w.cell? ⟨b, 1, none⟩ = some (.pointer (some ⟨q.t, 0, none⟩)) := cell_at h.blk rfl
  have HT := Lib.hid h.tab
  have HD := Lib.hid hD
  have HL := Lib.hid (And.intro hw ht)
  have hd : ¬ ((lo : Int) = (hi : Int)) := by omega
  have hd3 : ((lo : Int) == (hi : Int)) = false := by simp; omega
  clear h hw ht hlen hD
  go_enter Try.func51, Try.ntmps51
  go_wp2_with fail
  refine (find_spec q.t q.FT v lo hi T D _ HT.out HD.out h1 h2).mono ?_
  rintro e w1 ⟨c, rfl, hc, hu⟩
  have HC := Lib.hid (HL.out.2.look HL.out.1 hv HD.out h1 h2 hc)
  have HU := Lib.hid hu
  clear hc hu
  generalize Maps.has D (nk v lo hi) = bb at HC
  go_wp2_with fail
  go_ret2
  refine ⟨HU.out, ?_⟩
  rcases HC.out with ⟨rfl, r, rfl, ha⟩ | ⟨rfl, rfl, hno⟩
  · exact .inl ⟨r, rfl, ha⟩
  · exact .inr ⟨rfl, hno⟩

theorem Sub.of_old {S S' : List Nat} {w : World} (h : ∀ k, k ∈ S' → k ∈ S) : Sub S w S' := fun k hk => .inl (h k hk)

/-- what Make and Find would answer, if it is there -/
def KV.Has (K : KV) (v : Int) (lo hi r : Nat) : Prop := (lo = hi ∧ r = lo) ∨ (lo ≠ hi ∧ K.At r v.toNat lo hi)

inductive MakeR (K : KV) (v : Int) (lo hi : Nat) : Nat → Int → KV → Prop
  | bad (h0 : K.fitsE v lo hi ≠ 0) : MakeR K v lo hi 0 (K.fitsE v lo hi) K
  | full {r : Nat} (h0 : K.fitsE v lo hi = 0) (hs : K.Has v lo hi r) (hm : K.hold r = 65535) : MakeR K v lo hi 0 8 K
  | old {r : Nat} (h0 : K.fitsE v lo hi = 0) (hs : K.Has v lo hi r) (hm : K.hold r < 65535) : MakeR K v lo hi r 0 (K.keepK r)
  | nodes (h0 : K.fitsE v lo hi = 0) (hne : lo ≠ hi) (hno : ∀ r, ¬ K.At r v.toNat lo hi) (hu : K.A.used = K.A.places) : MakeR K v lo hi 0 9 K
  | new {r : Nat} {K' : KV} (h0 : K.fitsE v lo hi = 0) (hne : lo ≠ hi) (hno : ∀ r, ¬ K.At r v.toNat lo hi) (hm : K.Made v.toNat lo hi r K') : MakeR K v lo hi r 0 K'

theorem KV.fits0 {K : KV} {v : Int} {lo hi : Nat} (h : K.fitsE v lo hi = 0) : ∃ n : Nat, v = (n : Int) ∧ n < K.vars ∧ K.A.tk lo = true ∧ K.A.tk hi = true ∧ (lo ≠ hi → K.lev n < K.dep lo ∧ K.lev n < K.dep hi) := by
  unfold KV.fitsE at h
  split at h
  · omega
  · rename_i h1
    split at h
    · omega
    · rename_i h2
      split at h
      · omega
      · rename_i h3
        simp [KV.isVar] at h1
        refine ⟨v.toNat, by omega, by omega, ?_, ?_, fun hne => ?_⟩
        · cases e : K.A.tk lo
          · exact absurd (.inl e) h2
          · rfl
        · cases e : K.A.tk hi
          · exact absurd (.inr e) h2
          · rfl
        · by_cases h4 : K.lev v.toNat < min (K.dep lo) (K.dep hi)
          · omega
          · exact absurd ⟨hne, h4⟩ h3

theorem MakeR.of_keep {K : KV} {v : Int} {lo hi r : Nat} {code : Int} {K' : KV} (h0 : K.fitsE v lo hi = 0) (hs : K.Has v lo hi r) (h : (code = 8 ∧ K.hold r = 65535 ∧ K' = K) ∨ (code = 0 ∧ K.hold r < 65535 ∧ K' = K.keepK r)) :
    MakeR K v lo hi (if code = 0 then r else 0) code K' := by
  rcases h with ⟨rfl, h, rfl⟩ | ⟨rfl, h, rfl⟩
  · exact .full h0 hs h
  · exact .old h0 hs h

set_option maxRecDepth 100000 in
set_option maxHeartbeats 1600000 in
theorem make_spec (b : Nat) (v : Int) (lo hi : Nat) (K : KV) (T : List DM) (q : KPtr) (w : World) (h : KerIn w b K T q) (h1 : lo ≤ 4294967295) (h2 : hi ≤ 4294967295) :
    Calls Try.prog 34 #[.pointer (some ⟨b, 0, none⟩), .int .i64 v, .int .u32 lo, .int .u32 hi] w fun e w' =>
      ∃ (r : Nat) (code : Int) (K' : KV) (T' : List DM) (q' : KPtr), e = .returned (.tuple #[.int .u32 r, .int .i64 code]) ∧ MakeR K v lo hi r code K' ∧ KerIn w' b K' T' q' ∧ Upd (q.all b) w w' ∧ Sub (q.all b) w (q'.all b) := by
  have HK := Lib.hid h
  by_cases hf : K.fitsE v lo hi = 0
  · obtain ⟨n, rfl, hn, hl, hh, hlt⟩ := KV.fits0 hf
    have HF := Lib.hid hf
    have HL := Lib.hid (And.intro hl (And.intro hh hlt))
    by_cases hlh : lo = hi
    · subst hlh
      have hS : Hid (K.Has n lo lo lo) := .inl ⟨rfl, rfl⟩
      clear h hf hl hh hlt
      go_enter Try.func34, Try.ntmps34
      go_wp2_with fail
      refine (fits_spec b n lo lo K T q _ HK.out.mem HK.out.ok.wf HK.out.ok.ord h1 h2).mono ?_
      rintro e w1 ⟨rfl, hu⟩
      rw [HF.out]
      have HU := Lib.hid hu
      clear hu
      go_wp2_with fail
      refine (seek_same b lo n w1).mono ?_
      rintro e w2 ⟨rfl, rfl⟩
      go_wp2_with fail
      refine (keep_any b lo K T q _ (HK.out.upd HU.out (by simp)) h1 HL.out.1).mono ?_
      rintro e w3 ⟨code, K', q', rfl, hc, hk, hu3, hs3⟩
      have HE := Lib.hid (And.intro (MakeR.of_keep HF.out hS.out hc) (And.intro hk (And.intro (HU.out.trans0 hu3) (Sub.of_old (w := w) hs3))))
      have hcode : code = 8 ∨ code = 0 := by rcases hc with hc | hc <;> simp [hc.1]
      clear hc hk hu3 hs3
      rcases hcode with rfl | rfl
      · go_wp2_with fail
        go_ret2
        exact ⟨_, _, _, _, _, rfl, HE.out⟩
      · go_wp2_with fail
        go_ret2
        exact ⟨_, _, _, _, _, rfl, HE.out⟩
    · have HLH := Lib.hid hlh
      clear h hf hl hh hlt
      go_enter Try.func34, Try.ntmps34
      go_wp2_with fail
      refine (fits_spec b n lo hi K T q _ HK.out.mem HK.out.ok.wf HK.out.ok.ord h1 h2).mono ?_
      rintro e w1 ⟨rfl, hu⟩
      rw [HF.out]
      have HU := Lib.hid hu
      clear hu
      go_wp2_with fail
      refine (seek_spec b n lo hi K T q _ (HK.out.mem.upd HU.out (by simp)) HK.out.ok.wf HK.out.ti hn h1 h2 hlh).mono ?_
      rintro e w2 ⟨hu2, hr⟩
      have HU2 := Lib.hid (HU.out.trans hu2)
      clear hu2
      rcases hr with ⟨r, rfl, ha⟩ | ⟨rfl, hno⟩
      · have hS : Hid (K.Has n lo hi r) := .inr ⟨hlh, by simpa using ha⟩
        have hr32 : r ≤ 4294967295 := by have := ha.lt HK.out.ok.wf; omega
        have HA := Lib.hid ha
        clear ha
        go_wp2_with fail
        refine (keep_any b r K T q _ (HK.out.upd HU2.out (by simp)) hr32 HA.out.tk).mono ?_
        rintro e w3 ⟨code, K', q', rfl, hc, hk, hu3, hs3⟩
        have HE := Lib.hid (And.intro (MakeR.of_keep HF.out hS.out hc) (And.intro hk (And.intro (HU2.out.trans0 hu3) (Sub.of_old (w := w) hs3))))
        have hcode : code = 8 ∨ code = 0 := by rcases hc with hc | hc <;> simp [hc.1]
        clear hc hk hu3 hs3
        rcases hcode with rfl | rfl
        · go_wp2_with fail
          go_ret2
          exact ⟨_, _, _, _, _, rfl, HE.out⟩
        · go_wp2_with fail
          go_ret2
          exact ⟨_, _, _, _, _, rfl, HE.out⟩
      · have HNO := Lib.hid hno
        clear hno
        go_wp2_with fail
        refine (room_spec b 1 K T q _ (HK.out.mem.upd HU2.out (by simp)) (by omega) (by omega)).mono ?_
        rintro e w3 ⟨rfl, hu3⟩
        have HU3 := Lib.hid (HU2.out.trans hu3)
        clear hu3
        cases hrm : K.room 1 with
        | false =>
          have HRM : Hid (K.A.used = K.A.places) := by
            have h4 := HK.out.ok.wf.ok.us
            have h5 := HK.out.ok.wf.ok.lp
            simp [KV.room] at hrm
            show K.A.used = K.A.places
            omega
          clear hrm
          go_wp2_with fail
          go_ret2
          exact ⟨0, 9, K, T, q, rfl, .nodes HF.out HLH.out (by simpa using HNO.out) HRM.out, HK.out.upd HU3.out (by simp), HU3.out.mono (by simp), Sub.refl _ _⟩
        | true =>
          have HRM : Hid (K.A.used < K.A.places) := by
            simp [KV.room] at hrm
            show K.A.used < K.A.places
            omega
          clear hrm
          have hlen := HK.out.ti.len
          have hD : T[n]? = some (T[n]'(by omega)) := List.getElem?_eq_getElem (by omega)
          generalize T[n]'(by omega) = D at hD
          have HD := Lib.hid hD
          have HDN := Lib.hid (HK.out.ti.not_has hD HNO.out HK.out.ok.wf hn h1 h2)
          clear hlen hD
          go_wp2_with fail
          refine (take_spec b n lo hi K [] T D q _ (HK.out.mem.upd HU3.out (by simp)) HK.out.ok.wf HK.out.ti (by simp) hn HL.out.1 HL.out.2.1 h1 h2 HD.out HDN.out HRM.out).mono ?_
          rintro e w4 ⟨r, K1, q1, rfl, tk, m4, u4, s4⟩
          have hr32 : r ≤ 4294967295 := by have := tk.fr.room; omega
          have hwf := tk.wf HK.out.ok.wf HL.out.1 HL.out.2.1 ⟨by omega, by omega⟩
          have htr : K1.A.tk r = true := by rw [tk.fr.tk]; simp
          have hh0 : K1.hold r < 65535 := by rw [tk.hd, if_pos rfl]; omega
          have HT := Lib.hid (And.intro tk (And.intro m4 (And.intro (HU3.out.trans0 u4) (And.intro hwf (And.intro htr (And.intro hh0 s4))))))
          clear tk m4 u4 s4 hwf htr hh0
          go_wp2_with fail
          refine (keep_yes b r K1 _ q1 _ HT.out.2.1 HT.out.2.2.2.1 hr32 HT.out.2.2.2.2.1 HT.out.2.2.2.2.2.1).mono ?_
          rintro e w5 ⟨rfl, q2, m5, u5, s5⟩
          have HE : Hid (MakeR K n lo hi r 0 (K1.keepK r) ∧ KerIn w5 b (K1.keepK r) (T.set n (D.put (nk n lo hi) (.lit (.int .u32 r)))) q2 ∧ Upd (q.all b) w w5 ∧ Sub (q.all b) w (q2.all b)) := by
            obtain ⟨tk, m4, u4, hwf, htr, hh0, s4⟩ := HT.out
            have hmade := HK.out.ok.made tk HL.out.1 HL.out.2.1 hn HLH.out (HL.out.2.2 HLH.out).1 (HL.out.2.2 HLH.out).2
            have s4' : Sub (q.all b) w (q1.all b) := fun k hk => by
              have := HU3.out.size
              rcases s4 k hk with h | h
              · exact .inl h
              · right; omega
            exact ⟨.new HF.out HLH.out (by simpa using HNO.out) (by simpa using hmade.2), ⟨m5, (HK.out.ti.took tk HD.out HDN.out).same (K1.keepK_A r) (K1.keepK_vars r), hmade.1⟩,
              u4.then u5 s4', fun k hk => s4' k (s5 k hk)⟩
          clear m5 u5 s5
          go_wp2_with fail
          go_ret2
          exact ⟨_, _, _, _, _, rfl, HE.out⟩
  · have HE : Hid (MakeR K v lo hi 0 (K.fitsE v lo hi) K) := .bad hf
    have HF : Hid (∀ w1, Upd [] w w1 → KerIn w1 b K T q) := fun w1 u => h.upd u (by simp)
    have HC := fits_spec b v lo hi K T q w h.mem h.ok.wf h.ok.ord h1 h2
    generalize K.fitsE v lo hi = c at hf HE HC
    have HC := Lib.hid HC
    have hf2 : (c != 0) = true := by simpa using hf
    clear h
    go_enter Try.func34, Try.ntmps34
    go_wp2_with fail
    refine HC.out.mono ?_
    rintro e w1 ⟨rfl, hu⟩
    have HU := Lib.hid hu
    clear hu
    go_wp2_with fail
    go_ret2
    exact ⟨0, c, K, T, q, rfl, HE.out, HF.out _ HU.out, HU.out.mono (by simp), Sub.refl _ _⟩
end Go.Proofs.Ytnenhecnkidnpaa
