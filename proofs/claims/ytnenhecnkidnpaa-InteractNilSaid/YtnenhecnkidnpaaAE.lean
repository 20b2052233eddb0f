/- The end of an operation: what it holds is given back. -/
import Derived.Test.YtnenhecnkidnpaaAW
namespace Go.Proofs.Ytnenhecnkidnpaa
open Go.RowKit Go.Maps Go.ChangeMaps Go.WideShapes

/-- what is left when the first i have been given back -/
structure EndS (K0 K : KV) (M : List Nat) (r : Nat) (ok : Bool) (i : Nat) (K' : KV) : Prop where
  ext : K'.Ext K
  hd : ∀ x, K'.hold x = K0.hold x + (M.drop i).count x + (if x = r ∧ ok = true ∧ r ∈ M.take i then 1 else 0)
  tr : M ≠ [] → K'.trail = []
  st : M = [] → K' = K

def keptB (M : List Nat) (r : Nat) (ok : Bool) (i : Nat) : Bool := decide (r < 2) || (ok && decide (r ∈ M.take i))

theorem EndS.start {K0 K : KV} {M : List Nat} {r : Nat} {ok : Bool} (hh : ∀ x, K.hold x = K0.hold x + M.count x) (ht : M ≠ [] → K.trail = []) : EndS K0 K M r ok 0 K :=
  ⟨.refl K, fun x => by rw [hh]; simp, ht, fun _ => rfl⟩

theorem take_succ_mem {M : List Nat} {i f r : Nat} (hf : M[i]? = some f) : r ∈ M.take (i + 1) ↔ r ∈ M.take i ∨ r = f := by
  rw [List.take_add_one, hf]; simp

theorem drop_count {M : List Nat} {i f x : Nat} (hf : M[i]? = some f) : (M.drop i).count x = (M.drop (i + 1)).count x + (if f = x then 1 else 0) := by
  obtain ⟨h1, h2⟩ := List.getElem?_eq_some_iff.1 hf
  rw [List.drop_eq_getElem_cons h1, List.count_cons, h2]
  simp

/-- the answer's own hold stays -/
theorem EndS.keep {K0 K K' : KV} {M : List Nat} {r i : Nat} (h : EndS K0 K M r true i K') (hf : M[i]? = some r) (hn : r ∉ M.take i) : EndS K0 K M r true (i + 1) K' := by
  refine ⟨h.ext, fun x => ?_, h.tr, h.st⟩
  rw [h.hd, drop_count hf]
  simp only [take_succ_mem hf, hn, and_false, if_false, or_true, and_true]
  by_cases e : x = r
  · subst e; simp; omega
  · simp [e, Ne.symm e]

/-- one hold is given back -/
theorem EndS.drop {K0 K K' K2 : KV} {M : List Nat} {r i f : Nat} {ok : Bool} (h : EndS K0 K M r ok i K') (hf : M[i]? = some f) (hn : f = r → ok = true → r ∈ M.take i) (hd : K'.Dropped f K2) (h2 : 2 ≤ f) : EndS K0 K M r ok (i + 1) K2 := by
  refine ⟨hd.ext.trans h.ext, fun x => ?_, fun _ => hd.tr, fun e => by subst e; simp at hf⟩
  rw [hd.hd, h.hd, drop_count hf]
  have e1 : (x = r ∧ ok = true ∧ r ∈ M.take (i + 1)) ↔ (x = r ∧ ok = true ∧ r ∈ M.take i) := by
    rw [take_succ_mem hf]
    constructor
    · rintro ⟨a, b, c | c⟩
      · exact ⟨a, b, c⟩
      · exact ⟨a, b, hn c.symm b⟩
    · rintro ⟨a, b, c⟩; exact ⟨a, b, .inl c⟩
  simp only [e1]
  by_cases e : x = f
  · subst e; simp [h2]; omega
  · simp [e, Ne.symm e]

theorem EndS.pos {K0 K K' : KV} {M : List Nat} {r i f : Nat} {ok : Bool} (h : EndS K0 K M r ok i K') (hf : M[i]? = some f) : 0 < K'.hold f := by
  rw [h.hd, drop_count hf]; simp; omega

/-- the answer of end -/
def endR (M : List Nat) (r : Nat) (code : Int) : Nat × Int := if code ≠ 0 then (0, code) else if r < 2 ∨ r ∈ M then (r, 0) else (0, 8)

/-- the loop of end, in memory -/
structure EndW (w0 : World) (wb b r : Nat) (K0 K : KV) (q0 : KPtr) (M : List Nat) (lvv mv : Value) (ok : Bool) (i : Nat) (w : World) : Prop where
  ex : ∃ K' T' q', WK w wb b K' T' q' M lvv mv ∧ EndS K0 K M r ok i K' ∧ Upd (wkF wb b q0 lvv mv) w0 w ∧ Sub (q0.all b) w0 (q'.all b)

theorem EndW.drop {w0 w : World} {wb b r i f : Nat} {K0 K : KV} {q0 : KPtr} {M : List Nat} {lvv mv : Value} {ok : Bool} (h : EndW w0 wb b r K0 K q0 M lvv mv ok i w) (hf : M[i]? = some f) (hn : f = r → ok = true → r ∈ M.take i) (h32 : f ≤ 4294967295) :
    Calls Try.prog 60 #[.pointer (some ⟨b, 0, none⟩), .int .u32 f] w fun e w' => e = .returned (.int .i64 0) ∧ EndW w0 wb b r K0 K q0 M lvv mv ok (i + 1) w' := by
  obtain ⟨K', T', q', hw, hs, hu, hsub⟩ := h.ex
  have hp := hs.pos hf
  refine (drop_spec b f K' T' q' w hw.ker h32).mono ?_
  rintro e w' ⟨code, K2, T2, q2, rfl, hc, hk, hu2, hs2⟩
  rcases hc with ⟨_, _, h0, _⟩ | ⟨rfl, _, hd⟩
  · omega
  · have hw2 := hw.kernel hk hd.ext.lv.symm hu2 hs2
    have hsz := hu.size
    refine ⟨rfl, K2, T2, q2, hw2, hs.drop hf hn hd (hw.ker.ok.wf.ht f hp).1, hu.then hu2 fun x hx => ?_, fun k hk => ?_⟩
    · rcases hsub x hx with h | h
      · exact .inl (List.mem_append.2 (.inl h))
      · exact .inr h
    · rcases hs2 k hk with h | h
      · exact hsub k h
      · right; omega

theorem EndW.keep {w0 w : World} {wb b r i : Nat} {K0 K : KV} {q0 : KPtr} {M : List Nat} {lvv mv : Value} (h : EndW w0 wb b r K0 K q0 M lvv mv true i w) (hf : M[i]? = some r) (hn : r ∉ M.take i) : EndW w0 wb b r K0 K q0 M lvv mv true (i + 1) w := by
  obtain ⟨K', T', q', hw, hs, hu, hsub⟩ := h.ex
  exact ⟨K', T', q', hw, hs.keep hf hn, hu, hsub⟩

theorem EndW.cells {w0 w : World} {wb b r i g n c : Nat} {K0 K : KV} {q0 : KPtr} {M : List Nat} {lvv mv : Value} {ok : Bool} (h : EndW w0 wb b r K0 K q0 M lvv mv ok i w) (hmv : mv = .slice (some ⟨g, 0, none⟩) n c) :
    w.cell? ⟨wb, 0, none⟩ = some (.pointer (some ⟨b, 0, none⟩)) ∧ ∀ (j f : Nat), M[j]? = some f → w.cell? ⟨g, j, none⟩ = some (.int .u32 f) := by
  obtain ⟨K', T', q', hw, hs, hu, hsub⟩ := h.ex
  refine ⟨cell_at hw.wk.blk rfl, fun j f hf => ?_⟩
  have := hw.wk.ms
  rw [hmv] at this
  exact row_cell this (by simp [flatRefs, hf])

/-- behind the loop: what was made is forgotten -/
theorem EndW.done {w0 w : World} {wb b r : Nat} {K0 K : KV} {q0 : KPtr} {M : List Nat} {lvv mv : Value} {ok : Bool} (h : EndW w0 wb b r K0 K q0 M lvv mv ok M.length w) :
    w.cell? ⟨wb, 2, none⟩ = some mv ∧ w.frozen? ⟨wb, 2, none⟩ = false ∧ (w.setCell ⟨wb, 2, none⟩ (.slice none 0 0)).cell? ⟨wb, 0, none⟩ = some (.pointer (some ⟨b, 0, none⟩)) ∧
    ∃ K' T' q', KerIn (w.setCell ⟨wb, 2, none⟩ (.slice none 0 0)) b K' T' q' ∧ Upd (wkF wb b q0 lvv mv) w0 (w.setCell ⟨wb, 2, none⟩ (.slice none 0 0)) ∧ Sub (q0.all b) w0 (q'.all b) ∧ K'.Ext K ∧
      (∀ x, K'.hold x = K0.hold x + (if x = r ∧ ok = true ∧ r ∈ M then 1 else 0)) ∧ (M ≠ [] → K'.trail = []) ∧ (M = [] → K' = K) := by
  obtain ⟨K', T', q', hw, hs, hu, hsub⟩ := h.ex
  have hwm : wb ∈ wkF wb b q0 lvv mv := List.mem_append.2 (.inr (mem_workF.2 (.inl rfl)))
  have hbk := hw.wk.blk
  refine ⟨cell_at hbk rfl, frozen_at 2 hbk, ?_, K', T', q', ?_, hu.setCell (p := ⟨wb, 2, none⟩) (.inl hwm) _, hsub, hs.ext, fun x => ?_, hs.tr, hs.st⟩
  · have e := heap_set_eq (j := 2) hbk (.slice none 0 0)
    exact cell_at e rfl
  · exact hw.ker.upd ((Upd.refl [wb] w).setCell (p := ⟨wb, 2, none⟩) (.inl (by simp)) _) fun k hk hm => by
      simp at hm
      exact hw.dj k hk (mem_workF.2 (.inl hm))
  · rw [hs.hd]; simp

/-- what end leaves -/
structure EndP (wb b r : Nat) (code : Int) (K0 K : KV) (q : KPtr) (M : List Nat) (lvv mv : Value) (w w' : World) : Prop where
  ex : ∃ (K' : KV) (T' : List DM) (q' : KPtr), KerIn w' b K' T' q' ∧ Upd (wkF wb b q lvv mv) w w' ∧ Sub (q.all b) w (q'.all b) ∧ K'.Ext K ∧
        (∀ x, K'.hold x = K0.hold x + (if x = r ∧ decide (2 ≤ r ∧ code = 0) = true ∧ r ∈ M then 1 else 0)) ∧ (M ≠ [] → K'.trail = []) ∧ (code = 0 → r < 2 → K'.trail = []) ∧ (M = [] → ¬ (code = 0 ∧ r < 2) → K' = K)

set_option maxRecDepth 100000 in
set_option maxHeartbeats 1600000 in
/-- where the answer is no constant -/
theorem wend_node (wb b r : Nat) (code : Int) (K0 K : KV) (T : List DM) (q : KPtr) (M : List Nat) (lvv mv : Value) (w : World) (h : WK w wb b K T q M lvv mv) (hM : M.length ≤ 1099511627776) (hr : r ≤ 4294967295) (hM32 : ∀ x, x ∈ M → x ≤ 4294967295)
    (hh : ∀ x, K.hold x = K0.hold x + M.count x) (htr : M ≠ [] → K.trail = []) (h2 : 2 ≤ r) :
    Calls Try.prog 55 #[.pointer (some ⟨wb, 0, none⟩), .int .u32 r, .int .i64 code] w fun e w' =>
      e = .returned (.tuple #[.int .u32 (endR M r code).1, .int .i64 (endR M r code).2]) ∧ EndP wb b r code K0 K q M lvv mv w w' := by
  have HS : Hid (EndW w wb b r K0 K q M lvv mv (decide (2 ≤ r ∧ code = 0)) 0 w) := ⟨K, T, q, h, EndS.start hh htr, Upd.refl _ _, Sub.refl _ _⟩
  have HM32 := Lib.hid hM32
  obtain ⟨fa, fc, hmv, _⟩ := row_nil_len h.wk.ms
  have c2 : w.cell? ⟨wb, 2, none⟩ = some (.slice fa M.length fc) := by rw [← hmv]; exact cell_at h.wk.blk rfl
  have hrow := h.wk.ms
  rw [hmv] at hrow
  have HROW := Lib.hid (fun hn => row_some hrow hn)
  have HMV := Lib.hid hmv
  have hb0 : ((r : Int) == 0) = false := by simp; omega
  have hb1 : ((r : Int) == 1) = false := by simp; omega
  have hb2 : ¬ (r = 0) := by omega
  have hb3 : ¬ (r = 1) := by omega
  have hml : M.length ≤ 9223372036854775806 := by omega
  clear h hh htr hmv hrow hM32
  go_enter Try.func55, Try.ntmps55
  go_wp2_with fail
  go_loopg [8, 22] M.length (fun g s8 s22 wr => ∃ i : Nat, M.length - i = g ∧ i ≤ M.length ∧ s22 = .int .i64 i ∧ s8 = .bool (decide (2 ≤ r ∧ code = 0) && decide (r ∈ M.take i)) ∧ EndW w wb b r K0 K q M lvv mv (decide (2 ≤ r ∧ code = 0)) i wr)
  case atStart =>
    exact ⟨0, by omega, by omega, rfl, by simp, HS.out⟩
  case round =>
    obtain ⟨i, rfl, hi, rfl, rfl, hE⟩ := hrel
    by_cases hlt : i < M.length
    · obtain ⟨f, hf⟩ : ∃ f, M[i]? = some f := ⟨_, List.getElem?_eq_getElem hlt⟩
      obtain ⟨g, rfl⟩ := HROW.out (by omega)
      obtain ⟨c0, hcs⟩ := hE.cells HMV.out
      have cf := hcs i f hf
      have hil : (i : Int) < (M.length : Int) := by omega
      have hf32 : f ≤ 4294967295 := HM32.out f (List.mem_of_getElem? hf)
      have HF := Lib.hid hf
      have HE := Lib.hid hE
      clear hE hcs hf
      have HKK : Hid ((f = r → decide (2 ≤ r ∧ code = 0) = true → r ∈ M.take i) → (decide (2 ≤ r ∧ code = 0) && decide (r ∈ M.take (i + 1))) = (decide (2 ≤ r ∧ code = 0) && decide (r ∈ M.take i))) := by
        intro hn
        cases hok : decide (2 ≤ r ∧ code = 0) with
        | false => rfl
        | true =>
          have e : (r ∈ M.take (i + 1)) ↔ (r ∈ M.take i) := by
            rw [take_succ_mem HF.out]
            constructor
            · rintro (h | h)
              · exact h
              · exact hn h.symm hok
            · exact .inl
          simp [e]
      by_cases hfr : f = r
      · cases hk : (decide (2 ≤ r ∧ code = 0) && decide (r ∈ M.take i)) with
        | true =>
          have HN : Hid (f = r → decide (2 ≤ r ∧ code = 0) = true → r ∈ M.take i) := by
            intro _ _; simp at hk; exact hk.2
          have HK := Lib.hid (HKK.out HN.out)
          rw [hk] at HK
          have hfe : ((f : Int) == (r : Int)) = true := by simp [hfr]
          clear hfr
          go_wp2_with fail
          refine (HE.out.drop HF.out HN.out hf32).mono ?_
          rintro e w1 ⟨rfl, hE1⟩
          have HE1 := Lib.hid hE1
          clear hE1
          go_wp2_with fail
          go_roundg (M.length - (i + 1))
          case measure => omega
          case rel => exact ⟨i + 1, rfl, by omega, by simp, by rw [HK.out], HE1.out⟩
        | false =>
          by_cases hc : code = 0
          · subst hfr
            have hok : decide (2 ≤ f ∧ code = 0) = true := by simp [h2, hc]
            have HNI : Hid (f ∉ M.take i) := by
              intro hm
              rw [hok] at hk; simp at hk
              exact hk hm
            have HE1 : Hid (EndW w wb b f K0 K q M lvv mv (decide (2 ≤ f ∧ code = 0)) (i + 1) wr) := by
              have := HE.out
              rw [hok] at this ⊢
              exact this.keep HF.out HNI.out
            have HK : Hid ((decide (2 ≤ f ∧ code = 0) && decide (f ∈ M.take (i + 1))) = true) := by
              show _ = true
              rw [hok]; simp [take_succ_mem HF.out]
            have HCC := Lib.hid hc
            subst hc
            clear hok HKK
            go_wp2_with fail
            go_roundg (M.length - (i + 1))
            case measure => omega
            case rel => exact ⟨i + 1, rfl, by omega, by simp, by rw [HK.out], HE1.out⟩
          · have HN : Hid (f = r → decide (2 ≤ r ∧ code = 0) = true → r ∈ M.take i) := by
              intro _ h; simp at h; exact absurd h.2 hc
            have HK := Lib.hid (HKK.out HN.out)
            rw [hk] at HK
            have hfe : ((f : Int) == (r : Int)) = true := by simp [hfr]
            have hce : (code == 0) = false := by simpa using hc
            clear hfr
            go_wp2_with fail
            refine (HE.out.drop HF.out HN.out hf32).mono ?_
            rintro e w1 ⟨rfl, hE1⟩
            have HE1 := Lib.hid hE1
            clear hE1
            go_wp2_with fail
            go_roundg (M.length - (i + 1))
            case measure => omega
            case rel => exact ⟨i + 1, rfl, by omega, by simp, by rw [HK.out], HE1.out⟩
      · have HN : Hid (f = r → decide (2 ≤ r ∧ code = 0) = true → r ∈ M.take i) := fun h => absurd h hfr
        have HK := Lib.hid (HKK.out HN.out)
        have hfe : ((f : Int) == (r : Int)) = false := by simp; omega
        have hfe2 : ¬ ((f : Int) = (r : Int)) := by omega
        generalize (decide (2 ≤ r ∧ code = 0) && decide (r ∈ M.take i)) = kb at HK
        go_wp2_with fail
        refine (HE.out.drop HF.out HN.out hf32).mono ?_
        rintro e w1 ⟨rfl, hE1⟩
        have HE1 := Lib.hid hE1
        clear hE1
        go_wp2_with fail
        go_roundg (M.length - (i + 1))
        case measure => omega
        case rel => exact ⟨i + 1, rfl, by omega, by simp, by rw [HK.out], HE1.out⟩
    · obtain rfl : i = M.length := by omega
      obtain ⟨e2, f2, e0, hdone⟩ := hE.done
      have HD : Hid (EndP wb b r code K0 K q M lvv mv w (wr.setCell ⟨wb, 2, none⟩ (.slice none 0 0))) := by
        obtain ⟨K', T', q', a1, a2, a3, a4, a5, a6, a7⟩ := hdone
        exact ⟨K', T', q', a1, a2, a3, a4, a5, a6, fun _ h => by omega, fun h _ => a7 h⟩
      have hil : ¬ ((M.length : Int) < (M.length : Int)) := by omega
      rw [List.take_length]
      clear hE hdone
      by_cases hc : code = 0
      · by_cases hm : r ∈ M
        · have hk : (decide (2 ≤ r ∧ code = 0) && decide (r ∈ M)) = true := by simp [h2, hc, hm]
          have HR : Hid (endR M r code = (r, 0)) := by
            show endR M r code = (r, 0)
            unfold endR; rw [if_neg (by simp [hc]), if_pos (.inr hm)]
          rw [hk]
          clear hk
          subst hc
          go_wp2_with fail
          go_ret2
          exact ⟨by rw [HR.out]; rfl, HD.out⟩
        · have hk : (decide (2 ≤ r ∧ code = 0) && decide (r ∈ M)) = false := by simp [hm]
          have HR : Hid (endR M r code = (0, 8)) := by
            show endR M r code = (0, 8)
            unfold endR; rw [if_neg (by simp [hc]), if_neg (by simp [hm]; omega)]
          rw [hk]
          clear hk
          subst hc
          go_wp2_with fail
          go_ret2
          exact ⟨by rw [HR.out]; rfl, HD.out⟩
      · have hce : (code != 0) = true := by simpa using hc
        have HR : Hid (endR M r code = (0, code)) := by
          show endR M r code = (0, code)
          unfold endR; rw [if_pos hc]
        go_wp2_with fail
        go_ret2
        exact ⟨by rw [HR.out]; rfl, HD.out⟩

theorem KV.Ok.tk_const {K : KV} (h : K.Ok) {r : Nat} (h2 : r < 2) : K.A.tk r = true := by
  obtain rfl | rfl : r = 0 ∨ r = 1 := by omega
  · exact h.wf.ok.tk01.1
  · exact h.wf.ok.tk01.2

theorem KV.Ext.keepL {K K' : KV} (he : K'.Ext K) (r : Nat) : (K'.keepK r).Ext K := by
  refine ⟨fun s p h1 h3 => ?_, ?_, ?_, ?_, ?_⟩
  · rw [K'.keepK_A] at h1; exact he.nd s p h1 h3
  · rw [K'.keepK_A]; exact he.pl
  · rw [K'.keepK_vars]; exact he.vr
  · rw [K'.keepK_order]; exact he.od
  · rw [K'.keepK_level]; exact he.lv

/-- behind the loop and the last Keep -/
theorem end_const {w w1 w2 : World} {wb b r : Nat} {K0 K : KV} {q : KPtr} {M : List Nat} {lvv mv : Value} (h2 : r < 2) {K' K2 : KV} {T' T2 : List DM} {q' q2 : KPtr} (hk : KerIn (w1.setCell ⟨wb, 2, none⟩ (.slice none 0 0)) b K' T' q')
    (hu : Upd (wkF wb b q lvv mv) w (w1.setCell ⟨wb, 2, none⟩ (.slice none 0 0))) (hs : Sub (q.all b) w (q'.all b)) (he : K'.Ext K) (hd : ∀ x, K'.hold x = K0.hold x + (if x = r ∧ false = true ∧ r ∈ M then 1 else 0)) 
    (hk2 : KerIn w2 b K2 T2 q2) (hK2 : K2 = K'.keepK r) (hu2 : Upd (q'.all b) (w1.setCell ⟨wb, 2, none⟩ (.slice none 0 0)) w2) (hs2 : ∀ k, k ∈ q2.all b → k ∈ q'.all b) : EndP wb b r 0 K0 K q M lvv mv w w2 := by
  have hsz := hu.size
  have hkp := hk.ok.wf.keepK_hold (hk.ok.tk_const h2)
  subst hK2
  refine ⟨_, T2, q2, hk2, hu.then hu2 fun x hx => ?_, fun k hk => hs k (hs2 k hk), he.keepL r, fun x => ?_, fun _ => K'.keepK_trail r, fun _ _ => K'.keepK_trail r, fun _ h => absurd ⟨rfl, h2⟩ h⟩
  · rcases hs x hx with h | h
    · exact .inl (List.mem_append.2 (.inl h))
    · exact .inr h
  · have e : ¬ (2 ≤ r) := by omega
    rw [hkp, hd]; simp [e]

set_option maxRecDepth 100000 in
set_option maxHeartbeats 1600000 in
/-- where the answer is a constant -/
theorem wend_const (wb b r : Nat) (code : Int) (K0 K : KV) (T : List DM) (q : KPtr) (M : List Nat) (lvv mv : Value) (w : World) (h : WK w wb b K T q M lvv mv) (hM : M.length ≤ 1099511627776) (hM32 : ∀ x, x ∈ M → x ≤ 4294967295)
    (hh : ∀ x, K.hold x = K0.hold x + M.count x) (htr : M ≠ [] → K.trail = []) (h2 : r < 2) :
    Calls Try.prog 55 #[.pointer (some ⟨wb, 0, none⟩), .int .u32 r, .int .i64 code] w fun e w' =>
      e = .returned (.tuple #[.int .u32 (endR M r code).1, .int .i64 (endR M r code).2]) ∧ EndP wb b r code K0 K q M lvv mv w w' := by
  have HS : Hid (EndW w wb b r K0 K q M lvv mv false 0 w) := ⟨K, T, q, h, EndS.start hh htr, Upd.refl _ _, Sub.refl _ _⟩
  have HM32 := Lib.hid hM32
  obtain ⟨fa, fc, hmv, _⟩ := row_nil_len h.wk.ms
  have c2 : w.cell? ⟨wb, 2, none⟩ = some (.slice fa M.length fc) := by rw [← hmv]; exact cell_at h.wk.blk rfl
  have hrow := h.wk.ms
  rw [hmv] at hrow
  have HROW := Lib.hid (fun hn => row_some hrow hn)
  have HMV := Lib.hid hmv
  have hml : M.length ≤ 9223372036854775806 := by omega
  have hr01 : r = 0 ∨ r = 1 := by omega
  clear h hh htr hmv hrow hM32
  rcases hr01 with rfl | rfl
  · go_enter Try.func55, Try.ntmps55
    go_wp2_with fail
    go_loopg [8, 22] M.length (fun g s8 s22 wr => ∃ i : Nat, M.length - i = g ∧ i ≤ M.length ∧ s22 = .int .i64 i ∧ s8 = .bool true ∧ EndW w wb b 0 K0 K q M lvv mv false i wr)
    case atStart =>
      exact ⟨0, by omega, by omega, rfl, rfl, HS.out⟩
    case round =>
      obtain ⟨i, rfl, hi, rfl, rfl, hE⟩ := hrel
      by_cases hlt : i < M.length
      · obtain ⟨f, hf⟩ : ∃ f, M[i]? = some f := ⟨_, List.getElem?_eq_getElem hlt⟩
        obtain ⟨g, rfl⟩ := HROW.out (by omega)
        obtain ⟨c0, hcs⟩ := hE.cells HMV.out
        have cf := hcs i f hf
        have hil : (i : Int) < (M.length : Int) := by omega
        have hf32 : f ≤ 4294967295 := HM32.out f (List.mem_of_getElem? hf)
        have HF := Lib.hid hf
        have HE := Lib.hid hE
        have HN : Hid (f = 0 → false = true → 0 ∈ M.take i) := fun _ h => by cases h
        clear hE hcs hf
        cases hfe : ((f : Int) == 0) with
        | true =>
          go_wp2_with fail
          refine (HE.out.drop HF.out HN.out hf32).mono ?_
          rintro e w1 ⟨rfl, hE1⟩
          have HE1 := Lib.hid hE1
          clear hE1
          go_wp2_with fail
          go_roundg (M.length - (i + 1))
          case measure => omega
          case rel => exact ⟨i + 1, rfl, by omega, by simp, rfl, HE1.out⟩
        | false =>
          have hfe2 : ¬ ((f : Int) = 0) := by simpa using hfe
          go_wp2_with fail
          refine (HE.out.drop HF.out HN.out hf32).mono ?_
          rintro e w1 ⟨rfl, hE1⟩
          have HE1 := Lib.hid hE1
          clear hE1
          go_wp2_with fail
          go_roundg (M.length - (i + 1))
          case measure => omega
          case rel => exact ⟨i + 1, rfl, by omega, by simp, rfl, HE1.out⟩
      · obtain rfl : i = M.length := by omega
        obtain ⟨e2, f2, e0, K', T', q', a1, a2, a3, a4, a5, a6, a7⟩ := hE.done
        have HD := Lib.hid (And.intro hE (And.intro a1 (And.intro a2 (And.intro a3 (And.intro a4 (And.intro a5 (And.intro a6 a7)))))))
        have hil : ¬ ((M.length : Int) < (M.length : Int)) := by omega
        clear hE a1 a2 a3 a4 a5 a6 a7
        by_cases hc : code = 0
        · have HR : Hid (endR M 0 code = (0, 0)) := by
            show endR M 0 code = (0, 0)
            unfold endR; rw [if_neg (by simp [hc]), if_pos (.inl (by omega))]
          subst hc
          go_wp2_with fail
          have hhold : K'.hold 0 = 0 := by
            by_cases h0 : 0 < K'.hold 0
            · have := (HD.out.2.1.ok.wf.ht 0 h0).1; omega
            · omega
          refine (keep_any b 0 K' T' q' _ HD.out.2.1 (by omega) HD.out.2.1.ok.wf.ok.tk01.1).mono ?_
          rintro e w1 ⟨code1, K2, q2, rfl, hcd, hk, hu3, hs3⟩
          rcases hcd with ⟨_, hb, _⟩ | ⟨rfl, _, hK2⟩
          · omega
          · have HE := Lib.hid (end_const (by omega) HD.out.2.1 HD.out.2.2.1 HD.out.2.2.2.1 HD.out.2.2.2.2.1 HD.out.2.2.2.2.2.1 hk hK2 hu3 hs3)
            clear hk hu3 hs3 hK2
            go_wp2_with fail
            go_ret2
            exact ⟨by rw [HR.out]; rfl, HE.out⟩
        · have hce : (code != 0) = true := by simpa using hc
          have HR : Hid (endR M 0 code = (0, code)) := by
            show endR M 0 code = (0, code)
            unfold endR; rw [if_pos hc]
          have HE : Hid (EndP wb b 0 code K0 K q M lvv mv w (wr.setCell ⟨wb, 2, none⟩ (.slice none 0 0))) := by
            obtain ⟨_, b1, b2, b3, b4, b5, b6, b7⟩ := HD.out
            refine ⟨K', T', q', b1, b2, b3, b4, fun x => ?_, b6, fun h => absurd h hc, fun h _ => b7 h⟩
            rw [b5]; simp
          clear HD
          go_wp2_with fail
          go_ret2
          exact ⟨by rw [HR.out]; rfl, HE.out⟩
  · go_enter Try.func55, Try.ntmps55
    go_wp2_with fail
    go_loopg [8, 22] M.length (fun g s8 s22 wr => ∃ i : Nat, M.length - i = g ∧ i ≤ M.length ∧ s22 = .int .i64 i ∧ s8 = .bool true ∧ EndW w wb b 1 K0 K q M lvv mv false i wr)
    case atStart =>
      exact ⟨0, by omega, by omega, rfl, rfl, HS.out⟩
    case round =>
      obtain ⟨i, rfl, hi, rfl, rfl, hE⟩ := hrel
      by_cases hlt : i < M.length
      · obtain ⟨f, hf⟩ : ∃ f, M[i]? = some f := ⟨_, List.getElem?_eq_getElem hlt⟩
        obtain ⟨g, rfl⟩ := HROW.out (by omega)
        obtain ⟨c0, hcs⟩ := hE.cells HMV.out
        have cf := hcs i f hf
        have hil : (i : Int) < (M.length : Int) := by omega
        have hf32 : f ≤ 4294967295 := HM32.out f (List.mem_of_getElem? hf)
        have HF := Lib.hid hf
        have HE := Lib.hid hE
        have HN : Hid (f = 1 → false = true → 1 ∈ M.take i) := fun _ h => by cases h
        clear hE hcs hf
        cases hfe : ((f : Int) == 1) with
        | true =>
          go_wp2_with fail
          refine (HE.out.drop HF.out HN.out hf32).mono ?_
          rintro e w1 ⟨rfl, hE1⟩
          have HE1 := Lib.hid hE1
          clear hE1
          go_wp2_with fail
          go_roundg (M.length - (i + 1))
          case measure => omega
          case rel => exact ⟨i + 1, rfl, by omega, by simp, rfl, HE1.out⟩
        | false =>
          have hfe2 : ¬ ((f : Int) = 1) := by simpa using hfe
          go_wp2_with fail
          refine (HE.out.drop HF.out HN.out hf32).mono ?_
          rintro e w1 ⟨rfl, hE1⟩
          have HE1 := Lib.hid hE1
          clear hE1
          go_wp2_with fail
          go_roundg (M.length - (i + 1))
          case measure => omega
          case rel => exact ⟨i + 1, rfl, by omega, by simp, rfl, HE1.out⟩
      · obtain rfl : i = M.length := by omega
        obtain ⟨e2, f2, e0, K', T', q', a1, a2, a3, a4, a5, a6, a7⟩ := hE.done
        have HD := Lib.hid (And.intro hE (And.intro a1 (And.intro a2 (And.intro a3 (And.intro a4 (And.intro a5 (And.intro a6 a7)))))))
        have hil : ¬ ((M.length : Int) < (M.length : Int)) := by omega
        clear hE a1 a2 a3 a4 a5 a6 a7
        by_cases hc : code = 0
        · have HR : Hid (endR M 1 code = (1, 0)) := by
            show endR M 1 code = (1, 0)
            unfold endR; rw [if_neg (by simp [hc]), if_pos (.inl (by omega))]
          subst hc
          go_wp2_with fail
          have hhold : K'.hold 1 = 0 := by
            by_cases h0 : 0 < K'.hold 1
            · have := (HD.out.2.1.ok.wf.ht 1 h0).1; omega
            · omega
          refine (keep_any b 1 K' T' q' _ HD.out.2.1 (by omega) HD.out.2.1.ok.wf.ok.tk01.2).mono ?_
          rintro e w1 ⟨code1, K2, q2, rfl, hcd, hk, hu3, hs3⟩
          rcases hcd with ⟨_, hb, _⟩ | ⟨rfl, _, hK2⟩
          · omega
          · have HE := Lib.hid (end_const (by omega) HD.out.2.1 HD.out.2.2.1 HD.out.2.2.2.1 HD.out.2.2.2.2.1 HD.out.2.2.2.2.2.1 hk hK2 hu3 hs3)
            clear hk hu3 hs3 hK2
            go_wp2_with fail
            go_ret2
            exact ⟨by rw [HR.out]; rfl, HE.out⟩
        · have hce : (code != 0) = true := by simpa using hc
          have HR : Hid (endR M 1 code = (0, code)) := by
            show endR M 1 code = (0, code)
            unfold endR; rw [if_pos hc]
          have HE : Hid (EndP wb b 1 code K0 K q M lvv mv w (wr.setCell ⟨wb, 2, none⟩ (.slice none 0 0))) := by
            obtain ⟨_, b1, b2, b3, b4, b5, b6, b7⟩ := HD.out
            refine ⟨K', T', q', b1, b2, b3, b4, fun x => ?_, b6, fun h => absurd h hc, fun h _ => b7 h⟩
            rw [b5]; simp
          clear HD
          go_wp2_with fail
          go_ret2
          exact ⟨by rw [HR.out]; rfl, HE.out⟩

theorem wend_spec (wb b r : Nat) (code : Int) (K0 K : KV) (T : List DM) (q : KPtr) (M : List Nat) (lvv mv : Value) (w : World) (h : WK w wb b K T q M lvv mv) (hM : M.length ≤ 1099511627776) (hr : r ≤ 4294967295) (hM32 : ∀ x, x ∈ M → x ≤ 4294967295)
    (hh : ∀ x, K.hold x = K0.hold x + M.count x) (htr : M ≠ [] → K.trail = []) :
    Calls Try.prog 55 #[.pointer (some ⟨wb, 0, none⟩), .int .u32 r, .int .i64 code] w fun e w' =>
      e = .returned (.tuple #[.int .u32 (endR M r code).1, .int .i64 (endR M r code).2]) ∧ EndP wb b r code K0 K q M lvv mv w w' := by
  by_cases h2 : 2 ≤ r
  · exact wend_node wb b r code K0 K T q M lvv mv w h hM hr hM32 hh htr h2
  · exact wend_const wb b r code K0 K T q M lvv mv w h hM hM32 hh htr (by omega)
end Go.Proofs.Ytnenhecnkidnpaa
