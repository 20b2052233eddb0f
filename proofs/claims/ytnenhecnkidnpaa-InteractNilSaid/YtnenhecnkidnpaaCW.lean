/- The walk below a function. -/
import Derived.Test.YtnenhecnkidnpaaCB
import Derived.Test.YtnenhecnkidnpaaAG
namespace Go.Proofs.Ytnenhecnkidnpaa
open Go.RowKit Go.Maps Go.ChangeMaps Go.WideShapes

/-- x stands below r, or is r -/
inductive KV.Under (K : KV) (r : Nat) : Nat → Prop
  | refl (h : 2 ≤ r) : K.Under r r
  | lo {x : Nat} {p : PlaceV} (h : K.Under r x) (hp : K.A.list[x]? = some p) (h2 : 2 ≤ p.lo) : K.Under r p.lo
  | hi {x : Nat} {p : PlaceV} (h : K.Under r x) (hp : K.A.list[x]? = some p) (h2 : 2 ≤ p.hi) : K.Under r p.hi

theorem KV.Under.trans {K : KV} {r s x : Nat} (h : K.Under r s) (k : K.Under s x) : K.Under r x := by
  induction k with
  | refl _ => exact h
  | lo _ hp h2 ih => exact .lo ih hp h2
  | hi _ hp h2 ih => exact .hi ih hp h2

/-- what a walk from r adds to what was seen -/
structure WalkN (K : KV) (V : List Nat) (r : Nat) (N : List Nat) : Prop where
  nd : (V ++ N).Nodup
  has : 2 ≤ r → r ∈ V ++ N
  two : ∀ x, x ∈ N → 2 ≤ x ∧ K.A.tk x = true
  under : ∀ x, x ∈ N → K.Under r x
  kids : ∀ (x : Nat) (p : PlaceV), x ∈ N → K.A.list[x]? = some p → (p.lo < 2 ∨ p.lo ∈ V ++ N) ∧ (p.hi < 2 ∨ p.hi ∈ V ++ N)

theorem WalkN.none {K : KV} {V : List Nat} {r : Nat} (hv : V.Nodup) (h : r < 2 ∨ r ∈ V) : WalkN K V r [] :=
  ⟨by simpa using hv, fun h2 => by rcases h with h | h; · omega
                                   · simpa using h, by simp, by simp, by simp⟩

theorem WalkN.node {K : KV} {V N0 N1 : List Nat} {r : Nat} {p : PlaceV} (h2 : 2 ≤ r) (ht : K.A.tk r = true) (hp : K.A.list[r]? = some p) (W0 : WalkN K (V ++ [r]) p.lo N0) (W1 : WalkN K (V ++ [r] ++ N0) p.hi N1) :
    WalkN K V r (r :: (N0 ++ N1)) := by
  have e : V ++ r :: (N0 ++ N1) = V ++ [r] ++ N0 ++ N1 := by simp
  have in0 : ∀ x, x ∈ V ++ [r] ++ N0 → x ∈ V ++ r :: (N0 ++ N1) := fun x hx => by rw [e]; exact List.mem_append.2 (.inl hx)
  have in1 : ∀ x, x ∈ V ++ [r] ++ N0 ++ N1 → x ∈ V ++ r :: (N0 ++ N1) := fun x hx => by rw [e]; exact hx
  refine ⟨by rw [e]; exact W1.nd, fun _ => by simp, fun x hx => ?_, fun x hx => ?_, fun x c hx hc => ?_⟩
  · rcases List.mem_cons.1 hx with rfl | hx
    · exact ⟨h2, ht⟩
    · rcases List.mem_append.1 hx with hx | hx
      · exact W0.two x hx
      · exact W1.two x hx
  · have ulo : 2 ≤ p.lo → K.Under r p.lo := fun h => .lo (.refl h2) hp h
    have uhi : 2 ≤ p.hi → K.Under r p.hi := fun h => .hi (.refl h2) hp h
    have start : ∀ {s x : Nat}, K.Under s x → 2 ≤ s := by
      intro s x h
      induction h with
      | refl h => exact h
      | lo _ _ _ ih => exact ih
      | hi _ _ _ ih => exact ih
    rcases List.mem_cons.1 hx with rfl | hx
    · exact .refl h2
    · rcases List.mem_append.1 hx with hx | hx
      · have := W0.under x hx
        exact (ulo (start this)).trans this
      · have := W1.under x hx
        exact (uhi (start this)).trans this
  · rcases List.mem_cons.1 hx with rfl | hx
    · rw [hp] at hc; cases hc
      refine ⟨?_, ?_⟩
      · by_cases h : p.lo < 2
        · exact .inl h
        · exact .inr (in0 _ (W0.has (by omega)))
      · by_cases h : p.hi < 2
        · exact .inl h
        · exact .inr (in1 _ (W1.has (by omega)))
    · rcases List.mem_append.1 hx with hx | hx
      · have := W0.kids x c hx hc
        exact ⟨this.1.imp_right (in0 _), this.2.imp_right (in0 _)⟩
      · have := W1.kids x c hx hc
        exact ⟨this.1.imp_right (in1 _), this.2.imp_right (in1 _)⟩

/-- the variable of a node -/
def KV.vof (K : KV) (x : Nat) : Nat := match K.A.list[x]? with | some p => p.var.toNat | none => 0

/-- the post of a walk -/
structure WalkQ (b ck ckk cf cw mb sb fl : Nat) (caps : Array Value) (ty : TypeId) (enc : Int → Value) (step : Int → Nat → Int) (K : KV) (T : List DM) (q : KPtr) (V : List Nat) (r : Nat) (s : Int) (w w' : World) : Prop where
  ex : ∃ (N : List Nat) (D' : DM), WalkN K V r N ∧ SeenOk (V ++ N) D' ∧ WalkM w' b ck ckk cf cw mb sb fl caps ty enc K T q D' (N.foldl (fun s x => step s (K.vof x)) s) ∧ Upd [mb, sb] w w'

def WalkHyp (b ck ckk cf cw mb sb fl : Nat) (caps : Array Value) (ty : TypeId) (enc : Int → Value) (step : Int → Nat → Int) (K : KV) (T : List DM) (q : KPtr) (d : Nat) : Prop :=
  ∀ (r : Nat) (V : List Nat) (D : DM) (s : Int) (w : World), WalkM w b ck ckk cf cw mb sb fl caps ty enc K T q D s → SeenOk V D → V.Nodup → K.A.tk r = true → d ≤ K.dep r →
    Calls Try.prog 62 #[.int .u32 r, .pointer (some ⟨ck, 0, none⟩), .pointer (some ⟨ckk, 0, none⟩), .pointer (some ⟨cf, 0, none⟩), .pointer (some ⟨cw, 0, none⟩)] w fun e w' =>
      e = .returned (.tuple #[]) ∧ WalkQ b ck ckk cf cw mb sb fl caps ty enc step K T q V r s w w'

set_option maxRecDepth 100000 in
set_option maxHeartbeats 1600000 in
theorem walk_const (b ck ckk cf cw mb sb fl : Nat) (caps : Array Value) (ty : TypeId) (enc : Int → Value) (step : Int → Nat → Int) (K : KV) (T : List DM) (q : KPtr) (r : Nat) (V : List Nat) (D : DM) (s : Int) (w : World)
    (hM : WalkM w b ck ckk cf cw mb sb fl caps ty enc K T q D s) (hS : SeenOk V D) (hv : V.Nodup) (h2 : r < 2) :
    Calls Try.prog 62 #[.int .u32 r, .pointer (some ⟨ck, 0, none⟩), .pointer (some ⟨ckk, 0, none⟩), .pointer (some ⟨cf, 0, none⟩), .pointer (some ⟨cw, 0, none⟩)] w fun e w' =>
      e = .returned (.tuple #[]) ∧ WalkQ b ck ckk cf cw mb sb fl caps ty enc step K T q V r s w w' := by
  have HE : Hid (WalkQ b ck ckk cf cw mb sb fl caps ty enc step K T q V r s w w) := ⟨[], D, WalkN.none hv (.inl h2), by simpa using hS, hM, Upd.refl _ _⟩
  have HD : Hid (decide (r < 2) = true) := by show decide (r < 2) = true; simpa using h2
  clear hM hS hv
  go_enter Try.func62, Try.ntmps62
  go_wp2_with fail
  refine (cconst_spec r w).mono ?_
  rintro e w1 ⟨rfl, rfl⟩
  rw [HD.out]
  go_wp2_with fail
  refine bodyPost_ret (results_none rfl _ _ _) rfl ⟨rfl, HE.out⟩

set_option maxRecDepth 100000 in
set_option maxHeartbeats 1600000 in
theorem walk_seen (b ck ckk cf cw mb sb fl : Nat) (caps : Array Value) (ty : TypeId) (enc : Int → Value) (step : Int → Nat → Int) (K : KV) (T : List DM) (q : KPtr) (r : Nat) (V : List Nat) (D : DM) (s : Int) (w : World)
    (hM : WalkM w b ck ckk cf cw mb sb fl caps ty enc K T q D s) (hS : SeenOk V D) (hv : V.Nodup) (h2 : 2 ≤ r) (hr : r ≤ 4294967295) (hin : r ∈ V) :
    Calls Try.prog 62 #[.int .u32 r, .pointer (some ⟨ck, 0, none⟩), .pointer (some ⟨ckk, 0, none⟩), .pointer (some ⟨cf, 0, none⟩), .pointer (some ⟨cw, 0, none⟩)] w fun e w' =>
      e = .returned (.tuple #[]) ∧ WalkQ b ck ckk cf cw mb sb fl caps ty enc step K T q V r s w w' := by
  have HE : Hid (WalkQ b ck ckk cf cw mb sb fl caps ty enc step K T q V r s w w) := ⟨[], D, WalkN.none hv (.inr hin), by simpa using hS, hM, Upd.refl _ _⟩
  have HD : Hid (decide (r < 2) = false) := by show decide (r < 2) = false; simp; omega
  have ck0 := cell_at (j := 0) hM.bk rfl
  obtain ⟨c, hrun, hat, _⟩ := hM.map.lookup_int refKeyed Try.underlying51 Try.underlying3 (zeroInt w) (keyOf_int_mk Try.underlying27 (wfR hr))
  have hc : c = 1 := by
    have := hS.at_ r hr ((hS.has r hr).2 hin) (.lit (.int .i64 0))
    rw [this] at hat
    simpa using hat.symm
  subst hc
  clear hM hS hv hat
  go_enter Try.func62, Try.ntmps62
  go_wp2_with fail
  refine (cconst_spec r w).mono ?_
  rintro e w1 ⟨rfl, rfl⟩
  rw [HD.out]
  go_wp2_with fail
  refine bodyPost_ret (results_none rfl _ _ _) rfl ⟨rfl, HE.out⟩

set_option maxRecDepth 100000 in
set_option maxHeartbeats 3200000 in
theorem walk_new (b ck ckk cf cw mb sb fl : Nat) (caps : Array Value) (ty : TypeId) (enc : Int → Value) (step : Int → Nat → Int) (K : KV) (T : List DM) (q : KPtr) (r : Nat) (V : List Nat) (D : DM) (s : Int) (w : World) (hen : Enters fl) (hen2 : Enters 62)
    (hCb : CbOk fl caps sb ty enc step) (hM : WalkM w b ck ckk cf cw mb sb fl caps ty enc K T q D s) (hS : SeenOk V D) (hv : V.Nodup) (h2 : 2 ≤ r) (ht : K.A.tk r = true) (hnin : r ∉ V) (IH : WalkHyp b ck ckk cf cw mb sb fl caps ty enc step K T q (K.dep r + 1)) :
    Calls Try.prog 62 #[.int .u32 r, .pointer (some ⟨ck, 0, none⟩), .pointer (some ⟨ckk, 0, none⟩), .pointer (some ⟨cf, 0, none⟩), .pointer (some ⟨cw, 0, none⟩)] w fun e w' =>
      e = .returned (.tuple #[]) ∧ WalkQ b ck ckk cf cw mb sb fl caps ty enc step K T q V r s w w' := by
  have hok := hM.ker.ok
  have hrl := hok.ref_lt ht
  have hr : r ≤ 4294967295 := by omega
  obtain ⟨p, v, hp, hpt, hpv, hvl, tlo, thi, hdep⟩ := hok.wf.node_at h2 ht
  have hvs := hok.wf.vs
  have hb := hok.ord.below hok.wf h2 hp hpt
  have HD : Hid (decide (r < 2) = false) := by show decide (r < 2) = false; simp; omega
  have ck0 := cell_at (j := 0) hM.bk rfl
  obtain ⟨c, hrun, hat, _⟩ := hM.map.lookup_int refKeyed Try.underlying51 Try.underlying3 (zeroInt w) (keyOf_int_mk Try.underlying27 (wfR hr))
  have hno : Maps.has D (.int .u32 r) = false := by
    cases e : Maps.has D (.int .u32 r) with
    | false => rfl
    | true => exact absurd ((hS.has r hr).1 e) hnin
  have hc : c = 0 := by
    rw [atKey_of_not_has hno] at hat
    simpa using hat.symm
  subst hc
  have hsz := seen_size hS (hM.map.canon refKeyed) (hM.map.tidy refKeyed)
  obtain ⟨w9, hrun9, hown, hturn⟩ := hM.map.store refKeyed Try.underlying51 hsz (keyOf_int_mk Try.underlying27 (wfR hr)) (plainElem_int (H := Unit) Try.underlying3 (wfI (n := 1) (by omega) (by omega)))
  have hu9 := upd_turned hturn
  have hM9 := hM.seen hu9 (own_tight hown)
  have H9 := Lib.hid (And.intro hM9 (And.intro hu9 (hS.put hrl)))
  have HP := Lib.hid (And.intro hp (And.intro hpt (And.intro hpv (And.intro hvl (And.intro tlo (And.intro thi (And.intro hb (And.intro hok hv))))))))
  have HIH := Lib.hid IH
  have HCB := Lib.hid hCb
  have HEN : Hid (∀ (args : Array Value) (w : World), (callFunc fl args).run Try.prog w = .ok (.enter fl args) w) := hen
  have kk9 := cell_at (j := 0) hM9.bkk rfl
  clear hM hS hat hown hturn hu9 hM9 hp hpt hpv hvl tlo thi hb hok hv IH hCb hen hen2 hno hsz hdep
  go_enter Try.func62, Try.ntmps62
  go_wp2_with fail
  refine (cconst_spec r w).mono ?_
  rintro e w1 ⟨rfl, rfl⟩
  rw [HD.out]
  go_wp2_with fail
  refine (cnode_spec b r K T q p w9 H9.out.1.ker.mem hr HP.out.1 HP.out.2.1).mono ?_
  rintro e w2 ⟨rfl, hu2⟩
  rw [HP.out.2.2.1]
  have HB2 := Lib.hid ((H9.out.1.keep hu2).keep ((Upd.refl [] w2).alloc (.cells #[.int .i64 (v : Int), .int .u32 p.lo, .int .u32 p.hi] 55 (0, 0))))
  have hbx := heap_alloc_new w2 (.cells #[.int .i64 (v : Int), .int .u32 p.lo, .int .u32 p.hi] 55 (0, 0))
  have hmb := (H9.out.1.keep hu2).map.lt
  have hsb := heap_lt (H9.out.1.keep hu2).bs
  have HU2 := Lib.hid (hu2.alloc (.cells #[.int .i64 (v : Int), .int .u32 p.lo, .int .u32 p.hi] 55 (0, 0)))
  have x0 := cell_at (j := 0) hbx rfl
  have x1 := cell_at (j := 1) hbx rfl
  have x2 := cell_at (j := 2) hbx rfl
  have cf2 := cell_at (j := 0) HB2.out.bf rfl
  have HBX := Lib.hid hbx
  have hen := HEN.out
  clear hu2 hbx
  go_wp2_with fail
  refine (HCB.out _ s v p.lo p.hi (by have := HP.out.2.2.2.1; omega) HB2.out.bs).mono ?_
  rintro e w3 ⟨rfl, hs3, hu3⟩
  have HM3 := Lib.hid (HB2.out.state hu3 hs3)
  have hb3 := (hu3.block _ (heap_lt HBX.out) (by simp; omega)).trans HBX.out
  have HBX3 := Lib.hid hb3
  have HU3 := Lib.hid (HU2.out.mono (by simp) |>.trans (hu3.mono (by simp)) : Upd [mb, sb] w9 w3)
  have z1 := cell_at (j := 1) hb3 rfl
  have cw3 := cell_at (j := 0) HM3.out.bw rfl
  have HND : Hid ((V ++ [r]).Nodup) := by
    show (V ++ [r]).Nodup
    rw [List.nodup_append]
    refine ⟨HP.out.2.2.2.2.2.2.2.2, by simp, fun a ha c hc => ?_⟩
    simp at hc; subst hc
    rintro rfl; exact hnin ha
  have HC1 := Lib.hid (HIH.out p.lo (V ++ [r]) _ _ w3 HM3.out H9.out.2.2 HND.out HP.out.2.2.2.2.1 HP.out.2.2.2.2.2.2.1.1)
  clear hu3 hs3 hb3 x0 x1 x2 cf2 hen ck0 hrun hrun9 kk9
  go_wp2_with fail
  refine HC1.out.mono ?_
  rintro e w4 ⟨rfl, hQ⟩
  obtain ⟨N0, D4, hN0, hS4, hM4, hu4⟩ := hQ.ex
  have hb4 := (hu4.block _ (heap_lt HBX3.out) (by simp; omega)).trans HBX3.out
  have z2 := cell_at (j := 2) hb4 rfl
  have cw4 := cell_at (j := 0) hM4.bw rfl
  have HC2 := Lib.hid (HIH.out p.hi (V ++ [r] ++ N0) D4 _ w4 hM4 hS4 hN0.nd HP.out.2.2.2.2.2.1 HP.out.2.2.2.2.2.2.1.2)
  have H4 := Lib.hid (And.intro hN0 (HU3.out.trans hu4))
  clear hQ hN0 hS4 hM4 hu4 hb4 z1 cw3 HC1
  go_wp2_with fail
  refine HC2.out.mono ?_
  rintro e w5 ⟨rfl, hQ⟩
  obtain ⟨N1, D5, hN1, hS5, hM5, hu5⟩ := hQ.ex
  have HE : Hid (WalkQ b ck ckk cf cw mb sb fl caps ty enc step K T q V r s w1 w5) := by
    have hvof : K.vof r = v := by
      simp only [KV.vof, HP.out.1, HP.out.2.2.1, Int.toNat_natCast]
    refine ⟨r :: (N0 ++ N1), D5, WalkN.node h2 (ArenaV.tk_iff.2 ⟨p, HP.out.1, HP.out.2.1⟩) HP.out.1 H4.out.1 hN1, ?_, ?_, ?_⟩
    · have e : V ++ r :: (N0 ++ N1) = V ++ [r] ++ N0 ++ N1 := by simp
      rw [e]; exact hS5
    · have e : (r :: (N0 ++ N1)).foldl (fun s x => step s (K.vof x)) s = N1.foldl (fun s x => step s (K.vof x)) (N0.foldl (fun s x => step s (K.vof x)) (step s v)) := by
        rw [List.foldl_cons, List.foldl_append, hvof]
      rw [e]; exact hM5
    · exact (H9.out.2.1.mono (by simp) : Upd [mb, sb] w1 w9).trans (H4.out.2.trans hu5)
  clear hQ hN1 hS5 hM5 hu5 z2 cw4 HC2
  go_wp2_with fail
  go_end0
  exact ⟨rfl, HE.out⟩

/-- the walk's contract -/
theorem walk_spec (b ck ckk cf cw mb sb fl : Nat) (caps : Array Value) (ty : TypeId) (enc : Int → Value) (step : Int → Nat → Int) (K : KV) (T : List DM) (q : KPtr) (hen : Enters fl) (hen2 : Enters 62) (hCb : CbOk fl caps sb ty enc step) : ∀ (n d : Nat), K.vars + 1 - d ≤ n → WalkHyp b ck ckk cf cw mb sb fl caps ty enc step K T q d
  | n, d, hn => by
    intro r V D s w hM hS hv ht hd
    have hok := hM.ker.ok
    have hr := hok.ref_lt ht
    by_cases h2 : 2 ≤ r
    · have hl := hok.wf.dep_lt hok.ord h2 ht
      by_cases hin : r ∈ V
      · exact walk_seen b ck ckk cf cw mb sb fl caps ty enc step K T q r V D s w hM hS hv h2 (by omega) hin
      · match n, hn with
        | 0, hn => omega
        | n + 1, hn =>
          exact walk_new b ck ckk cf cw mb sb fl caps ty enc step K T q r V D s w hen hen2 hCb hM hS hv h2 ht hin (walk_spec b ck ckk cf cw mb sb fl caps ty enc step K T q hen hen2 hCb n (K.dep r + 1) (by omega))
    · exact walk_const b ck ckk cf cw mb sb fl caps ty enc step K T q r V D s w hM hS hv (by omega)
end Go.Proofs.Ytnenhecnkidnpaa
