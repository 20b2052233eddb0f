/- The calls as they are named; of no kernel; the first example, walked. -/
import Derived.Test.YtnenhecnkidnpaaCA
namespace Go.Proofs.Ytnenhecnkidnpaa
open Go.RowKit Go.Maps Go.ChangeMaps Go.WideShapes

/-- Make's post -/
structure MakePost (b : Nat) (v : Int) (lo hi : Nat) (K : KV) (q : KPtr) (w : World) (e : Ending) (w' : World) : Prop where
  ex : ∃ (r : Nat) (code : Int) (K' : KV) (T' : List DM) (q' : KPtr), e = .returned (.tuple #[.int .u32 r, .int .i64 code]) ∧ MakeR K v lo hi r code K' ∧ KerIn w' b K' T' q' ∧ Upd (q.all b) w w' ∧ Sub (q.all b) w (q'.all b)

set_option maxRecDepth 100000 in
theorem var_live (b : Nat) (v : Int) (K : KV) (T : List DM) (q : KPtr) (w : World) (h : KerIn w b K T q) :
    Calls Try.prog 12 #[.pointer (some ⟨b, 0, none⟩), .int .i64 v] w fun e w' => MakePost b v 0 1 K q w e w' := by
  have HK := Lib.hid h
  clear h
  go_enter Try.func12, Try.ntmps12
  go_wp2_with fail
  refine (make_spec b v 0 1 K T q w HK.out (by omega) (by omega)).mono ?_
  rintro e w1 ⟨r, code, K', T', q', rfl, hE⟩
  have HE := Lib.hid hE
  clear hE
  go_wp2_with fail
  go_ret2
  exact ⟨r, code, K', T', q', rfl, HE.out⟩

set_option maxRecDepth 100000 in
theorem and_live (b f g : Nat) (K : KV) (T : List DM) (q : KPtr) (w : World) (h : KerIn w b K T q) (hf : K.A.tk f = true) (hg : K.A.tk g = true) :
    Calls Try.prog 13 #[.pointer (some ⟨b, 0, none⟩), .int .u32 f, .int .u32 g] w fun e w' => OpPost b K q (K.fun3 (fun x y _ => opB 8 x y) f g 0) w e w' := by
  have HC := Lib.hid (binary_live b 8 f g K T q w h (by omega) hf hg)
  clear h hf hg
  go_enter Try.func13, Try.ntmps13
  go_wp2_with fail
  refine HC.out.mono ?_
  rintro e w1 hE
  obtain ⟨r, code, K', T', q', rfl, hP⟩ := hE.ex
  have HE := Lib.hid hP
  clear hE hP HC
  go_wp2_with fail
  go_ret2
  exact ⟨r, code, K', T', q', rfl, HE.out⟩

set_option maxRecDepth 100000 in
theorem and_nil (f g : Int) (w : World) : Calls Try.prog 13 #[.pointer none, .int .u32 f, .int .u32 g] w fun e w' => e = .returned (.tuple #[.int .u32 0, .int .i64 10]) ∧ Upd [] w w' := by
  go_enter Try.func13, Try.ntmps13
  go_wp2_with fail
  refine (binary_nil 8 f g _).mono ?_
  rintro e w1 ⟨rfl, hu⟩
  have HU := Lib.hid hu
  clear hu
  go_wp2_with fail
  go_ret2
  exact ⟨rfl, HU.out⟩

set_option maxRecDepth 100000 in
theorem or_live (b f g : Nat) (K : KV) (T : List DM) (q : KPtr) (w : World) (h : KerIn w b K T q) (hf : K.A.tk f = true) (hg : K.A.tk g = true) :
    Calls Try.prog 20 #[.pointer (some ⟨b, 0, none⟩), .int .u32 f, .int .u32 g] w fun e w' => OpPost b K q (K.fun3 (fun x y _ => opB 14 x y) f g 0) w e w' := by
  have HC := Lib.hid (binary_live b 14 f g K T q w h (by omega) hf hg)
  clear h hf hg
  go_enter Try.func20, Try.ntmps20
  go_wp2_with fail
  refine HC.out.mono ?_
  rintro e w1 hE
  obtain ⟨r, code, K', T', q', rfl, hP⟩ := hE.ex
  have HE := Lib.hid hP
  clear hE hP HC
  go_wp2_with fail
  go_ret2
  exact ⟨r, code, K', T', q', rfl, HE.out⟩

set_option maxRecDepth 100000 in
theorem or_nil (f g : Int) (w : World) : Calls Try.prog 20 #[.pointer none, .int .u32 f, .int .u32 g] w fun e w' => e = .returned (.tuple #[.int .u32 0, .int .i64 10]) ∧ Upd [] w w' := by
  go_enter Try.func20, Try.ntmps20
  go_wp2_with fail
  refine (binary_nil 14 f g _).mono ?_
  rintro e w1 ⟨rfl, hu⟩
  have HU := Lib.hid hu
  clear hu
  go_wp2_with fail
  go_ret2
  exact ⟨rfl, HU.out⟩

set_option maxRecDepth 100000 in
theorem xor_live (b f g : Nat) (K : KV) (T : List DM) (q : KPtr) (w : World) (h : KerIn w b K T q) (hf : K.A.tk f = true) (hg : K.A.tk g = true) :
    Calls Try.prog 14 #[.pointer (some ⟨b, 0, none⟩), .int .u32 f, .int .u32 g] w fun e w' => OpPost b K q (K.fun3 (fun x y _ => opB 6 x y) f g 0) w e w' := by
  have HC := Lib.hid (binary_live b 6 f g K T q w h (by omega) hf hg)
  clear h hf hg
  go_enter Try.func14, Try.ntmps14
  go_wp2_with fail
  refine HC.out.mono ?_
  rintro e w1 hE
  obtain ⟨r, code, K', T', q', rfl, hP⟩ := hE.ex
  have HE := Lib.hid hP
  clear hE hP HC
  go_wp2_with fail
  go_ret2
  exact ⟨r, code, K', T', q', rfl, HE.out⟩

set_option maxRecDepth 100000 in
theorem xor_nil (f g : Int) (w : World) : Calls Try.prog 14 #[.pointer none, .int .u32 f, .int .u32 g] w fun e w' => e = .returned (.tuple #[.int .u32 0, .int .i64 10]) ∧ Upd [] w w' := by
  go_enter Try.func14, Try.ntmps14
  go_wp2_with fail
  refine (binary_nil 6 f g _).mono ?_
  rintro e w1 ⟨rfl, hu⟩
  have HU := Lib.hid hu
  clear hu
  go_wp2_with fail
  go_ret2
  exact ⟨rfl, HU.out⟩

set_option maxRecDepth 100000 in
theorem not_nil (f : Int) (w : World) : Calls Try.prog 19 #[.pointer none, .int .u32 f] w fun e w' => e = .returned (.tuple #[.int .u32 0, .int .i64 10]) ∧ Upd [] w w' := by
  go_enter Try.func19, Try.ntmps19
  go_wp2_with fail
  refine (binary_nil 3 f 0 _).mono ?_
  rintro e w1 ⟨rfl, hu⟩
  have HU := Lib.hid hu
  clear hu
  go_wp2_with fail
  go_ret2
  exact ⟨rfl, HU.out⟩

set_option maxRecDepth 100000 in
theorem var_nil (v : Int) (w : World) : Calls Try.prog 12 #[.pointer none, .int .i64 v] w fun e w' => e = .returned (.tuple #[.int .u32 0, .int .i64 10]) ∧ Upd [] w w' := by
  go_enter Try.func12, Try.ntmps12
  go_wp2_with fail
  go_ret2
  exact ⟨rfl, Upd.refl _ _⟩

set_option maxRecDepth 100000 in
theorem const_nil (c : Bool) (w : World) : Calls Try.prog 18 #[.pointer none, .bool c] w fun e w' => e = .returned (.tuple #[.int .u32 0, .int .i64 10]) ∧ Upd [] w w' := by
  go_enter Try.func18, Try.ntmps18
  go_wp2_with fail
  go_ret2
  exact ⟨rfl, Upd.refl _ _⟩

set_option maxRecDepth 100000 in
theorem fold_nil (lv : Value) (op : Int) (c : Bool) (w : World) : Calls Try.prog 42 #[.pointer none, lv, .int .u8 op, .bool c] w fun e w' => e = .returned (.tuple #[.int .u32 0, .int .i64 10]) ∧ Upd [] w w' := by
  go_enter Try.func42, Try.ntmps42
  go_wp2_with fail
  refine (begin_nil _ _).mono ?_
  rintro e w1 ⟨rfl, rfl⟩
  go_wp2_with fail
  go_ret2
  exact ⟨rfl, Upd.refl _ _⟩

set_option maxRecDepth 100000 in
theorem all_nil (lv : Value) (w : World) : Calls Try.prog 22 #[.pointer none, lv] w fun e w' => e = .returned (.tuple #[.int .u32 0, .int .i64 10]) ∧ Upd [] w w' := by
  go_enter Try.func22, Try.ntmps22
  go_wp2_with fail
  refine (fold_nil lv 8 true _).mono ?_
  rintro e w1 ⟨rfl, hu⟩
  have HU := Lib.hid hu
  clear hu
  go_wp2_with fail
  go_ret2
  exact ⟨rfl, HU.out⟩

set_option maxRecDepth 100000 in
theorem any_nil (lv : Value) (w : World) : Calls Try.prog 23 #[.pointer none, lv] w fun e w' => e = .returned (.tuple #[.int .u32 0, .int .i64 10]) ∧ Upd [] w w' := by
  go_enter Try.func23, Try.ntmps23
  go_wp2_with fail
  refine (fold_nil lv 14 false _).mono ?_
  rintro e w1 ⟨rfl, hu⟩
  have HU := Lib.hid hu
  clear hu
  go_wp2_with fail
  go_ret2
  exact ⟨rfl, HU.out⟩

set_option maxRecDepth 100000 in
set_option maxHeartbeats 1600000 in
/-- The first example answers true. -/
theorem awake10_spec (w : World) : Calls Try.prog 5 #[] w fun e w' => e = .returned (.bool true) ∧ Upd [] w w' := by
  go_enter Try.func5, Try.ntmps5
  go_wp2_with fail
  refine (knew_spec 3 20 w (by omega) (by omega) (by omega) (by omega)).mono ?_
  rintro e w1 ⟨b, T, q, rfl, hk, hu, hs⟩
  have H1 := Lib.hid (And.intro hk (And.intro hu hs))
  clear hk hu hs
  go_wp2_with fail
  refine (var_live b 0 _ T q w1 H1.out.1).mono ?_
  rintro e w2 hE
  obtain ⟨r1, c1, K1, T1, q1, rfl, M1, hk, hu, hs⟩ := hE.ex
  have H2 := Lib.hid (And.intro M1 (And.intro hk (And.intro (H1.out.2.1.then hu fun x hx => (H1.out.2.2 x hx)) (sub_trans H1.out.2.2 hs H1.out.2.1.size))))
  clear hE M1 hk hu hs
  go_wp2_with fail
  refine (var_live b 1 _ T1 q1 w2 H2.out.2.1).mono ?_
  rintro e w3 hE
  obtain ⟨r2, c2, K2, T2, q2, rfl, M2, hk, hu, hs⟩ := hE.ex
  obtain ⟨rfl, rfl, hT⟩ := two_vars (by omega) (by omega) (by omega) (by omega) H2.out.2.1.ok (H2.out.2.1.ti.uni H2.out.2.1.ok.wf) hk.ok (hk.ti.uni hk.ok.wf) H2.out.1 M2
  have H3 := Lib.hid (And.intro hT (And.intro hk (And.intro (H2.out.2.2.1.then hu fun x hx => (H2.out.2.2.2 x hx)) (sub_trans H2.out.2.2.2 hs H2.out.2.2.1.size))))
  clear hE M2 hk hu hs hT
  go_wp2_with fail
  refine (and_live b r1 r2 K2 T2 q2 w3 H3.out.2.1 ((H3.out.1.tk r1).2 (by simp)) ((H3.out.1.tk r2).2 (by simp))).mono ?_
  rintro e w4 hE
  obtain ⟨f, c3, K3, T3, q3, rfl, O3, hk, hu, hs⟩ := hE.ex
  obtain ⟨rfl, hN⟩ := H3.out.1.and (by omega) (by omega) hk.ok (hk.ti.uni hk.ok.wf) O3
  have H4 := Lib.hid (And.intro hN (And.intro hk (And.intro (H3.out.2.2.1.then hu fun x hx => (H3.out.2.2.2 x hx)) (sub_trans H3.out.2.2.2 hs H3.out.2.2.1.size))))
  clear hE O3 hk hu hs hN
  go_wp2_with fail
  refine (xor_live b f f K3 T3 q3 w4 H4.out.2.1 ((H4.out.1.tk f).2 (by simp)) ((H4.out.1.tk f).2 (by simp))).mono ?_
  rintro e w5 hE
  obtain ⟨g, c4, K4, T4, q4, rfl, O4, hk, hu, hs⟩ := hE.ex
  obtain ⟨rfl, rfl, hN⟩ := H4.out.1.xor hk.ok (hk.ti.uni hk.ok.wf) O4
  have H5 := Lib.hid (And.intro hN (And.intro hk (And.intro (H4.out.2.2.1.then hu fun x hx => (H4.out.2.2.2 x hx)) (sub_trans H4.out.2.2.2 hs H4.out.2.2.1.size))))
  clear hE O4 hk hu hs hN
  go_wp2_with fail
  refine (ite_live b r1 r2 0 K4 T4 q4 w5 H5.out.2.1 ((H5.out.1.tk r1).2 (by simp)) ((H5.out.1.tk r2).2 (by simp)) ((H5.out.1.tk 0).2 (by simp))).mono ?_
  rintro e w6 hE
  obtain ⟨h, c5, K5, T5, q5, rfl, O5, hk, hu, hs⟩ := hE.ex
  obtain ⟨rfl, rfl, hus, hho⟩ := H5.out.1.ite hk.ok (hk.ti.uni hk.ok.wf) O5
  have hf2 := H5.out.1.f2
  have hf32 := hk.ok.ref_lt (hk.ok.wf.ht h (by omega)).2
  have H6 := Lib.hid (And.intro hus (And.intro hho (And.intro hk (H5.out.2.2.1.then hu fun x hx => (H5.out.2.2.2 x hx)))))
  clear hE O5 hk hu hs hus hho
  have hgt : (1 : Int) < (h : Int) := by omega
  have hhl : K5.holds.length ≤ 1048576 := by
    have h1 := H6.out.2.2.1.ok.wf.len
    have h2 := H6.out.2.2.1.ok.wf.ul
    have h3 := H6.out.2.2.1.ok.wf.ok.lp
    have h4 := H6.out.2.2.1.ok.wf.ok.pm
    omega
  go_wp2_with fail
  refine (held_spec b h K5 T5 q5 w6 H6.out.2.2.1.mem hhl (by rw [H6.out.2.1]; omega) (by omega)).mono ?_
  rintro e w7 ⟨rfl, rfl⟩
  rw [H6.out.2.1]
  go_wp2_with fail
  refine (live_count b K5 T5 q5 _ H6.out.2.2.1.mem).mono ?_
  rintro e w8 ⟨rfl, rfl⟩
  rw [H6.out.1]
  go_wp2_with fail
  go_ret
  exact ⟨rfl, H6.out.2.2.2⟩
end Go.Proofs.Ytnenhecnkidnpaa
